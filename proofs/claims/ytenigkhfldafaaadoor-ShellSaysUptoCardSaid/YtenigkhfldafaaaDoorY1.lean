import Derived.Test.YtenigkhfldafaaaDoorY0
import Derived.IntWalk
namespace Go.Proofs.YtenigkhfldafaaaDoor.A
open Go.RowKit Go.Proofs.YtenigkhfldafaaaDoorW.PrintWords Go.Proofs.YtenigkhfldafaaaDoorW.PrintLast Go.Proofs.YtenigkhfldafaaaDoorW.PrintMore
theorem act_new (w : World) : ActAt w.heap.size w.heap.size z31 (.slice none 0 0) (w.alloc (Obj.cells #[Value.int IntKind.i64 0, Value.int IntKind.i64 0, Value.int IntKind.i64 0, Value.int IntKind.i64 0, Value.string ⟨#[]⟩, Value.string ⟨#[]⟩, Value.string ⟨#[]⟩, Value.slice none 0 0] 31)) :=
 ⟨heap_alloc_new w _, Kd.R_nil _ _ _ _ _, Nat.le_refl _⟩
theorem below_new (w : World) (o : Obj) : Below w.heap.size w (w.alloc o) := (Below.refl _ _).alloc (Nat.le_refl _) o
theorem act_zero {B g : Nat} {W : World} (h : ActAt B g z31 (.slice none 0 0) W) : ActAt B g z31 (.slice none 0 0) ((((((((W.setCell ⟨g, 0, none⟩ (.int .i64 0)).setCell ⟨g, 1, none⟩ (.int .i64 0)).setCell ⟨g, 2, none⟩ (.int .i64 0)).setCell ⟨g, 3, none⟩ (.int .i64 0)).setCell ⟨g, 4, none⟩ (.string ⟨#[]⟩)).setCell ⟨g, 5, none⟩ (.string ⟨#[]⟩)).setCell ⟨g, 6, none⟩ (.string ⟨#[]⟩)).setCell ⟨g, 7, none⟩ (.slice none 0 0)) :=
 (((((((h.put (a' := z31) 0 _ rfl rfl).put (a' := z31) 1 _ rfl rfl).put (a' := z31) 2 _ rfl rfl).put (a' := z31) 3 _ rfl rfl).put (a' := z31) 4 _ rfl rfl).put (a' := z31) 5 _ rfl rfl).put (a' := z31) 6 _ rfl rfl).put (a' := z31) 7 _ rfl rfl
theorem ActAt.drew {B g : Nat} {a : S31} {kv : Value} {w : World} (h : ActAt B g a kv w) : ActAt B g a kv w.drew := ⟨h.at_, Kd.R_drew h.own, h.le⟩
theorem SetK.drew {B g : Nat} {w w' : World} (h : SetK B g w.drew w') : SetK B g w w' := ⟨h.keep, (Below.refl B w).drew.trans h.below⟩
theorem actR_inj {a b : S31} {e f : Int} (h : actR a e = actR b f) : a = b ∧ e = f := by
 obtain ⟨a0, a1, a2, a3, a4, a5, a6, a7⟩ := a
 obtain ⟨b0, b1, b2, b3, b4, b5, b6, b7⟩ := b
 simp only [actR, Prod.mk.injEq] at h
 obtain ⟨rfl, rfl, rfl, rfl, rfl, rfl, rfl, rfl, rfl⟩ := h
 exact ⟨rfl, rfl⟩
theorem rowFar {B g j : Nat} {W : World} {kv u : Value} {cs : Array Value} {l : List Bool} (h : Kd.R Kd.bool 4 W B (fun _ => True) kv l) (hg : W.heap[g]? = some (.cells cs 31 (0, 0))) :
  Kd.R Kd.bool 4 (W.setCell ⟨g, j, none⟩ u) B (fun _ => True) kv l :=
 Kd.R_mono (Kd.R_far (p := ⟨g, j, none⟩) (Kd.R_types h hg (by decide)) (fun _ hk => hk.2) u) (fun _ _ => trivial)
theorem act_copy {B g : Nat} {W : World} {a : S31} {kv : Value} (h : ActAt B g z31 (.slice none 0 0) W) (hr : Kd.R Kd.bool 4 W B (fun _ => True) kv a.f7) :
  ActAt B g a kv ((((((((W.setCell ⟨g, 0, none⟩ (.int .i64 a.f0)).setCell ⟨g, 1, none⟩ (.int .i64 a.f1)).setCell ⟨g, 2, none⟩ (.int .i64 a.f2)).setCell ⟨g, 3, none⟩ (.int .i64 a.f3)).setCell ⟨g, 4, none⟩ (.string a.f4)).setCell ⟨g, 5, none⟩ (.string a.f5)).setCell ⟨g, 6, none⟩ (.string a.f6)).setCell ⟨g, 7, none⟩ kv) := by
 have h0 := h.put (a' := {z31 with f0 := a.f0}) 0 (.int .i64 a.f0) rfl rfl
 have h1 := h0.put (a' := {z31 with f0 := a.f0, f1 := a.f1}) 1 (.int .i64 a.f1) rfl rfl
 have h2 := h1.put (a' := {z31 with f0 := a.f0, f1 := a.f1, f2 := a.f2}) 2 (.int .i64 a.f2) rfl rfl
 have h3 := h2.put (a' := {z31 with f0 := a.f0, f1 := a.f1, f2 := a.f2, f3 := a.f3}) 3 (.int .i64 a.f3) rfl rfl
 have h4 := h3.put (a' := {z31 with f0 := a.f0, f1 := a.f1, f2 := a.f2, f3 := a.f3, f4 := a.f4}) 4 (.string a.f4) rfl rfl
 have h5 := h4.put (a' := {z31 with f0 := a.f0, f1 := a.f1, f2 := a.f2, f3 := a.f3, f4 := a.f4, f5 := a.f5}) 5 (.string a.f5) rfl rfl
 have h6 := h5.put (a' := {z31 with f0 := a.f0, f1 := a.f1, f2 := a.f2, f3 := a.f3, f4 := a.f4, f5 := a.f5, f6 := a.f6}) 6 (.string a.f6) rfl rfl
 exact h6.row (rowFar (rowFar (rowFar (rowFar (rowFar (rowFar (rowFar hr h.at_) h0.at_) h1.at_) h2.at_) h3.at_) h4.at_) h5.at_)
theorem below_8 {B g : Nat} {w W : World} (h : Below B w W) (hg : B ≤ g) (v0 v1 v2 v3 v4 v5 v6 v7 : Value) : Below B w ((((((((W.setCell ⟨g, 0, none⟩ v0).setCell ⟨g, 1, none⟩ v1).setCell ⟨g, 2, none⟩ v2).setCell ⟨g, 3, none⟩ v3).setCell ⟨g, 4, none⟩ v4).setCell ⟨g, 5, none⟩ v5).setCell ⟨g, 6, none⟩ v6).setCell ⟨g, 7, none⟩ v7) :=
 (((((((h.setCell hg _).setCell hg _).setCell hg _).setCell hg _).setCell hg _).setCell hg _).setCell hg _).setCell hg _
theorem ActAt.keep {B g g' : Nat} {W W' : World} (h : ActAt B g z31 (.slice none 0 0) W) (hk : KeepBut W W' g' none) (hg : g ≠ g') : ActAt B g z31 (.slice none 0 0) W' :=
 ⟨hk.blk h.at_ hg (by simp), Kd.R_nil _ _ _ _ _, h.le⟩
theorem below_zero {B g : Nat} {w W : World} (h : Below B w W) (hg : B ≤ g) : Below B w ((((((((W.setCell ⟨g, 0, none⟩ (.int .i64 0)).setCell ⟨g, 1, none⟩ (.int .i64 0)).setCell ⟨g, 2, none⟩ (.int .i64 0)).setCell ⟨g, 3, none⟩ (.int .i64 0)).setCell ⟨g, 4, none⟩ (.string ⟨#[]⟩)).setCell ⟨g, 5, none⟩ (.string ⟨#[]⟩)).setCell ⟨g, 6, none⟩ (.string ⟨#[]⟩)).setCell ⟨g, 7, none⟩ (.slice none 0 0)) :=
 (((((((h.setCell hg _).setCell hg _).setCell hg _).setCell hg _).setCell hg _).setCell hg _).setCell hg _).setCell hg _
theorem cell_keep {w w' : World} {p : Addr} {v : Value} (h : w.cell? p = some v) (hb : Below w.heap.size w w') : w'.cell? p = some v :=
 (hb.cell (World.block_lt_of_cell? _ _ h)).trans h
set_option maxHeartbeats 4000000 in
theorem act_noform (k : Nat) (ad : Addr) (c0 : Nat) (x : S88) (xs : List S88) (kind : Int) (needs : ByteArray) (ok : Bool) (w : World)
  (hr0 : Kd.C k88 w (some ad) (x :: xs).length (x :: xs)) (hf : shell_formed.f k x.f1 = some (kind, needs, ok)) (hk : ok = false) :
  Calls Tryd.prog 28 #[.slice (some ad) (x :: xs).length c0] w fun e w' => ∃ v0_ : Value,
   e = .returned (.tuple #[.agg #[.int .i64 z31.f0, .int .i64 z31.f1, .int .i64 z31.f2, .int .i64 z31.f3, .string z31.f4, .string z31.f5, .string z31.f6, v0_], .int .i64 1]) ∧
    Kd.R Kd.bool 4 w' w.heap.size (fun _ => True) v0_ z31.f7 ∧ Below w.heap.size w w' := by
 have HC := Aside0.mk hr0
 obtain ⟨ad', e0, hz0, hz1, hz2⟩ := at_T88 (Kd.C_alloc hr0 (Obj.cells #[Value.int IntKind.i64 0, Value.int IntKind.i64 0, Value.int IntKind.i64 0, Value.int IntKind.i64 0, Value.string ⟨#[]⟩, Value.string ⟨#[]⟩, Value.string ⟨#[]⟩, Value.slice none 0 0] 31)) 0 (by omega) (by simp)
 obtain rfl := Option.some.inj e0
 have HF := Aside0.mk hf
 clear hf hr0 e0
 simp only [rd_T88, Int.toNat_zero, List.getD_cons_zero, Nat.zero_mul, (show ad.add 0 = ad from rfl)] at hz0 hz1 hz2
 have HZ := Aside0.mk (act_new w)
 subst hk
 go_enter Tryd.func28, Tryd.ntmps28
 go_wp2_with (go_at_call 49; refine (shell_formed.calls k x.f1 kind needs false _ HF.out).mono ?_; rintro e w1 ⟨rfl, hd⟩; have HD := Aside0.mk (hd.alloc hd.size (Obj.cells #[Value.int IntKind.i64 kind, Value.string needs] 92)); have HB2 := Aside0.mk ((below_new w _).trans (HD.out.mono (below_new w _).size)); have HG := Aside0.mk (heap_alloc_new w1 (Obj.cells #[Value.int IntKind.i64 kind, Value.string needs] 92)); have HZ1 := Aside0.mk (HZ.out.below HD.out); have z0 := (HZ1.out.cell 0).trans (rfl : _ = some (Value.int .i64 0)); have z1 := (HZ1.out.cell 1).trans (rfl : _ = some (Value.int .i64 0)); have z2 := (HZ1.out.cell 2).trans (rfl : _ = some (Value.int .i64 0)); have z3 := (HZ1.out.cell 3).trans (rfl : _ = some (Value.int .i64 0)); have z4 := (HZ1.out.cell 4).trans (rfl : _ = some (Value.string ⟨#[]⟩)); have z5 := (HZ1.out.cell 5).trans (rfl : _ = some (Value.string ⟨#[]⟩)); have z6 := (HZ1.out.cell 6).trans (rfl : _ = some (Value.string ⟨#[]⟩)); have z7 := (HZ1.out.cell 7).trans (rfl : _ = some (Value.slice none 0 0)); have y0 := HZ1.out.froz 0; have y1 := HZ1.out.froz 1; have y2 := HZ1.out.froz 2; have y3 := HZ1.out.froz 3; have y4 := HZ1.out.froz 4; have y5 := HZ1.out.froz 5; have y6 := HZ1.out.froz 6; have y7 := HZ1.out.froz 7; have hx0 := (cell_keep hz0 HD.out); have g0 := (blk_cell HG.out 0).trans (rfl : _ = some (Value.int .i64 kind)); have g1 := (blk_cell HG.out 1).trans (rfl : _ = some (Value.string needs)))
 (try simp only [Exit.inBlock, Exit.then])
 have HE := act_zero HZ1.out
 refine bodyPost_ret (results_ct rfl _ _ w.heap.size 31 (actCells z31 (.slice none 0 0)) (0, 0) _ rfl HE.at_ Tryd.underlying31 rfl (by kernel_rfl)) rfl ?_
 exact ⟨_, rfl, HE.own, below_zero HB2.out (Nat.le_refl _)⟩
set_option maxHeartbeats 4000000 in
theorem act_nobare (k : Nat) (ad : Addr) (c0 : Nat) (x : S88) (xs : List S88) (kind : Int) (needs : ByteArray) (ok : Bool) (w : World)
  (hr0 : Kd.C k88 w (some ad) (x :: xs).length (x :: xs)) (hf : shell_formed.f k x.f1 = some (kind, needs, ok)) (hk : ok = true) (hx : ¬ x.f0 = 0) :
  Calls Tryd.prog 28 #[.slice (some ad) (x :: xs).length c0] w fun e w' => ∃ v0_ : Value,
   e = .returned (.tuple #[.agg #[.int .i64 z31.f0, .int .i64 z31.f1, .int .i64 z31.f2, .int .i64 z31.f3, .string z31.f4, .string z31.f5, .string z31.f6, v0_], .int .i64 1]) ∧
    Kd.R Kd.bool 4 w' w.heap.size (fun _ => True) v0_ z31.f7 ∧ Below w.heap.size w w' := by
 have HC := Aside0.mk hr0
 obtain ⟨ad', e0, hz0, hz1, hz2⟩ := at_T88 (Kd.C_alloc hr0 (Obj.cells #[Value.int IntKind.i64 0, Value.int IntKind.i64 0, Value.int IntKind.i64 0, Value.int IntKind.i64 0, Value.string ⟨#[]⟩, Value.string ⟨#[]⟩, Value.string ⟨#[]⟩, Value.slice none 0 0] 31)) 0 (by omega) (by simp)
 obtain rfl := Option.some.inj e0
 have HF := Aside0.mk hf
 clear hf hr0 e0
 simp only [rd_T88, Int.toNat_zero, List.getD_cons_zero, Nat.zero_mul, (show ad.add 0 = ad from rfl)] at hz0 hz1 hz2
 have HZ := Aside0.mk (act_new w)
 subst hk
 have hx1 : (x.f0 != 0) = true := bne_iff_ne.2 hx
 go_enter Tryd.func28, Tryd.ntmps28
 go_wp2_with (go_at_call 49; refine (shell_formed.calls k x.f1 kind needs true _ HF.out).mono ?_; rintro e w1 ⟨rfl, hd⟩; have HD := Aside0.mk (hd.alloc hd.size (Obj.cells #[Value.int IntKind.i64 kind, Value.string needs] 92)); have HB2 := Aside0.mk ((below_new w _).trans (HD.out.mono (below_new w _).size)); have HG := Aside0.mk (heap_alloc_new w1 (Obj.cells #[Value.int IntKind.i64 kind, Value.string needs] 92)); have HZ1 := Aside0.mk (HZ.out.below HD.out); have z0 := (HZ1.out.cell 0).trans (rfl : _ = some (Value.int .i64 0)); have z1 := (HZ1.out.cell 1).trans (rfl : _ = some (Value.int .i64 0)); have z2 := (HZ1.out.cell 2).trans (rfl : _ = some (Value.int .i64 0)); have z3 := (HZ1.out.cell 3).trans (rfl : _ = some (Value.int .i64 0)); have z4 := (HZ1.out.cell 4).trans (rfl : _ = some (Value.string ⟨#[]⟩)); have z5 := (HZ1.out.cell 5).trans (rfl : _ = some (Value.string ⟨#[]⟩)); have z6 := (HZ1.out.cell 6).trans (rfl : _ = some (Value.string ⟨#[]⟩)); have z7 := (HZ1.out.cell 7).trans (rfl : _ = some (Value.slice none 0 0)); have y0 := HZ1.out.froz 0; have y1 := HZ1.out.froz 1; have y2 := HZ1.out.froz 2; have y3 := HZ1.out.froz 3; have y4 := HZ1.out.froz 4; have y5 := HZ1.out.froz 5; have y6 := HZ1.out.froz 6; have y7 := HZ1.out.froz 7; have hx0 := (cell_keep hz0 HD.out); have g0 := (blk_cell HG.out 0).trans (rfl : _ = some (Value.int .i64 kind)); have g1 := (blk_cell HG.out 1).trans (rfl : _ = some (Value.string needs)))
 (try simp only [Exit.inBlock, Exit.then])
 have HE := act_zero HZ1.out
 refine bodyPost_ret (results_ct rfl _ _ w.heap.size 31 (actCells z31 (.slice none 0 0)) (0, 0) _ rfl HE.at_ Tryd.underlying31 rfl (by kernel_rfl)) rfl ?_
 exact ⟨_, rfl, HE.own, below_zero HB2.out (Nat.le_refl _)⟩
set_option maxHeartbeats 4000000 in
theorem act_short (k : Nat) (ad : Addr) (c0 : Nat) (x : S88) (xs : List S88) (kind : Int) (needs : ByteArray) (ok : Bool) (w : World)
  (hr0 : Kd.C k88 w (some ad) (x :: xs).length (x :: xs)) (hf : shell_formed.f k x.f1 = some (kind, needs, ok)) (hk : ok = true) (hx : x.f0 = 0) (hl : xs.length < needs.size) :
  Calls Tryd.prog 28 #[.slice (some ad) (x :: xs).length c0] w fun e w' => ∃ v0_ : Value,
   e = .returned (.tuple #[.agg #[.int .i64 z31.f0, .int .i64 z31.f1, .int .i64 z31.f2, .int .i64 z31.f3, .string z31.f4, .string z31.f5, .string z31.f6, v0_], .int .i64 3]) ∧
    Kd.R Kd.bool 4 w' w.heap.size (fun _ => True) v0_ z31.f7 ∧ Below w.heap.size w w' := by
 have HC := Aside0.mk hr0
 obtain ⟨ad', e0, hz0, hz1, hz2⟩ := at_T88 (Kd.C_alloc hr0 (Obj.cells #[Value.int IntKind.i64 0, Value.int IntKind.i64 0, Value.int IntKind.i64 0, Value.int IntKind.i64 0, Value.string ⟨#[]⟩, Value.string ⟨#[]⟩, Value.string ⟨#[]⟩, Value.slice none 0 0] 31)) 0 (by omega) (by simp)
 obtain rfl := Option.some.inj e0
 have HF := Aside0.mk hf
 clear hf hr0 e0
 simp only [rd_T88, Int.toNat_zero, List.getD_cons_zero, Nat.zero_mul, (show ad.add 0 = ad from rfl)] at hz0 hz1 hz2
 have HZ := Aside0.mk (act_new w)
 subst hk
 have hx1 : (x.f0 != 0) = false := bne_eq_false_iff_eq.2 hx
 have hwr : wrap64 (xs.length : Int) = xs.length := by have := HC.out.2.1; simp only [List.length_cons] at this; unfold wrap64; omega
 have hd1 : decide ((xs.length : Int) < needs.size) = true := decide_eq_true (by omega)
 go_enter Tryd.func28, Tryd.ntmps28
 go_wp2_with (go_at_call 49; refine (shell_formed.calls k x.f1 kind needs true _ HF.out).mono ?_; rintro e w1 ⟨rfl, hd⟩; have HD := Aside0.mk (hd.alloc hd.size (Obj.cells #[Value.int IntKind.i64 kind, Value.string needs] 92)); have HB2 := Aside0.mk ((below_new w _).trans (HD.out.mono (below_new w _).size)); have HG := Aside0.mk (heap_alloc_new w1 (Obj.cells #[Value.int IntKind.i64 kind, Value.string needs] 92)); have HZ1 := Aside0.mk (HZ.out.below HD.out); have z0 := (HZ1.out.cell 0).trans (rfl : _ = some (Value.int .i64 0)); have z1 := (HZ1.out.cell 1).trans (rfl : _ = some (Value.int .i64 0)); have z2 := (HZ1.out.cell 2).trans (rfl : _ = some (Value.int .i64 0)); have z3 := (HZ1.out.cell 3).trans (rfl : _ = some (Value.int .i64 0)); have z4 := (HZ1.out.cell 4).trans (rfl : _ = some (Value.string ⟨#[]⟩)); have z5 := (HZ1.out.cell 5).trans (rfl : _ = some (Value.string ⟨#[]⟩)); have z6 := (HZ1.out.cell 6).trans (rfl : _ = some (Value.string ⟨#[]⟩)); have z7 := (HZ1.out.cell 7).trans (rfl : _ = some (Value.slice none 0 0)); have y0 := HZ1.out.froz 0; have y1 := HZ1.out.froz 1; have y2 := HZ1.out.froz 2; have y3 := HZ1.out.froz 3; have y4 := HZ1.out.froz 4; have y5 := HZ1.out.froz 5; have y6 := HZ1.out.froz 6; have y7 := HZ1.out.froz 7; have hx0 := (cell_keep hz0 HD.out); have g0 := (blk_cell HG.out 0).trans (rfl : _ = some (Value.int .i64 kind)); have g1 := (blk_cell HG.out 1).trans (rfl : _ = some (Value.string needs)))
 (try simp only [Exit.inBlock, Exit.then])
 have HE := act_zero HZ1.out
 refine bodyPost_ret (results_ct rfl _ _ w.heap.size 31 (actCells z31 (.slice none 0 0)) (0, 0) _ rfl HE.at_ Tryd.underlying31 rfl (by kernel_rfl)) rfl ?_
 exact ⟨_, rfl, HE.own, below_zero HB2.out (Nat.le_refl _)⟩
set_option maxHeartbeats 4000000 in
theorem act_long (k : Nat) (ad : Addr) (c0 : Nat) (x : S88) (xs : List S88) (kind : Int) (needs : ByteArray) (ok : Bool) (w : World)
  (hr0 : Kd.C k88 w (some ad) (x :: xs).length (x :: xs)) (hf : shell_formed.f k x.f1 = some (kind, needs, ok)) (hk : ok = true) (hx : x.f0 = 0) (hl : needs.size < xs.length) :
  Calls Tryd.prog 28 #[.slice (some ad) (x :: xs).length c0] w fun e w' => ∃ v0_ : Value,
   e = .returned (.tuple #[.agg #[.int .i64 z31.f0, .int .i64 z31.f1, .int .i64 z31.f2, .int .i64 z31.f3, .string z31.f4, .string z31.f5, .string z31.f6, v0_], .int .i64 4]) ∧
    Kd.R Kd.bool 4 w' w.heap.size (fun _ => True) v0_ z31.f7 ∧ Below w.heap.size w w' := by
 have HC := Aside0.mk hr0
 obtain ⟨ad', e0, hz0, hz1, hz2⟩ := at_T88 (Kd.C_alloc hr0 (Obj.cells #[Value.int IntKind.i64 0, Value.int IntKind.i64 0, Value.int IntKind.i64 0, Value.int IntKind.i64 0, Value.string ⟨#[]⟩, Value.string ⟨#[]⟩, Value.string ⟨#[]⟩, Value.slice none 0 0] 31)) 0 (by omega) (by simp)
 obtain rfl := Option.some.inj e0
 have HF := Aside0.mk hf
 clear hf hr0 e0
 simp only [rd_T88, Int.toNat_zero, List.getD_cons_zero, Nat.zero_mul, (show ad.add 0 = ad from rfl)] at hz0 hz1 hz2
 have HZ := Aside0.mk (act_new w)
 subst hk
 have hx1 : (x.f0 != 0) = false := bne_eq_false_iff_eq.2 hx
 have hwr : wrap64 (xs.length : Int) = xs.length := by have := HC.out.2.1; simp only [List.length_cons] at this; unfold wrap64; omega
 have hd1 : decide ((xs.length : Int) < needs.size) = false := decide_eq_false (by omega)
 have hd2 : decide ((needs.size : Int) < xs.length) = true := decide_eq_true (by omega)
 go_enter Tryd.func28, Tryd.ntmps28
 go_wp2_with (go_at_call 49; refine (shell_formed.calls k x.f1 kind needs true _ HF.out).mono ?_; rintro e w1 ⟨rfl, hd⟩; have HD := Aside0.mk (hd.alloc hd.size (Obj.cells #[Value.int IntKind.i64 kind, Value.string needs] 92)); have HB2 := Aside0.mk ((below_new w _).trans (HD.out.mono (below_new w _).size)); have HG := Aside0.mk (heap_alloc_new w1 (Obj.cells #[Value.int IntKind.i64 kind, Value.string needs] 92)); have HZ1 := Aside0.mk (HZ.out.below HD.out); have z0 := (HZ1.out.cell 0).trans (rfl : _ = some (Value.int .i64 0)); have z1 := (HZ1.out.cell 1).trans (rfl : _ = some (Value.int .i64 0)); have z2 := (HZ1.out.cell 2).trans (rfl : _ = some (Value.int .i64 0)); have z3 := (HZ1.out.cell 3).trans (rfl : _ = some (Value.int .i64 0)); have z4 := (HZ1.out.cell 4).trans (rfl : _ = some (Value.string ⟨#[]⟩)); have z5 := (HZ1.out.cell 5).trans (rfl : _ = some (Value.string ⟨#[]⟩)); have z6 := (HZ1.out.cell 6).trans (rfl : _ = some (Value.string ⟨#[]⟩)); have z7 := (HZ1.out.cell 7).trans (rfl : _ = some (Value.slice none 0 0)); have y0 := HZ1.out.froz 0; have y1 := HZ1.out.froz 1; have y2 := HZ1.out.froz 2; have y3 := HZ1.out.froz 3; have y4 := HZ1.out.froz 4; have y5 := HZ1.out.froz 5; have y6 := HZ1.out.froz 6; have y7 := HZ1.out.froz 7; have hx0 := (cell_keep hz0 HD.out); have g0 := (blk_cell HG.out 0).trans (rfl : _ = some (Value.int .i64 kind)); have g1 := (blk_cell HG.out 1).trans (rfl : _ = some (Value.string needs)))
 (try simp only [Exit.inBlock, Exit.then])
 have HE := act_zero HZ1.out
 refine bodyPost_ret (results_ct rfl _ _ w.heap.size 31 (actCells z31 (.slice none 0 0)) (0, 0) _ rfl HE.at_ Tryd.underlying31 rfl (by kernel_rfl)) rfl ?_
 exact ⟨_, rfl, HE.own, below_zero HB2.out (Nat.le_refl _)⟩
set_option maxHeartbeats 4000000 in
theorem act_full (k : Nat) (ad : Addr) (c0 : Nat) (x : S88) (xs : List S88) (kind : Int) (needs : ByteArray) (ok : Bool) (w : World)
  (hr0 : Kd.C k88 w (some ad) (x :: xs).length (x :: xs)) (hf : shell_formed.f k x.f1 = some (kind, needs, ok)) (hk : ok = true) (hx : x.f0 = 0) (hl : needs.size = xs.length) (h8 : needs.size ≤ 8) (r : S31) (er : Int) (hr : actL k needs.toList xs {z31 with f0 := kind} = some (actR r er)) :
  Calls Tryd.prog 28 #[.slice (some ad) (x :: xs).length c0] w fun e w' => ∃ v0_ : Value,
   e = .returned (.tuple #[.agg #[.int .i64 r.f0, .int .i64 r.f1, .int .i64 r.f2, .int .i64 r.f3, .string r.f4, .string r.f5, .string r.f6, v0_], .int .i64 er]) ∧
    Kd.R Kd.bool 4 w' w.heap.size (fun _ => True) v0_ r.f7 ∧ Below w.heap.size w w' := by
 have HC := Aside0.mk hr0
 obtain ⟨ad', e0, hz0, hz1, hz2⟩ := at_T88 (Kd.C_alloc hr0 (Obj.cells #[Value.int IntKind.i64 0, Value.int IntKind.i64 0, Value.int IntKind.i64 0, Value.int IntKind.i64 0, Value.string ⟨#[]⟩, Value.string ⟨#[]⟩, Value.string ⟨#[]⟩, Value.slice none 0 0] 31)) 0 (by omega) (by simp)
 obtain rfl := Option.some.inj e0
 have HF := Aside0.mk hf
 clear hf hr0 e0
 simp only [rd_T88, Int.toNat_zero, List.getD_cons_zero, Nat.zero_mul, (show ad.add 0 = ad from rfl)] at hz0 hz1 hz2
 have HZ := Aside0.mk (act_new w)
 subst hk
 have hx1 : (x.f0 != 0) = false := bne_eq_false_iff_eq.2 hx
 have hwr : wrap64 (xs.length : Int) = xs.length := by have := HC.out.2.1; simp only [List.length_cons] at this; unfold wrap64; omega
 have hd1 : decide ((xs.length : Int) < needs.size) = false := decide_eq_false (by omega)
 have hd2 : decide ((needs.size : Int) < xs.length) = false := decide_eq_false (by omega)
 go_enter Tryd.func28, Tryd.ntmps28
 go_wp2_with (go_at_call 49; refine (shell_formed.calls k x.f1 kind needs true _ HF.out).mono ?_; rintro e w1 ⟨rfl, hd⟩; have HD := Aside0.mk (hd.alloc hd.size (Obj.cells #[Value.int IntKind.i64 kind, Value.string needs] 92)); have HB2 := Aside0.mk ((below_new w _).trans (HD.out.mono (below_new w _).size)); have HG := Aside0.mk (heap_alloc_new w1 (Obj.cells #[Value.int IntKind.i64 kind, Value.string needs] 92)); have HZ1 := Aside0.mk (HZ.out.below HD.out); have z0 := (HZ1.out.cell 0).trans (rfl : _ = some (Value.int .i64 0)); have z1 := (HZ1.out.cell 1).trans (rfl : _ = some (Value.int .i64 0)); have z2 := (HZ1.out.cell 2).trans (rfl : _ = some (Value.int .i64 0)); have z3 := (HZ1.out.cell 3).trans (rfl : _ = some (Value.int .i64 0)); have z4 := (HZ1.out.cell 4).trans (rfl : _ = some (Value.string ⟨#[]⟩)); have z5 := (HZ1.out.cell 5).trans (rfl : _ = some (Value.string ⟨#[]⟩)); have z6 := (HZ1.out.cell 6).trans (rfl : _ = some (Value.string ⟨#[]⟩)); have z7 := (HZ1.out.cell 7).trans (rfl : _ = some (Value.slice none 0 0)); have y0 := HZ1.out.froz 0; have y1 := HZ1.out.froz 1; have y2 := HZ1.out.froz 2; have y3 := HZ1.out.froz 3; have y4 := HZ1.out.froz 4; have y5 := HZ1.out.froz 5; have y6 := HZ1.out.froz 6; have y7 := HZ1.out.froz 7; have hx0 := (cell_keep hz0 HD.out); have g0 := (blk_cell HG.out 0).trans (rfl : _ = some (Value.int .i64 kind)); have g1 := (blk_cell HG.out 1).trans (rfl : _ = some (Value.string needs)))
 have hs : (w1.alloc (Obj.cells #[Value.int IntKind.i64 kind, Value.string needs] 92)).heap.size = w1.heap.size + 1 := by first | rfl | simp
 have A3 : ActAt w.heap.size (w1.heap.size + 1) {z31 with f0 := kind} (.slice none 0 0) ((w1.alloc (Obj.cells #[Value.int IntKind.i64 kind, Value.string needs] 92)).alloc (Obj.cells #[Value.int IntKind.i64 kind, Value.int IntKind.i64 0, Value.int IntKind.i64 0, Value.int IntKind.i64 0, Value.string ⟨#[]⟩, Value.string ⟨#[]⟩, Value.string ⟨#[]⟩, Value.slice none 0 0] 31)) := by
  rw [← hs]
  exact ⟨heap_alloc_new _ _, Kd.R_nil _ _ _ _ _, HB2.out.size⟩
 have A3' := Aside0.mk A3
 have HS0 := Aside0.mk hs
 have HW3 := Aside0.mk (below_new (w1.alloc (Obj.cells #[Value.int IntKind.i64 kind, Value.string needs] 92)) (Obj.cells #[Value.int IntKind.i64 kind, Value.int IntKind.i64 0, Value.int IntKind.i64 0, Value.int IntKind.i64 0, Value.string ⟨#[]⟩, Value.string ⟨#[]⟩, Value.string ⟨#[]⟩, Value.slice none 0 0] 31))
 have HN := Aside0.mk hr
 have hL : needs.size = xs.length := hl
 clear A3 hs hr z0 z1 z2 z3 z4 z5 z6 z7 y0 y1 y2 y3 y4 y5 y6 y7 g0 g1 hx0 hz0 hz1 hz2
 go_loopg [51] needs.size (fun k' p wr => ∃ (i : Nat) (a : S31) (kv : Value), p = .int .i64 (i : Int) ∧ i ≤ needs.size ∧ k' + i = needs.size ∧ Aside0 (ActAt w.heap.size (w1.heap.size + 1) a kv wr) ∧ Aside0 (SetK w.heap.size (w1.heap.size + 1) ((w1.alloc (Obj.cells #[Value.int IntKind.i64 kind, Value.string needs] 92)).alloc (Obj.cells #[Value.int IntKind.i64 kind, Value.int IntKind.i64 0, Value.int IntKind.i64 0, Value.int IntKind.i64 0, Value.string ⟨#[]⟩, Value.string ⟨#[]⟩, Value.string ⟨#[]⟩, Value.slice none 0 0] 31)) wr) ∧ Aside0 (actL k (needs.toList.drop i) (xs.drop i) a = some (actR r er)))
 case atStart => exact ⟨0, _, _, rfl, Nat.zero_le _, rfl, A3', ⟨SetK.refl _ _ _⟩, ⟨HN.out⟩⟩
 case round =>
  obtain ⟨i, a, kv, rfl, hi, hki, HA, HK, HS⟩ := hrel
  have HF2 := Aside0.mk (HK.out.keep.blk (blk_below HG.out HW3.out) (by omega) (by simp))
  have HZ2 := Aside0.mk ((HZ1.out.below HW3.out).keep HK.out.keep (by have := blk_lt HZ1.out.at_; have := HS0.out; have := (below_new w1 (Obj.cells #[Value.int IntKind.i64 kind, Value.string needs] 92)).size; omega))
  have HB3 := Aside0.mk ((HB2.out.trans (HW3.out.mono HB2.out.size)).trans HK.out.below)
  have g1 := (blk_cell HF2.out 1).trans (rfl : _ = some (Value.string needs))
  by_cases hlt : i < needs.size
  ·have hdi : decide ((i : Int) < needs.size) = true := decide_eq_true (by omega)
   obtain ⟨ad', e0, hz0, hz1, hz2⟩ := at_T88 (Kd.C_below HC.out (HB3.out.mono (Nat.le_refl _))) (1 + (i : Int)) (by omega) (by simp only [List.length_cons]; omega)
   obtain rfl := Option.some.inj e0
   clear e0
   have hlx : i < xs.length := by omega
   have hlb : i < needs.toList.length := by rw [ByteArray.toList_eq, Array.length_toList]; exact hlt
   have hat : needs.toList[i] = needs[i] := by
    have e : needs.toList = needs.data.toList := ByteArray.toList_eq needs
    simp only [e]
    rfl
   have HS1 := HS.out
   rw [List.drop_eq_getElem_cons hlb, List.drop_eq_getElem_cons hlx, hat] at HS1
   change (setF k a (needs[i].toNat : Int) xs[i]).bind _ = _ at HS1
   cases hset : setF k a (needs[i].toNat : Int) xs[i] with
   | none => rw [hset] at HS1; cases HS1
   | some b =>
   obtain ⟨a', b⟩ := b
   rw [hset] at HS1
   replace HS1 := Aside0.mk HS1
   have HSET := Aside0.mk hset
   clear hset hat
   simp only [rd_T88, show (1 + (i : Int)).toNat = i + 1 by omega] at hz0 hz1 hz2
   have hw1 : wrap64 (1 + (i : Int)) = 1 + (i : Int) := by unfold wrap64; omega
   have hi1 : (1 + (i : Int)) < (xs.length : Int) + 1 := by omega
   have hi2 : (0 : Int) ≤ 1 + (i : Int) := by omega
   have hw2 : IntKind.i64.wrap (1 + (i : Int)) = 1 + (i : Int) := by rw [IntKind.wrap_i64]; omega
   have hto : (1 + (i : Int)).toNat = i + 1 := by omega
   have HNE := Aside0.mk (show w.heap.size ≠ w1.heap.size + 1 by have := blk_lt HZ1.out.at_; have := HS0.out; omega)
   cases b
   case true =>
    replace HS1 : Aside0 (actL k (needs.toList.drop (i + 1)) (xs.drop (i + 1)) a' = some (actR r er)) := ⟨by have h_ := HS1.out; simp only [Option.bind_some, if_true] at h_; exact h_⟩
    go_wp2
    go_region_with (go_at_call 50; refine (set_all (w1.heap.size + 1) w.heap.size a a' kv (needs[i].toNat : Int) xs[i] k _ _ HA.out.drew HSET.out).mono ?_; rintro e w2 ⟨rfl, ⟨kv', hA2⟩, hK2⟩; have HA2 := Aside0.mk hA2; have HK2 := Aside0.mk (HK.out.trans hK2.drew); clear hA2 hK2)
    all_goals
     go_wp2
     cases gk with
     | zero => omega
     | succ gk =>
      go_roundg gk
      case measure => omega
      case rel => exact ⟨i + 1, a', kv', rfl, by omega, by omega, HA2, HK2, HS1⟩
   case false =>
    have h_ := HS1.out
    simp only [Option.bind_some, Bool.false_eq_true, if_false] at h_
    obtain ⟨rfl, rfl⟩ := actR_inj (Option.some.inj h_)
    clear h_ HS1
    go_wp2
    go_region_with (go_at_call 50; refine (set_all (w1.heap.size + 1) w.heap.size a a' kv (needs[i].toNat : Int) xs[i] k _ _ HA.out.drew HSET.out).mono ?_; rintro e w2 ⟨rfl, ⟨kv', hA2⟩, hK2⟩; have HZ3 := Aside0.mk (HZ2.out.keep hK2.drew.keep HNE.out); have HB4 := Aside0.mk (HB3.out.trans hK2.drew.below); clear hA2 hK2; have z0 := (HZ3.out.cell 0).trans (rfl : _ = some (Value.int .i64 0)); have y0 := HZ3.out.froz 0; have z1 := (HZ3.out.cell 1).trans (rfl : _ = some (Value.int .i64 0)); have y1 := HZ3.out.froz 1; have z2 := (HZ3.out.cell 2).trans (rfl : _ = some (Value.int .i64 0)); have y2 := HZ3.out.froz 2; have z3 := (HZ3.out.cell 3).trans (rfl : _ = some (Value.int .i64 0)); have y3 := HZ3.out.froz 3; have z4 := (HZ3.out.cell 4).trans (rfl : _ = some (Value.string ⟨#[]⟩)); have y4 := HZ3.out.froz 4; have z5 := (HZ3.out.cell 5).trans (rfl : _ = some (Value.string ⟨#[]⟩)); have y5 := HZ3.out.froz 5; have z6 := (HZ3.out.cell 6).trans (rfl : _ = some (Value.string ⟨#[]⟩)); have y6 := HZ3.out.froz 6; have z7 := (HZ3.out.cell 7).trans (rfl : _ = some (Value.slice none 0 0)); have y7 := HZ3.out.froz 7)
    all_goals
     go_wp2
     (try simp only [Exit.inBlock, Exit.then])
     have HE := act_zero HZ3.out
     refine bodyPost_ret (results_ct rfl _ _ w.heap.size 31 (actCells z31 (.slice none 0 0)) (0, 0) _ rfl HE.at_ Tryd.underlying31 rfl (by kernel_rfl)) rfl ?_
     exact ⟨_, rfl, HE.own, below_zero HB4.out (Nat.le_refl _)⟩
  ·obtain rfl : i = needs.size := by omega
   have hdi : decide ((needs.size : Int) < needs.size) = false := decide_eq_false (by omega)
   have HS1 := HS.out
   rw [List.drop_eq_nil_of_le (by rw [ByteArray.toList_eq, Array.length_toList]; exact Nat.le_refl _)] at HS1
   obtain ⟨rfl, rfl⟩ := actR_inj (Option.some.inj HS1)
   clear HS1
   obtain ⟨sA, sc, rfl⟩ := Kd.R_slice HA.out.own
   have c0 := (HA.out.cell 0).trans (rfl : _ = some (Value.int .i64 a.f0))
   have c1 := (HA.out.cell 1).trans (rfl : _ = some (Value.int .i64 a.f1))
   have c2 := (HA.out.cell 2).trans (rfl : _ = some (Value.int .i64 a.f2))
   have c3 := (HA.out.cell 3).trans (rfl : _ = some (Value.int .i64 a.f3))
   have c4 := (HA.out.cell 4).trans (rfl : _ = some (Value.string a.f4))
   have c5 := (HA.out.cell 5).trans (rfl : _ = some (Value.string a.f5))
   have c6 := (HA.out.cell 6).trans (rfl : _ = some (Value.string a.f6))
   have c7 := (HA.out.cell 7).trans (rfl : _ = some (Value.slice sA a.f7.length sc))
   have z0 := (HZ2.out.cell 0).trans (rfl : _ = some (Value.int .i64 0))
   have y0 := HZ2.out.froz 0
   have z1 := (HZ2.out.cell 1).trans (rfl : _ = some (Value.int .i64 0))
   have y1 := HZ2.out.froz 1
   have z2 := (HZ2.out.cell 2).trans (rfl : _ = some (Value.int .i64 0))
   have y2 := HZ2.out.froz 2
   have z3 := (HZ2.out.cell 3).trans (rfl : _ = some (Value.int .i64 0))
   have y3 := HZ2.out.froz 3
   have z4 := (HZ2.out.cell 4).trans (rfl : _ = some (Value.string ⟨#[]⟩))
   have y4 := HZ2.out.froz 4
   have z5 := (HZ2.out.cell 5).trans (rfl : _ = some (Value.string ⟨#[]⟩))
   have y5 := HZ2.out.froz 5
   have z6 := (HZ2.out.cell 6).trans (rfl : _ = some (Value.string ⟨#[]⟩))
   have y6 := HZ2.out.froz 6
   have z7 := (HZ2.out.cell 7).trans (rfl : _ = some (Value.slice none 0 0))
   have y7 := HZ2.out.froz 7
   go_wp2
   (try simp only [Exit.inBlock, Exit.then])
   have HE := act_copy HZ2.out HA.out.own
   refine bodyPost_ret (results_ct rfl _ _ w.heap.size 31 (actCells a (.slice sA a.f7.length sc)) (0, 0) _ rfl HE.at_ Tryd.underlying31 rfl (by kernel_rfl)) rfl ?_
   exact ⟨_, rfl, HE.own, below_8 HB3.out (Nat.le_refl _) _ _ _ _ _ _ _ _⟩
theorem shell_act.calls (k : Nat) (A0 : Option Addr) (c0 : Nat) (a0 : List S88) (r0 r1 r2 r3 : Int) (r4 r5 r6 : ByteArray) (r7 : List Bool) (r8 : Int) (w : World)
  (hr0 : Kd.C k88 w A0 a0.length a0) (_hc0 : a0.length ≤ c0) (h : shell_act.f k a0 = some (r0, r1, r2, r3, r4, r5, r6, r7, r8)) :
  Calls Tryd.prog 28 #[.slice A0 a0.length c0] w fun e w' => ∃ v0_ : Value,
   e = .returned (.tuple #[.agg #[.int .i64 r0, .int .i64 r1, .int .i64 r2, .int .i64 r3, .string r4, .string r5, .string r6, v0_], .int .i64 r8]) ∧
    Kd.R Kd.bool 4 w' w.heap.size (fun _ => True) v0_ r7 ∧ Below w.heap.size w w' := by
 cases a0 with
 | nil => cases h
 | cons x xs =>
 change (shell_formed.f k x.f1).bind _ = _ at h
 cases hf : shell_formed.f k x.f1 with
 | none => rw [hf] at h; cases h
 | some b =>
 obtain ⟨kind, needs, ok⟩ := b
 rw [hf] at h
 simp only [Option.bind_some] at h
 obtain ⟨ad, rfl, _⟩ := hr0.2.2 (by simp)
 split at h
 case isFalse hc =>
  injection h with h
  obtain ⟨e1, e2⟩ := actR_inj (a := z31) (b := ⟨r0, r1, r2, r3, r4, r5, r6, r7⟩) h
  cases e1
  subst e2
  cases ok with
  | false => exact act_noform k ad c0 x xs kind needs false w hr0 hf rfl
  | true => exact act_nobare k ad c0 x xs kind needs true w hr0 hf rfl (fun e => hc ⟨rfl, e⟩)
 case isTrue hc =>
 obtain ⟨rfl, hx⟩ := hc
 split at h
 case isTrue hl =>
  injection h with h
  obtain ⟨e1, e2⟩ := actR_inj (a := z31) (b := ⟨r0, r1, r2, r3, r4, r5, r6, r7⟩) h
  cases e1
  subst e2
  exact act_short k ad c0 x xs kind needs true w hr0 hf rfl hx hl
 case isFalse hl =>
 split at h
 case isTrue hl2 =>
  injection h with h
  obtain ⟨e1, e2⟩ := actR_inj (a := z31) (b := ⟨r0, r1, r2, r3, r4, r5, r6, r7⟩) h
  cases e1
  subst e2
  exact act_long k ad c0 x xs kind needs true w hr0 hf rfl hx hl2
 case isFalse hl2 =>
 split at h
 case isFalse => cases h
 case isTrue h8 =>
 exact act_full k ad c0 x xs kind needs true w hr0 hf rfl hx (by omega) h8 ⟨r0, r1, r2, r3, r4, r5, r6, r7⟩ r8 h
end Go.Proofs.YtenigkhfldafaaaDoor.A

/- shell.set and shell.act: a word put where it belongs; the step that words are. -/
import Derived.Test.YtenigkhfldafaaaDoorA1
namespace Go.Proofs.YtenigkhfldafaaaDoor.A
open Go.RowKit Go.Proofs.YtenigkhfldafaaaDoorW.PrintWords Go.Proofs.YtenigkhfldafaaaDoorW.PrintLast Go.Proofs.YtenigkhfldafaaaDoorW.PrintMore
def setF (k : Nat) (a : S31) (c : Int) (x : S88) : Option (S31 × Bool) :=
 if c = 112 then some (if x.f0 = 1 then (a, false) else ({a with f4 := x.f1}, true))
 else if c = 113 then some (if x.f0 = 1 then (a, false) else ({a with f5 := x.f1}, true))
 else if c = 116 then some (if x.f0 = 1 ∨ x.f0 = 0 then (a, false) else ({a with f6 := x.f1}, true))
 else if c = 107 then (shell_bits.f k x.f1).bind fun b => some ({a with f7 := b.1}, b.2 && !(x.f0 == 2))
 else if c = 102 then some (if x.f0 = 1 then ({a with f1 := x.f2}, true) else (a, false))
 else if c = 110 then some (if x.f0 = 1 then ({a with f2 := x.f2}, true) else (a, false))
 else if c = 109 then some (if x.f0 = 1 then ({a with f3 := x.f2}, true) else (a, false))
 else none
def actCells (a : S31) (kv : Value) : Array Value := #[.int .i64 a.f0, .int .i64 a.f1, .int .i64 a.f2, .int .i64 a.f3, .string a.f4, .string a.f5, .string a.f6, kv]
structure ActAt (B g : Nat) (a : S31) (kv : Value) (w : World) : Prop where
 at_ : w.heap[g]? = some (.cells (actCells a kv) 31 (0, 0))
 own : Kd.R Kd.bool 4 w B (fun _ => True) kv a.f7
 le : B ≤ g
theorem ActAt.below {B g : Nat} {a : S31} {kv : Value} {w w' : World} (h : ActAt B g a kv w) (hb : Below w.heap.size w w') : ActAt B g a kv w' :=
 ⟨blk_below h.at_ hb, Kd.R_below h.own hb, h.le⟩
theorem ActAt.put {B g : Nat} {a a' : S31} {kv : Value} {w : World} (h : ActAt B g a kv w) (j : Nat) (u : Value)
  (e : (actCells a kv).setIfInBounds j u = actCells a' kv) (e7 : a.f7 = a'.f7) : ActAt B g a' kv (w.setCell ⟨g, j, none⟩ u) :=
 ⟨by rw [← e]; exact blk_set h.at_ j u, by rw [← e7]; exact Kd.R_mono (Kd.R_far (p := ⟨g, j, none⟩) (Kd.R_types h.own h.at_ (by decide)) (fun _ hk => hk.2) u) (fun _ _ => trivial), h.le⟩
theorem ActAt.row {B g : Nat} {a : S31} {kv kv' : Value} {w : World} {l : List Bool} (h : ActAt B g a kv w) (hr : Kd.R Kd.bool 4 w B (fun _ => True) kv' l) :
  ActAt B g {a with f7 := l} kv' (w.setCell ⟨g, 7, none⟩ kv') :=
 ⟨by have := blk_set h.at_ 7 kv'; exact this, Kd.R_mono (Kd.R_far (p := ⟨g, 7, none⟩) (Kd.R_types hr h.at_ (by decide)) (fun _ hk => hk.2) kv') (fun _ _ => trivial), h.le⟩
theorem ActAt.cell {B g : Nat} {a : S31} {kv : Value} {w : World} (h : ActAt B g a kv w) (j : Nat) : w.cell? ⟨g, j, none⟩ = (actCells a kv)[j]? := blk_cell h.at_ j
theorem ActAt.froz {B g : Nat} {a : S31} {kv : Value} {w : World} (h : ActAt B g a kv w) (j : Nat) : w.frozen? ⟨g, j, none⟩ = false := blk_frozen h.at_ j
structure SetK (B g : Nat) (w w' : World) : Prop where mk :: (keep : KeepBut w w' g none) (below : Below B w w')
theorem SetK.of_below {B g : Nat} {w w' : World} (h : Below w.heap.size w w') (hB : B ≤ w.heap.size) : SetK B g w w' := ⟨KeepBut.of_below h g none, h.mono hB⟩
theorem SetK.alloc {B g : Nat} {w w' : World} (h : SetK B g w w') (hB : B ≤ w.heap.size) (o : Obj) : SetK B g w (w'.alloc o) :=
 ⟨h.keep.trans (KeepBut.of_below ((Below.refl _ _).alloc (Nat.le_refl _) o) g none) (.inl rfl), h.below.alloc (Nat.le_trans hB h.keep.1) o⟩
theorem SetK.set {B g : Nat} {w w' : World} (h : SetK B g w w') (hB : B ≤ g) (j : Nat) (u : Value) : SetK B g w (w'.setCell ⟨g, j, none⟩ u) :=
 ⟨h.keep.set_ j u, h.below.setCell hB u⟩
theorem SetK.drewN {B g : Nat} {w w' : World} (h : SetK B g w w') (n : Nat) : SetK B g w (w'.drewN n) := ⟨h.keep, pw_below_drewN h.below n⟩
theorem SetK.refl (B g : Nat) (w : World) : SetK B g w w := ⟨KeepBut.refl w g none, Below.refl B w⟩
theorem SetK.trans {B g : Nat} {w w1 w2 : World} (h : SetK B g w w1) (k : SetK B g w1 w2) : SetK B g w w2 := ⟨h.keep.trans k.keep (.inl rfl), h.below.trans k.below⟩
theorem ActAt.ltB {B g : Nat} {a : S31} {kv : Value} {w : World} (h : ActAt B g a kv w) : B ≤ w.heap.size := Nat.le_of_lt (Nat.lt_of_le_of_lt h.le (blk_lt h.at_))
set_option maxHeartbeats 2000000 in
theorem set_p_yes (g B : Nat) (a : S31) (kv : Value) (x0 : Int) (x1 : ByteArray) (x2 : Int) (w : World) (hA : ActAt B g a kv w) (hx : ¬ x0 = 1) :
  Calls Tryd.prog 50 #[.pointer (some ⟨g, 0, none⟩), .int .u8 112, .agg #[.int .i64 x0, .string x1, .int .i64 x2]] w fun e w' =>
   e = .returned (.bool true) ∧ ActAt B g {a with f4 := x1} kv w' ∧ SetK B g w w' := by
 have hx1 : (x0 == 1) = false := beq_eq_false_iff_ne.2 hx
 have hx2 : (x0 != 1) = true := bne_iff_ne.2 hx
 have HA1 := Aside0.mk (hA.below ((Below.refl _ _).alloc (Nat.le_refl _) (Obj.cells #[Value.int IntKind.i64 x0, Value.string x1, Value.int IntKind.i64 x2] 88)))
 have HK1 := Aside0.mk ((SetK.refl B g w).alloc hA.ltB (Obj.cells #[Value.int IntKind.i64 x0, Value.string x1, Value.int IntKind.i64 x2] 88))
 have HL := Aside0.mk hA.le
 have h4 := (HA1.out.cell 4).trans (rfl : _ = some (Value.string a.f4))
 have f4 := HA1.out.froz 4
 clear hA
 go_enter Tryd.func50, Tryd.ntmps50
 go_wp2
 go_ret
 exact ⟨rfl, HA1.out.put (a' := {a with f4 := x1}) 4 _ rfl rfl, HK1.out.set HL.out _ _⟩
set_option maxHeartbeats 2000000 in
theorem set_p_no (g B : Nat) (a : S31) (kv : Value) (x1 : ByteArray) (x2 : Int) (w : World) (hA : ActAt B g a kv w)  :
  Calls Tryd.prog 50 #[.pointer (some ⟨g, 0, none⟩), .int .u8 112, .agg #[.int .i64 1, .string x1, .int .i64 x2]] w fun e w' =>
   e = .returned (.bool false) ∧ ActAt B g a kv w' ∧ SetK B g w w' := by
 have HA1 := Aside0.mk (hA.below ((Below.refl _ _).alloc (Nat.le_refl _) (Obj.cells #[Value.int IntKind.i64 1, Value.string x1, Value.int IntKind.i64 x2] 88)))
 have HK1 := Aside0.mk ((SetK.refl B g w).alloc hA.ltB (Obj.cells #[Value.int IntKind.i64 1, Value.string x1, Value.int IntKind.i64 x2] 88))
 have HL := Aside0.mk hA.le
 clear hA
 go_enter Tryd.func50, Tryd.ntmps50
 go_wp2
 go_ret
 exact ⟨rfl, HA1.out, HK1.out⟩
set_option maxHeartbeats 2000000 in
theorem set_q_yes (g B : Nat) (a : S31) (kv : Value) (x0 : Int) (x1 : ByteArray) (x2 : Int) (w : World) (hA : ActAt B g a kv w) (hx : ¬ x0 = 1) :
  Calls Tryd.prog 50 #[.pointer (some ⟨g, 0, none⟩), .int .u8 113, .agg #[.int .i64 x0, .string x1, .int .i64 x2]] w fun e w' =>
   e = .returned (.bool true) ∧ ActAt B g {a with f5 := x1} kv w' ∧ SetK B g w w' := by
 have hx1 : (x0 == 1) = false := beq_eq_false_iff_ne.2 hx
 have hx2 : (x0 != 1) = true := bne_iff_ne.2 hx
 have HA1 := Aside0.mk (hA.below ((Below.refl _ _).alloc (Nat.le_refl _) (Obj.cells #[Value.int IntKind.i64 x0, Value.string x1, Value.int IntKind.i64 x2] 88)))
 have HK1 := Aside0.mk ((SetK.refl B g w).alloc hA.ltB (Obj.cells #[Value.int IntKind.i64 x0, Value.string x1, Value.int IntKind.i64 x2] 88))
 have HL := Aside0.mk hA.le
 have h4 := (HA1.out.cell 5).trans (rfl : _ = some (Value.string a.f5))
 have f4 := HA1.out.froz 5
 clear hA
 go_enter Tryd.func50, Tryd.ntmps50
 go_wp2
 go_ret
 exact ⟨rfl, HA1.out.put (a' := {a with f5 := x1}) 5 _ rfl rfl, HK1.out.set HL.out _ _⟩
set_option maxHeartbeats 2000000 in
theorem set_q_no (g B : Nat) (a : S31) (kv : Value) (x1 : ByteArray) (x2 : Int) (w : World) (hA : ActAt B g a kv w)  :
  Calls Tryd.prog 50 #[.pointer (some ⟨g, 0, none⟩), .int .u8 113, .agg #[.int .i64 1, .string x1, .int .i64 x2]] w fun e w' =>
   e = .returned (.bool false) ∧ ActAt B g a kv w' ∧ SetK B g w w' := by
 have HA1 := Aside0.mk (hA.below ((Below.refl _ _).alloc (Nat.le_refl _) (Obj.cells #[Value.int IntKind.i64 1, Value.string x1, Value.int IntKind.i64 x2] 88)))
 have HK1 := Aside0.mk ((SetK.refl B g w).alloc hA.ltB (Obj.cells #[Value.int IntKind.i64 1, Value.string x1, Value.int IntKind.i64 x2] 88))
 have HL := Aside0.mk hA.le
 clear hA
 go_enter Tryd.func50, Tryd.ntmps50
 go_wp2
 go_ret
 exact ⟨rfl, HA1.out, HK1.out⟩
set_option maxHeartbeats 2000000 in
theorem set_t_yes (g B : Nat) (a : S31) (kv : Value) (x0 : Int) (x1 : ByteArray) (x2 : Int) (w : World) (hA : ActAt B g a kv w) (hx : ¬ x0 = 1) (hy : ¬ x0 = 0) :
  Calls Tryd.prog 50 #[.pointer (some ⟨g, 0, none⟩), .int .u8 116, .agg #[.int .i64 x0, .string x1, .int .i64 x2]] w fun e w' =>
   e = .returned (.bool true) ∧ ActAt B g {a with f6 := x1} kv w' ∧ SetK B g w w' := by
 have hx1 : (x0 == 1) = false := beq_eq_false_iff_ne.2 hx
 have hx2 : (x0 != 1) = true := bne_iff_ne.2 hx
 have hy1 : (x0 == 0) = false := beq_eq_false_iff_ne.2 hy
 have HA1 := Aside0.mk (hA.below ((Below.refl _ _).alloc (Nat.le_refl _) (Obj.cells #[Value.int IntKind.i64 x0, Value.string x1, Value.int IntKind.i64 x2] 88)))
 have HK1 := Aside0.mk ((SetK.refl B g w).alloc hA.ltB (Obj.cells #[Value.int IntKind.i64 x0, Value.string x1, Value.int IntKind.i64 x2] 88))
 have HL := Aside0.mk hA.le
 have h4 := (HA1.out.cell 6).trans (rfl : _ = some (Value.string a.f6))
 have f4 := HA1.out.froz 6
 clear hA
 go_enter Tryd.func50, Tryd.ntmps50
 go_wp2
 go_ret
 exact ⟨rfl, HA1.out.put (a' := {a with f6 := x1}) 6 _ rfl rfl, HK1.out.set HL.out _ _⟩
set_option maxHeartbeats 2000000 in
theorem set_t_no1 (g B : Nat) (a : S31) (kv : Value) (x1 : ByteArray) (x2 : Int) (w : World) (hA : ActAt B g a kv w)  :
  Calls Tryd.prog 50 #[.pointer (some ⟨g, 0, none⟩), .int .u8 116, .agg #[.int .i64 1, .string x1, .int .i64 x2]] w fun e w' =>
   e = .returned (.bool false) ∧ ActAt B g a kv w' ∧ SetK B g w w' := by
 have HA1 := Aside0.mk (hA.below ((Below.refl _ _).alloc (Nat.le_refl _) (Obj.cells #[Value.int IntKind.i64 1, Value.string x1, Value.int IntKind.i64 x2] 88)))
 have HK1 := Aside0.mk ((SetK.refl B g w).alloc hA.ltB (Obj.cells #[Value.int IntKind.i64 1, Value.string x1, Value.int IntKind.i64 x2] 88))
 have HL := Aside0.mk hA.le
 clear hA
 go_enter Tryd.func50, Tryd.ntmps50
 go_wp2
 go_ret
 exact ⟨rfl, HA1.out, HK1.out⟩
set_option maxHeartbeats 2000000 in
theorem set_t_no0 (g B : Nat) (a : S31) (kv : Value) (x1 : ByteArray) (x2 : Int) (w : World) (hA : ActAt B g a kv w)  :
  Calls Tryd.prog 50 #[.pointer (some ⟨g, 0, none⟩), .int .u8 116, .agg #[.int .i64 0, .string x1, .int .i64 x2]] w fun e w' =>
   e = .returned (.bool false) ∧ ActAt B g a kv w' ∧ SetK B g w w' := by
 have HA1 := Aside0.mk (hA.below ((Below.refl _ _).alloc (Nat.le_refl _) (Obj.cells #[Value.int IntKind.i64 0, Value.string x1, Value.int IntKind.i64 x2] 88)))
 have HK1 := Aside0.mk ((SetK.refl B g w).alloc hA.ltB (Obj.cells #[Value.int IntKind.i64 0, Value.string x1, Value.int IntKind.i64 x2] 88))
 have HL := Aside0.mk hA.le
 clear hA
 go_enter Tryd.func50, Tryd.ntmps50
 go_wp2
 go_ret
 exact ⟨rfl, HA1.out, HK1.out⟩
set_option maxHeartbeats 2000000 in
theorem set_f_yes (g B : Nat) (a : S31) (kv : Value) (x1 : ByteArray) (x2 : Int) (w : World) (hA : ActAt B g a kv w)  :
  Calls Tryd.prog 50 #[.pointer (some ⟨g, 0, none⟩), .int .u8 102, .agg #[.int .i64 1, .string x1, .int .i64 x2]] w fun e w' =>
   e = .returned (.bool true) ∧ ActAt B g {a with f1 := x2} kv w' ∧ SetK B g w w' := by
 have HA1 := Aside0.mk (hA.below ((Below.refl _ _).alloc (Nat.le_refl _) (Obj.cells #[Value.int IntKind.i64 1, Value.string x1, Value.int IntKind.i64 x2] 88)))
 have HK1 := Aside0.mk ((SetK.refl B g w).alloc hA.ltB (Obj.cells #[Value.int IntKind.i64 1, Value.string x1, Value.int IntKind.i64 x2] 88))
 have HL := Aside0.mk hA.le
 have h4 := (HA1.out.cell 1).trans (rfl : _ = some (Value.int .i64 a.f1))
 have f4 := HA1.out.froz 1
 clear hA
 go_enter Tryd.func50, Tryd.ntmps50
 go_wp2
 go_ret
 exact ⟨rfl, HA1.out.put (a' := {a with f1 := x2}) 1 _ rfl rfl, HK1.out.set HL.out _ _⟩
set_option maxHeartbeats 2000000 in
theorem set_f_no (g B : Nat) (a : S31) (kv : Value) (x0 : Int) (x1 : ByteArray) (x2 : Int) (w : World) (hA : ActAt B g a kv w) (hx : ¬ x0 = 1) :
  Calls Tryd.prog 50 #[.pointer (some ⟨g, 0, none⟩), .int .u8 102, .agg #[.int .i64 x0, .string x1, .int .i64 x2]] w fun e w' =>
   e = .returned (.bool false) ∧ ActAt B g a kv w' ∧ SetK B g w w' := by
 have hx1 : (x0 == 1) = false := beq_eq_false_iff_ne.2 hx
 have hx2 : (x0 != 1) = true := bne_iff_ne.2 hx
 have HA1 := Aside0.mk (hA.below ((Below.refl _ _).alloc (Nat.le_refl _) (Obj.cells #[Value.int IntKind.i64 x0, Value.string x1, Value.int IntKind.i64 x2] 88)))
 have HK1 := Aside0.mk ((SetK.refl B g w).alloc hA.ltB (Obj.cells #[Value.int IntKind.i64 x0, Value.string x1, Value.int IntKind.i64 x2] 88))
 have HL := Aside0.mk hA.le
 clear hA
 go_enter Tryd.func50, Tryd.ntmps50
 go_wp2
 go_ret
 exact ⟨rfl, HA1.out, HK1.out⟩
set_option maxHeartbeats 2000000 in
theorem set_n_yes (g B : Nat) (a : S31) (kv : Value) (x1 : ByteArray) (x2 : Int) (w : World) (hA : ActAt B g a kv w)  :
  Calls Tryd.prog 50 #[.pointer (some ⟨g, 0, none⟩), .int .u8 110, .agg #[.int .i64 1, .string x1, .int .i64 x2]] w fun e w' =>
   e = .returned (.bool true) ∧ ActAt B g {a with f2 := x2} kv w' ∧ SetK B g w w' := by
 have HA1 := Aside0.mk (hA.below ((Below.refl _ _).alloc (Nat.le_refl _) (Obj.cells #[Value.int IntKind.i64 1, Value.string x1, Value.int IntKind.i64 x2] 88)))
 have HK1 := Aside0.mk ((SetK.refl B g w).alloc hA.ltB (Obj.cells #[Value.int IntKind.i64 1, Value.string x1, Value.int IntKind.i64 x2] 88))
 have HL := Aside0.mk hA.le
 have h4 := (HA1.out.cell 2).trans (rfl : _ = some (Value.int .i64 a.f2))
 have f4 := HA1.out.froz 2
 clear hA
 go_enter Tryd.func50, Tryd.ntmps50
 go_wp2
 go_ret
 exact ⟨rfl, HA1.out.put (a' := {a with f2 := x2}) 2 _ rfl rfl, HK1.out.set HL.out _ _⟩
set_option maxHeartbeats 2000000 in
theorem set_n_no (g B : Nat) (a : S31) (kv : Value) (x0 : Int) (x1 : ByteArray) (x2 : Int) (w : World) (hA : ActAt B g a kv w) (hx : ¬ x0 = 1) :
  Calls Tryd.prog 50 #[.pointer (some ⟨g, 0, none⟩), .int .u8 110, .agg #[.int .i64 x0, .string x1, .int .i64 x2]] w fun e w' =>
   e = .returned (.bool false) ∧ ActAt B g a kv w' ∧ SetK B g w w' := by
 have hx1 : (x0 == 1) = false := beq_eq_false_iff_ne.2 hx
 have hx2 : (x0 != 1) = true := bne_iff_ne.2 hx
 have HA1 := Aside0.mk (hA.below ((Below.refl _ _).alloc (Nat.le_refl _) (Obj.cells #[Value.int IntKind.i64 x0, Value.string x1, Value.int IntKind.i64 x2] 88)))
 have HK1 := Aside0.mk ((SetK.refl B g w).alloc hA.ltB (Obj.cells #[Value.int IntKind.i64 x0, Value.string x1, Value.int IntKind.i64 x2] 88))
 have HL := Aside0.mk hA.le
 clear hA
 go_enter Tryd.func50, Tryd.ntmps50
 go_wp2
 go_ret
 exact ⟨rfl, HA1.out, HK1.out⟩
set_option maxHeartbeats 2000000 in
theorem set_m_yes (g B : Nat) (a : S31) (kv : Value) (x1 : ByteArray) (x2 : Int) (w : World) (hA : ActAt B g a kv w)  :
  Calls Tryd.prog 50 #[.pointer (some ⟨g, 0, none⟩), .int .u8 109, .agg #[.int .i64 1, .string x1, .int .i64 x2]] w fun e w' =>
   e = .returned (.bool true) ∧ ActAt B g {a with f3 := x2} kv w' ∧ SetK B g w w' := by
 have HA1 := Aside0.mk (hA.below ((Below.refl _ _).alloc (Nat.le_refl _) (Obj.cells #[Value.int IntKind.i64 1, Value.string x1, Value.int IntKind.i64 x2] 88)))
 have HK1 := Aside0.mk ((SetK.refl B g w).alloc hA.ltB (Obj.cells #[Value.int IntKind.i64 1, Value.string x1, Value.int IntKind.i64 x2] 88))
 have HL := Aside0.mk hA.le
 have h4 := (HA1.out.cell 3).trans (rfl : _ = some (Value.int .i64 a.f3))
 have f4 := HA1.out.froz 3
 clear hA
 go_enter Tryd.func50, Tryd.ntmps50
 go_wp2
 go_ret
 exact ⟨rfl, HA1.out.put (a' := {a with f3 := x2}) 3 _ rfl rfl, HK1.out.set HL.out _ _⟩
set_option maxHeartbeats 2000000 in
theorem set_m_no (g B : Nat) (a : S31) (kv : Value) (x0 : Int) (x1 : ByteArray) (x2 : Int) (w : World) (hA : ActAt B g a kv w) (hx : ¬ x0 = 1) :
  Calls Tryd.prog 50 #[.pointer (some ⟨g, 0, none⟩), .int .u8 109, .agg #[.int .i64 x0, .string x1, .int .i64 x2]] w fun e w' =>
   e = .returned (.bool false) ∧ ActAt B g a kv w' ∧ SetK B g w w' := by
 have hx1 : (x0 == 1) = false := beq_eq_false_iff_ne.2 hx
 have hx2 : (x0 != 1) = true := bne_iff_ne.2 hx
 have HA1 := Aside0.mk (hA.below ((Below.refl _ _).alloc (Nat.le_refl _) (Obj.cells #[Value.int IntKind.i64 x0, Value.string x1, Value.int IntKind.i64 x2] 88)))
 have HK1 := Aside0.mk ((SetK.refl B g w).alloc hA.ltB (Obj.cells #[Value.int IntKind.i64 x0, Value.string x1, Value.int IntKind.i64 x2] 88))
 have HL := Aside0.mk hA.le
 clear hA
 go_enter Tryd.func50, Tryd.ntmps50
 go_wp2
 go_ret
 exact ⟨rfl, HA1.out, HK1.out⟩
set_option maxHeartbeats 2000000 in
theorem set_k (g B : Nat) (a : S31) (kv : Value) (x0 : Int) (x1 : ByteArray) (x2 : Int) (k : Nat) (l : List Bool) (b : Bool) (w : World) (hA : ActAt B g a kv w) (hb : shell_bits.f k x1 = some (l, b)) :
  Calls Tryd.prog 50 #[.pointer (some ⟨g, 0, none⟩), .int .u8 107, .agg #[.int .i64 x0, .string x1, .int .i64 x2]] w fun e w' =>
   e = .returned (.bool (b && !(x0 == 2))) ∧ (∃ kv', ActAt B g {a with f7 := l} kv' w') ∧ SetK B g w w' := by
 have HA1 := Aside0.mk (hA.below ((Below.refl _ _).alloc (Nat.le_refl _) (Obj.cells #[Value.int IntKind.i64 x0, Value.string x1, Value.int IntKind.i64 x2] 88)))
 have HK1 := Aside0.mk ((SetK.refl B g w).alloc hA.ltB (Obj.cells #[Value.int IntKind.i64 x0, Value.string x1, Value.int IntKind.i64 x2] 88))
 have HL := Aside0.mk hA.le
 have HNE := Aside0.mk (Nat.ne_of_lt (blk_lt hA.at_))
 clear hA
 have HB := Aside0.mk hb
 clear hb
 have hz : (x0 != 2) = !(x0 == 2) := rfl
 generalize (x0 == 2) = z at hz ⊢
 cases b <;> cases z <;> simp only [Bool.not_false, Bool.not_true] at hz <;> (
 go_enter Tryd.func50, Tryd.ntmps50
 go_wp2_with (go_at_call 62; refine (shell_bits.calls k x1 l _ _ HB.out).mono ?_; rintro e w1 ⟨v0, rfl, hr, hb1⟩; have HA2 := Aside0.mk (HA1.out.below hb1); have HK2 := Aside0.mk (HK1.out.trans (SetK.of_below hb1 (HA1.out.ltB))); have h7 := (HA2.out.cell 7).trans (rfl : _ = some kv); have f7 := HA2.out.froz 7; have hne1 := HNE.out; have hne2 := Ne.symm hne1; have hbx := (blk_cell (blk_below (heap_alloc_new w (Obj.cells #[Value.int IntKind.i64 x0, Value.string x1, Value.int IntKind.i64 x2] 88)) hb1) 0).trans (rfl : _ = some (Value.int .i64 x0)); obtain ⟨sA, sc, rfl⟩ := Kd.R_slice hr; have HR := Aside0.mk (Kd.R_lower hr HA1.out.ltB); clear hr hb1)
 go_ret
 exact ⟨by first | rfl | simp, ⟨_, HA2.out.row HR.out⟩, HK2.out.set HL.out _ _⟩)
theorem set_all (g B : Nat) (a a' : S31) (kv : Value) (c : Int) (x : S88) (k : Nat) (b : Bool) (w : World) (hA : ActAt B g a kv w) (h : setF k a c x = some (a', b)) :
  Calls Tryd.prog 50 #[.pointer (some ⟨g, 0, none⟩), .int .u8 c, .agg #[.int .i64 x.f0, .string x.f1, .int .i64 x.f2]] w fun e w' =>
   e = .returned (.bool b) ∧ (∃ kv', ActAt B g a' kv' w') ∧ SetK B g w w' := by
 obtain ⟨x0, x1, x2⟩ := x
 unfold setF at h
 dsimp only at h ⊢
 have P : ∀ {bb : Bool} {aa : S31} {e : Ending} {w' : World}, (e = .returned (.bool bb) ∧ ActAt B g aa kv w' ∧ SetK B g w w') → (e = .returned (.bool bb) ∧ (∃ kv', ActAt B g aa kv' w') ∧ SetK B g w w') := fun h => ⟨h.1, ⟨_, h.2.1⟩, h.2.2⟩
 split at h
 ·subst c; split at h
  ·rename_i hx; subst hx; cases h; exact (set_p_no g B _ kv x1 x2 w hA).mono fun _ _ => P
  ·rename_i hx; cases h; exact (set_p_yes g B _ kv x0 x1 x2 w hA hx).mono fun _ _ => P
 split at h
 ·subst c; split at h
  ·rename_i hx; subst hx; cases h; exact (set_q_no g B _ kv x1 x2 w hA).mono fun _ _ => P
  ·rename_i hx; cases h; exact (set_q_yes g B _ kv x0 x1 x2 w hA hx).mono fun _ _ => P
 split at h
 ·subst c; split at h
  ·rename_i hx
   cases h
   rcases hx with hx | hx
   ·subst hx; exact (set_t_no1 g B _ kv x1 x2 w hA).mono fun _ _ => P
   ·subst hx; exact (set_t_no0 g B _ kv x1 x2 w hA).mono fun _ _ => P
  ·rename_i hx; cases h; exact (set_t_yes g B _ kv x0 x1 x2 w hA (fun e => hx (.inl e)) (fun e => hx (.inr e))).mono fun _ _ => P
 split at h
 ·subst c
  cases hb : shell_bits.f k x1 with
  | none => rw [hb] at h; cases h
  | some r =>
   obtain ⟨l, bb⟩ := r
   rw [hb] at h
   cases h
   exact set_k g B a kv x0 x1 x2 k l bb w hA hb
 split at h
 ·subst c; split at h
  ·rename_i hx; subst hx; cases h; exact (set_f_yes g B _ kv x1 x2 w hA).mono fun _ _ => P
  ·rename_i hx; cases h; exact (set_f_no g B _ kv x0 x1 x2 w hA hx).mono fun _ _ => P
 split at h
 ·subst c; split at h
  ·rename_i hx; subst hx; cases h; exact (set_n_yes g B _ kv x1 x2 w hA).mono fun _ _ => P
  ·rename_i hx; cases h; exact (set_n_no g B _ kv x0 x1 x2 w hA hx).mono fun _ _ => P
 split at h
 ·subst c; split at h
  ·rename_i hx; subst hx; cases h; exact (set_m_yes g B _ kv x1 x2 w hA).mono fun _ _ => P
  ·rename_i hx; cases h; exact (set_m_no g B _ kv x0 x1 x2 w hA hx).mono fun _ _ => P
 cases h
abbrev ActR := Int × Int × Int × Int × ByteArray × ByteArray × ByteArray × List Bool × Int
def actR (a : S31) (e : Int) : ActR := (a.f0, a.f1, a.f2, a.f3, a.f4, a.f5, a.f6, a.f7, e)
def actL (k : Nat) : List UInt8 → List S88 → S31 → Option ActR
 | [], _, a => some (actR a 0)
 | _ :: _, [], _ => none
 | c :: cs, x :: xs, a => (setF k a c.toNat x).bind fun b => if b.2 = true then actL k cs xs b.1 else some (actR z31 5)
def shell_act.f (k : Nat) : List S88 → Option ActR
 | [] => none
 | x :: xs => (shell_formed.f k x.f1).bind fun b =>
  if b.2.2 = true ∧ x.f0 = 0 then
   if xs.length < b.2.1.size then some (actR z31 3)
   else if b.2.1.size < xs.length then some (actR z31 4)
   else if b.2.1.size ≤ 8 then actL k b.2.1.toList xs {z31 with f0 := b.1} else none
  else some (actR z31 1)
theorem setF.mono (k : Nat) (a : S31) (c : Int) (x : S88) : LeO (setF k a c x) (setF (k + 1) a c x) := by
 unfold setF
 repeat' first
 | (with_reducible exact LeO.refl _)
 | (with_reducible exact shell_bits.mono _ _)
 | (with_reducible refine LeO.bind ?_ fun _ => ?_)
 | split
theorem actL.mono (k : Nat) : ∀ (cs : List UInt8) (xs : List S88) (a : S31), LeO (actL k cs xs a) (actL (k + 1) cs xs a)
 | [], _, _ => LeO.refl _
 | _ :: _, [], _ => LeO.refl _
 | c :: cs, x :: xs, a => by
  unfold actL
  refine LeO.bind (setF.mono _ _ _ _) fun b => ?_
  split
  ·exact actL.mono k cs xs _
  ·exact LeO.refl _
theorem shell_act.mono (k : Nat) (l : List S88) : LeO (shell_act.f k l) (shell_act.f (k + 1) l) := by
 cases l with
 | nil => exact LeO.refl _
 | cons x xs =>
  unfold shell_act.f
  refine LeO.bind (shell_formed.mono _ _) fun b => ?_
  repeat' first
  | (with_reducible exact LeO.refl _)
  | (with_reducible exact actL.mono _ _ _ _)
  | split
end Go.Proofs.YtenigkhfldafaaaDoor.A

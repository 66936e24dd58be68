/- shell.entries and shell.findings: rows of records as words. -/
import Derived.Test.YtenigkhfldafaaaDoorX
import Derived.Test.YtenigkhfldafaaaDoorA0
import Derived.Test.YtenigkhfldafaaaDoorA8
import Derived.Test.YtenigkhfldafaaaDoorZ
namespace Go.Proofs.YtenigkhfldafaaaDoor.A
open Go.RowKit Go.Proofs.YtenigkhfldafaaaDoorW.PrintWords Go.Proofs.YtenigkhfldafaaaDoorW.PrintLast Go.Proofs.YtenigkhfldafaaaDoorW.PrintMore
structure SayIn (w0 : World) (acc : List UInt8) (w : World) : Prop where
 bld : Bld w0.heap.size w0.heap.size acc w
 below : Below w0.heap.size w0 w
theorem SayIn.step {w0 w w' : World} {acc : List UInt8} (h : SayIn w0 acc w) (hb : Below w.heap.size w w') : SayIn w0 acc w' :=
 ⟨h.bld.below hb, h.below.trans (hb.mono h.below.size)⟩
theorem below_new0 (w : World) (o : Obj) : Below w.heap.size w (w.alloc o) := (Below.refl _ _).alloc (Nat.le_refl _) o
theorem SayIn.new (w : World) : SayIn w [] (w.alloc (Obj.cells #[.pointer none, .slice none 0 0] 74)) := ⟨Bld.fresh w, below_new0 w _⟩
theorem SayIn.more {w0 w : World} {acc : List UInt8} (h : SayIn w0 acc w) (s : ByteArray) (hl : acc.length + s.size ≤ 140737488355328) :
  Calls Tryd.prog 38 #[.pointer (some ⟨w0.heap.size, 0, none⟩), .string s] w fun e w' => e = .returned (.tuple #[.int .i64 s.size, .nilIface]) ∧ SayIn w0 (acc ++ s.toList) w' :=
 (Bld.write s h.bld hl h.below.size).mono fun _ _ ⟨he, hb, hw⟩ => ⟨he, hb, h.below.trans hw⟩
theorem oneL_ {P : Program} {ops : Array Oper} {Q : Exit → Act → World → Prop} {md : Region.Mode} {S : World → Prop} {ds : List Nat} {i : Nat} {N : Option Tmp} {oi : Oper} {fuel : Nat} {l : Array Bool} {a : Act} {w : World} (l' : Array Bool) (hi : ops[i]? = some oi) (hN : oi.dst = N) (hc : readyB md ops l l' i = true) (hd : i ∈ ds)
  (h : ∀ K : Act → World → Prop, Shut (∀ a' w', wpAnyLast P md ops Q S ds fuel l' a' w' → K a' w') → if Region.wanted oi (yielded ops a.tmps) = true then Oper.wp P oi a w K Q else K (a.put N undef) w) :
  wpAnyLast P md ops Q S ds (fuel + 1) l a w := by
 subst hN
 simp only [readyB, Bool.and_eq_true, beq_iff_eq] at hc
 obtain ⟨h1, h2⟩ := hc
 subst h2
 exact wpAnyLast_ready h1 (by simp) (AllReadyL.cons_last hi hd (fun K hK => h K hK) AllReadyL.nil)
def entriesL (k : Nat) : List S65 → List UInt8 → Option ByteArray
 | [], acc => some ⟨acc.toArray⟩
 | x :: l, acc => (shell_quote.f k x.f0).bind fun t0 => (strconv_Itoa.f x.f1).bind fun t1 => (strconv_Itoa.f x.f2).bind fun t2 => if acc.length + (t0.size + t1.size + t2.size + 3) ≤ 100000000000000 then entriesL k l (acc ++ (((((((⟨#[32]⟩ : ByteArray) ++ t0) ++ (⟨#[32]⟩ : ByteArray)) ++ t1) ++ (⟨#[32]⟩ : ByteArray)) ++ t2)).toList) else none
def shell_entries.f (k : Nat) (l : List S65) : Option ByteArray := entriesL k l []
theorem entriesL.mono (k : Nat) : ∀ (l : List S65) (acc : List UInt8), LeO (entriesL k l acc) (entriesL (k + 1) l acc)
 | [], _ => LeO.refl _
 | x :: l, acc => by
  unfold entriesL
  refine LeO.bind (shell_quote.mono _ _) fun _ => ?_
  refine LeO.bind (LeO.refl _) fun _ => ?_
  refine LeO.bind (LeO.refl _) fun _ => ?_
  split
  ·exact entriesL.mono k l _
  ·exact LeO.refl _
theorem shell_entries.mono (l : List S65) (k : Nat) : LeO (shell_entries.f k l) (shell_entries.f (k + 1) l) := entriesL.mono k l []
set_option maxRecDepth 100000 in
set_option maxHeartbeats 8000000 in
theorem shell_entries.calls (k : Nat) (A0 : Option Addr) (c0 : Nat) (a0 : List S65) (r : ByteArray) (w : World) (hG : Gw w) (hr0 : Kd.C k65 w A0 a0.length a0) (_hc0 : a0.length ≤ c0) (h : shell_entries.f k a0 = some r) :
  Calls Tryd.prog 31 #[.slice A0 a0.length c0] w fun e w' => e = .returned (.string r) ∧ Below w.heap.size w w' := by
 have HR := Aside0.mk hr0
 have HG := Aside0.mk hG
 have HS0 : Aside0 (entriesL k a0 [] = some r) := ⟨h⟩
 have HI0 := Aside0.mk (SayIn.new w)
 clear hr0 hG h
 go_enter Tryd.func31, Tryd.ntmps31
 go_wp2
 go_loopg [8] a0.length (fun k' p wr => ∃ (i : Nat) (acc : List UInt8), p = .int .i64 (i : Int) ∧ i ≤ a0.length ∧ k' + i = a0.length ∧ Aside0 (SayIn w acc wr) ∧ Aside0 (entriesL k (a0.drop i) acc = some r))
 case atStart => exact ⟨0, [], rfl, Nat.zero_le _, rfl, HI0, ⟨HS0.out⟩⟩
 case round =>
  obtain ⟨i, acc, rfl, hi, hki, HI, HS⟩ := hrel
  by_cases hlt : i < a0.length
  ·have hdi : decide ((i : Int) < a0.length) = true := decide_eq_true (by omega)
   obtain ⟨ad, e0, z0, z1, z2⟩ := at_T65 (Kd.C_below HR.out HI.out.below) (i : Int) (by omega) (by omega)
   subst e0
   have hx : rd_T65 a0 (i : Int) = a0[i] := by
    show a0.getD i z65 = a0[i]
    rw [List.getD_eq_getElem?_getD, List.getElem?_eq_getElem hlt, Option.getD_some]
   rw [hx] at z0 z1 z2
   simp only [Int.toNat_natCast] at z0 z1 z2
   have HS1 := HS.out
   rw [List.drop_eq_getElem_cons hlt] at HS1
   clear hx
   generalize a0[i] = x at HS1 z0 z1 z2
   change (shell_quote.f k x.f0).bind _ = _ at HS1
   cases hq0 : shell_quote.f k x.f0 with
   | none => rw [hq0] at HS1; cases HS1
   | some t0 =>
   rw [hq0] at HS1
   simp only [Option.bind_some] at HS1
   have HQ0 := Aside0.mk hq0
   clear hq0
   cases hq1 : strconv_Itoa.f x.f1 with
   | none => rw [hq1] at HS1; cases HS1
   | some t1 =>
   rw [hq1] at HS1
   simp only [Option.bind_some] at HS1
   have HQ1 := Aside0.mk hq1
   clear hq1
   cases hq2 : strconv_Itoa.f x.f2 with
   | none => rw [hq2] at HS1; cases HS1
   | some t2 =>
   rw [hq2] at HS1
   simp only [Option.bind_some] at HS1
   have HQ2 := Aside0.mk hq2
   clear hq2
   by_cases hz : acc.length + (t0.size + t1.size + t2.size + 3) ≤ 100000000000000
   ·rw [if_pos hz] at HS1
    have HS2 := Aside0.mk HS1
    have HZ := Aside0.mk hz
    have hl1 : (⟨#[32]⟩ : ByteArray).size = 1 := rfl
    have hs0b : 1 + t0.size ≤ 9223372036854775807 := by omega
    have hs1b : 1 + t0.size + 1 ≤ 9223372036854775807 := by omega
    have hs2b : 1 + t0.size + 1 + t1.size ≤ 9223372036854775807 := by omega
    have hs3b : 1 + t0.size + 1 + t1.size + 1 ≤ 9223372036854775807 := by omega
    have hs4b : 1 + t0.size + 1 + t1.size + 1 + t2.size ≤ 9223372036854775807 := by omega
    have hsz : acc.length + (((((((⟨#[32]⟩ : ByteArray) ++ t0) ++ (⟨#[32]⟩ : ByteArray)) ++ t1) ++ (⟨#[32]⟩ : ByteArray)) ++ t2)).size ≤ 140737488355328 := by
     have hl1 : (⟨#[32]⟩ : ByteArray).size = 1 := rfl
     have hl0 : (⟨#[32]⟩ : ByteArray).size = 1 := rfl
     simp only [ByteArray.size_append]
     omega
    have HSZ := Aside0.mk hsz
    clear HS1 hz hsz
    go_wp2
    have HBK : Aside0 ((wr.alloc (Obj.cells #[.string x.f0, .int .i64 x.f1, .int .i64 x.f2] 65)).drew.heap[wr.heap.size]? = some (Obj.cells #[.string x.f0, .int .i64 x.f1, .int .i64 x.f2] 65 (0, 0))) := ⟨blk_drew (blk_new _ _)⟩
    have HI2 := Aside0.mk ((HI.out.step (below_new0 wr (Obj.cells #[.string x.f0, .int .i64 x.f1, .int .i64 x.f2] 65))).step ((Below.refl _ _).drew))
    refine start_ (n := 15) (S := fun w' => w'.cell? ⟨wr.heap.size, 0, none⟩ = some (.string x.f0) ∧ w'.cell? ⟨wr.heap.size, 1, none⟩ = some (.int .i64 x.f1) ∧ w'.cell? ⟨wr.heap.size, 2, none⟩ = some (.int .i64 x.f2)) (ds := [14]) #[false, false, false, false, false, false, false, false, false, false, false, false, false, false, false] (by kernel_rfl) rfl rfl ⟨(blk_cell HBK.out 0).trans rfl, (blk_cell HBK.out 1).trans rfl, (blk_cell HBK.out 2).trans rfl⟩ (fun hHeld => ?_)
    generalize (wr.alloc (Obj.cells #[.string x.f0, .int .i64 x.f1, .int .i64 x.f2] 65)).drew = wa at HBK HI2 hHeld ⊢
    refine pu_ (i := 0) (N := some 12) (v := ?_) (a' := ?_) #[true, false, false, false, false, false, false, false, false, false, false, false, false, false, false] ?_ ?_ ?_
    rotate_left
    ·intro w'
     go_simp
     with_reducible rfl
    rotate_left
    ·simp only [zz]
     rfl
    refine pu_ (i := 5) (N := some 17) (v := ?_) (a' := ?_) #[true, false, false, false, false, true, false, false, false, false, false, false, false, false, false] ?_ ?_ ?_
    rotate_left
    ·intro w'
     go_simp
     with_reducible rfl
    rotate_left
    ·simp only [zz]
     rfl
    refine pu_ (i := 10) (N := some 22) (v := ?_) (a' := ?_) #[true, false, false, false, false, true, false, false, false, false, true, false, false, false, false] ?_ ?_ ?_
    rotate_left
    ·intro w'
     go_simp
     with_reducible rfl
    rotate_left
    ·simp only [zz]
     rfl
    refine ta_ (i := 1) (N := some 13) (v := ?_) (a' := ?_) #[true, true, false, false, false, true, false, false, false, false, true, false, false, false, false] ?_ hHeld ?_ ?_
    rotate_left
    ·rintro w' ⟨s0, s1, s2⟩
     go_simp
     with_reducible rfl
    rotate_left
    ·simp only [zz]
     rfl
    refine ta_ (i := 6) (N := some 18) (v := ?_) (a' := ?_) #[true, true, false, false, false, true, true, false, false, false, true, false, false, false, false] ?_ hHeld ?_ ?_
    rotate_left
    ·rintro w' ⟨s0, s1, s2⟩
     go_simp
     with_reducible rfl
    rotate_left
    ·simp only [zz]
     rfl
    refine ta_ (i := 11) (N := some 23) (v := ?_) (a' := ?_) #[true, true, false, false, false, true, true, false, false, false, true, true, false, false, false] ?_ hHeld ?_ ?_
    rotate_left
    ·rintro w' ⟨s0, s1, s2⟩
     go_simp
     with_reducible rfl
    rotate_left
    ·simp only [zz]
     rfl
    refine one_ (i := 2) (N := some 14) #[true, true, true, false, false, true, true, false, false, false, true, true, false, false, false] rfl rfl (by kernel_rfl) (by decide) (fun K hK => ?_)
    refine goes_ Tryd.func30 (by kernel_rfl) rfl #[.string x.f0] (by rfl) rfl rfl mt ?_
    with_reducible refine (shell_quote.calls k x.f0 t0 _ HQ0.out).mono ?_
    rintro e w22 ⟨rfl, hb⟩
    refine ⟨_, rfl, ?_⟩
    have n0_ := Aside0.mk (blk_below HBK.out hb)
    have n1_ := Aside0.mk (HI2.out.step hb)
    clear hb
    have HBK := n0_
    have HI2 := n1_
    refine hK.out _ _ ⟨(blk_cell HBK.out 0).trans rfl, (blk_cell HBK.out 1).trans rfl, (blk_cell HBK.out 2).trans rfl⟩ (fun hHeld => ?_)
    clear hK K
    refine norm_ (a' := ?_) ?_ ?_
    rotate_left
    ·show Act.put _ (some 14) _ = _
     simp only [zz]
     rfl
    refine pu_ (i := 3) (N := some 15) (v := ?_) (a' := ?_) #[true, true, true, true, false, true, true, false, false, false, true, true, false, false, false] ?_ ?_ ?_
    rotate_left
    ·intro w'
     go_simp
     rw [if_neg (by omega)]
    rotate_left
    ·simp only [zz]
     rfl
    refine pu_ (i := 4) (N := some 16) (v := ?_) (a' := ?_) #[true, true, true, true, true, true, true, false, false, false, true, true, false, false, false] ?_ ?_ ?_
    rotate_left
    ·intro w'
     go_simp
     rw [if_neg (by omega)]
    rotate_left
    ·simp only [zz]
     rfl
    refine one_ (i := 7) (N := some 19) #[true, true, true, true, true, true, true, true, false, false, true, true, false, false, false] rfl rfl (by kernel_rfl) (by decide) (fun K hK => ?_)
    refine goes_ Tryd.func29 (by kernel_rfl) rfl #[.int .i64 x.f1] (by rfl) rfl rfl mt ?_
    with_reducible refine (strconv_Itoa.calls x.f1 t1 _ (HG.out.below HI2.out.below) HQ1.out).mono ?_
    rintro e w27 ⟨rfl, hb⟩
    refine ⟨_, rfl, ?_⟩
    have n0_ := Aside0.mk (blk_below HBK.out hb)
    have n1_ := Aside0.mk (HI2.out.step hb)
    clear hb
    have HBK := n0_
    have HI2 := n1_
    refine hK.out _ _ ⟨(blk_cell HBK.out 0).trans rfl, (blk_cell HBK.out 1).trans rfl, (blk_cell HBK.out 2).trans rfl⟩ (fun hHeld => ?_)
    clear hK K
    refine norm_ (a' := ?_) ?_ ?_
    rotate_left
    ·show Act.put _ (some 19) _ = _
     simp only [zz]
     rfl
    refine pu_ (i := 8) (N := some 20) (v := ?_) (a' := ?_) #[true, true, true, true, true, true, true, true, true, false, true, true, false, false, false] ?_ ?_ ?_
    rotate_left
    ·intro w'
     go_simp
     rw [if_neg (by omega)]
    rotate_left
    ·simp only [zz]
     rfl
    refine pu_ (i := 9) (N := some 21) (v := ?_) (a' := ?_) #[true, true, true, true, true, true, true, true, true, true, true, true, false, false, false] ?_ ?_ ?_
    rotate_left
    ·intro w'
     go_simp
     rw [if_neg (by omega)]
    rotate_left
    ·simp only [zz]
     rfl
    refine one_ (i := 12) (N := some 24) #[true, true, true, true, true, true, true, true, true, true, true, true, true, false, false] rfl rfl (by kernel_rfl) (by decide) (fun K hK => ?_)
    refine goes_ Tryd.func29 (by kernel_rfl) rfl #[.int .i64 x.f2] (by rfl) rfl rfl mt ?_
    with_reducible refine (strconv_Itoa.calls x.f2 t2 _ (HG.out.below HI2.out.below) HQ2.out).mono ?_
    rintro e w32 ⟨rfl, hb⟩
    refine ⟨_, rfl, ?_⟩
    have n0_ := Aside0.mk (blk_below HBK.out hb)
    have n1_ := Aside0.mk (HI2.out.step hb)
    clear hb
    have HBK := n0_
    have HI2 := n1_
    refine hK.out _ _ ⟨(blk_cell HBK.out 0).trans rfl, (blk_cell HBK.out 1).trans rfl, (blk_cell HBK.out 2).trans rfl⟩ (fun hHeld => ?_)
    clear hK K
    refine norm_ (a' := ?_) ?_ ?_
    rotate_left
    ·show Act.put _ (some 24) _ = _
     simp only [zz]
     rfl
    refine pu_ (i := 13) (N := some 25) (v := ?_) (a' := ?_) #[true, true, true, true, true, true, true, true, true, true, true, true, true, true, false] ?_ ?_ ?_
    rotate_left
    ·intro w'
     go_simp
     rw [if_neg (by omega)]
    rotate_left
    ·simp only [zz]
     rfl
    refine oneL_ (i := 14) (N := some 26) #[true, true, true, true, true, true, true, true, true, true, true, true, true, true, true] rfl rfl (by kernel_rfl) (by decide) (fun K hK => ?_)
    refine goes_ Tryd.func38 (by kernel_rfl) rfl #[.pointer (some ⟨w.heap.size, 0, none⟩), .string ((((((⟨#[32]⟩ : ByteArray) ++ t0) ++ (⟨#[32]⟩ : ByteArray)) ++ t1) ++ (⟨#[32]⟩ : ByteArray)) ++ t2)] (by rfl) rfl rfl mt ?_
    refine (HI2.out.more ((((((⟨#[32]⟩ : ByteArray) ++ t0) ++ (⟨#[32]⟩ : ByteArray)) ++ t1) ++ (⟨#[32]⟩ : ByteArray)) ++ t2) HSZ.out).mono ?_
    rintro e wz ⟨rfl, hi3⟩
    refine ⟨_, rfl, ?_⟩
    have HI3 := Aside0.mk hi3
    clear hi3
    refine hK.out _ _ ?_
    clear hK K
    refine norm_ (a' := ?_) ?_ ?_
    rotate_left
    ·show Act.put _ (some 26) _ = _
     simp only [zz]
     rfl
    refine done_ (by kernel_rfl) ?_
    clear hHeld
    go_wp2
    cases gk with
    | zero => omega
    | succ gk =>
     go_roundg gk
     case measure => omega
     case rel => exact ⟨i + 1, _, congrArg (Value.int .i64) (by unfold wrap64; have := HR.out.2.1; omega), by omega, by omega, HI3, ⟨HS2.out⟩⟩
   ·rw [if_neg hz] at HS1; cases HS1
  ·obtain rfl : i = a0.length := by omega
   have hdi : decide ((a0.length : Int) < a0.length) = false := decide_eq_false (by omega)
   have HS1 := HS.out
   rw [List.drop_eq_nil_of_le (Nat.le_refl _)] at HS1
   injection HS1 with HS1
   subst HS1
   go_wp2_with (go_at_call 41; refine (Bld.string HI.out.bld HI.out.below.size).mono ?_; rintro e w2 ⟨rfl, hb⟩)
   go_ret
   exact ⟨rfl, HI.out.below.trans hb⟩
def findingsL : List S67 → List UInt8 → Option ByteArray
 | [], acc => some ⟨acc.toArray⟩
 | x :: l, acc => (strconv_Itoa.f x.f0).bind fun t0 => (strconv_Itoa.f x.f1).bind fun t1 => (strconv_Itoa.f x.f2).bind fun t2 => (strconv_Itoa.f x.f3).bind fun t3 => if acc.length + (t0.size + t1.size + t2.size + t3.size + 5) ≤ 100000000000000 then findingsL l (acc ++ (((((((((⟨#[59, 32]⟩ : ByteArray) ++ t0) ++ (⟨#[32]⟩ : ByteArray)) ++ t1) ++ (⟨#[32]⟩ : ByteArray)) ++ t2) ++ (⟨#[32]⟩ : ByteArray)) ++ t3)).toList) else none
def shell_findings.f (l : List S67) : Option ByteArray := findingsL l []
set_option maxRecDepth 100000 in
set_option maxHeartbeats 8000000 in
theorem shell_findings.calls (A0 : Option Addr) (c0 : Nat) (a0 : List S67) (r : ByteArray) (w : World) (hG : Gw w) (hr0 : Kd.C k67 w A0 a0.length a0) (_hc0 : a0.length ≤ c0) (h : shell_findings.f a0 = some r) :
  Calls Tryd.prog 32 #[.slice A0 a0.length c0] w fun e w' => e = .returned (.string r) ∧ Below w.heap.size w w' := by
 have HR := Aside0.mk hr0
 have HG := Aside0.mk hG
 have HS0 : Aside0 (findingsL a0 [] = some r) := ⟨h⟩
 have HI0 := Aside0.mk (SayIn.new w)
 clear hr0 hG h
 go_enter Tryd.func32, Tryd.ntmps32
 go_wp2
 go_loopg [8] a0.length (fun k' p wr => ∃ (i : Nat) (acc : List UInt8), p = .int .i64 (i : Int) ∧ i ≤ a0.length ∧ k' + i = a0.length ∧ Aside0 (SayIn w acc wr) ∧ Aside0 (findingsL (a0.drop i) acc = some r))
 case atStart => exact ⟨0, [], rfl, Nat.zero_le _, rfl, HI0, ⟨HS0.out⟩⟩
 case round =>
  obtain ⟨i, acc, rfl, hi, hki, HI, HS⟩ := hrel
  by_cases hlt : i < a0.length
  ·have hdi : decide ((i : Int) < a0.length) = true := decide_eq_true (by omega)
   obtain ⟨ad, e0, z0, z1, z2, z3⟩ := at_T67 (Kd.C_below HR.out HI.out.below) (i : Int) (by omega) (by omega)
   subst e0
   have hx : rd_T67 a0 (i : Int) = a0[i] := by
    show a0.getD i z67 = a0[i]
    rw [List.getD_eq_getElem?_getD, List.getElem?_eq_getElem hlt, Option.getD_some]
   rw [hx] at z0 z1 z2 z3
   simp only [Int.toNat_natCast] at z0 z1 z2 z3
   have HS1 := HS.out
   rw [List.drop_eq_getElem_cons hlt] at HS1
   clear hx
   generalize a0[i] = x at HS1 z0 z1 z2 z3
   change (strconv_Itoa.f x.f0).bind _ = _ at HS1
   cases hq0 : strconv_Itoa.f x.f0 with
   | none => rw [hq0] at HS1; cases HS1
   | some t0 =>
   rw [hq0] at HS1
   simp only [Option.bind_some] at HS1
   have HQ0 := Aside0.mk hq0
   clear hq0
   cases hq1 : strconv_Itoa.f x.f1 with
   | none => rw [hq1] at HS1; cases HS1
   | some t1 =>
   rw [hq1] at HS1
   simp only [Option.bind_some] at HS1
   have HQ1 := Aside0.mk hq1
   clear hq1
   cases hq2 : strconv_Itoa.f x.f2 with
   | none => rw [hq2] at HS1; cases HS1
   | some t2 =>
   rw [hq2] at HS1
   simp only [Option.bind_some] at HS1
   have HQ2 := Aside0.mk hq2
   clear hq2
   cases hq3 : strconv_Itoa.f x.f3 with
   | none => rw [hq3] at HS1; cases HS1
   | some t3 =>
   rw [hq3] at HS1
   simp only [Option.bind_some] at HS1
   have HQ3 := Aside0.mk hq3
   clear hq3
   by_cases hz : acc.length + (t0.size + t1.size + t2.size + t3.size + 5) ≤ 100000000000000
   ·rw [if_pos hz] at HS1
    have HS2 := Aside0.mk HS1
    have HZ := Aside0.mk hz
    have hl1 : (⟨#[32]⟩ : ByteArray).size = 1 := rfl
    have hl0 : (⟨#[59, 32]⟩ : ByteArray).size = 2 := rfl
    have hs0b : 2 + t0.size ≤ 9223372036854775807 := by omega
    have hs1b : 2 + t0.size + 1 ≤ 9223372036854775807 := by omega
    have hs2b : 2 + t0.size + 1 + t1.size ≤ 9223372036854775807 := by omega
    have hs3b : 2 + t0.size + 1 + t1.size + 1 ≤ 9223372036854775807 := by omega
    have hs4b : 2 + t0.size + 1 + t1.size + 1 + t2.size ≤ 9223372036854775807 := by omega
    have hs5b : 2 + t0.size + 1 + t1.size + 1 + t2.size + 1 ≤ 9223372036854775807 := by omega
    have hs6b : 2 + t0.size + 1 + t1.size + 1 + t2.size + 1 + t3.size ≤ 9223372036854775807 := by omega
    have hsz : acc.length + (((((((((⟨#[59, 32]⟩ : ByteArray) ++ t0) ++ (⟨#[32]⟩ : ByteArray)) ++ t1) ++ (⟨#[32]⟩ : ByteArray)) ++ t2) ++ (⟨#[32]⟩ : ByteArray)) ++ t3)).size ≤ 140737488355328 := by
     have hl1 : (⟨#[32]⟩ : ByteArray).size = 1 := rfl
     have hl0 : (⟨#[59, 32]⟩ : ByteArray).size = 2 := rfl
     simp only [ByteArray.size_append]
     omega
    have HSZ := Aside0.mk hsz
    clear HS1 hz hsz
    go_wp2
    have HBK : Aside0 ((wr.alloc (Obj.cells #[.int .i64 x.f0, .int .i64 x.f1, .int .i64 x.f2, .int .i64 x.f3] 67)).drew.heap[wr.heap.size]? = some (Obj.cells #[.int .i64 x.f0, .int .i64 x.f1, .int .i64 x.f2, .int .i64 x.f3] 67 (0, 0))) := ⟨blk_drew (blk_new _ _)⟩
    have HI2 := Aside0.mk ((HI.out.step (below_new0 wr (Obj.cells #[.int .i64 x.f0, .int .i64 x.f1, .int .i64 x.f2, .int .i64 x.f3] 67))).step ((Below.refl _ _).drew))
    refine start_ (n := 20) (S := fun w' => w'.cell? ⟨wr.heap.size, 0, none⟩ = some (.int .i64 x.f0) ∧ w'.cell? ⟨wr.heap.size, 1, none⟩ = some (.int .i64 x.f1) ∧ w'.cell? ⟨wr.heap.size, 2, none⟩ = some (.int .i64 x.f2) ∧ w'.cell? ⟨wr.heap.size, 3, none⟩ = some (.int .i64 x.f3)) (ds := [19]) #[false, false, false, false, false, false, false, false, false, false, false, false, false, false, false, false, false, false, false, false] (by kernel_rfl) rfl rfl ⟨(blk_cell HBK.out 0).trans rfl, (blk_cell HBK.out 1).trans rfl, (blk_cell HBK.out 2).trans rfl, (blk_cell HBK.out 3).trans rfl⟩ (fun hHeld => ?_)
    generalize (wr.alloc (Obj.cells #[.int .i64 x.f0, .int .i64 x.f1, .int .i64 x.f2, .int .i64 x.f3] 67)).drew = wa at HBK HI2 hHeld ⊢
    refine pu_ (i := 0) (N := some 12) (v := ?_) (a' := ?_) #[true, false, false, false, false, false, false, false, false, false, false, false, false, false, false, false, false, false, false, false] ?_ ?_ ?_
    rotate_left
    ·intro w'
     go_simp
     with_reducible rfl
    rotate_left
    ·simp only [zz]
     rfl
    refine pu_ (i := 5) (N := some 17) (v := ?_) (a' := ?_) #[true, false, false, false, false, true, false, false, false, false, false, false, false, false, false, false, false, false, false, false] ?_ ?_ ?_
    rotate_left
    ·intro w'
     go_simp
     with_reducible rfl
    rotate_left
    ·simp only [zz]
     rfl
    refine pu_ (i := 10) (N := some 22) (v := ?_) (a' := ?_) #[true, false, false, false, false, true, false, false, false, false, true, false, false, false, false, false, false, false, false, false] ?_ ?_ ?_
    rotate_left
    ·intro w'
     go_simp
     with_reducible rfl
    rotate_left
    ·simp only [zz]
     rfl
    refine pu_ (i := 15) (N := some 27) (v := ?_) (a' := ?_) #[true, false, false, false, false, true, false, false, false, false, true, false, false, false, false, true, false, false, false, false] ?_ ?_ ?_
    rotate_left
    ·intro w'
     go_simp
     with_reducible rfl
    rotate_left
    ·simp only [zz]
     rfl
    refine ta_ (i := 1) (N := some 13) (v := ?_) (a' := ?_) #[true, true, false, false, false, true, false, false, false, false, true, false, false, false, false, true, false, false, false, false] ?_ hHeld ?_ ?_
    rotate_left
    ·rintro w' ⟨s0, s1, s2, s3⟩
     go_simp
     with_reducible rfl
    rotate_left
    ·simp only [zz]
     rfl
    refine ta_ (i := 6) (N := some 18) (v := ?_) (a' := ?_) #[true, true, false, false, false, true, true, false, false, false, true, false, false, false, false, true, false, false, false, false] ?_ hHeld ?_ ?_
    rotate_left
    ·rintro w' ⟨s0, s1, s2, s3⟩
     go_simp
     with_reducible rfl
    rotate_left
    ·simp only [zz]
     rfl
    refine ta_ (i := 11) (N := some 23) (v := ?_) (a' := ?_) #[true, true, false, false, false, true, true, false, false, false, true, true, false, false, false, true, false, false, false, false] ?_ hHeld ?_ ?_
    rotate_left
    ·rintro w' ⟨s0, s1, s2, s3⟩
     go_simp
     with_reducible rfl
    rotate_left
    ·simp only [zz]
     rfl
    refine ta_ (i := 16) (N := some 28) (v := ?_) (a' := ?_) #[true, true, false, false, false, true, true, false, false, false, true, true, false, false, false, true, true, false, false, false] ?_ hHeld ?_ ?_
    rotate_left
    ·rintro w' ⟨s0, s1, s2, s3⟩
     go_simp
     with_reducible rfl
    rotate_left
    ·simp only [zz]
     rfl
    refine one_ (i := 2) (N := some 14) #[true, true, true, false, false, true, true, false, false, false, true, true, false, false, false, true, true, false, false, false] rfl rfl (by kernel_rfl) (by decide) (fun K hK => ?_)
    refine goes_ Tryd.func29 (by kernel_rfl) rfl #[.int .i64 x.f0] (by rfl) rfl rfl mt ?_
    with_reducible refine (strconv_Itoa.calls x.f0 t0 _ (HG.out.below HI2.out.below) HQ0.out).mono ?_
    rintro e w22 ⟨rfl, hb⟩
    refine ⟨_, rfl, ?_⟩
    have n0_ := Aside0.mk (blk_below HBK.out hb)
    have n1_ := Aside0.mk (HI2.out.step hb)
    clear hb
    have HBK := n0_
    have HI2 := n1_
    refine hK.out _ _ ⟨(blk_cell HBK.out 0).trans rfl, (blk_cell HBK.out 1).trans rfl, (blk_cell HBK.out 2).trans rfl, (blk_cell HBK.out 3).trans rfl⟩ (fun hHeld => ?_)
    clear hK K
    refine norm_ (a' := ?_) ?_ ?_
    rotate_left
    ·show Act.put _ (some 14) _ = _
     simp only [zz]
     rfl
    refine pu_ (i := 3) (N := some 15) (v := ?_) (a' := ?_) #[true, true, true, true, false, true, true, false, false, false, true, true, false, false, false, true, true, false, false, false] ?_ ?_ ?_
    rotate_left
    ·intro w'
     go_simp
     rw [if_neg (by omega)]
    rotate_left
    ·simp only [zz]
     rfl
    refine pu_ (i := 4) (N := some 16) (v := ?_) (a' := ?_) #[true, true, true, true, true, true, true, false, false, false, true, true, false, false, false, true, true, false, false, false] ?_ ?_ ?_
    rotate_left
    ·intro w'
     go_simp
     rw [if_neg (by omega)]
    rotate_left
    ·simp only [zz]
     rfl
    refine one_ (i := 7) (N := some 19) #[true, true, true, true, true, true, true, true, false, false, true, true, false, false, false, true, true, false, false, false] rfl rfl (by kernel_rfl) (by decide) (fun K hK => ?_)
    refine goes_ Tryd.func29 (by kernel_rfl) rfl #[.int .i64 x.f1] (by rfl) rfl rfl mt ?_
    with_reducible refine (strconv_Itoa.calls x.f1 t1 _ (HG.out.below HI2.out.below) HQ1.out).mono ?_
    rintro e w27 ⟨rfl, hb⟩
    refine ⟨_, rfl, ?_⟩
    have n0_ := Aside0.mk (blk_below HBK.out hb)
    have n1_ := Aside0.mk (HI2.out.step hb)
    clear hb
    have HBK := n0_
    have HI2 := n1_
    refine hK.out _ _ ⟨(blk_cell HBK.out 0).trans rfl, (blk_cell HBK.out 1).trans rfl, (blk_cell HBK.out 2).trans rfl, (blk_cell HBK.out 3).trans rfl⟩ (fun hHeld => ?_)
    clear hK K
    refine norm_ (a' := ?_) ?_ ?_
    rotate_left
    ·show Act.put _ (some 19) _ = _
     simp only [zz]
     rfl
    refine pu_ (i := 8) (N := some 20) (v := ?_) (a' := ?_) #[true, true, true, true, true, true, true, true, true, false, true, true, false, false, false, true, true, false, false, false] ?_ ?_ ?_
    rotate_left
    ·intro w'
     go_simp
     rw [if_neg (by omega)]
    rotate_left
    ·simp only [zz]
     rfl
    refine pu_ (i := 9) (N := some 21) (v := ?_) (a' := ?_) #[true, true, true, true, true, true, true, true, true, true, true, true, false, false, false, true, true, false, false, false] ?_ ?_ ?_
    rotate_left
    ·intro w'
     go_simp
     rw [if_neg (by omega)]
    rotate_left
    ·simp only [zz]
     rfl
    refine one_ (i := 12) (N := some 24) #[true, true, true, true, true, true, true, true, true, true, true, true, true, false, false, true, true, false, false, false] rfl rfl (by kernel_rfl) (by decide) (fun K hK => ?_)
    refine goes_ Tryd.func29 (by kernel_rfl) rfl #[.int .i64 x.f2] (by rfl) rfl rfl mt ?_
    with_reducible refine (strconv_Itoa.calls x.f2 t2 _ (HG.out.below HI2.out.below) HQ2.out).mono ?_
    rintro e w32 ⟨rfl, hb⟩
    refine ⟨_, rfl, ?_⟩
    have n0_ := Aside0.mk (blk_below HBK.out hb)
    have n1_ := Aside0.mk (HI2.out.step hb)
    clear hb
    have HBK := n0_
    have HI2 := n1_
    refine hK.out _ _ ⟨(blk_cell HBK.out 0).trans rfl, (blk_cell HBK.out 1).trans rfl, (blk_cell HBK.out 2).trans rfl, (blk_cell HBK.out 3).trans rfl⟩ (fun hHeld => ?_)
    clear hK K
    refine norm_ (a' := ?_) ?_ ?_
    rotate_left
    ·show Act.put _ (some 24) _ = _
     simp only [zz]
     rfl
    refine pu_ (i := 13) (N := some 25) (v := ?_) (a' := ?_) #[true, true, true, true, true, true, true, true, true, true, true, true, true, true, false, true, true, false, false, false] ?_ ?_ ?_
    rotate_left
    ·intro w'
     go_simp
     rw [if_neg (by omega)]
    rotate_left
    ·simp only [zz]
     rfl
    refine pu_ (i := 14) (N := some 26) (v := ?_) (a' := ?_) #[true, true, true, true, true, true, true, true, true, true, true, true, true, true, true, true, true, false, false, false] ?_ ?_ ?_
    rotate_left
    ·intro w'
     go_simp
     rw [if_neg (by omega)]
    rotate_left
    ·simp only [zz]
     rfl
    refine one_ (i := 17) (N := some 29) #[true, true, true, true, true, true, true, true, true, true, true, true, true, true, true, true, true, true, false, false] rfl rfl (by kernel_rfl) (by decide) (fun K hK => ?_)
    refine goes_ Tryd.func29 (by kernel_rfl) rfl #[.int .i64 x.f3] (by rfl) rfl rfl mt ?_
    with_reducible refine (strconv_Itoa.calls x.f3 t3 _ (HG.out.below HI2.out.below) HQ3.out).mono ?_
    rintro e w37 ⟨rfl, hb⟩
    refine ⟨_, rfl, ?_⟩
    have n0_ := Aside0.mk (blk_below HBK.out hb)
    have n1_ := Aside0.mk (HI2.out.step hb)
    clear hb
    have HBK := n0_
    have HI2 := n1_
    refine hK.out _ _ ⟨(blk_cell HBK.out 0).trans rfl, (blk_cell HBK.out 1).trans rfl, (blk_cell HBK.out 2).trans rfl, (blk_cell HBK.out 3).trans rfl⟩ (fun hHeld => ?_)
    clear hK K
    refine norm_ (a' := ?_) ?_ ?_
    rotate_left
    ·show Act.put _ (some 29) _ = _
     simp only [zz]
     rfl
    refine pu_ (i := 18) (N := some 30) (v := ?_) (a' := ?_) #[true, true, true, true, true, true, true, true, true, true, true, true, true, true, true, true, true, true, true, false] ?_ ?_ ?_
    rotate_left
    ·intro w'
     go_simp
     rw [if_neg (by omega)]
    rotate_left
    ·simp only [zz]
     rfl
    refine oneL_ (i := 19) (N := some 31) #[true, true, true, true, true, true, true, true, true, true, true, true, true, true, true, true, true, true, true, true] rfl rfl (by kernel_rfl) (by decide) (fun K hK => ?_)
    refine goes_ Tryd.func38 (by kernel_rfl) rfl #[.pointer (some ⟨w.heap.size, 0, none⟩), .string ((((((((⟨#[59, 32]⟩ : ByteArray) ++ t0) ++ (⟨#[32]⟩ : ByteArray)) ++ t1) ++ (⟨#[32]⟩ : ByteArray)) ++ t2) ++ (⟨#[32]⟩ : ByteArray)) ++ t3)] (by rfl) rfl rfl mt ?_
    refine (HI2.out.more ((((((((⟨#[59, 32]⟩ : ByteArray) ++ t0) ++ (⟨#[32]⟩ : ByteArray)) ++ t1) ++ (⟨#[32]⟩ : ByteArray)) ++ t2) ++ (⟨#[32]⟩ : ByteArray)) ++ t3) HSZ.out).mono ?_
    rintro e wz ⟨rfl, hi3⟩
    refine ⟨_, rfl, ?_⟩
    have HI3 := Aside0.mk hi3
    clear hi3
    refine hK.out _ _ ?_
    clear hK K
    refine norm_ (a' := ?_) ?_ ?_
    rotate_left
    ·show Act.put _ (some 31) _ = _
     simp only [zz]
     rfl
    refine done_ (by kernel_rfl) ?_
    clear hHeld
    go_wp2
    cases gk with
    | zero => omega
    | succ gk =>
     go_roundg gk
     case measure => omega
     case rel => exact ⟨i + 1, _, congrArg (Value.int .i64) (by unfold wrap64; have := HR.out.2.1; omega), by omega, by omega, HI3, ⟨HS2.out⟩⟩
   ·rw [if_neg hz] at HS1; cases HS1
  ·obtain rfl : i = a0.length := by omega
   have hdi : decide ((a0.length : Int) < a0.length) = false := decide_eq_false (by omega)
   have HS1 := HS.out
   rw [List.drop_eq_nil_of_le (Nat.le_refl _)] at HS1
   injection HS1 with HS1
   subst HS1
   go_wp2_with (go_at_call 41; refine (Bld.string HI.out.bld HI.out.below.size).mono ?_; rintro e w2 ⟨rfl, hb⟩)
   go_ret
   exact ⟨rfl, HI.out.below.trans hb⟩
end Go.Proofs.YtenigkhfldafaaaDoor.A

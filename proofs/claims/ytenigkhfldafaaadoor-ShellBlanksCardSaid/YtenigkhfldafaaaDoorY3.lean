/- shell.Print: steps as a script. -/
import Derived.Test.YtenigkhfldafaaaDoorY2
namespace Go.Proofs.YtenigkhfldafaaaDoor.A
open Go.RowKit Go.Proofs.YtenigkhfldafaaaDoorW.PrintWords Go.Proofs.YtenigkhfldafaaaDoorW.PrintLast Go.Proofs.YtenigkhfldafaaaDoorW.PrintMore
def printL (k : Nat) : List S31 → List UInt8 → Option (ByteArray × Int)
 | [], acc => some (⟨acc.toArray⟩, 0)
 | a :: l, acc => (lineF k a).bind fun b => if b.2 = 0 then if acc.length + (b.1.size + 1) ≤ 100000000000000 then printL k l (acc ++ (b.1 ++ (⟨#[10]⟩ : ByteArray)).toList) else none else some (⟨#[]⟩, b.2)
def shell_Print.f (k : Nat) (l : List S31) : Option (ByteArray × Int) := if 1000 < l.length then some (⟨#[]⟩, 6) else printL k l []
theorem printL.mono (k : Nat) : ∀ (l : List S31) (acc : List UInt8), LeO (printL k l acc) (printL (k + 1) l acc)
 | [], _ => LeO.refl _
 | a :: l, acc => by
  unfold printL
  refine LeO.bind (lineF.mono _ _) fun b => ?_
  split
  ·split
   ·exact printL.mono k l _
   ·exact LeO.refl _
  ·exact LeO.refl _
theorem shell_Print.mono (l : List S31) (k : Nat) : LeO (shell_Print.f k l) (shell_Print.f (k + 1) l) := by
 unfold shell_Print.f
 split
 ·exact LeO.refl _
 ·exact printL.mono k l _
structure PrintIn (w0 : World) (acc : List UInt8) (w : World) : Prop where
 bld : Bld w0.heap.size w0.heap.size acc w
 below : Below w0.heap.size w0 w
theorem PrintIn.step {w0 w w' : World} {acc : List UInt8} (h : PrintIn w0 acc w) (hb : Below w.heap.size w w') : PrintIn w0 acc w' :=
 ⟨h.bld.below hb, h.below.trans (hb.mono h.below.size)⟩
theorem PrintIn.new (w : World) : PrintIn w [] (w.alloc (Obj.cells #[.pointer none, .slice none 0 0] 74)) := ⟨Bld.fresh w, below_new w _⟩
theorem PrintIn.more {w0 w : World} {acc : List UInt8} (h : PrintIn w0 acc w) (s : ByteArray) (hl : acc.length + s.size ≤ 140737488355328) :
  Calls Tryd.prog 38 #[.pointer (some ⟨w0.heap.size, 0, none⟩), .string s] w fun e w' => e = .returned (.tuple #[.int .i64 s.size, .nilIface]) ∧ PrintIn w0 (acc ++ s.toList) w' :=
 (Bld.write s h.bld hl h.below.size).mono fun _ _ ⟨he, hb, hw⟩ => ⟨he, hb, h.below.trans hw⟩
set_option maxHeartbeats 8000000 in
theorem shell_Print.calls (k : Nat) (A0 : Option Addr) (c0 : Nat) (a0 : List S31) (r1 : ByteArray) (r2 : Int) (w : World) (hG : Gw w) (hr0 : Kd.C k31 w A0 a0.length a0) (_hc0 : a0.length ≤ c0) (h : shell_Print.f k a0 = some (r1, r2)) :
  Calls Tryd.prog 23 #[.slice A0 a0.length c0] w fun e w' => e = .returned (.tuple #[.string r1, .int .i64 r2]) ∧ Below w.heap.size w w' := by
 have HR := Aside0.mk hr0
 have HG := Aside0.mk hG
 unfold shell_Print.f at h
 clear hr0 hG
 split at h
 case isTrue hl =>
  injection h with h
  injection h with e1 e2
  subst e1
  subst e2
  have hd : decide ((a0.length : Int) > 1000) = true := decide_eq_true (by omega)
  have hd' : decide ((1000 : Int) < a0.length) = true := decide_eq_true (by omega)
  go_enter Tryd.func23, Tryd.ntmps23
  go_wp2
  go_ret2
  exact ⟨rfl, Below.refl _ _⟩
 case isFalse hl =>
  have hd : decide ((a0.length : Int) > 1000) = false := decide_eq_false (by omega)
  have hd' : decide ((1000 : Int) < a0.length) = false := decide_eq_false (by omega)
  have HS0 := Aside0.mk h
  have HI0 := Aside0.mk (PrintIn.new w)
  clear h
  go_enter Tryd.func23, Tryd.ntmps23
  go_wp2
  go_loopg [14] a0.length (fun k' p wr => ∃ (i : Nat) (acc : List UInt8), p = .int .i64 (i : Int) ∧ i ≤ a0.length ∧ k' + i = a0.length ∧ Aside0 (PrintIn w acc wr) ∧ Aside0 (printL k (a0.drop i) acc = some (r1, r2)))
  case atStart => exact ⟨0, [], rfl, Nat.zero_le _, rfl, HI0, ⟨HS0.out⟩⟩
  case round =>
   obtain ⟨i, acc, rfl, hi, hki, HI, HS⟩ := hrel
   by_cases hlt : i < a0.length
   ·have hdi : decide ((i : Int) < a0.length) = true := decide_eq_true (by omega)
    obtain ⟨ad, A7, c7, e0, z0, z1, z2, z3, z4, z5, z6, z7, l7, g7⟩ := at_T31 (Kd.C_below HR.out HI.out.below) (i : Int) (by omega) (by omega)
    subst e0
    have hx : rd_T31 a0 (i : Int) = a0[i] := by
     show a0.getD i z31 = a0[i]
     rw [List.getD_eq_getElem?_getD, List.getElem?_eq_getElem hlt, Option.getD_some]
    rw [hx] at z0 z1 z2 z3 z4 z5 z6 z7 l7 g7
    simp only [Int.toNat_natCast] at z0 z1 z2 z3 z4 z5 z6 z7
    have HS1 := HS.out
    rw [List.drop_eq_getElem_cons hlt] at HS1
    clear hx
    generalize a0[i] = x at HS1 z0 z1 z2 z3 z4 z5 z6 z7 l7 g7
    change (lineF k x).bind _ = _ at HS1
    cases hset : lineF k x with
    | none => rw [hset] at HS1; cases HS1
    | some b =>
    obtain ⟨s, e⟩ := b
    rw [hset] at HS1
    simp only [Option.bind_some] at HS1
    have HSET : Aside0 (shell_Line.f k x.f0 x.f1 x.f2 x.f3 x.f4 x.f5 x.f6 x.f7 = some (s, e)) := ⟨hset⟩
    have HG7 := Aside0.mk g7
    have HL7 := Aside0.mk l7
    clear hset g7 l7
    by_cases he : e = 0
    ·subst he
     rw [if_pos rfl] at HS1
     by_cases hz : acc.length + (s.size + 1) ≤ 100000000000000
     ·rw [if_pos hz] at HS1
      have HS2 := Aside0.mk HS1
      have HZ := Aside0.mk hz
      have hsz1 : s.size + 1 ≤ 9223372036854775807 := by omega
      clear HS1 hz
      go_wp2_with (first | (go_at_call 18; refine (shell_Line.calls k x.f0 x.f1 x.f2 x.f3 x.f4 x.f5 x.f6 A7 c7 x.f7 s 0 _ (HG.out.below ((HI.out.step (below_new wr _)).below)) (Kd.C_alloc HG7.out _) HL7.out HSET.out).mono ?_; rintro e w2 ⟨rfl, hb⟩; have HI2 := Aside0.mk ((HI.out.step (below_new wr _)).step hb); clear hb) | (go_at_call 38; refine (HI2.out.more (s ++ (⟨#[10]⟩ : ByteArray)) (by have := HZ.out; have e_ : (s ++ (⟨#[10]⟩ : ByteArray)).size = s.size + 1 := (by rw [ByteArray.size_append]; rfl); omega)).mono ?_; rintro e w3 ⟨rfl, hi3⟩; have HI3 := Aside0.mk hi3; clear hi3))
      cases gk with
      | zero => omega
      | succ gk =>
       go_roundg gk
       case measure => omega
       case rel => exact ⟨i + 1, _, rfl, by omega, by omega, HI3, ⟨HS2.out⟩⟩
     ·rw [if_neg hz] at HS1; cases HS1
    ·rw [if_neg he] at HS1
     injection HS1 with HS1
     injection HS1 with e1 e2
     subst e1
     subst e2
     have hne : (e != 0) = true := bne_iff_ne.2 he
     clear he
     go_wp2_with (go_at_call 18; refine (shell_Line.calls k x.f0 x.f1 x.f2 x.f3 x.f4 x.f5 x.f6 A7 c7 x.f7 s e _ (HG.out.below ((HI.out.step (below_new wr _)).below)) (Kd.C_alloc HG7.out _) HL7.out HSET.out).mono ?_; rintro e w2 ⟨rfl, hb⟩; have HI2 := Aside0.mk ((HI.out.step (below_new wr _)).step hb); clear hb)
     go_ret2
     exact ⟨rfl, HI2.out.below⟩
   ·obtain rfl : i = a0.length := by omega
    have hdi : decide ((a0.length : Int) < a0.length) = false := decide_eq_false (by omega)
    have HS1 := HS.out
    rw [List.drop_eq_nil_of_le (Nat.le_refl _)] at HS1
    injection HS1 with HS1
    injection HS1 with e1 e2
    subst e1
    subst e2
    go_wp2_with (go_at_call 41; refine (Bld.string HI.out.bld HI.out.below.size).mono ?_; rintro e w2 ⟨rfl, hb⟩)
    go_ret2
    exact ⟨rfl, HI.out.below.trans hb⟩
end Go.Proofs.YtenigkhfldafaaaDoor.A

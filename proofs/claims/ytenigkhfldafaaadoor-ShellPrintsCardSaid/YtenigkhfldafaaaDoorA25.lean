import Derived.Test.YtenigkhfldafaaaDoorA0
import Derived.Test.YtenigkhfldafaaaDoorAH
import Derived.Test.YtenigkhfldafaaaDoorA10
import Derived.Test.YtenigkhfldafaaaDoorA21
import Derived.Test.YtenigkhfldafaaaDoorAF
import Derived.Test.YtenigkhfldafaaaDoorY3
import Derived.Test.YtenigkhfldafaaaDoorZ
namespace Go.Proofs.YtenigkhfldafaaaDoor.A
open Go.RowKit Go.Proofs.YtenigkhfldafaaaDoorW.PrintWords Go.Proofs.YtenigkhfldafaaaDoorW.PrintLast Go.Proofs.YtenigkhfldafaaaDoorW.PrintMore
attribute [local go_sem] max2_int min2_int max_two min_two max_three min_three max_four min_four
set_option linter.unusedVariables false
set_option linter.unusedSimpArgs false
set_option maxRecDepth 100000 in
def grapnellaw21_ShellPrints.l0 : Nat → List (S31) → ByteArray → Int → ByteArray → Int → Int → Option (Bool)
 | 0, _, _, _, _, _, _ => none
 | k + 1, x0, x3, x4, x5, x6, x7 => if x7 < (x0.length : Int) then (if x6 = 0 then (if 0 ≤ x7 then ((grapnelref21_Line.f k ((rd_T31 x0 x7).f0) ((rd_T31 x0 x7).f1) ((rd_T31 x0 x7).f2) ((rd_T31 x0 x7).f3) ((rd_T31 x0 x7).f4) ((rd_T31 x0 x7).f5) ((rd_T31 x0 x7).f6) ((rd_T31 x0 x7).f7)).bind fun bt539 => (if x5.size + bt539.1.size ≤ 9223372036854775807 then (if (x5 ++ bt539.1).size + 1 ≤ 9223372036854775807 then (grapnellaw21_ShellPrints.l0 k x0 x3 x4 ((x5 ++ bt539.1) ++ (⟨#[10]⟩ : ByteArray)) bt539.2 (wrap64 (x7 + 1))) else (none)) else (none))) else (none)) else (if x3.toList = ([] : List UInt8) then (if x4 = x6 then ((grapnellaw21_awake.f k).bind fun t541 => (some t541)) else (some false)) else (some false))) else (if x6 = 0 then (if x3.toList = x5.toList then (if x4 = x6 then ((grapnellaw21_awake.f k).bind fun t542 => (some t542)) else (some false)) else (some false)) else (if x3.toList = ([] : List UInt8) then (if x4 = x6 then ((grapnellaw21_awake.f k).bind fun t543 => (some t543)) else (some false)) else (some false)))
def grapnellaw21_ShellPrints.f (k : Nat) (l0 : List (S31)) : Option (Bool) := (grapnellaw21_few.f k l0).bind fun t533 => ((shell_Print.f k t533).bind fun bt536 => (grapnellaw21_ShellPrints.l0 k t533 bt536.1 bt536.2 (⟨#[]⟩ : ByteArray) 0 0))
set_option maxRecDepth 100000 in
theorem grapnellaw21_ShellPrints.mono_l : ∀ k, (∀ y0 y1 y2 y3 y4 y5, LeO (grapnellaw21_ShellPrints.l0 k y0 y1 y2 y3 y4 y5) (grapnellaw21_ShellPrints.l0 (k + 1) y0 y1 y2 y3 y4 y5))
 | 0 => fun _ _ _ _ _ _ r h => absurd (show (none : Option _) = some r from h) (by simp)
 | k + 1 => by
  have ih0 := grapnellaw21_ShellPrints.mono_l k
  ·intro y0 y1 y2 y3 y4 y5; unfold grapnellaw21_ShellPrints.l0
   repeat' first
   | (with_reducible exact ih0 _ _ _ _ _ _)
   | (with_reducible exact grapnellaw21_awake.mono _)
   | (with_reducible exact grapnellaw21_few.mono _ _)
   | (with_reducible exact grapnelref21_Line.mono _ _ _ _ _ _ _ _ _)
   | (with_reducible exact shell_Print.mono _ _)
   | (with_reducible exact LeO.refl _)
   | (with_reducible exact LeO.none _)
   | (with_reducible refine LeO.ite ?_ ?_)
   | (with_reducible refine LeO.bind ?_ (fun _ => ?_))
   | exact ih0 _ _ _ _ _ _
   | exact grapnellaw21_awake.mono _
   | exact grapnellaw21_few.mono _ _
   | exact grapnelref21_Line.mono _ _ _ _ _ _ _ _ _
   | exact shell_Print.mono _ _
   | exact LeO.none _
   | refine LeO.ite ?_ ?_
   | refine LeO.bind ?_ (fun _ => ?_)
set_option maxRecDepth 100000 in
theorem grapnellaw21_ShellPrints.mono : ∀ a0 k, LeO (grapnellaw21_ShellPrints.f k a0) (grapnellaw21_ShellPrints.f (k + 1) a0) := by
 intro a0 k; have ih0 := grapnellaw21_ShellPrints.mono_l k; unfold grapnellaw21_ShellPrints.f
 repeat' first
   | (with_reducible exact ih0 _ _ _ _ _ _)
   | (with_reducible exact grapnellaw21_awake.mono _)
   | (with_reducible exact grapnellaw21_few.mono _ _)
   | (with_reducible exact grapnelref21_Line.mono _ _ _ _ _ _ _ _ _)
   | (with_reducible exact shell_Print.mono _ _)
   | (with_reducible exact LeO.refl _)
   | (with_reducible exact LeO.none _)
   | (with_reducible refine LeO.ite ?_ ?_)
   | (with_reducible refine LeO.bind ?_ (fun _ => ?_))
   | exact ih0 _ _ _ _ _ _
   | exact grapnellaw21_awake.mono _
   | exact grapnellaw21_few.mono _ _
   | exact grapnelref21_Line.mono _ _ _ _ _ _ _ _ _
   | exact shell_Print.mono _ _
   | exact LeO.none _
   | refine LeO.ite ?_ ?_
   | refine LeO.bind ?_ (fun _ => ?_)
set_option maxHeartbeats 8000000 in
set_option maxRecDepth 100000 in
theorem grapnellaw21_ShellPrints.calls (k : Nat) (A0 : Option Addr) (c0 : Nat) (l0 : List (S31)) (r : Bool) (w : World) (hG : Gw w) (hr0 : Kd.C k31 w A0 l0.length l0) (hc0 : l0.length ≤ c0) (h : grapnellaw21_ShellPrints.f k l0 = some r) :
  Calls Tryd.prog 7 #[.slice A0 l0.length c0] w fun e w' => e = .returned (.bool r) ∧ Below w.heap.size w w' := by
 have hu31 := Tryd.underlying31; have HR0 := Aside0.mk hr0; have HC0 := Aside0.mk hc0; clear hr0 hc0; have HB := Aside0.mk (Below.refl w.heap.size w); have HG0 := Aside0.mk hG; clear hG; have H : ((grapnellaw21_few.f k l0).bind fun t533 => ((shell_Print.f k t533).bind fun bt536 => (grapnellaw21_ShellPrints.l0 k t533 bt536.1 bt536.2 (⟨#[]⟩ : ByteArray) 0 0))) = some r := h; clear h; replace H := Option.bind_eq_some_iff.mp H; obtain ⟨t533, A20, H⟩ := H; replace H : ((shell_Print.f k t533).bind fun bt536 => (grapnellaw21_ShellPrints.l0 k t533 bt536.1 bt536.2 (⟨#[]⟩ : ByteArray) 0 0)) = some r := H; have A2 := Aside0.mk A20; clear A20; replace H := Option.bind_eq_some_iff.mp H; obtain ⟨⟨t536, t537⟩, A30, H⟩ := H; replace H : (grapnellaw21_ShellPrints.l0 k t533 t536 t537 (⟨#[]⟩ : ByteArray) 0 0) = some r := H; have A3 := Aside0.mk A30; clear A30; have H' := Aside0.mk H; clear H; go_enter Tryd.func7, Tryd.ntmps7
 go_wp2_with (first | ((with_reducible refine gate_callee (f := 20) rfl ?_); refine goesL_ (some 11) rfl rfl Tryd.func20 (by kernel_rfl) rfl #[.slice A0 l0.length c0] rfl mt ?_; (with_reducible refine (grapnellaw21_few.calls k (fun k_ => k_ < w.heap.size) _ _ l0 t533 _ ?side1 A2.out).mono ?_); (case side1 => exact Kd.V_mk HC0.out (Kd.F_below (Kd.C_F k31_heap HR0.out) hb1)); rintro e w4 ⟨v534, rfl, ho0, hb⟩; refine ⟨_, rfl, ?_⟩; have n0_ := Aside0.mk (Kd.N_lower (Kd.N_mono (ok' := fun k_ => True) ho0 (fun k_ hk_ => trivial)) (below_size hb1)); have n1_ := Aside0.mk (below_step hb1 hb); clear HB; have HO535 := n0_; have HB := n1_; clear n0_ n1_; (try clear hb); (try clear hb2); (try clear hk); (try clear hi); (try clear ho0); obtain ⟨Ao5, co5, eo5⟩ := Kd.N_slice HO535.out; subst eo5) | ((with_reducible refine gate_callee (f := 23) rfl ?_); refine goesL_ (some 14) rfl rfl Tryd.func23 (by kernel_rfl) rfl #[.slice Ao5 t533.length co5] rfl mt ?_; (with_reducible refine (shell_Print.calls k _ _ t533 t536 t537 _ ?side3 ?side1 ?side2 A3.out).mono ?_); (case side1 => repeat (first | exact (Kd.N_reads' HO535.out).2.2 | (with_reducible refine Kd.C_alloc ?_ _) | (with_reducible refine Kd.C_drewN ?_ _) | (with_reducible refine Kd.C_drew ?_))); (case side2 => exact (Kd.N_reads' HO535.out).2.1); (case side3 => first | exact HG0.out | exact Gw.below HG0.out hb1); rintro e w6 ⟨rfl, hb⟩; refine ⟨_, rfl, ?_⟩; have n0_ := Aside0.mk (Kd.N_below (by (with_reducible repeat (first | apply Kd.N_alloc | apply Kd.N_drewN | apply Kd.N_drew)); exact HO535.out) hb); have n1_ := Aside0.mk (below_step hb1 hb); clear HO535; clear HB; have HO535 := n0_; have HB := n1_; clear n0_ n1_; (try clear hb); (try clear hb2); (try clear hk); (try clear hi)))
 go_loopg [5, 6, 7] k (fun kq v5 v6 v7 w' => ∃ (x5_1 : ByteArray) (x6_1 : Int) (x7_1 : Int), v5 = .string x5_1 ∧ v6 = .int .i64 x6_1 ∧ v7 = .int .i64 x7_1 ∧ Aside0 (grapnellaw21_ShellPrints.l0 kq t533 t536 t537 x5_1 x6_1 x7_1 = some r) ∧ Aside0 (kq ≤ k) ∧ Aside0 (Kd.N k31 31 w' w.heap.size (fun _ => True) (.slice Ao5 t533.length co5) t533) ∧ Aside0 (Below w.heap.size w w'))
 case atStart => exact ⟨((⟨#[]⟩ : ByteArray)), (0), (0), (by first | rfl | (simp; done) | (simp [*]; done)), (by first | rfl | (simp; done) | (simp [*]; done)), (by first | rfl | (simp; done) | (simp [*]; done)), H', ⟨Nat.le_refl _⟩, ⟨by (with_reducible repeat (first | apply Kd.N_alloc | apply Kd.N_drewN | apply Kd.N_drew)); exact HO535.out⟩, ⟨by repeat (first | (with_reducible first | exact HB.out | apply below_alloc | apply pw_below_drewN | apply below_drew1) | exact HB.out)⟩⟩
 case round =>
  clear H'; (try clear c2); (try clear p2); obtain ⟨x5_1, x6_1, x7_1, rfl, rfl, rfl, HA, HK1, HO_0, HB⟩ := hrel
  cases gk with
  | zero => exact absurd (show (none : Option (Bool)) = some r from HA.out) (fun h_ => nomatch h_)
  | succ k1 =>
   have H := HA.out; clear HA; simp only [grapnellaw21_ShellPrints.l0] at H
   by_cases c7 : x7_1 < (t533.length : Int)
   ·rw [if_pos c7] at H; have c7b0 : decide (x7_1 < (t533.length : Int)) = true := decide_eq_true c7; clear c7
    by_cases c8 : x6_1 = 0
    ·rw [if_pos c8] at H; have c8b0 : (x6_1 == 0) = true := beq_iff_eq.mpr c8; have c8b1 : (x6_1 != 0) = false := bne_eq_false_iff_eq.mpr c8; clear c8
     by_cases c9 : 0 ≤ x7_1
     ·rw [if_pos c9] at H; have c9b0 : decide (0 ≤ x7_1) = true := decide_eq_true c9; clear c9; replace H := Option.bind_eq_some_iff.mp H; obtain ⟨⟨t539, t540⟩, A100, H⟩ := H; replace H : (if x5_1.size + t539.size ≤ 9223372036854775807 then (if (x5_1 ++ t539).size + 1 ≤ 9223372036854775807 then (grapnellaw21_ShellPrints.l0 k1 t533 t536 t537 ((x5_1 ++ t539) ++ (⟨#[10]⟩ : ByteArray)) t540 (wrap64 (x7_1 + 1))) else (none)) else (none)) = some r := H; have A10 := Aside0.mk A100; clear A100
      by_cases c11 : x5_1.size + t539.size ≤ 9223372036854775807
      ·rw [if_pos c11] at H; have c11b0 := eq_true c11; have c11b1 : decide (x5_1.size + t539.size ≤ 9223372036854775807) = true := decide_eq_true c11; (try have c11b2 : (9223372036854775807 < x5_1.size + t539.size) = False := eq_false (Nat.not_lt.2 c11))
       by_cases c12 : (x5_1 ++ t539).size + 1 ≤ 9223372036854775807
       ·rw [if_pos c12] at H; have c12b0 := eq_true c12; have c12b1 : decide ((x5_1 ++ t539).size + 1 ≤ 9223372036854775807) = true := decide_eq_true c12; (try have c12b2 : (9223372036854775807 < (x5_1 ++ t539).size + 1) = False := eq_false (Nat.not_lt.2 c12)); (try have c12b3 : x5_1.size + t539.size + 1 ≤ 9223372036854775807 := by have h_ := c12; simp only [ByteArray.size_append] at h_; omega); have H' := Aside0.mk H; clear H; have p538 : 0 ≤ (x7_1 : Int) := of1; have q538 : x7_1 < (t533.length : Int) := of1; obtain ⟨ad538, A538_7, c538_7, e538, hx538_0, hx538_1, hx538_2, hx538_3, hx538_4, hx538_5, hx538_6, hx538_7, hl538_7, hi538_7⟩ := at_T31 (Kd.N_reads' HO_0.out).2.2 x7_1 p538 q538; cases e538; obtain ⟨ce538, hce538, hMe538, hcc538⟩ := Kd.N_get HO_0.out z31 x7_1 p538 (by first | exact q538 | exact of1 | (have e_ := (Kd.N_reads' HO_0.out).1; omega)); obtain ⟨ua538_7, uc538_7, rfl, ul538_7, ge538_7⟩ := k31_openF hMe538; have hv538_7 := hcc538 7 _ rfl; rw [add_field _ _ 7 (by omega)] at hv538_7; replace hv538_7 := Option.some.inj (hv538_7.symm.trans hx538_7)
        injection hv538_7 with hva_ hvn_ hvc_
        rw [hva_] at ge538_7; rw [hvc_] at ul538_7; have HL538_7 := Aside0.mk (show Kd.V Kd.bool 4 _ w.heap.size _ _ ((rd_T31 t533 x7_1).f7) from Kd.V_mk ul538_7 ge538_7); clear hva_ hvn_ hvc_ ge538_7 ul538_7; clear hcc538 hce538; have HR538_7 := Aside0.mk hi538_7; have HC538_7 := Aside0.mk hl538_7; clear hi538_7 hl538_7; replace p538 := eq_true p538; replace q538 := eq_true q538
        go_wp2_with (first | ((with_reducible refine gate_callee (f := 19) rfl ?_); refine goesL_ (some 32) rfl rfl Tryd.func19 (by kernel_rfl) rfl #[.agg #[.int .i64 ((rd_T31 t533 x7_1).f0), .int .i64 ((rd_T31 t533 x7_1).f1), .int .i64 ((rd_T31 t533 x7_1).f2), .int .i64 ((rd_T31 t533 x7_1).f3), .string ((rd_T31 t533 x7_1).f4), .string ((rd_T31 t533 x7_1).f5), .string ((rd_T31 t533 x7_1).f6), .slice A538_7 ((rd_T31 t533 x7_1).f7).length c538_7]] rfl mt ?_; (with_reducible refine (grapnelref21_Line.calls k1 ((rd_T31 t533 x7_1).f0) ((rd_T31 t533 x7_1).f1) ((rd_T31 t533 x7_1).f2) ((rd_T31 t533 x7_1).f3) ((rd_T31 t533 x7_1).f4) ((rd_T31 t533 x7_1).f5) ((rd_T31 t533 x7_1).f6) _ _ ((rd_T31 t533 x7_1).f7) t539 t540 _ ?side1 ?side2 A10.out).mono ?_); (case side1 => repeat (first | exact (by repeat (first | (with_reducible exact HR538_7.out) | (with_reducible refine Kd.C_alloc ?_ _) | (with_reducible refine Kd.C_drewN ?_ _) | (with_reducible refine Kd.C_drew ?_) | exact HR538_7.out)) | (with_reducible refine Kd.C_alloc ?_ _) | (with_reducible refine Kd.C_drewN ?_ _) | (with_reducible refine Kd.C_drew ?_))); (case side2 => exact HC538_7.out); rintro e w13 ⟨rfl, hb⟩; refine ⟨_, rfl, ?_⟩; have n0_ := Aside0.mk (Kd.N_below (by (with_reducible repeat (first | apply Kd.N_alloc | apply Kd.N_drewN | apply Kd.N_drew)); exact HO_0.out) hb); have n1_ := Aside0.mk (Kd.V_below (by (with_reducible repeat (first | apply Kd.V_alloc | apply Kd.V_drewN | apply Kd.V_drew)); exact HL538_7.out) hb); have n2_ := Aside0.mk (Kd.C_below (by repeat (first | (with_reducible exact HR538_7.out) | (with_reducible refine Kd.C_alloc ?_ _) | (with_reducible refine Kd.C_drewN ?_ _) | (with_reducible refine Kd.C_drew ?_) | exact HR538_7.out)) hb); have n3_ := Aside0.mk (below_step hb1 hb); clear HO_0; clear HL538_7; clear HR538_7; clear HB; have HO_0 := n0_; have HL538_7 := n1_; have HR538_7 := n2_; have HB := n3_; clear n0_ n1_ n2_ n3_; (try clear hb); (try clear hb2); (try clear hk); (try clear hi)))
        go_roundg k1
        case measure => have := HK1.out; omega
        case rel => exact ⟨((x5_1 ++ t539) ++ (⟨#[10]⟩ : ByteArray)), (t540), (wrap64 (x7_1 + 1)), (by first | rfl | (simp; done) | (simp [*]; done)), (by first | rfl | (simp; done) | (simp [*]; done)), (by first | rfl | (simp; done) | (simp [*]; done)), H', ⟨by have := HK1.out; omega⟩, ⟨by (with_reducible repeat (first | apply Kd.N_alloc | apply Kd.N_drewN | apply Kd.N_drew)); exact HO_0.out⟩, ⟨by repeat (first | (with_reducible first | exact HB.out | apply below_alloc | apply pw_below_drewN | apply below_drew1) | exact HB.out)⟩⟩
       ·rw [if_neg c12] at H; exact absurd H (by simp)
      ·rw [if_neg c11] at H; exact absurd H (by simp)
     ·rw [if_neg c9] at H; exact absurd H (by simp)
    ·rw [if_neg c8] at H; have c8b0 : (x6_1 == 0) = false := beq_eq_false_iff_ne.mpr c8; have c8b1 : (x6_1 != 0) = true := bne_iff_ne.mpr c8
     by_cases c14 : t536.toList = ([] : List UInt8)
     ·rw [if_pos c14] at H; have c14b0 : (t536.toList == ([] : List UInt8)) = true := beq_iff_eq.mpr c14; have c14b1 : (t536.toList != ([] : List UInt8)) = false := bne_eq_false_iff_eq.mpr c14; clear c14
      by_cases c15 : t537 = x6_1
      ·rw [if_pos c15] at H; have c15b0 : (t537 == x6_1) = true := beq_iff_eq.mpr c15; have c15b1 : (t537 != x6_1) = false := bne_eq_false_iff_eq.mpr c15; clear c15; replace H := Option.bind_eq_some_iff.mp H; obtain ⟨t541, A160, H⟩ := H; replace H : (some t541) = some r := H; have A16 := Aside0.mk A160; clear A160; obtain rfl := Option.some.inj H
       go_wp2_with (first | (go_at_call 11; (with_reducible refine (grapnellaw21_awake.calls k1  t541 _ A16.out).mono ?_); rintro e w17 ⟨rfl, hb⟩; have n0_ := Aside0.mk (Kd.N_below (by (with_reducible repeat (first | apply Kd.N_alloc | apply Kd.N_drewN | apply Kd.N_drew)); exact HO_0.out) hb); have n1_ := Aside0.mk (below_step hb1 hb); clear HO_0; clear HB; have HO_0 := n0_; have HB := n1_; clear n0_ n1_; (try clear hb); (try clear hb2); (try clear hk); (try clear hi)))
       go_ret; exact ⟨er1, by repeat (first | (with_reducible first | exact HB.out | apply below_alloc | apply pw_below_drewN | apply below_drew1) | exact HB.out)⟩
      ·rw [if_neg c15] at H; have c15b0 : (t537 == x6_1) = false := beq_eq_false_iff_ne.mpr c15; have c15b1 : (t537 != x6_1) = true := bne_iff_ne.mpr c15; obtain rfl := Option.some.inj H; go_wp2; go_ret; exact ⟨er1, by repeat (first | (with_reducible first | exact HB.out | apply below_alloc | apply pw_below_drewN | apply below_drew1) | exact HB.out)⟩
     ·rw [if_neg c14] at H; have c14b0 : (t536.toList == ([] : List UInt8)) = false := beq_eq_false_iff_ne.mpr c14; have c14b1 : (t536.toList != ([] : List UInt8)) = true := bne_iff_ne.mpr c14; obtain rfl := Option.some.inj H; go_wp2; go_ret; exact ⟨er1, by repeat (first | (with_reducible first | exact HB.out | apply below_alloc | apply pw_below_drewN | apply below_drew1) | exact HB.out)⟩
   ·rw [if_neg c7] at H; have c7b0 : decide (x7_1 < (t533.length : Int)) = false := decide_eq_false c7; clear c7
    by_cases c18 : x6_1 = 0
    ·rw [if_pos c18] at H; have c18b0 : (x6_1 == 0) = true := beq_iff_eq.mpr c18; have c18b1 : (x6_1 != 0) = false := bne_eq_false_iff_eq.mpr c18; clear c18
     by_cases c19 : t536.toList = x5_1.toList
     ·rw [if_pos c19] at H; have c19b0 : (t536.toList == x5_1.toList) = true := beq_iff_eq.mpr c19; have c19b1 : (t536.toList != x5_1.toList) = false := bne_eq_false_iff_eq.mpr c19; clear c19
      by_cases c20 : t537 = x6_1
      ·rw [if_pos c20] at H; have c20b0 : (t537 == x6_1) = true := beq_iff_eq.mpr c20; have c20b1 : (t537 != x6_1) = false := bne_eq_false_iff_eq.mpr c20; clear c20; replace H := Option.bind_eq_some_iff.mp H; obtain ⟨t542, A210, H⟩ := H; replace H : (some t542) = some r := H; have A21 := Aside0.mk A210; clear A210; obtain rfl := Option.some.inj H
       go_wp2_with (first | (go_at_call 11; (with_reducible refine (grapnellaw21_awake.calls k1  t542 _ A21.out).mono ?_); rintro e w22 ⟨rfl, hb⟩; have n0_ := Aside0.mk (Kd.N_below (by (with_reducible repeat (first | apply Kd.N_alloc | apply Kd.N_drewN | apply Kd.N_drew)); exact HO_0.out) hb); have n1_ := Aside0.mk (below_step hb1 hb); clear HO_0; clear HB; have HO_0 := n0_; have HB := n1_; clear n0_ n1_; (try clear hb); (try clear hb2); (try clear hk); (try clear hi)))
       go_ret; exact ⟨er1, by repeat (first | (with_reducible first | exact HB.out | apply below_alloc | apply pw_below_drewN | apply below_drew1) | exact HB.out)⟩
      ·rw [if_neg c20] at H; have c20b0 : (t537 == x6_1) = false := beq_eq_false_iff_ne.mpr c20; have c20b1 : (t537 != x6_1) = true := bne_iff_ne.mpr c20; obtain rfl := Option.some.inj H; go_wp2; go_ret; exact ⟨er1, by repeat (first | (with_reducible first | exact HB.out | apply below_alloc | apply pw_below_drewN | apply below_drew1) | exact HB.out)⟩
     ·rw [if_neg c19] at H; have c19b0 : (t536.toList == x5_1.toList) = false := beq_eq_false_iff_ne.mpr c19; have c19b1 : (t536.toList != x5_1.toList) = true := bne_iff_ne.mpr c19; obtain rfl := Option.some.inj H; go_wp2; go_ret; exact ⟨er1, by repeat (first | (with_reducible first | exact HB.out | apply below_alloc | apply pw_below_drewN | apply below_drew1) | exact HB.out)⟩
    ·rw [if_neg c18] at H; have c18b0 : (x6_1 == 0) = false := beq_eq_false_iff_ne.mpr c18; have c18b1 : (x6_1 != 0) = true := bne_iff_ne.mpr c18
     by_cases c23 : t536.toList = ([] : List UInt8)
     ·rw [if_pos c23] at H; have c23b0 : (t536.toList == ([] : List UInt8)) = true := beq_iff_eq.mpr c23; have c23b1 : (t536.toList != ([] : List UInt8)) = false := bne_eq_false_iff_eq.mpr c23; clear c23
      by_cases c24 : t537 = x6_1
      ·rw [if_pos c24] at H; have c24b0 : (t537 == x6_1) = true := beq_iff_eq.mpr c24; have c24b1 : (t537 != x6_1) = false := bne_eq_false_iff_eq.mpr c24; clear c24; replace H := Option.bind_eq_some_iff.mp H; obtain ⟨t543, A250, H⟩ := H; replace H : (some t543) = some r := H; have A25 := Aside0.mk A250; clear A250; obtain rfl := Option.some.inj H
       go_wp2_with (first | (go_at_call 11; (with_reducible refine (grapnellaw21_awake.calls k1  t543 _ A25.out).mono ?_); rintro e w26 ⟨rfl, hb⟩; have n0_ := Aside0.mk (Kd.N_below (by (with_reducible repeat (first | apply Kd.N_alloc | apply Kd.N_drewN | apply Kd.N_drew)); exact HO_0.out) hb); have n1_ := Aside0.mk (below_step hb1 hb); clear HO_0; clear HB; have HO_0 := n0_; have HB := n1_; clear n0_ n1_; (try clear hb); (try clear hb2); (try clear hk); (try clear hi)))
       go_ret; exact ⟨er1, by repeat (first | (with_reducible first | exact HB.out | apply below_alloc | apply pw_below_drewN | apply below_drew1) | exact HB.out)⟩
      ·rw [if_neg c24] at H; have c24b0 : (t537 == x6_1) = false := beq_eq_false_iff_ne.mpr c24; have c24b1 : (t537 != x6_1) = true := bne_iff_ne.mpr c24; obtain rfl := Option.some.inj H; go_wp2; go_ret; exact ⟨er1, by repeat (first | (with_reducible first | exact HB.out | apply below_alloc | apply pw_below_drewN | apply below_drew1) | exact HB.out)⟩
     ·rw [if_neg c23] at H; have c23b0 : (t536.toList == ([] : List UInt8)) = false := beq_eq_false_iff_ne.mpr c23; have c23b1 : (t536.toList != ([] : List UInt8)) = true := bne_iff_ne.mpr c23; obtain rfl := Option.some.inj H; go_wp2; go_ret; exact ⟨er1, by repeat (first | (with_reducible first | exact HB.out | apply below_alloc | apply pw_below_drewN | apply below_drew1) | exact HB.out)⟩
end Go.Proofs.YtenigkhfldafaaaDoor.A

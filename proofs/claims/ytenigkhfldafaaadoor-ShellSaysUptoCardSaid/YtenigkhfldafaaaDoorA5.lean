import Derived.Test.YtenigkhfldafaaaDoorA0
import Derived.Test.YtenigkhfldafaaaDoorZ
namespace Go.Proofs.YtenigkhfldafaaaDoor.A
open Go.RowKit Go.Proofs.YtenigkhfldafaaaDoorW.PrintWords Go.Proofs.YtenigkhfldafaaaDoorW.PrintLast Go.Proofs.YtenigkhfldafaaaDoorW.PrintMore
attribute [local go_sem] max2_int min2_int max_two min_two max_three min_three max_four min_four
set_option linter.unusedVariables false
set_option linter.unusedSimpArgs false
set_option maxRecDepth 100000 in
mutual
def shell_counted.j0 : Nat → ByteArray → ByteArray → Bool → Option (Int × Bool)
 | 0, _, _, _ => none
 | k + 1, x0, x4, x16 => if x16 = true then (some (0, false)) else (if x4.size ≤ 9223372036854775807 then ((some (bytesOf x4 : List Int)).bind fun y147 => (shell_counted.l0 k x0 x4 0 y147 (y147.length : Int) 0)) else (none))
def shell_counted.l0 : Nat → ByteArray → ByteArray → Int → List Int → Int → Int → Option (Int × Bool)
 | 0, _, _, _, _, _, _ => none
 | k + 1, x0, x4, x5, x18, x19, x20 => if x20 < x19 then (if 0 ≤ x20 then (if x20 < (x18.length : Int) then (if (rd x18 x20) < 48 then (some (0, false)) else (if (rd x18 x20) > 57 then (some (0, false)) else (shell_counted.l0 k x0 x4 (wrap64 ((wrap64 (10 * x5)) + (((rd x18 x20) - 48) % 256))) x18 x19 (wrap64 (x20 + 1))))) else (none)) else (none)) else (if (x4.size : Int) < (x0.size : Int) then (some (wrap64 (-x5), true)) else (some (x5, true)))
end
def shell_counted.f (k : Nat) (a0 : ByteArray) : Option (Int × Bool) := (strings_TrimPrefix.f a0 (⟨#[45]⟩ : ByteArray)).bind fun t146 => (if t146.toList = ([] : List UInt8) then (shell_counted.j0 k a0 t146 true) else (shell_counted.j0 k a0 t146 (decide ((t146.size : Int) > 18))))
set_option maxRecDepth 100000 in
theorem shell_counted.mono_l : ∀ k, (∀ y0 y1 y2, LeO (shell_counted.j0 k y0 y1 y2) (shell_counted.j0 (k + 1) y0 y1 y2)) ∧ (∀ y0 y1 y2 y3 y4 y5, LeO (shell_counted.l0 k y0 y1 y2 y3 y4 y5) (shell_counted.l0 (k + 1) y0 y1 y2 y3 y4 y5))
 | 0 => ⟨fun _ _ _ r h => no_ h, fun _ _ _ _ _ _ r h => no_ h⟩
 | k + 1 => by
  obtain ⟨ih0, ih1⟩ := shell_counted.mono_l k; refine ⟨?_, ?_⟩
  ·intro y0 y1 y2; unfold shell_counted.j0
   repeat' first
   | (with_reducible exact ih0 _ _ _)
   | (with_reducible exact ih1 _ _ _ _ _ _)
   | (with_reducible exact LeO.refl _)
   | (with_reducible exact LeO.none _)
   | (with_reducible refine LeO.ite ?_ ?_)
   | (with_reducible refine LeO.bind ?_ (fun _ => ?_))
  ·intro y0 y1 y2 y3 y4 y5; unfold shell_counted.l0
   repeat' first
   | (with_reducible exact ih0 _ _ _)
   | (with_reducible exact ih1 _ _ _ _ _ _)
   | (with_reducible exact LeO.refl _)
   | (with_reducible exact LeO.none _)
   | (with_reducible refine LeO.ite ?_ ?_)
   | (with_reducible refine LeO.bind ?_ (fun _ => ?_))
set_option maxRecDepth 100000 in
theorem shell_counted.mono : ∀ a0 k, LeO (shell_counted.f k a0) (shell_counted.f (k + 1) a0) := by
 intro a0 k; obtain ⟨ih0, ih1⟩ := shell_counted.mono_l k; unfold shell_counted.f
 repeat' first
   | (with_reducible exact ih0 _ _ _)
   | (with_reducible exact ih1 _ _ _ _ _ _)
   | (with_reducible exact LeO.refl _)
   | (with_reducible exact LeO.none _)
   | (with_reducible refine LeO.ite ?_ ?_)
   | (with_reducible refine LeO.bind ?_ (fun _ => ?_))
set_option maxHeartbeats 8000000 in
set_option maxRecDepth 100000 in
theorem shell_counted.calls (k : Nat) (a0 : ByteArray) (r1 : Int) (r2 : Bool) (w : World) (h : shell_counted.f k a0 = some (r1, r2)) :
  Calls Tryd.prog 61 #[.string a0] w fun e w' => e = .returned (.tuple #[.int .i64 r1, .bool r2]) ∧ Below w.heap.size w w' := by
 have HB := Aside0.mk (Below.refl w.heap.size w); have H : ((strings_TrimPrefix.f a0 (⟨#[45]⟩ : ByteArray)).bind fun t146 => (if t146.toList = ([] : List UInt8) then (shell_counted.j0 k a0 t146 true) else (shell_counted.j0 k a0 t146 (decide ((t146.size : Int) > 18))))) = some (r1, r2) := h; clear h; replace H := Option.bind_eq_some_iff.mp H; obtain ⟨t146, A20, H⟩ := H; replace H : (if t146.toList = ([] : List UInt8) then (shell_counted.j0 k a0 t146 true) else (shell_counted.j0 k a0 t146 (decide ((t146.size : Int) > 18)))) = some (r1, r2) := H; have A2 := Aside0.mk A20; clear A20; have HC3 := Aside0.mk H; clear H; go_enter Tryd.func61, Tryd.ntmps61
 go_upto_region 2 with (first | ((with_reducible refine gate_callee (f := 70) rfl ?_); refine goesL_ (some 9) rfl rfl Tryd.func70 (by kernel_rfl) rfl #[.string a0, .string (⟨#[45]⟩ : ByteArray)] rfl mt ?_; (with_reducible refine (strings_TrimPrefix.calls a0 (⟨#[45]⟩ : ByteArray) t146 _ A2.out).mono ?_); rintro e w' ⟨rfl, ⟨nd, rfl⟩⟩; refine ⟨_, rfl, ?_⟩))
 (try simp only [Act.put, List.setIfInBounds_toArray, List.set_cons_zero, List.set_cons_succ])
 go_cut [16] (fun v16 wc => ∃ (kq : Nat) (x16_2 : Bool), v16 = .bool x16_2 ∧ Aside0 (shell_counted.j0 kq a0 t146 x16_2 = some (r1, r2)) ∧ Aside0 (kq ≤ k) ∧ Aside0 (Below w.heap.size w wc))
 case first =>
  have H := HC3.out; clear HC3
  by_cases c4 : t146.toList = ([] : List UInt8)
  ·rw [if_pos c4] at H; have c4b0 : (t146.toList == ([] : List UInt8)) = true := beq_iff_eq.mpr c4; have c4b1 : (t146.toList != ([] : List UInt8)) = false := bne_eq_false_iff_eq.mpr c4; clear c4; (first | rw [c4b0] | (simp only [i64_w, i32_w]; rw [c4b0]) | skip); have H' := Aside0.mk H; clear H; go_wp2
   go_meet
   case rel => exact ⟨_, (true), (by first | rfl | (simp; done) | (simp [*]; done)), H', ⟨by first | omega | exact Nat.le_refl _⟩, ⟨by repeat (first | (with_reducible first | exact HB.out | apply ba | apply bn | apply bd) | exact HB.out)⟩⟩
  ·rw [if_neg c4] at H; have c4b0 : (t146.toList == ([] : List UInt8)) = false := beq_eq_false_iff_ne.mpr c4; have c4b1 : (t146.toList != ([] : List UInt8)) = true := bne_iff_ne.mpr c4; (first | rw [c4b0] | (simp only [i64_w, i32_w]; rw [c4b0]) | skip); have H' := Aside0.mk H; clear H; go_wp2
   go_meet
   case rel => exact ⟨_, (decide ((t146.size : Int) > 18)), (by first | rfl | (simp; done) | (simp [*]; done)), H', ⟨by first | omega | exact Nat.le_refl _⟩, ⟨by repeat (first | (with_reducible first | exact HB.out | apply ba | apply bn | apply bd) | exact HB.out)⟩⟩
 case rest =>
  clear HC3; (try clear p2); (try clear c4); (try clear c4b0); (try clear c4b1); obtain ⟨kq, x16_2, rfl, HA, HJ2, HB⟩ := hcut
  cases kq with
  | zero => exact absurd (show (none : Option (Int × Bool)) = some (r1, r2) from HA.out) (fun h_ => nomatch h_)
  | succ kj2 =>
   have H := HA.out; clear HA; simp only [shell_counted.j0] at H
   by_cases c5 : x16_2 = true
   ·subst c5
    (have H1 : (some (0, false)) = some (r1, r2) := by rw [if_pos rfl] at H; exact H); clear H; have H := H1; clear H1; simp only [Option.some.injEq, Prod.mk.injEq] at H; obtain ⟨rfl, rfl⟩ := H; go_wp2
    go_ret2
    exact ⟨er1, by repeat (first | (with_reducible first | exact HB.out | apply ba | apply bn | apply bd) | exact HB.out)⟩
   ·replace c5 := Bool.eq_false_iff.mpr c5; subst c5; (have H1 : (if t146.size ≤ 9223372036854775807 then ((some (bytesOf t146 : List Int)).bind fun y147 => (shell_counted.l0 kj2 a0 t146 0 y147 (y147.length : Int) 0)) else (none)) = some (r1, r2) := by rw [if_neg (show ¬ (false = true) by decide)] at H; exact H); clear H; have H := H1; clear H1
    by_cases c6 : t146.size ≤ 9223372036854775807
    ·rw [if_pos c6] at H; have c6b0 := eq_true c6; have c6b1 : decide (t146.size ≤ 9223372036854775807) = true := decide_eq_true c6; (try have c6b2 : (9223372036854775807 < t146.size) = False := eq_false (Nat.not_lt.2 c6)); clear c6; obtain ⟨y147, hy147⟩ : ∃ y_ : List Int, y_ = (bytesOf t146) := ⟨_, rfl⟩; (replace H : (shell_counted.l0 kj2 a0 t146 0 y147 (y147.length : Int) 0) = some (r1, r2) := by first | (rw [hy147]; with_reducible exact H) | (have H2_ := (Option.bind_some _ _).symm.trans H; rw [hy147]; with_reducible exact H2_) | (have H2_ := (Option.bind_some _ _).symm.trans H; with_reducible exact H2_) | with_reducible exact H | (rw [hy147]; exact H) | exact H); have Ny147 := Aside0.mk hy147; clear hy147; have H' := Aside0.mk H; clear H
     go_wp2_with (first | ((with_reducible refine gate_dst (N := 18) rfl ?_); (try (refine gate_guard (by rfl) ?_; dsimp only)); refine V_conv _ 5 rfl (N := 18) rfl 9 72 _ rfl t146 rfl Tryd.underlying9 Tryd.underlying72 Tryd.underlying5 of1 (Below.refl _ _) (Nat.le_refl _) ?_; intro v148 w7 ho8 hb hg_ hnew_; clear hg_ hnew_; (first | rw [← Ny147.out] at ho8 | (simp only [Int.reduceToNat] at ho8; rw [← Ny147.out] at ho8)); have n0_ := Aside0.mk (Kd.V_lower (Kd.V_mono (ok' := fun k_ => True) ho8 (fun k_ hk_ => trivial)) (below_size hb1)); have n1_ := Aside0.mk (below_step hb1 hb); clear HB; have HO149 := n0_; have HB := n1_; clear n0_ n1_; clear hb ho8; obtain ⟨Ao9, co9, eo9⟩ := Kd.V_slice HO149.out; subst eo9))
     go_loopg [5, 20] kj2 (fun kq v5 v20 w' => ∃ (x5_2 : Int) (x20_2 : Int), v5 = .int .i64 x5_2 ∧ v20 = .int .i64 x20_2 ∧ Aside0 (shell_counted.l0 kq a0 t146 x5_2 y147 (y147.length : Int) x20_2 = some (r1, r2)) ∧ Aside0 (kq ≤ kj2) ∧ Aside0 (Kd.V (Kd.int .u8) 5 w' w.heap.size (fun _ => True) (.slice Ao9 y147.length co9) y147) ∧ Aside0 (Below w.heap.size w w'))
     case atStart => exact ⟨(0), (0), (by first | rfl | (simp; done) | (simp [*]; done)), (by first | rfl | (simp; done) | (simp [*]; done)), H', ⟨Nat.le_refl _⟩, ⟨by (with_reducible repeat (first | apply Kd.V_alloc | apply Kd.V_drewN | apply Kd.V_drew)); exact HO149.out⟩, ⟨by repeat (first | (with_reducible first | exact HB.out | apply ba | apply bn | apply bd) | exact HB.out)⟩⟩
     case round =>
      clear H'; (try clear p2); (try clear c4); (try clear c4b0); (try clear c4b1); (try clear c5); (try clear c6); (try clear c6b0); (try clear c6b1); (try clear c6b2); (try clear c7); (try clear p2); obtain ⟨x5_2, x20_2, rfl, rfl, HA, HK2, HO_18, HB⟩ := hrel
      cases gk with
      | zero => exact absurd (show (none : Option (Int × Bool)) = some (r1, r2) from HA.out) (fun h_ => nomatch h_)
      | succ k2 =>
       have H := HA.out; clear HA; simp only [shell_counted.l0] at H
       by_cases c10 : x20_2 < (y147.length : Int)
       ·rw [if_pos c10] at H; have c10b0 : decide (x20_2 < (y147.length : Int)) = true := decide_eq_true c10; clear c10
        by_cases c11 : 0 ≤ x20_2
        ·rw [if_pos c11] at H; have c11b0 : decide (0 ≤ x20_2) = true := decide_eq_true c11; clear c11
         by_cases c12 : x20_2 < (y147.length : Int)
         ·rw [if_pos c12] at H; have c12b0 : decide (x20_2 < (y147.length : Int)) = true := decide_eq_true c12; clear c12
          by_cases c13 : (rd y147 x20_2) < 48
          ·rw [if_pos c13] at H; have c13b0 : decide ((rd y147 x20_2) < 48) = true := decide_eq_true c13; clear c13; simp only [Option.some.injEq, Prod.mk.injEq] at H; obtain ⟨rfl, rfl⟩ := H; have p150 : 0 ≤ (x20_2 : Int) := of1; have q150 : x20_2 < (y147.length : Int) := of1; obtain ⟨ad150, e150, hx150_0⟩ := Kd.at_int (Kd.V_reads' HO_18.out).2.2 x20_2 p150 q150; cases e150; replace p150 := eq_true p150; replace q150 := eq_true q150; go_wp2
           go_ret2
           exact ⟨er1, by repeat (first | (with_reducible first | exact HB.out | apply ba | apply bn | apply bd) | exact HB.out)⟩
          ·rw [if_neg c13] at H; have c13b0 : decide ((rd y147 x20_2) < 48) = false := decide_eq_false c13; clear c13
           by_cases c14 : (rd y147 x20_2) > 57
           ·rw [if_pos c14] at H; have c14b0 : decide (57 < (rd y147 x20_2)) = true := decide_eq_true c14; clear c14; simp only [Option.some.injEq, Prod.mk.injEq] at H; obtain ⟨rfl, rfl⟩ := H; have p150 : 0 ≤ (x20_2 : Int) := of1; have q150 : x20_2 < (y147.length : Int) := of1; obtain ⟨ad150, e150, hx150_0⟩ := Kd.at_int (Kd.V_reads' HO_18.out).2.2 x20_2 p150 q150; cases e150; replace p150 := eq_true p150; replace q150 := eq_true q150; go_wp2
            go_ret2
            exact ⟨er1, by repeat (first | (with_reducible first | exact HB.out | apply ba | apply bn | apply bd) | exact HB.out)⟩
           ·rw [if_neg c14] at H; have c14b0 : decide (57 < (rd y147 x20_2)) = false := decide_eq_false c14; clear c14; have H' := Aside0.mk H; clear H; have p150 : 0 ≤ (x20_2 : Int) := of1; have q150 : x20_2 < (y147.length : Int) := of1; obtain ⟨ad150, e150, hx150_0⟩ := Kd.at_int (Kd.V_reads' HO_18.out).2.2 x20_2 p150 q150; cases e150; replace p150 := eq_true p150; replace q150 := eq_true q150; go_wp2
            go_roundg k2
            case measure => have := HJ2.out; have := HK2.out; omega
            case rel => exact ⟨(wrap64 ((wrap64 (10 * x5_2)) + (((rd y147 x20_2) - 48) % 256))), (wrap64 (x20_2 + 1)), (by first | rfl | (simp; done) | (simp [*]; done)), (by first | rfl | (simp; done) | (simp [*]; done)), H', ⟨by have := HJ2.out; have := HK2.out; omega⟩, ⟨by (with_reducible repeat (first | apply Kd.V_alloc | apply Kd.V_drewN | apply Kd.V_drew)); exact HO_18.out⟩, ⟨by repeat (first | (with_reducible first | exact HB.out | apply ba | apply bn | apply bd) | exact HB.out)⟩⟩
         ·rw [if_neg c12] at H; exact absurd H (by simp)
        ·rw [if_neg c11] at H; exact absurd H (by simp)
       ·rw [if_neg c10] at H; have c10b0 : decide (x20_2 < (y147.length : Int)) = false := decide_eq_false c10; clear c10
        by_cases c15 : (t146.size : Int) < (a0.size : Int)
        ·rw [if_pos c15] at H; have c15b0 : decide ((t146.size : Int) < (a0.size : Int)) = true := decide_eq_true c15; have c15b1 : decide (t146.size < a0.size) = true := decide_eq_true (Int.ofNat_lt.mp c15); clear c15; simp only [Option.some.injEq, Prod.mk.injEq] at H; obtain ⟨rfl, rfl⟩ := H; go_wp2
         go_ret2
         exact ⟨er1, by repeat (first | (with_reducible first | exact HB.out | apply ba | apply bn | apply bd) | exact HB.out)⟩
        ·rw [if_neg c15] at H; have c15b0 : decide ((t146.size : Int) < (a0.size : Int)) = false := decide_eq_false c15; have c15b1 : decide (t146.size < a0.size) = false := decide_eq_false (fun h => c15 (Int.ofNat_lt.mpr h)); clear c15; simp only [Option.some.injEq, Prod.mk.injEq] at H; obtain ⟨rfl, rfl⟩ := H; go_wp2
         go_ret2
         exact ⟨er1, by repeat (first | (with_reducible first | exact HB.out | apply ba | apply bn | apply bd) | exact HB.out)⟩
    ·rw [if_neg c6] at H; exact absurd H (by simp)
end Go.Proofs.YtenigkhfldafaaaDoor.A

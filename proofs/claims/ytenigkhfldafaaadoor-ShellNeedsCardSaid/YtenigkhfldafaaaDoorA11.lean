-- PRINTED by print.py (a twelfth state) out of the translation. Not trusted: Lean checks it.
import Derived.Test.YtenigkhfldafaaaDoorA0
import Derived.Test.YtenigkhfldafaaaDoorA10
namespace Go.Proofs.YtenigkhfldafaaaDoor.A
open Go.RowKit Go.Proofs.YtenigkhfldafaaaDoorW.PrintWords Go.Proofs.YtenigkhfldafaaaDoorW.PrintLast Go.Proofs.YtenigkhfldafaaaDoorW.PrintMore
attribute [local go_sem] max2_int min2_int max_two min_two max_three min_three max_four min_four   -- for this text's walks alone
set_option linter.unusedVariables false
set_option linter.unusedSimpArgs false

/-! ### grapnellaw21_ShellNeeds: function 3 -/
set_option maxRecDepth 100000 in
mutual
def grapnellaw21_ShellNeeds.j0 : Nat → Int → Int → Bool → Option (Bool)
  | 0, _, _, _ => none
  | k + 1, x0, x1, x26 => if x26 = true then ((grapnellaw21_awake.f k).bind fun t272 => (some t272)) else ((grapnelref21_Needs.f).bind fun t273 => (if 0 ≤ (wrap64 (x0 - 1)) then (if (wrap64 (x0 - 1)) < (t273.length : Int) then ((grapnelref21_Names.f).bind fun t277 => (if (wrap64 (x0 - 1)) < (t277.length : Int) then (grapnellaw21_ShellNeeds.l0 k x0 x1 (rdOf ByteArray.empty t273 (wrap64 (x0 - 1))) (rdOf ByteArray.empty t277 (wrap64 (x0 - 1))) 0) else (none))) else (none)) else (none)))
def grapnellaw21_ShellNeeds.l0 : Nat → Int → Int → ByteArray → ByteArray → Int → Option (Bool)
  | 0, _, _, _, _, _ => none
  | k + 1, x0, x1, x5, x6, x7 => if x7 < x1 then (if x7 < (x5.size : Int) then (if 0 ≤ x7 then (grapnellaw21_ShellNeeds.j2 k x0 x1 x5 x6 x7 (bt x5 x7)) else (none)) else (grapnellaw21_ShellNeeds.j2 k x0 x1 x5 x6 x7 78)) else ((shell_Parse.f k x6).bind fun bt281 => (if x1 = (x5.size : Int) then (if bt281.2.2 = 0 then (if bt281.2.1 = 0 then (if (bt281.1.length : Int) = 1 then (if 0 < (bt281.1.length : Int) then (if ((rd_T31 bt281.1 0).f0) = x0 then ((grapnellaw21_awake.f k).bind fun t287 => (some t287)) else (some false)) else (none)) else (some false)) else (some false)) else (some false)) else (if x1 > (x5.size : Int) then (if bt281.2.2 = 4 then (if bt281.2.1 = 1 then (if (bt281.1.length : Int) = 0 then ((grapnellaw21_awake.f k).bind fun t288 => (some t288)) else (some false)) else (some false)) else (some false)) else (if bt281.2.2 = 3 then (if bt281.2.1 = 1 then (if (bt281.1.length : Int) = 0 then ((grapnellaw21_awake.f k).bind fun t289 => (some t289)) else (some false)) else (some false)) else (some false)))))
def grapnellaw21_ShellNeeds.j2 : Nat → Int → Int → ByteArray → ByteArray → Int → Int → Option (Bool)
  | 0, _, _, _, _, _, _ => none
  | k + 1, x0, x1, x5, x6, x7, x8 => if x8 = 80 then (grapnellaw21_ShellNeeds.j3 k x0 x1 x5 x6 x7 x8 (x8 == 80)) else (if x8 = 81 then (grapnellaw21_ShellNeeds.j3 k x0 x1 x5 x6 x7 x8 (x8 == 81)) else (grapnellaw21_ShellNeeds.j3 k x0 x1 x5 x6 x7 x8 (x8 == 84)))
def grapnellaw21_ShellNeeds.j3 : Nat → Int → Int → ByteArray → ByteArray → Int → Int → Bool → Option (Bool)
  | 0, _, _, _, _, _, _, _ => none
  | k + 1, x0, x1, x5, x6, x7, x50, x53 => if x53 = true then (if x6.size + 5 ≤ 9223372036854775807 then (grapnellaw21_ShellNeeds.l0 k x0 x1 x5 (x6 ++ (⟨#[32, 34, 47, 97, 34]⟩ : ByteArray)) (wrap64 (x7 + 1))) else (none)) else (if x50 = 75 then (if x6.size + 3 ≤ 9223372036854775807 then (grapnellaw21_ShellNeeds.l0 k x0 x1 x5 (x6 ++ (⟨#[32, 48, 49]⟩ : ByteArray)) (wrap64 (x7 + 1))) else (none)) else (if x6.size + 2 ≤ 9223372036854775807 then (grapnellaw21_ShellNeeds.l0 k x0 x1 x5 (x6 ++ (⟨#[32, 55]⟩ : ByteArray)) (wrap64 (x7 + 1))) else (none)))
end
def grapnellaw21_ShellNeeds.f (k : Nat) (a0 : Int) (a1 : Int) : Option (Bool) := if a0 < 1 then (grapnellaw21_ShellNeeds.j0 k a0 a1 true) else (if a0 > 25 then (grapnellaw21_ShellNeeds.j0 k a0 a1 true) else (if a1 < 0 then (grapnellaw21_ShellNeeds.j0 k a0 a1 true) else (grapnellaw21_ShellNeeds.j0 k a0 a1 (decide (a1 > 6)))))
set_option maxRecDepth 100000 in
theorem grapnellaw21_ShellNeeds.mono_l : ∀ k, (∀ y0 y1 y2, LeO (grapnellaw21_ShellNeeds.j0 k y0 y1 y2) (grapnellaw21_ShellNeeds.j0 (k + 1) y0 y1 y2)) ∧ (∀ y0 y1 y2 y3 y4, LeO (grapnellaw21_ShellNeeds.l0 k y0 y1 y2 y3 y4) (grapnellaw21_ShellNeeds.l0 (k + 1) y0 y1 y2 y3 y4)) ∧ (∀ y0 y1 y2 y3 y4 y5, LeO (grapnellaw21_ShellNeeds.j2 k y0 y1 y2 y3 y4 y5) (grapnellaw21_ShellNeeds.j2 (k + 1) y0 y1 y2 y3 y4 y5)) ∧ (∀ y0 y1 y2 y3 y4 y5 y6, LeO (grapnellaw21_ShellNeeds.j3 k y0 y1 y2 y3 y4 y5 y6) (grapnellaw21_ShellNeeds.j3 (k + 1) y0 y1 y2 y3 y4 y5 y6))
  | 0 => ⟨fun _ _ _ r h => absurd (show (none : Option _) = some r from h) (by simp), fun _ _ _ _ _ r h => absurd (show (none : Option _) = some r from h) (by simp), fun _ _ _ _ _ _ r h => absurd (show (none : Option _) = some r from h) (by simp), fun _ _ _ _ _ _ _ r h => absurd (show (none : Option _) = some r from h) (by simp)⟩
  | k + 1 => by
    obtain ⟨ih0, ih1, ih2, ih3⟩ := grapnellaw21_ShellNeeds.mono_l k
    refine ⟨?_, ?_, ?_, ?_⟩
    · intro y0 y1 y2
      unfold grapnellaw21_ShellNeeds.j0
      repeat' first
      | (with_reducible exact ih0 _ _ _)
      | (with_reducible exact ih1 _ _ _ _ _)
      | (with_reducible exact ih2 _ _ _ _ _ _)
      | (with_reducible exact ih3 _ _ _ _ _ _ _)
      | (with_reducible exact grapnellaw21_awake.mono _)
      | (with_reducible exact shell_Parse.mono _ _)
      | (with_reducible exact LeO.refl _)
      | (with_reducible exact LeO.none _)
      | (with_reducible refine LeO.ite ?_ ?_)
      | (with_reducible refine LeO.bind ?_ (fun _ => ?_))
      | exact ih0 _ _ _
      | exact ih1 _ _ _ _ _
      | exact ih2 _ _ _ _ _ _
      | exact ih3 _ _ _ _ _ _ _
      | exact grapnellaw21_awake.mono _
      | exact shell_Parse.mono _ _
      | exact LeO.none _
      | refine LeO.ite ?_ ?_
      | refine LeO.bind ?_ (fun _ => ?_)
    · intro y0 y1 y2 y3 y4
      unfold grapnellaw21_ShellNeeds.l0
      repeat' first
      | (with_reducible exact ih0 _ _ _)
      | (with_reducible exact ih1 _ _ _ _ _)
      | (with_reducible exact ih2 _ _ _ _ _ _)
      | (with_reducible exact ih3 _ _ _ _ _ _ _)
      | (with_reducible exact grapnellaw21_awake.mono _)
      | (with_reducible exact shell_Parse.mono _ _)
      | (with_reducible exact LeO.refl _)
      | (with_reducible exact LeO.none _)
      | (with_reducible refine LeO.ite ?_ ?_)
      | (with_reducible refine LeO.bind ?_ (fun _ => ?_))
      | exact ih0 _ _ _
      | exact ih1 _ _ _ _ _
      | exact ih2 _ _ _ _ _ _
      | exact ih3 _ _ _ _ _ _ _
      | exact grapnellaw21_awake.mono _
      | exact shell_Parse.mono _ _
      | exact LeO.none _
      | refine LeO.ite ?_ ?_
      | refine LeO.bind ?_ (fun _ => ?_)
    · intro y0 y1 y2 y3 y4 y5
      unfold grapnellaw21_ShellNeeds.j2
      repeat' first
      | (with_reducible exact ih0 _ _ _)
      | (with_reducible exact ih1 _ _ _ _ _)
      | (with_reducible exact ih2 _ _ _ _ _ _)
      | (with_reducible exact ih3 _ _ _ _ _ _ _)
      | (with_reducible exact grapnellaw21_awake.mono _)
      | (with_reducible exact shell_Parse.mono _ _)
      | (with_reducible exact LeO.refl _)
      | (with_reducible exact LeO.none _)
      | (with_reducible refine LeO.ite ?_ ?_)
      | (with_reducible refine LeO.bind ?_ (fun _ => ?_))
      | exact ih0 _ _ _
      | exact ih1 _ _ _ _ _
      | exact ih2 _ _ _ _ _ _
      | exact ih3 _ _ _ _ _ _ _
      | exact grapnellaw21_awake.mono _
      | exact shell_Parse.mono _ _
      | exact LeO.none _
      | refine LeO.ite ?_ ?_
      | refine LeO.bind ?_ (fun _ => ?_)
    · intro y0 y1 y2 y3 y4 y5 y6
      unfold grapnellaw21_ShellNeeds.j3
      repeat' first
      | (with_reducible exact ih0 _ _ _)
      | (with_reducible exact ih1 _ _ _ _ _)
      | (with_reducible exact ih2 _ _ _ _ _ _)
      | (with_reducible exact ih3 _ _ _ _ _ _ _)
      | (with_reducible exact grapnellaw21_awake.mono _)
      | (with_reducible exact shell_Parse.mono _ _)
      | (with_reducible exact LeO.refl _)
      | (with_reducible exact LeO.none _)
      | (with_reducible refine LeO.ite ?_ ?_)
      | (with_reducible refine LeO.bind ?_ (fun _ => ?_))
      | exact ih0 _ _ _
      | exact ih1 _ _ _ _ _
      | exact ih2 _ _ _ _ _ _
      | exact ih3 _ _ _ _ _ _ _
      | exact grapnellaw21_awake.mono _
      | exact shell_Parse.mono _ _
      | exact LeO.none _
      | refine LeO.ite ?_ ?_
      | refine LeO.bind ?_ (fun _ => ?_)
set_option maxRecDepth 100000 in
theorem grapnellaw21_ShellNeeds.mono : ∀ a0 a1 k, LeO (grapnellaw21_ShellNeeds.f k a0 a1) (grapnellaw21_ShellNeeds.f (k + 1) a0 a1) := by
  intro a0 a1 k
  obtain ⟨ih0, ih1, ih2, ih3⟩ := grapnellaw21_ShellNeeds.mono_l k
  unfold grapnellaw21_ShellNeeds.f
  repeat' first
      | (with_reducible exact ih0 _ _ _)
      | (with_reducible exact ih1 _ _ _ _ _)
      | (with_reducible exact ih2 _ _ _ _ _ _)
      | (with_reducible exact ih3 _ _ _ _ _ _ _)
      | (with_reducible exact grapnellaw21_awake.mono _)
      | (with_reducible exact shell_Parse.mono _ _)
      | (with_reducible exact LeO.refl _)
      | (with_reducible exact LeO.none _)
      | (with_reducible refine LeO.ite ?_ ?_)
      | (with_reducible refine LeO.bind ?_ (fun _ => ?_))
      | exact ih0 _ _ _
      | exact ih1 _ _ _ _ _
      | exact ih2 _ _ _ _ _ _
      | exact ih3 _ _ _ _ _ _ _
      | exact grapnellaw21_awake.mono _
      | exact shell_Parse.mono _ _
      | exact LeO.none _
      | refine LeO.ite ?_ ?_
      | refine LeO.bind ?_ (fun _ => ?_)
set_option maxHeartbeats 8000000 in
set_option maxRecDepth 100000 in
theorem grapnellaw21_ShellNeeds.calls (k : Nat) (a0 : Int) (a1 : Int) (r : Bool) (w : World) (h : grapnellaw21_ShellNeeds.f k a0 a1 = some r) :
    Calls Tryd.prog 3 #[.int .i64 a0, .int .i64 a1] w fun e w' => e = .returned (.bool r) ∧ Below w.heap.size w w' := by
  have HB := Aside0.mk (Below.refl w.heap.size w)
  have H : (if a0 < 1 then (grapnellaw21_ShellNeeds.j0 k a0 a1 true) else (if a0 > 25 then (grapnellaw21_ShellNeeds.j0 k a0 a1 true) else (if a1 < 0 then (grapnellaw21_ShellNeeds.j0 k a0 a1 true) else (grapnellaw21_ShellNeeds.j0 k a0 a1 (decide (a1 > 6)))))) = some r := h
  clear h
  have HC3 := Aside0.mk H
  clear H
  go_enter Tryd.func3, Tryd.ntmps3
  go_upto_region 1 with (fail)
  go_cut [26] (fun v26 wc => ∃ (kq : Nat) (x26_2 : Bool), v26 = .bool x26_2 ∧ Aside0 (grapnellaw21_ShellNeeds.j0 kq a0 a1 x26_2 = some r) ∧ Aside0 (kq ≤ k) ∧ Aside0 (Below w.heap.size w wc))
  case first =>
    have H := HC3.out
    clear HC3
    by_cases c4 : a0 < 1
    · rw [if_pos c4] at H
      have c4b0 : decide (a0 < 1) = true := decide_eq_true c4
      clear c4
      (first | rw [c4b0] | (simp only [i64_w, i32_w]; rw [c4b0]) | skip)
      have H' := Aside0.mk H
      clear H
      go_wp2
      go_meet
      case rel => exact ⟨_, (true), (by first | rfl | (simp; done) | (simp [*]; done)), H', ⟨by first | omega | exact Nat.le_refl _⟩, ⟨by repeat (first | (with_reducible first | exact HB.out | apply below_alloc | apply pw_below_drewN | apply below_drew1) | exact HB.out)⟩⟩
    · rw [if_neg c4] at H
      have c4b0 : decide (a0 < 1) = false := decide_eq_false c4
      clear c4
      (first | rw [c4b0] | (simp only [i64_w, i32_w]; rw [c4b0]) | skip)
      by_cases c5 : a0 > 25
      · rw [if_pos c5] at H
        have c5b0 : decide (25 < a0) = true := decide_eq_true c5
        clear c5
        have H' := Aside0.mk H
        clear H
        go_wp2
        go_meet
        case rel => exact ⟨_, (true), (by first | rfl | (simp; done) | (simp [*]; done)), H', ⟨by first | omega | exact Nat.le_refl _⟩, ⟨by repeat (first | (with_reducible first | exact HB.out | apply below_alloc | apply pw_below_drewN | apply below_drew1) | exact HB.out)⟩⟩
      · rw [if_neg c5] at H
        have c5b0 : decide (25 < a0) = false := decide_eq_false c5
        clear c5
        by_cases c6 : a1 < 0
        · rw [if_pos c6] at H
          have c6b0 : decide (a1 < 0) = true := decide_eq_true c6
          clear c6
          have H' := Aside0.mk H
          clear H
          go_wp2
          go_meet
          case rel => exact ⟨_, (true), (by first | rfl | (simp; done) | (simp [*]; done)), H', ⟨by first | omega | exact Nat.le_refl _⟩, ⟨by repeat (first | (with_reducible first | exact HB.out | apply below_alloc | apply pw_below_drewN | apply below_drew1) | exact HB.out)⟩⟩
        · rw [if_neg c6] at H
          have c6b0 : decide (a1 < 0) = false := decide_eq_false c6
          clear c6
          have H' := Aside0.mk H
          clear H
          go_wp2
          go_meet
          case rel => exact ⟨_, (decide (a1 > 6)), (by first | rfl | (simp; done) | (simp [*]; done)), H', ⟨by first | omega | exact Nat.le_refl _⟩, ⟨by repeat (first | (with_reducible first | exact HB.out | apply below_alloc | apply pw_below_drewN | apply below_drew1) | exact HB.out)⟩⟩
  case rest =>
    clear HC3
    try clear p2
    try clear c3
    try clear c4
    try clear c4b0
    try clear c5
    try clear c5b0
    try clear c6
    try clear c6b0
    obtain ⟨kq, x26_2, rfl, HA, HJ2, HB⟩ := hcut
    cases kq with
    | zero => exact absurd (show (none : Option (Bool)) = some r from HA.out) (fun h_ => nomatch h_)
    | succ kj2 =>
      have H := HA.out
      clear HA
      simp only [grapnellaw21_ShellNeeds.j0] at H
      by_cases c7 : x26_2 = true
      · subst c7
        have H1 : ((grapnellaw21_awake.f kj2).bind fun t272 => (some t272)) = some r := by rw [if_pos rfl] at H; exact H
        clear H
        have H := H1
        clear H1
        replace H := Option.bind_eq_some_iff.mp H
        obtain ⟨t272, A80, H⟩ := H
        replace H : (some t272) = some r := H
        have A8 := Aside0.mk A80
        clear A80
        obtain rfl := Option.some.inj H
        go_wp2_with (first | ((with_reducible refine gate_callee (f := 11) rfl ?_); refine goesL_ (some 27) rfl rfl Tryd.func11 (by kernel_rfl) rfl #[] rfl (by (try simp only [List.map_toArray, List.map_cons, List.map_nil]); first | done | rfl | (simp only [List.length_drop, List.length_take]; rfl)) ?_; (with_reducible refine (grapnellaw21_awake.calls kj2  t272 _ A8.out).mono ?_); rintro e w9 ⟨rfl, hb⟩; refine ⟨_, rfl, ?_⟩; have n0_ := Aside0.mk (below_step (by repeat (first | (with_reducible first | exact HB.out | apply below_alloc | apply pw_below_drewN | apply below_drew1) | exact HB.out)) hb); clear HB; have HB := n0_; clear n0_; (try clear hb); (try clear hb2); (try clear hk); (try clear hi)))
        go_ret
        exact ⟨by first | rfl | (simp [errW_none, errW_some] <;> rfl) | (simp [*, errW_none, errW_some] <;> rfl), by repeat (first | (with_reducible first | exact HB.out | apply below_alloc | apply pw_below_drewN | apply below_drew1) | exact HB.out)⟩
      · replace c7 := Bool.eq_false_iff.mpr c7
        subst c7
        have H1 : ((grapnelref21_Needs.f).bind fun t273 => (if 0 ≤ (wrap64 (a0 - 1)) then (if (wrap64 (a0 - 1)) < (t273.length : Int) then ((grapnelref21_Names.f).bind fun t277 => (if (wrap64 (a0 - 1)) < (t277.length : Int) then (grapnellaw21_ShellNeeds.l0 kj2 a0 a1 (rdOf ByteArray.empty t273 (wrap64 (a0 - 1))) (rdOf ByteArray.empty t277 (wrap64 (a0 - 1))) 0) else (none))) else (none)) else (none))) = some r := by rw [if_neg (show ¬ (false = true) by decide)] at H; exact H
        clear H
        have H := H1
        clear H1
        replace H := Option.bind_eq_some_iff.mp H
        obtain ⟨t273, A100, H⟩ := H
        replace H : (if 0 ≤ (wrap64 (a0 - 1)) then (if (wrap64 (a0 - 1)) < (t273.length : Int) then ((grapnelref21_Names.f).bind fun t277 => (if (wrap64 (a0 - 1)) < (t277.length : Int) then (grapnellaw21_ShellNeeds.l0 kj2 a0 a1 (rdOf ByteArray.empty t273 (wrap64 (a0 - 1))) (rdOf ByteArray.empty t277 (wrap64 (a0 - 1))) 0) else (none))) else (none)) else (none)) = some r := H
        have A10 := Aside0.mk A100
        clear A100
        obtain ⟨ji11, hji11⟩ : ∃ j_ : Int, (wrap64 (a0 - 1)) = j_ := ⟨_, rfl⟩
        replace H : (if 0 ≤ (ji11) then (if (ji11) < (t273.length : Int) then ((grapnelref21_Names.f).bind fun t277 => (if (ji11) < (t277.length : Int) then (grapnellaw21_ShellNeeds.l0 kj2 a0 a1 (rdOf ByteArray.empty t273 (ji11)) (rdOf ByteArray.empty t277 (ji11)) 0) else (none))) else (none)) else (none)) = some r := by first | (rw [hji11] at H; exact H) | (simp only [hji11] at H ⊢; exact H)
        (try rw [hji11] at A10)
        have hji11w : (IntKind.i64.wrap (a0 - 1)) = ji11 := (i64_w _).trans hji11
        by_cases c12 : 0 ≤ (ji11)
        · rw [if_pos c12] at H
          have c12b0 : decide (0 ≤ (ji11)) = true := decide_eq_true c12
          clear c12
          by_cases c13 : (ji11) < (t273.length : Int)
          · rw [if_pos c13] at H
            have c13b0 : decide ((ji11) < (t273.length : Int)) = true := decide_eq_true c13
            clear c13
            replace H := Option.bind_eq_some_iff.mp H
            obtain ⟨t277, A140, H⟩ := H
            replace H : (if (ji11) < (t277.length : Int) then (grapnellaw21_ShellNeeds.l0 kj2 a0 a1 (rdOf ByteArray.empty t273 (ji11)) (rdOf ByteArray.empty t277 (ji11)) 0) else (none)) = some r := H
            have A14 := Aside0.mk A140
            clear A140
            by_cases c15 : (ji11) < (t277.length : Int)
            · rw [if_pos c15] at H
              have c15b0 : decide ((ji11) < (t277.length : Int)) = true := decide_eq_true c15
              clear c15
              have H' := Aside0.mk H
              clear H
              go_wp2_with (first | ((with_reducible refine gate_callee (f := 12) rfl ?_); refine goesL_ (some 28) rfl rfl Tryd.func12 (by kernel_rfl) rfl #[] rfl (by (try simp only [List.map_toArray, List.map_cons, List.map_nil]); first | done | rfl | (simp only [List.length_drop, List.length_take]; rfl)) ?_; (with_reducible refine (grapnelref21_Needs.calls  t273 _ A10.out).mono ?_); rintro e w16 ⟨v274, rfl, ho0, hb⟩; refine ⟨_, rfl, ?_⟩; have n0_ := Aside0.mk (Kd.R_lower ho0 (below_size (by repeat (first | (with_reducible first | exact HB.out | apply below_alloc | apply pw_below_drewN | apply below_drew1) | exact HB.out)))); have n1_ := Aside0.mk (below_step (by repeat (first | (with_reducible first | exact HB.out | apply below_alloc | apply pw_below_drewN | apply below_drew1) | exact HB.out)) hb); clear HB; have HO275 := n0_; have HB := n1_; clear n0_ n1_; (try clear hb); (try clear hb2); (try clear hk); (try clear hi); (try clear ho0); obtain ⟨Ao17, co17, eo17⟩ := Kd.R_slice HO275.out; subst eo17; have p276 : 0 ≤ ((ji11) : Int) := of_decide_eq_true (by first | (with_reducible assumption) | assumption); have q276 : (ji11) < (t273.length : Int) := of_decide_eq_true (by first | (with_reducible assumption) | assumption); obtain ⟨ad276, e276, hx276_0⟩ := Kd.at_string (Kd.R_reads' HO275.out).2.2 (ji11) p276 q276; cases e276; replace p276 := eq_true p276; replace q276 := eq_true q276) | ((with_reducible refine gate_callee (f := 13) rfl ?_); refine goesL_ (some 33) rfl rfl Tryd.func13 (by kernel_rfl) rfl #[] rfl (by (try simp only [List.map_toArray, List.map_cons, List.map_nil]); first | done | rfl | (simp only [List.length_drop, List.length_take]; rfl)) ?_; (with_reducible refine (grapnelref21_Names.calls  t277 _ A14.out).mono ?_); rintro e w18 ⟨v278, rfl, ho0, hb⟩; refine ⟨_, rfl, ?_⟩; have n0_ := Aside0.mk (Kd.R_elder' (by (with_reducible repeat (first | apply Kd.R_alloc | apply Kd.R_drewN | apply Kd.R_drew)); exact HO275.out) (Kd.R_base ho0) hb); have n1_ := Aside0.mk (Kd.R_lower (Kd.R_new' ho0 (Kd.R_lt (by (with_reducible repeat (first | apply Kd.R_alloc | apply Kd.R_drewN | apply Kd.R_drew)); exact HO275.out))) (below_size (by repeat (first | (with_reducible first | exact HB.out | apply below_alloc | apply pw_below_drewN | apply below_drew1) | exact HB.out)))); have n2_ := Aside0.mk (below_step (by repeat (first | (with_reducible first | exact HB.out | apply below_alloc | apply pw_below_drewN | apply below_drew1) | exact HB.out)) hb); clear HO275; clear HB; have HO275 := n0_; have HO279 := n1_; have HB := n2_; clear n0_ n1_ n2_; (try clear hb); (try clear hb2); (try clear hk); (try clear hi); (try clear ho0); obtain ⟨Ao19, co19, eo19⟩ := Kd.R_slice HO279.out; subst eo19; have p280 : 0 ≤ ((ji11) : Int) := of_decide_eq_true (by first | (with_reducible assumption) | assumption); have q280 : (ji11) < (t277.length : Int) := of_decide_eq_true (by first | (with_reducible assumption) | assumption); obtain ⟨ad280, e280, hx280_0⟩ := Kd.at_string (Kd.R_reads' HO279.out).2.2 (ji11) p280 q280; cases e280; replace p280 := eq_true p280; replace q280 := eq_true q280))
              go_loopg [6, 7] kj2 (fun kq v6 v7 w' => ∃ (x6_2 : ByteArray) (x7_2 : Int), v6 = .string x6_2 ∧ v7 = .int .i64 x7_2 ∧ Aside0 (grapnellaw21_ShellNeeds.l0 kq a0 a1 (rdOf ByteArray.empty t273 (ji11)) x6_2 x7_2 = some r) ∧ Aside0 (kq ≤ kj2) ∧ Aside0 (Below w.heap.size w w'))
              case atStart => exact ⟨(rdOf ByteArray.empty t277 (ji11)), (0), (by first | rfl | (simp; done) | (simp only [← hji11] <;> (first | rfl | simp)) | (simp [*]; done)), (by first | rfl | (simp; done) | (simp [*]; done)), H', ⟨Nat.le_refl _⟩, ⟨by repeat (first | (with_reducible first | exact HB.out | apply below_alloc | apply pw_below_drewN | apply below_drew1) | exact HB.out)⟩⟩
              case round =>
                clear H'
                try clear c1
                try clear p2
                try clear q2
                try clear hx2
                try clear c3
                try clear c4
                try clear c4b0
                try clear c5
                try clear c5b0
                try clear c6
                try clear c6b0
                try clear p6
                try clear c7
                try clear c11
                try clear c12
                try clear c12b0
                try clear c13
                try clear c13b0
                try clear c15
                try clear c15b0
                try clear hx276_0
                try clear hx280_0
                try clear p2
                try clear p276
                try clear p280
                try clear q276
                try clear q280
                obtain ⟨x6_2, x7_2, rfl, rfl, HA, HK2, HB⟩ := hrel
                cases gk with
                | zero => exact absurd (show (none : Option (Bool)) = some r from HA.out) (fun h_ => nomatch h_)
                | succ k2 =>
                  have H := HA.out
                  clear HA
                  simp only [grapnellaw21_ShellNeeds.l0] at H
                  by_cases c20 : x7_2 < a1
                  · rw [if_pos c20] at H
                    have c20b0 : decide (x7_2 < a1) = true := decide_eq_true c20
                    clear c20
                    have HC21 := Aside0.mk H
                    clear H
                    go_upto_if 46 with (fail)
                    go_cut [8] (fun v8 wc => ∃ (kq : Nat) (x8_20 : Int), v8 = .int .u8 x8_20 ∧ Aside0 (grapnellaw21_ShellNeeds.j2 kq a0 a1 (rdOf ByteArray.empty t273 (ji11)) x6_2 x7_2 x8_20 = some r) ∧ Aside0 (kq ≤ k2) ∧ Aside0 (Below w.heap.size w wc))
                    case first =>
                      have H := HC21.out
                      clear HC21
                      by_cases c22 : x7_2 < ((rdOf ByteArray.empty t273 (ji11)).size : Int)
                      · rw [if_pos c22] at H
                        have c22b0 : decide (x7_2 < ((rdOf ByteArray.empty t273 (ji11)).size : Int)) = true := decide_eq_true c22
                        clear c22
                        (first | rw [c22b0] | (simp only [i64_w, i32_w]; rw [c22b0]) | skip)
                        by_cases c23 : 0 ≤ x7_2
                        · rw [if_pos c23] at H
                          have c23b0 : decide (0 ≤ x7_2) = true := decide_eq_true c23
                          clear c23
                          have H' := Aside0.mk H
                          clear H
                          have p24 : 0 ≤ (x7_2 : Int) := of_decide_eq_true (by first | (with_reducible assumption) | assumption)
                          have q24 : x7_2 < ((rdOf ByteArray.empty t273 (ji11)).size : Int) := of_decide_eq_true (by first | (with_reducible assumption) | assumption)
                          have hx24 := bt_at (rdOf ByteArray.empty t273 (ji11)) x7_2
                          replace p24 := eq_true p24
                          replace q24 := eq_true q24
                          go_wp2
                          go_meet
                          case rel => exact ⟨_, (bt (rdOf ByteArray.empty t273 (ji11)) x7_2), (by first | rfl | (simp; done) | (simp only [← hji11] <;> (first | rfl | simp)) | (simp [*]; done)), H', ⟨by have := HJ2.out; have := HK2.out; first | omega | exact Nat.le_refl _⟩, ⟨by repeat (first | (with_reducible first | exact HB.out | apply below_alloc | apply pw_below_drewN | apply below_drew1) | exact HB.out)⟩⟩
                        · rw [if_neg c23] at H
                          exact absurd H (by simp)
                      · rw [if_neg c22] at H
                        have c22b0 : decide (x7_2 < ((rdOf ByteArray.empty t273 (ji11)).size : Int)) = false := decide_eq_false c22
                        clear c22
                        (first | rw [c22b0] | (simp only [i64_w, i32_w]; rw [c22b0]) | skip)
                        have H' := Aside0.mk H
                        clear H
                        go_wp2
                        go_meet
                        case rel => exact ⟨_, (78), (by first | rfl | (simp; done) | (simp [*]; done)), H', ⟨by have := HJ2.out; have := HK2.out; first | omega | exact Nat.le_refl _⟩, ⟨by repeat (first | (with_reducible first | exact HB.out | apply below_alloc | apply pw_below_drewN | apply below_drew1) | exact HB.out)⟩⟩
                    case rest =>
                      clear HC21
                      try clear c1
                      try clear c2
                      try clear p2
                      try clear q2
                      try clear hx2
                      try clear c3
                      try clear c4
                      try clear c4b0
                      try clear c5
                      try clear c5b0
                      try clear c6
                      try clear c6b0
                      try clear p6
                      try clear c7
                      try clear c11
                      try clear c12
                      try clear c12b0
                      try clear c13
                      try clear c13b0
                      try clear c15
                      try clear c15b0
                      try clear c20
                      try clear c20b0
                      try clear c22
                      try clear c22b0
                      try clear c23
                      try clear c23b0
                      try clear p24
                      try clear q24
                      try clear hx24
                      try clear hx276_0
                      try clear hx280_0
                      try clear p2
                      try clear p24
                      try clear p276
                      try clear p280
                      try clear p6
                      try clear q2
                      try clear q24
                      try clear q276
                      try clear q280
                      obtain ⟨kq, x8_20, rfl, HA, HJ20, HB⟩ := hcut
                      cases kq with
                      | zero => exact absurd (show (none : Option (Bool)) = some r from HA.out) (fun h_ => nomatch h_)
                      | succ kj20 =>
                        have H := HA.out
                        clear HA
                        simp only [grapnellaw21_ShellNeeds.j2] at H
                        have HC25 := Aside0.mk H
                        clear H
                        go_upto_if 53 with (fail)
                        go_cut [53] (fun v53 wc => ∃ (kq : Nat) (x53_24 : Bool), v53 = .bool x53_24 ∧ Aside0 (grapnellaw21_ShellNeeds.j3 kq a0 a1 (rdOf ByteArray.empty t273 (ji11)) x6_2 x7_2 x8_20 x53_24 = some r) ∧ Aside0 (kq ≤ kj20) ∧ Aside0 (Below w.heap.size w wc))
                        case first =>
                          have H := HC25.out
                          clear HC25
                          by_cases c26 : x8_20 = 80
                          · rw [if_pos c26] at H
                            have c26b0 : (x8_20 == 80) = true := beq_iff_eq.mpr c26
                            have c26b1 : (x8_20 != 80) = false := bne_eq_false_iff_eq.mpr c26
                            clear c26
                            (first | rw [c26b0] | (simp only [i64_w, i32_w]; rw [c26b0]) | skip)
                            have H' := Aside0.mk H
                            clear H
                            go_wp2
                            go_meet
                            case rel => exact ⟨_, ((x8_20 == 80)), (by first | rfl | (simp; done) | (simp [*]; done)), H', ⟨by have := HJ2.out; have := HK2.out; have := HJ20.out; first | omega | exact Nat.le_refl _⟩, ⟨by repeat (first | (with_reducible first | exact HB.out | apply below_alloc | apply pw_below_drewN | apply below_drew1) | exact HB.out)⟩⟩
                          · rw [if_neg c26] at H
                            have c26b0 : (x8_20 == 80) = false := beq_eq_false_iff_ne.mpr c26
                            have c26b1 : (x8_20 != 80) = true := bne_iff_ne.mpr c26
                            (first | rw [c26b0] | (simp only [i64_w, i32_w]; rw [c26b0]) | skip)
                            by_cases c27 : x8_20 = 81
                            · rw [if_pos c27] at H
                              have c27b0 : (x8_20 == 81) = true := beq_iff_eq.mpr c27
                              have c27b1 : (x8_20 != 81) = false := bne_eq_false_iff_eq.mpr c27
                              clear c27
                              have H' := Aside0.mk H
                              clear H
                              go_wp2
                              go_meet
                              case rel => exact ⟨_, ((x8_20 == 81)), (by first | rfl | (simp; done) | (simp [*]; done)), H', ⟨by have := HJ2.out; have := HK2.out; have := HJ20.out; first | omega | exact Nat.le_refl _⟩, ⟨by repeat (first | (with_reducible first | exact HB.out | apply below_alloc | apply pw_below_drewN | apply below_drew1) | exact HB.out)⟩⟩
                            · rw [if_neg c27] at H
                              have c27b0 : (x8_20 == 81) = false := beq_eq_false_iff_ne.mpr c27
                              have c27b1 : (x8_20 != 81) = true := bne_iff_ne.mpr c27
                              have H' := Aside0.mk H
                              clear H
                              go_wp2
                              go_meet
                              case rel => exact ⟨_, ((x8_20 == 84)), (by first | rfl | (simp; done) | (simp [*]; done)), H', ⟨by have := HJ2.out; have := HK2.out; have := HJ20.out; first | omega | exact Nat.le_refl _⟩, ⟨by repeat (first | (with_reducible first | exact HB.out | apply below_alloc | apply pw_below_drewN | apply below_drew1) | exact HB.out)⟩⟩
                        case rest =>
                          clear HC25
                          try clear c1
                          try clear c2
                          try clear p2
                          try clear q2
                          try clear hx2
                          try clear c3
                          try clear c4
                          try clear c4b0
                          try clear c5
                          try clear c5b0
                          try clear c6
                          try clear c6b0
                          try clear p6
                          try clear c7
                          try clear c11
                          try clear c12
                          try clear c12b0
                          try clear c13
                          try clear c13b0
                          try clear c15
                          try clear c15b0
                          try clear c20
                          try clear c20b0
                          try clear c22
                          try clear c22b0
                          try clear c23
                          try clear c23b0
                          try clear p24
                          try clear q24
                          try clear hx24
                          try clear c26
                          try clear c26b0
                          try clear c26b1
                          try clear c27
                          try clear c27b0
                          try clear c27b1
                          try clear p27
                          try clear q27
                          try clear hx27
                          try clear hx276_0
                          try clear hx280_0
                          try clear p2
                          try clear p24
                          try clear p276
                          try clear p280
                          try clear p6
                          try clear q2
                          try clear q24
                          try clear q276
                          try clear q280
                          obtain ⟨kq, x53_24, rfl, HA, HJ24, HB⟩ := hcut
                          cases kq with
                          | zero => exact absurd (show (none : Option (Bool)) = some r from HA.out) (fun h_ => nomatch h_)
                          | succ kj24 =>
                            have H := HA.out
                            clear HA
                            simp only [grapnellaw21_ShellNeeds.j3] at H
                            by_cases c28 : x53_24 = true
                            · subst c28
                              have H1 : (if x6_2.size + 5 ≤ 9223372036854775807 then (grapnellaw21_ShellNeeds.l0 kj24 a0 a1 (rdOf ByteArray.empty t273 (ji11)) (x6_2 ++ (⟨#[32, 34, 47, 97, 34]⟩ : ByteArray)) (wrap64 (x7_2 + 1))) else (none)) = some r := by rw [if_pos rfl] at H; exact H
                              clear H
                              have H := H1
                              clear H1
                              by_cases c29 : x6_2.size + 5 ≤ 9223372036854775807
                              · rw [if_pos c29] at H
                                have c29b0 := eq_true c29
                                have c29b1 : decide (x6_2.size + 5 ≤ 9223372036854775807) = true := decide_eq_true c29
                                try have c29b2 : (9223372036854775807 < x6_2.size + 5) = False := eq_false (Nat.not_lt.2 c29)
                                have H' := Aside0.mk H
                                clear H
                                go_wp2
                                go_roundg kj24
                                case measure => have := HJ2.out; have := HK2.out; have := HJ20.out; have := HJ24.out; omega
                                case rel => exact ⟨(x6_2 ++ (⟨#[32, 34, 47, 97, 34]⟩ : ByteArray)), (wrap64 (x7_2 + 1)), (by first | rfl | (simp; done) | (simp [*]; done)), (by first | rfl | (simp; done) | (simp [*]; done)), H', ⟨by have := HJ2.out; have := HK2.out; have := HJ20.out; have := HJ24.out; omega⟩, ⟨by repeat (first | (with_reducible first | exact HB.out | apply below_alloc | apply pw_below_drewN | apply below_drew1) | exact HB.out)⟩⟩
                              · rw [if_neg c29] at H
                                exact absurd H (by simp)
                            · replace c28 := Bool.eq_false_iff.mpr c28
                              subst c28
                              have H1 : (if x8_20 = 75 then (if x6_2.size + 3 ≤ 9223372036854775807 then (grapnellaw21_ShellNeeds.l0 kj24 a0 a1 (rdOf ByteArray.empty t273 (ji11)) (x6_2 ++ (⟨#[32, 48, 49]⟩ : ByteArray)) (wrap64 (x7_2 + 1))) else (none)) else (if x6_2.size + 2 ≤ 9223372036854775807 then (grapnellaw21_ShellNeeds.l0 kj24 a0 a1 (rdOf ByteArray.empty t273 (ji11)) (x6_2 ++ (⟨#[32, 55]⟩ : ByteArray)) (wrap64 (x7_2 + 1))) else (none))) = some r := by rw [if_neg (show ¬ (false = true) by decide)] at H; exact H
                              clear H
                              have H := H1
                              clear H1
                              by_cases c30 : x8_20 = 75
                              · rw [if_pos c30] at H
                                have c30b0 : (x8_20 == 75) = true := beq_iff_eq.mpr c30
                                have c30b1 : (x8_20 != 75) = false := bne_eq_false_iff_eq.mpr c30
                                clear c30
                                by_cases c31 : x6_2.size + 3 ≤ 9223372036854775807
                                · rw [if_pos c31] at H
                                  have c31b0 := eq_true c31
                                  have c31b1 : decide (x6_2.size + 3 ≤ 9223372036854775807) = true := decide_eq_true c31
                                  try have c31b2 : (9223372036854775807 < x6_2.size + 3) = False := eq_false (Nat.not_lt.2 c31)
                                  have H' := Aside0.mk H
                                  clear H
                                  go_wp2
                                  go_roundg kj24
                                  case measure => have := HJ2.out; have := HK2.out; have := HJ20.out; have := HJ24.out; omega
                                  case rel => exact ⟨(x6_2 ++ (⟨#[32, 48, 49]⟩ : ByteArray)), (wrap64 (x7_2 + 1)), (by first | rfl | (simp; done) | (simp [*]; done)), (by first | rfl | (simp; done) | (simp [*]; done)), H', ⟨by have := HJ2.out; have := HK2.out; have := HJ20.out; have := HJ24.out; omega⟩, ⟨by repeat (first | (with_reducible first | exact HB.out | apply below_alloc | apply pw_below_drewN | apply below_drew1) | exact HB.out)⟩⟩
                                · rw [if_neg c31] at H
                                  exact absurd H (by simp)
                              · rw [if_neg c30] at H
                                have c30b0 : (x8_20 == 75) = false := beq_eq_false_iff_ne.mpr c30
                                have c30b1 : (x8_20 != 75) = true := bne_iff_ne.mpr c30
                                by_cases c32 : x6_2.size + 2 ≤ 9223372036854775807
                                · rw [if_pos c32] at H
                                  have c32b0 := eq_true c32
                                  have c32b1 : decide (x6_2.size + 2 ≤ 9223372036854775807) = true := decide_eq_true c32
                                  try have c32b2 : (9223372036854775807 < x6_2.size + 2) = False := eq_false (Nat.not_lt.2 c32)
                                  have H' := Aside0.mk H
                                  clear H
                                  go_wp2
                                  go_roundg kj24
                                  case measure => have := HJ2.out; have := HK2.out; have := HJ20.out; have := HJ24.out; omega
                                  case rel => exact ⟨(x6_2 ++ (⟨#[32, 55]⟩ : ByteArray)), (wrap64 (x7_2 + 1)), (by first | rfl | (simp; done) | (simp [*]; done)), (by first | rfl | (simp; done) | (simp [*]; done)), H', ⟨by have := HJ2.out; have := HK2.out; have := HJ20.out; have := HJ24.out; omega⟩, ⟨by repeat (first | (with_reducible first | exact HB.out | apply below_alloc | apply pw_below_drewN | apply below_drew1) | exact HB.out)⟩⟩
                                · rw [if_neg c32] at H
                                  exact absurd H (by simp)
                  · rw [if_neg c20] at H
                    have c20b0 : decide (x7_2 < a1) = false := decide_eq_false c20
                    clear c20
                    replace H := Option.bind_eq_some_iff.mp H
                    obtain ⟨⟨t281, t282, t283⟩, A330, H⟩ := H
                    replace H : (if a1 = ((rdOf ByteArray.empty t273 (ji11)).size : Int) then (if t283 = 0 then (if t282 = 0 then (if (t281.length : Int) = 1 then (if 0 < (t281.length : Int) then (if ((rd_T31 t281 0).f0) = a0 then ((grapnellaw21_awake.f k2).bind fun t287 => (some t287)) else (some false)) else (none)) else (some false)) else (some false)) else (some false)) else (if a1 > ((rdOf ByteArray.empty t273 (ji11)).size : Int) then (if t283 = 4 then (if t282 = 1 then (if (t281.length : Int) = 0 then ((grapnellaw21_awake.f k2).bind fun t288 => (some t288)) else (some false)) else (some false)) else (some false)) else (if t283 = 3 then (if t282 = 1 then (if (t281.length : Int) = 0 then ((grapnellaw21_awake.f k2).bind fun t289 => (some t289)) else (some false)) else (some false)) else (some false)))) = some r := H
                    have A33 := Aside0.mk A330
                    clear A330
                    by_cases c34 : a1 = ((rdOf ByteArray.empty t273 (ji11)).size : Int)
                    · rw [if_pos c34] at H
                      have c34b0 : (a1 == ((rdOf ByteArray.empty t273 (ji11)).size : Int)) = true := beq_iff_eq.mpr c34
                      have c34b1 : (a1 != ((rdOf ByteArray.empty t273 (ji11)).size : Int)) = false := bne_eq_false_iff_eq.mpr c34
                      clear c34
                      by_cases c35 : t283 = 0
                      · rw [if_pos c35] at H
                        have c35b0 : (t283 == 0) = true := beq_iff_eq.mpr c35
                        have c35b1 : (t283 != 0) = false := bne_eq_false_iff_eq.mpr c35
                        clear c35
                        by_cases c36 : t282 = 0
                        · rw [if_pos c36] at H
                          have c36b0 : (t282 == 0) = true := beq_iff_eq.mpr c36
                          have c36b1 : (t282 != 0) = false := bne_eq_false_iff_eq.mpr c36
                          clear c36
                          by_cases c37 : (t281.length : Int) = 1
                          · rw [if_pos c37] at H
                            have c37b0 : ((t281.length : Int) == 1) = true := beq_iff_eq.mpr c37
                            have c37b1 : ((t281.length : Int) != 1) = false := bne_eq_false_iff_eq.mpr c37
                            clear c37
                            by_cases c38 : 0 < (t281.length : Int)
                            · rw [if_pos c38] at H
                              have c38b0 : decide (0 < (t281.length : Int)) = true := decide_eq_true c38
                              have c38b1 : decide (0 < t281.length) = true := decide_eq_true (by omega)
                              clear c38
                              by_cases c39 : ((rd_T31 t281 0).f0) = a0
                              · rw [if_pos c39] at H
                                have c39b0 : (((rd_T31 t281 0).f0) == a0) = true := beq_iff_eq.mpr c39
                                have c39b1 : (((rd_T31 t281 0).f0) != a0) = false := bne_eq_false_iff_eq.mpr c39
                                clear c39
                                replace H := Option.bind_eq_some_iff.mp H
                                obtain ⟨t287, A400, H⟩ := H
                                replace H : (some t287) = some r := H
                                have A40 := Aside0.mk A400
                                clear A400
                                obtain rfl := Option.some.inj H
                                go_wp2_with (first | ((with_reducible refine gate_callee (f := 14) rfl ?_); refine goesL_ (some 65) rfl rfl Tryd.func14 (by kernel_rfl) rfl #[.string x6_2] rfl (by (try simp only [List.map_toArray, List.map_cons, List.map_nil]); first | done | rfl | (simp only [List.length_drop, List.length_take]; rfl)) ?_; (with_reducible refine (shell_Parse.calls k2 x6_2 t281 t282 t283 _ A33.out).mono ?_); rintro e w41 ⟨v284, rfl, ho0, hb⟩; refine ⟨_, rfl, ?_⟩; have n0_ := Aside0.mk (Kd.S_lower ho0 (below_size (by repeat (first | (with_reducible first | exact HB.out | apply below_alloc | apply pw_below_drewN | apply below_drew1) | exact HB.out)))); have n1_ := Aside0.mk (below_step (by repeat (first | (with_reducible first | exact HB.out | apply below_alloc | apply pw_below_drewN | apply below_drew1) | exact HB.out)) hb); clear HB; have HO285 := n0_; have HB := n1_; clear n0_ n1_; (try clear hb); (try clear hb2); (try clear hk); (try clear hi); (try clear ho0); obtain ⟨Ao42, co42, eo42⟩ := Kd.S_slice HO285.out; subst eo42; have p286 : 0 ≤ (0 : Int) := (by omega); have q286 : 0 < (t281.length : Int) := of_decide_eq_true (by first | (with_reducible assumption) | assumption); obtain ⟨ad286, A286_7, c286_7, e286, hx286_0, hx286_1, hx286_2, hx286_3, hx286_4, hx286_5, hx286_6, hx286_7, hl286_7, hi286_7⟩ := at_T31 (Kd.S_reads' HO285.out).2.2 0 p286 q286; cases e286; obtain ⟨ce286, hce286, hMe286, hcc286⟩ := Kd.S_get HO285.out z31 0 p286 (by first | exact q286 | exact of_decide_eq_true (by first | (with_reducible assumption) | assumption) | (have e_ := (Kd.S_reads' HO285.out).1; omega)); obtain ⟨ve286_7, rfl, ge286_7⟩ := k31_openM hMe286; have hv286_7 := hcc286 7 _ rfl; rw [add_field _ _ 7 (by omega)] at hv286_7; replace hv286_7 := Option.some.inj (hv286_7.symm.trans hx286_7); rw [hv286_7] at ge286_7; have HL286_7 := Aside0.mk (show Kd.R Kd.bool 4 _ _ _ _ ((rd_T31 t281 0).f7) from ge286_7); clear hv286_7 ge286_7; clear hcc286 hce286; have qi286 : (0 < t281.length) = True := eq_true (by omega); (try rw [show ((0 : Int)).toNat = 0 from rfl] at hx286_0); (try rw [show 0 * 8 = 0 from rfl] at hx286_0); (try rw [Addr.add_zero'] at hx286_0); (try rw [show ((0 : Int)).toNat = 0 from rfl] at hx286_1); (try rw [show 0 * 8 = 0 from rfl] at hx286_1); (try rw [Addr.add_zero'] at hx286_1); (try rw [show ((0 : Int)).toNat = 0 from rfl] at hx286_2); (try rw [show 0 * 8 = 0 from rfl] at hx286_2); (try rw [Addr.add_zero'] at hx286_2); (try rw [show ((0 : Int)).toNat = 0 from rfl] at hx286_3); (try rw [show 0 * 8 = 0 from rfl] at hx286_3); (try rw [Addr.add_zero'] at hx286_3); (try rw [show ((0 : Int)).toNat = 0 from rfl] at hx286_4); (try rw [show 0 * 8 = 0 from rfl] at hx286_4); (try rw [Addr.add_zero'] at hx286_4); (try rw [show ((0 : Int)).toNat = 0 from rfl] at hx286_5); (try rw [show 0 * 8 = 0 from rfl] at hx286_5); (try rw [Addr.add_zero'] at hx286_5); (try rw [show ((0 : Int)).toNat = 0 from rfl] at hx286_6); (try rw [show 0 * 8 = 0 from rfl] at hx286_6); (try rw [Addr.add_zero'] at hx286_6); (try rw [show ((0 : Int)).toNat = 0 from rfl] at hx286_7); (try rw [show 0 * 8 = 0 from rfl] at hx286_7); (try rw [Addr.add_zero'] at hx286_7); have HR286_7 := Aside0.mk hi286_7; have HC286_7 := Aside0.mk hl286_7; clear hi286_7 hl286_7; replace p286 := eq_true p286; replace q286 := eq_true q286) | (go_at_call 11; (with_reducible refine (grapnellaw21_awake.calls k2  t287 _ A40.out).mono ?_); rintro e w43 ⟨rfl, hb⟩; have n0_ := Aside0.mk (Kd.S_below (by (with_reducible repeat (first | apply Kd.S_alloc | apply Kd.S_drewN | apply Kd.S_drew)); exact HO285.out) hb); have n1_ := Aside0.mk (Kd.R_below (by (with_reducible repeat (first | apply Kd.R_alloc | apply Kd.R_drewN | apply Kd.R_drew)); exact HL286_7.out) hb); have n2_ := Aside0.mk (Kd.C_below (by repeat (first | (with_reducible exact HR286_7.out) | (with_reducible refine Kd.C_alloc ?_ _) | (with_reducible refine Kd.C_drewN ?_ _) | (with_reducible refine Kd.C_drew ?_) | exact HR286_7.out)) hb); have n3_ := Aside0.mk (below_step (by repeat (first | (with_reducible first | exact HB.out | apply below_alloc | apply pw_below_drewN | apply below_drew1) | exact HB.out)) hb); clear HO285; clear HL286_7; clear HR286_7; clear HB; have HO285 := n0_; have HL286_7 := n1_; have HR286_7 := n2_; have HB := n3_; clear n0_ n1_ n2_ n3_; (try clear hb); (try clear hb2); (try clear hk); (try clear hi)))
                                go_ret
                                exact ⟨by first | rfl | (simp [errW_none, errW_some] <;> rfl) | (simp only [← hji11]; first | rfl | (simp [errW_none, errW_some] <;> rfl)) | (simp [*, errW_none, errW_some] <;> rfl), by repeat (first | (with_reducible first | exact HB.out | apply below_alloc | apply pw_below_drewN | apply below_drew1) | exact HB.out)⟩
                              · rw [if_neg c39] at H
                                have c39b0 : (((rd_T31 t281 0).f0) == a0) = false := beq_eq_false_iff_ne.mpr c39
                                have c39b1 : (((rd_T31 t281 0).f0) != a0) = true := bne_iff_ne.mpr c39
                                obtain rfl := Option.some.inj H
                                go_wp2_with (first | ((with_reducible refine gate_callee (f := 14) rfl ?_); refine goesL_ (some 65) rfl rfl Tryd.func14 (by kernel_rfl) rfl #[.string x6_2] rfl (by (try simp only [List.map_toArray, List.map_cons, List.map_nil]); first | done | rfl | (simp only [List.length_drop, List.length_take]; rfl)) ?_; (with_reducible refine (shell_Parse.calls k2 x6_2 t281 t282 t283 _ A33.out).mono ?_); rintro e w44 ⟨v284, rfl, ho0, hb⟩; refine ⟨_, rfl, ?_⟩; have n0_ := Aside0.mk (Kd.S_lower ho0 (below_size (by repeat (first | (with_reducible first | exact HB.out | apply below_alloc | apply pw_below_drewN | apply below_drew1) | exact HB.out)))); have n1_ := Aside0.mk (below_step (by repeat (first | (with_reducible first | exact HB.out | apply below_alloc | apply pw_below_drewN | apply below_drew1) | exact HB.out)) hb); clear HB; have HO285 := n0_; have HB := n1_; clear n0_ n1_; (try clear hb); (try clear hb2); (try clear hk); (try clear hi); (try clear ho0); obtain ⟨Ao45, co45, eo45⟩ := Kd.S_slice HO285.out; subst eo45; have p286 : 0 ≤ (0 : Int) := (by omega); have q286 : 0 < (t281.length : Int) := of_decide_eq_true (by first | (with_reducible assumption) | assumption); obtain ⟨ad286, A286_7, c286_7, e286, hx286_0, hx286_1, hx286_2, hx286_3, hx286_4, hx286_5, hx286_6, hx286_7, hl286_7, hi286_7⟩ := at_T31 (Kd.S_reads' HO285.out).2.2 0 p286 q286; cases e286; obtain ⟨ce286, hce286, hMe286, hcc286⟩ := Kd.S_get HO285.out z31 0 p286 (by first | exact q286 | exact of_decide_eq_true (by first | (with_reducible assumption) | assumption) | (have e_ := (Kd.S_reads' HO285.out).1; omega)); obtain ⟨ve286_7, rfl, ge286_7⟩ := k31_openM hMe286; have hv286_7 := hcc286 7 _ rfl; rw [add_field _ _ 7 (by omega)] at hv286_7; replace hv286_7 := Option.some.inj (hv286_7.symm.trans hx286_7); rw [hv286_7] at ge286_7; have HL286_7 := Aside0.mk (show Kd.R Kd.bool 4 _ _ _ _ ((rd_T31 t281 0).f7) from ge286_7); clear hv286_7 ge286_7; clear hcc286 hce286; have qi286 : (0 < t281.length) = True := eq_true (by omega); (try rw [show ((0 : Int)).toNat = 0 from rfl] at hx286_0); (try rw [show 0 * 8 = 0 from rfl] at hx286_0); (try rw [Addr.add_zero'] at hx286_0); (try rw [show ((0 : Int)).toNat = 0 from rfl] at hx286_1); (try rw [show 0 * 8 = 0 from rfl] at hx286_1); (try rw [Addr.add_zero'] at hx286_1); (try rw [show ((0 : Int)).toNat = 0 from rfl] at hx286_2); (try rw [show 0 * 8 = 0 from rfl] at hx286_2); (try rw [Addr.add_zero'] at hx286_2); (try rw [show ((0 : Int)).toNat = 0 from rfl] at hx286_3); (try rw [show 0 * 8 = 0 from rfl] at hx286_3); (try rw [Addr.add_zero'] at hx286_3); (try rw [show ((0 : Int)).toNat = 0 from rfl] at hx286_4); (try rw [show 0 * 8 = 0 from rfl] at hx286_4); (try rw [Addr.add_zero'] at hx286_4); (try rw [show ((0 : Int)).toNat = 0 from rfl] at hx286_5); (try rw [show 0 * 8 = 0 from rfl] at hx286_5); (try rw [Addr.add_zero'] at hx286_5); (try rw [show ((0 : Int)).toNat = 0 from rfl] at hx286_6); (try rw [show 0 * 8 = 0 from rfl] at hx286_6); (try rw [Addr.add_zero'] at hx286_6); (try rw [show ((0 : Int)).toNat = 0 from rfl] at hx286_7); (try rw [show 0 * 8 = 0 from rfl] at hx286_7); (try rw [Addr.add_zero'] at hx286_7); have HR286_7 := Aside0.mk hi286_7; have HC286_7 := Aside0.mk hl286_7; clear hi286_7 hl286_7; replace p286 := eq_true p286; replace q286 := eq_true q286))
                                go_ret
                                exact ⟨by first | rfl | (simp [errW_none, errW_some] <;> rfl) | (simp only [← hji11]; first | rfl | (simp [errW_none, errW_some] <;> rfl)) | (simp [*, errW_none, errW_some] <;> rfl), by repeat (first | (with_reducible first | exact HB.out | apply below_alloc | apply pw_below_drewN | apply below_drew1) | exact HB.out)⟩
                            · rw [if_neg c38] at H
                              exact absurd H (by simp)
                          · rw [if_neg c37] at H
                            have c37b0 : ((t281.length : Int) == 1) = false := beq_eq_false_iff_ne.mpr c37
                            have c37b1 : ((t281.length : Int) != 1) = true := bne_iff_ne.mpr c37
                            obtain rfl := Option.some.inj H
                            go_wp2_with (first | ((with_reducible refine gate_callee (f := 14) rfl ?_); refine goesL_ (some 65) rfl rfl Tryd.func14 (by kernel_rfl) rfl #[.string x6_2] rfl (by (try simp only [List.map_toArray, List.map_cons, List.map_nil]); first | done | rfl | (simp only [List.length_drop, List.length_take]; rfl)) ?_; (with_reducible refine (shell_Parse.calls k2 x6_2 t281 t282 t283 _ A33.out).mono ?_); rintro e w46 ⟨v284, rfl, ho0, hb⟩; refine ⟨_, rfl, ?_⟩; have n0_ := Aside0.mk (Kd.S_lower ho0 (below_size (by repeat (first | (with_reducible first | exact HB.out | apply below_alloc | apply pw_below_drewN | apply below_drew1) | exact HB.out)))); have n1_ := Aside0.mk (below_step (by repeat (first | (with_reducible first | exact HB.out | apply below_alloc | apply pw_below_drewN | apply below_drew1) | exact HB.out)) hb); clear HB; have HO285 := n0_; have HB := n1_; clear n0_ n1_; (try clear hb); (try clear hb2); (try clear hk); (try clear hi); (try clear ho0); obtain ⟨Ao47, co47, eo47⟩ := Kd.S_slice HO285.out; subst eo47))
                            go_ret
                            exact ⟨by first | rfl | (simp [errW_none, errW_some] <;> rfl) | (simp only [← hji11]; first | rfl | (simp [errW_none, errW_some] <;> rfl)) | (simp [*, errW_none, errW_some] <;> rfl), by repeat (first | (with_reducible first | exact HB.out | apply below_alloc | apply pw_below_drewN | apply below_drew1) | exact HB.out)⟩
                        · rw [if_neg c36] at H
                          have c36b0 : (t282 == 0) = false := beq_eq_false_iff_ne.mpr c36
                          have c36b1 : (t282 != 0) = true := bne_iff_ne.mpr c36
                          obtain rfl := Option.some.inj H
                          go_wp2_with (first | ((with_reducible refine gate_callee (f := 14) rfl ?_); refine goesL_ (some 65) rfl rfl Tryd.func14 (by kernel_rfl) rfl #[.string x6_2] rfl (by (try simp only [List.map_toArray, List.map_cons, List.map_nil]); first | done | rfl | (simp only [List.length_drop, List.length_take]; rfl)) ?_; (with_reducible refine (shell_Parse.calls k2 x6_2 t281 t282 t283 _ A33.out).mono ?_); rintro e w48 ⟨v284, rfl, ho0, hb⟩; refine ⟨_, rfl, ?_⟩; have n0_ := Aside0.mk (Kd.S_lower ho0 (below_size (by repeat (first | (with_reducible first | exact HB.out | apply below_alloc | apply pw_below_drewN | apply below_drew1) | exact HB.out)))); have n1_ := Aside0.mk (below_step (by repeat (first | (with_reducible first | exact HB.out | apply below_alloc | apply pw_below_drewN | apply below_drew1) | exact HB.out)) hb); clear HB; have HO285 := n0_; have HB := n1_; clear n0_ n1_; (try clear hb); (try clear hb2); (try clear hk); (try clear hi); (try clear ho0)))
                          go_ret
                          exact ⟨by first | rfl | (simp [errW_none, errW_some] <;> rfl) | (simp only [← hji11]; first | rfl | (simp [errW_none, errW_some] <;> rfl)) | (simp [*, errW_none, errW_some] <;> rfl), by repeat (first | (with_reducible first | exact HB.out | apply below_alloc | apply pw_below_drewN | apply below_drew1) | exact HB.out)⟩
                      · rw [if_neg c35] at H
                        have c35b0 : (t283 == 0) = false := beq_eq_false_iff_ne.mpr c35
                        have c35b1 : (t283 != 0) = true := bne_iff_ne.mpr c35
                        obtain rfl := Option.some.inj H
                        go_wp2_with (first | ((with_reducible refine gate_callee (f := 14) rfl ?_); refine goesL_ (some 65) rfl rfl Tryd.func14 (by kernel_rfl) rfl #[.string x6_2] rfl (by (try simp only [List.map_toArray, List.map_cons, List.map_nil]); first | done | rfl | (simp only [List.length_drop, List.length_take]; rfl)) ?_; (with_reducible refine (shell_Parse.calls k2 x6_2 t281 t282 t283 _ A33.out).mono ?_); rintro e w49 ⟨v284, rfl, ho0, hb⟩; refine ⟨_, rfl, ?_⟩; have n0_ := Aside0.mk (Kd.S_lower ho0 (below_size (by repeat (first | (with_reducible first | exact HB.out | apply below_alloc | apply pw_below_drewN | apply below_drew1) | exact HB.out)))); have n1_ := Aside0.mk (below_step (by repeat (first | (with_reducible first | exact HB.out | apply below_alloc | apply pw_below_drewN | apply below_drew1) | exact HB.out)) hb); clear HB; have HO285 := n0_; have HB := n1_; clear n0_ n1_; (try clear hb); (try clear hb2); (try clear hk); (try clear hi); (try clear ho0)))
                        go_ret
                        exact ⟨by first | rfl | (simp [errW_none, errW_some] <;> rfl) | (simp only [← hji11]; first | rfl | (simp [errW_none, errW_some] <;> rfl)) | (simp [*, errW_none, errW_some] <;> rfl), by repeat (first | (with_reducible first | exact HB.out | apply below_alloc | apply pw_below_drewN | apply below_drew1) | exact HB.out)⟩
                    · rw [if_neg c34] at H
                      have c34b0 : (a1 == ((rdOf ByteArray.empty t273 (ji11)).size : Int)) = false := beq_eq_false_iff_ne.mpr c34
                      have c34b1 : (a1 != ((rdOf ByteArray.empty t273 (ji11)).size : Int)) = true := bne_iff_ne.mpr c34
                      by_cases c50 : a1 > ((rdOf ByteArray.empty t273 (ji11)).size : Int)
                      · rw [if_pos c50] at H
                        have c50b0 : decide (((rdOf ByteArray.empty t273 (ji11)).size : Int) < a1) = true := decide_eq_true c50
                        clear c50
                        by_cases c51 : t283 = 4
                        · rw [if_pos c51] at H
                          have c51b0 : (t283 == 4) = true := beq_iff_eq.mpr c51
                          have c51b1 : (t283 != 4) = false := bne_eq_false_iff_eq.mpr c51
                          clear c51
                          by_cases c52 : t282 = 1
                          · rw [if_pos c52] at H
                            have c52b0 : (t282 == 1) = true := beq_iff_eq.mpr c52
                            have c52b1 : (t282 != 1) = false := bne_eq_false_iff_eq.mpr c52
                            clear c52
                            by_cases c53 : (t281.length : Int) = 0
                            · rw [if_pos c53] at H
                              have c53b0 : ((t281.length : Int) == 0) = true := beq_iff_eq.mpr c53
                              have c53b1 : ((t281.length : Int) != 0) = false := bne_eq_false_iff_eq.mpr c53
                              clear c53
                              replace H := Option.bind_eq_some_iff.mp H
                              obtain ⟨t288, A540, H⟩ := H
                              replace H : (some t288) = some r := H
                              have A54 := Aside0.mk A540
                              clear A540
                              obtain rfl := Option.some.inj H
                              go_wp2_with (first | ((with_reducible refine gate_callee (f := 14) rfl ?_); refine goesL_ (some 65) rfl rfl Tryd.func14 (by kernel_rfl) rfl #[.string x6_2] rfl (by (try simp only [List.map_toArray, List.map_cons, List.map_nil]); first | done | rfl | (simp only [List.length_drop, List.length_take]; rfl)) ?_; (with_reducible refine (shell_Parse.calls k2 x6_2 t281 t282 t283 _ A33.out).mono ?_); rintro e w55 ⟨v284, rfl, ho0, hb⟩; refine ⟨_, rfl, ?_⟩; have n0_ := Aside0.mk (Kd.S_lower ho0 (below_size (by repeat (first | (with_reducible first | exact HB.out | apply below_alloc | apply pw_below_drewN | apply below_drew1) | exact HB.out)))); have n1_ := Aside0.mk (below_step (by repeat (first | (with_reducible first | exact HB.out | apply below_alloc | apply pw_below_drewN | apply below_drew1) | exact HB.out)) hb); clear HB; have HO285 := n0_; have HB := n1_; clear n0_ n1_; (try clear hb); (try clear hb2); (try clear hk); (try clear hi); (try clear ho0); obtain ⟨Ao56, co56, eo56⟩ := Kd.S_slice HO285.out; subst eo56) | (go_at_call 11; (with_reducible refine (grapnellaw21_awake.calls k2  t288 _ A54.out).mono ?_); rintro e w57 ⟨rfl, hb⟩; have n0_ := Aside0.mk (Kd.S_below (by (with_reducible repeat (first | apply Kd.S_alloc | apply Kd.S_drewN | apply Kd.S_drew)); exact HO285.out) hb); have n1_ := Aside0.mk (below_step (by repeat (first | (with_reducible first | exact HB.out | apply below_alloc | apply pw_below_drewN | apply below_drew1) | exact HB.out)) hb); clear HO285; clear HB; have HO285 := n0_; have HB := n1_; clear n0_ n1_; (try clear hb); (try clear hb2); (try clear hk); (try clear hi)))
                              go_ret
                              exact ⟨by first | rfl | (simp [errW_none, errW_some] <;> rfl) | (simp only [← hji11]; first | rfl | (simp [errW_none, errW_some] <;> rfl)) | (simp [*, errW_none, errW_some] <;> rfl), by repeat (first | (with_reducible first | exact HB.out | apply below_alloc | apply pw_below_drewN | apply below_drew1) | exact HB.out)⟩
                            · rw [if_neg c53] at H
                              have c53b0 : ((t281.length : Int) == 0) = false := beq_eq_false_iff_ne.mpr c53
                              have c53b1 : ((t281.length : Int) != 0) = true := bne_iff_ne.mpr c53
                              have c53b2 : ¬ (t281 = []) := fun h_ => c53 (by rw [h_]; rfl)
                              obtain rfl := Option.some.inj H
                              go_wp2_with (first | ((with_reducible refine gate_callee (f := 14) rfl ?_); refine goesL_ (some 65) rfl rfl Tryd.func14 (by kernel_rfl) rfl #[.string x6_2] rfl (by (try simp only [List.map_toArray, List.map_cons, List.map_nil]); first | done | rfl | (simp only [List.length_drop, List.length_take]; rfl)) ?_; (with_reducible refine (shell_Parse.calls k2 x6_2 t281 t282 t283 _ A33.out).mono ?_); rintro e w58 ⟨v284, rfl, ho0, hb⟩; refine ⟨_, rfl, ?_⟩; have n0_ := Aside0.mk (Kd.S_lower ho0 (below_size (by repeat (first | (with_reducible first | exact HB.out | apply below_alloc | apply pw_below_drewN | apply below_drew1) | exact HB.out)))); have n1_ := Aside0.mk (below_step (by repeat (first | (with_reducible first | exact HB.out | apply below_alloc | apply pw_below_drewN | apply below_drew1) | exact HB.out)) hb); clear HB; have HO285 := n0_; have HB := n1_; clear n0_ n1_; (try clear hb); (try clear hb2); (try clear hk); (try clear hi); (try clear ho0); obtain ⟨Ao59, co59, eo59⟩ := Kd.S_slice HO285.out; subst eo59))
                              go_ret
                              exact ⟨by first | rfl | (simp [errW_none, errW_some] <;> rfl) | (simp only [← hji11]; first | rfl | (simp [errW_none, errW_some] <;> rfl)) | (simp [*, errW_none, errW_some] <;> rfl), by repeat (first | (with_reducible first | exact HB.out | apply below_alloc | apply pw_below_drewN | apply below_drew1) | exact HB.out)⟩
                          · rw [if_neg c52] at H
                            have c52b0 : (t282 == 1) = false := beq_eq_false_iff_ne.mpr c52
                            have c52b1 : (t282 != 1) = true := bne_iff_ne.mpr c52
                            obtain rfl := Option.some.inj H
                            go_wp2_with (first | ((with_reducible refine gate_callee (f := 14) rfl ?_); refine goesL_ (some 65) rfl rfl Tryd.func14 (by kernel_rfl) rfl #[.string x6_2] rfl (by (try simp only [List.map_toArray, List.map_cons, List.map_nil]); first | done | rfl | (simp only [List.length_drop, List.length_take]; rfl)) ?_; (with_reducible refine (shell_Parse.calls k2 x6_2 t281 t282 t283 _ A33.out).mono ?_); rintro e w60 ⟨v284, rfl, ho0, hb⟩; refine ⟨_, rfl, ?_⟩; have n0_ := Aside0.mk (Kd.S_lower ho0 (below_size (by repeat (first | (with_reducible first | exact HB.out | apply below_alloc | apply pw_below_drewN | apply below_drew1) | exact HB.out)))); have n1_ := Aside0.mk (below_step (by repeat (first | (with_reducible first | exact HB.out | apply below_alloc | apply pw_below_drewN | apply below_drew1) | exact HB.out)) hb); clear HB; have HO285 := n0_; have HB := n1_; clear n0_ n1_; (try clear hb); (try clear hb2); (try clear hk); (try clear hi); (try clear ho0)))
                            go_ret
                            exact ⟨by first | rfl | (simp [errW_none, errW_some] <;> rfl) | (simp only [← hji11]; first | rfl | (simp [errW_none, errW_some] <;> rfl)) | (simp [*, errW_none, errW_some] <;> rfl), by repeat (first | (with_reducible first | exact HB.out | apply below_alloc | apply pw_below_drewN | apply below_drew1) | exact HB.out)⟩
                        · rw [if_neg c51] at H
                          have c51b0 : (t283 == 4) = false := beq_eq_false_iff_ne.mpr c51
                          have c51b1 : (t283 != 4) = true := bne_iff_ne.mpr c51
                          obtain rfl := Option.some.inj H
                          go_wp2_with (first | ((with_reducible refine gate_callee (f := 14) rfl ?_); refine goesL_ (some 65) rfl rfl Tryd.func14 (by kernel_rfl) rfl #[.string x6_2] rfl (by (try simp only [List.map_toArray, List.map_cons, List.map_nil]); first | done | rfl | (simp only [List.length_drop, List.length_take]; rfl)) ?_; (with_reducible refine (shell_Parse.calls k2 x6_2 t281 t282 t283 _ A33.out).mono ?_); rintro e w61 ⟨v284, rfl, ho0, hb⟩; refine ⟨_, rfl, ?_⟩; have n0_ := Aside0.mk (Kd.S_lower ho0 (below_size (by repeat (first | (with_reducible first | exact HB.out | apply below_alloc | apply pw_below_drewN | apply below_drew1) | exact HB.out)))); have n1_ := Aside0.mk (below_step (by repeat (first | (with_reducible first | exact HB.out | apply below_alloc | apply pw_below_drewN | apply below_drew1) | exact HB.out)) hb); clear HB; have HO285 := n0_; have HB := n1_; clear n0_ n1_; (try clear hb); (try clear hb2); (try clear hk); (try clear hi); (try clear ho0)))
                          go_ret
                          exact ⟨by first | rfl | (simp [errW_none, errW_some] <;> rfl) | (simp only [← hji11]; first | rfl | (simp [errW_none, errW_some] <;> rfl)) | (simp [*, errW_none, errW_some] <;> rfl), by repeat (first | (with_reducible first | exact HB.out | apply below_alloc | apply pw_below_drewN | apply below_drew1) | exact HB.out)⟩
                      · rw [if_neg c50] at H
                        have c50b0 : decide (((rdOf ByteArray.empty t273 (ji11)).size : Int) < a1) = false := decide_eq_false c50
                        clear c50
                        by_cases c62 : t283 = 3
                        · rw [if_pos c62] at H
                          have c62b0 : (t283 == 3) = true := beq_iff_eq.mpr c62
                          have c62b1 : (t283 != 3) = false := bne_eq_false_iff_eq.mpr c62
                          clear c62
                          by_cases c63 : t282 = 1
                          · rw [if_pos c63] at H
                            have c63b0 : (t282 == 1) = true := beq_iff_eq.mpr c63
                            have c63b1 : (t282 != 1) = false := bne_eq_false_iff_eq.mpr c63
                            clear c63
                            by_cases c64 : (t281.length : Int) = 0
                            · rw [if_pos c64] at H
                              have c64b0 : ((t281.length : Int) == 0) = true := beq_iff_eq.mpr c64
                              have c64b1 : ((t281.length : Int) != 0) = false := bne_eq_false_iff_eq.mpr c64
                              clear c64
                              replace H := Option.bind_eq_some_iff.mp H
                              obtain ⟨t289, A650, H⟩ := H
                              replace H : (some t289) = some r := H
                              have A65 := Aside0.mk A650
                              clear A650
                              obtain rfl := Option.some.inj H
                              go_wp2_with (first | ((with_reducible refine gate_callee (f := 14) rfl ?_); refine goesL_ (some 65) rfl rfl Tryd.func14 (by kernel_rfl) rfl #[.string x6_2] rfl (by (try simp only [List.map_toArray, List.map_cons, List.map_nil]); first | done | rfl | (simp only [List.length_drop, List.length_take]; rfl)) ?_; (with_reducible refine (shell_Parse.calls k2 x6_2 t281 t282 t283 _ A33.out).mono ?_); rintro e w66 ⟨v284, rfl, ho0, hb⟩; refine ⟨_, rfl, ?_⟩; have n0_ := Aside0.mk (Kd.S_lower ho0 (below_size (by repeat (first | (with_reducible first | exact HB.out | apply below_alloc | apply pw_below_drewN | apply below_drew1) | exact HB.out)))); have n1_ := Aside0.mk (below_step (by repeat (first | (with_reducible first | exact HB.out | apply below_alloc | apply pw_below_drewN | apply below_drew1) | exact HB.out)) hb); clear HB; have HO285 := n0_; have HB := n1_; clear n0_ n1_; (try clear hb); (try clear hb2); (try clear hk); (try clear hi); (try clear ho0); obtain ⟨Ao67, co67, eo67⟩ := Kd.S_slice HO285.out; subst eo67) | (go_at_call 11; (with_reducible refine (grapnellaw21_awake.calls k2  t289 _ A65.out).mono ?_); rintro e w68 ⟨rfl, hb⟩; have n0_ := Aside0.mk (Kd.S_below (by (with_reducible repeat (first | apply Kd.S_alloc | apply Kd.S_drewN | apply Kd.S_drew)); exact HO285.out) hb); have n1_ := Aside0.mk (below_step (by repeat (first | (with_reducible first | exact HB.out | apply below_alloc | apply pw_below_drewN | apply below_drew1) | exact HB.out)) hb); clear HO285; clear HB; have HO285 := n0_; have HB := n1_; clear n0_ n1_; (try clear hb); (try clear hb2); (try clear hk); (try clear hi)))
                              go_ret
                              exact ⟨by first | rfl | (simp [errW_none, errW_some] <;> rfl) | (simp only [← hji11]; first | rfl | (simp [errW_none, errW_some] <;> rfl)) | (simp [*, errW_none, errW_some] <;> rfl), by repeat (first | (with_reducible first | exact HB.out | apply below_alloc | apply pw_below_drewN | apply below_drew1) | exact HB.out)⟩
                            · rw [if_neg c64] at H
                              have c64b0 : ((t281.length : Int) == 0) = false := beq_eq_false_iff_ne.mpr c64
                              have c64b1 : ((t281.length : Int) != 0) = true := bne_iff_ne.mpr c64
                              have c64b2 : ¬ (t281 = []) := fun h_ => c64 (by rw [h_]; rfl)
                              obtain rfl := Option.some.inj H
                              go_wp2_with (first | ((with_reducible refine gate_callee (f := 14) rfl ?_); refine goesL_ (some 65) rfl rfl Tryd.func14 (by kernel_rfl) rfl #[.string x6_2] rfl (by (try simp only [List.map_toArray, List.map_cons, List.map_nil]); first | done | rfl | (simp only [List.length_drop, List.length_take]; rfl)) ?_; (with_reducible refine (shell_Parse.calls k2 x6_2 t281 t282 t283 _ A33.out).mono ?_); rintro e w69 ⟨v284, rfl, ho0, hb⟩; refine ⟨_, rfl, ?_⟩; have n0_ := Aside0.mk (Kd.S_lower ho0 (below_size (by repeat (first | (with_reducible first | exact HB.out | apply below_alloc | apply pw_below_drewN | apply below_drew1) | exact HB.out)))); have n1_ := Aside0.mk (below_step (by repeat (first | (with_reducible first | exact HB.out | apply below_alloc | apply pw_below_drewN | apply below_drew1) | exact HB.out)) hb); clear HB; have HO285 := n0_; have HB := n1_; clear n0_ n1_; (try clear hb); (try clear hb2); (try clear hk); (try clear hi); (try clear ho0); obtain ⟨Ao70, co70, eo70⟩ := Kd.S_slice HO285.out; subst eo70))
                              go_ret
                              exact ⟨by first | rfl | (simp [errW_none, errW_some] <;> rfl) | (simp only [← hji11]; first | rfl | (simp [errW_none, errW_some] <;> rfl)) | (simp [*, errW_none, errW_some] <;> rfl), by repeat (first | (with_reducible first | exact HB.out | apply below_alloc | apply pw_below_drewN | apply below_drew1) | exact HB.out)⟩
                          · rw [if_neg c63] at H
                            have c63b0 : (t282 == 1) = false := beq_eq_false_iff_ne.mpr c63
                            have c63b1 : (t282 != 1) = true := bne_iff_ne.mpr c63
                            obtain rfl := Option.some.inj H
                            go_wp2_with (first | ((with_reducible refine gate_callee (f := 14) rfl ?_); refine goesL_ (some 65) rfl rfl Tryd.func14 (by kernel_rfl) rfl #[.string x6_2] rfl (by (try simp only [List.map_toArray, List.map_cons, List.map_nil]); first | done | rfl | (simp only [List.length_drop, List.length_take]; rfl)) ?_; (with_reducible refine (shell_Parse.calls k2 x6_2 t281 t282 t283 _ A33.out).mono ?_); rintro e w71 ⟨v284, rfl, ho0, hb⟩; refine ⟨_, rfl, ?_⟩; have n0_ := Aside0.mk (Kd.S_lower ho0 (below_size (by repeat (first | (with_reducible first | exact HB.out | apply below_alloc | apply pw_below_drewN | apply below_drew1) | exact HB.out)))); have n1_ := Aside0.mk (below_step (by repeat (first | (with_reducible first | exact HB.out | apply below_alloc | apply pw_below_drewN | apply below_drew1) | exact HB.out)) hb); clear HB; have HO285 := n0_; have HB := n1_; clear n0_ n1_; (try clear hb); (try clear hb2); (try clear hk); (try clear hi); (try clear ho0)))
                            go_ret
                            exact ⟨by first | rfl | (simp [errW_none, errW_some] <;> rfl) | (simp only [← hji11]; first | rfl | (simp [errW_none, errW_some] <;> rfl)) | (simp [*, errW_none, errW_some] <;> rfl), by repeat (first | (with_reducible first | exact HB.out | apply below_alloc | apply pw_below_drewN | apply below_drew1) | exact HB.out)⟩
                        · rw [if_neg c62] at H
                          have c62b0 : (t283 == 3) = false := beq_eq_false_iff_ne.mpr c62
                          have c62b1 : (t283 != 3) = true := bne_iff_ne.mpr c62
                          obtain rfl := Option.some.inj H
                          go_wp2_with (first | ((with_reducible refine gate_callee (f := 14) rfl ?_); refine goesL_ (some 65) rfl rfl Tryd.func14 (by kernel_rfl) rfl #[.string x6_2] rfl (by (try simp only [List.map_toArray, List.map_cons, List.map_nil]); first | done | rfl | (simp only [List.length_drop, List.length_take]; rfl)) ?_; (with_reducible refine (shell_Parse.calls k2 x6_2 t281 t282 t283 _ A33.out).mono ?_); rintro e w72 ⟨v284, rfl, ho0, hb⟩; refine ⟨_, rfl, ?_⟩; have n0_ := Aside0.mk (Kd.S_lower ho0 (below_size (by repeat (first | (with_reducible first | exact HB.out | apply below_alloc | apply pw_below_drewN | apply below_drew1) | exact HB.out)))); have n1_ := Aside0.mk (below_step (by repeat (first | (with_reducible first | exact HB.out | apply below_alloc | apply pw_below_drewN | apply below_drew1) | exact HB.out)) hb); clear HB; have HO285 := n0_; have HB := n1_; clear n0_ n1_; (try clear hb); (try clear hb2); (try clear hk); (try clear hi); (try clear ho0)))
                          go_ret
                          exact ⟨by first | rfl | (simp [errW_none, errW_some] <;> rfl) | (simp only [← hji11]; first | rfl | (simp [errW_none, errW_some] <;> rfl)) | (simp [*, errW_none, errW_some] <;> rfl), by repeat (first | (with_reducible first | exact HB.out | apply below_alloc | apply pw_below_drewN | apply below_drew1) | exact HB.out)⟩
            · rw [if_neg c15] at H
              exact absurd H (by simp)
          · rw [if_neg c13] at H
            exact absurd H (by simp)
        · rw [if_neg c12] at H
          exact absurd H (by simp)

/-- THE ONE PURE STATEMENT of grapnellaw21_ShellNeeds: yours. -/
def grapnellaw21_ShellNeeds.Pure : Prop := ∀ (a0 : Int) (a1 : Int), (Lit.int .i64 a0).wf = true → (Lit.int .i64 a1).wf = true → ∃ k, grapnellaw21_ShellNeeds.f k a0 a1 = some true
theorem grapnellaw21_ShellNeeds.walk (P : grapnellaw21_ShellNeeds.Pure) (a0 : Int) (a1 : Int) (w : World) (w0 : (Lit.int .i64 a0).wf = true) (w1 : (Lit.int .i64 a1).wf = true) :
    Calls Tryd.prog 3 #[.int .i64 a0, .int .i64 a1] w fun e w' => e = .returned (.bool true) ∧ Below w.heap.size w w' := by
  obtain ⟨k, h⟩ := P a0 a1 w0 w1
  refine (grapnellaw21_ShellNeeds.calls k a0 a1 true w h).mono ?_
  rintro e w' ⟨rfl, hd⟩
  exact ⟨rfl, hd⟩

end Go.Proofs.YtenigkhfldafaaaDoor.A

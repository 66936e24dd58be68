import Derived.Test.YtenigkhfldafaaaDoorA0
import Derived.Test.YtenigkhfldafaaaDoorA1
import Derived.Test.YtenigkhfldafaaaDoorZ
namespace Go.Proofs.YtenigkhfldafaaaDoor.A
open Go.RowKit Go.Proofs.YtenigkhfldafaaaDoorW.PrintWords Go.Proofs.YtenigkhfldafaaaDoorW.PrintLast Go.Proofs.YtenigkhfldafaaaDoorW.PrintMore
attribute [local go_sem] max2_int min2_int max_two min_two max_three min_three max_four min_four
set_option linter.unusedVariables false
set_option linter.unusedSimpArgs false
set_option maxRecDepth 100000 in
mutual
def shell_line_skip.j1 : Nat → ByteArray → Int → Option (ByteArray × Int)
 | 0, _, _ => none
 | k + 1, x1000, x1001 => (shell_line_end.f x1000 x1001).bind fun bt120 => (if bt120.1 = true then (some (x1000, x1001)) else (if 0 ≤ x1001 then (if x1001 < (x1000.size : Int) then (if (bt x1000 x1001) = 35 then (some (x1000, (x1000.size : Int))) else (some (x1000, x1001))) else (none)) else (none)))
def shell_line_skip.l0 : Nat → ByteArray → Int → Option (ByteArray × Int)
 | 0, _, _ => none
 | k + 1, x1000, x1001 => (shell_line_end.f x1000 x1001).bind fun bt116 => (if bt116.1 = true then (shell_line_skip.j1 k x1000 x1001) else (if 0 ≤ x1001 then (if x1001 < (x1000.size : Int) then ((shell_blank.f (bt x1000 x1001)).bind fun t119 => (if t119 = true then (shell_line_skip.l0 k x1000 (wrap64 (x1001 + 1))) else (shell_line_skip.j1 k x1000 x1001))) else (none)) else (none)))
end
def shell_line_skip.f (k : Nat) (s0_0 : ByteArray) (s0_1 : Int) : Option (ByteArray × Int) := shell_line_skip.l0 k s0_0 s0_1
set_option maxRecDepth 100000 in
theorem shell_line_skip.mono_l : ∀ k, (∀ y0 y1, LeO (shell_line_skip.j1 k y0 y1) (shell_line_skip.j1 (k + 1) y0 y1)) ∧ (∀ y0 y1, LeO (shell_line_skip.l0 k y0 y1) (shell_line_skip.l0 (k + 1) y0 y1))
 | 0 => ⟨fun _ _ r h => no_ h, fun _ _ r h => no_ h⟩
 | k + 1 => by
  obtain ⟨ih0, ih1⟩ := shell_line_skip.mono_l k; refine ⟨?_, ?_⟩
  ·intro y0 y1; unfold shell_line_skip.j1
   repeat' first
   | (with_reducible exact ih0 _ _)
   | (with_reducible exact ih1 _ _)
   | (with_reducible exact LeO.refl _)
   | (with_reducible exact LeO.none _)
   | (with_reducible refine LeO.ite ?_ ?_)
   | (with_reducible refine LeO.bind ?_ (fun _ => ?_))
  ·intro y0 y1; unfold shell_line_skip.l0
   repeat' first
   | (with_reducible exact ih0 _ _)
   | (with_reducible exact ih1 _ _)
   | (with_reducible exact LeO.refl _)
   | (with_reducible exact LeO.none _)
   | (with_reducible refine LeO.ite ?_ ?_)
   | (with_reducible refine LeO.bind ?_ (fun _ => ?_))
set_option maxRecDepth 100000 in
theorem shell_line_skip.mono : ∀ a0 a1 k, LeO (shell_line_skip.f k a0 a1) (shell_line_skip.f (k + 1) a0 a1) := by
 intro a0 a1 k; obtain ⟨ih0, ih1⟩ := shell_line_skip.mono_l k; unfold shell_line_skip.f
 repeat' first
   | (with_reducible exact ih0 _ _)
   | (with_reducible exact ih1 _ _)
   | (with_reducible exact LeO.refl _)
   | (with_reducible exact LeO.none _)
   | (with_reducible refine LeO.ite ?_ ?_)
   | (with_reducible refine LeO.bind ?_ (fun _ => ?_))
def shell_line_skip.T0 : Bool × List (List Nat × List Nat) := (true, [([], []), ([0], [0]), ([1], [1]), ([2, 1], [2]), ([3], [3]), ([4, 3], [3, 4]), ([5, 3], [3, 5]), ([6, 3], [3, 6]), ([3], [3]), ([8, 3], [3, 8]), ([9, 3], [3, 9]), ([10, 3], [3, 10]), ([7, 11, 3], [3, 7, 11]), ([12, 3, 3], [3, 12]), ([3, 13], [3, 13])])
def shell_line_skip.B0 : List Nat := [0, 1, 3, 7, 15, 31, 63, 127, 15, 271, 783, 1807, 4095, 8191, 16383]
theorem shell_line_skip.tab0 : rtab .any (opsOf Tryd.f46 0) = shell_line_skip.T0 := by kernel_rfl
theorem shell_line_skip.bits0 : waitsOk shell_line_skip.T0.2 shell_line_skip.B0 = true := by kernel_rfl
def shell_line_skip.T2 : Bool × List (List Nat × List Nat) := (true, [([], []), ([0], [0]), ([1], [1]), ([2, 1], [2]), ([3], [3]), ([4, 3], [3, 4]), ([5, 3], [3, 5]), ([6, 3], [3, 6]), ([3], [3]), ([8, 3], [3, 8]), ([9, 3], [3, 9]), ([10, 3], [3, 10]), ([7, 11, 3], [3, 7, 11]), ([12, 3], [3, 12]), ([3, 13], [3, 13])])
def shell_line_skip.B2 : List Nat := [0, 1, 3, 7, 15, 31, 63, 127, 15, 271, 783, 1807, 4095, 8191, 16383]
theorem shell_line_skip.tab2 : rtab .any (opsOf Tryd.f46 2) = shell_line_skip.T2 := by kernel_rfl
theorem shell_line_skip.bits2 : waitsOk shell_line_skip.T2.2 shell_line_skip.B2 = true := by kernel_rfl
set_option maxHeartbeats 8000000 in
set_option maxRecDepth 100000 in
theorem shell_line_skip.calls (k : Nat) (g : Nat) (s0_0 : ByteArray) (s0_1 : Int) (r1 : ByteArray) (r2 : Int) (w0 w : World) (hI : IsS86 w0 w g s0_0 s0_1) (hB : Below w0.heap.size w0 w) (h : shell_line_skip.f k s0_0 s0_1 = some (r1, r2)) :
  Calls Tryd.prog 46 #[.pointer (some ⟨g, 0, none⟩)] w fun e w' => e = .returned (.tuple #[]) ∧ IsS86 w0 w' g r1 r2 ∧ Below w0.heap.size w0 w' ∧ KeepBut w w' g none := by
 have HI0 := Aside0.mk hI; have HK := Aside0.mk (KeepBut.refl w g none); have HL := Aside0.mk hB.size; clear hI; have HW0 := Aside0.mk hB.size; have HB := Aside0.mk hB; clear hB; have H : (shell_line_skip.l0 k s0_0 s0_1) = some (r1, r2) := h; clear h; have HC2 := Aside0.mk H; clear H; go_enter Tryd.func46, Tryd.ntmps46
 go_upto_block 0 with (fail)
 go_cut [] (fun wc => ∃ (kq : Nat) (x1000_1 : ByteArray) (x1001_1 : Int), Aside0 (shell_line_skip.j1 kq x1000_1 x1001_1 = some (r1, r2)) ∧ Aside0 (kq ≤ k) ∧ Aside0 (IsS86 w0 wc g x1000_1 x1001_1) ∧ Aside0 (KeepBut w wc g none) ∧ Aside0 (Below w0.heap.size w0 wc))
 case first =>
  have H := HC2.out; clear HC2; have H' := Aside0.mk H; clear H; go_wp2
  go_loopg [] k (fun kq w' => ∃ (x1000_1 : ByteArray) (x1001_1 : Int), Aside0 (shell_line_skip.l0 kq x1000_1 x1001_1 = some (r1, r2)) ∧ Aside0 (kq ≤ k) ∧ Aside0 (IsS86 w0 w' g x1000_1 x1001_1) ∧ Aside0 (KeepBut w w' g none) ∧ Aside0 (Below w0.heap.size w0 w'))
  case atStart => exact ⟨(s0_0), (s0_1), H', ⟨Nat.le_refl _⟩, ⟨by repeat (first | (with_reducible first | exact HI0.out | apply IsS86.alloc | apply IsS86.drewN | apply IsS86.drew | apply IsS86.set_0 | apply IsS86.set_1) | exact HI0.out)⟩, ⟨by repeat (first | (with_reducible first | exact HK.out | apply KeepBut.set_ | apply keep_drewN | apply keep_drew | apply keep_alloc) | exact HK.out)⟩, ⟨by repeat (first | (with_reducible first | exact HB.out | apply ba | apply bn | apply bd | refine below_set ?_ (IsS86.ge HI0.out)) | exact HB.out)⟩⟩
  case round =>
   clear H'; (try clear p2); obtain ⟨x1000_1, x1001_1, HA, HK1, HI0, HK, HB⟩ := hrel
   cases gk with
   | zero => exact absurd (show (none : Option (ByteArray × Int)) = some (r1, r2) from HA.out) (fun h_ => nomatch h_)
   | succ k1 =>
    have H := HA.out; clear HA; simp only [shell_line_skip.l0] at H; replace H := Option.bind_eq_some_iff.mp H; obtain ⟨⟨t116, t117, t118⟩, A30, H⟩ := H; replace H : (if t116 = true then (shell_line_skip.j1 k1 x1000_1 x1001_1) else (if 0 ≤ x1001_1 then (if x1001_1 < (x1000_1.size : Int) then ((shell_blank.f (bt x1000_1 x1001_1)).bind fun t119 => (if t119 = true then (shell_line_skip.l0 k1 x1000_1 (wrap64 (x1001_1 + 1))) else (shell_line_skip.j1 k1 x1000_1 x1001_1))) else (none)) else (none))) = some (r1, r2) := H; obtain ⟨rfl, rfl⟩ := shell_line_end.ro A30; have A3 := Aside0.mk A30; clear A30
    by_cases c4 : t116 = true
    ·subst c4
     (have H1 : (shell_line_skip.j1 k1 x1000_1 x1001_1) = some (r1, r2) := by rw [if_pos rfl] at H; exact H); clear H; have H := H1; clear H1; have H' := Aside0.mk H; clear H; (try go_wp2); have n0_ := Aside0.mk (IsS86.drew HI0.out); have n1_ := Aside0.mk (keep_drew HK.out); have n2_ := Aside0.mk (below_drew1 HB.out); clear HI0; clear HK; clear HB; have HI0 := n0_; have HK := n1_; have HB := n2_; clear n0_ n1_ n2_; refine start_ (n := 15) (S := fun w' => True) (ds := []) #[false, false, false, false, false, false, false, false, false, false, false, false, false, false, false] (by kernel_rfl) rfl rfl trivial (fun hHeld => ?_); refine with_tabW shell_line_skip.tab0 shell_line_skip.bits0 (fun HT_ HW_ => ?_); generalize wr.drew = w5 at HI0 HK HB hHeld ⊢; refine pu_ (i := 0) (N := some 2) (v := ?_) (a' := ?_) #[true, false, false, false, false, false, false, false, false, false, false, false, false, false, false] (hc := any_of HT_.out (by kernel_rfl)) ?_ ?_ ?_; rotate_left; (intro w'; go_simp; with_reducible rfl); rotate_left
     ·simp only [zz]; rfl
     refine one_ (i := 1) (N := some 3) #[true, true, false, false, false, false, false, false, false, false, false, false, false, false, false] rfl rfl (one_of HT_.out (by kernel_rfl)) (by decide) (fun K hK => ?_); refine goes_ Tryd.func47 (by kernel_rfl) rfl #[.pointer (some ⟨g, 0, none⟩)] (by rfl) rfl rfl mt ?_; (with_reducible refine (shell_line_end.calls g x1000_1 x1001_1 true x1000_1 x1001_1 w0 _ ?side1 ?side2 A3.out).mono ?_)
     (case side1 => repeat (first | (with_reducible first | exact HI0.out | apply IsS86.alloc | apply IsS86.drewN | apply IsS86.drew | apply IsS86.set_0 | apply IsS86.set_1) | exact HI0.out))
     (case side2 => repeat (first | (with_reducible first | exact HB.out | apply ba | apply bn | apply bd | refine below_set ?_ (IsS86.ge HI0.out)) | exact HB.out))
     rintro e w6 ⟨rfl, hi, hb, hk⟩; refine ⟨_, rfl, ?_⟩; have n0_ := Aside0.mk (KeepBut.trans (by repeat (first | (with_reducible first | exact HK.out | apply KeepBut.set_ | apply keep_drewN | apply keep_drew | apply keep_alloc) | exact HK.out)) hk (.inl rfl)); have n1_ := Aside0.mk (hb); have n2_ := Aside0.mk (hi); clear HK; clear HB; clear HI0; have HK := n0_; have HB := n1_; have HI0 := n2_; clear n0_ n1_ n2_; (try clear hb); (try clear hb2); (try clear hk); (try clear hi); refine hK.out _ _ trivial (fun hHeld => ?_); clear hK K; refine norm_ (a' := ?_) ?_ ?_; rotate_left; ((show Act.put _ (some 3) _ = _); simp only [zz]; rfl); refine pu_ (i := 2) (N := some 4) (v := ?_) (a' := ?_) #[true, true, true, false, false, false, false, false, false, false, false, false, false, false, false] (hc := any_of HT_.out (by kernel_rfl)) ?_ ?_ ?_; rotate_left; (intro w'; go_simp; with_reducible rfl); rotate_left
     ·simp only [zz]; rfl
     refine pu_ (i := 3) (N := some 5) (v := ?_) (a' := ?_) #[true, true, true, true, false, false, false, false, false, false, false, false, false, false, false] (hc := any_of HT_.out (by kernel_rfl)) ?_ ?_ ?_; rotate_left; (intro w'; go_simp; with_reducible rfl); rotate_left
     ·simp only [zz]; rfl
     refine pure_ (i := 4) (N := some 6) (v := undef) (a' := ?_) #[true, true, true, true, true, false, false, false, false, false, false, false, false, false, false] rfl rfl (any_of HT_.out (by kernel_rfl)) (fun _ _ _ h => h) (Or.inr ⟨by rfl, rfl⟩) ?_ ?_; rotate_left
     ·simp only [zz]; rfl
     refine pure_ (i := 5) (N := some 7) (v := undef) (a' := ?_) #[true, true, true, true, true, true, false, false, false, false, false, false, false, false, false] rfl rfl (any_of HT_.out (by kernel_rfl)) (fun _ _ _ h => h) (Or.inr ⟨by rfl, rfl⟩) ?_ ?_; rotate_left
     ·simp only [zz]; rfl
     refine pure_ (i := 6) (N := some 8) (v := undef) (a' := ?_) #[true, true, true, true, true, true, true, false, false, false, false, false, false, false, false] rfl rfl (any_of HT_.out (by kernel_rfl)) (fun _ _ _ h => h) (Or.inr ⟨by rfl, rfl⟩) ?_ ?_; rotate_left
     ·simp only [zz]; rfl
     refine pure_ (i := 7) (N := some 9) (v := undef) (a' := ?_) #[true, true, true, true, true, true, true, true, false, false, false, false, false, false, false] rfl rfl (any_of HT_.out (by kernel_rfl)) (fun _ _ _ h => h) (Or.inr ⟨by rfl, rfl⟩) ?_ ?_; rotate_left
     ·simp only [zz]; rfl
     refine pure_ (i := 8) (N := some 10) (v := undef) (a' := ?_) #[true, true, true, true, true, true, true, true, true, false, false, false, false, false, false] rfl rfl (any_of HT_.out (by kernel_rfl)) (fun _ _ _ h => h) (Or.inr ⟨by rfl, rfl⟩) ?_ ?_; rotate_left
     ·simp only [zz]; rfl
     refine pure_ (i := 9) (N := some 11) (v := undef) (a' := ?_) #[true, true, true, true, true, true, true, true, true, true, false, false, false, false, false] rfl rfl (any_of HT_.out (by kernel_rfl)) (fun _ _ _ h => h) (Or.inr ⟨by rfl, rfl⟩) ?_ ?_; rotate_left
     ·simp only [zz]; rfl
     refine pure_ (i := 10) (N := some 12) (v := undef) (a' := ?_) #[true, true, true, true, true, true, true, true, true, true, true, false, false, false, false] rfl rfl (any_of HT_.out (by kernel_rfl)) (fun _ _ _ h => h) (Or.inr ⟨by rfl, rfl⟩) ?_ ?_; rotate_left
     ·simp only [zz]; rfl
     refine pure_ (i := 11) (N := some 13) (v := undef) (a' := ?_) #[true, true, true, true, true, true, true, true, true, true, true, true, false, false, false] rfl rfl (any_of HT_.out (by kernel_rfl)) (fun _ _ _ h => h) (Or.inr ⟨by rfl, rfl⟩) ?_ ?_; rotate_left
     ·simp only [zz]; rfl
     refine pure_ (i := 12) (N := some 14) (v := undef) (a' := ?_) #[true, true, true, true, true, true, true, true, true, true, true, true, true, false, false] rfl rfl (any_of HT_.out (by kernel_rfl)) (fun _ _ _ h => h) (Or.inr ⟨by rfl, rfl⟩) ?_ ?_; rotate_left
     ·simp only [zz]; rfl
     refine pure_ (i := 13) (N := some 15) (v := undef) (a' := ?_) #[true, true, true, true, true, true, true, true, true, true, true, true, true, true, false] rfl rfl (any_of HT_.out (by kernel_rfl)) (fun _ _ _ h => h) (Or.inr ⟨by rfl, rfl⟩) ?_ ?_; rotate_left
     ·simp only [zz]; rfl
     refine pu_ (i := 14) (N := some 16) (v := ?_) (a' := ?_) #[true, true, true, true, true, true, true, true, true, true, true, true, true, true, true] (hc := any_of HT_.out (by kernel_rfl)) ?_ ?_ ?_; rotate_left; (intro w'; go_simp; with_reducible rfl); rotate_left
     ·simp only [zz]; rfl
     refine done_ (done_of HT_.out (by kernel_rfl)) ?_; (try go_wp2)
     go_meet
     case rel => exact ⟨_, (x1000_1), (x1001_1), H', ⟨by have := HK1.out; first | omega | exact Nat.le_refl _⟩, ⟨by repeat (first | (with_reducible first | exact HI0.out | apply IsS86.alloc | apply IsS86.drewN | apply IsS86.drew | apply IsS86.set_0 | apply IsS86.set_1) | exact HI0.out)⟩, ⟨by repeat (first | (with_reducible first | exact HK.out | apply KeepBut.set_ | apply keep_drewN | apply keep_drew | apply keep_alloc) | exact HK.out)⟩, ⟨by repeat (first | (with_reducible first | exact HB.out | apply ba | apply bn | apply bd | refine below_set ?_ (IsS86.ge HI0.out)) | exact HB.out)⟩⟩
    ·replace c4 := Bool.eq_false_iff.mpr c4; subst c4; (have H1 : (if 0 ≤ x1001_1 then (if x1001_1 < (x1000_1.size : Int) then ((shell_blank.f (bt x1000_1 x1001_1)).bind fun t119 => (if t119 = true then (shell_line_skip.l0 k1 x1000_1 (wrap64 (x1001_1 + 1))) else (shell_line_skip.j1 k1 x1000_1 x1001_1))) else (none)) else (none)) = some (r1, r2) := by rw [if_neg (show ¬ (false = true) by decide)] at H; exact H); clear H; have H := H1; clear H1
     by_cases c7 : 0 ≤ x1001_1
     ·rw [if_pos c7] at H; have c7b0 : decide (0 ≤ x1001_1) = true := decide_eq_true c7; clear c7; (first | rw [c7b0] | (simp only [i64_w, i32_w]; rw [c7b0]) | skip)
      by_cases c8 : x1001_1 < (x1000_1.size : Int)
      ·rw [if_pos c8] at H; have c8b0 : decide (x1001_1 < (x1000_1.size : Int)) = true := decide_eq_true c8; clear c8; replace H := Option.bind_eq_some_iff.mp H; obtain ⟨t119, A100, H⟩ := H; replace H : (if t119 = true then (shell_line_skip.l0 k1 x1000_1 (wrap64 (x1001_1 + 1))) else (shell_line_skip.j1 k1 x1000_1 x1001_1)) = some (r1, r2) := H; have A10 := Aside0.mk A100; clear A100
       by_cases c11 : t119 = true
       ·subst c11
        (have H1 : (shell_line_skip.l0 k1 x1000_1 (wrap64 (x1001_1 + 1))) = some (r1, r2) := by rw [if_pos rfl] at H; exact H); clear H; have H := H1; clear H1; have H' := Aside0.mk H; clear H; (try go_wp2); have n0_ := Aside0.mk (IsS86.drew HI0.out); have n1_ := Aside0.mk (keep_drew HK.out); have n2_ := Aside0.mk (below_drew1 HB.out); clear HI0; clear HK; clear HB; have HI0 := n0_; have HK := n1_; have HB := n2_; clear n0_ n1_ n2_; refine start_ (n := 15) (S := fun w' => w'.cell? ⟨g, 0, none⟩ = some (.string x1000_1) ∧ w'.cell? ⟨g, 1, none⟩ = some (.int .i64 x1001_1)) (ds := []) #[false, false, false, false, false, false, false, false, false, false, false, false, false, false, false] (by kernel_rfl) rfl rfl ⟨(blk_cell HI0.out.1 0).trans rfl, (blk_cell HI0.out.1 1).trans rfl⟩ (fun hHeld => ?_); refine with_tabW shell_line_skip.tab0 shell_line_skip.bits0 (fun HT_ HW_ => ?_); generalize wr.drew = w12 at HI0 HK HB hHeld ⊢; refine pu_ (i := 0) (N := some 2) (v := ?_) (a' := ?_) #[true, false, false, false, false, false, false, false, false, false, false, false, false, false, false] (hc := any_of HT_.out (by kernel_rfl)) ?_ ?_ ?_; rotate_left; (intro w'; go_simp; with_reducible rfl); rotate_left
        ·simp only [zz]; rfl
        refine one_ (i := 1) (N := some 3) #[true, true, false, false, false, false, false, false, false, false, false, false, false, false, false] rfl rfl (one_of HT_.out (by kernel_rfl)) (by decide) (fun K hK => ?_); refine goes_ Tryd.func47 (by kernel_rfl) rfl #[.pointer (some ⟨g, 0, none⟩)] (by rfl) rfl rfl mt ?_; (with_reducible refine (shell_line_end.calls g x1000_1 x1001_1 false x1000_1 x1001_1 w0 _ ?side1 ?side2 A3.out).mono ?_)
        (case side1 => repeat (first | (with_reducible first | exact HI0.out | apply IsS86.alloc | apply IsS86.drewN | apply IsS86.drew | apply IsS86.set_0 | apply IsS86.set_1) | exact HI0.out))
        (case side2 => repeat (first | (with_reducible first | exact HB.out | apply ba | apply bn | apply bd | refine below_set ?_ (IsS86.ge HI0.out)) | exact HB.out))
        rintro e w13 ⟨rfl, hi, hb, hk⟩; refine ⟨_, rfl, ?_⟩; have n0_ := Aside0.mk (KeepBut.trans (by repeat (first | (with_reducible first | exact HK.out | apply KeepBut.set_ | apply keep_drewN | apply keep_drew | apply keep_alloc) | exact HK.out)) hk (.inl rfl)); have n1_ := Aside0.mk (hb); have n2_ := Aside0.mk (hi); clear HK; clear HB; clear HI0; have HK := n0_; have HB := n1_; have HI0 := n2_; clear n0_ n1_ n2_; (try clear hb); (try clear hb2); (try clear hk); (try clear hi); have p9 : 0 ≤ (x1001_1 : Int) := of1; have q9 : x1001_1 < (x1000_1.size : Int) := of1; have hx9 := bt_at x1000_1 x1001_1; replace p9 := eq_true p9; replace q9 := eq_true q9; refine hK.out _ _ ⟨(blk_cell HI0.out.1 0).trans rfl, (blk_cell HI0.out.1 1).trans rfl⟩ (fun hHeld => ?_); clear hK K; refine norm_ (a' := ?_) ?_ ?_; rotate_left; ((show Act.put _ (some 3) _ = _); simp only [zz]; rfl); refine pu_ (i := 2) (N := some 4) (v := ?_) (a' := ?_) #[true, true, true, false, false, false, false, false, false, false, false, false, false, false, false] (hc := any_of HT_.out (by kernel_rfl)) ?_ ?_ ?_; rotate_left; (intro w'; go_simp; with_reducible rfl); rotate_left
        ·simp only [zz]; rfl
        refine pu_ (i := 3) (N := some 5) (v := ?_) (a' := ?_) #[true, true, true, true, false, false, false, false, false, false, false, false, false, false, false] (hc := any_of HT_.out (by kernel_rfl)) ?_ ?_ ?_; rotate_left; (intro w'; go_simp; with_reducible rfl); rotate_left
        ·simp only [zz]; rfl
        refine pu_ (i := 4) (N := some 6) (v := ?_) (a' := ?_) #[true, true, true, true, true, false, false, false, false, false, false, false, false, false, false] (hc := any_of HT_.out (by kernel_rfl)) ?_ ?_ ?_; rotate_left; (intro w'; go_simp; with_reducible rfl); rotate_left
        ·simp only [zz]; rfl
        refine pu_ (i := 5) (N := some 7) (v := ?_) (a' := ?_) #[true, true, true, true, true, true, false, false, false, false, false, false, false, false, false] (hc := any_of HT_.out (by kernel_rfl)) ?_ ?_ ?_; rotate_left; (intro w'; go_simp; with_reducible rfl); rotate_left
        ·simp only [zz]; rfl
        refine pu_ (i := 6) (N := some 8) (v := ?_) (a' := ?_) #[true, true, true, true, true, true, true, false, false, false, false, false, false, false, false] (hc := any_of HT_.out (by kernel_rfl)) ?_ ?_ ?_; rotate_left; (intro w'; go_simp; with_reducible rfl); rotate_left
        ·simp only [zz]; rfl
        refine pu_ (i := 8) (N := some 10) (v := ?_) (a' := ?_) #[true, true, true, true, true, true, true, false, true, false, false, false, false, false, false] (hc := any_of HT_.out (by kernel_rfl)) ?_ ?_ ?_; rotate_left; (intro w'; go_simp; with_reducible rfl); rotate_left
        ·simp only [zz]; rfl
        refine pu_ (i := 9) (N := some 11) (v := ?_) (a' := ?_) #[true, true, true, true, true, true, true, false, true, true, false, false, false, false, false] (hc := any_of HT_.out (by kernel_rfl)) ?_ ?_ ?_; rotate_left; (intro w'; go_simp; with_reducible rfl); rotate_left
        ·simp only [zz]; rfl
        refine pu_ (i := 10) (N := some 12) (v := ?_) (a' := ?_) #[true, true, true, true, true, true, true, false, true, true, true, false, false, false, false] (hc := any_of HT_.out (by kernel_rfl)) ?_ ?_ ?_; rotate_left; (intro w'; go_simp; with_reducible rfl); rotate_left
        ·simp only [zz]; rfl
        refine ta_ (i := 7) (N := some 9) (v := ?_) (a' := ?_) #[true, true, true, true, true, true, true, true, true, true, true, false, false, false, false] (hc := take_ofW HT_.out HW_.out (by kernel_rfl)) ?_ hHeld ?_ ?_; rotate_left; (rintro w' ⟨s0, s1⟩; go_simp; with_reducible rfl); rotate_left
        ·simp only [zz]; rfl
        refine ta_ (i := 11) (N := some 13) (v := ?_) (a' := ?_) #[true, true, true, true, true, true, true, true, true, true, true, true, false, false, false] (hc := take_ofW HT_.out HW_.out (by kernel_rfl)) ?_ hHeld ?_ ?_; rotate_left; (rintro w' ⟨s0, s1⟩; go_simp; with_reducible rfl); rotate_left
        ·simp only [zz]; rfl
        refine ta_ (i := 12) (N := some 14) (v := ?_) (a' := ?_) #[true, true, true, true, true, true, true, true, true, true, true, true, true, false, false] (hc := take_ofW HT_.out HW_.out (by kernel_rfl)) ?_ hHeld ?_ ?_; rotate_left; (rintro w' ⟨s0, s1⟩; go_simp; with_reducible rfl); rotate_left
        ·simp only [zz]; rfl
        refine one_ (i := 13) (N := some 15) #[true, true, true, true, true, true, true, true, true, true, true, true, true, true, false] rfl rfl (one_of HT_.out (by kernel_rfl)) (by decide) (fun K hK => ?_); refine goes_ Tryd.func59 (by kernel_rfl) rfl #[.int .u8 (bt x1000_1 x1001_1)] (by rfl) rfl rfl mt ?_; (with_reducible refine (shell_blank.calls (bt x1000_1 x1001_1) true _ A10.out).mono ?_); rintro e w' ⟨rfl, ⟨nd, rfl⟩⟩; refine ⟨_, rfl, ?_⟩; refine hK.out _ _ ⟨(blk_cell HI0.out.1 0).trans rfl, (blk_cell HI0.out.1 1).trans rfl⟩ (fun hHeld => ?_); clear hK K; refine norm_ (a' := ?_) ?_ ?_; rotate_left; ((show Act.put _ (some 15) _ = _); simp only [zz]; rfl); refine pu_ (i := 14) (N := some 16) (v := ?_) (a' := ?_) #[true, true, true, true, true, true, true, true, true, true, true, true, true, true, true] (hc := any_of HT_.out (by kernel_rfl)) ?_ ?_ ?_; rotate_left; (intro w'; go_simp; with_reducible rfl); rotate_left
        ·simp only [zz]; rfl
        refine done_ (done_of HT_.out (by kernel_rfl)) ?_; obtain ⟨HGz14, hgz14⟩ := HI0.out; have hcz14_0 := cellS86_0 HGz14; have hcz14_1 := cellS86_1 HGz14; have hfz14_0 := blk_frozen HGz14 0; have hfz14_1 := blk_frozen HGz14 1; clear HGz14 hgz14; (try go_wp2)
        go_roundg k1
        case measure => have := HK1.out; omega
        case rel => exact ⟨(x1000_1), (wrap64 (x1001_1 + 1)), H', ⟨by have := HK1.out; omega⟩, ⟨by repeat (first | (with_reducible first | exact HI0.out | apply IsS86.alloc | apply IsS86.drewN | apply IsS86.drew | apply IsS86.set_0 | apply IsS86.set_1) | exact HI0.out)⟩, ⟨by repeat (first | (with_reducible first | exact HK.out | apply KeepBut.set_ | apply keep_drewN | apply keep_drew | apply keep_alloc) | exact HK.out)⟩, ⟨by repeat (first | (with_reducible first | exact HB.out | apply ba | apply bn | apply bd | refine below_set ?_ (IsS86.ge HI0.out)) | exact HB.out)⟩⟩
       ·replace c11 := Bool.eq_false_iff.mpr c11; subst c11; (have H1 : (shell_line_skip.j1 k1 x1000_1 x1001_1) = some (r1, r2) := by rw [if_neg (show ¬ (false = true) by decide)] at H; exact H); clear H; have H := H1; clear H1; have H' := Aside0.mk H; clear H; (try go_wp2); have n0_ := Aside0.mk (IsS86.drew HI0.out); have n1_ := Aside0.mk (keep_drew HK.out); have n2_ := Aside0.mk (below_drew1 HB.out); clear HI0; clear HK; clear HB; have HI0 := n0_; have HK := n1_; have HB := n2_; clear n0_ n1_ n2_; refine start_ (n := 15) (S := fun w' => w'.cell? ⟨g, 0, none⟩ = some (.string x1000_1) ∧ w'.cell? ⟨g, 1, none⟩ = some (.int .i64 x1001_1)) (ds := []) #[false, false, false, false, false, false, false, false, false, false, false, false, false, false, false] (by kernel_rfl) rfl rfl ⟨(blk_cell HI0.out.1 0).trans rfl, (blk_cell HI0.out.1 1).trans rfl⟩ (fun hHeld => ?_); refine with_tabW shell_line_skip.tab0 shell_line_skip.bits0 (fun HT_ HW_ => ?_); generalize wr.drew = w15 at HI0 HK HB hHeld ⊢; refine pu_ (i := 0) (N := some 2) (v := ?_) (a' := ?_) #[true, false, false, false, false, false, false, false, false, false, false, false, false, false, false] (hc := any_of HT_.out (by kernel_rfl)) ?_ ?_ ?_; rotate_left; (intro w'; go_simp; with_reducible rfl); rotate_left
        ·simp only [zz]; rfl
        refine one_ (i := 1) (N := some 3) #[true, true, false, false, false, false, false, false, false, false, false, false, false, false, false] rfl rfl (one_of HT_.out (by kernel_rfl)) (by decide) (fun K hK => ?_); refine goes_ Tryd.func47 (by kernel_rfl) rfl #[.pointer (some ⟨g, 0, none⟩)] (by rfl) rfl rfl mt ?_; (with_reducible refine (shell_line_end.calls g x1000_1 x1001_1 false x1000_1 x1001_1 w0 _ ?side1 ?side2 A3.out).mono ?_)
        (case side1 => repeat (first | (with_reducible first | exact HI0.out | apply IsS86.alloc | apply IsS86.drewN | apply IsS86.drew | apply IsS86.set_0 | apply IsS86.set_1) | exact HI0.out))
        (case side2 => repeat (first | (with_reducible first | exact HB.out | apply ba | apply bn | apply bd | refine below_set ?_ (IsS86.ge HI0.out)) | exact HB.out))
        rintro e w16 ⟨rfl, hi, hb, hk⟩; refine ⟨_, rfl, ?_⟩; have n0_ := Aside0.mk (KeepBut.trans (by repeat (first | (with_reducible first | exact HK.out | apply KeepBut.set_ | apply keep_drewN | apply keep_drew | apply keep_alloc) | exact HK.out)) hk (.inl rfl)); have n1_ := Aside0.mk (hb); have n2_ := Aside0.mk (hi); clear HK; clear HB; clear HI0; have HK := n0_; have HB := n1_; have HI0 := n2_; clear n0_ n1_ n2_; (try clear hb); (try clear hb2); (try clear hk); (try clear hi); have p9 : 0 ≤ (x1001_1 : Int) := of1; have q9 : x1001_1 < (x1000_1.size : Int) := of1; have hx9 := bt_at x1000_1 x1001_1; replace p9 := eq_true p9; replace q9 := eq_true q9; refine hK.out _ _ ⟨(blk_cell HI0.out.1 0).trans rfl, (blk_cell HI0.out.1 1).trans rfl⟩ (fun hHeld => ?_); clear hK K; refine norm_ (a' := ?_) ?_ ?_; rotate_left; ((show Act.put _ (some 3) _ = _); simp only [zz]; rfl); refine pu_ (i := 2) (N := some 4) (v := ?_) (a' := ?_) #[true, true, true, false, false, false, false, false, false, false, false, false, false, false, false] (hc := any_of HT_.out (by kernel_rfl)) ?_ ?_ ?_; rotate_left; (intro w'; go_simp; with_reducible rfl); rotate_left
        ·simp only [zz]; rfl
        refine pu_ (i := 3) (N := some 5) (v := ?_) (a' := ?_) #[true, true, true, true, false, false, false, false, false, false, false, false, false, false, false] (hc := any_of HT_.out (by kernel_rfl)) ?_ ?_ ?_; rotate_left; (intro w'; go_simp; with_reducible rfl); rotate_left
        ·simp only [zz]; rfl
        refine pu_ (i := 4) (N := some 6) (v := ?_) (a' := ?_) #[true, true, true, true, true, false, false, false, false, false, false, false, false, false, false] (hc := any_of HT_.out (by kernel_rfl)) ?_ ?_ ?_; rotate_left; (intro w'; go_simp; with_reducible rfl); rotate_left
        ·simp only [zz]; rfl
        refine pu_ (i := 5) (N := some 7) (v := ?_) (a' := ?_) #[true, true, true, true, true, true, false, false, false, false, false, false, false, false, false] (hc := any_of HT_.out (by kernel_rfl)) ?_ ?_ ?_; rotate_left; (intro w'; go_simp; with_reducible rfl); rotate_left
        ·simp only [zz]; rfl
        refine pu_ (i := 6) (N := some 8) (v := ?_) (a' := ?_) #[true, true, true, true, true, true, true, false, false, false, false, false, false, false, false] (hc := any_of HT_.out (by kernel_rfl)) ?_ ?_ ?_; rotate_left; (intro w'; go_simp; with_reducible rfl); rotate_left
        ·simp only [zz]; rfl
        refine pu_ (i := 8) (N := some 10) (v := ?_) (a' := ?_) #[true, true, true, true, true, true, true, false, true, false, false, false, false, false, false] (hc := any_of HT_.out (by kernel_rfl)) ?_ ?_ ?_; rotate_left; (intro w'; go_simp; with_reducible rfl); rotate_left
        ·simp only [zz]; rfl
        refine pu_ (i := 9) (N := some 11) (v := ?_) (a' := ?_) #[true, true, true, true, true, true, true, false, true, true, false, false, false, false, false] (hc := any_of HT_.out (by kernel_rfl)) ?_ ?_ ?_; rotate_left; (intro w'; go_simp; with_reducible rfl); rotate_left
        ·simp only [zz]; rfl
        refine pu_ (i := 10) (N := some 12) (v := ?_) (a' := ?_) #[true, true, true, true, true, true, true, false, true, true, true, false, false, false, false] (hc := any_of HT_.out (by kernel_rfl)) ?_ ?_ ?_; rotate_left; (intro w'; go_simp; with_reducible rfl); rotate_left
        ·simp only [zz]; rfl
        refine ta_ (i := 7) (N := some 9) (v := ?_) (a' := ?_) #[true, true, true, true, true, true, true, true, true, true, true, false, false, false, false] (hc := take_ofW HT_.out HW_.out (by kernel_rfl)) ?_ hHeld ?_ ?_; rotate_left; (rintro w' ⟨s0, s1⟩; go_simp; with_reducible rfl); rotate_left
        ·simp only [zz]; rfl
        refine ta_ (i := 11) (N := some 13) (v := ?_) (a' := ?_) #[true, true, true, true, true, true, true, true, true, true, true, true, false, false, false] (hc := take_ofW HT_.out HW_.out (by kernel_rfl)) ?_ hHeld ?_ ?_; rotate_left; (rintro w' ⟨s0, s1⟩; go_simp; with_reducible rfl); rotate_left
        ·simp only [zz]; rfl
        refine ta_ (i := 12) (N := some 14) (v := ?_) (a' := ?_) #[true, true, true, true, true, true, true, true, true, true, true, true, true, false, false] (hc := take_ofW HT_.out HW_.out (by kernel_rfl)) ?_ hHeld ?_ ?_; rotate_left; (rintro w' ⟨s0, s1⟩; go_simp; with_reducible rfl); rotate_left
        ·simp only [zz]; rfl
        refine one_ (i := 13) (N := some 15) #[true, true, true, true, true, true, true, true, true, true, true, true, true, true, false] rfl rfl (one_of HT_.out (by kernel_rfl)) (by decide) (fun K hK => ?_); refine goes_ Tryd.func59 (by kernel_rfl) rfl #[.int .u8 (bt x1000_1 x1001_1)] (by rfl) rfl rfl mt ?_; (with_reducible refine (shell_blank.calls (bt x1000_1 x1001_1) false _ A10.out).mono ?_); rintro e w' ⟨rfl, ⟨nd, rfl⟩⟩; refine ⟨_, rfl, ?_⟩; refine hK.out _ _ ⟨(blk_cell HI0.out.1 0).trans rfl, (blk_cell HI0.out.1 1).trans rfl⟩ (fun hHeld => ?_); clear hK K; refine norm_ (a' := ?_) ?_ ?_; rotate_left; ((show Act.put _ (some 15) _ = _); simp only [zz]; rfl); refine pu_ (i := 14) (N := some 16) (v := ?_) (a' := ?_) #[true, true, true, true, true, true, true, true, true, true, true, true, true, true, true] (hc := any_of HT_.out (by kernel_rfl)) ?_ ?_ ?_; rotate_left; (intro w'; go_simp; with_reducible rfl); rotate_left
        ·simp only [zz]; rfl
        refine done_ (done_of HT_.out (by kernel_rfl)) ?_; (try go_wp2)
        go_meet
        case rel => exact ⟨_, (x1000_1), (x1001_1), H', ⟨by have := HK1.out; first | omega | exact Nat.le_refl _⟩, ⟨by repeat (first | (with_reducible first | exact HI0.out | apply IsS86.alloc | apply IsS86.drewN | apply IsS86.drew | apply IsS86.set_0 | apply IsS86.set_1) | exact HI0.out)⟩, ⟨by repeat (first | (with_reducible first | exact HK.out | apply KeepBut.set_ | apply keep_drewN | apply keep_drew | apply keep_alloc) | exact HK.out)⟩, ⟨by repeat (first | (with_reducible first | exact HB.out | apply ba | apply bn | apply bd | refine below_set ?_ (IsS86.ge HI0.out)) | exact HB.out)⟩⟩
      ·rw [if_neg c8] at H; exact absurd H (by simp)
     ·rw [if_neg c7] at H; exact absurd H (by simp)
 case rest =>
  clear HC2; (try clear c1); (try clear p2); (try clear c4); (try clear c5); (try clear p6); (try clear c7); (try clear c7b0); (try clear c8); (try clear c8b0); (try clear p9); (try clear q9); (try clear hx9); (try clear c11); (try clear hcz14_0); (try clear hcz14_1); (try clear hfz14_0); (try clear hfz14_1); (try clear p2); (try clear p9); (try clear q9); obtain ⟨kq, x1000_1, x1001_1, HA, HJ1, HI0, HK, HB⟩ := hcut
  cases kq with
  | zero => exact absurd (show (none : Option (ByteArray × Int)) = some (r1, r2) from HA.out) (fun h_ => nomatch h_)
  | succ kj1 =>
   have H := HA.out; clear HA; simp only [shell_line_skip.j1] at H; replace H := Option.bind_eq_some_iff.mp H; obtain ⟨⟨t120, t121, t122⟩, A170, H⟩ := H; replace H : (if t120 = true then (some (x1000_1, x1001_1)) else (if 0 ≤ x1001_1 then (if x1001_1 < (x1000_1.size : Int) then (if (bt x1000_1 x1001_1) = 35 then (some (x1000_1, (x1000_1.size : Int))) else (some (x1000_1, x1001_1))) else (none)) else (none))) = some (r1, r2) := H; obtain ⟨rfl, rfl⟩ := shell_line_end.ro A170; have A17 := Aside0.mk A170; clear A170
   by_cases c18 : t120 = true
   ·subst c18
    (have H1 : (some (x1000_1, x1001_1)) = some (r1, r2) := by rw [if_pos rfl] at H; exact H); clear H; have H := H1; clear H1; simp only [Option.some.injEq, Prod.mk.injEq] at H; obtain ⟨rfl, rfl⟩ := H; (try go_wp2); have n0_ := Aside0.mk (IsS86.drew HI0.out); have n1_ := Aside0.mk (keep_drew HK.out); have n2_ := Aside0.mk (below_drew1 HB.out); clear HI0; clear HK; clear HB; have HI0 := n0_; have HK := n1_; have HB := n2_; clear n0_ n1_ n2_; refine start_ (n := 15) (S := fun w' => True) (ds := []) #[false, false, false, false, false, false, false, false, false, false, false, false, false, false, false] (by kernel_rfl) rfl rfl trivial (fun hHeld => ?_); refine with_tabW shell_line_skip.tab2 shell_line_skip.bits2 (fun HT_ HW_ => ?_); generalize wc.drew = w19 at HI0 HK HB hHeld ⊢; refine pu_ (i := 0) (N := some 24) (v := ?_) (a' := ?_) #[true, false, false, false, false, false, false, false, false, false, false, false, false, false, false] (hc := any_of HT_.out (by kernel_rfl)) ?_ ?_ ?_; rotate_left; (intro w'; go_simp; with_reducible rfl); rotate_left
    ·simp only [zz]; rfl
    refine one_ (i := 1) (N := some 25) #[true, true, false, false, false, false, false, false, false, false, false, false, false, false, false] rfl rfl (one_of HT_.out (by kernel_rfl)) (by decide) (fun K hK => ?_); refine goes_ Tryd.func47 (by kernel_rfl) rfl #[.pointer (some ⟨g, 0, none⟩)] (by rfl) rfl rfl mt ?_; (with_reducible refine (shell_line_end.calls g x1000_1 x1001_1 true x1000_1 x1001_1 w0 _ ?side1 ?side2 A17.out).mono ?_)
    (case side1 => repeat (first | (with_reducible first | exact HI0.out | apply IsS86.alloc | apply IsS86.drewN | apply IsS86.drew | apply IsS86.set_0 | apply IsS86.set_1) | exact HI0.out))
    (case side2 => repeat (first | (with_reducible first | exact HB.out | apply ba | apply bn | apply bd | refine below_set ?_ (IsS86.ge HI0.out)) | exact HB.out))
    rintro e w20 ⟨rfl, hi, hb, hk⟩; refine ⟨_, rfl, ?_⟩; have n0_ := Aside0.mk (KeepBut.trans (by repeat (first | (with_reducible first | exact HK.out | apply KeepBut.set_ | apply keep_drewN | apply keep_drew | apply keep_alloc) | exact HK.out)) hk (.inl rfl)); have n1_ := Aside0.mk (hb); have n2_ := Aside0.mk (hi); clear HK; clear HB; clear HI0; have HK := n0_; have HB := n1_; have HI0 := n2_; clear n0_ n1_ n2_; (try clear hb); (try clear hb2); (try clear hk); (try clear hi); refine hK.out _ _ trivial (fun hHeld => ?_); clear hK K; refine norm_ (a' := ?_) ?_ ?_; rotate_left; ((show Act.put _ (some 25) _ = _); simp only [zz]; rfl); refine pu_ (i := 2) (N := some 26) (v := ?_) (a' := ?_) #[true, true, true, false, false, false, false, false, false, false, false, false, false, false, false] (hc := any_of HT_.out (by kernel_rfl)) ?_ ?_ ?_; rotate_left; (intro w'; go_simp; with_reducible rfl); rotate_left
    ·simp only [zz]; rfl
    refine pu_ (i := 3) (N := some 27) (v := ?_) (a' := ?_) #[true, true, true, true, false, false, false, false, false, false, false, false, false, false, false] (hc := any_of HT_.out (by kernel_rfl)) ?_ ?_ ?_; rotate_left; (intro w'; go_simp; with_reducible rfl); rotate_left
    ·simp only [zz]; rfl
    refine pure_ (i := 4) (N := some 28) (v := undef) (a' := ?_) #[true, true, true, true, true, false, false, false, false, false, false, false, false, false, false] rfl rfl (any_of HT_.out (by kernel_rfl)) (fun _ _ _ h => h) (Or.inr ⟨by rfl, rfl⟩) ?_ ?_; rotate_left
    ·simp only [zz]; rfl
    refine pure_ (i := 5) (N := some 29) (v := undef) (a' := ?_) #[true, true, true, true, true, true, false, false, false, false, false, false, false, false, false] rfl rfl (any_of HT_.out (by kernel_rfl)) (fun _ _ _ h => h) (Or.inr ⟨by rfl, rfl⟩) ?_ ?_; rotate_left
    ·simp only [zz]; rfl
    refine pure_ (i := 6) (N := some 30) (v := undef) (a' := ?_) #[true, true, true, true, true, true, true, false, false, false, false, false, false, false, false] rfl rfl (any_of HT_.out (by kernel_rfl)) (fun _ _ _ h => h) (Or.inr ⟨by rfl, rfl⟩) ?_ ?_; rotate_left
    ·simp only [zz]; rfl
    refine pure_ (i := 7) (N := some 31) (v := undef) (a' := ?_) #[true, true, true, true, true, true, true, true, false, false, false, false, false, false, false] rfl rfl (any_of HT_.out (by kernel_rfl)) (fun _ _ _ h => h) (Or.inr ⟨by rfl, rfl⟩) ?_ ?_; rotate_left
    ·simp only [zz]; rfl
    refine pure_ (i := 8) (N := some 32) (v := undef) (a' := ?_) #[true, true, true, true, true, true, true, true, true, false, false, false, false, false, false] rfl rfl (any_of HT_.out (by kernel_rfl)) (fun _ _ _ h => h) (Or.inr ⟨by rfl, rfl⟩) ?_ ?_; rotate_left
    ·simp only [zz]; rfl
    refine pure_ (i := 9) (N := some 33) (v := undef) (a' := ?_) #[true, true, true, true, true, true, true, true, true, true, false, false, false, false, false] rfl rfl (any_of HT_.out (by kernel_rfl)) (fun _ _ _ h => h) (Or.inr ⟨by rfl, rfl⟩) ?_ ?_; rotate_left
    ·simp only [zz]; rfl
    refine pure_ (i := 10) (N := some 34) (v := undef) (a' := ?_) #[true, true, true, true, true, true, true, true, true, true, true, false, false, false, false] rfl rfl (any_of HT_.out (by kernel_rfl)) (fun _ _ _ h => h) (Or.inr ⟨by rfl, rfl⟩) ?_ ?_; rotate_left
    ·simp only [zz]; rfl
    refine pure_ (i := 11) (N := some 35) (v := undef) (a' := ?_) #[true, true, true, true, true, true, true, true, true, true, true, true, false, false, false] rfl rfl (any_of HT_.out (by kernel_rfl)) (fun _ _ _ h => h) (Or.inr ⟨by rfl, rfl⟩) ?_ ?_; rotate_left
    ·simp only [zz]; rfl
    refine pure_ (i := 12) (N := some 36) (v := undef) (a' := ?_) #[true, true, true, true, true, true, true, true, true, true, true, true, true, false, false] rfl rfl (any_of HT_.out (by kernel_rfl)) (fun _ _ _ h => h) (Or.inr ⟨by rfl, rfl⟩) ?_ ?_; rotate_left
    ·simp only [zz]; rfl
    refine pure_ (i := 13) (N := some 37) (v := undef) (a' := ?_) #[true, true, true, true, true, true, true, true, true, true, true, true, true, true, false] rfl rfl (any_of HT_.out (by kernel_rfl)) (fun _ _ _ h => h) (Or.inr ⟨by rfl, rfl⟩) ?_ ?_; rotate_left
    ·simp only [zz]; rfl
    refine pu_ (i := 14) (N := some 38) (v := ?_) (a' := ?_) #[true, true, true, true, true, true, true, true, true, true, true, true, true, true, true] (hc := any_of HT_.out (by kernel_rfl)) ?_ ?_ ?_; rotate_left; (intro w'; go_simp; with_reducible rfl); rotate_left
    ·simp only [zz]; rfl
    refine done_ (done_of HT_.out (by kernel_rfl)) ?_; (try go_wp2); (first | go_end0 | ((try simp only [Exit.inBlock, Exit.then]); refine bodyPost_ret (results_none rfl _ _ _) rfl ?_)); exact ⟨er1, by repeat (first | (with_reducible first | exact HI0.out | apply IsS86.alloc | apply IsS86.drewN | apply IsS86.drew | apply IsS86.set_0 | apply IsS86.set_1) | exact HI0.out), by repeat (first | (with_reducible first | exact HB.out | apply ba | apply bn | apply bd | refine below_set ?_ (IsS86.ge HI0.out)) | exact HB.out), by repeat (first | (with_reducible first | exact HK.out | apply KeepBut.set_ | apply keep_drewN | apply keep_drew | apply keep_alloc) | exact HK.out)⟩
   ·replace c18 := Bool.eq_false_iff.mpr c18; subst c18; (have H1 : (if 0 ≤ x1001_1 then (if x1001_1 < (x1000_1.size : Int) then (if (bt x1000_1 x1001_1) = 35 then (some (x1000_1, (x1000_1.size : Int))) else (some (x1000_1, x1001_1))) else (none)) else (none)) = some (r1, r2) := by rw [if_neg (show ¬ (false = true) by decide)] at H; exact H); clear H; have H := H1; clear H1
    by_cases c21 : 0 ≤ x1001_1
    ·rw [if_pos c21] at H; have c21b0 : decide (0 ≤ x1001_1) = true := decide_eq_true c21; clear c21
     by_cases c22 : x1001_1 < (x1000_1.size : Int)
     ·rw [if_pos c22] at H; have c22b0 : decide (x1001_1 < (x1000_1.size : Int)) = true := decide_eq_true c22; clear c22
      by_cases c24 : (bt x1000_1 x1001_1) = 35
      ·rw [if_pos c24] at H; have c24b0 : ((bt x1000_1 x1001_1) == 35) = true := beq_iff_eq.mpr c24; have c24b1 : ((bt x1000_1 x1001_1) != 35) = false := bne_eq_false_iff_eq.mpr c24; clear c24; simp only [Option.some.injEq, Prod.mk.injEq] at H; obtain ⟨rfl, rfl⟩ := H; (try go_wp2); have n0_ := Aside0.mk (IsS86.drew HI0.out); have n1_ := Aside0.mk (keep_drew HK.out); have n2_ := Aside0.mk (below_drew1 HB.out); clear HI0; clear HK; clear HB; have HI0 := n0_; have HK := n1_; have HB := n2_; clear n0_ n1_ n2_; refine start_ (n := 15) (S := fun w' => w'.cell? ⟨g, 0, none⟩ = some (.string x1000_1) ∧ w'.cell? ⟨g, 1, none⟩ = some (.int .i64 x1001_1)) (ds := []) #[false, false, false, false, false, false, false, false, false, false, false, false, false, false, false] (by kernel_rfl) rfl rfl ⟨(blk_cell HI0.out.1 0).trans rfl, (blk_cell HI0.out.1 1).trans rfl⟩ (fun hHeld => ?_); refine with_tabW shell_line_skip.tab2 shell_line_skip.bits2 (fun HT_ HW_ => ?_); generalize wc.drew = w25 at HI0 HK HB hHeld ⊢; refine pu_ (i := 0) (N := some 24) (v := ?_) (a' := ?_) #[true, false, false, false, false, false, false, false, false, false, false, false, false, false, false] (hc := any_of HT_.out (by kernel_rfl)) ?_ ?_ ?_; rotate_left; (intro w'; go_simp; with_reducible rfl); rotate_left
       ·simp only [zz]; rfl
       refine one_ (i := 1) (N := some 25) #[true, true, false, false, false, false, false, false, false, false, false, false, false, false, false] rfl rfl (one_of HT_.out (by kernel_rfl)) (by decide) (fun K hK => ?_); refine goes_ Tryd.func47 (by kernel_rfl) rfl #[.pointer (some ⟨g, 0, none⟩)] (by rfl) rfl rfl mt ?_; (with_reducible refine (shell_line_end.calls g x1000_1 x1001_1 false x1000_1 x1001_1 w0 _ ?side1 ?side2 A17.out).mono ?_)
       (case side1 => repeat (first | (with_reducible first | exact HI0.out | apply IsS86.alloc | apply IsS86.drewN | apply IsS86.drew | apply IsS86.set_0 | apply IsS86.set_1) | exact HI0.out))
       (case side2 => repeat (first | (with_reducible first | exact HB.out | apply ba | apply bn | apply bd | refine below_set ?_ (IsS86.ge HI0.out)) | exact HB.out))
       rintro e w26 ⟨rfl, hi, hb, hk⟩; refine ⟨_, rfl, ?_⟩; have n0_ := Aside0.mk (KeepBut.trans (by repeat (first | (with_reducible first | exact HK.out | apply KeepBut.set_ | apply keep_drewN | apply keep_drew | apply keep_alloc) | exact HK.out)) hk (.inl rfl)); have n1_ := Aside0.mk (hb); have n2_ := Aside0.mk (hi); clear HK; clear HB; clear HI0; have HK := n0_; have HB := n1_; have HI0 := n2_; clear n0_ n1_ n2_; (try clear hb); (try clear hb2); (try clear hk); (try clear hi); have p23 : 0 ≤ (x1001_1 : Int) := of1; have q23 : x1001_1 < (x1000_1.size : Int) := of1; have hx23 := bt_at x1000_1 x1001_1; replace p23 := eq_true p23; replace q23 := eq_true q23; refine hK.out _ _ ⟨(blk_cell HI0.out.1 0).trans rfl, (blk_cell HI0.out.1 1).trans rfl⟩ (fun hHeld => ?_); clear hK K; refine norm_ (a' := ?_) ?_ ?_; rotate_left; ((show Act.put _ (some 25) _ = _); simp only [zz]; rfl); refine pu_ (i := 2) (N := some 26) (v := ?_) (a' := ?_) #[true, true, true, false, false, false, false, false, false, false, false, false, false, false, false] (hc := any_of HT_.out (by kernel_rfl)) ?_ ?_ ?_; rotate_left; (intro w'; go_simp; with_reducible rfl); rotate_left
       ·simp only [zz]; rfl
       refine pu_ (i := 3) (N := some 27) (v := ?_) (a' := ?_) #[true, true, true, true, false, false, false, false, false, false, false, false, false, false, false] (hc := any_of HT_.out (by kernel_rfl)) ?_ ?_ ?_; rotate_left; (intro w'; go_simp; with_reducible rfl); rotate_left
       ·simp only [zz]; rfl
       refine pu_ (i := 4) (N := some 28) (v := ?_) (a' := ?_) #[true, true, true, true, true, false, false, false, false, false, false, false, false, false, false] (hc := any_of HT_.out (by kernel_rfl)) ?_ ?_ ?_; rotate_left; (intro w'; go_simp; with_reducible rfl); rotate_left
       ·simp only [zz]; rfl
       refine pu_ (i := 5) (N := some 29) (v := ?_) (a' := ?_) #[true, true, true, true, true, true, false, false, false, false, false, false, false, false, false] (hc := any_of HT_.out (by kernel_rfl)) ?_ ?_ ?_; rotate_left; (intro w'; go_simp; with_reducible rfl); rotate_left
       ·simp only [zz]; rfl
       refine pu_ (i := 6) (N := some 30) (v := ?_) (a' := ?_) #[true, true, true, true, true, true, true, false, false, false, false, false, false, false, false] (hc := any_of HT_.out (by kernel_rfl)) ?_ ?_ ?_; rotate_left; (intro w'; go_simp; with_reducible rfl); rotate_left
       ·simp only [zz]; rfl
       refine pu_ (i := 8) (N := some 32) (v := ?_) (a' := ?_) #[true, true, true, true, true, true, true, false, true, false, false, false, false, false, false] (hc := any_of HT_.out (by kernel_rfl)) ?_ ?_ ?_; rotate_left; (intro w'; go_simp; with_reducible rfl); rotate_left
       ·simp only [zz]; rfl
       refine pu_ (i := 9) (N := some 33) (v := ?_) (a' := ?_) #[true, true, true, true, true, true, true, false, true, true, false, false, false, false, false] (hc := any_of HT_.out (by kernel_rfl)) ?_ ?_ ?_; rotate_left; (intro w'; go_simp; with_reducible rfl); rotate_left
       ·simp only [zz]; rfl
       refine pu_ (i := 10) (N := some 34) (v := ?_) (a' := ?_) #[true, true, true, true, true, true, true, false, true, true, true, false, false, false, false] (hc := any_of HT_.out (by kernel_rfl)) ?_ ?_ ?_; rotate_left; (intro w'; go_simp; with_reducible rfl); rotate_left
       ·simp only [zz]; rfl
       refine ta_ (i := 7) (N := some 31) (v := ?_) (a' := ?_) #[true, true, true, true, true, true, true, true, true, true, true, false, false, false, false] (hc := take_ofW HT_.out HW_.out (by kernel_rfl)) ?_ hHeld ?_ ?_; rotate_left; (rintro w' ⟨s0, s1⟩; go_simp; with_reducible rfl); rotate_left
       ·simp only [zz]; rfl
       refine ta_ (i := 11) (N := some 35) (v := ?_) (a' := ?_) #[true, true, true, true, true, true, true, true, true, true, true, true, false, false, false] (hc := take_ofW HT_.out HW_.out (by kernel_rfl)) ?_ hHeld ?_ ?_; rotate_left; (rintro w' ⟨s0, s1⟩; go_simp; with_reducible rfl); rotate_left
       ·simp only [zz]; rfl
       refine ta_ (i := 12) (N := some 36) (v := ?_) (a' := ?_) #[true, true, true, true, true, true, true, true, true, true, true, true, true, false, false] (hc := take_ofW HT_.out HW_.out (by kernel_rfl)) ?_ hHeld ?_ ?_; rotate_left; (rintro w' ⟨s0, s1⟩; go_simp; with_reducible rfl); rotate_left
       ·simp only [zz]; rfl
       refine pu_ (i := 13) (N := some 37) (v := ?_) (a' := ?_) #[true, true, true, true, true, true, true, true, true, true, true, true, true, true, false] (hc := any_of HT_.out (by kernel_rfl)) ?_ ?_ ?_; rotate_left; (intro w'; go_simp; with_reducible rfl); rotate_left
       ·simp only [zz]; rfl
       refine pu_ (i := 14) (N := some 38) (v := ?_) (a' := ?_) #[true, true, true, true, true, true, true, true, true, true, true, true, true, true, true] (hc := any_of HT_.out (by kernel_rfl)) ?_ ?_ ?_; rotate_left; (intro w'; go_simp; with_reducible rfl); rotate_left
       ·simp only [zz]; rfl
       refine done_ (done_of HT_.out (by kernel_rfl)) ?_; obtain ⟨HGz27, hgz27⟩ := HI0.out; have hcz27_0 := cellS86_0 HGz27; have hcz27_1 := cellS86_1 HGz27; have hfz27_0 := blk_frozen HGz27 0; have hfz27_1 := blk_frozen HGz27 1; clear HGz27 hgz27; (try go_wp2); (first | go_end0 | ((try simp only [Exit.inBlock, Exit.then]); refine bodyPost_ret (results_none rfl _ _ _) rfl ?_)); exact ⟨er1, by repeat (first | (with_reducible first | exact HI0.out | apply IsS86.alloc | apply IsS86.drewN | apply IsS86.drew | apply IsS86.set_0 | apply IsS86.set_1) | exact HI0.out), by repeat (first | (with_reducible first | exact HB.out | apply ba | apply bn | apply bd | refine below_set ?_ (IsS86.ge HI0.out)) | exact HB.out), by repeat (first | (with_reducible first | exact HK.out | apply KeepBut.set_ | apply keep_drewN | apply keep_drew | apply keep_alloc) | exact HK.out)⟩
      ·rw [if_neg c24] at H; have c24b0 : ((bt x1000_1 x1001_1) == 35) = false := beq_eq_false_iff_ne.mpr c24; have c24b1 : ((bt x1000_1 x1001_1) != 35) = true := bne_iff_ne.mpr c24; simp only [Option.some.injEq, Prod.mk.injEq] at H; obtain ⟨rfl, rfl⟩ := H; (try go_wp2); have n0_ := Aside0.mk (IsS86.drew HI0.out); have n1_ := Aside0.mk (keep_drew HK.out); have n2_ := Aside0.mk (below_drew1 HB.out); clear HI0; clear HK; clear HB; have HI0 := n0_; have HK := n1_; have HB := n2_; clear n0_ n1_ n2_; refine start_ (n := 15) (S := fun w' => w'.cell? ⟨g, 0, none⟩ = some (.string x1000_1) ∧ w'.cell? ⟨g, 1, none⟩ = some (.int .i64 x1001_1)) (ds := []) #[false, false, false, false, false, false, false, false, false, false, false, false, false, false, false] (by kernel_rfl) rfl rfl ⟨(blk_cell HI0.out.1 0).trans rfl, (blk_cell HI0.out.1 1).trans rfl⟩ (fun hHeld => ?_); refine with_tabW shell_line_skip.tab2 shell_line_skip.bits2 (fun HT_ HW_ => ?_); generalize wc.drew = w28 at HI0 HK HB hHeld ⊢; refine pu_ (i := 0) (N := some 24) (v := ?_) (a' := ?_) #[true, false, false, false, false, false, false, false, false, false, false, false, false, false, false] (hc := any_of HT_.out (by kernel_rfl)) ?_ ?_ ?_; rotate_left; (intro w'; go_simp; with_reducible rfl); rotate_left
       ·simp only [zz]; rfl
       refine one_ (i := 1) (N := some 25) #[true, true, false, false, false, false, false, false, false, false, false, false, false, false, false] rfl rfl (one_of HT_.out (by kernel_rfl)) (by decide) (fun K hK => ?_); refine goes_ Tryd.func47 (by kernel_rfl) rfl #[.pointer (some ⟨g, 0, none⟩)] (by rfl) rfl rfl mt ?_; (with_reducible refine (shell_line_end.calls g x1000_1 x1001_1 false x1000_1 x1001_1 w0 _ ?side1 ?side2 A17.out).mono ?_)
       (case side1 => repeat (first | (with_reducible first | exact HI0.out | apply IsS86.alloc | apply IsS86.drewN | apply IsS86.drew | apply IsS86.set_0 | apply IsS86.set_1) | exact HI0.out))
       (case side2 => repeat (first | (with_reducible first | exact HB.out | apply ba | apply bn | apply bd | refine below_set ?_ (IsS86.ge HI0.out)) | exact HB.out))
       rintro e w29 ⟨rfl, hi, hb, hk⟩; refine ⟨_, rfl, ?_⟩; have n0_ := Aside0.mk (KeepBut.trans (by repeat (first | (with_reducible first | exact HK.out | apply KeepBut.set_ | apply keep_drewN | apply keep_drew | apply keep_alloc) | exact HK.out)) hk (.inl rfl)); have n1_ := Aside0.mk (hb); have n2_ := Aside0.mk (hi); clear HK; clear HB; clear HI0; have HK := n0_; have HB := n1_; have HI0 := n2_; clear n0_ n1_ n2_; (try clear hb); (try clear hb2); (try clear hk); (try clear hi); have p23 : 0 ≤ (x1001_1 : Int) := of1; have q23 : x1001_1 < (x1000_1.size : Int) := of1; have hx23 := bt_at x1000_1 x1001_1; replace p23 := eq_true p23; replace q23 := eq_true q23; refine hK.out _ _ ⟨(blk_cell HI0.out.1 0).trans rfl, (blk_cell HI0.out.1 1).trans rfl⟩ (fun hHeld => ?_); clear hK K; refine norm_ (a' := ?_) ?_ ?_; rotate_left; ((show Act.put _ (some 25) _ = _); simp only [zz]; rfl); refine pu_ (i := 2) (N := some 26) (v := ?_) (a' := ?_) #[true, true, true, false, false, false, false, false, false, false, false, false, false, false, false] (hc := any_of HT_.out (by kernel_rfl)) ?_ ?_ ?_; rotate_left; (intro w'; go_simp; with_reducible rfl); rotate_left
       ·simp only [zz]; rfl
       refine pu_ (i := 3) (N := some 27) (v := ?_) (a' := ?_) #[true, true, true, true, false, false, false, false, false, false, false, false, false, false, false] (hc := any_of HT_.out (by kernel_rfl)) ?_ ?_ ?_; rotate_left; (intro w'; go_simp; with_reducible rfl); rotate_left
       ·simp only [zz]; rfl
       refine pu_ (i := 4) (N := some 28) (v := ?_) (a' := ?_) #[true, true, true, true, true, false, false, false, false, false, false, false, false, false, false] (hc := any_of HT_.out (by kernel_rfl)) ?_ ?_ ?_; rotate_left; (intro w'; go_simp; with_reducible rfl); rotate_left
       ·simp only [zz]; rfl
       refine pu_ (i := 5) (N := some 29) (v := ?_) (a' := ?_) #[true, true, true, true, true, true, false, false, false, false, false, false, false, false, false] (hc := any_of HT_.out (by kernel_rfl)) ?_ ?_ ?_; rotate_left; (intro w'; go_simp; with_reducible rfl); rotate_left
       ·simp only [zz]; rfl
       refine pu_ (i := 6) (N := some 30) (v := ?_) (a' := ?_) #[true, true, true, true, true, true, true, false, false, false, false, false, false, false, false] (hc := any_of HT_.out (by kernel_rfl)) ?_ ?_ ?_; rotate_left; (intro w'; go_simp; with_reducible rfl); rotate_left
       ·simp only [zz]; rfl
       refine pu_ (i := 8) (N := some 32) (v := ?_) (a' := ?_) #[true, true, true, true, true, true, true, false, true, false, false, false, false, false, false] (hc := any_of HT_.out (by kernel_rfl)) ?_ ?_ ?_; rotate_left; (intro w'; go_simp; with_reducible rfl); rotate_left
       ·simp only [zz]; rfl
       refine pu_ (i := 9) (N := some 33) (v := ?_) (a' := ?_) #[true, true, true, true, true, true, true, false, true, true, false, false, false, false, false] (hc := any_of HT_.out (by kernel_rfl)) ?_ ?_ ?_; rotate_left; (intro w'; go_simp; with_reducible rfl); rotate_left
       ·simp only [zz]; rfl
       refine pu_ (i := 10) (N := some 34) (v := ?_) (a' := ?_) #[true, true, true, true, true, true, true, false, true, true, true, false, false, false, false] (hc := any_of HT_.out (by kernel_rfl)) ?_ ?_ ?_; rotate_left; (intro w'; go_simp; with_reducible rfl); rotate_left
       ·simp only [zz]; rfl
       refine ta_ (i := 7) (N := some 31) (v := ?_) (a' := ?_) #[true, true, true, true, true, true, true, true, true, true, true, false, false, false, false] (hc := take_ofW HT_.out HW_.out (by kernel_rfl)) ?_ hHeld ?_ ?_; rotate_left; (rintro w' ⟨s0, s1⟩; go_simp; with_reducible rfl); rotate_left
       ·simp only [zz]; rfl
       refine ta_ (i := 11) (N := some 35) (v := ?_) (a' := ?_) #[true, true, true, true, true, true, true, true, true, true, true, true, false, false, false] (hc := take_ofW HT_.out HW_.out (by kernel_rfl)) ?_ hHeld ?_ ?_; rotate_left; (rintro w' ⟨s0, s1⟩; go_simp; with_reducible rfl); rotate_left
       ·simp only [zz]; rfl
       refine ta_ (i := 12) (N := some 36) (v := ?_) (a' := ?_) #[true, true, true, true, true, true, true, true, true, true, true, true, true, false, false] (hc := take_ofW HT_.out HW_.out (by kernel_rfl)) ?_ hHeld ?_ ?_; rotate_left; (rintro w' ⟨s0, s1⟩; go_simp; with_reducible rfl); rotate_left
       ·simp only [zz]; rfl
       refine pu_ (i := 13) (N := some 37) (v := ?_) (a' := ?_) #[true, true, true, true, true, true, true, true, true, true, true, true, true, true, false] (hc := any_of HT_.out (by kernel_rfl)) ?_ ?_ ?_; rotate_left; (intro w'; go_simp; with_reducible rfl); rotate_left
       ·simp only [zz]; rfl
       refine pu_ (i := 14) (N := some 38) (v := ?_) (a' := ?_) #[true, true, true, true, true, true, true, true, true, true, true, true, true, true, true] (hc := any_of HT_.out (by kernel_rfl)) ?_ ?_ ?_; rotate_left; (intro w'; go_simp; with_reducible rfl); rotate_left
       ·simp only [zz]; rfl
       refine done_ (done_of HT_.out (by kernel_rfl)) ?_; (try go_wp2); (first | go_end0 | ((try simp only [Exit.inBlock, Exit.then]); refine bodyPost_ret (results_none rfl _ _ _) rfl ?_)); exact ⟨er1, by repeat (first | (with_reducible first | exact HI0.out | apply IsS86.alloc | apply IsS86.drewN | apply IsS86.drew | apply IsS86.set_0 | apply IsS86.set_1) | exact HI0.out), by repeat (first | (with_reducible first | exact HB.out | apply ba | apply bn | apply bd | refine below_set ?_ (IsS86.ge HI0.out)) | exact HB.out), by repeat (first | (with_reducible first | exact HK.out | apply KeepBut.set_ | apply keep_drewN | apply keep_drew | apply keep_alloc) | exact HK.out)⟩
     ·rw [if_neg c22] at H; exact absurd H (by simp)
    ·rw [if_neg c21] at H; exact absurd H (by simp)
end Go.Proofs.YtenigkhfldafaaaDoor.A

import Derived.Test.YtenigkhfldafaaaDoorA0
import Derived.Test.YtenigkhfldafaaaDoorA1
import Derived.Test.YtenigkhfldafaaaDoorZ
namespace Go.Proofs.YtenigkhfldafaaaDoor.A
open Go.RowKit Go.Proofs.YtenigkhfldafaaaDoorW.PrintWords Go.Proofs.YtenigkhfldafaaaDoorW.PrintLast Go.Proofs.YtenigkhfldafaaaDoorW.PrintMore
attribute [local go_sem] max2_int min2_int max_two min_two max_three min_three max_four min_four
set_option linter.unusedVariables false
set_option linter.unusedSimpArgs false
set_option maxRecDepth 100000 in
def shell_hex.j0 : Nat → Int → Bool → Option (Int)
 | 0, _, _ => none
 | k + 1, x0, x3 => if x3 = true then (some ((x0 - 48) % 256)) else (if x0 ≥ 97 then (if x0 ≤ 102 then (some (((x0 - 97) % 256) + 10)) else (some (-1))) else (some (-1)))
def shell_hex.f (k : Nat) (a0 : Int) : Option (Int) := if a0 ≥ 48 then (shell_hex.j0 k a0 (decide (a0 ≤ 57))) else (shell_hex.j0 k a0 false)
set_option maxRecDepth 100000 in
theorem shell_hex.mono_l : ∀ k, (∀ y0 y1, LeO (shell_hex.j0 k y0 y1) (shell_hex.j0 (k + 1) y0 y1))
 | 0 => fun _ _ r h => absurd (show (none : Option _) = some r from h) (by simp)
 | k + 1 => by
  have ih0 := shell_hex.mono_l k
  ·intro y0 y1; unfold shell_hex.j0
   repeat' first
   | (with_reducible exact ih0 _ _)
   | (with_reducible exact LeO.refl _)
   | (with_reducible exact LeO.none _)
   | (with_reducible refine LeO.ite ?_ ?_)
   | (with_reducible refine LeO.bind ?_ (fun _ => ?_))
   | exact ih0 _ _
   | exact LeO.none _
   | refine LeO.ite ?_ ?_
   | refine LeO.bind ?_ (fun _ => ?_)
set_option maxRecDepth 100000 in
theorem shell_hex.mono : ∀ a0 k, LeO (shell_hex.f k a0) (shell_hex.f (k + 1) a0) := by
 intro a0 k; have ih0 := shell_hex.mono_l k; unfold shell_hex.f
 repeat' first
   | (with_reducible exact ih0 _ _)
   | (with_reducible exact LeO.refl _)
   | (with_reducible exact LeO.none _)
   | (with_reducible refine LeO.ite ?_ ?_)
   | (with_reducible refine LeO.bind ?_ (fun _ => ?_))
   | exact ih0 _ _
   | exact LeO.none _
   | refine LeO.ite ?_ ?_
   | refine LeO.bind ?_ (fun _ => ?_)
set_option maxHeartbeats 8000000 in
set_option maxRecDepth 100000 in
theorem shell_hex.calls (k : Nat) (a0 : Int) (r : Int) (w : World) (h : shell_hex.f k a0 = some r) :
  Calls Tryd.prog 80 #[.int .u8 a0] w fun e w' => e = .returned (.int .i64 r) ∧ Drawn0 w w' := by
 have H : (if a0 ≥ 48 then (shell_hex.j0 k a0 (decide (a0 ≤ 57))) else (shell_hex.j0 k a0 false)) = some r := h; clear h; have HC2 := Aside0.mk H; clear H; go_enter Tryd.func80, Tryd.ntmps80
 go_upto_region 1 with (fail)
 go_cut [3] (fun v3 wc => ∃ (kq : Nat) (x3_1 : Bool), v3 = .bool x3_1 ∧ Aside0 (shell_hex.j0 kq a0 x3_1 = some r) ∧ Aside0 (kq ≤ k) ∧ Drawn0 w wc)
 case first =>
  have H := HC2.out; clear HC2
  by_cases c3 : a0 ≥ 48
  ·rw [if_pos c3] at H; have c3b0 : decide (48 ≤ a0) = true := decide_eq_true c3; clear c3; (first | rw [c3b0] | (simp only [i64_w, i32_w]; rw [c3b0]) | skip); have H' := Aside0.mk H; clear H; go_wp2
   go_meet
   case rel => exact ⟨_, (decide (a0 ≤ 57)), (by first | rfl | (simp; done) | (simp [*]; done)), H', ⟨by first | omega | exact Nat.le_refl _⟩, dr1⟩
  ·rw [if_neg c3] at H; have c3b0 : decide (48 ≤ a0) = false := decide_eq_false c3; clear c3; (first | rw [c3b0] | (simp only [i64_w, i32_w]; rw [c3b0]) | skip); have H' := Aside0.mk H; clear H; go_wp2
   go_meet
   case rel => exact ⟨_, (false), (by first | rfl | (simp; done) | (simp [*]; done)), H', ⟨by first | omega | exact Nat.le_refl _⟩, dr1⟩
 case rest =>
  clear HC2; (try clear p2); (try clear c3); (try clear c3b0); obtain ⟨kq, x3_1, rfl, HA, HJ1, ⟨mc1, rfl⟩⟩ := hcut
  cases kq with
  | zero => exact absurd (show (none : Option (Int)) = some r from HA.out) (fun h_ => nomatch h_)
  | succ kj1 =>
   have H := HA.out; clear HA; simp only [shell_hex.j0] at H
   by_cases c4 : x3_1 = true
   ·subst c4
    (have H1 : (some ((a0 - 48) % 256)) = some r := by rw [if_pos rfl] at H; exact H); clear H; have H := H1; clear H1; obtain rfl := Option.some.inj H; go_wp2; go_ret; exact ⟨by first | rfl | (simp; done) | (simp [*]; done), dr1⟩
   ·replace c4 := Bool.eq_false_iff.mpr c4; subst c4; (have H1 : (if a0 ≥ 97 then (if a0 ≤ 102 then (some (((a0 - 97) % 256) + 10)) else (some (-1))) else (some (-1))) = some r := by rw [if_neg (show ¬ (false = true) by decide)] at H; exact H); clear H; have H := H1; clear H1
    by_cases c5 : a0 ≥ 97
    ·rw [if_pos c5] at H; have c5b0 : decide (97 ≤ a0) = true := decide_eq_true c5; clear c5
     by_cases c6 : a0 ≤ 102
     ·rw [if_pos c6] at H; have c6b0 : decide (a0 ≤ 102) = true := decide_eq_true c6; clear c6; obtain rfl := Option.some.inj H; go_wp2; go_ret; exact ⟨by first | rfl | (simp; done) | (simp [*]; done), dr1⟩
     ·rw [if_neg c6] at H; have c6b0 : decide (a0 ≤ 102) = false := decide_eq_false c6; clear c6; obtain rfl := Option.some.inj H; go_wp2; go_ret; exact ⟨by first | rfl | (simp; done) | (simp [*]; done), dr1⟩
    ·rw [if_neg c5] at H; have c5b0 : decide (97 ≤ a0) = false := decide_eq_false c5; clear c5; obtain rfl := Option.some.inj H; go_wp2; go_ret; exact ⟨by first | rfl | (simp; done) | (simp [*]; done), dr1⟩
set_option maxRecDepth 100000 in
def shell_line_escape.j0 : Nat → Int → Int → Bool → ByteArray → Int → Option (Int × Bool × ByteArray × Int)
 | 0, _, _, _, _, _ => none
 | k + 1, x4, x25, x26, x1000, x1001 => if x26 = true then (some (x4, true, x1000, x1001)) else (if x25 = 110 then (some (10, true, x1000, x1001)) else (if x25 = 120 then (if (wrap64 ((x1000.size : Int) - x1001)) < 2 then (some (0, false, x1000, x1001)) else (if 0 ≤ x1001 then (if x1001 < (x1000.size : Int) then ((shell_hex.f k (bt x1000 x1001)).bind fun t126 => (if 0 ≤ (wrap64 (x1001 + 1)) then (if (wrap64 (x1001 + 1)) < (x1000.size : Int) then ((shell_hex.f k (bt x1000 (wrap64 (x1001 + 1)))).bind fun t127 => (if t126 ≥ 0 then (some ((wrap64 ((wrap64 (16 * (mx t126 0))) + (mx t127 0))) % 256, decide (t127 ≥ 0), x1000, wrap64 (x1001 + 2))) else (some ((wrap64 ((wrap64 (16 * (mx t126 0))) + (mx t127 0))) % 256, false, x1000, wrap64 (x1001 + 2))))) else (none)) else (none))) else (none)) else (none))) else (some (0, false, x1000, x1001))))
def shell_line_escape.f (k : Nat) (s0_0 : ByteArray) (s0_1 : Int) : Option (Int × Bool × ByteArray × Int) := (shell_line_end.f s0_0 s0_1).bind fun bt123 => (if bt123.1 = true then (some (0, false, s0_0, s0_1)) else (if 0 ≤ s0_1 then (if s0_1 < (s0_0.size : Int) then (if (bt s0_0 s0_1) = 92 then (shell_line_escape.j0 k (bt s0_0 s0_1) (bt s0_0 s0_1) ((bt s0_0 s0_1) == 92) s0_0 (wrap64 (s0_1 + 1))) else (shell_line_escape.j0 k (bt s0_0 s0_1) (bt s0_0 s0_1) ((bt s0_0 s0_1) == 34) s0_0 (wrap64 (s0_1 + 1)))) else (none)) else (none)))
set_option maxRecDepth 100000 in
theorem shell_line_escape.mono_l : ∀ k, (∀ y0 y1 y2 y3 y4, LeO (shell_line_escape.j0 k y0 y1 y2 y3 y4) (shell_line_escape.j0 (k + 1) y0 y1 y2 y3 y4))
 | 0 => fun _ _ _ _ _ r h => absurd (show (none : Option _) = some r from h) (by simp)
 | k + 1 => by
  have ih0 := shell_line_escape.mono_l k
  ·intro y0 y1 y2 y3 y4; unfold shell_line_escape.j0
   repeat' first
   | (with_reducible exact ih0 _ _ _ _ _)
   | (with_reducible exact shell_hex.mono _ _)
   | (with_reducible exact LeO.refl _)
   | (with_reducible exact LeO.none _)
   | (with_reducible refine LeO.ite ?_ ?_)
   | (with_reducible refine LeO.bind ?_ (fun _ => ?_))
   | exact ih0 _ _ _ _ _
   | exact shell_hex.mono _ _
   | exact LeO.none _
   | refine LeO.ite ?_ ?_
   | refine LeO.bind ?_ (fun _ => ?_)
set_option maxRecDepth 100000 in
theorem shell_line_escape.mono : ∀ a0 a1 k, LeO (shell_line_escape.f k a0 a1) (shell_line_escape.f (k + 1) a0 a1) := by
 intro a0 a1 k; have ih0 := shell_line_escape.mono_l k; unfold shell_line_escape.f
 repeat' first
   | (with_reducible exact ih0 _ _ _ _ _)
   | (with_reducible exact shell_hex.mono _ _)
   | (with_reducible exact LeO.refl _)
   | (with_reducible exact LeO.none _)
   | (with_reducible refine LeO.ite ?_ ?_)
   | (with_reducible refine LeO.bind ?_ (fun _ => ?_))
   | exact ih0 _ _ _ _ _
   | exact shell_hex.mono _ _
   | exact LeO.none _
   | refine LeO.ite ?_ ?_
   | refine LeO.bind ?_ (fun _ => ?_)
set_option maxHeartbeats 8000000 in
set_option maxRecDepth 100000 in
theorem shell_line_escape.calls (k : Nat) (g : Nat) (s0_0 : ByteArray) (s0_1 : Int) (r1 : Int) (r2 : Bool) (r3 : ByteArray) (r4 : Int) (w0 w : World) (hI : IsS86 w0 w g s0_0 s0_1) (hB : Below w0.heap.size w0 w) (h : shell_line_escape.f k s0_0 s0_1 = some (r1, r2, r3, r4)) :
  Calls Tryd.prog 69 #[.pointer (some ⟨g, 0, none⟩)] w fun e w' => e = .returned (.tuple #[.int .u8 r1, .bool r2]) ∧ IsS86 w0 w' g r3 r4 ∧ Below w0.heap.size w0 w' ∧ KeepBut w w' g none := by
 have HI0 := Aside0.mk hI; have HK := Aside0.mk (KeepBut.refl w g none); have HL := Aside0.mk hB.size; clear hI; have HW0 := Aside0.mk hB.size; have HB := Aside0.mk hB; clear hB; have H : ((shell_line_end.f s0_0 s0_1).bind fun bt123 => (if bt123.1 = true then (some (0, false, s0_0, s0_1)) else (if 0 ≤ s0_1 then (if s0_1 < (s0_0.size : Int) then (if (bt s0_0 s0_1) = 92 then (shell_line_escape.j0 k (bt s0_0 s0_1) (bt s0_0 s0_1) ((bt s0_0 s0_1) == 92) s0_0 (wrap64 (s0_1 + 1))) else (shell_line_escape.j0 k (bt s0_0 s0_1) (bt s0_0 s0_1) ((bt s0_0 s0_1) == 34) s0_0 (wrap64 (s0_1 + 1)))) else (none)) else (none)))) = some (r1, r2, r3, r4) := h; clear h; replace H := Option.bind_eq_some_iff.mp H; obtain ⟨⟨t123, t124, t125⟩, A20, H⟩ := H; replace H : (if t123 = true then (some (0, false, s0_0, s0_1)) else (if 0 ≤ s0_1 then (if s0_1 < (s0_0.size : Int) then (if (bt s0_0 s0_1) = 92 then (shell_line_escape.j0 k (bt s0_0 s0_1) (bt s0_0 s0_1) ((bt s0_0 s0_1) == 92) s0_0 (wrap64 (s0_1 + 1))) else (shell_line_escape.j0 k (bt s0_0 s0_1) (bt s0_0 s0_1) ((bt s0_0 s0_1) == 34) s0_0 (wrap64 (s0_1 + 1)))) else (none)) else (none))) = some (r1, r2, r3, r4) := H; obtain ⟨rfl, rfl⟩ := shell_line_end.ro A20; have A2 := Aside0.mk A20; clear A20
 by_cases c3 : t123 = true
 ·subst c3
  (have H1 : (some (0, false, s0_0, s0_1)) = some (r1, r2, r3, r4) := by rw [if_pos rfl] at H; exact H); clear H; have H := H1; clear H1; simp only [Option.some.injEq, Prod.mk.injEq] at H; obtain ⟨rfl, rfl, rfl, rfl⟩ := H; go_enter Tryd.func69, Tryd.ntmps69
  go_wp2_with (first | (go_at_call 47; (with_reducible refine (shell_line_end.calls g s0_0 s0_1 true s0_0 s0_1 w0 _ ?side1 ?side2 A2.out).mono ?_); (case side1 => repeat (first | (with_reducible first | exact HI0.out | apply IsS86.alloc | apply IsS86.drewN | apply IsS86.drew | apply IsS86.set_0 | apply IsS86.set_1) | exact HI0.out)); (case side2 => repeat (first | (with_reducible first | exact HB.out | apply below_alloc | apply pw_below_drewN | apply below_drew1 | refine below_set ?_ (IsS86.ge HI0.out)) | exact HB.out)); rintro e w4 ⟨rfl, hi, hb, hk⟩; have n0_ := Aside0.mk (KeepBut.trans (by repeat (first | (with_reducible first | exact HK.out | apply KeepBut.set_ | apply keep_drewN | apply keep_drew | apply keep_alloc) | exact HK.out)) hk (.inl rfl)); have n1_ := Aside0.mk (hb); have n2_ := Aside0.mk (hi); clear HK; clear HB; clear HI0; have HK := n0_; have HB := n1_; have HI0 := n2_; clear n0_ n1_ n2_; (try clear hb); (try clear hb2); (try clear hk); (try clear hi)))
  repeat (go_quiet (first | (go_at_call 47; (with_reducible refine (shell_line_end.calls g s0_0 s0_1 true s0_0 s0_1 w0 _ ?side1 ?side2 A2.out).mono ?_); (case side1 => repeat (first | (with_reducible first | exact HI0.out | apply IsS86.alloc | apply IsS86.drewN | apply IsS86.drew | apply IsS86.set_0 | apply IsS86.set_1) | exact HI0.out)); (case side2 => repeat (first | (with_reducible first | exact HB.out | apply below_alloc | apply pw_below_drewN | apply below_drew1 | refine below_set ?_ (IsS86.ge HI0.out)) | exact HB.out)); rintro e w4 ⟨rfl, hi, hb, hk⟩; have n0_ := Aside0.mk (KeepBut.trans (by repeat (first | (with_reducible first | exact HK.out | apply KeepBut.set_ | apply keep_drewN | apply keep_drew | apply keep_alloc) | exact HK.out)) hk (.inl rfl)); have n1_ := Aside0.mk (hb); have n2_ := Aside0.mk (hi); clear HK; clear HB; clear HI0; have HK := n0_; have HB := n1_; have HI0 := n2_; clear n0_ n1_ n2_; (try clear hb); (try clear hb2); (try clear hk); (try clear hi))); try go_wp2_with (first | (go_at_call 47; (with_reducible refine (shell_line_end.calls g s0_0 s0_1 true s0_0 s0_1 w0 _ ?side1 ?side2 A2.out).mono ?_); (case side1 => repeat (first | (with_reducible first | exact HI0.out | apply IsS86.alloc | apply IsS86.drewN | apply IsS86.drew | apply IsS86.set_0 | apply IsS86.set_1) | exact HI0.out)); (case side2 => repeat (first | (with_reducible first | exact HB.out | apply below_alloc | apply pw_below_drewN | apply below_drew1 | refine below_set ?_ (IsS86.ge HI0.out)) | exact HB.out)); rintro e w4 ⟨rfl, hi, hb, hk⟩; have n0_ := Aside0.mk (KeepBut.trans (by repeat (first | (with_reducible first | exact HK.out | apply KeepBut.set_ | apply keep_drewN | apply keep_drew | apply keep_alloc) | exact HK.out)) hk (.inl rfl)); have n1_ := Aside0.mk (hb); have n2_ := Aside0.mk (hi); clear HK; clear HB; clear HI0; have HK := n0_; have HB := n1_; have HI0 := n2_; clear n0_ n1_ n2_; (try clear hb); (try clear hb2); (try clear hk); (try clear hi))))
  go_ret2
  exact ⟨er1, by repeat (first | (with_reducible first | exact HI0.out | apply IsS86.alloc | apply IsS86.drewN | apply IsS86.drew | apply IsS86.set_0 | apply IsS86.set_1) | exact HI0.out), by repeat (first | (with_reducible first | exact HB.out | apply below_alloc | apply pw_below_drewN | apply below_drew1 | refine below_set ?_ (IsS86.ge HI0.out)) | exact HB.out), by repeat (first | (with_reducible first | exact HK.out | apply KeepBut.set_ | apply keep_drewN | apply keep_drew | apply keep_alloc) | exact HK.out)⟩
 ·replace c3 := Bool.eq_false_iff.mpr c3; subst c3; (have H1 : (if 0 ≤ s0_1 then (if s0_1 < (s0_0.size : Int) then (if (bt s0_0 s0_1) = 92 then (shell_line_escape.j0 k (bt s0_0 s0_1) (bt s0_0 s0_1) ((bt s0_0 s0_1) == 92) s0_0 (wrap64 (s0_1 + 1))) else (shell_line_escape.j0 k (bt s0_0 s0_1) (bt s0_0 s0_1) ((bt s0_0 s0_1) == 34) s0_0 (wrap64 (s0_1 + 1)))) else (none)) else (none)) = some (r1, r2, r3, r4) := by rw [if_neg (show ¬ (false = true) by decide)] at H; exact H); clear H; have H := H1; clear H1
  by_cases c5 : 0 ≤ s0_1
  ·rw [if_pos c5] at H; have c5b0 : decide (0 ≤ s0_1) = true := decide_eq_true c5; clear c5
   by_cases c6 : s0_1 < (s0_0.size : Int)
   ·rw [if_pos c6] at H; have c6b0 : decide (s0_1 < (s0_0.size : Int)) = true := decide_eq_true c6; clear c6; have HC8 := Aside0.mk H; clear H; go_enter Tryd.func69, Tryd.ntmps69
    go_upto_if 26 with (first | (go_at_call 47; (with_reducible refine (shell_line_end.calls g s0_0 s0_1 false s0_0 s0_1 w0 _ ?side1 ?side2 A2.out).mono ?_); (case side1 => repeat (first | (with_reducible first | exact HI0.out | apply IsS86.alloc | apply IsS86.drewN | apply IsS86.drew | apply IsS86.set_0 | apply IsS86.set_1) | exact HI0.out)); (case side2 => repeat (first | (with_reducible first | exact HB.out | apply below_alloc | apply pw_below_drewN | apply below_drew1 | refine below_set ?_ (IsS86.ge HI0.out)) | exact HB.out)); rintro e w9 ⟨rfl, hi, hb, hk⟩; have n0_ := Aside0.mk (KeepBut.trans (by repeat (first | (with_reducible first | exact HK.out | apply KeepBut.set_ | apply keep_drewN | apply keep_drew | apply keep_alloc) | exact HK.out)) hk (.inl rfl)); have n1_ := Aside0.mk (hb); have n2_ := Aside0.mk (hi); clear HK; clear HB; clear HI0; have HK := n0_; have HB := n1_; have HI0 := n2_; clear n0_ n1_ n2_; (try clear hb); (try clear hb2); (try clear hk); (try clear hi); obtain ⟨HGz10, hgz10⟩ := HI0.out; have hcz10_0 := cellS86_0 HGz10; have hcz10_1 := cellS86_1 HGz10; have hfz10_0 := blk_frozen HGz10 0; have hfz10_1 := blk_frozen HGz10 1; clear HGz10 hgz10; have p7 : 0 ≤ (s0_1 : Int) := of1; have q7 : s0_1 < (s0_0.size : Int) := of1; have hx7 := bt_at s0_0 s0_1; replace p7 := eq_true p7; replace q7 := eq_true q7))
    repeat (go_quiet (first | (go_at_call 47; (with_reducible refine (shell_line_end.calls g s0_0 s0_1 false s0_0 s0_1 w0 _ ?side1 ?side2 A2.out).mono ?_); (case side1 => repeat (first | (with_reducible first | exact HI0.out | apply IsS86.alloc | apply IsS86.drewN | apply IsS86.drew | apply IsS86.set_0 | apply IsS86.set_1) | exact HI0.out)); (case side2 => repeat (first | (with_reducible first | exact HB.out | apply below_alloc | apply pw_below_drewN | apply below_drew1 | refine below_set ?_ (IsS86.ge HI0.out)) | exact HB.out)); rintro e w9 ⟨rfl, hi, hb, hk⟩; have n0_ := Aside0.mk (KeepBut.trans (by repeat (first | (with_reducible first | exact HK.out | apply KeepBut.set_ | apply keep_drewN | apply keep_drew | apply keep_alloc) | exact HK.out)) hk (.inl rfl)); have n1_ := Aside0.mk (hb); have n2_ := Aside0.mk (hi); clear HK; clear HB; clear HI0; have HK := n0_; have HB := n1_; have HI0 := n2_; clear n0_ n1_ n2_; (try clear hb); (try clear hb2); (try clear hk); (try clear hi); obtain ⟨HGz10, hgz10⟩ := HI0.out; have hcz10_0 := cellS86_0 HGz10; have hcz10_1 := cellS86_1 HGz10; have hfz10_0 := blk_frozen HGz10 0; have hfz10_1 := blk_frozen HGz10 1; clear HGz10 hgz10; have p7 : 0 ≤ (s0_1 : Int) := of1; have q7 : s0_1 < (s0_0.size : Int) := of1; have hx7 := bt_at s0_0 s0_1; replace p7 := eq_true p7; replace q7 := eq_true q7)); go_upto_if 26 with (first | (go_at_call 47; (with_reducible refine (shell_line_end.calls g s0_0 s0_1 false s0_0 s0_1 w0 _ ?side1 ?side2 A2.out).mono ?_); (case side1 => repeat (first | (with_reducible first | exact HI0.out | apply IsS86.alloc | apply IsS86.drewN | apply IsS86.drew | apply IsS86.set_0 | apply IsS86.set_1) | exact HI0.out)); (case side2 => repeat (first | (with_reducible first | exact HB.out | apply below_alloc | apply pw_below_drewN | apply below_drew1 | refine below_set ?_ (IsS86.ge HI0.out)) | exact HB.out)); rintro e w9 ⟨rfl, hi, hb, hk⟩; have n0_ := Aside0.mk (KeepBut.trans (by repeat (first | (with_reducible first | exact HK.out | apply KeepBut.set_ | apply keep_drewN | apply keep_drew | apply keep_alloc) | exact HK.out)) hk (.inl rfl)); have n1_ := Aside0.mk (hb); have n2_ := Aside0.mk (hi); clear HK; clear HB; clear HI0; have HK := n0_; have HB := n1_; have HI0 := n2_; clear n0_ n1_ n2_; (try clear hb); (try clear hb2); (try clear hk); (try clear hi); obtain ⟨HGz10, hgz10⟩ := HI0.out; have hcz10_0 := cellS86_0 HGz10; have hcz10_1 := cellS86_1 HGz10; have hfz10_0 := blk_frozen HGz10 0; have hfz10_1 := blk_frozen HGz10 1; clear HGz10 hgz10; have p7 : 0 ≤ (s0_1 : Int) := of1; have q7 : s0_1 < (s0_0.size : Int) := of1; have hx7 := bt_at s0_0 s0_1; replace p7 := eq_true p7; replace q7 := eq_true q7)))
    (try simp only [Act.put, List.setIfInBounds_toArray, List.set_cons_zero, List.set_cons_succ])
    go_cut [26] (fun v26 wc => ∃ (kq : Nat) (x26_7 : Bool), v26 = .bool x26_7 ∧ Aside0 (shell_line_escape.j0 kq (bt s0_0 s0_1) (bt s0_0 s0_1) x26_7 s0_0 (wrap64 (s0_1 + 1)) = some (r1, r2, r3, r4)) ∧ Aside0 (kq ≤ k) ∧ Aside0 (IsS86 w0 wc g s0_0 (wrap64 (s0_1 + 1))) ∧ Aside0 (KeepBut w wc g none) ∧ Aside0 (Below w0.heap.size w0 wc))
    case first =>
     have H := HC8.out; clear HC8
     by_cases c11 : (bt s0_0 s0_1) = 92
     ·rw [if_pos c11] at H; have c11b0 : ((bt s0_0 s0_1) == 92) = true := beq_iff_eq.mpr c11; have c11b1 : ((bt s0_0 s0_1) != 92) = false := bne_eq_false_iff_eq.mpr c11; clear c11; (first | rw [c11b0] | (simp only [i64_w, i32_w]; rw [c11b0]) | skip); have H' := Aside0.mk H; clear H; go_wp2
      repeat (go_quiet (fail); try go_wp2)
      go_meet
      case rel => exact ⟨_, (((bt s0_0 s0_1) == 92)), (by first | rfl | (simp; done) | (simp [*]; done)), H', ⟨by first | omega | exact Nat.le_refl _⟩, ⟨by repeat (first | (with_reducible first | exact HI0.out | apply IsS86.alloc | apply IsS86.drewN | apply IsS86.drew | apply IsS86.set_0 | apply IsS86.set_1) | exact HI0.out)⟩, ⟨by repeat (first | (with_reducible first | exact HK.out | apply KeepBut.set_ | apply keep_drewN | apply keep_drew | apply keep_alloc) | exact HK.out)⟩, ⟨by repeat (first | (with_reducible first | exact HB.out | apply below_alloc | apply pw_below_drewN | apply below_drew1 | refine below_set ?_ (IsS86.ge HI0.out)) | exact HB.out)⟩⟩
     ·rw [if_neg c11] at H; have c11b0 : ((bt s0_0 s0_1) == 92) = false := beq_eq_false_iff_ne.mpr c11; have c11b1 : ((bt s0_0 s0_1) != 92) = true := bne_iff_ne.mpr c11; (first | rw [c11b0] | (simp only [i64_w, i32_w]; rw [c11b0]) | skip); have H' := Aside0.mk H; clear H; go_wp2
      repeat (go_quiet (fail); try go_wp2)
      go_meet
      case rel => exact ⟨_, (((bt s0_0 s0_1) == 34)), (by first | rfl | (simp; done) | (simp [*]; done)), H', ⟨by first | omega | exact Nat.le_refl _⟩, ⟨by repeat (first | (with_reducible first | exact HI0.out | apply IsS86.alloc | apply IsS86.drewN | apply IsS86.drew | apply IsS86.set_0 | apply IsS86.set_1) | exact HI0.out)⟩, ⟨by repeat (first | (with_reducible first | exact HK.out | apply KeepBut.set_ | apply keep_drewN | apply keep_drew | apply keep_alloc) | exact HK.out)⟩, ⟨by repeat (first | (with_reducible first | exact HB.out | apply below_alloc | apply pw_below_drewN | apply below_drew1 | refine below_set ?_ (IsS86.ge HI0.out)) | exact HB.out)⟩⟩
    case rest =>
     clear HC8; (try clear c1); (try clear p2); (try clear c3); (try clear c5); (try clear c5b0); (try clear c6); (try clear c6b0); (try clear p6); (try clear p7); (try clear q7); (try clear hx7); (try clear c11); (try clear c11b0); (try clear c11b1); (try clear hcz10_0); (try clear hcz10_1); (try clear hfz10_0); (try clear hfz10_1); (try clear p7); (try clear q7); obtain ⟨kq, x26_7, rfl, HA, HJ7, HI0, HK, HB⟩ := hcut
     cases kq with
     | zero => exact absurd (show (none : Option (Int × Bool × ByteArray × Int)) = some (r1, r2, r3, r4) from HA.out) (fun h_ => nomatch h_)
     | succ kj7 =>
      have H := HA.out; clear HA; simp only [shell_line_escape.j0] at H
      by_cases c12 : x26_7 = true
      ·subst c12
       (have H1 : (some ((bt s0_0 s0_1), true, s0_0, (wrap64 (s0_1 + 1)))) = some (r1, r2, r3, r4) := by rw [if_pos rfl] at H; exact H); clear H; have H := H1; clear H1; simp only [Option.some.injEq, Prod.mk.injEq] at H; obtain ⟨rfl, rfl, rfl, rfl⟩ := H; go_wp2
       repeat (go_quiet (fail); try go_wp2)
       go_ret2
       exact ⟨er1, by repeat (first | (with_reducible first | exact HI0.out | apply IsS86.alloc | apply IsS86.drewN | apply IsS86.drew | apply IsS86.set_0 | apply IsS86.set_1) | exact HI0.out), by repeat (first | (with_reducible first | exact HB.out | apply below_alloc | apply pw_below_drewN | apply below_drew1 | refine below_set ?_ (IsS86.ge HI0.out)) | exact HB.out), by repeat (first | (with_reducible first | exact HK.out | apply KeepBut.set_ | apply keep_drewN | apply keep_drew | apply keep_alloc) | exact HK.out)⟩
      ·replace c12 := Bool.eq_false_iff.mpr c12; subst c12; (have H1 : (if (bt s0_0 s0_1) = 110 then (some (10, true, s0_0, (wrap64 (s0_1 + 1)))) else (if (bt s0_0 s0_1) = 120 then (if (wrap64 ((s0_0.size : Int) - (wrap64 (s0_1 + 1)))) < 2 then (some (0, false, s0_0, (wrap64 (s0_1 + 1)))) else (if 0 ≤ (wrap64 (s0_1 + 1)) then (if (wrap64 (s0_1 + 1)) < (s0_0.size : Int) then ((shell_hex.f kj7 (bt s0_0 (wrap64 (s0_1 + 1)))).bind fun t126 => (if 0 ≤ (wrap64 ((wrap64 (s0_1 + 1)) + 1)) then (if (wrap64 ((wrap64 (s0_1 + 1)) + 1)) < (s0_0.size : Int) then ((shell_hex.f kj7 (bt s0_0 (wrap64 ((wrap64 (s0_1 + 1)) + 1)))).bind fun t127 => (if t126 ≥ 0 then (some ((wrap64 ((wrap64 (16 * (mx t126 0))) + (mx t127 0))) % 256, decide (t127 ≥ 0), s0_0, wrap64 ((wrap64 (s0_1 + 1)) + 2))) else (some ((wrap64 ((wrap64 (16 * (mx t126 0))) + (mx t127 0))) % 256, false, s0_0, wrap64 ((wrap64 (s0_1 + 1)) + 2))))) else (none)) else (none))) else (none)) else (none))) else (some (0, false, s0_0, (wrap64 (s0_1 + 1)))))) = some (r1, r2, r3, r4) := by rw [if_neg (show ¬ (false = true) by decide)] at H; exact H); clear H; have H := H1; clear H1
       by_cases c13 : (bt s0_0 s0_1) = 110
       ·rw [if_pos c13] at H; have c13b0 : ((bt s0_0 s0_1) == 110) = true := beq_iff_eq.mpr c13; have c13b1 : ((bt s0_0 s0_1) != 110) = false := bne_eq_false_iff_eq.mpr c13; clear c13; simp only [Option.some.injEq, Prod.mk.injEq] at H; obtain ⟨rfl, rfl, rfl, rfl⟩ := H; go_wp2
        repeat (go_quiet (fail); try go_wp2)
        go_ret2
        exact ⟨er1, by repeat (first | (with_reducible first | exact HI0.out | apply IsS86.alloc | apply IsS86.drewN | apply IsS86.drew | apply IsS86.set_0 | apply IsS86.set_1) | exact HI0.out), by repeat (first | (with_reducible first | exact HB.out | apply below_alloc | apply pw_below_drewN | apply below_drew1 | refine below_set ?_ (IsS86.ge HI0.out)) | exact HB.out), by repeat (first | (with_reducible first | exact HK.out | apply KeepBut.set_ | apply keep_drewN | apply keep_drew | apply keep_alloc) | exact HK.out)⟩
       ·rw [if_neg c13] at H; have c13b0 : ((bt s0_0 s0_1) == 110) = false := beq_eq_false_iff_ne.mpr c13; have c13b1 : ((bt s0_0 s0_1) != 110) = true := bne_iff_ne.mpr c13
        by_cases c14 : (bt s0_0 s0_1) = 120
        ·rw [if_pos c14] at H; have c14b0 : ((bt s0_0 s0_1) == 120) = true := beq_iff_eq.mpr c14; have c14b1 : ((bt s0_0 s0_1) != 120) = false := bne_eq_false_iff_eq.mpr c14; clear c14
         by_cases c15 : (wrap64 ((s0_0.size : Int) - (wrap64 (s0_1 + 1)))) < 2
         ·rw [if_pos c15] at H; have c15b0 : decide ((wrap64 ((s0_0.size : Int) - (wrap64 (s0_1 + 1)))) < 2) = true := decide_eq_true c15; clear c15; simp only [Option.some.injEq, Prod.mk.injEq] at H; obtain ⟨rfl, rfl, rfl, rfl⟩ := H; obtain ⟨HGz16, hgz16⟩ := HI0.out; have hcz16_0 := cellS86_0 HGz16; have hcz16_1 := cellS86_1 HGz16; have hfz16_0 := blk_frozen HGz16 0; have hfz16_1 := blk_frozen HGz16 1; clear HGz16 hgz16; go_wp2
          repeat (go_quiet (fail); try go_wp2)
          go_ret2
          exact ⟨er1, by repeat (first | (with_reducible first | exact HI0.out | apply IsS86.alloc | apply IsS86.drewN | apply IsS86.drew | apply IsS86.set_0 | apply IsS86.set_1) | exact HI0.out), by repeat (first | (with_reducible first | exact HB.out | apply below_alloc | apply pw_below_drewN | apply below_drew1 | refine below_set ?_ (IsS86.ge HI0.out)) | exact HB.out), by repeat (first | (with_reducible first | exact HK.out | apply KeepBut.set_ | apply keep_drewN | apply keep_drew | apply keep_alloc) | exact HK.out)⟩
         ·rw [if_neg c15] at H; have c15b0 : decide ((wrap64 ((s0_0.size : Int) - (wrap64 (s0_1 + 1)))) < 2) = false := decide_eq_false c15; clear c15; obtain ⟨ji17, hji17⟩ : ∃ j_ : Int, (wrap64 (s0_1 + 1)) = j_ := ⟨_, rfl⟩; (replace H : (if 0 ≤ (ji17) then (if (ji17) < (s0_0.size : Int) then ((shell_hex.f kj7 (bt s0_0 (ji17))).bind fun t126 => (if 0 ≤ (wrap64 ((ji17) + 1)) then (if (wrap64 ((ji17) + 1)) < (s0_0.size : Int) then ((shell_hex.f kj7 (bt s0_0 (wrap64 ((ji17) + 1)))).bind fun t127 => (if t126 ≥ 0 then (some ((wrap64 ((wrap64 (16 * (mx t126 0))) + (mx t127 0))) % 256, decide (t127 ≥ 0), s0_0, wrap64 ((ji17) + 2))) else (some ((wrap64 ((wrap64 (16 * (mx t126 0))) + (mx t127 0))) % 256, false, s0_0, wrap64 ((ji17) + 2))))) else (none)) else (none))) else (none)) else (none)) = some (r1, r2, r3, r4) := by first | (rw [hji17] at H; exact H) | (simp only [hji17] at H ⊢; exact H)); (try rw [hji17] at c15b0); have hji17w : (IntKind.i64.wrap (s0_1 + 1)) = ji17 := (i64_w _).trans hji17
          by_cases c18 : 0 ≤ (ji17)
          ·rw [if_pos c18] at H; have c18b0 : decide (0 ≤ (ji17)) = true := decide_eq_true c18; clear c18
           by_cases c19 : (ji17) < (s0_0.size : Int)
           ·rw [if_pos c19] at H; have c19b0 : decide ((ji17) < (s0_0.size : Int)) = true := decide_eq_true c19; clear c19; replace H := Option.bind_eq_some_iff.mp H; obtain ⟨t126, A210, H⟩ := H; replace H : (if 0 ≤ (wrap64 ((ji17) + 1)) then (if (wrap64 ((ji17) + 1)) < (s0_0.size : Int) then ((shell_hex.f kj7 (bt s0_0 (wrap64 ((ji17) + 1)))).bind fun t127 => (if t126 ≥ 0 then (some ((wrap64 ((wrap64 (16 * (mx t126 0))) + (mx t127 0))) % 256, decide (t127 ≥ 0), s0_0, wrap64 ((ji17) + 2))) else (some ((wrap64 ((wrap64 (16 * (mx t126 0))) + (mx t127 0))) % 256, false, s0_0, wrap64 ((ji17) + 2))))) else (none)) else (none)) = some (r1, r2, r3, r4) := H; have A21 := Aside0.mk A210; clear A210; obtain ⟨ji22, hji22⟩ : ∃ j_ : Int, (wrap64 ((ji17) + 1)) = j_ := ⟨_, rfl⟩; (replace H : (if 0 ≤ (ji22) then (if (ji22) < (s0_0.size : Int) then ((shell_hex.f kj7 (bt s0_0 (ji22))).bind fun t127 => (if t126 ≥ 0 then (some ((wrap64 ((wrap64 (16 * (mx t126 0))) + (mx t127 0))) % 256, decide (t127 ≥ 0), s0_0, wrap64 ((ji17) + 2))) else (some ((wrap64 ((wrap64 (16 * (mx t126 0))) + (mx t127 0))) % 256, false, s0_0, wrap64 ((ji17) + 2))))) else (none)) else (none)) = some (r1, r2, r3, r4) := by first | (rw [hji22] at H; exact H) | (simp only [hji22] at H ⊢; exact H)); (try rw [hji22] at A21); have hji22w : (IntKind.i64.wrap ((ji17) + 1)) = ji22 := (i64_w _).trans hji22
            by_cases c23 : 0 ≤ (ji22)
            ·rw [if_pos c23] at H; have c23b0 : decide (0 ≤ (ji22)) = true := decide_eq_true c23; clear c23
             by_cases c24 : (ji22) < (s0_0.size : Int)
             ·rw [if_pos c24] at H; have c24b0 : decide ((ji22) < (s0_0.size : Int)) = true := decide_eq_true c24; clear c24; replace H := Option.bind_eq_some_iff.mp H; obtain ⟨t127, A260, H⟩ := H; replace H : (if t126 ≥ 0 then (some ((wrap64 ((wrap64 (16 * (mx t126 0))) + (mx t127 0))) % 256, decide (t127 ≥ 0), s0_0, wrap64 ((ji17) + 2))) else (some ((wrap64 ((wrap64 (16 * (mx t126 0))) + (mx t127 0))) % 256, false, s0_0, wrap64 ((ji17) + 2)))) = some (r1, r2, r3, r4) := H; have A26 := Aside0.mk A260; clear A260; obtain ⟨ji27, hji27⟩ : ∃ j_ : Int, (mx t126 0) = j_ := ⟨_, rfl⟩; (replace H : (if t126 ≥ 0 then (some ((wrap64 ((wrap64 (16 * (ji27))) + (mx t127 0))) % 256, decide (t127 ≥ 0), s0_0, wrap64 ((ji17) + 2))) else (some ((wrap64 ((wrap64 (16 * (ji27))) + (mx t127 0))) % 256, false, s0_0, wrap64 ((ji17) + 2)))) = some (r1, r2, r3, r4) := by first | (rw [hji27] at H; exact H) | (simp only [hji27] at H ⊢; exact H)); (try rw [hji27] at A21); (try rw [hji27] at A26); ((try (have hji27l : 0 ≤ ji27 := by (rw [← hji27]; unfold mx; (repeat' split) <;> omega)))); (try (have hji27m : 0 ≤ ji27 := by omega)); have hji27_ : (if t126 < 0 then 0 else t126) = ji27 := hji27; obtain ⟨ji28, hji28⟩ : ∃ j_ : Int, (mx t127 0) = j_ := ⟨_, rfl⟩; (replace H : (if t126 ≥ 0 then (some ((wrap64 ((wrap64 (16 * (ji27))) + (ji28))) % 256, decide (t127 ≥ 0), s0_0, wrap64 ((ji17) + 2))) else (some ((wrap64 ((wrap64 (16 * (ji27))) + (ji28))) % 256, false, s0_0, wrap64 ((ji17) + 2)))) = some (r1, r2, r3, r4) := by first | (rw [hji28] at H; exact H) | (simp only [hji28] at H ⊢; exact H)); (try rw [hji28] at A21); (try rw [hji28] at A26); ((try (have hji28l : 0 ≤ ji28 := by (rw [← hji28]; unfold mx; (repeat' split) <;> omega)))); (try (have hji28m : 0 ≤ ji28 := by omega)); have hji28_ : (if t127 < 0 then 0 else t127) = ji28 := hji28
              by_cases c29 : t126 ≥ 0
              ·rw [if_pos c29] at H; have c29b0 : decide (0 ≤ t126) = true := decide_eq_true c29; clear c29; simp only [Option.some.injEq, Prod.mk.injEq] at H; obtain ⟨rfl, rfl, rfl, rfl⟩ := H; obtain ⟨HGz30, hgz30⟩ := HI0.out; have hcz30_0 := cellS86_0 HGz30; have hcz30_1 := cellS86_1 HGz30; have hfz30_0 := blk_frozen HGz30 0; have hfz30_1 := blk_frozen HGz30 1; clear HGz30 hgz30; have p20 : 0 ≤ ((ji17) : Int) := of1; have q20 : (ji17) < (s0_0.size : Int) := of1; have hx20 := bt_at s0_0 (ji17); replace p20 := eq_true p20; replace q20 := eq_true q20
               go_wp2_with (first | (go_at_call 80; (with_reducible refine (shell_hex.calls kj7 (bt s0_0 (ji17)) t126 _ A21.out).mono ?_); rintro e w' ⟨rfl, ⟨nd, rfl⟩⟩; (try first | exact ⟨rfl, _, World.drewN_drewN _ _ _⟩ | exact ⟨rfl, _, Eq.trans (World.drewN_drewN _ _ _) (congrArg (World.drewN _) (Nat.add_assoc _ _ _))⟩); have p25 : 0 ≤ ((ji22) : Int) := of1; have q25 : (ji22) < (s0_0.size : Int) := of1; have hx25 := bt_at s0_0 (ji22); replace p25 := eq_true p25; replace q25 := eq_true q25) | (go_at_call 80; (with_reducible refine (shell_hex.calls kj7 (bt s0_0 (ji22)) t127 _ A26.out).mono ?_); rintro e w' ⟨rfl, ⟨nd, rfl⟩⟩; (try first | exact ⟨rfl, _, World.drewN_drewN _ _ _⟩ | exact ⟨rfl, _, Eq.trans (World.drewN_drewN _ _ _) (congrArg (World.drewN _) (Nat.add_assoc _ _ _))⟩)))
               repeat (go_quiet (first | (go_at_call 80; (with_reducible refine (shell_hex.calls kj7 (bt s0_0 (ji17)) t126 _ A21.out).mono ?_); rintro e w' ⟨rfl, ⟨nd, rfl⟩⟩; (try first | exact ⟨rfl, _, World.drewN_drewN _ _ _⟩ | exact ⟨rfl, _, Eq.trans (World.drewN_drewN _ _ _) (congrArg (World.drewN _) (Nat.add_assoc _ _ _))⟩); have p25 : 0 ≤ ((ji22) : Int) := of1; have q25 : (ji22) < (s0_0.size : Int) := of1; have hx25 := bt_at s0_0 (ji22); replace p25 := eq_true p25; replace q25 := eq_true q25) | (go_at_call 80; (with_reducible refine (shell_hex.calls kj7 (bt s0_0 (ji22)) t127 _ A26.out).mono ?_); rintro e w' ⟨rfl, ⟨nd, rfl⟩⟩; (try first | exact ⟨rfl, _, World.drewN_drewN _ _ _⟩ | exact ⟨rfl, _, Eq.trans (World.drewN_drewN _ _ _) (congrArg (World.drewN _) (Nat.add_assoc _ _ _))⟩))); try go_wp2_with (first | (go_at_call 80; (with_reducible refine (shell_hex.calls kj7 (bt s0_0 (ji17)) t126 _ A21.out).mono ?_); rintro e w' ⟨rfl, ⟨nd, rfl⟩⟩; (try first | exact ⟨rfl, _, World.drewN_drewN _ _ _⟩ | exact ⟨rfl, _, Eq.trans (World.drewN_drewN _ _ _) (congrArg (World.drewN _) (Nat.add_assoc _ _ _))⟩); have p25 : 0 ≤ ((ji22) : Int) := of1; have q25 : (ji22) < (s0_0.size : Int) := of1; have hx25 := bt_at s0_0 (ji22); replace p25 := eq_true p25; replace q25 := eq_true q25) | (go_at_call 80; (with_reducible refine (shell_hex.calls kj7 (bt s0_0 (ji22)) t127 _ A26.out).mono ?_); rintro e w' ⟨rfl, ⟨nd, rfl⟩⟩; (try first | exact ⟨rfl, _, World.drewN_drewN _ _ _⟩ | exact ⟨rfl, _, Eq.trans (World.drewN_drewN _ _ _) (congrArg (World.drewN _) (Nat.add_assoc _ _ _))⟩))))
               go_ret2
               exact ⟨by first | rfl | (simp [errW_none, errW_some] <;> rfl) | (simp only [← hji17, ← hji22, ← hji27, ← hji28]; first | rfl | (simp [errW_none, errW_some] <;> rfl)) | (simp [*, errW_none, errW_some] <;> rfl), by repeat (first | (with_reducible first | exact HI0.out | apply IsS86.alloc | apply IsS86.drewN | apply IsS86.drew | apply IsS86.set_0 | apply IsS86.set_1) | exact HI0.out), by repeat (first | (with_reducible first | exact HB.out | apply below_alloc | apply pw_below_drewN | apply below_drew1 | refine below_set ?_ (IsS86.ge HI0.out)) | exact HB.out), by repeat (first | (with_reducible first | exact HK.out | apply KeepBut.set_ | apply keep_drewN | apply keep_drew | apply keep_alloc) | exact HK.out)⟩
              ·rw [if_neg c29] at H; have c29b0 : decide (0 ≤ t126) = false := decide_eq_false c29; clear c29; simp only [Option.some.injEq, Prod.mk.injEq] at H; obtain ⟨rfl, rfl, rfl, rfl⟩ := H; obtain ⟨HGz31, hgz31⟩ := HI0.out; have hcz31_0 := cellS86_0 HGz31; have hcz31_1 := cellS86_1 HGz31; have hfz31_0 := blk_frozen HGz31 0; have hfz31_1 := blk_frozen HGz31 1; clear HGz31 hgz31; have p20 : 0 ≤ ((ji17) : Int) := of1; have q20 : (ji17) < (s0_0.size : Int) := of1; have hx20 := bt_at s0_0 (ji17); replace p20 := eq_true p20; replace q20 := eq_true q20
               go_wp2_with (first | (go_at_call 80; (with_reducible refine (shell_hex.calls kj7 (bt s0_0 (ji17)) t126 _ A21.out).mono ?_); rintro e w' ⟨rfl, ⟨nd, rfl⟩⟩; (try first | exact ⟨rfl, _, World.drewN_drewN _ _ _⟩ | exact ⟨rfl, _, Eq.trans (World.drewN_drewN _ _ _) (congrArg (World.drewN _) (Nat.add_assoc _ _ _))⟩); have p25 : 0 ≤ ((ji22) : Int) := of1; have q25 : (ji22) < (s0_0.size : Int) := of1; have hx25 := bt_at s0_0 (ji22); replace p25 := eq_true p25; replace q25 := eq_true q25) | (go_at_call 80; (with_reducible refine (shell_hex.calls kj7 (bt s0_0 (ji22)) t127 _ A26.out).mono ?_); rintro e w' ⟨rfl, ⟨nd, rfl⟩⟩; (try first | exact ⟨rfl, _, World.drewN_drewN _ _ _⟩ | exact ⟨rfl, _, Eq.trans (World.drewN_drewN _ _ _) (congrArg (World.drewN _) (Nat.add_assoc _ _ _))⟩)))
               repeat (go_quiet (first | (go_at_call 80; (with_reducible refine (shell_hex.calls kj7 (bt s0_0 (ji17)) t126 _ A21.out).mono ?_); rintro e w' ⟨rfl, ⟨nd, rfl⟩⟩; (try first | exact ⟨rfl, _, World.drewN_drewN _ _ _⟩ | exact ⟨rfl, _, Eq.trans (World.drewN_drewN _ _ _) (congrArg (World.drewN _) (Nat.add_assoc _ _ _))⟩); have p25 : 0 ≤ ((ji22) : Int) := of1; have q25 : (ji22) < (s0_0.size : Int) := of1; have hx25 := bt_at s0_0 (ji22); replace p25 := eq_true p25; replace q25 := eq_true q25) | (go_at_call 80; (with_reducible refine (shell_hex.calls kj7 (bt s0_0 (ji22)) t127 _ A26.out).mono ?_); rintro e w' ⟨rfl, ⟨nd, rfl⟩⟩; (try first | exact ⟨rfl, _, World.drewN_drewN _ _ _⟩ | exact ⟨rfl, _, Eq.trans (World.drewN_drewN _ _ _) (congrArg (World.drewN _) (Nat.add_assoc _ _ _))⟩))); try go_wp2_with (first | (go_at_call 80; (with_reducible refine (shell_hex.calls kj7 (bt s0_0 (ji17)) t126 _ A21.out).mono ?_); rintro e w' ⟨rfl, ⟨nd, rfl⟩⟩; (try first | exact ⟨rfl, _, World.drewN_drewN _ _ _⟩ | exact ⟨rfl, _, Eq.trans (World.drewN_drewN _ _ _) (congrArg (World.drewN _) (Nat.add_assoc _ _ _))⟩); have p25 : 0 ≤ ((ji22) : Int) := of1; have q25 : (ji22) < (s0_0.size : Int) := of1; have hx25 := bt_at s0_0 (ji22); replace p25 := eq_true p25; replace q25 := eq_true q25) | (go_at_call 80; (with_reducible refine (shell_hex.calls kj7 (bt s0_0 (ji22)) t127 _ A26.out).mono ?_); rintro e w' ⟨rfl, ⟨nd, rfl⟩⟩; (try first | exact ⟨rfl, _, World.drewN_drewN _ _ _⟩ | exact ⟨rfl, _, Eq.trans (World.drewN_drewN _ _ _) (congrArg (World.drewN _) (Nat.add_assoc _ _ _))⟩))))
               go_ret2
               exact ⟨by first | rfl | (simp [errW_none, errW_some] <;> rfl) | (simp only [← hji17, ← hji22, ← hji27, ← hji28]; first | rfl | (simp [errW_none, errW_some] <;> rfl)) | (simp [*, errW_none, errW_some] <;> rfl), by repeat (first | (with_reducible first | exact HI0.out | apply IsS86.alloc | apply IsS86.drewN | apply IsS86.drew | apply IsS86.set_0 | apply IsS86.set_1) | exact HI0.out), by repeat (first | (with_reducible first | exact HB.out | apply below_alloc | apply pw_below_drewN | apply below_drew1 | refine below_set ?_ (IsS86.ge HI0.out)) | exact HB.out), by repeat (first | (with_reducible first | exact HK.out | apply KeepBut.set_ | apply keep_drewN | apply keep_drew | apply keep_alloc) | exact HK.out)⟩
             ·rw [if_neg c24] at H; exact absurd H (by simp)
            ·rw [if_neg c23] at H; exact absurd H (by simp)
           ·rw [if_neg c19] at H; exact absurd H (by simp)
          ·rw [if_neg c18] at H; exact absurd H (by simp)
        ·rw [if_neg c14] at H; have c14b0 : ((bt s0_0 s0_1) == 120) = false := beq_eq_false_iff_ne.mpr c14; have c14b1 : ((bt s0_0 s0_1) != 120) = true := bne_iff_ne.mpr c14; simp only [Option.some.injEq, Prod.mk.injEq] at H; obtain ⟨rfl, rfl, rfl, rfl⟩ := H; go_wp2
         repeat (go_quiet (fail); try go_wp2)
         go_ret2
         exact ⟨er1, by repeat (first | (with_reducible first | exact HI0.out | apply IsS86.alloc | apply IsS86.drewN | apply IsS86.drew | apply IsS86.set_0 | apply IsS86.set_1) | exact HI0.out), by repeat (first | (with_reducible first | exact HB.out | apply below_alloc | apply pw_below_drewN | apply below_drew1 | refine below_set ?_ (IsS86.ge HI0.out)) | exact HB.out), by repeat (first | (with_reducible first | exact HK.out | apply KeepBut.set_ | apply keep_drewN | apply keep_drew | apply keep_alloc) | exact HK.out)⟩
   ·rw [if_neg c6] at H; exact absurd H (by simp)
  ·rw [if_neg c5] at H; exact absurd H (by simp)
end Go.Proofs.YtenigkhfldafaaaDoor.A

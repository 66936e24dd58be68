import Derived.Test.YtenigkhfldafaaaDoorA0
import Derived.Test.YtenigkhfldafaaaDoorAH
import Derived.Test.YtenigkhfldafaaaDoorA19
import Derived.Test.YtenigkhfldafaaaDoorZ
namespace Go.Proofs.YtenigkhfldafaaaDoor.A
open Go.RowKit Go.Proofs.YtenigkhfldafaaaDoorW.PrintWords Go.Proofs.YtenigkhfldafaaaDoorW.PrintLast Go.Proofs.YtenigkhfldafaaaDoorW.PrintMore
attribute [local go_sem] max2_int min2_int max_two min_two max_three min_three max_four min_four
set_option linter.unusedVariables false
set_option linter.unusedSimpArgs false
set_option maxRecDepth 100000 in
def grapnellaw21_few.l0 : Nat → List (S31) → List (S31) → Int → Option ((List (S31)))
 | 0, _, _, _ => none
 | k + 1, x0, x3, x4 => if x4 < (x0.length : Int) then (if x4 < 60 then (if 0 ≤ x4 then ((grapnellaw21_short.f k ((rd_T31 x0 x4).f0) ((rd_T31 x0 x4).f1) ((rd_T31 x0 x4).f2) ((rd_T31 x0 x4).f3) ((rd_T31 x0 x4).f4) ((rd_T31 x0 x4).f5) ((rd_T31 x0 x4).f6) ((rd_T31 x0 x4).f7)).bind fun bt484 => (if x3.length < 1353245080339 then (grapnellaw21_few.l0 k x0 (x3 ++ [(⟨bt484.1, bt484.2.1, bt484.2.2.1, bt484.2.2.2.1, bt484.2.2.2.2.1, bt484.2.2.2.2.2.1, bt484.2.2.2.2.2.2.1, bt484.2.2.2.2.2.2.2⟩ : S31)]) (wrap64 (x4 + 1))) else (none))) else (none)) else (some x3)) else (some x3)
def grapnellaw21_few.f (k : Nat) (l0 : List (S31)) : Option ((List (S31))) := grapnellaw21_few.l0 k l0 ([] : List (S31)) 0
set_option maxRecDepth 100000 in
theorem grapnellaw21_few.mono_l : ∀ k, (∀ y0 y1 y2, LeO (grapnellaw21_few.l0 k y0 y1 y2) (grapnellaw21_few.l0 (k + 1) y0 y1 y2))
 | 0 => fun _ _ _ r h => absurd (show (none : Option _) = some r from h) (by simp)
 | k + 1 => by
  have ih0 := grapnellaw21_few.mono_l k
  ·intro y0 y1 y2; unfold grapnellaw21_few.l0
   repeat' first
   | (with_reducible exact ih0 _ _ _)
   | (with_reducible exact grapnellaw21_short.mono _ _ _ _ _ _ _ _ _)
   | (with_reducible exact LeO.refl _)
   | (with_reducible exact LeO.none _)
   | (with_reducible refine LeO.ite ?_ ?_)
   | (with_reducible refine LeO.bind ?_ (fun _ => ?_))
   | exact ih0 _ _ _
   | exact grapnellaw21_short.mono _ _ _ _ _ _ _ _ _
   | exact LeO.none _
   | refine LeO.ite ?_ ?_
   | refine LeO.bind ?_ (fun _ => ?_)
set_option maxRecDepth 100000 in
theorem grapnellaw21_few.mono : ∀ a0 k, LeO (grapnellaw21_few.f k a0) (grapnellaw21_few.f (k + 1) a0) := by
 intro a0 k; have ih0 := grapnellaw21_few.mono_l k; unfold grapnellaw21_few.f
 repeat' first
   | (with_reducible exact ih0 _ _ _)
   | (with_reducible exact grapnellaw21_short.mono _ _ _ _ _ _ _ _ _)
   | (with_reducible exact LeO.refl _)
   | (with_reducible exact LeO.none _)
   | (with_reducible refine LeO.ite ?_ ?_)
   | (with_reducible refine LeO.bind ?_ (fun _ => ?_))
   | exact ih0 _ _ _
   | exact grapnellaw21_short.mono _ _ _ _ _ _ _ _ _
   | exact LeO.none _
   | refine LeO.ite ?_ ?_
   | refine LeO.bind ?_ (fun _ => ?_)
set_option maxHeartbeats 8000000 in
set_option maxRecDepth 100000 in
theorem grapnellaw21_few.calls (k : Nat) (P0_ : Nat → Prop) (A0 : Option Addr) (c0 : Nat) (l0 : List (S31)) (r : List (S31)) (w : World) (hs0 : Kd.V k31 31 w w.heap.size (fun k_ => P0_ k_) (.slice A0 l0.length c0) l0) (h : grapnellaw21_few.f k l0 = some r) :
  Calls Tryd.prog 20 #[.slice A0 l0.length c0] w fun e w' => ∃ v0_ : Value, e = .returned (v0_) ∧ Kd.N k31 31 w' w.heap.size (fun k_ => (P0_ k_ ∨ w.heap.size ≤ k_)) v0_ r ∧ Below w.heap.size w w' := by
 have hu31 := Tryd.underlying31; have HO0 := Aside0.mk (show Kd.V k31 31 w w.heap.size (fun k_ => (P0_ k_ ∨ w.heap.size ≤ k_)) (.slice A0 l0.length c0) l0 from Kd.V_mono hs0 (fun k_ hk => .inl hk)); have HB := Aside0.mk (Below.refl w.heap.size w); have H : (grapnellaw21_few.l0 k l0 ([] : List (S31)) 0) = some r := h; clear h; have H' := Aside0.mk H; clear H; go_enter Tryd.func20, Tryd.ntmps20; go_wp2
 go_loopg [3, 4] k (fun kq v3 v4 w' => ∃ (x3_1 : List (S31)) (x4_1 : Int), v4 = .int .i64 x4_1 ∧ Aside0 (grapnellaw21_few.l0 kq l0 x3_1 x4_1 = some r) ∧ Aside0 (kq ≤ k) ∧ Aside0 (Kd.V k31 31 w' w.heap.size (fun k_ => (P0_ k_ ∨ w.heap.size ≤ k_) ∧ some k_ ≠ (v3 : Value).ownBlock) (.slice A0 l0.length c0) l0) ∧ Aside0 (Kd.N k31 31 w' w.heap.size (fun k_ => (P0_ k_ ∨ w.heap.size ≤ k_)) v3 x3_1) ∧ Aside0 (Below w.heap.size w w'))
 case atStart => exact ⟨(([] : List (S31))), (0), (by first | rfl | (simp; done) | (simp [*]; done)), H', ⟨Nat.le_refl _⟩, ⟨by (with_reducible repeat (first | apply Kd.V_alloc | apply Kd.V_drewN | apply Kd.V_drew)); exact Kd.V_mono HO0.out (fun _ hk => ⟨hk, (by simp [Value.ownBlock])⟩)⟩, ⟨by first | exact Kd.S_nil _ _ _ _ _ | exact Kd.N_nil _ _ _ _ _ | exact Kd.V_nil _ _ _ _ _ | exact Kd.Q_nil _ _ _ _ _ | exact Kd.R_nil _ _ _ _ _⟩, ⟨by repeat (first | (with_reducible first | exact HB.out | apply below_alloc | apply pw_below_drewN | apply below_drew1) | exact HB.out)⟩⟩
 case round =>
  clear H'; obtain ⟨x3_1, x4_1, rfl, HA, HK1, HO_0, HO_3, HB⟩ := hrel
  cases gk with
  | zero => exact absurd (show (none : Option ((List (S31)))) = some r from HA.out) (fun h_ => nomatch h_)
  | succ k1 =>
   have H := HA.out; clear HA; simp only [grapnellaw21_few.l0] at H
   by_cases c2 : x4_1 < (l0.length : Int)
   ·rw [if_pos c2] at H; have c2b0 : decide (x4_1 < (l0.length : Int)) = true := decide_eq_true c2; clear c2
    by_cases c3 : x4_1 < 60
    ·rw [if_pos c3] at H; have c3b0 : decide (x4_1 < 60) = true := decide_eq_true c3; clear c3
     by_cases c4 : 0 ≤ x4_1
     ·rw [if_pos c4] at H; have c4b0 : decide (0 ≤ x4_1) = true := decide_eq_true c4; clear c4; replace H := Option.bind_eq_some_iff.mp H; obtain ⟨⟨t484, t485, t486, t487, t488, t489, t490, t491⟩, A50, H⟩ := H; replace H : (if x3_1.length < 1353245080339 then (grapnellaw21_few.l0 k1 l0 (x3_1 ++ [(⟨t484, t485, t486, t487, t488, t489, t490, t491⟩ : S31)]) (wrap64 (x4_1 + 1))) else (none)) = some r := H; have A5 := Aside0.mk A50; clear A50
      by_cases c6 : x3_1.length < 1353245080339
      ·rw [if_pos c6] at H; have LMc6 := Aside0.mk c6; clear c6; obtain ⟨y494, hy494⟩ : ∃ y_ : List (S31), y_ = (x3_1 ++ [(⟨t484, t485, t486, t487, t488, t489, t490, t491⟩ : S31)]) := ⟨_, rfl⟩; (replace H : (grapnellaw21_few.l0 k1 l0 y494 (wrap64 (x4_1 + 1))) = some r := by first | (rw [hy494]; with_reducible exact H) | (have H2_ := (Option.bind_some _ _).symm.trans H; rw [hy494]; with_reducible exact H2_) | (have H2_ := (Option.bind_some _ _).symm.trans H; with_reducible exact H2_) | with_reducible exact H | (rw [hy494]; exact H) | exact H); have Ny494 := Aside0.mk hy494; clear hy494; have H' := Aside0.mk H; clear H; have p483 : 0 ≤ (x4_1 : Int) := of1; have q483 : x4_1 < (l0.length : Int) := of1; obtain ⟨ad483, A483_7, c483_7, e483, hx483_0, hx483_1, hx483_2, hx483_3, hx483_4, hx483_5, hx483_6, hx483_7, hl483_7, hi483_7⟩ := at_T31 (Kd.V_reads' HO_0.out).2.2 x4_1 p483 q483; cases e483; obtain ⟨ce483, hce483, hMe483, hcc483⟩ := Kd.V_get HO_0.out z31 x4_1 p483 (by first | exact q483 | exact of1 | (have e_ := (Kd.V_reads' HO_0.out).1; omega)); obtain ⟨ua483_7, uc483_7, rfl, ul483_7, ge483_7⟩ := k31_openF hMe483; have hv483_7 := hcc483 7 _ rfl; rw [add_field _ _ 7 (by omega)] at hv483_7; replace hv483_7 := Option.some.inj (hv483_7.symm.trans hx483_7)
       injection hv483_7 with hva_ hvn_ hvc_
       rw [hva_] at ge483_7; rw [hvc_] at ul483_7; have HL483_7 := Aside0.mk (show Kd.V Kd.bool 4 _ w.heap.size _ _ ((rd_T31 l0 x4_1).f7) from Kd.V_mk ul483_7 ge483_7); clear hva_ hvn_ hvc_ ge483_7 ul483_7; clear hcc483 hce483; have HR483_7 := Aside0.mk hi483_7; have HC483_7 := Aside0.mk hl483_7; clear hi483_7 hl483_7; replace p483 := eq_true p483; replace q483 := eq_true q483
       go_wp2_with (first | ((with_reducible refine gate_callee (f := 17) rfl ?_); refine goesL_ (some 20) rfl rfl Tryd.func17 (by kernel_rfl) rfl #[.agg #[.int .i64 ((rd_T31 l0 x4_1).f0), .int .i64 ((rd_T31 l0 x4_1).f1), .int .i64 ((rd_T31 l0 x4_1).f2), .int .i64 ((rd_T31 l0 x4_1).f3), .string ((rd_T31 l0 x4_1).f4), .string ((rd_T31 l0 x4_1).f5), .string ((rd_T31 l0 x4_1).f6), .slice A483_7 ((rd_T31 l0 x4_1).f7).length c483_7]] rfl mt ?_; (with_reducible refine (grapnellaw21_short.calls k1 ((rd_T31 l0 x4_1).f0) ((rd_T31 l0 x4_1).f1) ((rd_T31 l0 x4_1).f2) ((rd_T31 l0 x4_1).f3) ((rd_T31 l0 x4_1).f4) ((rd_T31 l0 x4_1).f5) ((rd_T31 l0 x4_1).f6) (fun k_ => ((P0_ k_ ∨ w.heap.size ≤ k_) ∧ some k_ ≠ (u3 : Value).ownBlock)) _ _ ((rd_T31 l0 x4_1).f7) t484 t485 t486 t487 t488 t489 t490 t491 _ ?side1 A5.out).mono ?_); (case side1 => exact HL483_7.out); rintro e w7 ⟨v492, rfl, ho0, hb⟩; refine ⟨_, rfl, ?_⟩; have n0_ := Aside0.mk (Kd.V_below (by (with_reducible repeat (first | apply Kd.V_alloc | apply Kd.V_drewN | apply Kd.V_drew)); exact HO_0.out) hb); have n1_ := Aside0.mk (Kd.N_below (by (with_reducible repeat (first | apply Kd.N_alloc | apply Kd.N_drewN | apply Kd.N_drew)); exact HO_3.out) hb); have n2_ := Aside0.mk (Kd.V_below (by (with_reducible repeat (first | apply Kd.V_alloc | apply Kd.V_drewN | apply Kd.V_drew)); exact HL483_7.out) hb); have n3_ := Aside0.mk (Kd.V_lower (Kd.V_mono (ok' := fun k_ => (P0_ k_ ∨ w.heap.size ≤ k_) ∧ some k_ ≠ (u3 : Value).ownBlock) ho0 (fun k_ hk_ => ⟨Or.elim hk_ (fun hs_ => hs_.1) (fun hn_ => (.inr (Nat.le_trans (below_size hb1) hn_))), Or.elim hk_ (fun hs_ => hs_.2) (fun hn_ => (Kd.fresh' (Kd.N_lt (by (with_reducible repeat (first | apply Kd.N_alloc | apply Kd.N_drewN | apply Kd.N_drew)); exact HO_3.out)) k_ hn_))⟩)) (below_size hb1)); have n4_ := Aside0.mk (Kd.C_below (by repeat (first | (with_reducible exact HR483_7.out) | (with_reducible refine Kd.C_alloc ?_ _) | (with_reducible refine Kd.C_drewN ?_ _) | (with_reducible refine Kd.C_drew ?_) | exact HR483_7.out)) hb); have n5_ := Aside0.mk (below_step hb1 hb); clear HO_0; clear HO_3; clear HL483_7; clear HR483_7; clear HB; have HO_0 := n0_; have HO_3 := n1_; have HL483_7 := n2_; have HO493 := n3_; have HR483_7 := n4_; have HB := n5_; clear n0_ n1_ n2_ n3_ n4_ n5_; (try clear hb); (try clear hb2); (try clear hk); (try clear hi); (try clear ho0); obtain ⟨Ao9, co9, eo9⟩ := Kd.V_slice HO493.out; subst eo9) | ((with_reducible refine gate_builtin (b := .append) (xs := #[.tmp 15, .tmp 21]) rfl ?_); at_builtin; refine Kd.N_append k31 (w0 := w) w.heap.size rfl (.tmp 15) (.tmp 21) 25 31 (.agg #[(.int .i64 0), (.int .i64 0), (.int .i64 0), (.int .i64 0), (.string ⟨#[]⟩), (.string ⟨#[]⟩), (.string ⟨#[]⟩), (.slice none 0 0)]) 104 rfl Tryd.underlying25 info31 rfl (by decide) (by omega) u3 x3_1 (⟨t484, t485, t486, t487, t488, t489, t490, t491⟩ : S31) [.int .i64 t484, .int .i64 t485, .int .i64 t486, .int .i64 t487, .string t488, .string t489, .string t490, .slice Ao9 t491.length co9] (fun k_ => (P0_ k_ ∨ w.heap.size ≤ k_)) (fun k_ => ((fun k_ => (P0_ k_ ∨ w.heap.size ≤ k_))) k_ ∧ some k_ ≠ (u3 : Value).ownBlock) rfl rfl ?aP (fun _ hk => hk) ?aF ?aO ?aB ?aS ?aL ?_; (case aP => exact (k31_mkF _ _ (⟨t484, t485, t486, t487, t488, t489, t490, t491⟩ : S31) (Kd.V_reads' (Kd.V_mono (ok' := (fun k_ => ((fun k_ => (P0_ k_ ∨ w.heap.size ≤ k_))) k_ ∧ some k_ ≠ (u3 : Value).ownBlock)) (HO493.out) (fun k_ hk => ⟨hk.1, hk.2⟩))).2.1 (Kd.V_F (Kd.V_mono (ok' := (fun k_ => ((fun k_ => (P0_ k_ ∨ w.heap.size ≤ k_))) k_ ∧ some k_ ≠ (u3 : Value).ownBlock)) (HO493.out) (fun k_ hk => ⟨hk.1, hk.2⟩))))); (case aB => exact hb1); (case aF => exact (fun k_ hk => (.inr (Nat.le_trans (below_size hb1) hk)))); (case aO => exact (by (with_reducible repeat (first | apply Kd.N_alloc | apply Kd.N_drewN | apply Kd.N_drew)); exact HO_3.out)); (case aS => exact (below_size hb1)); (case aL => have := LMc6.out; omega); intro v495 w8 ho hb hg hat; rw [← Ny494.out] at ho; have n0_ := Aside0.mk (Kd.V_afterv (ok := (fun k_ => (P0_ k_ ∨ w.heap.size ≤ k_))) (by (with_reducible repeat (first | apply Kd.V_alloc | apply Kd.V_drewN | apply Kd.V_drew)); exact HO_0.out) hg hat); have n1_ := Aside0.mk (Kd.V_afterv (ok := (fun k_ => (P0_ k_ ∨ w.heap.size ≤ k_))) (by (with_reducible repeat (first | apply Kd.V_alloc | apply Kd.V_drewN | apply Kd.V_drew)); exact HL483_7.out) hg hat); have n2_ := Aside0.mk (Kd.V_afterv (ok := (fun k_ => (P0_ k_ ∨ w.heap.size ≤ k_))) (by (with_reducible repeat (first | apply Kd.V_alloc | apply Kd.V_drewN | apply Kd.V_drew)); exact HO493.out) hg hat); have n3_ := Aside0.mk (hb); have n4_ := Aside0.mk (ho); clear HO_0; clear HL483_7; clear HO493; clear HB; clear HO_3; have HO_0 := n0_; have HL483_7 := n1_; have HO493 := n2_; have HB := n3_; have HO496 := n4_; clear n0_ n1_ n2_ n3_ n4_; clear ho hb hg hat))
       go_roundg k1
       case measure => have := HK1.out; omega
       case rel => exact ⟨(y494), (wrap64 (x4_1 + 1)), (by first | rfl | (simp; done) | (simp [*]; done)), H', ⟨by have := HK1.out; omega⟩, ⟨by (with_reducible repeat (first | apply Kd.V_alloc | apply Kd.V_drewN | apply Kd.V_drew)); exact HO_0.out⟩, ⟨by (with_reducible repeat (first | apply Kd.N_alloc | apply Kd.N_drewN | apply Kd.N_drew)); exact HO496.out⟩, ⟨by repeat (first | (with_reducible first | exact HB.out | apply below_alloc | apply pw_below_drewN | apply below_drew1) | exact HB.out)⟩⟩
      ·rw [if_neg c6] at H; exact absurd H (by simp)
     ·rw [if_neg c4] at H; exact absurd H (by simp)
    ·rw [if_neg c3] at H; have c3b0 : decide (x4_1 < 60) = false := decide_eq_false c3; clear c3; obtain rfl := Option.some.inj H; go_wp2; go_ret; exact ⟨_, er1, by (with_reducible repeat (first | apply Kd.N_alloc | apply Kd.N_drewN | apply Kd.N_drew)); exact HO_3.out, by repeat (first | (with_reducible first | exact HB.out | apply below_alloc | apply pw_below_drewN | apply below_drew1) | exact HB.out)⟩
   ·rw [if_neg c2] at H; have c2b0 : decide (x4_1 < (l0.length : Int)) = false := decide_eq_false c2; clear c2; obtain rfl := Option.some.inj H; go_wp2; go_ret; exact ⟨_, er1, by (with_reducible repeat (first | apply Kd.N_alloc | apply Kd.N_drewN | apply Kd.N_drew)); exact HO_3.out, by repeat (first | (with_reducible first | exact HB.out | apply below_alloc | apply pw_below_drewN | apply below_drew1) | exact HB.out)⟩
end Go.Proofs.YtenigkhfldafaaaDoor.A

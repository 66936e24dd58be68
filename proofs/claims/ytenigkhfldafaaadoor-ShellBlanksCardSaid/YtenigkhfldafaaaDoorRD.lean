/- Steps without what they do not need; what was read is the step without that. -/
import Derived.Test.YtenigkhfldafaaaDoorR9
import Derived.Test.YtenigkhfldafaaaDoorRS
import Derived.Test.YtenigkhfldafaaaDoorA23
namespace Go.Proofs.YtenigkhfldafaaaDoor.A
open Go.RowKit Go.Proofs.YtenigkhfldafaaaDoorW.PrintWords
set_option maxRecDepth 100000
theorem upc_all : ∀ n : Fin 25, (match shell_command.f ((n.val : Int) + 1) with
  | some b => (rdOf ByteArray.empty ((grapnelref21_Needs.f).getD []) (n.val : Int)).toList == b.2.toList.map (· - 32)
  | none => false) = true ∧ ((grapnelref21_Needs.f).getD []).length = 25 := by decide +kernel
theorem clean_l (a : S31) (nd : ByteArray) (hz : nd.size ≤ 100) : ∀ (cs : List UInt8) (i : Nat) (p : S31), nd.toList.drop i = cs.map (· - 32) → (∀ c ∈ cs, c ∈ letters) → i ≤ nd.size →
  Ev (fun k => grapnelref21_Clean.l0 k nd (i : Int) a.f0 a.f1 a.f2 a.f3 a.f4 a.f5 a.f6 a.f7 p.f0 p.f1 p.f2 p.f3 p.f4 p.f5 p.f6 p.f7) (tup (putL a cs p))
 | [], i, p, hd, _, _ => by
  have hn := at_nil (s := nd) hd
  exact Ev.step (fun k => grapnelref21_Clean.l0.eq_2 ..) (Ev.ifn (by omega) (Ev.now _))
 | c :: cs, i, p, hd, hc, hi => by
  obtain ⟨hn, hb, hr, hz2⟩ := at_cons (r := cs.map (· - 32)) hd
  have e1 := w1 (n := i) (by omega)
  have ih := clean_l a nd hz cs (i + 1) (put a p c) hr (fun d hd => hc d (List.mem_cons_of_mem _ hd)) (by omega)
  refine Ev.step (fun k => grapnelref21_Clean.l0.eq_2 ..) (Ev.ifp (by omega) (Ev.ifp (by omega) ?_))
  rcases letters_cases (hc c (List.mem_cons_self ..)) with rfl | rfl | rfl | rfl | rfl | rfl | rfl
  ·exact Ev.ifp (by rw [hb]; decide) (by simp only [e1]; exact ih)
  ·exact Ev.ifn (by rw [hb]; decide) (Ev.ifp (by rw [hb]; decide) (by simp only [e1]; exact ih))
  ·exact Ev.ifn (by rw [hb]; decide) (Ev.ifn (by rw [hb]; decide) (Ev.ifp (by rw [hb]; decide) (by simp only [e1]; exact ih)))
  ·exact Ev.ifn (by rw [hb]; decide) (Ev.ifn (by rw [hb]; decide) (Ev.ifn (by rw [hb]; decide) (Ev.ifn (by rw [hb]; decide) (Ev.ifn (by rw [hb]; decide) (Ev.ifn (by rw [hb]; decide) (by simp only [e1]; exact ih))))))
  ·exact Ev.ifn (by rw [hb]; decide) (Ev.ifn (by rw [hb]; decide) (Ev.ifn (by rw [hb]; decide) (Ev.ifp (by rw [hb]; decide) (by simp only [e1]; exact ih))))
  ·exact Ev.ifn (by rw [hb]; decide) (Ev.ifn (by rw [hb]; decide) (Ev.ifn (by rw [hb]; decide) (Ev.ifn (by rw [hb]; decide) (Ev.ifp (by rw [hb]; decide) (by simp only [e1]; exact ih)))))
  ·exact Ev.ifn (by rw [hb]; decide) (Ev.ifn (by rw [hb]; decide) (Ev.ifn (by rw [hb]; decide) (Ev.ifn (by rw [hb]; decide) (Ev.ifn (by rw [hb]; decide) (Ev.ifp (by rw [hb]; decide) (by simp only [e1]; exact ih))))))
theorem clean_ev (a : S31) (h1 : 1 ≤ a.f0) (h2 : a.f0 ≤ 25) : Ev (fun k => grapnelref21_Clean.f k a.f0 a.f1 a.f2 a.f3 a.f4 a.f5 a.f6 a.f7) (tup (cleanA a)) := by
 obtain ⟨b, hb⟩ := cmd_tot a.f0
 obtain ⟨n, hn⟩ : ∃ n : Nat, a.f0 = (n : Int) + 1 := ⟨(a.f0 - 1).toNat, by omega⟩
 obtain ⟨hall, l1⟩ := upc_all ⟨n, by omega⟩
 simp only [← hn, hb, beq_iff_eq] at hall
 obtain ⟨g1, _, g3, _⟩ := cmd_ok h1 h2 hb
 have ew : wrap64 (a.f0 - 1) = (n : Int) := by rw [wrap_small (by omega) (by omega)]; omega
 have hnd : (rdOf ByteArray.empty ((grapnelref21_Needs.f).getD []) (n : Int)).size ≤ 100 := by rw [← size_list, hall, List.length_map, size_list]; omega
 have run := clean_l a _ hnd b.2.toList 0 { z31 with f0 := a.f0 } hall g1 (Nat.zero_le _)
 rw [show cleanA a = putL a b.2.toList { z31 with f0 := a.f0 } by unfold cleanA; rw [hb]; rfl]
 refine Ev.ifn (by omega) (Ev.step (fun k => grapnelref21_Clean.j0.eq_2 ..) (Ev.ifn (by simp; omega) (Ev.cb (a := (grapnelref21_Needs.f).getD []) rfl (Ev.ifp (by rw [ew]; omega) (Ev.ifp (by rw [ew, l1]; omega) ?_)))))
 rw [ew]
 exact run
theorem put_f7 (r p : S31) (c : UInt8) (h : p.f7.length ≤ r.f7.length) : (put r p c).f7.length ≤ r.f7.length := by
 unfold put
 repeat' split
 all_goals first | exact h | exact Nat.le_refl _
theorem putL_f7 (r : S31) : ∀ (cs : List UInt8) (p : S31), p.f7.length ≤ r.f7.length → (putL r cs p).f7.length ≤ r.f7.length
 | [], _, h => h
 | c :: cs, p, h => putL_f7 r cs (put r p c) (put_f7 r p c h)
theorem clean_f7 (a : S31) : (cleanA a).f7.length ≤ a.f7.length := by
 unfold cleanA
 split
 ·exact putL_f7 a _ _ (Nat.zero_le _)
 ·exact Nat.le_refl _
theorem same_clean (x0 : List S31) (hs : ∀ a ∈ x0, Sz a) (hok : ∀ a ∈ x0, (lineR a).2 = 0) (i : Nat) (hi : i < x0.length) :
  Ev (fun k => grapnelref21_Clean.f k ((rd_T31 x0 (i : Int)).f0) ((rd_T31 x0 (i : Int)).f1) ((rd_T31 x0 (i : Int)).f2) ((rd_T31 x0 (i : Int)).f3) ((rd_T31 x0 (i : Int)).f4) ((rd_T31 x0 (i : Int)).f5) ((rd_T31 x0 (i : Int)).f6) ((rd_T31 x0 (i : Int)).f7)) (tup (cleanA x0[i])) ∧
  rd_T31 (x0.map cleanA) (i : Int) = cleanA x0[i] ∧ (cleanA x0[i]).f7.length ≤ 1000000 := by
 have hm := List.getElem_mem hi
 obtain ⟨b, hb, h0, _⟩ := lineR_ok (hok _ hm)
 obtain ⟨r1, r2⟩ := cmd_range hb h0
 refine ⟨?_, ?_, Nat.le_trans (clean_f7 _) (Nat.le_trans (hs _ hm).s7 (by decide))⟩
 ·rw [rd31 x0 i hi]
  exact clean_ev _ r1 r2
 ·rw [rd31 _ i (by rw [List.length_map]; exact hi), List.getElem_map]
end Go.Proofs.YtenigkhfldafaaaDoor.A

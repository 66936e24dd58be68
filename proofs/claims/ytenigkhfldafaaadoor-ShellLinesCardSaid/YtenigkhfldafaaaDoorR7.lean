/- The document's line is the program's. -/
import Derived.Test.YtenigkhfldafaaaDoorR5
import Derived.Test.YtenigkhfldafaaaDoorRN
import Derived.Test.YtenigkhfldafaaaDoorA21
namespace Go.Proofs.YtenigkhfldafaaaDoor.A
open Go.RowKit Go.Proofs.YtenigkhfldafaaaDoorW.PrintWords
set_option maxRecDepth 100000
theorem number_ev (n : Int) (h : smallP n) : Ev (fun k => grapnelref21_Number.f k n) (B (Lib.itoa n)) := number_all n (by have := h.1; omega) (by have := h.2; omega)
theorem refkept_l (l : List Bool) (hl : l.length ≤ 1000000) : ∀ (r : List Bool) (i : Nat), l.drop i = r → i ≤ l.length → Ev (fun k => grapnelref21_kept.l0 k l (nb ((l.take i).map bitC)) (i : Int)) (B (l.map bitC))
 | [], i, hd, hi => by
  have hn : l.length ≤ i := by
   have := congrArg List.length hd
   rw [List.length_drop, List.length_nil] at this
   omega
  refine Ev.step (fun k => grapnelref21_kept.l0.eq_2 ..) (Ev.ifn (by omega) ?_)
  rw [List.take_of_length_le hn, nums_nb]
  exact Ev.now _
 | b :: r, i, hd, hi => by
  have hn : i < l.length := by
   have := congrArg List.length hd
   rw [List.length_drop, List.length_cons] at this
   omega
  have e := List.drop_eq_getElem_cons hn
  rw [hd] at e
  obtain ⟨eb, er⟩ := List.cons.inj e
  have hrd : rdOf false l (i : Int) = b := by
   unfold rdOf
   simp [List.getD_eq_getElem?_getD, hn, eb]
  have hlen : (nb ((l.take i).map bitC)).length = i := by
   rw [nb, List.length_map, List.length_map, List.length_take]
   omega
  have tk : nb ((l.take (i + 1)).map bitC) = nb ((l.take i).map bitC) ++ [((bitC b).toNat : Int)] := by
   rw [List.take_succ_eq_append_getElem hn, List.map_append, nb, nb, List.map_append, ← eb]
   rfl
  have ih := refkept_l l hl r (i + 1) er.symm (by omega)
  rw [tk] at ih
  have e1 := w1 (n := i) (by omega)
  cases b with
  | true =>
   refine Ev.step (fun k => grapnelref21_kept.l0.eq_2 ..) (Ev.ifp (by omega) (Ev.ifp (by omega) (Ev.ifp hrd (Ev.ifp (by omega) ?_))))
   simp only [e1]
   exact ih
  | false =>
   refine Ev.step (fun k => grapnelref21_kept.l0.eq_2 ..) (Ev.ifp (by omega) (Ev.ifp (by omega) (Ev.ifn (by rw [hrd]; decide) (Ev.ifp (by omega) ?_))))
   simp only [e1]
   exact ih
theorem refkept_ev (l : List Bool) (hl : l.length ≤ 1000000) : Ev (fun k => grapnelref21_kept.f k l) (B (keptT l)) := by
 by_cases h : l = []
 ·subst h
  exact Ev.ifp rfl (Ev.now _)
 ·have hp : 0 < l.length := List.length_pos_iff.2 h
  rw [keptT, if_neg h]
  exact Ev.ifn (by omega) (refkept_l l hl l 0 rfl (Nat.zero_le _))
theorem far_f (n : Int) : grapnelref21_far.f n = some (!smallB n) := by
 unfold grapnelref21_far.f
 have hs := smallB_iff n
 by_cases h : smallP n
 ·obtain ⟨h1, h2⟩ := h
  rw [if_neg (by omega), hs.2 ⟨h1, h2⟩, decide_eq_false (by omega)]
  rfl
 ·have hf : smallB n = false := by
   cases hb : smallB n with
   | false => rfl
   | true => exact absurd (hs.1 hb) h
  rw [hf]
  by_cases h1 : n > 999999999999999999
  ·rw [if_pos h1]; rfl
  ·rw [if_neg h1, decide_eq_true]
   ·rfl
   ·unfold smallP at h
    omega
def upC (c : UInt8) : UInt8 := c - 32
def refNeeds : List ByteArray := (grapnelref21_Needs.f).getD []
def refNames : List ByteArray := (grapnelref21_Names.f).getD []
theorem ref_all : ∀ n : Fin 25, (match shell_command.f ((n.val : Int) + 1) with
  | some b => (rdOf ByteArray.empty refNeeds (n.val : Int)).toList == b.2.toList.map upC && (rdOf ByteArray.empty refNames (n.val : Int)).toList == b.1.toList
  | none => false) = true ∧ refNeeds.length = 25 ∧ refNames.length = 25 := by decide +kernel
def wideAt (a : S31) (c : UInt8) : Bool := if c = 102 then !smallB a.f1 else if c = 110 then !smallB a.f2 else if c = 109 then !smallB a.f3 else false
theorem wideAt_iff (a : S31) (c : UInt8) : wideAt a c = false ↔ smallAt a c := by
 unfold wideAt smallAt
 have h1 := smallB_iff a.f1
 have h2 := smallB_iff a.f2
 have h3 := smallB_iff a.f3
 by_cases c1 : c = 102
 ·subst c1
  rw [if_pos rfl, Bool.not_eq_false', h1]
  exact ⟨fun h => ⟨fun _ => h, fun h => absurd h (by decide), fun h => absurd h (by decide)⟩, fun h => h.1 rfl⟩
 rw [if_neg c1]
 by_cases c2 : c = 110
 ·subst c2
  rw [if_pos rfl, Bool.not_eq_false', h2]
  exact ⟨fun h => ⟨fun h => absurd h (by decide), fun _ => h, fun h => absurd h (by decide)⟩, fun h => h.2.1 rfl⟩
 rw [if_neg c2]
 by_cases c3 : c = 109
 ·subst c3
  rw [if_pos rfl, Bool.not_eq_false', h3]
  exact ⟨fun h => ⟨fun h => absurd h (by decide), fun h => absurd h (by decide), fun _ => h⟩, fun h => h.2.2 rfl⟩
 rw [if_neg c3]
 exact ⟨fun _ => ⟨fun h => absurd h c1, fun h => absurd h c2, fun h => absurd h c3⟩, fun _ => rfl⟩
theorem refwide_l (a : S31) (nd nm : ByteArray) (hz : nd.size ≤ 100) (R : ByteArray × Int) : ∀ (cs : List UInt8) (i : Nat) (w : Bool), nd.toList.drop i = cs.map upC → (∀ c ∈ cs, c ∈ letters) → i ≤ nd.size →
  (if (w || cs.any (wideAt a)) = true then R = (⟨#[]⟩, 2) else Ev (fun k => grapnelref21_Line.l1 k nd nm 0 a.f0 a.f1 a.f2 a.f3 a.f4 a.f5 a.f6 a.f7) R) →
  Ev (fun k => grapnelref21_Line.l0 k nd nm w (i : Int) a.f0 a.f1 a.f2 a.f3 a.f4 a.f5 a.f6 a.f7) R
 | [], i, w, hd, _, _, h => by
  have hn := at_nil (s := nd) hd
  rw [List.any_nil, Bool.or_false] at h
  cases w with
  | true =>
   rw [if_pos rfl] at h
   rw [h]
   exact Ev.step (fun k => grapnelref21_Line.l0.eq_2 ..) (Ev.ifn (by omega) (Ev.ifp rfl (Ev.now _)))
  | false =>
   rw [if_neg (by decide)] at h
   exact Ev.step (fun k => grapnelref21_Line.l0.eq_2 ..) (Ev.ifn (by omega) (Ev.ifn (by decide) h))
 | c :: cs, i, w, hd, hc, hi, h => by
  obtain ⟨hn, hb, hr, hz2⟩ := at_cons (r := cs.map upC) hd
  have e1 := w1 (n := i) (by omega)
  have hcs : ∀ d ∈ cs, d ∈ letters := fun d hd => hc d (List.mem_cons_of_mem _ hd)
  have ih := fun w h => refwide_l a nd nm hz R cs (i + 1) w hr hcs (by omega) h
  cases w with
  | true =>
   refine Ev.step (fun k => grapnelref21_Line.l0.eq_2 ..) (Ev.ifp (by omega) (Ev.ifp rfl ?_))
   simp only [e1]
   exact ih true (by simpa using h)
  | false =>
   have h' : if (wideAt a c || cs.any (wideAt a)) = true then R = (⟨#[]⟩, 2) else Ev (fun k => grapnelref21_Line.l1 k nd nm 0 a.f0 a.f1 a.f2 a.f3 a.f4 a.f5 a.f6 a.f7) R := by simpa using h
   have ih' := ih (wideAt a c) h'
   refine Ev.step (fun k => grapnelref21_Line.l0.eq_2 ..) (Ev.ifp (by omega) (Ev.ifn (by decide) (Ev.ifp (by omega) ?_)))
   rcases letters_cases (hc c (List.mem_cons_self ..)) with rfl | rfl | rfl | rfl | rfl | rfl | rfl
   ·exact Ev.ifn (by rw [hb]; decide) (Ev.ifn (by rw [hb]; decide) (Ev.ifn (by rw [hb]; decide) (by simp only [e1]; exact ih')))
   ·exact Ev.ifn (by rw [hb]; decide) (Ev.ifn (by rw [hb]; decide) (Ev.ifn (by rw [hb]; decide) (by simp only [e1]; exact ih')))
   ·exact Ev.ifn (by rw [hb]; decide) (Ev.ifn (by rw [hb]; decide) (Ev.ifn (by rw [hb]; decide) (by simp only [e1]; exact ih')))
   ·exact Ev.ifn (by rw [hb]; decide) (Ev.ifn (by rw [hb]; decide) (Ev.ifn (by rw [hb]; decide) (by simp only [e1]; exact ih')))
   ·have e2 : wideAt a 102 = !smallB a.f1 := rfl
    rw [e2] at ih'
    refine Ev.ifp (by rw [hb]; decide) (Ev.cb (far_f a.f1) ?_)
    cases hs : (!smallB a.f1) with
    | true => rw [hs] at ih'; exact Ev.ifp rfl (by simp only [e1]; exact ih')
    | false => rw [hs] at ih'; exact Ev.ifn (by decide) (Ev.ifn (by rw [hb]; decide) (Ev.ifn (by rw [hb]; decide) (by simp only [e1]; exact ih')))
   ·have e2 : wideAt a 110 = !smallB a.f2 := rfl
    rw [e2] at ih'
    refine Ev.ifn (by rw [hb]; decide) (Ev.ifp (by rw [hb]; decide) (Ev.cb (far_f a.f2) ?_))
    cases hs : (!smallB a.f2) with
    | true => rw [hs] at ih'; exact Ev.ifp rfl (by simp only [e1]; exact ih')
    | false => rw [hs] at ih'; exact Ev.ifn (by decide) (Ev.ifn (by rw [hb]; decide) (by simp only [e1]; exact ih'))
   ·have e2 : wideAt a 109 = !smallB a.f3 := rfl
    rw [e2] at ih'
    exact Ev.ifn (by rw [hb]; decide) (Ev.ifn (by rw [hb]; decide) (Ev.ifp (by rw [hb]; decide) (Ev.cb (far_f a.f3) (by simp only [e1]; exact ih'))))
theorem refargs_l (a : S31) (ha : Sz a) (nd : ByteArray) (hz : nd.size ≤ 100) : ∀ (cs : List UInt8) (i : Nat) (acc : List UInt8), nd.toList.drop i = cs.map upC → (∀ c ∈ cs, c ∈ letters ∧ smallAt a c) → i ≤ nd.size → acc.length ≤ 1000000 + 1000000 * i →
  Ev (fun k => grapnelref21_Line.l1 k nd (B acc) (i : Int) a.f0 a.f1 a.f2 a.f3 a.f4 a.f5 a.f6 a.f7) (if (acc ++ argsT a cs).length ≤ 8000 then (B (acc ++ argsT a cs), 0) else (⟨#[]⟩, 4))
 | [], i, acc, hd, _, _, hl => by
  have hn := at_nil (s := nd) hd
  rw [show argsT a [] = [] from rfl, List.append_nil]
  by_cases h8 : acc.length ≤ 8000
  ·rw [if_pos h8]
   exact Ev.step (fun k => grapnelref21_Line.l1.eq_2 ..) (Ev.ifn (by omega) (Ev.ifn (by rw [B_size]; omega) (Ev.now _)))
  ·rw [if_neg h8]
   exact Ev.step (fun k => grapnelref21_Line.l1.eq_2 ..) (Ev.ifn (by omega) (Ev.ifp (by rw [B_size]; omega) (Ev.now _)))
 | c :: cs, i, acc, hd, hc, hi, hl => by
  obtain ⟨hn, hb, hr, hz2⟩ := at_cons (r := cs.map upC) hd
  have e1 := w1 (n := i) (by omega)
  obtain ⟨hcl, hcs⟩ := hc c (List.mem_cons_self ..)
  obtain ⟨_, hlen, _⟩ := arg_ev a ha c hcl hcs
  have ih := refargs_l a ha nd hz cs (i + 1) (acc ++ 32 :: argT a c) hr (fun d hd => hc d (List.mem_cons_of_mem _ hd)) (by omega) (by rw [List.length_append, List.length_cons]; omega)
  rw [List.append_assoc] at ih
  have p0 : (B acc).size + 1 ≤ 9223372036854775807 := by rw [B_size]; omega
  have sp : B acc ++ (⟨#[32]⟩ : ByteArray) = B (acc ++ [32]) := B_app acc [32]
  have p1 : ∀ t : List UInt8, t = argT a c → (B acc ++ (⟨#[32]⟩ : ByteArray)).size + (B t).size ≤ 9223372036854775807 := by
   rintro t rfl
   rw [sp, B_size, B_size, List.length_append, List.length_singleton]
   omega
  have p2 : ∀ t : List UInt8, t = argT a c → (B acc ++ (⟨#[32]⟩ : ByteArray)) ++ B t = B (acc ++ 32 :: argT a c) := by
   rintro t rfl
   rw [sp, B_app, List.append_assoc]
   rfl
  rw [argsT_cons]
  obtain ⟨s4, s5, s6, s7⟩ := ha
  obtain ⟨n1, n2, n3⟩ := hcs
  refine Ev.step (fun k => grapnelref21_Line.l1.eq_2 ..) (Ev.ifp (by omega) (Ev.ifp (by omega) ?_))
  rcases letters_cases hcl with rfl | rfl | rfl | rfl | rfl | rfl | rfl
  ·exact Ev.ifp (by rw [hb]; decide) (Ev.ifp p0 (Ev.bind (refquote_ev _ (by omega)) (Ev.ifp (p1 _ rfl) (by rw [p2 (qt a.f4.toList) rfl, e1]; exact ih))))
  ·exact Ev.ifn (by rw [hb]; decide) (Ev.ifp (by rw [hb]; decide) (Ev.ifp p0 (Ev.bind (refquote_ev _ (by omega)) (Ev.ifp (p1 _ rfl) (by rw [p2 (qt a.f5.toList) rfl, e1]; exact ih)))))
  ·exact Ev.ifn (by rw [hb]; decide) (Ev.ifn (by rw [hb]; decide) (Ev.ifp (by rw [hb]; decide) (Ev.ifp p0 (Ev.bind (refquote_ev _ (by omega)) (Ev.ifp (p1 _ rfl) (by rw [p2 (qt a.f6.toList) rfl, e1]; exact ih))))))
  ·exact Ev.ifn (by rw [hb]; decide) (Ev.ifn (by rw [hb]; decide) (Ev.ifn (by rw [hb]; decide) (Ev.ifn (by rw [hb]; decide) (Ev.ifn (by rw [hb]; decide) (Ev.ifn (by rw [hb]; decide) (Ev.ifp p0 (Ev.bind (refkept_ev _ (by omega)) (Ev.ifp (p1 _ rfl) (by rw [p2 (keptT a.f7) rfl, e1]; exact ih)))))))))
  ·exact Ev.ifn (by rw [hb]; decide) (Ev.ifn (by rw [hb]; decide) (Ev.ifn (by rw [hb]; decide) (Ev.ifp (by rw [hb]; decide) (Ev.ifp p0 (Ev.bind (number_ev _ (n1 rfl)) (Ev.ifp (p1 _ rfl) (by rw [p2 (Lib.itoa a.f1) rfl, e1]; exact ih)))))))
  ·exact Ev.ifn (by rw [hb]; decide) (Ev.ifn (by rw [hb]; decide) (Ev.ifn (by rw [hb]; decide) (Ev.ifn (by rw [hb]; decide) (Ev.ifp (by rw [hb]; decide) (Ev.ifp p0 (Ev.bind (number_ev _ (n2 rfl)) (Ev.ifp (p1 _ rfl) (by rw [p2 (Lib.itoa a.f2) rfl, e1]; exact ih))))))))
  ·exact Ev.ifn (by rw [hb]; decide) (Ev.ifn (by rw [hb]; decide) (Ev.ifn (by rw [hb]; decide) (Ev.ifn (by rw [hb]; decide) (Ev.ifn (by rw [hb]; decide) (Ev.ifp (by rw [hb]; decide) (Ev.ifp p0 (Ev.bind (number_ev _ (n3 rfl)) (Ev.ifp (p1 _ rfl) (by rw [p2 (Lib.itoa a.f3) rfl, e1]; exact ih)))))))))
theorem refline_ev (a : S31) (ha : Sz a) : Ev (fun k => grapnelref21_Line.f k a.f0 a.f1 a.f2 a.f3 a.f4 a.f5 a.f6 a.f7) (lineR a) := by
 obtain ⟨b, hb⟩ := cmd_tot a.f0
 have er : lineR a = if b.1.toList = [] then (⟨#[]⟩, 1) else if wideB a b.2 = true then (⟨#[]⟩, 2) else if (lineT a b).length ≤ 8000 then (B (lineT a b), 0) else (⟨#[]⟩, 4) := by
  unfold lineR
  rw [hb]
 have out : ¬ (1 ≤ a.f0 ∧ a.f0 ≤ 25) → lineR a = (⟨#[]⟩, 1) := by
  intro h
  rw [er, if_pos]
  by_cases h0 : b.1.toList = []
  ·exact h0
  ·exact absurd (cmd_range hb h0) h
 by_cases h1 : a.f0 < 1
 ·rw [out (by omega)]
  exact Ev.ifp h1 (Ev.step (fun k => grapnelref21_Line.j0.eq_2 ..) (Ev.ifp rfl (Ev.now _)))
 by_cases h2 : a.f0 > 25
 ·rw [out (by omega)]
  exact Ev.ifn h1 (Ev.step (fun k => grapnelref21_Line.j0.eq_2 ..) (Ev.ifp (decide_eq_true h2) (Ev.now _)))
 obtain ⟨n, hn⟩ : ∃ n : Nat, a.f0 = (n : Int) + 1 := ⟨(a.f0 - 1).toNat, by omega⟩
 obtain ⟨hall, l1, l2⟩ := ref_all ⟨n, by omega⟩
 simp only [← hn, hb, Bool.and_eq_true, beq_iff_eq] at hall
 obtain ⟨q1, q2⟩ := hall
 obtain ⟨g1, _, g3, g4, h0⟩ := cmd_ok (by omega) (by omega) hb
 have ew : wrap64 (a.f0 - 1) = (n : Int) := by rw [wrap_small (by omega) (by omega)]; omega
 have enm : rdOf ByteArray.empty refNames (n : Int) = b.1 := list_inj q2
 have hnd : (rdOf ByteArray.empty refNeeds (n : Int)).size ≤ 100 := by rw [← size_list, q1, List.length_map, size_list]; omega
 rw [er, if_neg h0]
 refine Ev.ifn h1 (Ev.step (fun k => grapnelref21_Line.j0.eq_2 ..) (Ev.ifn (by simpa using h2) (Ev.cb (a := refNeeds) rfl (Ev.ifp (by rw [ew]; omega) (Ev.ifp (by rw [ew, l1]; omega) (Ev.cb (a := refNames) rfl (Ev.ifp (by rw [ew, l2]; omega) ?_)))))))
 rw [ew, enm]
 refine refwide_l a _ b.1 hnd _ b.2.toList 0 false q1 g1 (Nat.zero_le _) ?_
 have hiff := wide_iff a b.2
 rw [Bool.false_or]
 by_cases hw : b.2.toList.any (wideAt a) = true
 ·rw [if_pos hw, if_pos]
  cases hwb : wideB a b.2 with
  | true => rfl
  | false =>
   obtain ⟨c, hc, hcw⟩ := List.any_eq_true.1 hw
   have := (wideAt_iff a c).2 (hiff.1 hwb c hc)
   rw [this] at hcw
   cases hcw
 ·rw [if_neg hw]
  have hsm : ∀ c ∈ b.2.toList, smallAt a c := fun c hc => (wideAt_iff a c).1 (by
   cases hcw : wideAt a c with
   | false => rfl
   | true => exact absurd (List.any_eq_true.2 ⟨c, hc, hcw⟩) hw)
  rw [if_neg (by rw [hiff.2 hsm]; decide)]
  have := refargs_l a ha _ hnd b.2.toList 0 b.1.toList q1 (fun c hc => ⟨g1 c hc, hsm c hc⟩) (Nat.zero_le _) (by rw [size_list]; omega)
  rw [list_B] at this
  exact this
end Go.Proofs.YtenigkhfldafaaaDoor.A

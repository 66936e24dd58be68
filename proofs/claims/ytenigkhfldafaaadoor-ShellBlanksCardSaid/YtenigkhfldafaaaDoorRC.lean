/- The law of blanks, empty lines and notes. -/
import Derived.Test.YtenigkhfldafaaaDoorRD
import Derived.Test.YtenigkhfldafaaaDoorA24
namespace Go.Proofs.YtenigkhfldafaaaDoor.A
open Go.RowKit Go.Proofs.YtenigkhfldafaaaDoorW.PrintWords
set_option maxRecDepth 100000
theorem words_none (t : List UInt8) (ht : skipN t = t.length) (hz : t.length ≤ 8000) : LineIs (B t) none := by
 have hsk := skip_ev (B t) (by rw [B_size]; omega) t 0 (by rw [B_list]; rfl)
 rw [ht, Nat.zero_add, ← B_size] at hsk
 exact Ev.ifn (by rw [B_size]; omega) (Ev.step (fun k => shell_words.l0.eq_2 ..) (Ev.bind hsk (Ev.cb (end_y (Nat.le_refl _)) (Ev.ifp rfl (Ev.now _)))))
def four (g nt t : List UInt8) (a : S31) : List (List UInt8 × Option S31) := [(g ++ (t ++ (g ++ 35 :: nt)), some a), ([], none), (g, none), (35 :: nt, none)]
def fours (g nt : List UInt8) (l : List S31) : List (List UInt8 × Option S31) := l.flatMap fun a => four g nt (lineR a).1.toList (cleanA a)
theorem fours_step (g nt : List UInt8) (l : List S31) (a : S31) : textOf ((fours g nt (l ++ [a])).map (·.1)) = textOf ((fours g nt l).map (·.1)) ++ (g ++ ((lineR a).1.toList ++ (g ++ (35 :: (nt ++ (10 :: 10 :: (g ++ (10 :: 35 :: (nt ++ [10]))))))))) := by
 unfold fours
 rw [List.flatMap_append, List.map_append, textOf, List.flatMap_append]
 congr 1
 simp [four]
theorem fours_some (g nt : List UInt8) (l : List S31) : (fours g nt l).filterMap (·.2) = l.map cleanA := by
 induction l with
 | nil => rfl
 | cons a l ih =>
  rw [show fours g nt (a :: l) = four g nt (lineR a).1.toList (cleanA a) ++ fours g nt l from rfl, List.filterMap_append, ih]
  rfl
theorem fours_len (g nt : List UInt8) (l : List S31) : (fours g nt l).length = 4 * l.length := by
 induction l with
 | nil => rfl
 | cons a l ih =>
  rw [show fours g nt (a :: l) = four g nt (lineR a).1.toList (cleanA a) ++ fours g nt l from rfl, List.length_append, ih, List.length_cons]
  show 4 + _ = _
  omega
structure Gap (g : List UInt8) : Prop where
 blank : ∀ c ∈ g, gapB c = true
 pos : 1 ≤ g.length
 le : g.length ≤ 3
theorem skip_note (g nt : List UInt8) (hg : ∀ c ∈ g, gapB c = true) : skipN (g ++ 35 :: nt) = (g ++ 35 :: nt).length := by
 rw [skip_gap g _ hg, skipN, if_neg (by decide), if_pos rfl, List.length_append, List.length_cons]
theorem skip_all (g : List UInt8) (hg : ∀ c ∈ g, gapB c = true) : skipN g = g.length := by
 have := skip_gap g [] hg
 rw [List.append_nil] at this
 rw [this]
 rfl
theorem gap_no10 {g : List UInt8} (hg : ∀ c ∈ g, gapB c = true) : (10 : UInt8) ∉ g := fun h => absurd (hg 10 h) (by decide)
theorem four_ok (g nt : List UInt8) (hg : Gap g) (hnt : (10 : UInt8) ∉ nt) (hl : nt.length ≤ 100) (a : S31) (ha : Sz a) (hok : (lineR a).2 = 0) (h78 : (lineR a).1.size ≤ 7800) :
  ∀ x ∈ four g nt (lineR a).1.toList (cleanA a), (10 : UInt8) ∉ x.1 ∧ LineIs (B x.1) x.2 := by
 obtain ⟨b, hb, h0, hw, h8, ht⟩ := lineR_ok hok
 have hg10 := gap_no10 hg.blank
 have hl10 := line_no10 a b hb h0 hw
 have h3 := hg.le
 have hsz : (lineT a b).length ≤ 7800 := by rw [← ht, size_list]; exact h78
 have hgn : (10 : UInt8) ∉ g ++ 35 :: nt := by
  rw [List.mem_append, not_or, List.mem_cons, not_or]
  exact ⟨hg10, by decide, hnt⟩
 intro x hx
 simp only [four, List.mem_cons, List.not_mem_nil, or_false] at hx
 rcases hx with rfl | rfl | rfl | rfl
 ·refine ⟨?_, ?_⟩
  ·show (10 : UInt8) ∉ g ++ ((lineR a).1.toList ++ (g ++ 35 :: nt))
   rw [ht, List.mem_append, not_or, List.mem_append, not_or]
   exact ⟨hg10, hl10, hgn⟩
  ·show LineIs (B (g ++ ((lineR a).1.toList ++ (g ++ 35 :: nt)))) (some (cleanA a))
   rw [ht, show cleanA a = cleanR a b by unfold cleanA; rw [hb]]
   obtain ⟨c, r, hgr⟩ := List.exists_cons_of_length_pos hg.pos
   refine line_back a ha b hb h0 hw g (g ++ 35 :: nt) hg.blank (skip_note g nt hg.blank) (.inr ⟨c, r ++ 35 :: nt, by rw [hgr]; rfl, hg.blank c (by rw [hgr]; exact List.mem_cons_self ..)⟩) ?_
   rw [List.length_append, List.length_append, List.length_append, List.length_cons]
   omega
 ·exact ⟨by simp, words_none [] rfl (by decide)⟩
 ·exact ⟨hg10, words_none g (skip_all g hg.blank) (by omega)⟩
 ·refine ⟨?_, words_none (35 :: nt) (skip_note [] nt (fun c hc => nomatch hc)) (by rw [List.length_cons]; omega)⟩
  show (10 : UInt8) ∉ 35 :: nt
  rw [List.mem_cons, not_or]
  exact ⟨by decide, hnt⟩
theorem fours_ok (g nt : List UInt8) (hg : Gap g) (hnt : (10 : UInt8) ∉ nt) (hl : nt.length ≤ 100) (l : List S31) (h : ∀ a ∈ l, Sz a ∧ (lineR a).2 = 0 ∧ (lineR a).1.size ≤ 7800) :
  ∀ x ∈ fours g nt l, (10 : UInt8) ∉ x.1 ∧ LineIs (B x.1) x.2 := by
 intro x hx
 obtain ⟨a, ha, hx⟩ := List.mem_flatMap.1 hx
 obtain ⟨h1, h2, h3⟩ := h a ha
 exact four_ok g nt hg hnt hl a h1 h2 h3 x hx
theorem fours_size (g nt : List UInt8) (hg : Gap g) (hl : nt.length ≤ 100) (l : List S31) : (textOf ((fours g nt l).map (·.1))).length ≤ 9000 * l.length := by
 induction l with
 | nil => exact Nat.le_refl _
 | cons a l ih =>
  have h8 := lineR_len a
  have h3 := hg.le
  rw [show fours g nt (a :: l) = four g nt (lineR a).1.toList (cleanA a) ++ fours g nt l from rfl, List.map_append, textOf, List.flatMap_append, List.length_append, List.length_cons]
  have : (textOf ((four g nt (lineR a).1.toList (cleanA a)).map (·.1))).length ≤ 9000 := by
   simp only [four, textOf, List.map_cons, List.map_nil, List.flatMap_cons, List.flatMap_nil, List.length_append, List.length_cons, List.length_nil, size_list]
   omega
  have ih' : (List.flatMap (fun x => x ++ [10]) (List.map (fun x => x.1) (fours g nt l))).length ≤ 9000 * l.length := ih
  have this' : (List.flatMap (fun x => x ++ [10]) (List.map (fun x => x.1) (four g nt (lineR a).1.toList (cleanA a)))).length ≤ 9000 := this
  omega
theorem blanks_l2 (x0 : List S31) (hl : x0.length ≤ 60) (hs : ∀ a ∈ x0, Sz a) (hok : ∀ a ∈ x0, (lineR a).2 = 0) : ∀ (d i : Nat), i + d = x0.length → Ev (fun k => grapnellaw21_ShellBlanks.l2 k x0 (x0.map cleanA) (i : Int)) true
 | 0, i, hi => Ev.step (fun k => grapnellaw21_ShellBlanks.l2.eq_2 ..) (Ev.ifn (by omega) (Ev.bind awake_ev (Ev.now _)))
 | d + 1, i, hi => by
  have e1 := w1 (n := i) (by omega)
  obtain ⟨h1, h2, h3⟩ := same_clean x0 hs hok i (by omega)
  exact Ev.step (fun k => grapnellaw21_ShellBlanks.l2.eq_2 ..) (Ev.ifp (by omega) (Ev.ifp (by omega) (Ev.ifp (by rw [List.length_map]; omega) (Ev.bind h1 (Ev.bind (by rw [h2]; exact same_one _ h3) (Ev.ifp rfl (by simp only [e1]; exact blanks_l2 x0 hl hs hok d (i + 1) (by omega))))))))
theorem Bapp (a b : List UInt8) : B a ++ B b = B (a ++ b) := by
 apply list_inj
 rw [B_list, ByteArray.toList_eq, ByteArray.data_append, Array.toList_append, ← ByteArray.toList_eq, ← ByteArray.toList_eq, B_list, B_list]
theorem blanks_l1 (x0 : List S31) (hl : x0.length ≤ 60) (hs : ∀ a ∈ x0, Sz a) (g nt : List UInt8) (hg : Gap g) (hnt : (10 : UInt8) ∉ nt) (hnl : nt.length ≤ 100) : ∀ (d i : Nat), i + d = x0.length → (∀ a ∈ x0.take i, (lineR a).2 = 0 ∧ (lineR a).1.size ≤ 7800) →
  Ev (fun k => grapnellaw21_ShellBlanks.l1 k x0 (B nt) (B g) (B (textOf ((fours g nt (x0.take i)).map (·.1)))) (i : Int)) true
 | 0, i, hi, hall => by
  rw [List.take_of_length_le (by omega)] at hall ⊢
  have hz := fours_size g nt hg hnl x0
  have hp := parse_text (fours g nt x0) (by rw [fours_len]; omega) (by omega) (fours_ok g nt hg hnt hnl x0 (fun a ha => ⟨hs a ha, hall a ha⟩))
  rw [fours_some] at hp
  refine Ev.step (fun k => grapnellaw21_ShellBlanks.l1.eq_2 ..) (Ev.ifn (by omega) (Ev.ifn (by omega) (Ev.bind hp (Ev.ifp rfl (Ev.ifp rfl ?_)))))
  exact Ev.step (fun k => grapnellaw21_ShellBlanks.j4.eq_2 ..) (Ev.ifn (by rw [List.length_map]; simp) (blanks_l2 x0 hl hs (fun a ha => (hall a ha).1) x0.length 0 (Nat.zero_add _)))
 | d + 1, i, hi, hall => by
  have hn : i < x0.length := by omega
  have hra := rd31 x0 i hn
  have hsa : Sz x0[i] := hs _ (List.getElem_mem _)
  have e1 := w1 (n := i) (by omega)
  have e : Ev (fun k => shell_Line.f k (rd_T31 x0 (i : Int)).f0 (rd_T31 x0 (i : Int)).f1 (rd_T31 x0 (i : Int)).f2 (rd_T31 x0 (i : Int)).f3 (rd_T31 x0 (i : Int)).f4 (rd_T31 x0 (i : Int)).f5 (rd_T31 x0 (i : Int)).f6 (rd_T31 x0 (i : Int)).f7) (lineR x0[i]) := by
   rw [hra]
   exact line_ev _ hsa
  by_cases h0 : (lineR x0[i]).2 = 0
  ·by_cases h78 : ((lineR x0[i]).1.size : Int) > 7800
   ·exact Ev.step (fun k => grapnellaw21_ShellBlanks.l1.eq_2 ..) (Ev.ifp (by omega) (Ev.ifp (by omega) (Ev.bind e (Ev.ifp h0 (Ev.ifp h78 (Ev.bind awake_ev (Ev.now _)))))))
   have ih := blanks_l1 x0 hl hs g nt hg hnt hnl d (i + 1) (by omega) (by
    rw [List.take_succ_eq_append_getElem hn]
    intro a ha
    rcases List.mem_append.1 ha with h | h
    ·exact hall a h
    ·rw [List.mem_singleton.1 h]
     exact ⟨h0, by omega⟩)
   rw [List.take_succ_eq_append_getElem hn, fours_step] at ih
   have hz := fours_size g nt hg hnl (x0.take i)
   have hti : (x0.take i).length ≤ i := List.length_take_le _ _
   have h3 := hg.le
   generalize textOf ((fours g nt (x0.take i)).map (·.1)) = acc at ih hz ⊢
   have hlb := list_B (lineR x0[i]).1
   generalize (lineR x0[i]).1.toList = t at ih hlb
   have htl : t.length ≤ 7800 := by rw [← hlb, B_size] at h78; omega
   refine Ev.step (fun k => grapnellaw21_ShellBlanks.l1.eq_2 ..) (Ev.ifp (by omega) (Ev.ifp (by omega) (Ev.bind e (Ev.ifp h0 (Ev.ifn h78 ?_)))))
   rw [← hlb]
   simp only [show (⟨#[35]⟩ : ByteArray) = B [35] from rfl, show (⟨#[10, 10]⟩ : ByteArray) = B [10, 10] from rfl, show (⟨#[10, 35]⟩ : ByteArray) = B [10, 35] from rfl, show (⟨#[10]⟩ : ByteArray) = B [10] from rfl, Bapp, B_size, List.length_append, List.length_cons, List.length_nil, e1]
   refine Ev.ifp (by omega) (Ev.ifp (by omega) (Ev.ifp (by omega) (Ev.ifp (by omega) (Ev.ifp (by omega) (Ev.ifp (by omega) (Ev.ifp (by omega) (Ev.ifp (by omega) (Ev.ifp (by omega) (Ev.ifp (by omega) ?_)))))))))
   simp only [List.append_assoc, List.cons_append, List.nil_append] at ih ⊢
   exact ih
  ·exact Ev.step (fun k => grapnellaw21_ShellBlanks.l1.eq_2 ..) (Ev.ifp (by omega) (Ev.ifp (by omega) (Ev.bind e (Ev.ifn h0 (Ev.bind awake_ev (Ev.now _))))))
theorem blanks_j1 (x0 : List S31) (hl : x0.length ≤ 60) (hs : ∀ a ∈ x0, Sz a) (nt : List UInt8) (hnt : (10 : UInt8) ∉ nt) (hnl : nt.length ≤ 100) (b : Bool) : Ev (fun k => grapnellaw21_ShellBlanks.j1 k x0 (B nt) b) true := by
 have go : ∀ g : List UInt8, Gap g → Ev (fun k => grapnellaw21_ShellBlanks.j2 k x0 (B nt) (B g)) true := fun g hg =>
  Ev.step (fun k => grapnellaw21_ShellBlanks.j2.eq_2 ..) (blanks_l1 x0 hl hs g nt hg hnt hnl x0.length 0 (Nat.zero_add _) (fun a ha => by rw [List.take_zero] at ha; exact nomatch ha))
 cases b with
 | true => exact Ev.step (fun k => grapnellaw21_ShellBlanks.j1.eq_2 ..) (Ev.ifp rfl (go [9, 32, 9] ⟨by decide, by decide, by decide⟩))
 | false => exact Ev.step (fun k => grapnellaw21_ShellBlanks.j1.eq_2 ..) (Ev.ifn Bool.false_ne_true (go [32, 32] ⟨by decide, by decide, by decide⟩))
theorem blanks_l0 (x0 : List S31) (hl : x0.length ≤ 60) (hs : ∀ a ∈ x0, Sz a) (nt : ByteArray) (hz : nt.size ≤ 140737488351232) (b : Bool) : ∀ (r : List UInt8) (i : Nat), nt.toList.drop i = r → i ≤ nt.size → (10 : UInt8) ∉ nt.toList.take i →
  Ev (fun k => grapnellaw21_ShellBlanks.l0 k x0 nt b (i : Int)) true
 | [], i, hd, hi, hno => by
  have hn := at_nil hd
  rw [List.take_of_length_le (by rw [size_list]; exact hn)] at hno
  by_cases h : (nt.size : Int) > 100
  ·have hx : nt.extract 0 100 = B (nt.toList.take 100) := by
    apply list_inj
    rw [list_ext, List.drop_zero, B_list]
   refine Ev.step (fun k => grapnellaw21_ShellBlanks.l0.eq_2 ..) (Ev.ifn (by omega) (Ev.ifp h (Ev.ifp (by decide) (Ev.ifp (by omega) ?_))))
   rw [hx]
   exact blanks_j1 x0 hl hs _ (fun hm => hno (List.mem_of_mem_take hm)) (List.length_take_le _ _) b
  ·refine Ev.step (fun k => grapnellaw21_ShellBlanks.l0.eq_2 ..) (Ev.ifn (by omega) (Ev.ifn h ?_))
   have := blanks_j1 x0 hl hs nt.toList hno (by rw [size_list]; omega) b
   rw [list_B] at this
   exact this
 | c :: r, i, hd, hi, hno => by
  obtain ⟨hn, hb, hr, hz2⟩ := at_cons hd
  by_cases h10 : c = 10
  ·exact Ev.step (fun k => grapnellaw21_ShellBlanks.l0.eq_2 ..) (Ev.ifp (by omega) (Ev.ifp (by omega) (Ev.ifp (by rw [hb]; exact (u8_eq (d := 10) rfl).2 h10) (Ev.bind awake_ev (Ev.now _)))))
  ·refine Ev.step (fun k => grapnellaw21_ShellBlanks.l0.eq_2 ..) (Ev.ifp (by omega) (Ev.ifp (by omega) (Ev.ifn (by rw [hb]; exact fun h => h10 ((u8_eq (d := 10) rfl).1 h)) ?_)))
   have e1 : wrap64 ((i : Int) + 1) = ((i + 1 : Nat) : Int) := by rw [wrap_small (by omega) (by omega)]; rfl
   simp only [e1]
   refine blanks_l0 x0 hl hs nt hz b r (i + 1) hr (by omega) ?_
   have hlt : i < nt.toList.length := by rw [size_list]; exact hn
   rw [List.take_succ_eq_append_getElem hlt, List.mem_append, not_or, List.mem_singleton]
   refine ⟨hno, fun h => h10 ?_⟩
   have := List.drop_eq_getElem_cons hlt
   rw [hd] at this
   rw [(List.cons.inj this).1, ← h]
theorem blanks_law (l : List S31) (a1 : ByteArray) (a2 : Bool) (w1 : a1.size ≤ 140737488351232) : ∃ k, grapnellaw21_ShellBlanks.f k l a1 a2 = some true := by
 apply Ev.rounds
 exact Ev.bind (few_ev l) (blanks_l0 (fewL l) (few_len l) (few_sz l) a1 w1 a2 a1.toList 0 rfl (Nat.zero_le _) (by rw [List.take_zero]; simp))
end Go.Proofs.YtenigkhfldafaaaDoor.A

/- Scripts: what was printed is read back. -/
import Derived.Test.YtenigkhfldafaaaDoorR5
import Derived.Test.YtenigkhfldafaaaDoorQA
namespace Go.Proofs.YtenigkhfldafaaaDoor.A
open Go.RowKit Go.Proofs.YtenigkhfldafaaaDoorW.PrintWords
set_option maxRecDepth 100000
theorem tok_no10 {c : UInt8} (h : tokC c) : c ≠ 10 := by rintro rfl; exact absurd h.1 (by decide)
theorem hx_no10 : ∀ n : Fin 16, hxN n.val ≠ 10 := by decide
theorem q1_no10 (c d : UInt8) (h : d ∈ q1 c) : d ≠ 10 := by
 have hc := c.toNat_lt
 unfold q1 at h
 split at h
 ·rename_i h1
  simp only [List.mem_cons, List.not_mem_nil, or_false] at h
  rcases h with rfl | rfl
  ·decide
  ·rcases h1 with rfl | rfl <;> decide
 split at h
 ·simp only [List.mem_cons, List.not_mem_nil, or_false] at h
  rcases h with rfl | rfl <;> decide
 rename_i h2
 split at h
 ·simp only [List.mem_cons, List.not_mem_nil, or_false] at h
  rcases h with rfl | rfl | rfl | rfl
  ·decide
  ·decide
  ·exact hx_no10 ⟨c.toNat / 16, by omega⟩
  ·exact hx_no10 ⟨c.toNat % 16, by omega⟩
 ·rw [List.mem_singleton.1 h]
  exact h2
theorem qt_no10 (l : List UInt8) : (10 : UInt8) ∉ qt l := by
 have : ∀ l : List UInt8, (10 : UInt8) ∉ qb l := by
  intro l
  induction l with
  | nil => simp [qb]
  | cons c r ih =>
   rw [qb, List.mem_append, not_or]
   exact ⟨fun h => q1_no10 c 10 h rfl, ih⟩
 intro h
 simp only [qt, List.mem_cons, List.mem_append, List.not_mem_nil, or_false] at h
 rcases h with h | h | h
 ·exact absurd h (by decide)
 ·exact this l h
 ·exact absurd h (by decide)
theorem arg_no10 (a : S31) (c : UInt8) (hc : c ∈ letters) (hs : smallAt a c) : (10 : UInt8) ∉ argT a c := by
 obtain ⟨n1, n2, n3⟩ := hs
 have num : ∀ n : Int, smallP n → (10 : UInt8) ∉ Lib.itoa n := fun n hn h => tok_no10 ((itoa_ev n hn.1 hn.2).2.1 10 h) rfl
 rcases letters_cases hc with rfl | rfl | rfl | rfl | rfl | rfl | rfl
 ·exact qt_no10 _
 ·exact qt_no10 _
 ·exact qt_no10 _
 ·exact fun h => tok_no10 ((kept_tok a.f7).1 10 h) rfl
 ·exact num _ (n1 rfl)
 ·exact num _ (n2 rfl)
 ·exact num _ (n3 rfl)
theorem line_no10 (a : S31) (b : ByteArray × ByteArray) (hb : shell_command.f a.f0 = some b) (h0 : b.1.toList ≠ []) (hw : wideB a b.2 = false) : (10 : UInt8) ∉ lineT a b := by
 obtain ⟨r1, r2⟩ := cmd_range hb h0
 obtain ⟨c1, _⟩ := cmd_ok r1 r2 hb
 have hsm := (wide_iff a b.2).1 hw
 have hn : ∀ c ∈ b.1.toList, tokB c = true := by
  obtain ⟨n, hn⟩ : ∃ n : Nat, a.f0 = (n : Int) + 1 := ⟨(a.f0 - 1).toNat, by omega⟩
  have := names_all ⟨n, by omega⟩
  simp only [← hn, hb, Bool.and_eq_true] at this
  exact List.all_eq_true.1 this.1.1
 intro h
 rw [lineT, List.mem_append] at h
 rcases h with h | h
 ·exact tok_no10 (tokB_iff (hn 10 h)) rfl
 ·obtain ⟨c, hc, h⟩ := List.mem_flatMap.1 h
  rcases List.mem_cons.1 h with h | h
  ·exact absurd h (by decide)
  ·exact arg_no10 a c (c1 c hc) (hsm c hc) h
theorem parse_run (L : List ByteArray) (hL : L.length ≤ 1000) : ∀ (os : List (Option S31)) (i : Nat) (acc : List S31), i + os.length = L.length → acc.length ≤ i → (∀ (j : Nat) o, os[j]? = some o → LineIs (rdOf ByteArray.empty L ((i + j : Nat) : Int)) o) →
  Ev (fun k => shell_Parse.l0 k acc L (L.length : Int) (i : Int)) (acc ++ os.filterMap id, 0, 0)
 | [], i, acc, hi, _, _ => by
  rw [List.length_nil] at hi
  rw [List.filterMap_nil, List.append_nil]
  exact Ev.step (fun k => shell_Parse.l0.eq_2 _ _ _ _ _) (Ev.ifn (by omega) (Ev.now _))
 | o :: os, i, acc, hi, ha, h => by
  rw [List.length_cons] at hi
  have e1 := w1 (n := i) (by omega)
  have hh : ∀ (j : Nat) o', os[j]? = some o' → LineIs (rdOf ByteArray.empty L ((i + 1 + j : Nat) : Int)) o' := fun j o' hj => by
   have := h (j + 1) o' (by simpa using hj)
   rw [show i + (j + 1) = i + 1 + j by omega] at this
   exact this
  have h0 := h 0 o rfl
  rw [Nat.add_zero] at h0
  cases o with
  | none =>
   have ih := parse_run L hL os (i + 1) acc (by omega) (by omega) hh
   have h0' : Ev (fun k => shell_words.f k (rdOf ByteArray.empty L (i : Int))) ([], 0) := h0
   rw [List.filterMap_cons_none (by rfl)]
   exact Ev.step (fun k => shell_Parse.l0.eq_2 _ _ _ _ _) (Ev.ifp (by omega) (Ev.ifp (by omega) (Ev.ifp (by omega) (Ev.ifn (by omega) (Ev.bind h0' (Ev.ifp rfl (Ev.ifp rfl (by simp only [e1]; exact ih))))))))
  | some a =>
   obtain ⟨w, ws, hw, hact⟩ := h0
   have ih := parse_run L hL os (i + 1) (acc ++ [a]) (by omega) (by rw [List.length_append, List.length_singleton]; omega) hh
   rw [List.filterMap_cons_some (b := a) (by rfl)]
   rw [List.append_assoc] at ih
   exact Ev.step (fun k => shell_Parse.l0.eq_2 _ _ _ _ _) (Ev.ifp (by omega) (Ev.ifp (by omega) (Ev.ifp (by omega) (Ev.ifn (by omega) (Ev.bind hw (Ev.ifp rfl (Ev.ifn (by simp only [List.length_cons]; omega) (Ev.bind hact (Ev.ifp rfl (Ev.ifp (by omega) (by simp only [e1]; exact ih)))))))))))
def textOf (T : List (List UInt8)) : List UInt8 := T.flatMap fun x => x ++ [10]
def midOf : List UInt8 → List (List UInt8) → List UInt8
 | t, [] => t
 | t, u :: r => t ++ 10 :: midOf u r
theorem text_mid : ∀ (t : List UInt8) (T : List (List UInt8)), textOf (t :: T) = midOf t T ++ [10]
 | t, [] => by simp [textOf, midOf]
 | t, u :: r => by
  have := text_mid u r
  rw [show textOf (t :: u :: r) = t ++ [10] ++ textOf (u :: r) from rfl, this, midOf]
  simp
theorem trim_last (l : List UInt8) : Lib.trimSuffix (l ++ [10]) [10] = l := by
 unfold Lib.trimSuffix Lib.hasSuffix
 rw [if_pos (by rw [List.isSuffixOf_iff_suffix]; exact List.suffix_append _ _)]
 simp
theorem pf_mid : ∀ (t : List UInt8) (T : List (List UInt8)), (∀ x ∈ t :: T, (10 : UInt8) ∉ x) → pf [] (midOf t T) = t :: T
 | t, [], h => by rw [midOf, pf_none t [] (h t (List.mem_cons_self ..))]; rfl
 | t, u :: r, h => by
  rw [midOf, pf_hit t [] _ (h t (List.mem_cons_self ..)), pf_mid u r (fun x hx => h x (List.mem_cons_of_mem _ hx))]
  rfl
theorem parse_text (T : List (List UInt8 × Option S31)) (hT : T.length ≤ 1000) (hz : (textOf (T.map (·.1))).length ≤ 1000000000) (h : ∀ x ∈ T, (10 : UInt8) ∉ x.1 ∧ LineIs (B x.1) x.2) :
  Ev (fun k => shell_Parse.f k (B (textOf (T.map (·.1))))) (T.filterMap (·.2), 0, 0) := by
 cases T with
 | nil => exact Ev.ifp (B_list []) (Ev.now _)
 | cons x r =>
  have em := text_mid x.1 (r.map (·.1))
  rw [List.map_cons] at hz ⊢
  rw [em] at hz ⊢
  have hn : ∀ y ∈ x.1 :: r.map (·.1), (10 : UInt8) ∉ y := by
   intro y hy
   rcases List.mem_cons.1 hy with rfl | hy
   ·exact (h x (List.mem_cons_self ..)).1
   ·obtain ⟨z, hz, rfl⟩ := List.mem_map.1 hy
    exact (h z (List.mem_cons_of_mem _ hz)).1
  have e0 : ¬ (B (midOf x.1 (r.map (·.1)) ++ [10])).toList = ([] : List UInt8) := by rw [B_list]; simp
  have e1 : strings_TrimSuffix.f (B (midOf x.1 (r.map (·.1)) ++ [10])) ⟨#[10]⟩ = some (B (midOf x.1 (r.map (·.1)))) := by
   unfold strings_TrimSuffix.f
   rw [if_pos (by rw [B_size]; omega)]
   show some (B (Lib.trimSuffix (midOf x.1 (r.map (·.1)) ++ [10]) [10])) = _
   rw [trim_last]
  rw [List.length_append] at hz
  have e2 := split_eq (B (midOf x.1 (r.map (·.1)))) (by rw [B_size]; omega)
  rw [B_list, pf_mid _ _ hn] at e2
  have hlen : ((x.1 :: r.map (·.1)).map B).length = ((x :: r).map (·.2)).length := by simp
  have hrd : ∀ (j : Nat) (hj : j < (x :: r).length), rdOf ByteArray.empty ((x.1 :: r.map (·.1)).map B) (j : Int) = B ((x :: r)[j].1) := by
   intro j hj
   unfold rdOf
   rw [show (x.1 :: r.map (·.1)).map B = (x :: r).map (fun y => B y.1) by simp]
   simp only [Int.toNat_natCast, List.getD_eq_getElem?_getD, List.getElem?_map, List.getElem?_eq_getElem hj]
   rfl
  have run := parse_run ((x.1 :: r.map (·.1)).map B) (by rw [hlen, List.length_map]; exact hT) ((x :: r).map (·.2)) 0 [] (by rw [hlen, Nat.zero_add]) (Nat.le_refl _) (fun j o hj => by
   obtain ⟨hjl, hjo⟩ := List.getElem?_eq_some_iff.1 hj
   have hjl' : j < (x :: r).length := by simpa using hjl
   rw [Nat.zero_add, hrd j hjl', ← hjo, List.getElem_map]
   exact (h _ (List.getElem_mem hjl')).2)
  rw [List.nil_append, List.filterMap_map] at run
  exact Ev.ifn e0 (Ev.cb e1 (Ev.cb e2 run))
def printR : List S31 → List UInt8 → ByteArray × Int
 | [], acc => (B acc, 0)
 | a :: l, acc => if (lineR a).2 = 0 then printR l (acc ++ ((lineR a).1.toList ++ [10])) else (⟨#[]⟩, (lineR a).2)
theorem lineR_len (a : S31) : (lineR a).1.size ≤ 8000 := by
 unfold lineR
 split
 ·split
  ·exact Nat.zero_le _
  split
  ·exact Nat.zero_le _
  split
  ·rename_i h; show (B _).size ≤ 8000; rw [B_size]; exact h
  ·exact Nat.zero_le _
 ·exact Nat.zero_le _
theorem printL_ev : ∀ (l : List S31) (acc : List UInt8), (∀ a ∈ l, Sz a) → acc.length + 8001 * l.length ≤ 100000000 → Ev (fun k => printL k l acc) (printR l acc)
 | [], acc, _, _ => Ev.now _
 | a :: l, acc, h, hz => by
  have e := line_ev a (h a (List.mem_cons_self ..))
  have hl := lineR_len a
  rw [List.length_cons] at hz
  refine Ev.congr (f := fun k => (lineF k a).bind fun b => if b.2 = 0 then if acc.length + (b.1.size + 1) ≤ 100000000000000 then printL k l (acc ++ (b.1 ++ (⟨#[10]⟩ : ByteArray)).toList) else none else some (⟨#[]⟩, b.2)) (fun k => rfl) (Ev.bind e ?_)
  by_cases h0 : (lineR a).2 = 0
  ·refine Ev.ifp h0 (Ev.ifp (by omega) ?_)
   have happ : ((lineR a).1 ++ (⟨#[10]⟩ : ByteArray)).toList = (lineR a).1.toList ++ [10] := by
    rw [ByteArray.toList_eq, ByteArray.toList_eq, ByteArray.data_append, Array.toList_append]
   rw [printR, if_pos h0, happ]
   exact printL_ev l _ (fun b hb => h b (List.mem_cons_of_mem _ hb)) (by rw [List.length_append, List.length_append, List.length_singleton, size_list]; omega)
  ·rw [printR, if_neg h0]
   exact Ev.ifn h0 (Ev.now _)
theorem print_ev (l : List S31) (hl : l.length ≤ 1000) (h : ∀ a ∈ l, Sz a) : Ev (fun k => shell_Print.f k l) (printR l []) :=
 Ev.ifn (by omega) (printL_ev l [] h (by rw [List.length_nil]; omega))
theorem printR_ok : ∀ (l : List S31) (acc : List UInt8), (printR l acc).2 = 0 → printR l acc = (B (acc ++ textOf (l.map fun a => (lineR a).1.toList)), 0) ∧ ∀ a ∈ l, (lineR a).2 = 0
 | [], acc, _ => ⟨by simp [printR, textOf], fun a h => nomatch h⟩
 | a :: l, acc, h => by
  by_cases h0 : (lineR a).2 = 0
  ·rw [printR, if_pos h0] at h
   obtain ⟨h1, h2⟩ := printR_ok l _ h
   refine ⟨?_, fun b hb => ?_⟩
   ·rw [printR, if_pos h0, h1]
    simp [textOf]
   ·rcases List.mem_cons.1 hb with rfl | hb
    ·exact h0
    ·exact h2 b hb
  ·rw [printR, if_neg h0] at h
   exact absurd h h0
theorem printR_no : ∀ (l : List S31) (acc : List UInt8), (printR l acc).2 ≠ 0 → (printR l acc).1 = ⟨#[]⟩ ∧ ∃ a ∈ l, (printR l acc).2 = (lineR a).2
 | [], acc, h => absurd rfl h
 | a :: l, acc, h => by
  by_cases h0 : (lineR a).2 = 0
  ·rw [printR, if_pos h0] at h ⊢
   obtain ⟨h1, b, hb, h2⟩ := printR_no l _ h
   exact ⟨h1, b, List.mem_cons_of_mem _ hb, h2⟩
  ·rw [printR, if_neg h0]
   exact ⟨rfl, a, List.mem_cons_self .., rfl⟩
theorem lineR_ok {a : S31} (h : (lineR a).2 = 0) : ∃ b, shell_command.f a.f0 = some b ∧ b.1.toList ≠ [] ∧ wideB a b.2 = false ∧ (lineT a b).length ≤ 8000 ∧ (lineR a).1.toList = lineT a b := by
 obtain ⟨b, hb⟩ := cmd_tot a.f0
 unfold lineR at h ⊢
 rw [hb] at h ⊢
 simp only at h ⊢
 split at h
 ·cases h
 rename_i h0
 split at h
 ·cases h
 rename_i hw
 split at h
 ·rename_i h8
  rw [if_neg h0, if_neg hw, if_pos h8]
  exact ⟨b, rfl, h0, by simpa using hw, h8, B_list _⟩
 ·cases h
def cleanA (a : S31) : S31 :=
 match shell_command.f a.f0 with
 | some b => cleanR a b
 | none => a
theorem print_back (l : List S31) (hl : l.length ≤ 1000) (h : ∀ a ∈ l, Sz a) (hp : (printR l []).2 = 0) : Ev (fun k => shell_Parse.f k (printR l []).1) (l.map cleanA, 0, 0) := by
 obtain ⟨e, hok⟩ := printR_ok l [] hp
 rw [e, List.nil_append]
 have hz : ∀ l : List S31, (textOf (l.map fun a => (lineR a).1.toList)).length ≤ 8001 * l.length := by
  intro l
  induction l with
  | nil => exact Nat.le_refl _
  | cons a l ih =>
   have := lineR_len a
   rw [List.map_cons, show ∀ (x : List UInt8) (T : List (List UInt8)), textOf (x :: T) = x ++ [10] ++ textOf T from fun _ _ => rfl, List.length_append, List.length_append, List.length_cons, size_list]
   rw [List.length_nil, List.length_cons]
   omega
 have hm : (l.map fun a => (lineR a).1.toList) = (l.map fun a => ((lineR a).1.toList, some (cleanA a))).map (·.1) := by rw [List.map_map]; rfl
 have hf : (l.map fun a => ((lineR a).1.toList, some (cleanA a))).filterMap (·.2) = l.map cleanA := by
  rw [List.filterMap_map]
  show l.filterMap (some ∘ cleanA) = _
  rw [List.filterMap_eq_map]
 have hzl := hz l
 rw [hm] at hzl ⊢
 rw [← hf]
 refine parse_text _ (by rw [List.length_map]; exact hl) (by omega) (fun x hx => ?_)
 obtain ⟨a, ha, rfl⟩ := List.mem_map.1 hx
 obtain ⟨b, hb, h0, hw, h8, ht⟩ := lineR_ok (hok a ha)
 refine ⟨by rw [show ((lineR a).1.toList, some (cleanA a)).1 = (lineR a).1.toList from rfl, ht]; exact line_no10 a b hb h0 hw, ?_⟩
 have := line_back a (h a ha) b hb h0 hw [] [] (fun c hc => nomatch hc) rfl (.inl rfl) (by simpa using h8)
 rw [List.nil_append, List.append_nil] at this
 show LineIs (B (lineR a).1.toList) (some (cleanA a))
 rw [ht, show cleanA a = cleanR a b by unfold cleanA; rw [hb]]
 exact this
theorem rd31 (l : List S31) (i : Nat) (h : i < l.length) : rd_T31 l (i : Int) = l[i] := by
 unfold rd_T31
 simp [List.getD_eq_getElem?_getD, h]
end Go.Proofs.YtenigkhfldafaaaDoor.A

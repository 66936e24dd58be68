/- The plain laws of paths: joins, back. -/
import Derived.Test.YtodamaaiglipaaaDoorP3
namespace Go.Proofs.YtodamaaiglipaaaDoor.A
open Go.RowKit Go.Proofs.YtodamaaiglipaaaDoorW.PrintWords

/-- Names joined on to what is had. -/
def joinGo : List UInt8 → List (List UInt8) → List UInt8 × Int
  | acc, [] => (acc, 0)
  | acc, x :: r => if nameE x = 0 then (if ((acc ++ 47 :: x).length : Int) > 255 then ([], 4) else joinGo (acc ++ 47 :: x) r) else ([], nameE x)
def joinE (xs : List (List UInt8)) : List UInt8 × Int := if xs = [] then ([47], 0) else joinGo [] xs

theorem nameE_ok {x : List UInt8} (h : nameE x = 0) : x.length ≤ 19 ∧ x ≠ [] ∧ (47 : UInt8) ∉ x := by
  unfold nameE at h
  by_cases h1 : (x.length : Int) > 19
  · rw [if_pos h1] at h; cases h
  · rw [if_neg h1] at h
    by_cases h2 : x = [] ∨ x = [46] ∨ x = [46, 46]
    · rw [if_pos h2] at h; cases h
    · rw [if_neg h2] at h
      refine ⟨by omega, fun e => h2 (.inl e), fun hm => ?_⟩
      by_cases h3 : x.all nameByte = true
      · have := List.all_eq_true.1 h3 _ hm
        exact absurd this (by decide)
      · rw [if_neg h3] at h; cases h

theorem ref_join_l0 (xs : List ByteArray) (hx : xs.length ≤ 9223372036854775806) (d : Nat) : ∀ (n : Nat) (acc : List UInt8), n + d = xs.length → acc.length ≤ 255 →
    Ev (fun k => grapnelref10_Join.l0 k xs (B acc) n) (B (joinGo acc ((xs.drop n).map (·.toList))).1, (joinGo acc ((xs.drop n).map (·.toList))).2) := by
  induction d with
  | zero =>
    intro n acc hn ha
    rw [List.drop_eq_nil_of_le (show xs.length ≤ n by omega)]
    refine Ev.step (f := fun _ => some (B acc, 0)) (fun k => ?_) (Ev.now _)
    simp only [grapnelref10_Join.l0]
    rw [if_neg (by omega)]
  | succ d ih =>
    intro n acc hn ha
    have hlt : n < xs.length := by omega
    rw [List.drop_eq_getElem_cons hlt, List.map_cons, joinGo]
    have e47 : (⟨#[47]⟩ : ByteArray) = B [47] := rfl
    have hcat : (B acc ++ (⟨#[47]⟩ : ByteArray)) ++ xs[n] = B (acc ++ 47 :: (xs[n]).toList) := by
      apply list_inj
      rw [list_append, list_append, B_list, B_list, e47, B_list]
      simp
    have hs1 : (B acc).size = acc.length := B_size acc
    have hs2 : (B acc ++ (⟨#[47]⟩ : ByteArray)).size = acc.length + 1 := by rw [ByteArray.size_append, hs1]; rfl
    refine Ev.step (f := fun k => (grapnelref10_Name.f k xs[n]).bind fun t => if t = 0 then (if (B acc).size + 1 ≤ 9223372036854775807 then (if (B acc ++ (⟨#[47]⟩ : ByteArray)).size + (xs[n]).size ≤ 9223372036854775807 then (if ((B (acc ++ 47 :: (xs[n]).toList)).size : Int) > 255 then some (B [], 4) else grapnelref10_Join.l0 k xs (B (acc ++ 47 :: (xs[n]).toList)) ((n + 1 : Nat) : Int)) else none) else none) else some (B [], t)) (fun k => ?_) ?_
    · simp only [grapnelref10_Join.l0]
      rw [if_pos (by omega), if_pos (by omega), rd_at xs n hlt, hcat, wrap_up (by omega)]
      rfl
    · refine Ev.bind (ref_Name_eq _) ?_
      by_cases h0 : nameE (xs[n]).toList = 0
      · have hsz : (xs[n]).size ≤ 19 := by have := (nameE_ok h0).1; rw [size_list] at this; exact this
        simp only [if_pos h0]
        refine Ev.congr (fun k => by rw [if_pos (show (B acc).size + 1 ≤ 9223372036854775807 by omega), if_pos (show (B acc ++ (⟨#[47]⟩ : ByteArray)).size + (xs[n]).size ≤ 9223372036854775807 by omega), B_size]) ?_
        by_cases h1 : ((acc ++ 47 :: (xs[n]).toList).length : Int) > 255
        · simp only [if_pos h1]
          exact Ev.now _
        · simp only [if_neg h1]
          exact ih (n + 1) _ (by omega) (by omega)
      · simp only [if_neg h0]
        exact Ev.now _
theorem ref_Join_eq (xs : List ByteArray) (hx : xs.length ≤ 9223372036854775806) : Ev (fun k => grapnelref10_Join.f k xs) (B (joinE (xs.map (·.toList))).1, (joinE (xs.map (·.toList))).2) := by
  unfold grapnelref10_Join.f joinE
  by_cases h : xs = []
  · subst h
    exact Ev.congr (f := fun _ => some (B [47], 0)) (fun k => by rw [if_pos (by rfl)]; rfl) (Ev.now _)
  · have hne : xs.length ≠ 0 := fun e => h (List.eq_nil_of_length_eq_zero e)
    rw [if_neg (by simpa using h)]
    have := ref_join_l0 xs hx xs.length 0 [] (by omega) (by simp)
    rw [List.drop_zero] at this
    exact Ev.congr (fun k => by rw [if_neg (by omega)]; rfl) this

theorem join_l0 (xs : List ByteArray) (hx : xs.length ≤ 140737488355328) (hne : xs ≠ []) (d : Nat) : ∀ (n : Nat) (acc : List UInt8), n + d = xs.length → acc.length ≤ 255 → acc = Lib.joinTail [47] ((xs.take n).map (·.toList)) →
    Ev (fun k => path_Join.l0 k xs (acc.length : Int) xs (xs.length : Int) n) (B (joinGo acc ((xs.drop n).map (·.toList))).1, (joinGo acc ((xs.drop n).map (·.toList))).2) := by
  induction d with
  | zero =>
    intro n acc hn ha hacc
    rw [List.drop_eq_nil_of_le (show xs.length ≤ n by omega)]
    rw [List.take_of_length_le (by omega)] at hacc
    obtain ⟨x, r, rfl⟩ : ∃ x r, xs = x :: r := by
      cases xs with
      | nil => exact absurd rfl hne
      | cons a t => exact ⟨a, t, rfl⟩
    have hj : (47 : UInt8) :: Lib.join (((x :: r)).map (·.data.toList)) [47] = acc := by
      have e : ∀ l : List ByteArray, l.map (·.data.toList) = l.map (·.toList) := fun l => List.map_congr_left (fun y _ => (ByteArray.toList_eq y).symm)
      rw [e, List.map_cons, Lib.join_cons, hacc, List.map_cons]
      simp [Lib.joinTail]
    have hjl : (Lib.join (((x :: r)).map (·.data.toList)) [47]).length + 1 = acc.length := by rw [← hj]; rfl
    have hjf : strings_Join.f (x :: r) (⟨#[47]⟩ : ByteArray) = some (B (Lib.join (((x :: r)).map (·.data.toList)) [47])) := by
      unfold strings_Join.f
      rw [if_pos]
      · rfl
      · refine ⟨hx, ?_⟩
        show (Lib.join (((x :: r)).map (·.data.toList)) [47]).length ≤ _
        omega
    refine Ev.step (f := fun _ => some (B acc, 0)) (fun k => ?_) (Ev.now _)
    simp only [path_Join.l0]
    rw [if_neg (by omega), hjf, Option.bind_some, if_pos (by rw [B_size]; omega)]
    have : (⟨#[47]⟩ : ByteArray) ++ B (Lib.join (((x :: r)).map (·.data.toList)) [47]) = B acc := by
      apply list_inj
      rw [list_append, B_list, B_list, ← hj, show (⟨#[47]⟩ : ByteArray).toList = [47] from ByteArray.toList_mk [47]]
      rfl
    rw [this]
  | succ d ih =>
    intro n acc hn ha hacc
    have hlt : n < xs.length := by omega
    rw [List.drop_eq_getElem_cons hlt, List.map_cons, joinGo]
    have hst : ∀ k, path_Join.l0 (k + 1) xs (acc.length : Int) xs (xs.length : Int) n = if nameE (xs[n]).toList = 0 then (if wrap64 ((acc.length : Int) + wrap64 (1 + ((xs[n]).size : Int))) > 255 then some (B [], 4) else path_Join.l0 k xs (wrap64 ((acc.length : Int) + wrap64 (1 + ((xs[n]).size : Int)))) xs (xs.length : Int) ((n + 1 : Nat) : Int)) else some (B [], nameE (xs[n]).toList) := by
      intro k
      simp only [path_Join.l0]
      rw [if_pos (by omega), if_pos (by omega), if_pos (by omega), rd_at xs n hlt, path_Name_eq, wrap_up (by omega)]
      rfl
    by_cases h0 : nameE (xs[n]).toList = 0
    · have hsz : (xs[n]).size ≤ 19 := by have := (nameE_ok h0).1; rw [size_list] at this; exact this
      have hw : wrap64 ((acc.length : Int) + wrap64 (1 + ((xs[n]).size : Int))) = ((acc ++ 47 :: (xs[n]).toList).length : Int) := by
        rw [wrap_small (i := 1 + _) (by omega) (by omega), wrap_small (by omega) (by omega), List.length_append, List.length_cons, size_list]
        omega
      rw [if_pos h0]
      rw [hw] at hst
      by_cases h1 : ((acc ++ 47 :: (xs[n]).toList).length : Int) > 255
      · rw [if_pos h1]
        refine Ev.step (f := fun _ => some (B [], 4)) (fun k => ?_) (Ev.now _)
        rw [hst, if_pos h0, if_pos h1]
      · rw [if_neg h1]
        refine Ev.step (fun k => ?_) (ih (n + 1) (acc ++ 47 :: (xs[n]).toList) (by omega) (by omega) ?_)
        · rw [hst, if_pos h0, if_neg h1]
        · rw [hacc, List.take_succ_eq_append_getElem hlt, List.map_append]
          simp [Lib.joinTail]
    · rw [if_neg h0]
      refine Ev.step (f := fun _ => some (B [], nameE (xs[n]).toList)) (fun k => ?_) (Ev.now _)
      rw [hst, if_neg h0]
theorem path_Join_eq (xs : List ByteArray) (hx : xs.length ≤ 140737488355328) : Ev (fun k => path_Join.f k xs) (B (joinE (xs.map (·.toList))).1, (joinE (xs.map (·.toList))).2) := by
  unfold path_Join.f joinE
  by_cases h : xs = []
  · subst h
    exact Ev.congr (f := fun _ => some (B [47], 0)) (fun k => by rw [if_pos (by rfl)]; rfl) (Ev.now _)
  · have hne : xs.length ≠ 0 := fun e => h (List.eq_nil_of_length_eq_zero e)
    rw [if_neg (by simpa using h)]
    have := join_l0 xs hx h xs.length 0 [] (by omega) (by simp) (by simp [Lib.joinTail])
    rw [List.drop_zero] at this
    exact Ev.congr (fun k => by rw [if_neg (by omega)]; rfl) this

theorem joins_law (l : List ByteArray) : ∃ k, grapnellaw10_PathJoins.f k l = some true := by
  refine Ev.rounds (r := true) ?_
  unfold grapnellaw10_PathJoins.f
  have hcore : ∀ l : List ByteArray, l.length ≤ 200 → Ev (fun k => (path_Join.f k l).bind fun b => (grapnelref10_Join.f k l).bind fun c => if b.1.toList = c.1.toList then (if b.2 = c.2 then (grapnellaw10_awake.f k).bind fun t => some t else some false) else some false) true := by
    intro l hl
    refine Ev.bind (path_Join_eq l (by omega)) ?_
    refine Ev.bind (ref_Join_eq l (by omega)) ?_
    simp only [if_true]
    exact awake_bind
  by_cases h : (l.length : Int) > 200
  · exact Ev.congr (fun k => by rw [if_pos h, if_pos (by omega)]) (hcore (l.take 200) (List.length_take_le _ _))
  · exact Ev.congr (fun k => by rw [if_neg h]) (hcore l (by omega))

/-! ### Back -/
theorem firstErr_all : ∀ {l : List (List UInt8)}, firstErr l = 0 → ∀ x ∈ l, nameE x = 0
  | [], _, x, hx => by cases hx
  | y :: r, h, x, hx => by
    rw [firstErr] at h
    by_cases h0 : nameE y = 0
    · rw [if_pos h0] at h
      rcases List.mem_cons.1 hx with rfl | hx
      · exact h0
      · exact firstErr_all h x hx
    · rw [if_neg h0] at h; exact absurd h h0
theorem all_firstErr : ∀ {l : List (List UInt8)}, (∀ x ∈ l, nameE x = 0) → firstErr l = 0
  | [], _ => rfl
  | y :: r, h => by rw [firstErr, if_pos (h y List.mem_cons_self)]; exact all_firstErr (fun x hx => h x (List.mem_cons_of_mem _ hx))
theorem joinGo_ok : ∀ (l : List (List UInt8)) (acc : List UInt8), (∀ x ∈ l, nameE x = 0) → (acc ++ Lib.joinTail [47] l).length ≤ 255 → joinGo acc l = (acc ++ Lib.joinTail [47] l, 0)
  | [], acc, _, _ => by simp [joinGo, Lib.joinTail]
  | y :: r, acc, h, hl => by
    have e : acc ++ Lib.joinTail [47] (y :: r) = (acc ++ 47 :: y) ++ Lib.joinTail [47] r := by simp [Lib.joinTail]
    rw [e] at hl ⊢
    have h1 : (acc ++ 47 :: y).length ≤ 255 := by rw [List.length_append] at hl; omega
    rw [joinGo, if_pos (h y List.mem_cons_self), if_neg (by omega)]
    exact joinGo_ok r _ (fun x hx => h x (List.mem_cons_of_mem _ hx)) hl
theorem joinGo_back : ∀ (l : List (List UInt8)) (acc : List UInt8), acc.length ≤ 255 → (joinGo acc l).2 = 0 → (∀ x ∈ l, nameE x = 0) ∧ (joinGo acc l).1 = acc ++ Lib.joinTail [47] l ∧ (joinGo acc l).1.length ≤ 255
  | [], acc, ha, _ => ⟨(fun x hx => by cases hx), by simp [joinGo, Lib.joinTail], ha⟩
  | y :: r, acc, ha, h => by
    rw [joinGo] at h ⊢
    by_cases h0 : nameE y = 0
    · rw [if_pos h0] at h ⊢
      by_cases h1 : ((acc ++ 47 :: y).length : Int) > 255
      · rw [if_pos h1] at h; cases h
      · rw [if_neg h1] at h ⊢
        obtain ⟨a, b, c⟩ := joinGo_back r _ (by omega) h
        refine ⟨fun x hx => ?_, by rw [b]; simp [Lib.joinTail], c⟩
        rcases List.mem_cons.1 hx with rfl | hx
        · exact h0
        · exact a x hx
    · rw [if_neg h0] at h; exact absurd h h0
theorem joinTail_pf : ∀ (r cur : List UInt8), Lib.joinTail [47] (pf cur r) = 47 :: (cur ++ r)
  | [], cur => by simp [pf, Lib.joinTail]
  | c :: r, cur => by
    rw [pf]
    by_cases hc : c = 47
    · rw [if_pos hc]
      have := joinTail_pf r []
      simp only [Lib.joinTail, List.map_cons, List.flatten_cons] at this ⊢
      rw [this, hc]
      simp
    · rw [if_neg hc, joinTail_pf r _]
      simp
theorem pf_joinTail : ∀ (l : List (List UInt8)) (x : List UInt8), (47 : UInt8) ∉ x → (∀ y ∈ l, (47 : UInt8) ∉ y) → pf [] (x ++ Lib.joinTail [47] l) = x :: l
  | [], x, hx, _ => by
    simp only [Lib.joinTail, List.map_nil, List.flatten_nil, List.append_nil]
    rw [pf_none x [] hx]; rfl
  | y :: r, x, hx, h => by
    have e : x ++ Lib.joinTail [47] (y :: r) = x ++ 47 :: (y ++ Lib.joinTail [47] r) := by simp [Lib.joinTail]
    rw [e, pf_hit x [] _ hx, pf_joinTail r y (h y List.mem_cons_self) (fun z hz => h z (List.mem_cons_of_mem _ hz))]
    rfl
theorem split_join {l : List UInt8} (h : (splitE l).2 = 0) : joinE (splitE l).1 = (l, 0) := by
  obtain ⟨hl, r, rfl, h1 | ⟨hr, he, e⟩⟩ := splitE_ok h
  · obtain ⟨rfl, e⟩ := h1
    rw [e]; rfl
  · rw [e, joinE, if_neg (pf_ne r [])]
    have hj := joinTail_pf r []
    rw [List.nil_append] at hj
    rw [joinGo_ok (pf [] r) [] (firstErr_all he) (by rw [hj]; simp only [List.nil_append]; omega), hj]
    rfl
theorem join_split {l : List (List UInt8)} (h : (joinE l).2 = 0) : splitE (joinE l).1 = (l, 0) := by
  by_cases hn : l = []
  · subst hn; rfl
  · rw [joinE, if_neg hn] at h ⊢
    obtain ⟨ha, hb, hc⟩ := joinGo_back l [] (by simp) h
    obtain ⟨x, r, rfl⟩ : ∃ x r, l = x :: r := by
      cases l with
      | nil => exact absurd rfl hn
      | cons a t => exact ⟨a, t, rfl⟩
    have hu : (joinGo [] (x :: r)).1 = 47 :: (x ++ Lib.joinTail [47] r) := by rw [hb]; simp [Lib.joinTail]
    have hx := nameE_ok (ha x List.mem_cons_self)
    have hp := pf_joinTail r x hx.2.2 (fun y hy => (nameE_ok (ha y (List.mem_cons_of_mem _ hy))).2.2)
    rw [hu] at hc ⊢
    unfold splitE
    rw [if_neg (by omega)]
    simp only [if_true]
    rw [if_neg (by simp [hx.2.1]), hp, if_pos (all_firstErr ha)]

theorem back_core (s : ByteArray) (l : List ByteArray) (hl : l.length ≤ 200) :
    Ev (fun k => (path_Split.f k s).bind fun a => (path_Join.f k a.1).bind fun t => (path_Join.f k l).bind fun u => (path_Split.f k u.1).bind fun b =>
      if a.2 = 0 then (if t.2 = 0 then (if t.1.toList = s.toList then (if u.2 = 0 then (if b.2 = 0 then ((grapnellaw10_same.f k b.1 l).bind fun t => (if t = true then ((grapnellaw10_awake.f k).bind fun t => (some t)) else (some false))) else (some false)) else ((grapnellaw10_awake.f k).bind fun t => (some t))) else (some false)) else (some false))
      else (if u.2 = 0 then (if b.2 = 0 then ((grapnellaw10_same.f k b.1 l).bind fun t => (if t = true then ((grapnellaw10_awake.f k).bind fun t => (some t)) else (some false))) else (some false)) else ((grapnellaw10_awake.f k).bind fun t => (some t)))) true := by
  have hsl := splitE_length s.toList
  refine Ev.bind (path_Split_eq s) ?_
  refine Ev.bind (path_Join_eq _ (by simp; omega)) ?_
  refine Ev.bind (path_Join_eq l (by omega)) ?_
  refine Ev.bind (path_Split_eq _) ?_
  simp only [B_list, map_B]
  have hlast : Ev (fun k => if (joinE (l.map (·.toList))).2 = 0 then (if (splitE (joinE (l.map (·.toList))).1).2 = 0 then ((grapnellaw10_same.f k ((splitE (joinE (l.map (·.toList))).1).1.map B) l).bind fun t => (if t = true then ((grapnellaw10_awake.f k).bind fun t => (some t)) else (some false))) else (some false)) else ((grapnellaw10_awake.f k).bind fun t => (some t))) true := by
    by_cases hg : (joinE (l.map (·.toList))).2 = 0
    · simp only [if_pos hg]
      rw [join_split hg]
      simp only [if_true]
      have hb : (l.map (·.toList)).map B = l := by
        rw [List.map_map]
        conv => rhs; rw [← List.map_id l]
        exact List.map_congr_left (fun x _ => list_B x)
      rw [hb]
      refine Ev.bind (same_eq l l (by omega)) ?_
      simp only [decide_true, if_true]
      exact awake_bind
    · simp only [if_neg hg]
      exact awake_bind
  by_cases he : (splitE s.toList).2 = 0
  · simp only [if_pos he]
    rw [split_join he]
    simp only [if_true]
    exact hlast
  · simp only [if_neg he]
    exact hlast

theorem back_law (s : ByteArray) (l : List ByteArray) : ∃ k, grapnellaw10_PathBack.f k s l = some true := by
  refine Ev.rounds (r := true) ?_
  unfold grapnellaw10_PathBack.f
  by_cases h : (l.length : Int) > 200
  · exact Ev.congr (fun k => by rw [if_pos h, if_pos (by omega)]) (back_core s (l.take 200) (List.length_take_le _ _))
  · exact Ev.congr (fun k => by rw [if_neg h]) (back_core s l (by omega))
end Go.Proofs.YtodamaaiglipaaaDoor.A

/- The plain laws of paths: the reference's splitting, and paths within paths. -/
import Derived.Test.YtodamaaiglipaaaDoorP1
namespace Go.Proofs.YtodamaaiglipaaaDoor.A
open Go.RowKit Go.Proofs.YtodamaaiglipaaaDoorW.PrintWords

/-- As the reference goes: what is had, the name that has begun, the rest. -/
def refSpl (acc : List (List UInt8)) (cur : List UInt8) : List UInt8 → List (List UInt8) × Int
  | [] => if nameE cur = 0 then (acc ++ [cur], 0) else ([], nameE cur)
  | c :: r => if c = 47 then (if nameE cur = 0 then refSpl (acc ++ [cur]) [] r else ([], nameE cur)) else refSpl acc (cur ++ [c]) r
theorem refSpl_eq : ∀ (l cur : List UInt8) (acc : List (List UInt8)), refSpl acc cur l = if firstErr (pf cur l) = 0 then (acc ++ pf cur l, 0) else ([], firstErr (pf cur l))
  | [], cur, acc => by
    simp only [refSpl, pf, firstErr]
    by_cases h : nameE cur = 0 <;> simp [h]
  | c :: r, cur, acc => by
    rw [refSpl, pf]
    by_cases hc : c = 47
    · rw [if_pos hc, if_pos hc, firstErr]
      by_cases h : nameE cur = 0
      · rw [if_pos h, if_pos h, refSpl_eq r [] _]
        simp
      · rw [if_neg h, if_neg h, if_neg h]
    · rw [if_neg hc, if_neg hc]
      exact refSpl_eq r _ acc

theorem ref_l0 (s : ByteArray) (hs : (s.size : Int) ≤ 255) (d : Nat) : ∀ (n m : Nat) (acc : List (List UInt8)), n + d = s.toList.length → m ≤ n → acc.length ≤ n →
    Ev (fun k => grapnelref10_Split.l0 k s (acc.map B) m n) ((refSpl acc ((s.toList.take n).drop m) (s.toList.drop n)).1.map B, (refSpl acc ((s.toList.take n).drop m) (s.toList.drop n)).2) := by
  have hl := size_list s
  have e47 : ∀ (c : UInt8), ((c.toNat : Int) != 47) = !decide (c = 47) := by
    intro c
    rw [Bool.eq_iff_iff]
    simp only [bne_iff_ne, ne_eq, Bool.not_eq_true', decide_eq_false_iff_not]
    constructor
    · intro h e; subst e; exact h rfl
    · intro h e
      apply h
      apply UInt8.toNat_inj.1
      have : c.toNat = 47 := by omega
      rw [this]; rfl
  -- one name more
  have hj2 : ∀ (n m : Nat) (acc : List (List UInt8)) (r : List ByteArray × Int), n ≤ s.toList.length → m ≤ n → acc.length ≤ n →
      (nameE ((s.toList.take n).drop m) = 0 → Ev (fun k => grapnelref10_Split.l0 k s ((acc ++ [(s.toList.take n).drop m]).map B) ((n + 1 : Nat) : Int) ((n + 1 : Nat) : Int)) r) →
      (nameE ((s.toList.take n).drop m) ≠ 0 → r = ([], nameE ((s.toList.take n).drop m))) →
      Ev (fun k => grapnelref10_Split.j2 k s (acc.map B) m n false) r := by
    intro n m acc r hn hm ha h1 h2
    have hx : (s.extract (m : Int).toNat (n : Int).toNat).toList = (s.toList.take n).drop m := by rw [list_ext]; rfl
    have hB : s.extract (m : Int).toNat (n : Int).toNat = B ((s.toList.take n).drop m) := by rw [← hx, list_B]
    have hw : wrap64 ((n : Int) + 1) = ((n + 1 : Nat) : Int) := by rw [wrap_small (by omega) (by omega)]; rfl
    refine Ev.step (f := fun k => (grapnelref10_Name.f k (s.extract (m : Int).toNat (n : Int).toNat)).bind fun t => if t = 0 then grapnelref10_Split.l0 k s ((acc ++ [(s.toList.take n).drop m]).map B) ((n + 1 : Nat) : Int) ((n + 1 : Nat) : Int) else some ([], t)) (fun k => ?_) ?_
    · simp only [grapnelref10_Split.j2]
      rw [if_neg (by simp), if_pos (by omega), if_pos (by omega), if_pos (by omega)]
      congr 1
      funext t
      rw [hw, hB, if_pos (show (acc.map B).length < 8796093022208 by rw [List.length_map]; omega)]
      simp
    · refine Ev.bind (ref_Name_eq _) ?_
      rw [hx]
      by_cases h0 : nameE ((s.toList.take n).drop m) = 0
      · simp only [if_pos h0]
        exact h1 h0
      · simp only [if_neg h0]
        rw [h2 h0]
        exact Ev.now _
  induction d with
  | zero =>
    intro n m acc hn hm ha
    have e : s.toList.drop n = [] := List.drop_eq_nil_of_le (by omega)
    rw [e, refSpl]
    refine Ev.step (f := fun k => grapnelref10_Split.j2 k s (acc.map B) m n false) (fun k => ?_) ?_
    · simp only [grapnelref10_Split.l0]
      rw [if_pos (by omega), if_neg (by omega)]
    · refine hj2 n m acc _ (by omega) hm ha (fun h0 => ?_) (fun h0 => ?_)
      · rw [if_pos h0]
        refine Ev.step (f := fun _ => some ((acc ++ [(s.toList.take n).drop m]).map B, 0)) (fun k => ?_) (Ev.now _)
        simp only [grapnelref10_Split.l0]
        rw [if_neg (by omega)]
      · rw [if_neg h0]; rfl
  | succ d ih =>
    intro n m acc hn hm ha
    have hlt : n < s.toList.length := by omega
    have hb := bt_list s n hlt
    have hw : wrap64 ((n : Int) + 1) = ((n + 1 : Nat) : Int) := by rw [wrap_small (by omega) (by omega)]; rfl
    rw [List.drop_eq_getElem_cons hlt, refSpl]
    have hst : ∀ k, grapnelref10_Split.l0 (k + 1) s (acc.map B) m n = grapnelref10_Split.j2 k s (acc.map B) m n (!decide (s.toList[n] = 47)) := by
      intro k
      simp only [grapnelref10_Split.l0]
      rw [if_pos (by omega), if_pos (by omega), if_pos (by omega), hb, e47]
    by_cases hc : s.toList[n] = 47
    · rw [if_pos hc]
      refine Ev.step (f := fun k => grapnelref10_Split.j2 k s (acc.map B) m n false) (fun k => by rw [hst]; simp [hc]) ?_
      refine hj2 n m acc _ (by omega) hm ha (fun h0 => ?_) (fun h0 => ?_)
      · rw [if_pos h0]
        have := ih (n + 1) (n + 1) (acc ++ [(s.toList.take n).drop m]) (by omega) (Nat.le_refl _) (by rw [List.length_append]; simp only [List.length_singleton]; omega)
        rw [List.drop_eq_nil_of_le (show (s.toList.take (n + 1)).length ≤ n + 1 from List.length_take_le _ _)] at this
        exact this
      · rw [if_neg h0]; rfl
    · rw [if_neg hc]
      have := ih (n + 1) m acc (by omega) (by omega) (by omega)
      have ht : (s.toList.take (n + 1)).drop m = (s.toList.take n).drop m ++ [s.toList[n]] := by
        rw [List.take_succ_eq_append_getElem hlt, List.drop_append_of_le_length (by rw [List.length_take]; omega)]
      rw [ht] at this
      refine Ev.step (fun k => by rw [hst]) ?_
      have hd : (!decide (s.toList[n] = 47)) = true := by simp [hc]
      rw [hd]
      refine Ev.step (fun k => ?_) this
      simp only [grapnelref10_Split.j2]
      rw [if_pos trivial, hw]

theorem ref_Split_eq (s : ByteArray) : Ev (fun k => grapnelref10_Split.f k s) ((splitE s.toList).1.map B, (splitE s.toList).2) := by
  have hl := size_list s
  unfold grapnelref10_Split.f splitE
  by_cases h : (s.toList.length : Int) > 255
  · rw [if_pos h]
    exact Ev.congr (f := fun _ => some ([], 4)) (fun k => by rw [if_pos (by omega)]) (Ev.now _)
  · rw [if_neg h]
    have h1 : ¬ (s.size : Int) > 255 := by omega
    have hj : Ev (fun k => grapnelref10_Split.j0 k s true) ([], 40) := Ev.step (f := fun _ => some ([], 40)) (fun k => by simp [grapnelref10_Split.j0]) (Ev.now _)
    match hm : s.toList with
    | [] => exact Ev.congr (fun k => by rw [if_neg h1, if_pos rfl]) hj
    | c :: r =>
      simp only
      have hb : bt s 0 = (c.toNat : Int) := by
        have := bt_list s 0 (by rw [hm]; simp)
        simp only [hm, List.getElem_cons_zero] at this
        exact this
      have hsz : s.size = r.length + 1 := by rw [← hl, hm]; rfl
      by_cases hc : c = 47
      · subst hc
        rw [if_pos rfl]
        have hf : ∀ k, (if (s.size : Int) > 255 then some (([] : List ByteArray), (4 : Int)) else if (47 :: r : List UInt8) = [] then grapnelref10_Split.j0 k s true else if 0 < (s.size : Int) then grapnelref10_Split.j0 k s (bt s 0 != 47) else none) = grapnelref10_Split.j0 k s false := fun k => by
          rw [if_neg h1, if_neg (by simp), if_pos (by omega), hb]
          rfl
        refine Ev.congr hf ?_
        by_cases hr : r = []
        · subst hr
          rw [if_pos rfl]
          refine Ev.step (f := fun _ => some ([], 0)) (fun k => ?_) (Ev.now _)
          simp only [grapnelref10_Split.j0]
          rw [if_neg (by simp), if_pos (by rw [hsz]; rfl)]
        · rw [if_neg hr]
          have hloop := ref_l0 s (by omega) r.length 1 1 [] (by rw [hm]; simp; omega) (Nat.le_refl _) (by simp)
          rw [hm] at hloop
          simp only [List.take_succ_cons, List.take_zero, List.drop_succ_cons, List.drop_zero, List.map_nil] at hloop
          rw [refSpl_eq] at hloop
          simp only [List.nil_append] at hloop
          refine Ev.step (fun k => ?_) hloop
          simp only [grapnelref10_Split.j0]
          have hne : r.length ≠ 0 := fun e => hr (List.eq_nil_of_length_eq_zero e)
          rw [if_neg (by simp), if_neg (by omega)]
          rfl
      · rw [if_neg hc]
        refine Ev.congr (fun k => ?_) hj
        rw [if_neg h1, if_neg (by simp), if_pos (by omega), hb]
        have : ((c.toNat : Int) != 47) = true := by
          rw [bne_iff_ne]
          intro e
          apply hc
          apply UInt8.toNat_inj.1
          have : c.toNat = 47 := by omega
          rw [this]; rfl
        rw [this]

/-- 'same' tells whether two lists are one. -/
theorem same_l0 (a b : List ByteArray) (hab : a.length = b.length) (ha : a.length ≤ 9223372036854775806) (d : Nat) : ∀ n : Nat, n + d = a.length →
    Ev (fun k => grapnellaw10_same.l0 k a b n) (decide (a.drop n = b.drop n)) := by
  induction d with
  | zero =>
    intro n hn
    rw [List.drop_eq_nil_of_le (by omega), List.drop_eq_nil_of_le (by omega)]
    refine Ev.step (f := fun _ => some true) (fun k => ?_) (Ev.now _)
    simp only [grapnellaw10_same.l0]
    rw [if_neg (by omega)]
  | succ d ih =>
    intro n hn
    have h1 : n < a.length := by omega
    have h2 : n < b.length := by omega
    have hr1 : rdOf ByteArray.empty a (n : Int) = a[n] := by simp [rdOf, h1]
    have hr2 : rdOf ByteArray.empty b (n : Int) = b[n] := by simp [rdOf, h2]
    have hw : wrap64 ((n : Int) + 1) = ((n + 1 : Nat) : Int) := by rw [wrap_small (by omega) (by omega)]; rfl
    rw [List.drop_eq_getElem_cons h1, List.drop_eq_getElem_cons h2]
    have hst : ∀ k, grapnellaw10_same.l0 (k + 1) a b n = if (a[n]).toList = (b[n]).toList then grapnellaw10_same.l0 k a b ((n + 1 : Nat) : Int) else some false := by
      intro k
      simp only [grapnellaw10_same.l0]
      rw [if_pos (by omega), if_pos (by omega), if_pos (by omega), hr1, hr2, hw]
    by_cases he : (a[n]).toList = (b[n]).toList
    · have := ih (n + 1) (by omega)
      have e : decide (a[n] :: a.drop (n + 1) = b[n] :: b.drop (n + 1)) = decide (a.drop (n + 1) = b.drop (n + 1)) := by
        rw [list_inj he]
        exact decide_eq_decide.2 (by rw [List.cons.injEq]; simp only [true_and])
      rw [e]
      refine Ev.step (fun k => ?_) this
      rw [hst, if_pos he]
    · have e : decide (a[n] :: a.drop (n + 1) = b[n] :: b.drop (n + 1)) = false := by
        simp only [decide_eq_false_iff_not, List.cons.injEq, not_and]
        intro h
        exact absurd (by rw [h]) he
      rw [e]
      refine Ev.step (f := fun _ => some false) (fun k => ?_) (Ev.now _)
      rw [hst, if_neg he]
theorem same_eq (a b : List ByteArray) (ha : a.length ≤ 9223372036854775806) : Ev (fun k => grapnellaw10_same.f k a b) (decide (a = b)) := by
  unfold grapnellaw10_same.f
  by_cases h : a.length = b.length
  · have := same_l0 a b h ha a.length 0 (by omega)
    rw [List.drop_zero, List.drop_zero] at this
    exact Ev.congr (fun k => by rw [if_pos (by omega)]; rfl) this
  · have e : decide (a = b) = false := by
      simp only [decide_eq_false_iff_not]
      intro h'
      exact h (by rw [h'])
    rw [e]
    exact Ev.congr (f := fun _ => some false) (fun k => by rw [if_neg (by omega)]) (Ev.now _)

theorem splitE_length : ∀ (l : List UInt8), (splitE l).1.length ≤ 256
  | [] => by simp [splitE]
  | c :: r => by
    have := pf_length r []
    unfold splitE
    by_cases h : ((c :: r).length : Int) > 255
    · rw [if_pos h]; simp
    · rw [if_neg h]
      simp only [List.length_cons] at h
      simp only
      by_cases h1 : c = 47
      · rw [if_pos h1]
        by_cases h2 : r = []
        · rw [if_pos h2]; simp
        · rw [if_neg h2]
          by_cases h3 : firstErr (pf [] r) = 0
          · rw [if_pos h3]
            show (pf [] r).length ≤ 256
            omega
          · rw [if_neg h3]; simp
      · rw [if_neg h1]; simp

theorem splits_law : grapnellaw10_PathSplits.Pure := by
  intro s _
  refine Ev.rounds (r := true) ?_
  unfold grapnellaw10_PathSplits.f
  refine Ev.bind (path_Split_eq s) ?_
  refine Ev.bind (ref_Split_eq s) ?_
  have hl := splitE_length s.toList
  refine Ev.bind (same_eq _ _ (by simp; omega)) ?_
  simp only [decide_true, if_true]
  exact Ev.bind awake_true (Ev.now _)
end Go.Proofs.YtodamaaiglipaaaDoor.A

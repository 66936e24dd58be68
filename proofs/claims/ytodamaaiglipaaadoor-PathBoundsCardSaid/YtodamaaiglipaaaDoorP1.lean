/- The plain laws of paths: splitting, and the four laws of names, splits and paths within paths. -/
import Derived.Test.YtodamaaiglipaaaDoorP0
namespace Go.Proofs.YtodamaaiglipaaaDoor.A
open Go.RowKit Go.Proofs.YtodamaaiglipaaaDoorW.PrintWords

def B (l : List UInt8) : ByteArray := ⟨l.toArray⟩
theorem B_list (l : List UInt8) : (B l).toList = l := ByteArray.toList_mk l
theorem list_B (s : ByteArray) : B s.toList = s := list_inj (B_list _)
theorem B_size (l : List UInt8) : (B l).size = l.length := by rw [← size_list, B_list]

/-- The names between slashes; the first one has begun. -/
def pf : List UInt8 → List UInt8 → List (List UInt8)
  | cur, [] => [cur]
  | cur, c :: r => if c = 47 then cur :: pf [] r else pf (cur ++ [c]) r
theorem pf_none : ∀ (l cur : List UInt8), (47 : UInt8) ∉ l → pf cur l = [cur ++ l]
  | [], cur, _ => by simp [pf]
  | c :: r, cur, h => by
    simp only [List.mem_cons, not_or] at h
    rw [pf, if_neg (fun e => h.1 e.symm), pf_none r _ h.2]
    simp
theorem pf_hit : ∀ (a cur b : List UInt8), (47 : UInt8) ∉ a → pf cur (a ++ 47 :: b) = (cur ++ a) :: pf [] b
  | [], cur, b, _ => by simp [pf]
  | c :: r, cur, b, h => by
    simp only [List.mem_cons, not_or] at h
    rw [List.cons_append, pf, if_neg (fun e => h.1 e.symm), pf_hit r _ b h.2]
    simp

theorem splitK_pf : ∀ (k : Nat) (l : List UInt8), l.count 47 ≤ k → Lib.splitK [47] 0 k l = pf [] l
  | 0, l, h => by
    have : (47 : UInt8) ∉ l := List.count_eq_zero.1 (by omega)
    rw [pf_none l [] this]
    rfl
  | k + 1, l, h => by
    unfold Lib.splitK
    rw [Lib.index_one]
    rcases Int.lt_or_le (Lib.indexByte l 47) 0 with hn | hp
    · have e : Lib.indexByte l 47 = -1 := by have := Lib.indexByte_ge l 47; omega
      have hno := Lib.indexByte_none e
      have : (47 : UInt8) ∉ l := fun hm => by
        obtain ⟨i, hi, he⟩ := List.getElem_of_mem hm
        exact hno i (by rw [List.getElem?_eq_getElem hi, he])
      rw [if_pos (by rw [e]; rfl), pf_none l [] this]
      rfl
    · obtain ⟨o, ho⟩ := Int.eq_ofNat_of_zero_le hp
      obtain ⟨h1, h2⟩ := Lib.indexByte_some ho
      obtain ⟨hlt, he⟩ := List.getElem?_eq_some_iff.1 h1
      rw [if_neg (by rw [ho]; simp), ho]
      simp only [Nat.add_zero, List.length_singleton, Int.toNat_natCast]
      have hl : l = l.take o ++ 47 :: l.drop (o + 1) := by
        rw [← he, List.getElem_cons_drop hlt, List.take_append_drop]
      have hna : (47 : UInt8) ∉ l.take o := fun hm => by
        obtain ⟨i, hi, hx⟩ := List.getElem_of_mem hm
        have hio : i < o := by have := List.length_take_le o l; omega
        exact h2 i hio (by rw [List.getElem?_eq_getElem (by omega), ← hx, List.getElem_take])
      have hc : (l.drop (o + 1)).count 47 ≤ k := by
        have e2 : l.count 47 = (l.take o ++ 47 :: l.drop (o + 1)).count 47 := by rw [← hl]
        rw [List.count_append, List.count_cons_self] at e2
        omega
      rw [splitK_pf k _ hc]
      conv => rhs; rw [hl, pf_hit _ _ _ hna]
      simp

theorem split_eq (s : ByteArray) (hs : s.size < 4294967281) : strings_Split.f s ⟨#[47]⟩ = some ((pf [] s.toList).map B) := by
  have hl : (Lib.splitB ⟨#[47]⟩ 0 (Lib.countB s ⟨#[47]⟩) s).map (·.data.toList) = pf [] s.toList := by
    rw [Lib.splitB_data]
    show Lib.splitK [47] 0 (Lib.count s.data.toList [47]) s.data.toList = _
    rw [Lib.count_one, ByteArray.toList_eq]
    exact splitK_pf _ _ (Nat.le_refl _)
  unfold strings_Split.f
  rw [if_pos ⟨rfl, hs⟩, ← hl, List.map_map]
  congr 1
  conv => lhs; rw [← List.map_id (Lib.splitB _ _ _ _)]
  apply List.map_congr_left
  intro x _
  exact (list_B x).symm.trans (by rw [ByteArray.toList_eq]; rfl)

/-- The first name that may not be. -/
def firstErr : List (List UInt8) → Int
  | [] => 0
  | x :: r => if nameE x = 0 then firstErr r else nameE x
/-- A path's names. -/
def splitE (l : List UInt8) : List (List UInt8) × Int :=
  if (l.length : Int) > 255 then ([], 4) else match l with
  | [] => ([], 40)
  | c :: r => if c = 47 then (if r = [] then ([], 0) else if firstErr (pf [] r) = 0 then (pf [] r, 0) else ([], firstErr (pf [] r))) else ([], 40)

theorem split_l0 (out xs : List ByteArray) (hx : xs.length ≤ 9223372036854775806) (d : Nat) : ∀ n : Nat, n + d = xs.length →
    Ev (fun k => path_Split.l0 k out xs (xs.length : Int) n) (if firstErr ((xs.drop n).map (·.toList)) = 0 then (out, 0) else ([], firstErr ((xs.drop n).map (·.toList)))) := by
  induction d with
  | zero =>
    intro n hn
    have e : xs.drop n = [] := List.drop_eq_nil_of_le (by omega)
    rw [e]
    refine Ev.step (f := fun _ => some (out, 0)) (fun k => ?_) (Ev.now _)
    simp only [path_Split.l0]
    rw [if_neg (by omega)]
  | succ d ih =>
    intro n hn
    have hlt : n < xs.length := by omega
    have hr : rdOf ByteArray.empty xs (n : Int) = xs[n] := by simp [rdOf, hlt]
    have hw : wrap64 ((n : Int) + 1) = ((n + 1 : Nat) : Int) := by rw [wrap_small (by omega) (by omega)]; rfl
    rw [List.drop_eq_getElem_cons hlt, List.map_cons, firstErr]
    have hst : ∀ k, path_Split.l0 (k + 1) out xs (xs.length : Int) n = (some (nameE (xs[n]).toList)).bind fun t => if t = 0 then path_Split.l0 k out xs (xs.length : Int) ((n + 1 : Nat) : Int) else some ([], t) := by
      intro k
      simp only [path_Split.l0]
      rw [if_pos (by omega), if_pos (by omega), if_pos (by omega), hr, path_Name_eq, hw]
    by_cases h0 : nameE (xs[n]).toList = 0
    · rw [if_pos h0]
      refine Ev.step (fun k => ?_) (ih (n + 1) (by omega))
      rw [hst, Option.bind_some, if_pos h0]
    · rw [if_neg h0, if_neg h0]
      refine Ev.step (f := fun _ => some ([], nameE (xs[n]).toList)) (fun k => ?_) (Ev.now _)
      rw [hst, Option.bind_some, if_neg h0]

theorem map_B (xs : List (List UInt8)) : (xs.map B).map (·.toList) = xs := by
  rw [List.map_map]
  conv => rhs; rw [← List.map_id xs]
  exact List.map_congr_left (fun x _ => B_list x)

theorem pf_length : ∀ (l cur : List UInt8), (pf cur l).length ≤ l.length + 1
  | [], cur => by simp [pf]
  | c :: r, cur => by
    rw [pf]
    split
    · have := pf_length r []; simp only [List.length_cons]; omega
    · have := pf_length r (cur ++ [c]); simp only [List.length_cons]; omega

theorem path_Split_eq (s : ByteArray) : Ev (fun k => path_Split.f k s) ((splitE s.toList).1.map B, (splitE s.toList).2) := by
  have hl := size_list s
  unfold path_Split.f splitE
  by_cases h : (s.toList.length : Int) > 255
  · rw [if_pos h]
    exact Ev.congr (f := fun _ => some ([], 4)) (fun k => by rw [if_pos (by omega)]) (Ev.now _)
  · rw [if_neg h]
    have h1 : ¬ (s.size : Int) > 255 := by omega
    have hj : Ev (fun k => path_Split.j0 k s true) ([], 40) := Ev.step (f := fun _ => some ([], 40)) (fun k => by simp [path_Split.j0]) (Ev.now _)
    match hm : s.toList with
    | [] => exact Ev.congr (fun k => by rw [if_neg h1, if_pos rfl]) hj
    | c :: r =>
      simp only
      have hb : bt s 0 = (c.toNat : Int) := by
        have := bt_list s 0 (by rw [hm]; simp)
        simp only [hm, List.getElem_cons_zero] at this
        exact this
      have hsz : s.size = r.length + 1 := by rw [← hl, hm]; rfl
      by_cases hc : c = 47
      · subst hc
        rw [if_pos rfl]
        have hf : ∀ k, (if (s.size : Int) > 255 then some (([] : List ByteArray), (4 : Int)) else if (47 :: r : List UInt8) = [] then path_Split.j0 k s true else if 0 < (s.size : Int) then path_Split.j0 k s (bt s 0 != 47) else none) = path_Split.j0 k s false := fun k => by
          rw [if_neg h1, if_neg (by simp), if_pos (by omega), hb]
          rfl
        refine Ev.congr hf ?_
        by_cases hr : r = []
        · subst hr
          rw [if_pos rfl]
          refine Ev.step (f := fun _ => some ([], 0)) (fun k => ?_) (Ev.now _)
          simp only [path_Split.j0]
          rw [if_neg (by simp), if_pos hm]
        · rw [if_neg hr]
          have he : (s.extract 1 s.size).toList = r := by
            rw [list_ext, hm]
            rw [List.take_of_length_le (by simp; omega)]
            rfl
          have hsp := split_eq (s.extract 1 s.size) (by rw [← size_list, he]; simp at h; omega)
          rw [he] at hsp
          have hlen := pf_length r []
          have hloop := split_l0 ((pf [] r).map B) ((pf [] r).map B) (by simp at h ⊢; rw [hm] at h; simp at h; omega) ((pf [] r).map B).length 0 (by omega)
          rw [List.drop_zero, map_B] at hloop
          have hres : (((if firstErr (pf [] r) = 0 then (pf [] r, (0 : Int)) else ([], firstErr (pf [] r))).1.map B), (if firstErr (pf [] r) = 0 then (pf [] r, (0 : Int)) else ([], firstErr (pf [] r))).2) = (if firstErr (pf [] r) = 0 then ((pf [] r).map B, (0 : Int)) else ([], firstErr (pf [] r))) := by
            split <;> rfl
          rw [hres]
          refine Ev.step (fun k => ?_) hloop
          simp only [path_Split.j0]
          rw [if_neg (by simp), if_neg (by rw [hm]; simp [hr]), if_pos (by omega), hsp]
          rfl
      · rw [if_neg hc]
        refine Ev.congr (fun k => ?_) hj
        rw [if_neg h1, if_neg (by simp), if_pos (by omega), hb]
        have : ((c.toNat : Int) != 47) = true := by
          rw [bne_iff_ne]
          intro e
          apply hc
          apply UInt8.toNat_inj.1
          have : c.toNat = 47 := by omega
          rw [this]; rfl
        rw [this]

/-- The example of chapter 10. -/
theorem awake_true : Ev (fun k => grapnellaw10_awake.f k) true := by
  unfold grapnellaw10_awake.f
  refine Ev.bind (path_Split_eq _) ?_
  have e : (⟨#[47, 97, 47, 98]⟩ : ByteArray).toList = [47, 97, 47, 98] := ByteArray.toList_mk [47, 97, 47, 98]
  have hs : splitE [47, 97, 47, 98] = ([[97], [98]], 0) := by decide
  rw [e, hs]
  refine Ev.congr (f := fun _ => some true) (fun k => ?_) (Ev.now _)
  have hn : path_Name.f ⟨#[46, 46]⟩ = some 40 := by
    rw [path_Name_eq]
    rw [show (⟨#[46, 46]⟩ : ByteArray).toList = [46, 46] from ByteArray.toList_mk [46, 46]]
    decide
  simp [rdOf, B_list, hn]

theorem names_law : grapnellaw10_PathNames.Pure := by
  intro s _
  refine Ev.rounds (r := true) ?_
  unfold grapnellaw10_PathNames.f
  rw [path_Name_eq]
  simp only [Option.bind_some]
  refine Ev.bind (ref_Name_eq s) ?_
  simp only [if_true]
  exact Ev.bind awake_true (Ev.now _)
end Go.Proofs.YtodamaaiglipaaaDoor.A

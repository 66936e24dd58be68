/- The plain laws of paths: within, below, joins, back, bounds. -/
import Derived.Test.YtodamaaiglipaaaDoorP2
namespace Go.Proofs.YtodamaaiglipaaaDoor.A
open Go.RowKit Go.Proofs.YtodamaaiglipaaaDoorW.PrintWords

theorem rd_at (xs : List ByteArray) (n : Nat) (h : n < xs.length) : rdOf ByteArray.empty xs (n : Int) = xs[n] := by simp [rdOf, h]
theorem wrap_up {n : Nat} (h : n ≤ 9223372036854775806) : wrap64 ((n : Int) + 1) = ((n + 1 : Nat) : Int) := by rw [wrap_small (by omega) (by omega)]; rfl

/-- Do the names of one list begin another one, from a place on? -/
theorem pre_step (l p : List ByteArray) (n : Nat) (h1 : n < l.length) (h2 : n < p.length) :
    decide (p.drop n <+: l.drop n) = (decide (l[n] = p[n]) && decide (p.drop (n + 1) <+: l.drop (n + 1))) := by
  rw [List.drop_eq_getElem_cons h1, List.drop_eq_getElem_cons h2, Bool.eq_iff_iff]
  simp only [decide_eq_true_eq, Bool.and_eq_true, List.cons_prefix_cons]
  exact ⟨fun ⟨a, b⟩ => ⟨a.symm, b⟩, fun ⟨a, b⟩ => ⟨a.symm, b⟩⟩
theorem within_l0 (l p : List ByteArray) (hp : p.length ≤ l.length) (hl : p.length ≤ 9223372036854775806) (d : Nat) : ∀ n : Nat, n + d = p.length →
    Ev (fun k => path_Within.l0 k l p (p.length : Int) n) (decide (p.drop n <+: l.drop n)) := by
  induction d with
  | zero =>
    intro n hn
    rw [List.drop_eq_nil_of_le (show p.length ≤ n by omega)]
    refine Ev.step (f := fun _ => some true) (fun k => ?_) (by simpa using Ev.now true)
    simp only [path_Within.l0]
    rw [if_neg (by omega)]
  | succ d ih =>
    intro n hn
    have h1 : n < l.length := by omega
    have h2 : n < p.length := by omega
    rw [pre_step l p n h1 h2]
    have hst : ∀ k, path_Within.l0 (k + 1) l p (p.length : Int) n = if (l[n]).toList = (p[n]).toList then path_Within.l0 k l p (p.length : Int) ((n + 1 : Nat) : Int) else some false := by
      intro k
      simp only [path_Within.l0]
      rw [if_pos (by omega), if_pos (by omega), if_pos (by omega), if_pos (by omega), rd_at l n h1, rd_at p n h2, wrap_up (by omega)]
    by_cases he : l[n] = p[n]
    · rw [decide_eq_true he, Bool.true_and]
      refine Ev.step (fun k => ?_) (ih (n + 1) (by omega))
      rw [hst, if_pos (by rw [he])]
    · rw [decide_eq_false he, Bool.false_and]
      refine Ev.step (f := fun _ => some false) (fun k => ?_) (Ev.now _)
      rw [hst, if_neg (fun e => he (list_inj e))]
theorem within_eq (l p : List ByteArray) (hl : l.length ≤ 9223372036854775806) : Ev (fun k => path_Within.f k l p) (decide (p <+: l)) := by
  unfold path_Within.f
  by_cases h : p.length ≤ l.length
  · have := within_l0 l p h (by omega) p.length 0 (by omega)
    rw [List.drop_zero, List.drop_zero] at this
    exact Ev.congr (fun k => by rw [if_neg (by omega)]; rfl) this
  · have e : decide (p <+: l) = false := decide_eq_false fun hp => h hp.length_le
    rw [e]
    exact Ev.congr (f := fun _ => some false) (fun k => by rw [if_pos (by omega)]) (Ev.now _)
theorem rwithin_l0 (l p : List ByteArray) (hp : p.length ≤ l.length) (hl : p.length ≤ 9223372036854775806) (d : Nat) : ∀ n : Nat, n + d = p.length →
    Ev (fun k => grapnelref10_Within.l0 k l p n) (decide (p.drop n <+: l.drop n)) := by
  induction d with
  | zero =>
    intro n hn
    rw [List.drop_eq_nil_of_le (show p.length ≤ n by omega)]
    refine Ev.step (f := fun _ => some true) (fun k => ?_) (by simpa using Ev.now true)
    simp only [grapnelref10_Within.l0]
    rw [if_neg (by omega)]
  | succ d ih =>
    intro n hn
    have h1 : n < l.length := by omega
    have h2 : n < p.length := by omega
    rw [pre_step l p n h1 h2]
    have hst : ∀ k, grapnelref10_Within.l0 (k + 1) l p n = if (l[n]).toList = (p[n]).toList then grapnelref10_Within.l0 k l p ((n + 1 : Nat) : Int) else some false := by
      intro k
      simp only [grapnelref10_Within.l0]
      rw [if_pos (by omega), if_pos (by omega), if_pos (by omega), rd_at l n h1, rd_at p n h2, wrap_up (by omega)]
    by_cases he : l[n] = p[n]
    · rw [decide_eq_true he, Bool.true_and]
      refine Ev.step (fun k => ?_) (ih (n + 1) (by omega))
      rw [hst, if_pos (by rw [he])]
    · rw [decide_eq_false he, Bool.false_and]
      refine Ev.step (f := fun _ => some false) (fun k => ?_) (Ev.now _)
      rw [hst, if_neg (fun e => he (list_inj e))]
theorem rwithin_eq (l p : List ByteArray) (hl : l.length ≤ 9223372036854775806) : Ev (fun k => grapnelref10_Within.f k l p) (decide (p <+: l)) := by
  unfold grapnelref10_Within.f
  by_cases h : p.length ≤ l.length
  · have := rwithin_l0 l p h (by omega) p.length 0 (by omega)
    rw [List.drop_zero, List.drop_zero] at this
    exact Ev.congr (fun k => by rw [if_neg (by omega)]; rfl) this
  · have e : decide (p <+: l) = false := decide_eq_false fun hp => h hp.length_le
    rw [e]
    exact Ev.congr (f := fun _ => some false) (fun k => by rw [if_pos (by omega)]) (Ev.now _)

theorem awake_bind : Ev (fun k => (grapnellaw10_awake.f k).bind fun t => some t) true := Ev.bind awake_true (Ev.now _)

theorem within_law (l p : List ByteArray) : ∃ k, grapnellaw10_PathWithin.f k l p = some true := by
  refine Ev.rounds (r := true) ?_
  unfold grapnellaw10_PathWithin.f
  have hj : Ev (fun k => grapnellaw10_PathWithin.j0 k l p true) true := Ev.step (fun k => by simp only [grapnellaw10_PathWithin.j0]; rw [if_pos trivial]) awake_bind
  by_cases h1 : (l.length : Int) > 200
  · exact Ev.congr (fun k => by rw [if_pos h1]) hj
  · by_cases h2 : (p.length : Int) > 200
    · exact Ev.congr (fun k => by rw [if_neg h1, decide_eq_true h2]) hj
    · refine Ev.congr (fun k => by rw [if_neg h1, decide_eq_false h2]) ?_
      refine Ev.step (fun k => by simp only [grapnellaw10_PathWithin.j0]; rw [if_neg (by simp)]) ?_
      refine Ev.bind (within_eq l p (by omega)) ?_
      refine Ev.bind (rwithin_eq l p (by omega)) ?_
      simp only [beq_self_eq_true, if_true]
      exact awake_bind

/-! ### Below -/
theorem pf_append : ∀ (r cur x : List UInt8), pf cur (r ++ 47 :: x) = pf cur r ++ pf [] x
  | [], cur, x => by simp [pf]
  | c :: r, cur, x => by
    rw [List.cons_append, pf, pf]
    split
    · rw [pf_append r [] x]; rfl
    · exact pf_append r _ x
theorem pf_ne : ∀ (r cur : List UInt8), pf cur r ≠ []
  | [], cur => by simp [pf]
  | c :: r, cur => by
    rw [pf]
    split
    · simp
    · exact pf_ne r _

theorem splitE_ok {l : List UInt8} (h : (splitE l).2 = 0) : (l.length : Int) ≤ 255 ∧ ∃ r, l = 47 :: r ∧ ((r = [] ∧ (splitE l).1 = []) ∨ (r ≠ [] ∧ firstErr (pf [] r) = 0 ∧ (splitE l).1 = pf [] r)) := by
  unfold splitE at h
  by_cases h1 : (l.length : Int) > 255
  · rw [if_pos h1] at h; cases h
  · rw [if_neg h1] at h
    refine ⟨by omega, ?_⟩
    match l, h1, h with
    | [], _, h => cases h
    | c :: r, h1, h =>
      simp only at h
      by_cases hc : c = 47
      · subst hc
        rw [if_pos rfl] at h
        refine ⟨r, rfl, ?_⟩
        by_cases hr : r = []
        · subst hr
          exact .inl ⟨rfl, by rw [splitE, if_neg h1]; rfl⟩
        · rw [if_neg hr] at h
          by_cases he : firstErr (pf [] r) = 0
          · refine .inr ⟨hr, he, ?_⟩
            rw [splitE, if_neg h1]
            simp only [if_true]
            rw [if_neg hr, if_pos he]
          · rw [if_neg he] at h
            exact absurd h he
      · rw [if_neg hc] at h; cases h

theorem below_j1 (a b : List ByteArray) (ha : a.length ≤ 256) (hb : b.length ≤ 256) (h : a <+: b) : Ev (fun k => grapnellaw10_PathBelow.j1 k a b false) true := by
  have hle := h.length_le
  refine Ev.step (fun k => by simp only [grapnellaw10_PathBelow.j1]; rw [if_neg (by simp)]) ?_
  refine Ev.bind (within_eq b a (by omega)) ?_
  rw [decide_eq_true h]
  simp only [if_true]
  by_cases he : a.length = b.length
  · refine Ev.congr (fun k => by rw [if_pos (by omega), if_pos (by omega)]) awake_bind
  · refine Ev.congr (fun k => by rw [if_neg (by omega)]) ?_
    refine Ev.bind (within_eq a b (by omega)) ?_
    have hn : ¬ b <+: a := fun hp => he (by have := hp.length_le; omega)
    rw [decide_eq_false hn]
    exact Ev.congr (fun k => by rw [if_neg (by simp), if_pos (by omega)]) awake_bind
theorem below_no (a b : List ByteArray) : Ev (fun k => grapnellaw10_PathBelow.j1 k a b true) true :=
  Ev.step (fun k => by simp only [grapnellaw10_PathBelow.j1]; rw [if_pos trivial]) awake_bind

theorem below_j0 (s : ByteArray) (t : ByteArray) (h : (splitE s.toList).2 = 0 → (splitE t.toList).2 = 0 → (splitE s.toList).1 <+: (splitE t.toList).1) :
    Ev (fun k => grapnellaw10_PathBelow.j0 k ((splitE s.toList).1.map B) (splitE s.toList).2 t) true := by
  have hl1 := splitE_length s.toList
  have hl2 := splitE_length t.toList
  refine Ev.step (f := fun k => (path_Split.f k t).bind fun b => if (splitE s.toList).2 = 0 then grapnellaw10_PathBelow.j1 k ((splitE s.toList).1.map B) b.1 (b.2 != 0) else grapnellaw10_PathBelow.j1 k ((splitE s.toList).1.map B) b.1 true) (fun k => by simp only [grapnellaw10_PathBelow.j0]) ?_
  refine Ev.bind (path_Split_eq t) ?_
  simp only
  by_cases h0 : (splitE s.toList).2 = 0
  · refine Ev.congr (fun k => by rw [if_pos h0]) ?_
    by_cases h1 : (splitE t.toList).2 = 0
    · rw [show ((splitE t.toList).2 != 0) = false from by rw [h1]; rfl]
      refine below_j1 _ _ (by simpa using hl1) (by simpa using hl2) ?_
      obtain ⟨z, hz⟩ := h h0 h1
      exact ⟨z.map B, by rw [← hz, List.map_append]⟩
    · rw [show ((splitE t.toList).2 != 0) = true from bne_iff_ne.2 h1]
      exact below_no _ _
  · exact Ev.congr (fun k => by rw [if_neg h0]) (below_no _ _)

theorem list_append (a b : ByteArray) : (a ++ b).toList = a.toList ++ b.toList := by
  rw [ByteArray.toList_eq, ByteArray.toList_eq, ByteArray.toList_eq, ByteArray.data_append, Array.toList_append]

theorem below_law : grapnellaw10_PathBelow.Pure := by
  intro s x hs hx
  refine Ev.rounds (r := true) ?_
  unfold grapnellaw10_PathBelow.f
  refine Ev.bind (path_Split_eq s) ?_
  have e47 : (⟨#[47]⟩ : ByteArray).toList = [47] := ByteArray.toList_mk [47]
  have hs1 : (s ++ (⟨#[47]⟩ : ByteArray)).size = s.size + 1 := by rw [ByteArray.size_append]; rfl
  simp only
  by_cases hr : s.toList = [47]
  · refine Ev.congr (fun k => by rw [if_pos (by omega), if_pos (by omega), if_pos hr, if_pos (by omega)]) ?_
    refine below_j0 s _ (fun h0 h1 => ?_)
    have : (splitE s.toList).1 = [] := by rw [hr]; decide
    rw [this]
    exact List.nil_prefix
  · refine Ev.congr (fun k => by rw [if_pos (by omega), if_pos (by omega), if_neg hr]) ?_
    refine below_j0 s _ (fun h0 h1 => ?_)
    obtain ⟨_, r, hsr, h2⟩ := splitE_ok h0
    rcases h2 with ⟨rfl, _⟩ | ⟨hne, _, e1⟩
    · exact absurd hsr hr
    obtain ⟨_, r', hsr', h3⟩ := splitE_ok h1
    have et : ((s ++ (⟨#[47]⟩ : ByteArray)) ++ x).toList = 47 :: (r ++ 47 :: x.toList) := by
      rw [list_append, list_append, e47, hsr]
      simp
    rw [et] at hsr'
    injection hsr' with _ hrr
    rcases h3 with ⟨e, _⟩ | ⟨_, _, e3⟩
    · rw [e] at hrr
      simp at hrr
    rw [e1, e3, ← hrr, pf_append]
    exact List.prefix_append _ _
end Go.Proofs.YtodamaaiglipaaaDoor.A

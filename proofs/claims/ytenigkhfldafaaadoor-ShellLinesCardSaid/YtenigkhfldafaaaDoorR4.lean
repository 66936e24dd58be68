/- Numbers, bits and words that were written are read back. -/
import Derived.Test.YtenigkhfldafaaaDoorR3
import Derived.Lib.ItoaLen
namespace Go.Proofs.YtenigkhfldafaaaDoor.A
open Go.RowKit Go.Proofs.YtenigkhfldafaaaDoorW.PrintWords
set_option maxRecDepth 100000
def digitC (c : UInt8) : Prop := 48 ≤ c.toNat ∧ c.toNat ≤ 57
def val : List UInt8 → Int → Int
 | [], x => x
 | c :: r, x => val r (10 * x + ((c.toNat : Int) - 48))
theorem val_app : ∀ (l : List UInt8) (c : UInt8) (x : Int), val (l ++ [c]) x = 10 * val l x + ((c.toNat : Int) - 48)
 | [], _, _ => rfl
 | d :: l, c, x => by rw [List.cons_append, val, val_app l c, val]
theorem dig_nat {u : Nat} (h : u < 10) : ((UInt8.ofNat (48 + u)).toNat : Int) = 48 + u ∧ digitC (UInt8.ofNat (48 + u)) := by
 have e : (UInt8.ofNat (48 + u)).toNat = 48 + u := by
  rw [UInt8.toNat_ofNat']
  exact Nat.mod_eq_of_lt (by omega)
 unfold digitC
 rw [e]
 exact ⟨by omega, by omega, by omega⟩
theorem dec_val (u : Nat) : val (Lib.decDigits u) 0 = u ∧ ∀ c ∈ Lib.decDigits u, digitC c := by
 induction u using Nat.strongRecOn with
 | _ u ih =>
  by_cases h : u < 10
  ·rw [Lib.decDigits, dif_pos h]
   obtain ⟨h1, h2⟩ := dig_nat h
   refine ⟨by rw [val, val, h1]; omega, fun c hc => by rw [List.mem_singleton.1 hc]; exact h2⟩
  ·rw [Lib.decDigits, dif_neg h]
   obtain ⟨h1, h2⟩ := dig_nat (u := u % 10) (by omega)
   obtain ⟨i1, i2⟩ := ih (u / 10) (by omega)
   refine ⟨by rw [val_app, i1, h1]; omega, fun c hc => ?_⟩
   rcases List.mem_append.1 hc with hc | hc
   ·exact i2 c hc
   ·rw [List.mem_singleton.1 hc]; exact h2
theorem counted_v (s t : ByteArray) (ht : t.size ≤ 18) : ∀ (r : List UInt8) (i : Nat) (x : Int), t.toList.drop i = r → i ≤ t.size → 0 ≤ x → x < 10 ^ i → (∀ c ∈ r, digitC c) →
  Ev (fun k => shell_counted.l0 k s t x (bytesOf t) (t.size : Int) (i : Int)) (if (t.size : Int) < (s.size : Int) then -val r x else val r x, true)
 | [], i, x, hd, hi, h0, h1, _ => by
  have hn := at_nil hd
  have hx : x < 1000000000000000000 := by
   have : (10 : Int) ^ i ≤ 10 ^ 18 := by
    have := Nat.pow_le_pow_right (n := 10) (by decide) (show i ≤ 18 by omega)
    have := Int.ofNat_le.2 this
    simpa using this
   omega
  by_cases hz : (t.size : Int) < (s.size : Int)
  ·refine Ev.step (fun k => shell_counted.l0.eq_2 _ _ _ _ _ _ _) (Ev.ifn (by omega) (Ev.ifp hz ?_))
   rw [wrap_small (by omega) (by omega), if_pos hz]
   exact Ev.now _
  ·refine Ev.step (fun k => shell_counted.l0.eq_2 _ _ _ _ _ _ _) (Ev.ifn (by omega) (Ev.ifn hz ?_))
   rw [if_neg hz]
   exact Ev.now _
 | c :: r, i, x, hd, hi, h0, h1, hg => by
  obtain ⟨hn, hb, hr, hz⟩ := at_cons hd
  obtain ⟨g1, g2⟩ := hg c (List.mem_cons_self ..)
  have hl : (bytesOf t).length = t.size := bytesOf_length t
  have hrd : rd (bytesOf t) (i : Int) = (c.toNat : Int) := by rw [bytes_rd t i hn, hb]
  have hx : x < 100000000000000000 := by
   have : (10 : Int) ^ i ≤ 10 ^ 17 := by
    have := Nat.pow_le_pow_right (n := 10) (by decide) (show i ≤ 17 by omega)
    have := Int.ofNat_le.2 this
    simpa using this
   omega
  have := counted_v s t ht r (i + 1) (10 * x + ((c.toNat : Int) - 48)) hr (by omega) (by omega) (by rw [Int.pow_succ]; omega) (fun d hd => hg d (List.mem_cons_of_mem _ hd))
  refine Ev.step (fun k => shell_counted.l0.eq_2 _ _ _ _ _ _ _) (Ev.ifp (by omega) (Ev.ifp (by omega) (Ev.ifp (by rw [hl]; omega) (Ev.ifn (by rw [hrd]; omega) (Ev.ifn (by rw [hrd]; omega) ?_)))))
  rw [hrd, w1 (by omega), show ((c.toNat : Int) - 48) % 256 = (c.toNat : Int) - 48 by omega, wrap_small (i := 10 * x) (by omega) (by omega), wrap_small (by omega) (by omega)]
  exact this
theorem counted_dec (u : Nat) (hu : u < 1000000000000000000) : Ev (fun k => shell_counted.f k (B (Lib.decDigits u))) ((u : Int), true) ∧ (1 ≤ u → Ev (fun k => shell_counted.f k (B (45 :: Lib.decDigits u))) (-(u : Int), true)) := by
 obtain ⟨hv, hg⟩ := dec_val u
 have hlen : (Lib.decDigits u).length ≤ 18 ∧ 1 ≤ (Lib.decDigits u).length := by
  rw [Lib.decDigits_length]
  refine ⟨?_, Lib.nDigits_pos u⟩
  rcases Nat.lt_or_ge 18 (Lib.nDigits u) with h | h
  ·exfalso
   have : 10 ^ (Lib.nDigits u - 1) ≤ u := by
    have hnd : ∀ u : Nat, 1 ≤ u → 10 ^ (Lib.nDigits u - 1) ≤ u := by
     intro u
     induction u using Nat.strongRecOn with
     | _ u ih =>
      intro h1
      by_cases h : u < 10
      ·rw [Lib.nDigits_small h]; simpa using h1
      ·rw [Lib.nDigits_big h]
       have := ih (u / 10) (by omega) (by omega)
       have hp := Lib.nDigits_pos (u / 10)
       have e : 10 ^ (Lib.nDigits (u / 10) + 1 - 1) = 10 ^ (Lib.nDigits (u / 10) - 1) * 10 := by
        rw [← Nat.pow_succ]
        congr 1
        omega
       rw [e]
       omega
    refine hnd u ?_
    rcases Nat.eq_zero_or_pos u with rfl | h0
    ·rw [Lib.nDigits_small (by decide)] at h; omega
    ·exact h0
   have := Nat.pow_le_pow_right (n := 10) (by decide) (show 18 ≤ Lib.nDigits u - 1 by omega)
   omega
  ·exact h
 have hne : Lib.decDigits u ≠ [] := fun h => by rw [h] at hlen; simp at hlen
 have h45 : Lib.hasPrefix (Lib.decDigits u) [45] = false := by
  cases hd : Lib.decDigits u with
  | nil => exact absurd hd hne
  | cons c r =>
   have hc := hg c (by rw [hd]; exact List.mem_cons_self ..)
   unfold Lib.hasPrefix
   simp only [List.isPrefixOf, Bool.and_true, beq_eq_false_iff_ne]
   intro h
   subst h
   have := hc.1
   exact absurd this (by decide)
 have e1 : strings_TrimPrefix.f (B (Lib.decDigits u)) ⟨#[45]⟩ = some (B (Lib.decDigits u)) := by
  show some (B (Lib.trimPrefix (B (Lib.decDigits u)).data.toList [45])) = _
  rw [show (B (Lib.decDigits u)).data.toList = Lib.decDigits u from rfl, Lib.trimPrefix, h45]
  rfl
 have e2 : strings_TrimPrefix.f (B (45 :: Lib.decDigits u)) ⟨#[45]⟩ = some (B (Lib.decDigits u)) := rfl
 have go : ∀ s : ByteArray, strings_TrimPrefix.f s ⟨#[45]⟩ = some (B (Lib.decDigits u)) → Ev (fun k => shell_counted.f k s) (if ((B (Lib.decDigits u)).size : Int) < (s.size : Int) then -(u : Int) else (u : Int), true) := by
  intro s hs
  have := counted_v s (B (Lib.decDigits u)) (by rw [B_size]; exact hlen.1) (Lib.decDigits u) 0 0 (by rw [B_list]; rfl) (Nat.zero_le _) (by omega) (by decide) hg
  rw [hv] at this
  refine Ev.cb hs (Ev.ifn (by rw [B_list]; exact hne) (Ev.step (fun k => shell_counted.j0.eq_2 _ _ _ _) (Ev.ifn (by rw [B_size]; simp; omega) (Ev.ifp (by rw [B_size]; omega) (Ev.cb rfl ?_)))))
  simp only [bytesOf_length]
  exact this
 refine ⟨?_, fun _ => ?_⟩
 ·have := go _ e1
  rw [if_neg (by omega)] at this
  exact this
 ·have := go _ e2
  rw [if_pos (by rw [B_size, B_size, List.length_cons]; omega)] at this
  exact this
def tokC (c : UInt8) : Prop := 33 ≤ c.toNat ∧ c.toNat ≤ 126 ∧ c ≠ 34 ∧ c ≠ 35
theorem tokC_gap {c : UInt8} (h : tokC c) : gapB c = false := by
 obtain ⟨h1, _⟩ := h
 unfold gapB
 rw [Bool.or_eq_false_iff]
 constructor
 ·rw [beq_eq_false_iff_ne]; rintro rfl; exact absurd h1 (by decide)
 ·rw [beq_eq_false_iff_ne]; rintro rfl; exact absurd h1 (by decide)
theorem digit_tok {c : UInt8} (h : digitC c) : tokC c := by
 obtain ⟨h1, h2⟩ := h
 refine ⟨by omega, by omega, ?_, ?_⟩
 ·rintro rfl; exact absurd h1 (by decide)
 ·rintro rfl; exact absurd h1 (by decide)
theorem itoa_ev (n : Int) (h1 : -1000000000000000000 < n) (h2 : n < 1000000000000000000) :
  Ev (fun k => shell_counted.f k (B (Lib.itoa n))) (n, true) ∧ (∀ c ∈ Lib.itoa n, tokC c) ∧ Lib.itoa n ≠ [] ∧ (Lib.itoa n).length ≤ 21 := by
 have hl := Lib.itoa_length_le n (by omega) (by omega)
 by_cases hneg : n < 0
 ·obtain ⟨u, rfl⟩ : ∃ u : Nat, n = -(u : Int) := ⟨n.natAbs, by omega⟩
  rw [Lib.itoa_neg u (by omega)] at hl ⊢
  refine ⟨(counted_dec u (by omega)).2 (by omega), fun c hc => ?_, by simp, hl⟩
  rcases List.mem_cons.1 hc with rfl | hc
  ·exact ⟨by decide, by decide, by decide, by decide⟩
  ·exact digit_tok ((dec_val u).2 c hc)
 ·obtain ⟨u, rfl⟩ : ∃ u : Nat, n = u := ⟨n.toNat, by omega⟩
  rw [Lib.itoa_nonneg] at hl ⊢
  refine ⟨(counted_dec u (by omega)).1, fun c hc => digit_tok ((dec_val u).2 c hc), fun h => ?_, hl⟩
  have := Lib.decDigits_length u
  rw [h] at this
  have := Lib.nDigits_pos u
  simp at *
  omega
def bitC (b : Bool) : UInt8 := if b = true then 49 else 48
def keptT (l : List Bool) : List UInt8 := if l = [] then [45] else l.map bitC
theorem kept_l (l : List Bool) (hl : l.length ≤ 1000000) : ∀ (r : List Bool) (i : Nat), l.drop i = r → i ≤ l.length →
  Ev (fun k => shell_kept.l0 k (nb ((l.take i).map bitC) ++ List.replicate (l.length - i) 0) l (l.length : Int) (i : Int)) (B (l.map bitC))
 | [], i, hd, hi => by
  have hn : l.length ≤ i := by
   have := congrArg List.length hd
   rw [List.length_drop, List.length_nil] at this
   omega
  refine Ev.step (fun k => shell_kept.l0.eq_2 _ _ _ _ _) (Ev.ifn (by omega) ?_)
  rw [List.take_of_length_le hn, show l.length - i = 0 by omega, List.replicate_zero, List.append_nil, nums_nb]
  exact Ev.now _
 | b :: r, i, hd, hi => by
  have hn : i < l.length := by
   have := congrArg List.length hd
   rw [List.length_drop, List.length_cons] at this
   omega
  have e := List.drop_eq_getElem_cons hn
  rw [hd] at e
  obtain ⟨eb, er⟩ := List.cons.inj e
  have hrd : rdOf false l (i : Int) = b := by
   unfold rdOf
   simp [List.getD_eq_getElem?_getD, hn, eb]
  have hlen : (nb ((l.take i).map bitC)).length = i := by
   rw [nb, List.length_map, List.length_map, List.length_take]
   omega
  have set1 : ∀ (z : Int) (m : Nat) (x : Int) (rest : List Int), (nb ((l.take i).map bitC) ++ x :: rest).set i z = nb ((l.take i).map bitC) ++ z :: rest := by
   intro z m x rest
   rw [List.set_append_right _ _ (by omega), hlen, Nat.sub_self]
   rfl
  have e2 : List.replicate (l.length - i) (0 : Int) = 0 :: List.replicate (l.length - (i + 1)) 0 := by
   rw [show l.length - i = (l.length - (i + 1)) + 1 by omega, List.replicate_succ]
  have tk : nb ((l.take (i + 1)).map bitC) = nb ((l.take i).map bitC) ++ [((bitC b).toNat : Int)] := by
   rw [List.take_succ_eq_append_getElem hn, List.map_append, nb, nb, List.map_append, ← eb]
   rfl
  have ih := kept_l l hl r (i + 1) er.symm (by omega)
  rw [tk, List.append_assoc] at ih
  have e1 := w1 (n := i) (by omega)
  rw [e2]
  cases b with
  | true =>
   refine Ev.step (fun k => shell_kept.l0.eq_2 _ _ _ _ _) (Ev.ifp (by omega) (Ev.ifp (by omega) (Ev.ifp (by omega) (Ev.ifp (by rw [List.length_append, hlen, List.length_cons, List.length_replicate]; omega) (Ev.cb rfl (Ev.ifp hrd ?_))))))
   simp only [e1, Int.toNat_natCast, set1 _ 0]
   exact ih
  | false =>
   refine Ev.step (fun k => shell_kept.l0.eq_2 _ _ _ _ _) (Ev.ifp (by omega) (Ev.ifp (by omega) (Ev.ifp (by omega) (Ev.ifp (by rw [List.length_append, hlen, List.length_cons, List.length_replicate]; omega) (Ev.cb rfl (Ev.ifn (by rw [hrd]; decide) ?_))))))
   simp only [e1, Int.toNat_natCast, set1 _ 0]
   exact ih
theorem kept_ev (l : List Bool) (hl : l.length ≤ 1000000) : Ev (fun k => shell_kept.f k l) (B (keptT l)) := by
 by_cases h : l = []
 ·subst h
  exact Ev.ifp rfl (Ev.now _)
 ·have hp : 0 < l.length := List.length_pos_iff.2 h
  rw [keptT, if_neg h]
  exact Ev.ifn (by omega) (Ev.ifp (by omega) (Ev.ifp (by simp only [Int.toNat_natCast]; omega) (kept_l l hl l 0 rfl (Nat.zero_le _))))
theorem bitC_of (b : Bool) : (bitC b = 48 ∧ b = false) ∨ (bitC b = 49 ∧ b = true) := by cases b <;> decide
theorem bits_back (l : List Bool) (hl : l.length ≤ 100000) (h0 : l ≠ []) : ∀ (r : List Bool) (i : Nat), l.drop i = r → i ≤ l.length →
  Ev (fun k => shell_bits.l0 k (l.take i) (bytesOf (B (l.map bitC))) (l.length : Int) (i : Int)) (l, true)
 | [], i, hd, hi => by
  have hn : l.length ≤ i := by
   have := congrArg List.length hd
   rw [List.length_drop, List.length_nil] at this
   omega
  have hp : 0 < l.length := List.length_pos_iff.2 h0
  refine Ev.step (fun k => shell_bits.l0.eq_2 _ _ _ _ _) (Ev.ifn (by omega) ?_)
  rw [List.take_of_length_le hn, decide_eq_true (show ((l.length : Nat) : Int) > 0 by omega)]
  exact Ev.now _
 | b :: r, i, hd, hi => by
  have hn : i < l.length := by
   have := congrArg List.length hd
   rw [List.length_drop, List.length_cons] at this
   omega
  have e := List.drop_eq_getElem_cons hn
  rw [hd] at e
  obtain ⟨eb, er⟩ := List.cons.inj e
  have hz : (B (l.map bitC)).size = l.length := by rw [B_size, List.length_map]
  have hlen : (bytesOf (B (l.map bitC))).length = l.length := by rw [bytesOf_length, hz]
  have hrd : rd (bytesOf (B (l.map bitC))) (i : Int) = ((bitC b).toNat : Int) := by
   rw [bytes_rd _ i (by omega), bt_list _ i (by rw [size_list]; omega)]
   simp only [B_list, List.getElem_map, eb]
  have tk : l.take (i + 1) = l.take i ++ [b] := by rw [List.take_succ_eq_append_getElem hn, ← eb]
  have ih := bits_back l hl h0 r (i + 1) er.symm (by omega)
  rw [tk] at ih
  have e1 := w1 (n := i) (by omega)
  have ht : (l.take i).length ≤ i := List.length_take_le i l
  rcases bitC_of b with ⟨hb, hb2⟩ | ⟨hb, hb2⟩
  ·rw [hb] at hrd
   have h48 : rd (bytesOf (B (l.map bitC))) (i : Int) = 48 := hrd
   refine Ev.step (fun k => shell_bits.l0.eq_2 _ _ _ _ _) (Ev.ifp (by omega) (Ev.ifp (by omega) (Ev.ifp (by omega) (Ev.ifp h48 (Ev.ifp (by omega) ?_)))))
   simp only [e1, h48]
   subst hb2
   exact ih
  ·rw [hb] at hrd
   have h49 : rd (bytesOf (B (l.map bitC))) (i : Int) = 49 := hrd
   refine Ev.step (fun k => shell_bits.l0.eq_2 _ _ _ _ _) (Ev.ifp (by omega) (Ev.ifp (by omega) (Ev.ifp (by omega) (Ev.ifn (by rw [h49]; decide) (Ev.ifp h49 (Ev.ifp (by omega) ?_))))))
   simp only [e1]
   subst hb2
   exact ih
theorem bits_ev (l : List Bool) (hl : l.length ≤ 100000) : Ev (fun k => shell_bits.f k (B (keptT l))) (l, true) := by
 by_cases h : l = []
 ·subst h
  exact Ev.ifp (by rw [B_list]; rfl) (Ev.now _)
 ·rw [keptT, if_neg h]
  refine Ev.ifn ?_ (Ev.ifp (by rw [B_size, List.length_map]; omega) (Ev.cb rfl ?_))
  ·rw [B_list]
   cases l with
   | nil => exact absurd rfl h
   | cons b r =>
    rw [List.map_cons]
    intro e
    have := (List.cons.inj e).1
    cases b <;> exact absurd this (by decide)
  ·simp only [bytesOf_length, B_size, List.length_map]
   exact bits_back l hl h l 0 rfl (Nat.zero_le _)
theorem kept_tok (l : List Bool) : (∀ c ∈ keptT l, tokC c) ∧ keptT l ≠ [] ∧ (keptT l).length ≤ l.length + 1 := by
 by_cases h : l = []
 ·subst h
  refine ⟨fun c hc => ?_, by simp [keptT], by simp [keptT]⟩
  rw [List.mem_singleton.1 hc]
  exact ⟨by decide, by decide, by decide, by decide⟩
 ·rw [keptT, if_neg h]
  refine ⟨fun c hc => ?_, by simpa using h, by rw [List.length_map]; omega⟩
  obtain ⟨b, _, rfl⟩ := List.mem_map.1 hc
  cases b <;> exact ⟨by decide, by decide, by decide, by decide⟩
structure Tok (bs : List UInt8) (w : S88) : Prop where
 read : ∀ (s : ByteArray) (n : Nat) (rest : List UInt8), s.size ≤ 100000 → s.toList.drop n = bs ++ rest → Stop rest → Ev (fun k => shell_line_next.f k s (n : Int)) (w.f0, w.f1, w.f2, true, s, ((n + bs.length : Nat) : Int))
 hd : ∃ c r, bs = c :: r ∧ gapB c = false ∧ c ≠ 35
theorem tok_text (x : ByteArray) : Tok (qt x.toList) ⟨2, x, 0⟩ := by
 refine ⟨fun s n rest hs hd hst => ?_, 34, _, rfl, by decide, by decide⟩
 have hd' : s.toList.drop n = 34 :: (qb x.toList ++ 34 :: rest) := by
  rw [hd, qt]
  simp
 obtain ⟨hn, hb, hr, hz⟩ := at_cons hd'
 have e := text_q s hs rest hst x.toList (n + 1) [] hr (Nat.zero_le _)
 refine Ev.ifp (Int.natCast_nonneg n) (Ev.ifp (Int.ofNat_lt.2 hn) (Ev.ifp hb (Ev.bind (a := (2, x, 0, true, s, ((n + (qt x.toList).length : Nat) : Int))) ?_ (Ev.now _))))
 rw [w1 (by omega)]
 rw [List.nil_append, nums_nb, list_B] at e
 rw [show n + (qt x.toList).length = n + 1 + (qb x.toList).length + 1 by rw [qt, List.length_cons, List.length_append, List.length_singleton]; omega]
 exact e
theorem next_run (s : ByteArray) (hs : s.size ≤ 100000) (a : Nat) (rest : List UInt8) (hst : Stop rest) (R : Int × ByteArray × Int × Bool × ByteArray × Int) : ∀ (t : List UInt8) (m : Nat), s.toList.drop m = t ++ rest → (∀ c ∈ t, tokC c) → m ≤ s.size →
  Ev (fun k => shell_line_next.j1 k (a : Int) false s ((m + t.length : Nat) : Int)) R → Ev (fun k => shell_line_next.l0 k (a : Int) s (m : Int)) R
 | [], m, hd, _, hm, h => by
  rcases hst with rfl | ⟨c, r, rfl, hg⟩
  ·exact Ev.step (fun k => shell_line_next.l0.eq_2 _ _ _ _) (Ev.cb (end_y (at_nil hd)) (Ev.ifp rfl h))
  ·obtain ⟨hn, hb, hr, hz⟩ := at_cons hd
   exact Ev.step (fun k => shell_line_next.l0.eq_2 _ _ _ _) (Ev.cb (end_n hn) (Ev.ifn Bool.false_ne_true (Ev.ifp (Int.natCast_nonneg m) (Ev.ifp (Int.ofNat_lt.2 hn) (Ev.cb (by rw [hb]; exact blank_f c) (by rw [hg]; exact h))))))
 | c :: t, m, hd, ht, hm, h => by
  obtain ⟨hn, hb, hr, hz⟩ := at_cons (r := t ++ rest) hd
  have hc := ht c (List.mem_cons_self ..)
  have hg := tokC_gap hc
  obtain ⟨c1, c2, c3, c4⟩ := hc
  have e1 := w1 (n := m) (by omega)
  have ih := next_run s hs a rest hst R t (m + 1) hr (fun d hd => ht d (List.mem_cons_of_mem _ hd)) (by omega) (by rw [show m + 1 + t.length = m + (c :: t).length by rw [List.length_cons]; omega]; exact h)
  have n34 : ¬ bt s (m : Int) = 34 := by rw [hb]; exact fun h => c3 ((u8_eq (d := 34) rfl).1 h)
  have n35 : (bt s (m : Int) == 35) = false := by rw [hb]; exact beq_eq_false_iff_ne.2 (fun h => c4 ((u8_eq (d := 35) rfl).1 h))
  have b1 : ¬ bt s (m : Int) < 33 := by rw [hb]; omega
  have b2 : ¬ bt s (m : Int) > 126 := by rw [hb]; omega
  refine Ev.step (fun k => shell_line_next.l0.eq_2 _ _ _ _) (Ev.cb (end_n hn) (Ev.ifn Bool.false_ne_true (Ev.ifp (Int.natCast_nonneg m) (Ev.ifp (Int.ofNat_lt.2 hn) (Ev.cb (by rw [hb]; exact blank_f c) ?_)))))
  rw [hg]
  refine Ev.step (fun k => shell_line_next.j1.eq_2 _ _ _ _ _) (Ev.ifp rfl (Ev.ifp (Int.natCast_nonneg m) (Ev.ifp (Int.ofNat_lt.2 hn) (Ev.ifn b1 (Ev.ifn b2 (Ev.ifn n34 ?_))))))
  rw [n35]
  refine Ev.step (fun k => shell_line_next.j2.eq_2 _ _ _ _ _) (Ev.ifn Bool.false_ne_true ?_)
  simp only [e1]
  exact ih
theorem tok_bare (t : List UInt8) (ht : ∀ c ∈ t, tokC c) (h0 : t ≠ []) (v : Int) (ok : Bool) (hv : Ev (fun k => shell_counted.f k (B t)) (v, ok)) : Tok t (if ok = true then ⟨1, B t, v⟩ else ⟨0, B t, 0⟩) := by
 obtain ⟨c, r, rfl⟩ := List.exists_cons_of_ne_nil h0
 have hc := ht c (List.mem_cons_self ..)
 refine ⟨fun s n rest hs hd hst => ?_, c, r, rfl, tokC_gap hc, hc.2.2.2⟩
 obtain ⟨hn, hb, hr, hz⟩ := at_cons (r := r ++ rest) hd
 have n34 : ¬ bt s (n : Int) = 34 := by rw [hb]; exact fun h => hc.2.2.1 ((u8_eq (d := 34) rfl).1 h)
 have hend : n + (c :: r).length ≤ s.size := by rw [hz, List.length_append, List.length_cons]; omega
 have hx : s.extract n (n + (c :: r).length) = B (c :: r) := by
  apply list_inj
  rw [list_ext, B_list, List.drop_take, hd, Nat.add_sub_cancel_left, List.take_left']
  rfl
 refine Ev.ifp (Int.natCast_nonneg n) (Ev.ifp (Int.ofNat_lt.2 hn) (Ev.ifn n34 (next_run s hs n rest hst _ (c :: r) n hd ht (by omega) ?_)))
 cases ok with
 | true =>
  refine Ev.step (fun k => shell_line_next.j1.eq_2 _ _ _ _ _) (Ev.ifn Bool.false_ne_true (Ev.ifp (Int.natCast_nonneg n) (Ev.ifp (Int.ofNat_le.2 (by omega)) (Ev.ifp (Int.ofNat_le.2 hend) ?_))))
  simp only [Int.toNat_natCast, hx]
  exact Ev.bind hv (Ev.ifp rfl (Ev.now _))
 | false =>
  refine Ev.step (fun k => shell_line_next.j1.eq_2 _ _ _ _ _) (Ev.ifn Bool.false_ne_true (Ev.ifp (Int.natCast_nonneg n) (Ev.ifp (Int.ofNat_le.2 (by omega)) (Ev.ifp (Int.ofNat_le.2 hend) ?_))))
  simp only [Int.toNat_natCast, hx]
  exact Ev.bind hv (Ev.ifn Bool.false_ne_true (Ev.now _))
end Go.Proofs.YtenigkhfldafaaaDoor.A

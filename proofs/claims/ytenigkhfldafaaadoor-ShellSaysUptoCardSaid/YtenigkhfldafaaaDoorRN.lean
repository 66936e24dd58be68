/- The document's numbers and quotes are the program's. -/
import Derived.Test.YtenigkhfldafaaaDoorR3
import Derived.Test.YtenigkhfldafaaaDoorA16
import Derived.Lib.ItoaLen
namespace Go.Proofs.YtenigkhfldafaaaDoor.A
open Go.RowKit Go.Proofs.YtenigkhfldafaaaDoorW.PrintWords
set_option maxRecDepth 100000
theorem B_app (a b : List UInt8) : B a ++ B b = B (a ++ b) := by
 apply list_inj
 rw [B_list, ByteArray.toList_eq, ByteArray.data_append, Array.toList_append, ← ByteArray.toList_eq, ← ByteArray.toList_eq, B_list, B_list]
theorem one_dig {u : Nat} (h : u < 10) : strOfNums [(wrap64 (48 + (u : Int))) % 256] = B [UInt8.ofNat (48 + u)] := by
 rw [wrap_small (by omega) (by omega), nums_data]
 congr 1
 simp only [List.map_cons, List.map_nil, List.cons.injEq, and_true]
 congr 1
 omega
theorem number_l (u : Nat) : ∀ (x : List UInt8), u < 9223372036854775808 → x.length + Lib.nDigits u ≤ 100 → Ev (fun k => grapnelref21_Number.l0 k (u : Int) (B x)) (B (Lib.decDigits u ++ x)) := by
 induction u using Nat.strongRecOn with
 | _ u ih =>
  intro x hu hx
  by_cases h : u < 10
  ·refine Ev.step (fun k => grapnelref21_Number.l0.eq_2 ..) (Ev.ifn (by omega) (Ev.cb rfl ?_))
   simp only [one_dig h, B_app]
   refine Ev.ifp (by rw [B_size, B_size, List.length_singleton]; omega) ?_
   rw [Lib.decDigits, dif_pos h]
   exact Ev.now _
  ·have e1 : Int.tmod (u : Int) 10 = ((u % 10 : Nat) : Int) := rfl
   have e0 : Int.tdiv (u : Int) 10 = ((u / 10 : Nat) : Int) := rfl
   have e2 : wrap64 (Int.tdiv (u : Int) 10) = ((u / 10 : Nat) : Int) := by rw [e0]; exact wrap_small (by omega) (by omega)
   refine Ev.step (fun k => grapnelref21_Number.l0.eq_2 ..) (Ev.ifp (by omega) (Ev.cb rfl ?_))
   simp only [e1, e2, one_dig (u := u % 10) (by omega), B_app]
   refine Ev.ifp (by rw [B_size, B_size, List.length_singleton]; omega) ?_
   have hlt : u / 10 < u := by clear e0 e1 e2; omega
   have hlt2 : u / 10 < 9223372036854775808 := by clear e0 e1 e2; omega
   have hnd := Lib.nDigits_big h
   have := ih (u / 10) hlt ([UInt8.ofNat (48 + u % 10)] ++ x) hlt2 (by rw [List.length_append, List.length_singleton]; omega)
   rw [Lib.decDigits, dif_neg h, List.append_assoc]
   exact this
theorem dec_min : Lib.itoa (-9223372036854775808) = [45, 57, 50, 50, 51, 51, 55, 50, 48, 51, 54, 56, 53, 52, 55, 55, 53, 56, 48, 56] := by
 have := Lib.itoa_neg 9223372036854775808 (by decide)
 rw [Lib.decDigits_eq, Lib.nDigits_unique 18 _ (by decide) (by decide)] at this
 exact this
theorem number_all (n : Int) (h1 : -9223372036854775808 ≤ n) (h2 : n ≤ 9223372036854775807) : Ev (fun k => grapnelref21_Number.f k n) (B (Lib.itoa n)) := by
 have pos : ∀ u : Nat, u < 9223372036854775808 → Ev (fun k => grapnelref21_Number.f k (u : Int)) (B (Lib.decDigits u)) := by
  intro u hu
  have := number_l u [] hu (by have := Lib.nDigits_le20 u (by omega); simp only [List.length_nil]; omega)
  rw [List.append_nil] at this
  exact Ev.step (fun k => grapnelref21_Number.f.eq_2 ..) (Ev.ifn (by omega) (Ev.ifn (by omega) this))
 by_cases hmin : n < -9223372036854775807
 ·obtain rfl : n = -9223372036854775808 := by omega
  rw [dec_min]
  exact Ev.step (fun k => grapnelref21_Number.f.eq_2 ..) (Ev.ifp hmin (Ev.now _))
 by_cases hneg : n < 0
 ·obtain ⟨u, rfl⟩ : ∃ u : Nat, n = -(u : Int) := ⟨n.natAbs, by omega⟩
  rw [Lib.itoa_neg u (by omega)]
  have hl : (Lib.decDigits u).length ≤ 100 := by
   rw [Lib.decDigits_length]
   have := Lib.nDigits_le20 u (by omega)
   omega
  refine Ev.step (fun k => grapnelref21_Number.f.eq_2 ..) (Ev.ifn hmin (Ev.ifp hneg (Ev.bind (a := B (Lib.decDigits u)) ?_ (Ev.ifp (by rw [B_size]; omega) ?_))))
  ·rw [wrap_small (by omega) (by omega), Int.neg_neg]
   exact pos u (by omega)
  ·rw [show (⟨#[45]⟩ : ByteArray) ++ B (Lib.decDigits u) = B ([45] ++ Lib.decDigits u) from B_app [45] _]
   exact Ev.now _
 ·obtain ⟨u, rfl⟩ : ∃ u : Nat, n = u := ⟨n.toNat, by omega⟩
  rw [Lib.itoa_nonneg]
  exact pos u (by omega)
theorem ref_dig : ∀ n : Fin 256, (Int.tdiv (n.val : Int) 16) % 256 = ((n.val / 16 : Nat) : Int) ∧ Int.tmod (n.val : Int) 16 = ((n.val % 16 : Nat) : Int) ∧ bt (⟨#[48, 49, 50, 51, 52, 53, 54, 55, 56, 57, 97, 98, 99, 100, 101, 102]⟩ : ByteArray) ((n.val / 16 : Nat) : Int) = ((hxN (n.val / 16)).toNat : Int) := by decide +kernel
theorem refquote_l (s : ByteArray) (hs : s.size ≤ 10000000) : ∀ (d : List UInt8) (i : Nat) (acc : List Int), s.toList.drop i = d → acc.length ≤ 4 * i + 1 → i ≤ s.size →
  Ev (fun k => grapnelref21_Quote.l0 k s (⟨#[48, 49, 50, 51, 52, 53, 54, 55, 56, 57, 97, 98, 99, 100, 101, 102]⟩ : ByteArray) acc (i : Int)) (strOfNums (acc ++ (nb (qb d) ++ [34])))
 | [], i, acc, hd, ha, hi => by
  have hn := at_nil hd
  exact Ev.step (fun k => grapnelref21_Quote.l0.eq_2 ..) (Ev.ifn (by omega) (Ev.ifp (by omega) (Ev.now _)))
 | c :: r, i, acc, hd, ha, hi => by
  obtain ⟨hn, hb, hr, hz⟩ := at_cons hd
  have e1 := w1 (n := i) (by omega)
  have hlen := q1_len c
  have next : ∀ (p : List Int), p = nb (q1 c) → ∀ (R : Nat → Option ByteArray), (∀ k, R k = grapnelref21_Quote.l0 k s (⟨#[48, 49, 50, 51, 52, 53, 54, 55, 56, 57, 97, 98, 99, 100, 101, 102]⟩ : ByteArray) (acc ++ p) (wrap64 ((i : Int) + 1))) → Ev R (strOfNums (acc ++ (nb (qb (c :: r)) ++ [34]))) := by
   intro p hp R hR
   refine Ev.congr hR ?_
   simp only [e1]
   have := refquote_l s hs r (i + 1) (acc ++ p) hr (by rw [List.length_append, hp, nb, List.length_map]; omega) (by omega)
   rw [List.append_assoc, hp, ← List.append_assoc (nb (q1 c))] at this
   rw [show nb (qb (c :: r)) = nb (q1 c) ++ nb (qb r) by simp [qb, nb], hp]
   exact this
  obtain ⟨_, _, g3⟩ := dig_u8 c
  have hc := c.toNat_lt
  obtain ⟨f1, f2, f3⟩ := ref_dig ⟨c.toNat, hc⟩
  simp only at f1 f2 f3
  have z16 : (⟨#[48, 49, 50, 51, 52, 53, 54, 55, 56, 57, 97, 98, 99, 100, 101, 102]⟩ : ByteArray).size = 16 := rfl
  have into : ∀ b : Bool, (b = true ↔ (c = 34 ∨ c = 92)) → Ev (fun k => grapnelref21_Quote.j1 k s (⟨#[48, 49, 50, 51, 52, 53, 54, 55, 56, 57, 97, 98, 99, 100, 101, 102]⟩ : ByteArray) acc (i : Int) (c.toNat : Int) b) (strOfNums (acc ++ (nb (qb (c :: r)) ++ [34]))) := by
   intro b hbi
   by_cases h1 : c = 34 ∨ c = 92
   ·refine Ev.step (fun k => grapnelref21_Quote.j1.eq_2 ..) (Ev.ifp (hbi.2 h1) (Ev.cb rfl (Ev.ifp (by simp only [List.length_cons, List.length_nil]; omega) ?_)))
    exact next [92, (c.toNat : Int)] (by rw [q1, if_pos h1]; rfl) _ (fun k => rfl)
   have hbn : ¬ b = true := fun h => h1 (hbi.1 h)
   by_cases h2 : c = 10
   ·refine Ev.step (fun k => grapnelref21_Quote.j1.eq_2 ..) (Ev.ifn hbn (Ev.ifp ((u8_eq (d := 10) rfl).2 h2) (Ev.cb rfl (Ev.ifp (by simp only [List.length_cons, List.length_nil]; omega) ?_))))
    exact next [92, 110] (by rw [q1, if_neg h1, if_pos h2]; rfl) _ (fun k => rfl)
   have h2' : ¬ ((c.toNat : Int) = 10) := fun h => h2 ((u8_eq (d := 10) rfl).1 h)
   have b1 : (0 : Int) ≤ ((c.toNat / 16 : Nat) : Int) := Int.natCast_nonneg _
   have b2 : ((c.toNat / 16 : Nat) : Int) < ((16 : Nat) : Int) := by omega
   have b3 : (0 : Int) ≤ ((c.toNat % 16 : Nat) : Int) := Int.natCast_nonneg _
   have b4 : ((c.toNat % 16 : Nat) : Int) < ((16 : Nat) : Int) := by omega
   by_cases h3 : (c.toNat : Int) < 32
   ·refine Ev.step (fun k => grapnelref21_Quote.j1.eq_2 ..) (Ev.ifn hbn (Ev.ifn h2' (Ev.ifp h3 ?_)))
    simp only [f1, f2, z16]
    refine Ev.ifp b1 (Ev.ifp b2 (Ev.ifp b3 (Ev.ifp b4 (Ev.cb rfl (Ev.ifp (by simp only [List.length_cons, List.length_nil]; omega) ?_)))))
    exact next _ (by rw [q1, if_neg h1, if_neg h2, if_pos (by omega), f3, g3]; rfl) _ (fun k => rfl)
   by_cases h4 : (c.toNat : Int) > 126
   ·refine Ev.step (fun k => grapnelref21_Quote.j1.eq_2 ..) (Ev.ifn hbn (Ev.ifn h2' (Ev.ifn h3 (Ev.ifp h4 ?_))))
    simp only [f1, f2, z16]
    refine Ev.ifp b1 (Ev.ifp b2 (Ev.ifp b3 (Ev.ifp b4 (Ev.cb rfl (Ev.ifp (by simp only [List.length_cons, List.length_nil]; omega) ?_)))))
    exact next _ (by rw [q1, if_neg h1, if_neg h2, if_pos (by omega), f3, g3]; rfl) _ (fun k => rfl)
   ·refine Ev.step (fun k => grapnelref21_Quote.j1.eq_2 ..) (Ev.ifn hbn (Ev.ifn h2' (Ev.ifn h3 (Ev.ifn h4 (Ev.ifp (by omega) ?_)))))
    exact next [(c.toNat : Int)] (by rw [q1, if_neg h1, if_neg h2, if_neg (by omega)]; rfl) _ (fun k => rfl)
  by_cases h34 : c = 34
  ·refine Ev.step (fun k => grapnelref21_Quote.l0.eq_2 ..) (Ev.ifp (by omega) (Ev.ifp (by omega) (Ev.ifp (by rw [hb]; exact (u8_eq (d := 34) rfl).2 h34) ?_)))
   simp only [hb]
   exact into true ⟨fun _ => .inl h34, fun _ => rfl⟩
  ·refine Ev.step (fun k => grapnelref21_Quote.l0.eq_2 ..) (Ev.ifp (by omega) (Ev.ifp (by omega) (Ev.ifn (by rw [hb]; exact fun h => h34 ((u8_eq (d := 34) rfl).1 h)) ?_)))
   simp only [hb]
   refine into _ ⟨fun h => .inr ((u8_eq (d := 92) rfl).1 (beq_iff_eq.1 h)), fun h => ?_⟩
   rcases h with h | h
   ·exact absurd h h34
   ·exact beq_iff_eq.2 ((u8_eq (d := 92) rfl).2 h)
theorem refquote_ev (s : ByteArray) (hs : s.size ≤ 10000000) : Ev (fun k => grapnelref21_Quote.f k s) (B (qt s.toList)) := by
 have h := refquote_l s hs s.toList 0 [34] rfl (by simp) (Nat.zero_le _)
 have e : strOfNums ([34] ++ (nb (qb s.toList) ++ [34])) = B (qt s.toList) := by
  rw [← nums_nb]
  congr 1
  simp [qt, nb]
 rw [← e]
 exact h
end Go.Proofs.YtenigkhfldafaaaDoor.A

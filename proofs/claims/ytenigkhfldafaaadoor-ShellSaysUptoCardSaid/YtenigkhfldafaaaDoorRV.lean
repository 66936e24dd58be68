/- The law of what is said. -/
import Derived.Test.YtenigkhfldafaaaDoorRN
import Derived.Test.YtenigkhfldafaaaDoorA18
import Derived.Test.YtenigkhfldafaaaDoorQA
namespace Go.Proofs.YtenigkhfldafaaaDoor.A
open Go.RowKit Go.Proofs.YtenigkhfldafaaaDoorW.PrintWords
set_option maxRecDepth 100000
def i64P (n : Int) : Prop := -9223372036854775808 ≤ n ∧ n ≤ 9223372036854775807
theorem itoa_all (n : Int) (h : i64P n) : strconv_Itoa.f n = some (B (Lib.itoa n)) := if_pos ⟨h.1, h.2⟩
theorem num_all (n : Int) (h : i64P n) : Ev (fun k => grapnelref21_Number.f k n) (B (Lib.itoa n)) := number_all n h.1 h.2
theorem it_len (n : Int) (h : i64P n) : (Lib.itoa n).length ≤ 21 := Lib.itoa_length_le n h.1 h.2
theorem qt_len' (s : ByteArray) (h : s.size ≤ 1048576) : (qt s.toList).length ≤ 5000000 := by
 have := qb_len s.toList
 unfold qt
 rw [List.length_cons, List.length_append, List.length_singleton]
 rw [size_list] at this
 omega
structure EntP (x : S65) : Prop where
 name : x.f0.size ≤ 1048576
 ino : i64P x.f1
 gen : i64P x.f2
structure FinP (x : S67) : Prop where
 a : i64P x.f0
 b : i64P x.f1
 c : i64P x.f2
 d : i64P x.f3
def entT (x : S65) : List UInt8 := 32 :: (qt x.f0.toList ++ (32 :: (Lib.itoa x.f1 ++ (32 :: Lib.itoa x.f2))))
def finT (x : S67) : List UInt8 := 59 :: 32 :: (Lib.itoa x.f0 ++ (32 :: (Lib.itoa x.f1 ++ (32 :: (Lib.itoa x.f2 ++ (32 :: Lib.itoa x.f3))))))
theorem sp32 : (⟨#[32]⟩ : ByteArray) = B [32] := rfl
theorem sp59 : (⟨#[59, 32]⟩ : ByteArray) = B [59, 32] := rfl
theorem entries_l : ∀ (l : List S65) (acc : List UInt8), (∀ x ∈ l, EntP x) → acc.length + 6000000 * l.length ≤ 10000000000 → Ev (fun k => entriesL k l acc) (B (acc ++ l.flatMap entT))
 | [], acc, _, _ => by rw [List.flatMap_nil, List.append_nil]; exact Ev.now _
 | x :: l, acc, h, hz => by
  obtain ⟨h0, h1, h2⟩ := h x (List.mem_cons_self ..)
  have q := qt_len' x.f0 h0
  have i1 := it_len _ h1
  have i2 := it_len _ h2
  rw [List.length_cons] at hz
  have ih := entries_l l (acc ++ entT x) (fun y hy => h y (List.mem_cons_of_mem _ hy)) (by
   rw [List.length_append, entT, List.length_cons, List.length_append, List.length_cons, List.length_append, List.length_cons]
   omega)
  rw [List.append_assoc] at ih
  refine Ev.congr (f := fun k => (shell_quote.f k x.f0).bind fun t0 => (strconv_Itoa.f x.f1).bind fun t1 => (strconv_Itoa.f x.f2).bind fun t2 => if acc.length + (t0.size + t1.size + t2.size + 3) ≤ 100000000000000 then entriesL k l (acc ++ ((((((⟨#[32]⟩ : ByteArray) ++ t0) ++ (⟨#[32]⟩ : ByteArray)) ++ t1) ++ (⟨#[32]⟩ : ByteArray)) ++ t2).toList) else none) (fun k => rfl)
   (Ev.bind (quote_ev _ (by omega)) (Ev.cb (itoa_all _ h1) (Ev.cb (itoa_all _ h2) (Ev.ifp (by rw [B_size, B_size, B_size]; omega) ?_))))
  simp only [sp32, B_app, B_list, List.append_assoc, List.cons_append, List.nil_append]
  exact ih
theorem findings_l : ∀ (l : List S67) (acc : List UInt8), (∀ x ∈ l, FinP x) → acc.length + 1000 * l.length ≤ 10000000000 → findingsL l acc = some (B (acc ++ l.flatMap finT))
 | [], acc, _, _ => by rw [List.flatMap_nil, List.append_nil]; rfl
 | x :: l, acc, h, hz => by
  obtain ⟨h0, h1, h2, h3⟩ := h x (List.mem_cons_self ..)
  have i0 := it_len _ h0
  have i1 := it_len _ h1
  have i2 := it_len _ h2
  have i3 := it_len _ h3
  rw [List.length_cons] at hz
  have ih := findings_l l (acc ++ finT x) (fun y hy => h y (List.mem_cons_of_mem _ hy)) (by
   rw [List.length_append, finT]
   simp only [List.length_cons, List.length_append]
   omega)
  rw [List.append_assoc] at ih
  rw [findingsL, itoa_all _ h0, Option.bind_some, itoa_all _ h1, Option.bind_some, itoa_all _ h2, Option.bind_some, itoa_all _ h3, Option.bind_some, if_pos (by simp only [B_size]; omega)]
  simp only [sp32, sp59, B_app, B_list, List.append_assoc, List.cons_append, List.nil_append]
  exact ih
theorem rd65 (l : List S65) (i : Nat) (h : i < l.length) : rd_T65 l (i : Int) = l[i] := by
 unfold rd_T65
 simp [List.getD_eq_getElem?_getD, h]
theorem rd67 (l : List S67) (i : Nat) (h : i < l.length) : rd_T67 l (i : Int) = l[i] := by
 unfold rd_T67
 simp [List.getD_eq_getElem?_getD, h]
theorem refents_l (a0 a1 : Int) (a2 : ByteArray) (a3 a4 a5 a6 a7 : Int) (L : List S65) (F : List S67) (hL : L.length ≤ 60) (h : ∀ x ∈ L, EntP x) : ∀ (r : List S65) (i : Nat) (acc : List UInt8), L.drop i = r → i ≤ L.length → acc.length ≤ 6000000 * (i + 1) →
  Ev (fun k => grapnelref21_Say.l0 k (B acc) (i : Int) a0 a1 a2 a3 a4 a5 a6 a7 L F) (B (acc ++ r.flatMap entT))
 | [], i, acc, hd, hi, _ => by
  have hn : L.length ≤ i := by
   have := congrArg List.length hd
   rw [List.length_drop, List.length_nil] at this
   omega
  rw [List.flatMap_nil, List.append_nil]
  exact Ev.step (fun k => grapnelref21_Say.l0.eq_2 ..) (Ev.ifn (by omega) (Ev.now _))
 | x :: r, i, acc, hd, hi, hz => by
  have hn : i < L.length := by
   have := congrArg List.length hd
   rw [List.length_drop, List.length_cons] at this
   omega
  have ee := List.drop_eq_getElem_cons hn
  rw [hd] at ee
  obtain ⟨eb, er⟩ := List.cons.inj ee
  have hr := rd65 L i hn
  rw [← eb] at hr
  obtain ⟨h0, h1, h2⟩ := h x (by rw [eb]; exact List.getElem_mem _)
  have q := qt_len' x.f0 h0
  have i1 := it_len _ h1
  have i2 := it_len _ h2
  have e1 := w1 (n := i) (by omega)
  have ih := refents_l a0 a1 a2 a3 a4 a5 a6 a7 L F hL h r (i + 1) (acc ++ entT x) er.symm (by omega) (by
   rw [List.length_append, entT, List.length_cons, List.length_append, List.length_cons, List.length_append, List.length_cons]
   omega)
  rw [List.append_assoc] at ih
  refine Ev.step (fun k => grapnelref21_Say.l0.eq_2 ..) (Ev.ifp (by omega) (Ev.ifp (by rw [B_size]; omega) (Ev.ifp (by omega) (Ev.bind (by rw [hr]; exact refquote_ev _ (by omega)) (Ev.ifp (by simp only [sp32, B_app, B_size, List.length_append, List.length_cons, List.length_nil]; omega) (Ev.ifp (by simp only [sp32, B_app, B_size, List.length_append, List.length_cons, List.length_nil]; omega) (Ev.bind (by rw [hr]; exact num_all _ h1) (Ev.ifp (by simp only [sp32, B_app, B_size, List.length_append, List.length_cons, List.length_nil]; omega) (Ev.ifp (by simp only [sp32, B_app, B_size, List.length_append, List.length_cons, List.length_nil]; omega) (Ev.bind (by rw [hr]; exact num_all _ h2) (Ev.ifp (by simp only [sp32, B_app, B_size, List.length_append, List.length_cons, List.length_nil]; omega) ?_)))))))))))
  simp only [sp32, B_app, e1, List.append_assoc, List.cons_append, List.nil_append]
  exact ih
theorem reffins_l (a0 a1 : Int) (a2 : ByteArray) (a3 a4 a5 a6 a7 : Int) (L : List S65) (F : List S67) (hL : F.length ≤ 60) (h : ∀ x ∈ F, FinP x) : ∀ (r : List S67) (i : Nat) (acc : List UInt8), F.drop i = r → i ≤ F.length → acc.length ≤ 1000 * (i + 1) →
  Ev (fun k => grapnelref21_Say.l1 k (B acc) (i : Int) a0 a1 a2 a3 a4 a5 a6 a7 L F) (B (acc ++ r.flatMap finT))
 | [], i, acc, hd, hi, _ => by
  have hn : F.length ≤ i := by
   have := congrArg List.length hd
   rw [List.length_drop, List.length_nil] at this
   omega
  rw [List.flatMap_nil, List.append_nil]
  exact Ev.step (fun k => grapnelref21_Say.l1.eq_2 ..) (Ev.ifn (by omega) (Ev.now _))
 | x :: r, i, acc, hd, hi, hz => by
  have hn : i < F.length := by
   have := congrArg List.length hd
   rw [List.length_drop, List.length_cons] at this
   omega
  have ee := List.drop_eq_getElem_cons hn
  rw [hd] at ee
  obtain ⟨eb, er⟩ := List.cons.inj ee
  have hr := rd67 F i hn
  rw [← eb] at hr
  obtain ⟨h0, h1, h2, h3⟩ := h x (by rw [eb]; exact List.getElem_mem _)
  have i0 := it_len _ h0
  have i1 := it_len _ h1
  have i2 := it_len _ h2
  have i3 := it_len _ h3
  have e1 := w1 (n := i) (by omega)
  have ih := reffins_l a0 a1 a2 a3 a4 a5 a6 a7 L F hL h r (i + 1) (acc ++ finT x) er.symm (by omega) (by
   rw [List.length_append, finT]
   simp only [List.length_cons, List.length_append]
   omega)
  rw [List.append_assoc] at ih
  refine Ev.step (fun k => grapnelref21_Say.l1.eq_2 ..) (Ev.ifp (by omega) (Ev.ifp (by omega) (Ev.ifp (by rw [B_size]; omega) (Ev.bind (by rw [hr]; exact num_all _ h0) (Ev.ifp (by simp only [sp59, B_app, B_size, List.length_append, List.length_cons, List.length_nil]; omega) (Ev.ifp (by simp only [sp59, B_app, B_size, List.length_append, List.length_cons, List.length_nil]; omega) (Ev.bind (by rw [hr]; exact num_all _ h1) (Ev.ifp (by simp only [sp32, sp59, B_app, B_size, List.length_append, List.length_cons, List.length_nil]; omega) (Ev.ifp (by simp only [sp32, sp59, B_app, B_size, List.length_append, List.length_cons, List.length_nil]; omega) (Ev.bind (by rw [hr]; exact num_all _ h2) (Ev.ifp (by simp only [sp32, sp59, B_app, B_size, List.length_append, List.length_cons, List.length_nil]; omega) (Ev.ifp (by simp only [sp32, sp59, B_app, B_size, List.length_append, List.length_cons, List.length_nil]; omega) (Ev.bind (by rw [hr]; exact num_all _ h3) (Ev.ifp (by simp only [sp32, sp59, B_app, B_size, List.length_append, List.length_cons, List.length_nil]; omega) ?_))))))))))))))
  simp only [sp32, sp59, B_app, e1, List.append_assoc, List.cons_append, List.nil_append]
  exact ih
theorem ok2 : (⟨#[111, 107]⟩ : ByteArray) = B [111, 107] := rfl
theorem ok3 : (⟨#[111, 107, 32]⟩ : ByteArray) = B [111, 107, 32] := rfl
structure ToldP (e n : Int) (x : ByteArray) (a b c d f : Int) (L : List S65) (F : List S67) : Prop where
 err : i64P e
 num : i64P n
 text : x.size ≤ 1048576
 a : i64P a
 b : i64P b
 c : i64P c
 d : i64P d
 f : i64P f
 ents : ∀ x ∈ L, EntP x
 fins : ∀ x ∈ F, FinP x
 lenL : L.length ≤ 60
 lenF : F.length ≤ 60
theorem ents_len : ∀ L : List S65, (∀ x ∈ L, EntP x) → (L.flatMap entT).length ≤ 6000000 * L.length
 | [], _ => Nat.le_refl _
 | x :: L, h => by
  obtain ⟨h0, h1, h2⟩ := h x (List.mem_cons_self ..)
  have q := qt_len' x.f0 h0
  have i1 := it_len _ h1
  have i2 := it_len _ h2
  have ih := ents_len L (fun y hy => h y (List.mem_cons_of_mem _ hy))
  rw [List.flatMap_cons, List.length_append, List.length_cons, entT]
  simp only [List.length_cons, List.length_append]
  omega
theorem fins_len : ∀ L : List S67, (∀ x ∈ L, FinP x) → (L.flatMap finT).length ≤ 1000 * L.length
 | [], _ => Nat.le_refl _
 | x :: L, h => by
  obtain ⟨h0, h1, h2, h3⟩ := h x (List.mem_cons_self ..)
  have i0 := it_len _ h0
  have i1 := it_len _ h1
  have i2 := it_len _ h2
  have i3 := it_len _ h3
  have ih := fins_len L (fun y hy => h y (List.mem_cons_of_mem _ hy))
  rw [List.flatMap_cons, List.length_append, List.length_cons, finT]
  simp only [List.length_cons, List.length_append]
  omega
theorem say_same (q0 q1 q2 q3 : Int) (q4 q5 q6 : ByteArray) (q7 : List Bool) (e n : Int) (x : ByteArray) (a b c d f : Int) (L : List S65) (F : List S67) (h : ToldP e n x a b c d f L F) :
  ∃ R, Ev (fun k => shell_Say.f k q0 q1 q2 q3 q4 q5 q6 q7 e n x a b c d f L F) R ∧ Ev (fun k => grapnelref21_Say.f k q0 q1 q2 q3 q4 q5 q6 q7 e n x a b c d f L F) R := by
 have ie := it_len _ h.err
 have iN := it_len _ h.num
 have ia := it_len _ h.a
 have ib := it_len _ h.b
 have ic := it_len _ h.c
 have id_ := it_len _ h.d
 have if_ := it_len _ h.f
 have iq := qt_len' x h.text
 by_cases he : e = 0
 ·have tx : ∀ kd : Int, Ev (fun k => shell_Say.j0 k kd true e n x a b c d f L F) (B ([111, 107, 32] ++ qt x.toList)) ∧ Ev (fun k => grapnelref21_Say.j0 k (⟨#[111, 107]⟩ : ByteArray) kd true e n x a b c d f L F) (B ([111, 107, 32] ++ qt x.toList)) := by
   intro kd
   have hx := h.text
   constructor
   ·refine Ev.step (fun k => shell_Say.j0.eq_2 ..) (Ev.ifp rfl (Ev.bind (quote_ev _ (by omega)) (Ev.ifp (by rw [B_size]; omega) ?_)))
    rw [ok3, B_app]
    exact Ev.now _
   ·refine Ev.step (fun k => grapnelref21_Say.j0.eq_2 ..) (Ev.ifp rfl (Ev.ifp (by decide) (Ev.bind (refquote_ev _ (by omega)) (Ev.ifp (by simp only [ok2, sp32, B_app, B_size, List.length_append, List.length_cons, List.length_nil]; omega) ?_))))
    simp only [ok2, sp32, B_app, List.cons_append, List.nil_append]
    exact Ev.now _
  by_cases h5 : q0 = 5
  ·have e5 : (q0 == 5) = true := beq_iff_eq.2 h5
   exact ⟨_, Ev.ifp he (Ev.ifp h5 (by rw [e5]; exact (tx q0).1)), Ev.ifp he (Ev.ifp h5 (by rw [e5]; exact (tx q0).2))⟩
  by_cases h15 : q0 = 15
  ·have e15 : (q0 == 15) = true := beq_iff_eq.2 h15
   exact ⟨_, Ev.ifp he (Ev.ifn h5 (by rw [e15]; exact (tx q0).1)), Ev.ifp he (Ev.ifn h5 (by rw [e15]; exact (tx q0).2))⟩
  have e15 : (q0 == 15) = false := beq_eq_false_iff_ne.2 h15
  have into : ∀ R, Ev (fun k => shell_Say.j0 k q0 false e n x a b c d f L F) R ∧ Ev (fun k => grapnelref21_Say.j0 k (⟨#[111, 107]⟩ : ByteArray) q0 false e n x a b c d f L F) R →
    ∃ R, Ev (fun k => shell_Say.f k q0 q1 q2 q3 q4 q5 q6 q7 e n x a b c d f L F) R ∧ Ev (fun k => grapnelref21_Say.f k q0 q1 q2 q3 q4 q5 q6 q7 e n x a b c d f L F) R := fun R hR =>
   ⟨R, Ev.ifp he (Ev.ifn h5 (by rw [e15]; exact hR.1)), Ev.ifp he (Ev.ifn h5 (by rw [e15]; exact hR.2))⟩
  by_cases h11 : q0 = 11
  ·refine into (B ([111, 107, 32] ++ Lib.itoa n)) ⟨?_, ?_⟩
   ·refine Ev.step (fun k => shell_Say.j0.eq_2 ..) (Ev.ifn (by decide) (Ev.ifp h11 (Ev.cb (itoa_all _ h.num) (Ev.ifp (by rw [B_size]; omega) ?_))))
    rw [ok3, B_app]
    exact Ev.now _
   ·refine Ev.step (fun k => grapnelref21_Say.j0.eq_2 ..) (Ev.ifn (by decide) (Ev.ifp h11 (Ev.ifp (by decide) (Ev.bind (num_all _ h.num) (Ev.ifp (by simp only [ok2, sp32, B_app, B_size, List.length_append, List.length_cons, List.length_nil]; omega) ?_)))))
    simp only [ok2, sp32, B_app, List.cons_append, List.nil_append]
    exact Ev.now _
  by_cases h9 : q0 = 9
  ·refine into (B ([111, 107, 32] ++ (Lib.itoa a ++ (32 :: (Lib.itoa b ++ (32 :: (Lib.itoa c ++ (32 :: (Lib.itoa d ++ (32 :: Lib.itoa f)))))))))) ⟨?_, ?_⟩
   ·refine Ev.step (fun k => shell_Say.j0.eq_2 ..) (Ev.ifn (by decide) (Ev.ifn h11 (Ev.ifp h9 (Ev.cb (itoa_all _ h.a) (Ev.ifp (by rw [B_size]; omega) (Ev.ifp (by simp only [ok3, sp32, B_app, B_size, List.length_append, List.length_cons, List.length_nil]; omega) (Ev.cb (itoa_all _ h.b) (Ev.ifp (by simp only [ok3, sp32, B_app, B_size, List.length_append, List.length_cons, List.length_nil]; omega) (Ev.ifp (by simp only [ok3, sp32, B_app, B_size, List.length_append, List.length_cons, List.length_nil]; omega) (Ev.cb (itoa_all _ h.c) (Ev.ifp (by simp only [ok3, sp32, B_app, B_size, List.length_append, List.length_cons, List.length_nil]; omega) (Ev.ifp (by simp only [ok3, sp32, B_app, B_size, List.length_append, List.length_cons, List.length_nil]; omega) (Ev.cb (itoa_all _ h.d) (Ev.ifp (by simp only [ok3, sp32, B_app, B_size, List.length_append, List.length_cons, List.length_nil]; omega) (Ev.ifp (by simp only [ok3, sp32, B_app, B_size, List.length_append, List.length_cons, List.length_nil]; omega) (Ev.cb (itoa_all _ h.f) (Ev.ifp (by simp only [ok3, sp32, B_app, B_size, List.length_append, List.length_cons, List.length_nil]; omega) ?_)))))))))))))))))
    simp only [ok3, sp32, B_app, List.append_assoc, List.cons_append, List.nil_append]
    exact Ev.now _
   ·refine Ev.step (fun k => grapnelref21_Say.j0.eq_2 ..) (Ev.ifn (by decide) (Ev.ifn h11 (Ev.ifp h9 (Ev.ifp (by decide) (Ev.bind (num_all _ h.a) (Ev.ifp (by simp only [ok2, sp32, B_app, B_size, List.length_append, List.length_cons, List.length_nil]; omega) (Ev.ifp (by simp only [ok2, sp32, B_app, B_size, List.length_append, List.length_cons, List.length_nil]; omega) (Ev.bind (num_all _ h.b) (Ev.ifp (by simp only [ok2, sp32, B_app, B_size, List.length_append, List.length_cons, List.length_nil]; omega) (Ev.ifp (by simp only [ok2, sp32, B_app, B_size, List.length_append, List.length_cons, List.length_nil]; omega) (Ev.bind (num_all _ h.c) (Ev.ifp (by simp only [ok2, sp32, B_app, B_size, List.length_append, List.length_cons, List.length_nil]; omega) (Ev.ifp (by simp only [ok2, sp32, B_app, B_size, List.length_append, List.length_cons, List.length_nil]; omega) (Ev.bind (num_all _ h.d) (Ev.ifp (by simp only [ok2, sp32, B_app, B_size, List.length_append, List.length_cons, List.length_nil]; omega) (Ev.ifp (by simp only [ok2, sp32, B_app, B_size, List.length_append, List.length_cons, List.length_nil]; omega) (Ev.bind (num_all _ h.f) (Ev.ifp (by simp only [ok2, sp32, B_app, B_size, List.length_append, List.length_cons, List.length_nil]; omega) ?_))))))))))))))))))
    simp only [ok2, sp32, B_app, List.append_assoc, List.cons_append, List.nil_append]
    exact Ev.now _
  have lE := ents_len L h.ents
  have lF := fins_len F h.fins
  have hlL := h.lenL
  have hlF := h.lenF
  by_cases h10 : q0 = 10
  ·refine into (B ([111, 107] ++ L.flatMap entT)) ⟨?_, ?_⟩
   ·have e := entries_l L [] h.ents (by simp only [List.length_nil]; omega)
    rw [List.nil_append] at e
    refine Ev.step (fun k => shell_Say.j0.eq_2 ..) (Ev.ifn (by decide) (Ev.ifn h11 (Ev.ifn h9 (Ev.ifp h10 (Ev.bind e (Ev.ifp (by rw [B_size]; omega) ?_))))))
    rw [ok2, B_app]
    exact Ev.now _
   ·exact Ev.step (fun k => grapnelref21_Say.j0.eq_2 ..) (Ev.ifn (by decide) (Ev.ifn h11 (Ev.ifn h9 (Ev.ifp h10 (refents_l e n x a b c d f L F hlL h.ents L 0 [111, 107] rfl (Nat.zero_le _) (by decide))))))
  have fin : Ev (fun k => shell_Say.j1 k true e n x a b c d f L F) (B ([111, 107, 32] ++ (Lib.itoa n ++ F.flatMap finT))) ∧ Ev (fun k => grapnelref21_Say.j2 k (⟨#[111, 107]⟩ : ByteArray) true e n x a b c d f L F) (B ([111, 107, 32] ++ (Lib.itoa n ++ F.flatMap finT))) := by
   constructor
   ·have e := findings_l F [] h.fins (by simp only [List.length_nil]; omega)
    rw [List.nil_append] at e
    refine Ev.step (fun k => shell_Say.j1.eq_2 ..) (Ev.ifp rfl (Ev.cb (itoa_all _ h.num) (Ev.ifp (by rw [B_size]; omega) (Ev.cb e (Ev.ifp (by simp only [ok3, B_app, B_size, List.length_append, List.length_cons, List.length_nil]; omega) ?_)))))
    simp only [ok3, B_app, List.append_assoc]
    exact Ev.now _
   ·refine Ev.step (fun k => grapnelref21_Say.j2.eq_2 ..) (Ev.ifp rfl (Ev.ifp (by decide) (Ev.bind (num_all _ h.num) (Ev.ifp (by simp only [ok2, sp32, B_app, B_size, List.length_append, List.length_cons, List.length_nil]; omega) ?_))))
    have r := reffins_l e n x a b c d f L F hlF h.fins F 0 ([111, 107] ++ ([32] ++ Lib.itoa n)) rfl (Nat.zero_le _) (by simp only [List.length_append, List.length_cons, List.length_nil]; omega)
    simp only [ok2, sp32, B_app, List.append_assoc, List.cons_append, List.nil_append] at r ⊢
    exact r
  by_cases h24 : q0 = 24
  ·have e24 : (q0 == 24) = true := beq_iff_eq.2 h24
   refine into (B ([111, 107, 32] ++ (Lib.itoa n ++ F.flatMap finT))) ⟨?_, ?_⟩
   ·exact Ev.step (fun k => shell_Say.j0.eq_2 ..) (Ev.ifn (by decide) (Ev.ifn h11 (Ev.ifn h9 (Ev.ifn h10 (Ev.ifp h24 (by rw [e24]; exact fin.1))))))
   ·exact Ev.step (fun k => grapnelref21_Say.j0.eq_2 ..) (Ev.ifn (by decide) (Ev.ifn h11 (Ev.ifn h9 (Ev.ifn h10 (Ev.ifp h24 (by rw [e24]; exact fin.2))))))
  by_cases h25 : q0 = 25
  ·have e25 : (q0 == 25) = true := beq_iff_eq.2 h25
   refine into (B ([111, 107, 32] ++ (Lib.itoa n ++ F.flatMap finT))) ⟨?_, ?_⟩
   ·exact Ev.step (fun k => shell_Say.j0.eq_2 ..) (Ev.ifn (by decide) (Ev.ifn h11 (Ev.ifn h9 (Ev.ifn h10 (Ev.ifn h24 (by rw [e25]; exact fin.1))))))
   ·exact Ev.step (fun k => grapnelref21_Say.j0.eq_2 ..) (Ev.ifn (by decide) (Ev.ifn h11 (Ev.ifn h9 (Ev.ifn h10 (Ev.ifn h24 (by rw [e25]; exact fin.2))))))
  have e25 : (q0 == 25) = false := beq_eq_false_iff_ne.2 h25
  refine into ⟨#[111, 107]⟩ ⟨?_, ?_⟩
  ·exact Ev.step (fun k => shell_Say.j0.eq_2 ..) (Ev.ifn (by decide) (Ev.ifn h11 (Ev.ifn h9 (Ev.ifn h10 (Ev.ifn h24 (by rw [e25]; exact Ev.step (fun k => shell_Say.j1.eq_2 ..) (Ev.ifn (by decide) (Ev.now _))))))))
  ·exact Ev.step (fun k => grapnelref21_Say.j0.eq_2 ..) (Ev.ifn (by decide) (Ev.ifn h11 (Ev.ifn h9 (Ev.ifn h10 (Ev.ifn h24 (by rw [e25]; exact Ev.step (fun k => grapnelref21_Say.j2.eq_2 ..) (Ev.ifn (by decide) (Ev.now _))))))))
 ·refine ⟨B ([101, 114, 114, 111, 114, 32] ++ Lib.itoa e), Ev.ifn he (Ev.cb (itoa_all _ h.err) (Ev.ifp (by rw [B_size]; omega) ?_)), Ev.ifn he (Ev.bind (num_all _ h.err) (Ev.ifp (by rw [B_size]; omega) ?_))⟩
  ·rw [show (⟨#[101, 114, 114, 111, 114, 32]⟩ : ByteArray) = B [101, 114, 114, 111, 114, 32] from rfl, B_app]
   exact Ev.now _
  ·rw [show (⟨#[101, 114, 114, 111, 114, 32]⟩ : ByteArray) = B [101, 114, 114, 111, 114, 32] from rfl, B_app]
   exact Ev.now _
theorem says_law (q0 q1 q2 q3 : Int) (q4 q5 q6 : ByteArray) (q7 : List Bool) (e n : Int) (x : ByteArray) (a b c d f : Int) (L : List S65) (F : List S67) (he : i64P e) (hn : i64P n) (hx : x.size ≤ 1048576) (ha : i64P a) (hb : i64P b) (hc : i64P c) (hd : i64P d) (hf : i64P f) (hE : ∀ x ∈ L, EntP x) (hF : ∀ x ∈ F, FinP x) :
  ∃ k, grapnellaw21_ShellSays.f k q0 q1 q2 q3 q4 q5 q6 q7 e n x a b c d f L F = some true := by
 apply Ev.rounds
 have go : ∀ (L' : List S65) (F' : List S67), L'.length ≤ 60 → F'.length ≤ 60 → (∀ x ∈ L', EntP x) → (∀ x ∈ F', FinP x) → ToldP e n x a b c d f L' F' := fun L' F' h1 h2 h3 h4 => ⟨he, hn, hx, ha, hb, hc, hd, hf, h3, h4, h1, h2⟩
 have tL : (L.take 60).length ≤ 60 := List.length_take_le _ _
 have tF : (F.take 60).length ≤ 60 := List.length_take_le _ _
 have mL : ∀ x ∈ L.take 60, EntP x := fun x hx => hE x (List.mem_of_mem_take hx)
 have mF : ∀ x ∈ F.take 60, FinP x := fun x hx => hF x (List.mem_of_mem_take hx)
 have both : ∀ (L' : List S65) (F' : List S67), ToldP e n x a b c d f L' F' → Ev (fun k => (shell_Say.f k q0 q1 q2 q3 q4 q5 q6 q7 e n x a b c d f L' F').bind fun t => (grapnelref21_Say.f k q0 q1 q2 q3 q4 q5 q6 q7 e n x a b c d f L' F').bind fun u => if t.toList = u.toList then (grapnellaw21_awake.f k).bind fun z => some z else some false) true := by
  intro L' F' h
  obtain ⟨R, h1, h2⟩ := say_same q0 q1 q2 q3 q4 q5 q6 q7 e n x a b c d f L' F' h
  exact Ev.bind h1 (Ev.bind h2 (Ev.ifp rfl (Ev.bind awake_ev (Ev.now _))))
 by_cases h1 : (L.length : Int) > 60
 ·by_cases h2 : (F.length : Int) > 60
  ·exact Ev.ifp h1 (Ev.ifp (by omega) (Ev.cb rfl (Ev.ifp h2 (Ev.ifp (by omega) (Ev.cb rfl (both _ _ (go _ _ tL tF mL mF)))))))
  ·exact Ev.ifp h1 (Ev.ifp (by omega) (Ev.cb rfl (Ev.ifn h2 (both _ _ (go _ _ tL (by omega) mL hF)))))
 ·by_cases h2 : (F.length : Int) > 60
  ·exact Ev.ifn h1 (Ev.ifp h2 (Ev.ifp (by omega) (Ev.cb rfl (both _ _ (go _ _ (by omega) tF hE mF)))))
  ·exact Ev.ifn h1 (Ev.ifn h2 (both _ _ (go _ _ (by omega) (by omega) hE hF)))
end Go.Proofs.YtenigkhfldafaaaDoor.A

/- A line that was printed is read back. -/
import Derived.Test.YtenigkhfldafaaaDoorR4
import Derived.Test.YtenigkhfldafaaaDoorY3
namespace Go.Proofs.YtenigkhfldafaaaDoor.A
open Go.RowKit Go.Proofs.YtenigkhfldafaaaDoorW.PrintWords
set_option maxRecDepth 100000
structure Sz (a : S31) : Prop where
 s4 : a.f4.size ≤ 100000
 s5 : a.f5.size ≤ 100000
 s6 : a.f6.size ≤ 100000
 s7 : a.f7.length ≤ 99999
theorem Bd.sz {M : Nat} {a : S31} (h : Bd M a) (hM : M ≤ 99999) : Sz a := ⟨Nat.le_trans h.s4 (Nat.le_succ_of_le hM), Nat.le_trans h.s5 (Nat.le_succ_of_le hM), Nat.le_trans h.s6 (Nat.le_succ_of_le hM), Nat.le_trans h.s7 hM⟩
def smallP (n : Int) : Prop := -1000000000000000000 < n ∧ n < 1000000000000000000
def smallAt (a : S31) (c : UInt8) : Prop := (c = 102 → smallP a.f1) ∧ (c = 110 → smallP a.f2) ∧ (c = 109 → smallP a.f3)
theorem smallB_iff (n : Int) : smallB n = true ↔ smallP n := by
 unfold smallB smallP
 rw [Bool.and_eq_true, decide_eq_true_eq, decide_eq_true_eq]
theorem contB_iff (s : ByteArray) (c : UInt8) : contB s c = true ↔ c ∈ s.toList := by
 unfold contB
 rw [decide_eq_true_eq, Lib.index_one, ← ByteArray.toList_eq]
 constructor
 ·intro h
  obtain ⟨o, ho⟩ := Int.eq_ofNat_of_zero_le h
  exact List.mem_of_getElem? (Lib.indexByte_some ho).1
 ·intro h
  rcases Int.lt_or_le (Lib.indexByte s.toList c) 0 with hn | hp
  ·have e : Lib.indexByte s.toList c = -1 := by have := Lib.indexByte_ge s.toList c; omega
   obtain ⟨i, hi, he⟩ := List.getElem_of_mem h
   exact absurd (by rw [List.getElem?_eq_getElem hi, he]) (Lib.indexByte_none e i)
  ·exact hp
theorem wide_iff (a : S31) (nd : ByteArray) : wideB a nd = false ↔ ∀ c ∈ nd.toList, smallAt a c := by
 unfold wideB smallAt
 have h1 := smallB_iff a.f1
 have h2 := smallB_iff a.f2
 have h3 := smallB_iff a.f3
 have c1 := contB_iff nd 102
 have c2 := contB_iff nd 110
 have c3 := contB_iff nd 109
 constructor
 ·intro h c hc
  rw [Bool.or_eq_false_iff, Bool.or_eq_false_iff] at h
  obtain ⟨⟨p1, p2⟩, p3⟩ := h
  refine ⟨?_, ?_, ?_⟩
  ·rintro rfl
   rw [c1.2 hc, Bool.and_true, Bool.not_eq_false'] at p1
   exact h1.1 p1
  ·rintro rfl
   rw [c2.2 hc, Bool.and_true, Bool.not_eq_false'] at p2
   exact h2.1 p2
  ·rintro rfl
   rw [c3.2 hc, Bool.and_true, Bool.not_eq_false'] at p3
   exact h3.1 p3
 ·intro h
  have q : ∀ (b : Bool) (n : Int) (d : UInt8), (b = true ↔ d ∈ nd.toList) → (smallB n = true ↔ smallP n) → (d ∈ nd.toList → smallP n) → (!smallB n && b) = false := by
   intro b n d hb hs hp
   cases hbb : b with
   | false => rw [Bool.and_false]
   | true => rw [hs.2 (hp (hb.1 hbb))]; rfl
  rw [q _ _ 102 c1 h1 (fun hm => (h _ hm).1 rfl), q _ _ 110 c2 h2 (fun hm => (h _ hm).2.1 rfl), q _ _ 109 c3 h3 (fun hm => (h _ hm).2.2 rfl)]
  rfl
def argT (a : S31) (c : UInt8) : List UInt8 := if c = 112 then qt a.f4.toList else if c = 113 then qt a.f5.toList else if c = 116 then qt a.f6.toList else if c = 107 then keptT a.f7 else if c = 102 then Lib.itoa a.f1 else if c = 110 then Lib.itoa a.f2 else Lib.itoa a.f3
theorem itoa_f (n : Int) (h : smallP n) : strconv_Itoa.f n = some (B (Lib.itoa n)) := if_pos ⟨by have := h.1; omega, by have := h.2; omega⟩
theorem qt_len (l : List UInt8) : (qt l).length ≤ 4 * l.length + 2 := by
 have := qb_len l
 unfold qt
 rw [List.length_cons, List.length_append, List.length_singleton]
 omega
theorem arg_ev (a : S31) (ha : Sz a) (c : UInt8) (hc : c ∈ letters) (hs : smallAt a c) :
  Ev (fun k => shell_argument.f k a.f0 a.f1 a.f2 a.f3 a.f4 a.f5 a.f6 a.f7 (c.toNat : Int)) (B (argT a c)) ∧ (argT a c).length ≤ 500000 ∧
   ∃ w : S88, Tok (argT a c) w ∧ ∀ b : S31, Ev (fun k => setF k b (c.toNat : Int) w) (put a b c, true) := by
 obtain ⟨s4, s5, s6, s7⟩ := ha
 obtain ⟨n1, n2, n3⟩ := hs
 have set2 : ∀ (x : ByteArray) (d : Int) (b b' : S31), (∀ k, setF k b d ⟨2, x, 0⟩ = some (b', true)) → Ev (fun k => setF k b d ⟨2, x, 0⟩) (b', true) := fun x d b b' h => Ev.congr h (Ev.now _)
 have num : ∀ (n : Int), smallP n → (∃ w : S88, w = ⟨1, B (Lib.itoa n), n⟩ ∧ Tok (Lib.itoa n) w) ∧ (Lib.itoa n).length ≤ 500000 := by
  intro n hn
  obtain ⟨e, h1, h2, h3⟩ := itoa_ev n hn.1 hn.2
  have := tok_bare _ h1 h2 n true e
  exact ⟨⟨_, rfl, this⟩, by omega⟩
 rcases letters_cases hc with rfl | rfl | rfl | rfl | rfl | rfl | rfl
 ·refine ⟨Ev.ifp rfl (Ev.bind (quote_ev _ (by omega)) (Ev.now _)), ?_, _, tok_text a.f4, fun b => Ev.congr (fun k => rfl) (Ev.now _)⟩
  have := qt_len a.f4.toList; rw [size_list] at this; show (qt a.f4.toList).length ≤ _; omega
 ·refine ⟨Ev.ifn (by decide) (Ev.ifp rfl (Ev.bind (quote_ev _ (by omega)) (Ev.now _))), ?_, _, tok_text a.f5, fun b => Ev.congr (fun k => rfl) (Ev.now _)⟩
  have := qt_len a.f5.toList; rw [size_list] at this; show (qt a.f5.toList).length ≤ _; omega
 ·refine ⟨Ev.ifn (by decide) (Ev.ifn (by decide) (Ev.ifp rfl (Ev.bind (quote_ev _ (by omega)) (Ev.now _)))), ?_, _, tok_text a.f6, fun b => Ev.congr (fun k => rfl) (Ev.now _)⟩
  have := qt_len a.f6.toList; rw [size_list] at this; show (qt a.f6.toList).length ≤ _; omega
 ·obtain ⟨k1, k2, k3⟩ := kept_tok a.f7
  obtain ⟨v, ok, hv, _⟩ := counted_tot (B (keptT a.f7)) (by rw [B_size]; omega)
  refine ⟨Ev.ifn (by decide) (Ev.ifn (by decide) (Ev.ifn (by decide) (Ev.ifp rfl (Ev.bind (kept_ev _ (by omega)) (Ev.now _))))), (show (keptT a.f7).length ≤ _ by omega), _, tok_bare _ k1 k2 v ok hv, fun b => ?_⟩
  have e := bits_ev a.f7 (by omega)
  cases ok with
  | true => exact Ev.congr (f := fun k => (shell_bits.f k (B (keptT a.f7))).bind fun x => some ({ b with f7 := x.1 }, x.2 && !((1 : Int) == 2))) (fun k => rfl) (Ev.bind e (Ev.now _))
  | false => exact Ev.congr (f := fun k => (shell_bits.f k (B (keptT a.f7))).bind fun x => some ({ b with f7 := x.1 }, x.2 && !((0 : Int) == 2))) (fun k => rfl) (Ev.bind e (Ev.now _))
 ·obtain ⟨⟨w, rfl, hw⟩, hl⟩ := num a.f1 (n1 rfl)
  exact ⟨Ev.ifn (by decide) (Ev.ifn (by decide) (Ev.ifn (by decide) (Ev.ifn (by decide) (Ev.ifp rfl (Ev.cb (itoa_f _ (n1 rfl)) (Ev.now _)))))), hl, _, hw, fun b => Ev.congr (fun k => rfl) (Ev.now _)⟩
 ·obtain ⟨⟨w, rfl, hw⟩, hl⟩ := num a.f2 (n2 rfl)
  exact ⟨Ev.ifn (by decide) (Ev.ifn (by decide) (Ev.ifn (by decide) (Ev.ifn (by decide) (Ev.ifn (by decide) (Ev.ifp rfl (Ev.cb (itoa_f _ (n2 rfl)) (Ev.now _))))))), hl, _, hw, fun b => Ev.congr (fun k => rfl) (Ev.now _)⟩
 ·obtain ⟨⟨w, rfl, hw⟩, hl⟩ := num a.f3 (n3 rfl)
  exact ⟨Ev.ifn (by decide) (Ev.ifn (by decide) (Ev.ifn (by decide) (Ev.ifn (by decide) (Ev.ifn (by decide) (Ev.ifn (by decide) (Ev.cb (itoa_f _ (n3 rfl)) (Ev.now _))))))), hl, _, hw, fun b => Ev.congr (fun k => rfl) (Ev.now _)⟩
def argsT (a : S31) (cs : List UInt8) : List UInt8 := cs.flatMap fun c => 32 :: argT a c
theorem argsT_cons (a : S31) (c : UInt8) (cs : List UInt8) : argsT a (c :: cs) = 32 :: argT a c ++ argsT a cs := rfl
theorem lineL_ev (a : S31) (ha : Sz a) : ∀ (cs acc : List UInt8), (∀ c ∈ cs, c ∈ letters ∧ smallAt a c) → acc.length ≤ 8000 →
  Ev (fun k => lineL k a cs acc) (if (acc ++ argsT a cs).length ≤ 8000 then (B (acc ++ argsT a cs), 0) else (⟨#[]⟩, 4))
 | [], acc, _, h => by
  rw [show argsT a [] = [] from rfl, List.append_nil, if_pos h]
  exact Ev.now _
 | c :: cs, acc, hc, h => by
  obtain ⟨h1, h2⟩ := hc c (List.mem_cons_self ..)
  obtain ⟨e, hl, _⟩ := arg_ev a ha c h1 h2
  refine Ev.congr (f := fun k => (shell_argument.f k a.f0 a.f1 a.f2 a.f3 a.f4 a.f5 a.f6 a.f7 c.toNat).bind fun t =>
   if t.size ≤ 100000000000000 then
    if 8000 < (acc ++ 32 :: t.toList).length then some (⟨#[]⟩, 4) else lineL k a cs (acc ++ 32 :: t.toList)
   else none) (fun k => rfl) (Ev.bind e (Ev.ifp (by rw [B_size]; omega) ?_))
  rw [argsT_cons]
  by_cases h8 : 8000 < (acc ++ 32 :: argT a c).length
  ·rw [if_neg (by rw [← List.append_assoc, List.length_append]; omega)]
   exact Ev.ifp (by rw [B_list]; exact h8) (Ev.now _)
  ·refine Ev.ifn (by rw [B_list]; exact h8) ?_
   simp only [B_list]
   have := lineL_ev a ha cs (acc ++ 32 :: argT a c) (fun d hd => hc d (List.mem_cons_of_mem _ hd)) (by omega)
   rw [List.append_assoc] at this
   exact this
def lineT (a : S31) (b : ByteArray × ByteArray) : List UInt8 := b.1.toList ++ argsT a b.2.toList
def lineR (a : S31) : ByteArray × Int :=
 match shell_command.f a.f0 with
 | some b => if b.1.toList = [] then (⟨#[]⟩, 1) else if wideB a b.2 = true then (⟨#[]⟩, 2) else if (lineT a b).length ≤ 8000 then (B (lineT a b), 0) else (⟨#[]⟩, 4)
 | none => (⟨#[]⟩, 1)
theorem cmd_range {i : Int} {b : ByteArray × ByteArray} (h : shell_command.f i = some b) (h0 : b.1.toList ≠ []) : 1 ≤ i ∧ i ≤ 25 := by
 rcases Int.lt_or_le i 1 with h1 | h1
 ·exfalso
  apply h0
  have : shell_command.f i = some (⟨#[]⟩, ⟨#[]⟩) := by
   unfold shell_command.f shell_device.f
   repeat rw [if_neg (by omega)]
   rfl
  rw [this] at h
  rw [← Option.some.inj h]
  exact B_list []
 rcases Int.lt_or_le 25 i with h2 | h2
 ·exfalso
  apply h0
  have : shell_command.f i = some (⟨#[]⟩, ⟨#[]⟩) := by
   unfold shell_command.f shell_device.f
   repeat rw [if_neg (by omega)]
   rfl
  rw [this] at h
  rw [← Option.some.inj h]
  exact B_list []
 exact ⟨h1, h2⟩
theorem line_ev (a : S31) (ha : Sz a) : Ev (fun k => lineF k a) (lineR a) := by
 obtain ⟨b, hb⟩ := cmd_tot a.f0
 have eq : ∀ k, lineF k a = (shell_command.f a.f0).bind fun b =>
  if b.1.toList = [] then some (⟨#[]⟩, 1)
  else if wideB a b.2 = true then some (⟨#[]⟩, 2)
  else if b.1.size ≤ 8000 ∧ b.2.size ≤ 8 then lineL k a b.2.toList b.1.toList else none := fun k => rfl
 have er : lineR a = if b.1.toList = [] then (⟨#[]⟩, 1) else if wideB a b.2 = true then (⟨#[]⟩, 2) else if (lineT a b).length ≤ 8000 then (B (lineT a b), 0) else (⟨#[]⟩, 4) := by
  unfold lineR
  rw [hb]
 rw [er]
 by_cases h0 : b.1.toList = []
 ·rw [if_pos h0]
  exact Ev.congr eq (Ev.cb hb (Ev.ifp h0 (Ev.now _)))
 rw [if_neg h0]
 by_cases hw : wideB a b.2 = true
 ·rw [if_pos hw]
  exact Ev.congr eq (Ev.cb hb (Ev.ifn h0 (Ev.ifp hw (Ev.now _))))
 rw [if_neg hw]
 obtain ⟨r1, r2⟩ := cmd_range hb h0
 obtain ⟨g1, g2, g3, g4, _⟩ := cmd_ok r1 r2 hb
 have hsm := (wide_iff a b.2).1 (by simpa using hw)
 exact Ev.congr eq (Ev.cb hb (Ev.ifn h0 (Ev.ifn hw (Ev.ifp ⟨by omega, by omega⟩ (lineL_ev a ha b.2.toList b.1.toList (fun c hc => ⟨g1 c hc, hsm c hc⟩) (by rw [size_list]; omega))))))
end Go.Proofs.YtenigkhfldafaaaDoor.A

/- Reading a script: what its steps are, whatever it says. -/
import Derived.Test.YtenigkhfldafaaaDoorR1
namespace Go.Proofs.YtenigkhfldafaaaDoor.A
open Go.RowKit Go.Proofs.YtenigkhfldafaaaDoorW.PrintWords
set_option maxRecDepth 100000
theorem bits_l (s : ByteArray) (hs : s.size ≤ 100000) : ∀ (d i : Nat) (acc : List Bool), i + d = s.size → acc.length ≤ i →
    ∃ (l : List Bool) (ok : Bool), Ev (fun k => shell_bits.l0 k acc (bytesOf s) (s.size : Int) (i : Int)) (l, ok) ∧ l.length ≤ s.size := by
  intro d
  induction d with
  | zero =>
    intro i acc hi ha
    exact ⟨acc, _, Ev.step (fun k => shell_bits.l0.eq_2 _ _ _ _ _) (Ev.ifn (by omega) (Ev.now _)), by omega⟩
  | succ d ih =>
    intro i acc hi ha
    have hl : (bytesOf s).length = s.size := bytesOf_length s
    have e1 := w1 (n := i) (by omega)
    by_cases h8 : rd (bytesOf s) (i : Int) = 48
    · obtain ⟨l, ok, e, h⟩ := ih (i + 1) (acc ++ [rd (bytesOf s) (i : Int) == 49]) (by omega) (by rw [List.length_append, List.length_singleton]; omega)
      exact ⟨l, ok, Ev.step (fun k => shell_bits.l0.eq_2 _ _ _ _ _) (Ev.ifp (by omega) (Ev.ifp (by omega) (Ev.ifp (by rw [hl]; omega) (Ev.ifp h8 (Ev.ifp (by omega) (by simp only [e1]; exact e)))))), h⟩
    by_cases h9 : rd (bytesOf s) (i : Int) = 49
    · obtain ⟨l, ok, e, h⟩ := ih (i + 1) (acc ++ [true]) (by omega) (by rw [List.length_append, List.length_singleton]; omega)
      exact ⟨l, ok, Ev.step (fun k => shell_bits.l0.eq_2 _ _ _ _ _) (Ev.ifp (by omega) (Ev.ifp (by omega) (Ev.ifp (by rw [hl]; omega) (Ev.ifn h8 (Ev.ifp h9 (Ev.ifp (by omega) (by simp only [e1]; exact e))))))), h⟩
    · exact ⟨[], false, Ev.step (fun k => shell_bits.l0.eq_2 _ _ _ _ _) (Ev.ifp (by omega) (Ev.ifp (by omega) (Ev.ifp (by rw [hl]; omega) (Ev.ifn h8 (Ev.ifn h9 (Ev.now _)))))), Nat.zero_le _⟩
theorem bits_tot (s : ByteArray) (hs : s.size ≤ 100000) : ∃ (l : List Bool) (ok : Bool), Ev (fun k => shell_bits.f k s) (l, ok) ∧ l.length ≤ s.size := by
  by_cases h : s.toList = ([45] : List UInt8)
  · exact ⟨[], true, Ev.ifp h (Ev.now _), Nat.zero_le _⟩
  · obtain ⟨l, ok, e, hl⟩ := bits_l s hs s.size 0 [] (by omega) (Nat.le_refl _)
    refine ⟨l, ok, Ev.ifn h (Ev.ifp (by omega) (Ev.cb rfl ?_)), hl⟩
    simp only [bytesOf_length]
    exact e
theorem some_ite {α : Type} {p : Prop} [Decidable p] {a : α} {o : Option α} (h : o.isSome = true) : (if p then some a else o).isSome = true := by
  split
  · rfl
  · exact h
theorem dev_tot (i : Int) : (shell_device.f i).isSome = true := by
  unfold shell_device.f
  repeat (refine some_ite ?_)
  rfl
theorem cmd_tot (i : Int) : ∃ b, shell_command.f i = some b := by
  obtain ⟨b, hb⟩ := Option.isSome_iff_exists.1 (dev_tot i)
  apply Option.isSome_iff_exists.1
  unfold shell_command.f
  rw [hb]
  repeat (refine some_ite ?_)
  rfl
def letters : List UInt8 := [112, 113, 116, 107, 102, 110, 109]
theorem cmd_all : ∀ n : Fin 25, (match shell_command.f ((n.val : Int) + 1) with | some b => b.2.toList.all (fun c => letters.contains c) && decide (b.2.toList.Nodup) && decide (b.2.size ≤ 3) && decide (b.1.size ≤ 20) && !(b.1.toList == []) | none => false) = true := by decide +kernel
theorem cmd_ok {i : Int} (h1 : 1 ≤ i) (h2 : i ≤ 25) {b : ByteArray × ByteArray} (h : shell_command.f i = some b) :
    (∀ c ∈ b.2.toList, c ∈ letters) ∧ b.2.toList.Nodup ∧ b.2.size ≤ 3 ∧ b.1.size ≤ 20 ∧ b.1.toList ≠ [] := by
  obtain ⟨n, hn⟩ : ∃ n : Nat, i = (n : Int) + 1 := ⟨(i - 1).toNat, by omega⟩
  have := cmd_all ⟨n, by omega⟩
  simp only [← hn, h, Bool.and_eq_true, List.all_eq_true, decide_eq_true_eq, List.contains_iff_mem, Bool.not_eq_true', beq_eq_false_iff_ne] at this
  exact ⟨this.1.1.1.1, this.1.1.1.2, this.1.1.2, this.1.2, this.2⟩
theorem formed_l (s : ByteArray) : ∀ (d i : Nat), i + d = 26 → 1 ≤ i →
    ∃ (kd : Int) (nd : ByteArray) (ok : Bool), Ev (fun k => shell_formed.l0 k s (i : Int)) (kd, nd, ok) ∧ (ok = true → 1 ≤ kd ∧ kd ≤ 25 ∧ ∃ nm, shell_command.f kd = some (nm, nd) ∧ nm.toList = s.toList) := by
  intro d
  induction d with
  | zero =>
    intro i hi h1
    exact ⟨0, _, false, Ev.step (fun k => shell_formed.l0.eq_2 _ _ _) (Ev.ifn (by omega) (Ev.now _)), fun h => nomatch h⟩
  | succ d ih =>
    intro i hi h1
    obtain ⟨⟨nm, nd⟩, hb⟩ := cmd_tot (i : Int)
    by_cases hn : nm.toList = s.toList
    · exact ⟨i, nd, true, Ev.step (fun k => shell_formed.l0.eq_2 _ _ _) (Ev.ifp (by omega) (Ev.cb hb (Ev.ifp hn (Ev.now _)))), fun _ => ⟨by omega, by omega, nm, hb, hn⟩⟩
    · obtain ⟨kd, nd', ok, e, h⟩ := ih (i + 1) (by omega) (by omega)
      exact ⟨kd, nd', ok, Ev.step (fun k => shell_formed.l0.eq_2 _ _ _) (Ev.ifp (by omega) (Ev.cb hb (Ev.ifn hn (by simp only [w1 (n := i) (by omega)]; exact e)))), h⟩
theorem formed_tot (s : ByteArray) : ∃ (kd : Int) (nd : ByteArray) (ok : Bool), Ev (fun k => shell_formed.f k s) (kd, nd, ok) ∧ (ok = true → 1 ≤ kd ∧ kd ≤ 25 ∧ ∃ nm, shell_command.f kd = some (nm, nd) ∧ nm.toList = s.toList) :=
  formed_l s 25 1 rfl (Nat.le_refl _)
inductive Fld where
  | s (b : ByteArray)
  | i (n : Int)
  | k (l : List Bool)
def fld (a : S31) (c : UInt8) : Fld := if c = 112 then .s a.f4 else if c = 113 then .s a.f5 else if c = 116 then .s a.f6 else if c = 107 then .k a.f7 else if c = 102 then .i a.f1 else if c = 110 then .i a.f2 else .i a.f3
def put (r a : S31) (c : UInt8) : S31 := if c = 112 then { a with f4 := r.f4 } else if c = 113 then { a with f5 := r.f5 } else if c = 116 then { a with f6 := r.f6 } else if c = 107 then { a with f7 := r.f7 } else if c = 102 then { a with f1 := r.f1 } else if c = 110 then { a with f2 := r.f2 } else { a with f3 := r.f3 }
def putL (r : S31) : List UInt8 → S31 → S31
  | [], a => a
  | c :: cs, a => putL r cs (put r a c)
theorem letters_cases {c : UInt8} (h : c ∈ letters) : c = 112 ∨ c = 113 ∨ c = 116 ∨ c = 107 ∨ c = 102 ∨ c = 110 ∨ c = 109 := by simpa [letters] using h
theorem put_congr {r b a : S31} {c : UInt8} (hc : c ∈ letters) (h : fld r c = fld b c) : put r a c = put b a c := by
  rcases letters_cases hc with rfl | rfl | rfl | rfl | rfl | rfl | rfl <;> · have h' := h; simp [fld] at h'; simp [put, h']
theorem put_self (a : S31) (c : UInt8) : put a a c = a := by
  unfold put
  repeat' split
  all_goals rfl
theorem put_fld {r a : S31} {c d : UInt8} (hc : c ∈ letters) (hd : d ∈ letters) (h : d ≠ c) : fld (put r a c) d = fld a d := by
  rcases letters_cases hc with rfl | rfl | rfl | rfl | rfl | rfl | rfl <;> rcases letters_cases hd with rfl | rfl | rfl | rfl | rfl | rfl | rfl <;> first | rfl | exact absurd rfl h
theorem put_kd (r a : S31) (c : UInt8) : (put r a c).f0 = a.f0 := by
  unfold put
  repeat' split
  all_goals rfl
structure Bd (M : Nat) (a : S31) : Prop where
  i1 : -1000000000000000000 < a.f1 ∧ a.f1 < 1000000000000000000
  i2 : -1000000000000000000 < a.f2 ∧ a.f2 < 1000000000000000000
  i3 : -1000000000000000000 < a.f3 ∧ a.f3 < 1000000000000000000
  s4 : a.f4.size ≤ M
  s5 : a.f5.size ≤ M
  s6 : a.f6.size ≤ M
  s7 : a.f7.length ≤ M
theorem bd_z (M : Nat) (kd : Int) : Bd M { z31 with f0 := kd } :=
  have h : -1000000000000000000 < (0 : Int) ∧ (0 : Int) < 1000000000000000000 := by decide
  ⟨h, h, h, Nat.zero_le _, Nat.zero_le _, Nat.zero_le _, Nat.zero_le _⟩
theorem setF_tot (a : S31) (c : UInt8) (x : S88) (hc : c ∈ letters) (ha : Bd 8000 a) (hx : GoodW 8000 x) :
    ∃ (b : S31) (ok : Bool), Ev (fun k => setF k a (c.toNat : Int) x) (b, ok) ∧ put b a c = b ∧ Bd 8000 b := by
  rcases letters_cases hc with rfl | rfl | rfl | rfl | rfl | rfl | rfl
  · by_cases h : x.f0 = 1
    · exact ⟨a, false, Ev.congr (fun k => show setF k a 112 x = some (a, false) by simp [setF, h]) (Ev.now _), put_self _ _, ha⟩
    · exact ⟨{ a with f4 := x.f1 }, true, Ev.congr (fun k => show setF k a 112 x = some ({ a with f4 := x.f1 }, true) by simp [setF, h]) (Ev.now _), rfl, { ha with s4 := hx.size }⟩
  · by_cases h : x.f0 = 1
    · exact ⟨a, false, Ev.congr (fun k => show setF k a 113 x = some (a, false) by simp [setF, h]) (Ev.now _), put_self _ _, ha⟩
    · exact ⟨{ a with f5 := x.f1 }, true, Ev.congr (fun k => show setF k a 113 x = some ({ a with f5 := x.f1 }, true) by simp [setF, h]) (Ev.now _), rfl, { ha with s5 := hx.size }⟩
  · by_cases h : x.f0 = 1 ∨ x.f0 = 0
    · exact ⟨a, false, Ev.congr (fun k => show setF k a 116 x = some (a, false) by simp [setF, h]) (Ev.now _), put_self _ _, ha⟩
    · exact ⟨{ a with f6 := x.f1 }, true, Ev.congr (fun k => show setF k a 116 x = some ({ a with f6 := x.f1 }, true) by simp [setF, h]) (Ev.now _), rfl, { ha with s6 := hx.size }⟩
  · obtain ⟨l, ok, e, hl⟩ := bits_tot x.f1 (Nat.le_trans hx.size (by decide))
    refine ⟨{ a with f7 := l }, ok && !(x.f0 == 2), ?_, rfl, { ha with s7 := Nat.le_trans hl hx.size }⟩
    exact Ev.congr (f := fun k => (shell_bits.f k x.f1).bind fun b => some ({ a with f7 := b.1 }, b.2 && !(x.f0 == 2))) (fun k => rfl) (Ev.bind e (Ev.now _))
  · by_cases h : x.f0 = 1
    · exact ⟨{ a with f1 := x.f2 }, true, Ev.congr (fun k => show setF k a 102 x = some ({ a with f1 := x.f2 }, true) by simp [setF, h]) (Ev.now _), rfl, { ha with i1 := hx.num h }⟩
    · exact ⟨a, false, Ev.congr (fun k => show setF k a 102 x = some (a, false) by simp [setF, h]) (Ev.now _), put_self _ _, ha⟩
  · by_cases h : x.f0 = 1
    · exact ⟨{ a with f2 := x.f2 }, true, Ev.congr (fun k => show setF k a 110 x = some ({ a with f2 := x.f2 }, true) by simp [setF, h]) (Ev.now _), rfl, { ha with i2 := hx.num h }⟩
    · exact ⟨a, false, Ev.congr (fun k => show setF k a 110 x = some (a, false) by simp [setF, h]) (Ev.now _), put_self _ _, ha⟩
  · by_cases h : x.f0 = 1
    · exact ⟨{ a with f3 := x.f2 }, true, Ev.congr (fun k => show setF k a 109 x = some ({ a with f3 := x.f2 }, true) by simp [setF, h]) (Ev.now _), rfl, { ha with i3 := hx.num h }⟩
    · exact ⟨a, false, Ev.congr (fun k => show setF k a 109 x = some (a, false) by simp [setF, h]) (Ev.now _), put_self _ _, ha⟩
theorem actL_tot : ∀ (cs : List UInt8) (xs : List S88) (a : S31), (∀ c ∈ cs, c ∈ letters) → cs.Nodup → cs.length = xs.length → (∀ x ∈ xs, GoodW 8000 x) → Bd 8000 a →
    ∃ (r : S31) (e : Int), Ev (fun k => actL k cs xs a) (actR r e) ∧ (e = 0 → putL r cs a = r ∧ Bd 8000 r ∧ r.f0 = a.f0 ∧ ∀ d ∈ letters, d ∉ cs → fld r d = fld a d)
  | [], [], a, _, _, _, _, ha => ⟨a, 0, Ev.now _, fun _ => ⟨rfl, ha, rfl, fun _ _ _ => rfl⟩⟩
  | [], _ :: _, _, _, _, h, _, _ => nomatch h
  | _ :: _, [], _, _, _, h, _, _ => nomatch h
  | c :: cs, x :: xs, a, hc, hn, hl, hx, ha => by
    obtain ⟨b, ok, e1, hb, hB⟩ := setF_tot a c x (hc c (List.mem_cons_self ..)) ha (hx x (List.mem_cons_self ..))
    by_cases hok : ok = true
    · have hcn := (List.nodup_cons.1 hn).1
      obtain ⟨r, e, e2, h⟩ := actL_tot cs xs b (fun d hd => hc d (List.mem_cons_of_mem _ hd)) (List.nodup_cons.1 hn).2 (by simpa using hl) (fun y hy => hx y (List.mem_cons_of_mem _ hy)) hB
      refine ⟨r, e, Ev.congr (f := fun k => (setF k a c.toNat x).bind fun b => if b.2 = true then actL k cs xs b.1 else some (actR z31 5)) (fun k => rfl) (Ev.bind e1 (Ev.ifp hok e2)), fun he => ?_⟩
      obtain ⟨h1, h2, h3, h4⟩ := h he
      have hcl := hc c (List.mem_cons_self ..)
      refine ⟨?_, h2, by rw [h3, ← hb, put_kd], fun d hd hdn => ?_⟩
      · show putL r cs (put r a c) = r
        rw [put_congr hcl (h4 c hcl hcn), hb]
        exact h1
      · simp only [List.mem_cons, not_or] at hdn
        rw [h4 d hd hdn.2, ← hb]
        exact put_fld hcl hd hdn.1
    · exact ⟨z31, 5, Ev.congr (f := fun k => (setF k a c.toNat x).bind fun b => if b.2 = true then actL k cs xs b.1 else some (actR z31 5)) (fun k => rfl) (Ev.bind e1 (Ev.ifn hok (Ev.now _))), fun he => by cases he⟩
structure GoodA (M : Nat) (a : S31) : Prop where
  lo : 1 ≤ a.f0
  hi : a.f0 ≤ 25
  clean : ∀ b, shell_command.f a.f0 = some b → putL a b.2.toList { z31 with f0 := a.f0 } = a
  bd : Bd M a
theorem act_tot (x : S88) (xs : List S88) (hx : ∀ w ∈ x :: xs, GoodW 8000 w) : ∃ (r : S31) (e : Int), Ev (fun k => shell_act.f k (x :: xs)) (actR r e) ∧ (e = 0 → GoodA 8000 r) := by
  obtain ⟨kd, nd, ok, e, h⟩ := formed_tot x.f1
  have eq : ∀ k, shell_act.f k (x :: xs) = (shell_formed.f k x.f1).bind fun b =>
    if b.2.2 = true ∧ x.f0 = 0 then
      if xs.length < b.2.1.size then some (actR z31 3)
      else if b.2.1.size < xs.length then some (actR z31 4)
      else if b.2.1.size ≤ 8 then actL k b.2.1.toList xs {z31 with f0 := b.1} else none
    else some (actR z31 1) := fun k => rfl
  by_cases hok : ok = true ∧ x.f0 = 0
  · obtain ⟨g1, g2, nm, hb, hnm⟩ := h hok.1
    obtain ⟨c1, c2, c3, _⟩ := cmd_ok g1 g2 hb
    by_cases h3 : xs.length < nd.size
    · exact ⟨z31, 3, Ev.congr eq (Ev.bind e (Ev.ifp hok (Ev.ifp h3 (Ev.now _)))), fun he => by cases he⟩
    by_cases h4 : nd.size < xs.length
    · exact ⟨z31, 4, Ev.congr eq (Ev.bind e (Ev.ifp hok (Ev.ifn h3 (Ev.ifp h4 (Ev.now _))))), fun he => by cases he⟩
    obtain ⟨r, er, e2, hr⟩ := actL_tot nd.toList xs { z31 with f0 := kd } c1 c2 (by rw [size_list]; omega) (fun w hw => hx w (List.mem_cons_of_mem _ hw)) (bd_z _ _)
    refine ⟨r, er, Ev.congr eq (Ev.bind e (Ev.ifp hok (Ev.ifn h3 (Ev.ifn h4 (Ev.ifp (by simp only at c3 ⊢; omega) e2))))), fun he => ?_⟩
    obtain ⟨q1, q2, q3, _⟩ := hr he
    have q3' : r.f0 = kd := q3
    refine ⟨by rw [q3']; exact g1, by rw [q3']; exact g2, fun b hb' => ?_, q2⟩
    rw [q3', hb] at hb'
    obtain rfl := Option.some.inj hb'
    rw [q3']
    exact q1
  · exact ⟨z31, 1, Ev.congr eq (Ev.bind e (Ev.ifn hok (Ev.now _))), fun he => by cases he⟩
theorem parse_l (L : List ByteArray) (hL : L.length ≤ 1000000) : ∀ (d i : Nat) (acc : List S31), i + d = L.length → acc.length ≤ i → i ≤ 1000 → (∀ a ∈ acc, GoodA 8000 a) →
    ∃ (l : List S31) (n e : Int), Ev (fun k => shell_Parse.l0 k acc L (L.length : Int) (i : Int)) (l, n, e) ∧ ∀ a ∈ l, GoodA 8000 a := by
  intro d
  induction d with
  | zero =>
    intro i acc hi ha _ hg
    exact ⟨acc, 0, 0, Ev.step (fun k => shell_Parse.l0.eq_2 _ _ _ _ _) (Ev.ifn (by omega) (Ev.now _)), hg⟩
  | succ d ih =>
    intro i acc hi ha h1 hg
    by_cases hm : (i : Int) = 1000
    · exact ⟨[], _, 6, Ev.step (fun k => shell_Parse.l0.eq_2 _ _ _ _ _) (Ev.ifp (by omega) (Ev.ifp (by omega) (Ev.ifp (by omega) (Ev.ifp hm (Ev.now _))))), fun a h => nomatch h⟩
    obtain ⟨ws, e, ew, hw⟩ := words_tot (rdOf ByteArray.empty L (i : Int))
    by_cases he : e = 0
    · have e1 := w1 (n := i) (by omega)
      cases ws with
      | nil =>
        obtain ⟨l, n, e', e2, h2⟩ := ih (i + 1) acc (by omega) (by omega) (by omega) hg
        exact ⟨l, n, e', Ev.step (fun k => shell_Parse.l0.eq_2 _ _ _ _ _) (Ev.ifp (by omega) (Ev.ifp (by omega) (Ev.ifp (by omega) (Ev.ifn hm (Ev.bind ew (Ev.ifp he (Ev.ifp rfl (by simp only [e1]; exact e2)))))))), h2⟩
      | cons x xs =>
        obtain ⟨r, er, ea, hr⟩ := act_tot x xs hw
        by_cases her : er = 0
        · obtain ⟨l, n, e', e2, h2⟩ := ih (i + 1) (acc ++ [r]) (by omega) (by rw [List.length_append, List.length_singleton]; omega) (by omega) (fun a h => by
            rcases List.mem_append.1 h with h | h
            · exact hg a h
            · rw [List.mem_singleton.1 h]; exact hr her)
          exact ⟨l, n, e', Ev.step (fun k => shell_Parse.l0.eq_2 _ _ _ _ _) (Ev.ifp (by omega) (Ev.ifp (by omega) (Ev.ifp (by omega) (Ev.ifn hm (Ev.bind ew (Ev.ifp he (Ev.ifn (by simp only [List.length_cons]; omega) (Ev.bind ea (Ev.ifp her (Ev.ifp (by omega) (by simp only [e1]; exact e2))))))))))), h2⟩
        · exact ⟨[], _, _, Ev.step (fun k => shell_Parse.l0.eq_2 _ _ _ _ _) (Ev.ifp (by omega) (Ev.ifp (by omega) (Ev.ifp (by omega) (Ev.ifn hm (Ev.bind ew (Ev.ifp he (Ev.ifn (by simp only [List.length_cons]; omega) (Ev.bind ea (Ev.ifn her (Ev.now _)))))))))), fun a h => nomatch h⟩
    · exact ⟨[], _, _, Ev.step (fun k => shell_Parse.l0.eq_2 _ _ _ _ _) (Ev.ifp (by omega) (Ev.ifp (by omega) (Ev.ifp (by omega) (Ev.ifn hm (Ev.bind ew (Ev.ifn he (Ev.now _))))))), fun a h => nomatch h⟩
theorem pf_length : ∀ (l cur : List UInt8), (pf cur l).length ≤ l.length + 1
  | [], _ => Nat.le_refl _
  | c :: r, cur => by
    have h1 := pf_length r []
    have h2 := pf_length r (cur ++ [c])
    unfold pf
    split <;> simp only [List.length_cons] <;> omega
theorem parse_tot (s : ByteArray) (hs : s.size ≤ 100000) : ∃ (l : List S31) (n e : Int), Ev (fun k => shell_Parse.f k s) (l, n, e) ∧ ∀ a ∈ l, GoodA 8000 a := by
  by_cases h0 : s.toList = ([] : List UInt8)
  · exact ⟨[], 0, 0, Ev.ifp h0 (Ev.now _), fun a h => nomatch h⟩
  generalize ht : (⟨(Lib.trimSuffix s.data.toList [10]).toArray⟩ : ByteArray) = t
  have e1 : strings_TrimSuffix.f s ⟨#[10]⟩ = some t := (if_pos (by omega)).trans (congrArg some ht)
  have hz : t.size ≤ s.size := by
    rw [← ht]
    show (Lib.trimSuffix s.data.toList [10]).length ≤ _
    rw [← ByteArray.toList_eq, ← size_list]
    unfold Lib.trimSuffix
    split
    · rw [List.length_take]; omega
    · exact Nat.le_refl _
  have hlen : ((pf [] t.toList).map B).length ≤ 1000000 := by
    have := pf_length t.toList []
    rw [size_list] at this
    rw [List.length_map]
    omega
  obtain ⟨l, n, e, e2, h⟩ := parse_l ((pf [] t.toList).map B) hlen _ 0 [] (Nat.zero_add _) (Nat.zero_le _) (by omega) (fun a h => nomatch h)
  exact ⟨l, n, e, Ev.ifn h0 (Ev.cb e1 (Ev.cb (split_eq t (by omega)) e2)), h⟩
end Go.Proofs.YtenigkhfldafaaaDoor.A

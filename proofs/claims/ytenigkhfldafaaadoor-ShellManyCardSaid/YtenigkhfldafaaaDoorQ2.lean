/- The plain law of many lines. -/
import Derived.Test.YtenigkhfldafaaaDoorA12
import Derived.Test.YtenigkhfldafaaaDoorQA
import Derived.Test.YtenigkhfldafaaaDoorQ1
namespace Go.Proofs.YtenigkhfldafaaaDoor.A
open Go.RowKit Go.Proofs.YtenigkhfldafaaaDoorW.PrintWords
set_option maxRecDepth 100000
def syncA : S31 := ⟨13, 0, 0, 0, (⟨#[]⟩ : ByteArray), (⟨#[]⟩ : ByteArray), (⟨#[]⟩ : ByteArray), ([] : List Bool)⟩
def syncW : S88 := ⟨0, B [115, 121, 110, 99], 0⟩
theorem words_sync : Ev (fun k => shell_words.f k (B [115, 121, 110, 99])) ([syncW], 0) := Ev.of (fun k => shell_words.mono _ k) (k := 20) (by kernel_rfl)
theorem act_sync : Ev (fun k => shell_act.f k [syncW]) (actR syncA 0) := Ev.of (fun k => shell_act.mono k _) (k := 40) (by kernel_rfl)
theorem line_sync : Ev (fun k => lineF k syncA) (B [115, 121, 110, 99], 0) := Ev.of (fun k => lineF.mono k _) (k := 20) (by kernel_rfl)
theorem rd_sync (L n : Nat) (h : n < L) : rdOf ByteArray.empty (List.replicate L (B [115, 121, 110, 99])) (n : Int) = B [115, 121, 110, 99] := by
  unfold rdOf
  simp [List.getD_eq_getElem?_getD, h]
theorem parse_sync (L : Nat) (hL : L ≤ 1000) (d : Nat) : ∀ (n : Nat) (out : List S31), n + d = L → out.length = n →
    Ev (fun k => shell_Parse.l0 k out (List.replicate L (B [115, 121, 110, 99])) (L : Int) n) (out ++ List.replicate d syncA, 0, 0) := by
  induction d with
  | zero =>
    intro n out hn _
    refine Ev.step (f := fun _ => some (out, 0, 0)) (fun k => ?_) ?_
    · simp only [shell_Parse.l0]
      rw [if_neg (by omega)]
    · rw [List.replicate_zero, List.append_nil]; exact Ev.now _
  | succ d ih =>
    intro n out hn ho
    refine Ev.step (f := fun k => (shell_words.f k (B [115, 121, 110, 99])).bind fun b => if b.2 = 0 then (if (b.1.length : Int) = 0 then shell_Parse.l0 k out (List.replicate L (B [115, 121, 110, 99])) (L : Int) (n + 1 : Nat) else (shell_act.f k b.1).bind fun c => if c.2.2.2.2.2.2.2.2 = 0 then shell_Parse.l0 k (out ++ [(⟨c.1, c.2.1, c.2.2.1, c.2.2.2.1, c.2.2.2.2.1, c.2.2.2.2.2.1, c.2.2.2.2.2.2.1, c.2.2.2.2.2.2.2.1⟩ : S31)]) (List.replicate L (B [115, 121, 110, 99])) (L : Int) (n + 1 : Nat) else some ([], wrap64 ((n : Int) + 1), c.2.2.2.2.2.2.2.2)) else some ([], wrap64 ((n : Int) + 1), b.2)) (fun k => ?_) ?_
    · simp only [shell_Parse.l0]
      have hw : wrap64 ((n : Int) + 1) = ((n + 1 : Nat) : Int) := by rw [wrap_small (by omega) (by omega)]; rfl
      rw [if_pos (by omega), if_pos (by omega), if_pos (by rw [List.length_replicate]; omega), if_neg (by omega), rd_sync L n (by omega), hw]
      simp only [if_pos (show out.length < 1353245080339 by omega)]
    · refine Ev.bind words_sync ?_
      refine Ev.congr (f := fun k => (shell_act.f k [syncW]).bind fun c => if c.2.2.2.2.2.2.2.2 = 0 then shell_Parse.l0 k (out ++ [(⟨c.1, c.2.1, c.2.2.1, c.2.2.2.1, c.2.2.2.2.1, c.2.2.2.2.2.1, c.2.2.2.2.2.2.1, c.2.2.2.2.2.2.2.1⟩ : S31)]) (List.replicate L (B [115, 121, 110, 99])) (L : Int) (n + 1 : Nat) else some ([], wrap64 ((n : Int) + 1), c.2.2.2.2.2.2.2.2)) (fun k => by rw [if_pos rfl, if_neg (by decide)]) ?_
      refine Ev.bind act_sync ?_
      refine Ev.congr (f := fun k => shell_Parse.l0 k (out ++ [syncA]) (List.replicate L (B [115, 121, 110, 99])) (L : Int) (n + 1 : Nat)) (fun k => if_pos (show (actR syncA 0).2.2.2.2.2.2.2.2 = 0 from rfl)) ?_
      have := ih (n + 1) (out ++ [syncA]) (by omega) (by simp [ho])
      rw [List.append_assoc] at this
      exact this
theorem parse_over (L : Nat) (hL : 1000 < L) (hL2 : L ≤ 2000) (d : Nat) : ∀ (n : Nat) (out : List S31), n + d = 1000 → out.length = n →
    Ev (fun k => shell_Parse.l0 k out (List.replicate L (B [115, 121, 110, 99])) (L : Int) n) ([], 1001, 6) := by
  induction d with
  | zero =>
    intro n out hn _
    obtain rfl : n = 1000 := by omega
    refine Ev.step (f := fun _ => some ([], 1001, 6)) (fun k => ?_) (Ev.now _)
    simp only [shell_Parse.l0]
    rw [if_pos (by omega), if_pos (by omega), if_pos (by rw [List.length_replicate]; omega), if_pos (by rfl), show wrap64 (((1000 : Nat) : Int) + 1) = 1001 by rw [wrap_small (by omega) (by omega)]; rfl]
  | succ d ih =>
    intro n out hn ho
    refine Ev.step (f := fun k => (shell_words.f k (B [115, 121, 110, 99])).bind fun b => if b.2 = 0 then (if (b.1.length : Int) = 0 then shell_Parse.l0 k out (List.replicate L (B [115, 121, 110, 99])) (L : Int) (n + 1 : Nat) else (shell_act.f k b.1).bind fun c => if c.2.2.2.2.2.2.2.2 = 0 then shell_Parse.l0 k (out ++ [(⟨c.1, c.2.1, c.2.2.1, c.2.2.2.1, c.2.2.2.2.1, c.2.2.2.2.2.1, c.2.2.2.2.2.2.1, c.2.2.2.2.2.2.2.1⟩ : S31)]) (List.replicate L (B [115, 121, 110, 99])) (L : Int) (n + 1 : Nat) else some ([], wrap64 ((n : Int) + 1), c.2.2.2.2.2.2.2.2)) else some ([], wrap64 ((n : Int) + 1), b.2)) (fun k => ?_) ?_
    · simp only [shell_Parse.l0]
      have hw : wrap64 ((n : Int) + 1) = ((n + 1 : Nat) : Int) := by rw [wrap_small (by omega) (by omega)]; rfl
      rw [if_pos (by omega), if_pos (by omega), if_pos (by rw [List.length_replicate]; omega), if_neg (by omega), rd_sync L n (by omega), hw]
      simp only [if_pos (show out.length < 1353245080339 by omega)]
    · refine Ev.bind words_sync ?_
      refine Ev.congr (f := fun k => (shell_act.f k [syncW]).bind fun c => if c.2.2.2.2.2.2.2.2 = 0 then shell_Parse.l0 k (out ++ [(⟨c.1, c.2.1, c.2.2.1, c.2.2.2.1, c.2.2.2.2.1, c.2.2.2.2.2.1, c.2.2.2.2.2.2.1, c.2.2.2.2.2.2.2.1⟩ : S31)]) (List.replicate L (B [115, 121, 110, 99])) (L : Int) (n + 1 : Nat) else some ([], wrap64 ((n : Int) + 1), c.2.2.2.2.2.2.2.2)) (fun k => by rw [if_pos rfl, if_neg (by decide)]) ?_
      refine Ev.bind act_sync ?_
      refine Ev.congr (f := fun k => shell_Parse.l0 k (out ++ [syncA]) (List.replicate L (B [115, 121, 110, 99])) (L : Int) (n + 1 : Nat)) (fun k => if_pos (show (actR syncA 0).2.2.2.2.2.2.2.2 = 0 from rfl)) ?_
      exact ih (n + 1) (out ++ [syncA]) (by omega) (by simp [ho])
def script : Nat → List UInt8
  | 0 => []
  | n + 1 => [115, 121, 110, 99, 10] ++ script n
def trimmed : Nat → List UInt8
  | 0 => [115, 121, 110, 99]
  | n + 1 => [115, 121, 110, 99] ++ 10 :: trimmed n
theorem script_trimmed : ∀ n, script (n + 1) = trimmed n ++ [10]
  | 0 => rfl
  | n + 1 => by rw [script, script_trimmed n]; simp [trimmed]
theorem trim_end (l : List UInt8) : Lib.trimSuffix (l ++ [10]) [10] = l := by
  unfold Lib.trimSuffix Lib.hasSuffix
  rw [if_pos (by rw [List.isSuffixOf_iff_suffix]; exact List.suffix_append _ _)]
  simp
theorem pf_trimmed : ∀ n, pf [] (trimmed n) = List.replicate (n + 1) [115, 121, 110, 99]
  | 0 => by decide
  | n + 1 => by
    rw [trimmed, pf_hit _ _ _ (by decide), pf_trimmed n]
    rfl
theorem script_length : ∀ n, (script n).length = 5 * n
  | 0 => rfl
  | n + 1 => by rw [script, List.length_append, script_length n]; show 5 + 5 * n = _; omega
theorem script_snoc : ∀ n, script n ++ [115, 121, 110, 99, 10] = script (n + 1)
  | 0 => rfl
  | n + 1 => by rw [script, List.append_assoc, script_snoc n]; rfl
theorem parse_script (n : Nat) (hn : n + 1 ≤ 2000) : Ev (fun k => shell_Parse.f k (B (script (n + 1)))) (if n + 1 ≤ 1000 then (List.replicate (n + 1) syncA, 0, 0) else ([], 1001, 6)) := by
  have hl := script_length (n + 1)
  refine Ev.congr (f := fun k => shell_Parse.l0 k [] (List.replicate (n + 1) (B [115, 121, 110, 99])) ((n + 1 : Nat) : Int) (0 : Nat)) (fun k => ?_) ?_
  · unfold shell_Parse.f
    have h1 : ¬ (B (script (n + 1))).toList = [] := by rw [B_list]; intro e; rw [e] at hl; simp at hl
    have h2 : strings_TrimSuffix.f (B (script (n + 1))) (⟨#[10]⟩ : ByteArray) = some (B (trimmed n)) := by
      unfold strings_TrimSuffix.f
      rw [if_pos (by rw [B_size]; omega)]
      show some (⟨(Lib.trimSuffix (script (n + 1)) [10]).toArray⟩ : ByteArray) = _
      rw [script_trimmed, trim_end]
      rfl
    have h3 : (trimmed n).length ≤ 5 * (n + 1) := by
      have := congrArg List.length (script_trimmed n)
      rw [List.length_append] at this
      simp at this
      omega
    rw [if_neg h1, h2]
    simp only [Option.bind_some]
    rw [split_eq _ (by rw [B_size]; omega), B_list, pf_trimmed, List.map_replicate]
    simp only [Option.bind_some, List.length_replicate]
    rfl
  · split
    case isTrue h => exact parse_sync (n + 1) h (n + 1) 0 [] (by omega) rfl
    case isFalse h => exact parse_over (n + 1) (by omega) hn 1000 0 [] rfl rfl
theorem print_sync (d : Nat) : ∀ n : Nat, n + d ≤ 2000 → Ev (fun k => printL k (List.replicate d syncA) (script n)) (B (script (n + d)), 0) := by
  induction d with
  | zero => intro n _; exact Ev.now _
  | succ d ih =>
    intro n hn
    refine Ev.congr (f := fun k => (lineF k syncA).bind fun b => if b.2 = 0 then if (script n).length + (b.1.size + 1) ≤ 100000000000000 then printL k (List.replicate d syncA) (script n ++ (b.1 ++ (⟨#[10]⟩ : ByteArray)).toList) else none else some (⟨#[]⟩, b.2)) (fun k => rfl) ?_
    refine Ev.bind line_sync ?_
    have hl := script_length n
    have h5 : (B [115, 121, 110, 99]).size = 4 := by rw [B_size]; rfl
    have e : script n ++ (B [115, 121, 110, 99] ++ (⟨#[10]⟩ : ByteArray)).toList = script (n + 1) := by
      rw [← script_snoc n]
      congr 1
      rw [ByteArray.toList_eq]
      simp [ByteArray.data_append, B]
    refine Ev.congr (f := fun k => printL k (List.replicate d syncA) (script (n + 1))) (fun k => ?_) ?_
    · rw [if_pos rfl, if_pos (by show (script n).length + ((B [115, 121, 110, 99]).size + 1) ≤ _; omega), e]
    · have := ih (n + 1) (by omega)
      rw [show n + (d + 1) = n + 1 + d by omega]
      exact this
theorem print_ev (n : Nat) (hn : n ≤ 2000) : Ev (fun k => shell_Print.f k (List.replicate n syncA)) (if n ≤ 1000 then (B (script n), 0) else (⟨#[]⟩, 6)) := by
  unfold shell_Print.f
  rw [List.length_replicate]
  by_cases h : n ≤ 1000
  · rw [if_pos h]
    refine Ev.congr (f := fun k => printL k (List.replicate n syncA) []) (fun k => if_neg (by omega)) ?_
    have := print_sync n 0 (by omega)
    rw [Nat.zero_add] at this
    exact this
  · rw [if_neg h]
    exact Ev.congr (f := fun _ => some (⟨#[]⟩, 6)) (fun k => if_pos (by omega)) (Ev.now _)
theorem some_awake : Ev (fun k => (grapnellaw21_awake.f k).bind fun t => some t) true := Ev.bind awake_ev (Ev.now _)
theorem many_end (n : Nat) (h0 : 990 ≤ n) (h1 : n ≤ 1010) : Ev (fun k => grapnellaw21_ShellMany.l0 k (n : Int) (B (script n)) (List.replicate n syncA) (n : Int)) true := by
  obtain ⟨m, rfl⟩ : ∃ m, n = m + 1 := ⟨n - 1, by omega⟩
  have hp := parse_script m (by omega)
  have hq := print_ev (m + 1) (by omega)
  refine Ev.step (f := fun k => (shell_Parse.f k (B (script (m + 1)))).bind fun p => (shell_Print.f k (List.replicate (m + 1) syncA)).bind fun q => (if ((m + 1 : Nat) : Int) > 1000 then (if (p.1.length : Int) = 0 then (if p.2.1 = 1001 then (if p.2.2 = 6 then (if q.1.toList = ([] : List UInt8) then (if q.2 = 6 then ((grapnellaw21_awake.f k).bind fun t => some t) else some false) else some false) else some false) else some false) else some false) else (if (p.1.length : Int) = ((m + 1 : Nat) : Int) then (if p.2.1 = 0 then (if p.2.2 = 0 then (if q.1.toList = (B (script (m + 1))).toList then (if q.2 = 0 then ((grapnellaw21_awake.f k).bind fun t => some t) else some false) else some false) else some false) else some false) else some false))) (fun k => ?_) ?_
  · simp only [grapnellaw21_ShellMany.l0]
    rw [if_neg (by omega)]
  · by_cases h : m + 1 ≤ 1000
    · rw [if_pos h] at hp hq
      refine Ev.bind hp ?_
      refine Ev.bind hq ?_
      refine Ev.congr (fun k => ?_) some_awake
      rw [if_neg (by omega), if_pos (by rw [List.length_replicate]), if_pos rfl, if_pos rfl, if_pos rfl, if_pos rfl]
    · rw [if_neg h] at hp hq
      refine Ev.bind hp ?_
      refine Ev.bind hq ?_
      refine Ev.congr (fun k => ?_) some_awake
      have e : (⟨#[]⟩ : ByteArray).toList = [] := by rw [ByteArray.toList_eq]
      rw [if_pos (by omega)]
      exact (if_pos rfl).trans ((if_pos rfl).trans ((if_pos rfl).trans ((if_pos e).trans (if_pos rfl))))
theorem many_l0 (n : Nat) (h0 : 990 ≤ n) (h1 : n ≤ 1010) (d : Nat) : ∀ i : Nat, i + d = n → Ev (fun k => grapnellaw21_ShellMany.l0 k (n : Int) (B (script i)) (List.replicate i syncA) (i : Int)) true := by
  induction d with
  | zero =>
    intro i hi
    obtain rfl : i = n := by omega
    exact many_end i h0 h1
  | succ d ih =>
    intro i hi
    have hl := script_length i
    refine Ev.step (f := fun k => grapnellaw21_ShellMany.l0 k (n : Int) (B (script (i + 1))) (List.replicate (i + 1) syncA) ((i + 1 : Nat) : Int)) (fun k => ?_) (ih (i + 1) (by omega))
    simp only [grapnellaw21_ShellMany.l0]
    have e : B (script i) ++ (⟨#[115, 121, 110, 99, 10]⟩ : ByteArray) = B (script (i + 1)) := by
      apply list_inj
      rw [B_list, ← script_snoc i, ByteArray.toList_eq]
      simp [ByteArray.data_append, B]
    rw [if_pos (by omega), if_pos (by rw [B_size]; omega), if_pos (by rw [List.length_replicate]; omega), e, wrap_small (by omega) (by omega), List.replicate_succ']
    rfl
theorem many_law (a0 : Int) (_w0 : (Lit.int .i64 a0).wf = true) : ∃ k, grapnellaw21_ShellMany.f k a0 = some true := by
  have hj : Ev (fun k => grapnellaw21_ShellMany.j0 k a0 true) true := Ev.step (fun k => by simp only [grapnellaw21_ShellMany.j0, if_true]) some_awake
  refine Ev.rounds ?_
  unfold grapnellaw21_ShellMany.f
  by_cases h1 : a0 < 990
  · simp only [if_pos h1]; exact hj
  · simp only [if_neg h1]
    by_cases h2 : a0 > 1010
    · rw [decide_eq_true h2]; exact hj
    · rw [decide_eq_false h2]
      obtain ⟨n, rfl⟩ : ∃ n : Nat, a0 = n := ⟨a0.toNat, by omega⟩
      refine Ev.step (fun k => ?_) (many_l0 n (by omega) (by omega) n 0 (by omega))
      simp only [grapnellaw21_ShellMany.j0, Bool.false_eq_true, if_false]
      rfl
end Go.Proofs.YtenigkhfldafaaaDoor.A

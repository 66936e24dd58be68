/- The law of printed steps. -/
import Derived.Test.YtenigkhfldafaaaDoorR7
import Derived.Test.YtenigkhfldafaaaDoorR9
import Derived.Test.YtenigkhfldafaaaDoorA25
namespace Go.Proofs.YtenigkhfldafaaaDoor.A
open Go.RowKit Go.Proofs.YtenigkhfldafaaaDoorW.PrintWords
set_option maxRecDepth 100000
theorem app_line (acc : List UInt8) (x : ByteArray) : (B acc ++ x) ++ (⟨#[10]⟩ : ByteArray) = B (acc ++ (x.toList ++ [10])) := by
 conv => lhs; rw [← list_B x]
 rw [B_app, show (⟨#[10]⟩ : ByteArray) = B [10] from rfl, B_app, List.append_assoc]
theorem prints_l (x0 : List S31) (hs : ∀ a ∈ x0, Sz a) (hl : x0.length ≤ 60) (s : ByteArray) (e : Int) : ∀ (rest : List S31) (i : Nat) (acc : List UInt8), x0.drop i = rest → acc.length ≤ 8001 * i → i ≤ x0.length → printR rest acc = (s, e) →
  Ev (fun k => grapnellaw21_ShellPrints.l0 k x0 s e (B acc) 0 (i : Int)) true
 | [], i, acc, hd, ha, hi, hp => by
  have hn : x0.length ≤ i := by
   have := congrArg List.length hd
   rw [List.length_drop, List.length_nil] at this
   omega
  obtain ⟨h1, h2⟩ := Prod.mk.inj hp
  subst h1 h2
  exact Ev.step (fun k => grapnellaw21_ShellPrints.l0.eq_2 ..) (Ev.ifn (by omega) (Ev.ifp rfl (Ev.ifp rfl (Ev.ifp rfl (Ev.bind awake_ev (Ev.now _))))))
 | a :: rest, i, acc, hd, ha, hi, hp => by
  have hn : i < x0.length := by
   have := congrArg List.length hd
   rw [List.length_drop, List.length_cons] at this
   omega
  have ee := List.drop_eq_getElem_cons hn
  rw [hd] at ee
  obtain ⟨eb, er⟩ := List.cons.inj ee
  have hra := rd31 x0 i hn
  rw [← eb] at hra
  have hsa : Sz a := hs a (by rw [eb]; exact List.getElem_mem _)
  have e1 := w1 (n := i) (by omega)
  have hlen := lineR_len a
  have head : ∀ R, Ev (fun k => grapnellaw21_ShellPrints.l0 k x0 s e (B (acc ++ ((lineR a).1.toList ++ [10]))) (lineR a).2 ((i + 1 : Nat) : Int)) R → Ev (fun k => grapnellaw21_ShellPrints.l0 k x0 s e (B acc) 0 (i : Int)) R := by
   intro R h
   refine Ev.step (fun k => grapnellaw21_ShellPrints.l0.eq_2 ..) (Ev.ifp (by omega) (Ev.ifp rfl (Ev.ifp (by omega) (Ev.bind (by rw [hra]; exact refline_ev a hsa) (Ev.ifp (by rw [B_size]; omega) (Ev.ifp (by rw [app_size, B_size]; omega) ?_))))))
   rw [app_line, e1]
   exact h
  apply head
  by_cases h0 : (lineR a).2 = 0
  ·rw [printR, if_pos h0] at hp
   rw [h0]
   exact prints_l x0 hs hl s e rest (i + 1) _ er.symm (by rw [List.length_append, List.length_append, List.length_singleton, size_list]; omega) (by omega) hp
  ·rw [printR, if_neg h0] at hp
   obtain ⟨h1, h2⟩ := Prod.mk.inj hp
   subst h1 h2
   by_cases hlt : ((i + 1 : Nat) : Int) < (x0.length : Int)
   ·exact Ev.step (fun k => grapnellaw21_ShellPrints.l0.eq_2 ..) (Ev.ifp hlt (Ev.ifn h0 (Ev.ifp (B_list []) (Ev.ifp rfl (Ev.bind awake_ev (Ev.now _))))))
   ·exact Ev.step (fun k => grapnellaw21_ShellPrints.l0.eq_2 ..) (Ev.ifn hlt (Ev.ifn h0 (Ev.ifp (B_list []) (Ev.ifp rfl (Ev.bind awake_ev (Ev.now _))))))
theorem prints_law (l : List S31) : ∃ k, grapnellaw21_ShellPrints.f k l = some true := by
 apply Ev.rounds
 have hl := few_len l
 have hs := few_sz l
 exact Ev.bind (few_ev l) (Ev.bind (print_ev (fewL l) (by omega) hs) (prints_l (fewL l) hs hl _ _ (fewL l) 0 [] rfl (Nat.zero_le _) (Nat.zero_le _) rfl))
end Go.Proofs.YtenigkhfldafaaaDoor.A

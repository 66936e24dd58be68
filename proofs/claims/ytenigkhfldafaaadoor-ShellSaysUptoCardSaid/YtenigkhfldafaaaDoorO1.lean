/- What is told, laid open; its bulk. -/
import Derived.Test.YtenigkhfldafaaaDoorO0
import Derived.Test.YtenigkhfldafaaaDoorRows
import Derived.Test.YtenigkhfldafaaaDoorRV
namespace Go.Proofs.YtenigkhfldafaaaDoor.A
open Go.RowKit Go.Proofs.YtenigkhfldafaaaDoorW.PrintWords
set_option maxRecDepth 100000
open Go.Proofs.YtenigkhfldafaaaDoor.Rows (uptoBulk uptoBulkAll)
theorem bulk_mem {H : Type} {d : DataW H} : ∀ {l : List (DataW H)}, d ∈ l → uptoBulk d ≤ uptoBulkAll l
 | [], h => nomatch h
 | e :: l, h => by
  rw [Rows.uptoBulkAll.eq_2]
  rcases List.mem_cons.1 h with rfl | h
  ·omega
  ·have := bulk_mem h
   omega
theorem opens_rowB {α H : Type} {enc : TypeId × Value → H} {P : Program} {w : World} {base : Nat} {sp : Nat → Bool} {held : Bool} {fuel : Nat} {cs : List Value} {x : DataW H × List MemPlace} {t e : TypeId} (k : Kd α) (G : Nat → α → Prop) (hG : ∀ m n p, m ≤ n → G m p → G n p) (ht : P.underlying t = some (.slice e)) (hz : P.cellsOf e = k.sz)
  (hk : ∀ n c y, DataW.trod enc P w base sp held n e c = some y → ∃ p, k.K w p c ∧ G (uptoBulk y.1) p) (h : DataW.trod enc P w base sp held fuel t cs = some x) :
  ∃ A xs c, cs = [.slice A xs.length c] ∧ xs.length ≤ c ∧ k.C w A xs.length xs ∧ ∀ p ∈ xs, G (uptoBulk x.1) p := by
 rcases DataW.trod_slice ht h with ⟨rfl, _⟩ | ⟨a, len, cap, elems, rest, n, _, rfl, rfl, hb, hl, hm, hlen, hel, _⟩
 ·exact ⟨none, [], 0, rfl, Nat.le_refl _, ⟨rfl, Nat.zero_le _, fun h => absurd h (by simp)⟩, fun p h => nomatch h⟩
 ·have each : ∀ i, i < len → ∃ p c, (c.length = k.sz ∧ k.K w p c ∧ ∀ (q : Nat) u, c[q]? = some u → w.cell? (a.add (i * k.sz + q)) = some u) ∧ G (uptoBulkAll (elems.map (·.1))) p := by
   intro i hi
   have h1 := hel i hi
   rw [List.getElem?_eq_getElem (by omega), Option.bind_eq_some_iff] at h1
   obtain ⟨c, hc, hy⟩ := h1
   obtain ⟨p, hp, hg⟩ := hk n c _ hy
   obtain ⟨_, hcl, hcell⟩ := World.cells?_some hc
   refine ⟨p, c, ⟨by rw [hcl, hz], hp, fun q u hq => ?_⟩, hG _ _ _ (bulk_mem (List.mem_map_of_mem (List.getElem_mem _))) hg⟩
   have hq' : q < c.length := (List.getElem?_eq_some_iff.1 hq).1
   have := hcell q (by omega)
   rw [Addr.add_add, hz] at this
   rw [this, hq]
  have all : ∀ m, m ≤ len → ∃ xs : List α, xs.length = m ∧ (∀ (j : Nat) p, xs[j]? = some p → ∃ c, c.length = k.sz ∧ k.K w p c ∧ ∀ (q : Nat) u, c[q]? = some u → w.cell? (a.add (j * k.sz + q)) = some u) ∧ ∀ p ∈ xs, G (uptoBulkAll (elems.map (·.1))) p := by
   intro m
   induction m with
   | zero => exact fun _ => ⟨[], rfl, fun j p hj => by simp at hj, fun p h => nomatch h⟩
   | succ m ih =>
    intro hm2
    obtain ⟨xs, hx, hc, hgs⟩ := ih (by omega)
    obtain ⟨p, c, h1, h2⟩ := each m (by omega)
    refine ⟨xs ++ [p], by rw [List.length_append, hx]; rfl, fun j p' hj => ?_, fun q hq => ?_⟩
    ·rcases Nat.lt_or_ge j xs.length with hlt | hge
     ·rw [List.getElem?_append_left hlt] at hj
      exact hc j p' hj
     ·rw [List.getElem?_append_right hge] at hj
      have hj0 : j - xs.length = 0 := by
       have := (List.getElem?_eq_some_iff.1 hj).1
       simp at this
       omega
      rw [hj0] at hj
      simp only [List.getElem?_cons_zero, Option.some.injEq] at hj
      subst hj
      rw [show j = m by omega]
      exact ⟨c, h1⟩
    ·rcases List.mem_append.1 hq with hq | hq
     ·exact hgs q hq
     ·rw [List.mem_singleton.1 hq]; exact h2
  obtain ⟨xs, hx, hc, hgs⟩ := all len (Nat.le_refl _)
  refine ⟨some a, xs, cap, by rw [hx], by omega, ⟨rfl, ?_, fun _ => ⟨a, rfl, hc⟩⟩, fun p hp => hG _ _ _ ?_ (hgs p hp)⟩
  ·unfold maxLen at hm
   omega
  ·show _ ≤ uptoBulkAll (elems.map (·.1)) + _ + 1
   omega
theorem opens_fieldB {H : Type} {enc : TypeId × Value → H} {P : Program} {w : World} {base : Nat} {sp : Nat → Bool} {held : Bool} {fuel : Nat} {cs : List Value} {x : DataW H × List MemPlace} {t : TypeId} {fs : Array Field} (ht : P.underlying t = some (.struct fs))
  (h : DataW.trod enc P w base sp held fuel t cs = some x) (i : Nat) {f : Field} (hf : fs[i]? = some f) : ∃ n y, DataW.trod enc P w base sp held n f.type ((cs.drop f.offset).take (P.cellsOf f.type)) = some y ∧ uptoBulk y.1 ≤ uptoBulk x.1 := by
 obtain ⟨xs, n, _, hx, _, hxl, hall⟩ := DataW.trod_struct ht h
 have h1 := hall i f hf
 have hi : i < xs.length := by
  rw [hxl]
  exact (Array.getElem?_eq_some_iff.1 hf).1
 rw [List.getElem?_eq_getElem hi] at h1
 refine ⟨n, _, h1, ?_⟩
 rw [hx]
 show _ ≤ uptoBulkAll (xs.map (·.1)) + 1
 have := bulk_mem (List.mem_map_of_mem (f := (·.1)) (List.getElem_mem hi))
 omega
theorem wf64 {n : Int} (h : (Lit.int .i64 n).wf = true) : i64P n := by
 simp only [Lit.wf, Bool.and_eq_true, decide_eq_true_eq] at h
 exact h
theorem fcell {cs : List Value} {o m : Nat} {v c : Value} (h : (cs.drop o).take m = [v]) (hm : m = 1) (hc : cs[o]? = some c) : c = v := by
 subst hm
 obtain ⟨hlt, hce⟩ := List.getElem?_eq_some_iff.1 hc
 rw [List.drop_eq_getElem_cons hlt, hce] at h
 exact (List.cons.inj h).1
theorem opens_65 {H : Type} {enc : TypeId × Value → H} {w : World} {base : Nat} {sp : Nat → Bool} {held : Bool} {fuel : Nat} {cs : List Value} {x : DataW H × List MemPlace}
  (h : DataW.trod enc Tryd.prog w base sp held fuel 65 cs = some x) : ∃ p, k65.K w p cs ∧ (uptoBulk x.1 ≤ 1048576 → EntP p) := by
 obtain ⟨_, _, _, _, hl, _, _⟩ := DataW.trod_struct Tryd.underlying65 h
 have hl3 : cs.length = 3 := hl.trans (by kernel_rfl)
 obtain ⟨c0, c1, c2, rfl⟩ : ∃ c0 c1 c2, cs = [c0, c1, c2] := by
  match cs, hl3 with
  | [a, b, c], _ => exact ⟨a, b, c, rfl⟩
 obtain ⟨_, y0, e0, b0⟩ := opens_fieldB Tryd.underlying65 h 0 rfl
 obtain ⟨_, _, e1, _⟩ := opens_fieldB Tryd.underlying65 h 1 rfl
 obtain ⟨_, _, e2, _⟩ := opens_fieldB Tryd.underlying65 h 2 rfl
 obtain ⟨s, h0, hy, _⟩ := DataW.trod_string Tryd.underlying9 e0
 obtain ⟨n1, h1, _, w1⟩ := DataW.trod_int Tryd.underlying3 e1
 obtain ⟨n2, h2, _, w2⟩ := DataW.trod_int Tryd.underlying3 e2
 have z9 : Tryd.prog.cellsOf 9 = 1 := by kernel_rfl
 have z3 : Tryd.prog.cellsOf 3 = 1 := by kernel_rfl
 obtain rfl := fcell h0 z9 rfl
 obtain rfl := fcell h1 z3 rfl
 obtain rfl := fcell h2 z3 rfl
 refine ⟨⟨s, n1, n2⟩, k65_mk w ⟨s, n1, n2⟩, fun hb => ⟨?_, wf64 w1, wf64 w2⟩⟩
 rw [hy] at b0
 have : s.data.toList.length + 1 ≤ uptoBulk x.1 := b0
 show s.size ≤ 1048576
 rw [← size_list, ByteArray.toList_eq]
 omega
theorem opens_67 {H : Type} {enc : TypeId × Value → H} {w : World} {base : Nat} {sp : Nat → Bool} {held : Bool} {fuel : Nat} {cs : List Value} {x : DataW H × List MemPlace}
  (h : DataW.trod enc Tryd.prog w base sp held fuel 67 cs = some x) : ∃ p, k67.K w p cs ∧ FinP p := by
 obtain ⟨_, _, _, _, hl, _, _⟩ := DataW.trod_struct Tryd.underlying67 h
 have hl4 : cs.length = 4 := hl.trans (by kernel_rfl)
 obtain ⟨c0, c1, c2, c3, rfl⟩ : ∃ c0 c1 c2 c3, cs = [c0, c1, c2, c3] := by
  match cs, hl4 with
  | [a, b, c, d], _ => exact ⟨a, b, c, d, rfl⟩
 obtain ⟨_, _, e0, _⟩ := opens_fieldB Tryd.underlying67 h 0 rfl
 obtain ⟨_, _, e1, _⟩ := opens_fieldB Tryd.underlying67 h 1 rfl
 obtain ⟨_, _, e2, _⟩ := opens_fieldB Tryd.underlying67 h 2 rfl
 obtain ⟨_, _, e3, _⟩ := opens_fieldB Tryd.underlying67 h 3 rfl
 obtain ⟨n0, h0, _, w0⟩ := DataW.trod_int Tryd.underlying3 e0
 obtain ⟨n1, h1, _, w1⟩ := DataW.trod_int Tryd.underlying3 e1
 obtain ⟨n2, h2, _, w2⟩ := DataW.trod_int Tryd.underlying3 e2
 obtain ⟨n3, h3, _, w3⟩ := DataW.trod_int Tryd.underlying3 e3
 have z3 : Tryd.prog.cellsOf 3 = 1 := by kernel_rfl
 obtain rfl := fcell h0 z3 rfl
 obtain rfl := fcell h1 z3 rfl
 obtain rfl := fcell h2 z3 rfl
 obtain rfl := fcell h3 z3 rfl
 exact ⟨⟨n0, n1, n2, n3⟩, k67_mk w ⟨n0, n1, n2, n3⟩, wf64 w0, wf64 w1, wf64 w2, wf64 w3⟩
theorem opens_38 {H : Type} {enc : TypeId × Value → H} {w : World} {base : Nat} {sp : Nat → Bool} {held : Bool} {fuel : Nat} {cs : List Value} {x : DataW H × List MemPlace}
  (h : DataW.trod enc Tryd.prog w base sp held fuel 38 cs = some x) (hb : uptoBulk x.1 ≤ 1048576) :
  ∃ (e n : Int) (s : ByteArray) (a b c d f : Int) (A : Option Addr) (L : List S65) (cL : Nat) (A' : Option Addr) (F : List S67) (cF : Nat),
   cs = [.int .i64 e, .int .i64 n, .string s, .int .i64 a, .int .i64 b, .int .i64 c, .int .i64 d, .int .i64 f, .slice A L.length cL, .slice A' F.length cF] ∧
   L.length ≤ cL ∧ Kd.C k65 w A L.length L ∧ F.length ≤ cF ∧ Kd.C k67 w A' F.length F ∧ i64P e ∧ i64P n ∧ s.size ≤ 1048576 ∧ i64P a ∧ i64P b ∧ i64P c ∧ i64P d ∧ i64P f ∧ (∀ x ∈ L, EntP x) ∧ ∀ x ∈ F, FinP x := by
 obtain ⟨_, _, _, _, hl, _, _⟩ := DataW.trod_struct Tryd.underlying38 h
 have hl10 : cs.length = 10 := hl.trans (by kernel_rfl)
 obtain ⟨c0, c1, c2, c3, c4, c5, c6, c7, c8, c9, rfl⟩ : ∃ c0 c1 c2 c3 c4 c5 c6 c7 c8 c9, cs = [c0, c1, c2, c3, c4, c5, c6, c7, c8, c9] := by
  match cs, hl10 with
  | [a, b, c, d, e, f, g, i, j, k], _ => exact ⟨a, b, c, d, e, f, g, i, j, k, rfl⟩
 obtain ⟨_, _, e0, _⟩ := opens_fieldB Tryd.underlying38 h 0 rfl
 obtain ⟨_, _, e1, _⟩ := opens_fieldB Tryd.underlying38 h 1 rfl
 obtain ⟨_, y2, e2, b2⟩ := opens_fieldB Tryd.underlying38 h 2 rfl
 obtain ⟨n3, y3, e3', _⟩ := opens_fieldB Tryd.underlying38 h 3 rfl
 have e3 : DataW.trod enc Tryd.prog w base sp held n3 34 (([c0, c1, c2, c3, c4, c5, c6, c7, c8, c9].drop 3).take (Tryd.prog.cellsOf 34)) = some y3 := e3'
 rw [show Tryd.prog.cellsOf 34 = 5 by kernel_rfl] at e3
 have e3 : DataW.trod enc Tryd.prog w base sp held n3 34 [c3, c4, c5, c6, c7] = some y3 := e3
 obtain ⟨_, y8, e8, b8⟩ := opens_fieldB Tryd.underlying38 h 4 rfl
 obtain ⟨_, y9, e9, _⟩ := opens_fieldB Tryd.underlying38 h 5 rfl
 obtain ⟨e, h0, _, w0⟩ := DataW.trod_int Tryd.underlying26 e0
 obtain ⟨n, h1, _, w1⟩ := DataW.trod_int Tryd.underlying3 e1
 obtain ⟨s, h2, hy2, _⟩ := DataW.trod_string Tryd.underlying9 e2
 obtain ⟨_, _, f0, _⟩ := opens_fieldB Tryd.underlying34 e3 0 rfl
 obtain ⟨_, _, f1, _⟩ := opens_fieldB Tryd.underlying34 e3 1 rfl
 obtain ⟨_, _, f2, _⟩ := opens_fieldB Tryd.underlying34 e3 2 rfl
 obtain ⟨_, _, f3, _⟩ := opens_fieldB Tryd.underlying34 e3 3 rfl
 obtain ⟨_, _, f4, _⟩ := opens_fieldB Tryd.underlying34 e3 4 rfl
 obtain ⟨a, g0, _, v0⟩ := DataW.trod_int Tryd.underlying3 f0
 obtain ⟨b, g1, _, v1⟩ := DataW.trod_int Tryd.underlying3 f1
 obtain ⟨c, g2, _, v2⟩ := DataW.trod_int Tryd.underlying3 f2
 obtain ⟨d, g3, _, v3⟩ := DataW.trod_int Tryd.underlying3 f3
 obtain ⟨f, g4, _, v4⟩ := DataW.trod_int Tryd.underlying3 f4
 obtain ⟨A, L, cL, h8, lL, rL, pL⟩ := opens_rowB k65 (fun m p => m ≤ 1048576 → EntP p) (fun m n p hmn hp hn => hp (Nat.le_trans hmn hn)) Tryd.underlying35 (by kernel_rfl) (fun _ _ _ hy => opens_65 hy) e8
 obtain ⟨A', F, cF, h9, lF, rF, pF⟩ := opens_rowB k67 (fun _ p => FinP p) (fun _ _ _ _ hp => hp) Tryd.underlying36 (by kernel_rfl) (fun _ _ _ hy => opens_67 hy) e9
 have z26 : Tryd.prog.cellsOf 26 = 1 := by kernel_rfl
 have z9 : Tryd.prog.cellsOf 9 = 1 := by kernel_rfl
 have z3 : Tryd.prog.cellsOf 3 = 1 := by kernel_rfl
 have z35 : Tryd.prog.cellsOf 35 = 1 := by kernel_rfl
 have z36 : Tryd.prog.cellsOf 36 = 1 := by kernel_rfl
 obtain rfl := fcell h0 z26 rfl
 obtain rfl := fcell h1 z3 rfl
 obtain rfl := fcell h2 z9 rfl
 obtain rfl := fcell g0 z3 rfl
 obtain rfl := fcell g1 z3 rfl
 obtain rfl := fcell g2 z3 rfl
 obtain rfl := fcell g3 z3 rfl
 obtain rfl := fcell g4 z3 rfl
 obtain rfl := fcell h8 z35 rfl
 obtain rfl := fcell h9 z36 rfl
 refine ⟨e, n, s, a, b, c, d, f, A, L, cL, A', F, cF, rfl, lL, rL, lF, rF, wf64 w0, wf64 w1, ?_, wf64 v0, wf64 v1, wf64 v2, wf64 v3, wf64 v4, fun x hx => pL x hx (Nat.le_trans b8 hb), pF⟩
 rw [hy2] at b2
 have : s.data.toList.length + 1 ≤ uptoBulk x.1 := b2
 rw [← size_list, ByteArray.toList_eq]
 omega
end Go.Proofs.YtenigkhfldafaaaDoor.A

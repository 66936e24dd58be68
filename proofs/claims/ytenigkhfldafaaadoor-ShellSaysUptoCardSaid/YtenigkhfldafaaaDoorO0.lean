/- Arguments that are records, and rows of them, laid open. -/
import Derived.Test.YtenigkhfldafaaaDoorA0
import Derived.SliceStrings
import Derived.DataElems
import Derived.WideShapes
namespace Go.Proofs.YtenigkhfldafaaaDoor.A
open Go.RowKit Go.Proofs.YtenigkhfldafaaaDoorW.PrintWords
theorem opens_row {α H : Type} {enc : TypeId × Value → H} {P : Program} {w : World} {base : Nat} {sp : Nat → Bool} {held : Bool} {fuel : Nat} {cs : List Value} {x : DataW H × List MemPlace} {t e : TypeId} (k : Kd α) (ht : P.underlying t = some (.slice e)) (hz : P.cellsOf e = k.sz)
  (hk : ∀ n c y, DataW.trod enc P w base sp held n e c = some y → ∃ p, k.K w p c) (h : DataW.trod enc P w base sp held fuel t cs = some x) :
  ∃ A xs c, cs = [.slice A xs.length c] ∧ xs.length ≤ c ∧ k.C w A xs.length xs := by
 rcases DataW.trod_slice ht h with ⟨rfl, _⟩ | ⟨a, len, cap, elems, rest, n, _, rfl, rfl, hb, hl, hm, hlen, hel, _⟩
 ·exact ⟨none, [], 0, rfl, Nat.le_refl _, rfl, Nat.zero_le _, fun h => absurd h (by simp)⟩
 ·have each : ∀ i, i < len → ∃ p c, c.length = k.sz ∧ k.K w p c ∧ ∀ q u, c[q]? = some u → w.cell? (a.add (i * k.sz + q)) = some u := by
   intro i hi
   have h1 := hel i hi
   rw [List.getElem?_eq_getElem (by omega), Option.bind_eq_some_iff] at h1
   obtain ⟨c, hc, hy⟩ := h1
   obtain ⟨p, hp⟩ := hk n c _ hy
   obtain ⟨_, hcl, hcell⟩ := World.cells?_some hc
   refine ⟨p, c, by rw [hcl, hz], hp, fun q u hq => ?_⟩
   have hq' : q < c.length := (List.getElem?_eq_some_iff.1 hq).1
   have := hcell q (by omega)
   rw [Addr.add_add, hz] at this
   rw [this, hq]
  have all : ∀ m, m ≤ len → ∃ xs : List α, xs.length = m ∧ ∀ (j : Nat) p, xs[j]? = some p → ∃ c, c.length = k.sz ∧ k.K w p c ∧ ∀ (q : Nat) u, c[q]? = some u → w.cell? (a.add (j * k.sz + q)) = some u := by
   intro m
   induction m with
   | zero => exact fun _ => ⟨[], rfl, fun j p hj => by simp at hj⟩
   | succ m ih =>
    intro hm2
    obtain ⟨xs, hx, hc⟩ := ih (by omega)
    obtain ⟨p, c, h1, h2, h3⟩ := each m (by omega)
    refine ⟨xs ++ [p], by rw [List.length_append, hx]; rfl, fun j p' hj => ?_⟩
    rcases Nat.lt_or_ge j xs.length with hlt | hge
    ·rw [List.getElem?_append_left hlt] at hj
     exact hc j p' hj
    ·rw [List.getElem?_append_right hge] at hj
     have hj0 : j - xs.length = 0 := by
      have := (List.getElem?_eq_some_iff.1 hj).1
      simp at this
      omega
     rw [hj0] at hj
     simp only [List.getElem?_cons_zero, Option.some.injEq] at hj
     subst hj
     rw [show j = m by omega]
     exact ⟨c, h1, h2, h3⟩
  obtain ⟨xs, hx, hc⟩ := all len (Nat.le_refl _)
  refine ⟨some a, xs, cap, by rw [hx], by omega, rfl, ?_, fun _ => ⟨a, rfl, hc⟩⟩
  unfold maxLen at hm
  omega
theorem opens_field {H : Type} {enc : TypeId × Value → H} {P : Program} {w : World} {base : Nat} {sp : Nat → Bool} {held : Bool} {fuel : Nat} {cs : List Value} {x : DataW H × List MemPlace} {t : TypeId} {fs : Array Field} (ht : P.underlying t = some (.struct fs))
  (h : DataW.trod enc P w base sp held fuel t cs = some x) (i : Nat) {f : Field} (hf : fs[i]? = some f) (hz : P.cellsOf f.type = 1) {c : Value} (hc : cs[f.offset]? = some c) : ∃ n y, DataW.trod enc P w base sp held n f.type [c] = some y := by
 obtain ⟨xs, n, _, _, _, hxl, hall⟩ := DataW.trod_struct ht h
 have h1 := hall i f hf
 have hi : i < xs.length := by
  rw [hxl]
  exact (Array.getElem?_eq_some_iff.1 hf).1
 obtain ⟨hlt, hce⟩ := List.getElem?_eq_some_iff.1 hc
 rw [List.getElem?_eq_getElem hi, hz, List.drop_eq_getElem_cons hlt, hce] at h1
 exact ⟨n, _, h1⟩
set_option maxRecDepth 100000 in
theorem opens_31 {H : Type} {enc : TypeId × Value → H} {w : World} {base : Nat} {sp : Nat → Bool} {held : Bool} {fuel : Nat} {cs : List Value} {x : DataW H × List MemPlace}
  (h : DataW.trod enc Tryd.prog w base sp held fuel 31 cs = some x) : ∃ p, k31.K w p cs := by
 obtain ⟨_, _, _, _, hl, _, _⟩ := DataW.trod_struct Tryd.underlying31 h
 have hl8 : cs.length = 8 := hl.trans (by kernel_rfl)
 obtain ⟨c0, c1, c2, c3, c4, c5, c6, c7, rfl⟩ : ∃ c0 c1 c2 c3 c4 c5 c6 c7, cs = [c0, c1, c2, c3, c4, c5, c6, c7] := by
  match cs, hl8 with
  | [a, b, c, d, e, f, g, i], _ => exact ⟨a, b, c, d, e, f, g, i, rfl⟩
 obtain ⟨_, _, e0⟩ := opens_field Tryd.underlying31 h 0 rfl (by kernel_rfl) rfl
 obtain ⟨_, _, e1⟩ := opens_field Tryd.underlying31 h 1 rfl (by kernel_rfl) rfl
 obtain ⟨_, _, e2⟩ := opens_field Tryd.underlying31 h 2 rfl (by kernel_rfl) rfl
 obtain ⟨_, _, e3⟩ := opens_field Tryd.underlying31 h 3 rfl (by kernel_rfl) rfl
 obtain ⟨_, _, e4⟩ := opens_field Tryd.underlying31 h 4 rfl (by kernel_rfl) rfl
 obtain ⟨_, _, e5⟩ := opens_field Tryd.underlying31 h 5 rfl (by kernel_rfl) rfl
 obtain ⟨_, _, e6⟩ := opens_field Tryd.underlying31 h 6 rfl (by kernel_rfl) rfl
 obtain ⟨_, _, e7⟩ := opens_field Tryd.underlying31 h 7 rfl (by kernel_rfl) rfl
 obtain ⟨n0, h0, _⟩ := DataW.trod_int Tryd.underlying3 e0
 obtain ⟨n1, h1, _⟩ := DataW.trod_int Tryd.underlying3 e1
 obtain ⟨n2, h2, _⟩ := DataW.trod_int Tryd.underlying3 e2
 obtain ⟨n3, h3, _⟩ := DataW.trod_int Tryd.underlying3 e3
 obtain ⟨s4, h4, _⟩ := DataW.trod_string Tryd.underlying9 e4
 obtain ⟨s5, h5, _⟩ := DataW.trod_string Tryd.underlying9 e5
 obtain ⟨s6, h6, _⟩ := DataW.trod_string Tryd.underlying9 e6
 obtain ⟨A, xs, c, h7, hle, hC⟩ := opens_row Kd.bool Tryd.underlying29 (by kernel_rfl) (fun n c y hy => by
  obtain ⟨b, rfl, _⟩ := DataW.trod_bool Tryd.underlying4 hy
  exact ⟨b, rfl⟩) e7
 obtain ⟨rfl, -⟩ := List.cons.inj h0
 obtain ⟨rfl, -⟩ := List.cons.inj h1
 obtain ⟨rfl, -⟩ := List.cons.inj h2
 obtain ⟨rfl, -⟩ := List.cons.inj h3
 obtain ⟨rfl, -⟩ := List.cons.inj h4
 obtain ⟨rfl, -⟩ := List.cons.inj h5
 obtain ⟨rfl, -⟩ := List.cons.inj h6
 obtain ⟨rfl, -⟩ := List.cons.inj h7
 exact ⟨⟨n0, n1, n2, n3, s4, s5, s6, xs⟩, k31_mk w ⟨n0, n1, n2, n3, s4, s5, s6, xs⟩ hle hC⟩
end Go.Proofs.YtenigkhfldafaaaDoor.A

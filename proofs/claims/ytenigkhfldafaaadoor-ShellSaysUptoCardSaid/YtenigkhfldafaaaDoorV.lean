/- '[]byte(s)' of a text, as one step of a walk: a row that is only read. -/
import Derived.Test.YtenigkhfldafaaaDoorWMore
import Derived.Test.YtenigkhfldafaaaDoorWShare
namespace Go.Proofs.YtenigkhfldafaaaDoorW.PrintWords
open Go.RowKit
section
variable {P : Program} {ops : Array Oper} {o : Oper} {a : Act} {Q : Exit → Act → World → Prop} {rest : List Oper}
theorem bytes_reads_in (W W' : World) (e : TypeId) (s : ByteArray) (hs : s.size ≤ 9223372036854775807) (h : W'.heap[W.heap.size]? = (Lib.bytesWorld W e s).heap[W.heap.size]?) : ReadsInt W' .u8 (some ⟨W.heap.size, 0, none⟩) s.size (bytesOf s) := by
 have hr := bytes_reads W e s hs
 refine ⟨hr.1, hr.2.1, fun hn => ?_⟩
 obtain ⟨ad, hA, hc⟩ := hr.2.2 hn
 refine ⟨ad, hA, fun j hj => ?_⟩
 have := hc j hj
 injection hA with hA
 subst hA
 unfold World.cell? at this ⊢
 rw [show (Addr.add ⟨W.heap.size, 0, none⟩ j).block = W.heap.size by unfold Addr.add; split <;> rfl] at this ⊢
 rw [h]
 exact this
theorem bytesWorld_below (W : World) (e : TypeId) (s : ByteArray) : Below W.heap.size W (Lib.bytesWorld W e s) := by
 refine ⟨?_, ?_, ?_, by rw [Lib.bytesWorld_size]; omega, fun i hi => Lib.bytesWorld_at_old W e s i hi⟩
 all_goals
  unfold Lib.bytesWorld World.freeze
  split <;> rfl
theorem own_far {w : World} {base : Nat} {e : TypeId} {size n : Nat} {v : Value} {xs : List Value} (h : w.ownsRow base e size v n xs) {g : Nat} (hne : some g ≠ v.ownBlock) (j : Nat) (u : Value) : (w.setCell ⟨g, j, none⟩ u).ownsRow base e size v n xs :=
 own_move h (fun k hk => Below.heap_setCell w ⟨g, j, none⟩ u k (fun e => hne (by rw [hk, e])))
theorem V_conv {w0 W : World} (base e : Nat) (hgd : o.guard = none) {N : Tmp} (_hd : o.dst = some N) (src dst : TypeId) (x : Operand) (ho : o.op = .convert src dst x) (s : ByteArray) (hx : a.eval x = .string s)
  {u : TypeDesc} (hs : P.underlying src = some u) (hdd : P.underlying dst = some (.slice e)) (he : P.underlying e = some (.int .u8)) (hm : s.size ≤ 9223372036854775807) (HB : Below base w0 W) (hbase : base ≤ W.heap.size)
  (h : ∀ v1 w1, Kd.V (Kd.int .u8) e w1 base (fun k => W.heap.size ≤ k) v1 (bytesOf s) → Below base w0 w1 → W.grownBy w1 none → (∃ b, v1.ownBlock = some b ∧ W.heap.size ≤ b) → wpList P ops Q rest (a.put o.dst v1) w1) : wpList P ops Q (o :: rest) a W := by
 have hr := Lib.run_convert_string_bytes (P := P) W src dst e s hs hdd he
 have hl := bytesOf_length s
 have hb := bytesWorld_below W e s
 have hcap : s.size ≤ grownCap W s.size 0 e := grownCap_ge W s.size 0 e
 refine Kd.event_run (v := .slice (some ⟨W.heap.size, 0, none⟩) s.size (grownCap W s.size 0 e)) (w1 := Lib.bytesWorld W e s) hgd (by simp [execOp, ho, hx, hr]) ?_
 refine h _ _ ⟨some ⟨W.heap.size, 0, none⟩, grownCap W s.size 0 e, by rw [hl], by rw [hl]; exact hcap, fun W' hW => ?_⟩ (below_then HB hbase hb) (grown_of_below hb none) ⟨W.heap.size, rfl, Nat.le_refl _⟩
 have hsz := Lib.bytesWorld_size W e s
 have := bytes_reads_in W W' e s hm (hW W.heap.size (Nat.le_refl _) (by omega))
 rw [← hl] at this
 exact Kd.C_of_reads (d := (0 : Int)) (h1 := fun _ => rfl) this
end
end Go.Proofs.YtenigkhfldafaaaDoorW.PrintWords

/- More of the kinds' facts. -/
import Derived.Test.YtenigkhfldafaaaDoorA0
namespace Go.Proofs.YtenigkhfldafaaaDoor.A
open Go.RowKit Go.Proofs.YtenigkhfldafaaaDoorW.PrintWords Go.Proofs.YtenigkhfldafaaaDoorW.PrintLast Go.Proofs.YtenigkhfldafaaaDoorW.PrintMore
theorem more_ {P : Program} {ops : Array Oper} {Q : Exit → Act → World → Prop} {md : Region.Mode} {S : World → Prop} (S' : World → Prop) (himp : ∀ w, S' w → S w) :
  ∀ {fuel : Nat} {l : Array Bool} {a : Act} {w : World}, S' w → wpAnyLast P md ops Q S' [] fuel l a w → wpAnyLast P md ops Q S [] fuel l a w
 | 0, _, _, _, _, h => h
 | _ + 1, _, _, _, hS, h => ⟨h.1, fun i hi => wpOp_mono (fun _ _ hk => ⟨fun hn _ => himp _ (hk.1 hn hS), more_ S' himp (hk.1 (by simp) hS) hk.2⟩) (h.2 i hi)⟩
end Go.Proofs.YtenigkhfldafaaaDoor.A

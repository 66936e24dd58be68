/- Reading a script: what its steps are, whatever it says. -/
import Derived.Test.YtenigkhfldafaaaDoorR1
namespace Go.Proofs.YtenigkhfldafaaaDoor.A
open Go.RowKit Go.Proofs.YtenigkhfldafaaaDoorW.PrintWords
set_option maxRecDepth 100000
inductive Fld where
 | s (b : ByteArray)
 | i (n : Int)
 | k (l : List Bool)
def put (r a : S31) (c : UInt8) : S31 := if c = 112 then { a with f4 := r.f4 } else if c = 113 then { a with f5 := r.f5 } else if c = 116 then { a with f6 := r.f6 } else if c = 107 then { a with f7 := r.f7 } else if c = 102 then { a with f1 := r.f1 } else if c = 110 then { a with f2 := r.f2 } else { a with f3 := r.f3 }
def putL (r : S31) : List UInt8 → S31 → S31
 | [], a => a
 | c :: cs, a => putL r cs (put r a c)
structure Bd (M : Nat) (a : S31) : Prop where
 i1 : -1000000000000000000 < a.f1 ∧ a.f1 < 1000000000000000000
 i2 : -1000000000000000000 < a.f2 ∧ a.f2 < 1000000000000000000
 i3 : -1000000000000000000 < a.f3 ∧ a.f3 < 1000000000000000000
 s4 : a.f4.size ≤ M
 s5 : a.f5.size ≤ M
 s6 : a.f6.size ≤ M
 s7 : a.f7.length ≤ M
structure GoodA (M : Nat) (a : S31) : Prop where
 lo : 1 ≤ a.f0
 hi : a.f0 ≤ 25
 clean : ∀ b, shell_command.f a.f0 = some b → putL a b.2.toList { z31 with f0 := a.f0 } = a
 bd : Bd M a
end Go.Proofs.YtenigkhfldafaaaDoor.A

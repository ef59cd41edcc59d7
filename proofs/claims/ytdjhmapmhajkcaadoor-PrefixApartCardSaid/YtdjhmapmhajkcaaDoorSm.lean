/- Small words that the printed walks of this seat ask for: shifts as Go tells them, and looks at an operation ahead of a dear step. -/
import Derived.Test.YtdjhmapmhajkcaaDoorWWords
import Derived.Test.YtdjhmapmhajkcaaDoorWLast
import Derived.WalkKit
namespace Go.Proofs.YtdjhmapmhajkcaaDoor.Sm
open Go.RowKit Go.Proofs.YtdjhmapmhajkcaaDoorW.PrintWords
/-- The greater of two, as Go's max tells it. -/
def mx (a b : Int) : Int := if a < b then b else a
/-- The smaller of two, as Go's min tells it. -/
def mn (a b : Int) : Int := if b < a then b else a
/-- A shift to the front: a count of the width or more leaves nothing. -/
def shl (k : IntKind) (x y : Int) : Int := k.wrap (x * 2 ^ min y.toNat k.bits)
/-- A shift to the back: a count of the width or more leaves the sign. -/
def shr (k : IntKind) (x y : Int) : Int := x / 2 ^ min y.toNat k.bits
theorem shl_small {k : IntKind} {x y j : Int} (h : shl k x y = j) (hy : y ≤ k.bits) : k.wrap (x * 2 ^ y.toNat) = j := by
  have e : min y.toNat k.bits = y.toNat := by omega
  unfold shl at h
  rwa [e] at h
theorem shr_small {k : IntKind} {x y j : Int} (h : shr k x y = j) (hy : y ≤ k.bits) : x / 2 ^ y.toNat = j := by
  have e : min y.toNat k.bits = y.toNat := by omega
  unfold shr at h
  rwa [e] at h
theorem calls_of_args {P : Program} {f : FuncId} {xs ys : Array Value} {w : World} {Q : Ending → World → Prop} (e : xs = ys) (h : Calls P f ys w Q) : Calls P f xs w Q := by rw [e]; exact h
theorem drewN_self (w : World) (n : Nat) : w.drewN n = w.drewN n := Eq.refl _
section
variable {P : Program} {os : Array Oper} {more : List Oper} {op : Oper} {act : Act} {Q : Exit → Act → World → Prop} {W : World}
/-- The operation at hand calls function f. -/
theorem gate_callee {f : FuncId} {xs : Array Operand} {ts : Array TypeId} (_is : op.op = .call { callee := .value (.func f), args := xs, argTypes := ts }) (go : wpList P os Q (op :: more) act W) : wpList P os Q (op :: more) act W := go
/-- The operation at hand calls builtin b. -/
theorem gate_builtin {b : Builtin} {xs : Array Operand} {ts : Array TypeId} (_is : op.op = .call { callee := .builtin b, args := xs, argTypes := ts }) (go : wpList P os Q (op :: more) act W) : wpList P os Q (op :: more) act W := go
end
end Go.Proofs.YtdjhmapmhajkcaaDoor.Sm

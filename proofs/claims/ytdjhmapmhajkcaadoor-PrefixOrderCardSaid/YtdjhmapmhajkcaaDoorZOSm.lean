/- Small words that the printed walks of this seat ask for: shifts as Go tells them, and looks at an operation ahead of a dear step. -/
import Derived.Test.YtdjhmapmhajkcaaDoorZOWWords
import Derived.Test.YtdjhmapmhajkcaaDoorZOWLast
import Derived.WalkKit
namespace Go.Proofs.YtdjhmapmhajkcaaDoor.Sm
open Go.RowKit Go.Proofs.YtdjhmapmhajkcaaDoorW.PrintWords
def mn (a b : Int) : Int := if b < a then b else a
def shl (k : IntKind) (x y : Int) : Int := k.wrap (x * 2 ^ min y.toNat k.bits)
def shr (k : IntKind) (x y : Int) : Int := x / 2 ^ min y.toNat k.bits
theorem shl_small {k : IntKind} {x y j : Int} (h : shl k x y = j) (hy : y ≤ k.bits) : k.wrap (x * 2 ^ y.toNat) = j := by
  have e : min y.toNat k.bits = y.toNat := by omega
  unfold shl at h
  rwa [e] at h
theorem shr_small {k : IntKind} {x y j : Int} (h : shr k x y = j) (hy : y ≤ k.bits) : x / 2 ^ y.toNat = j := by
  have e : min y.toNat k.bits = y.toNat := by omega
  unfold shr at h
  rwa [e] at h
theorem drewN_self (w : World) (n : Nat) : w.drewN n = w.drewN n := Eq.refl _
section
variable {P : Program} {os : Array Oper} {more : List Oper} {op : Oper} {act : Act} {Q : Exit → Act → World → Prop} {W : World}
theorem gate_callee {f : FuncId} {xs : Array Operand} {ts : Array TypeId} (_is : op.op = .call { callee := .value (.func f), args := xs, argTypes := ts }) (go : wpList P os Q (op :: more) act W) : wpList P os Q (op :: more) act W := go
theorem gate_builtin {b : Builtin} {xs : Array Operand} {ts : Array TypeId} (_is : op.op = .call { callee := .builtin b, args := xs, argTypes := ts }) (go : wpList P os Q (op :: more) act W) : wpList P os Q (op :: more) act W := go
end
end Go.Proofs.YtdjhmapmhajkcaaDoor.Sm

/- Words of 128 bits: how they are compared. -/
import Derived.Test.YtdjhmapmhajkcaaDoorZOLw
import Derived.Test.YtdjhmapmhajkcaaDoorZOX0
import Derived.Test.YtdjhmapmhajkcaaDoorZOX1
namespace Go.Proofs.YtdjhmapmhajkcaaDoor.Th
open Go.RowKit Go.Proofs.YtdjhmapmhajkcaaDoor.X Go.Proofs.YtdjhmapmhajkcaaDoorW.PrintWords Go.Proofs.YtdjhmapmhajkcaaDoorW.PrintLast Go.Proofs.YtdjhmapmhajkcaaDoor.Sm
set_option linter.unusedVariables false
set_option linter.unusedSimpArgs false
theorem split_word {u : Nat} (h : u < 2 ^ 128) : ∃ a b : Nat, a < 18446744073709551616 ∧ b < 18446744073709551616 ∧ u = a * 18446744073709551616 + b ∧ hi u = (a : Int) ∧ lo u = (b : Int) := by
  refine ⟨u / 2 ^ 64, u % 2 ^ 64, p64 ▸ hi_lt h, p64 ▸ lo_lt u, ?_, rfl, rfl⟩
  rw [p64]; omega
def cmpV (u v : Nat) : Int := if u < v then -1 else if u = v then 0 else 1
end Go.Proofs.YtdjhmapmhajkcaaDoor.Th

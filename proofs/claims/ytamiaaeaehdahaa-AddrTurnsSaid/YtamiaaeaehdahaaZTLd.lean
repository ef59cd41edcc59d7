/- What the statements' own writer of decimal digits, and their choice of a number, compute. -/
import Derived.Test.YtamiaaeaehdahaaZTLp
import Derived.Test.YtamiaaeaehdahaaZTDq
import Derived.Test.YtamiaaeaehdahaaZTX14
import Derived.Test.YtamiaaeaehdahaaX0
namespace Go.Proofs.Ytamiaaeaehdahaa.Th
open Go.RowKit Go.Proofs.Ytamiaaeaehdahaa.X Go.Proofs.YtamiaaeaehdahaaW.PrintWords
set_option linter.unusedVariables false
set_option linter.unusedSimpArgs false
theorem lwithin (a n : Int) (h1 : 0 < n) (h2 : n ≤ 1048600) : ∃ m : Nat, (m : Int) < n ∧ turnpikelaw2_within.f a n = some (m : Int) := by
  unfold turnpikelaw2_within.f
  rw [if_neg (by omega)]
  have hlo := Int.tmod_lt_of_pos a h1
  have hneg : -n < Int.tmod a n := by
    have := Int.lt_tmod_of_pos a h1
    omega
  by_cases h : Int.tmod a n < 0
  · rw [if_pos h]
    refine ⟨(Int.tmod a n + n).toNat, by omega, ?_⟩
    rw [w64 (by omega) (by omega)]
    congr 1; omega
  · rw [if_neg h]
    exact ⟨(Int.tmod a n).toNat, by omega, by congr 1; omega⟩
end Go.Proofs.Ytamiaaeaehdahaa.Th

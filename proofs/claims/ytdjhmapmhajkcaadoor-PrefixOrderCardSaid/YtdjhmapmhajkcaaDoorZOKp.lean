/- The laws' first example of a prefix. -/
import Derived.Test.YtdjhmapmhajkcaaDoorZOPq
import Derived.Test.YtdjhmapmhajkcaaDoorZOX6
namespace Go.Proofs.YtdjhmapmhajkcaaDoor.Th
open Go.RowKit Go.Proofs.YtdjhmapmhajkcaaDoor.X Go.Proofs.YtdjhmapmhajkcaaDoorW.PrintWords
set_option linter.unusedVariables false
theorem ten_text : pfxT 32 (720575940379279360 * 18446744073709551616) 8 = [49, 48, 46, 48, 46, 48, 46, 48, 47, 56] := by decide +kernel
theorem ten_check : checkV 32 (720575940379279360 * 18446744073709551616) 8 = 0 := by decide +kernel
theorem known3_f : Ev (fun k => turnpikelaw3_known.f k) true := by
  have hw : 720575940379279360 * 18446744073709551616 < 2 ^ 128 := by decide
  have hp := pparsep 32 _ 8 hw ten_check
  have ht := ptextp 32 _ 8 hw
  rw [if_pos ten_check, show (8 : Int).toNat = 8 from rfl, ten_text] at ht
  rw [ten_text] at hp
  unfold turnpikelaw3_known.f
  refine Ev.bind hp ?_
  refine Ev.bind ht ?_
  have e1 : hi (720575940379279360 * 18446744073709551616) = 720575940379279360 := by decide +kernel
  have e2 : lo (720575940379279360 * 18446744073709551616) = 0 := by decide +kernel
  have e3 : (OfBy [49, 48, 46, 48, 46, 48, 46, 48, 47, 56]).toList = [49, 48, 46, 48, 46, 48, 46, 48, 47, 56] := by rw [Go.Lib.toList_data]
  simp only [if_true, e1, e2, e3]
  exact Ev.now _
end Go.Proofs.YtdjhmapmhajkcaaDoor.Th

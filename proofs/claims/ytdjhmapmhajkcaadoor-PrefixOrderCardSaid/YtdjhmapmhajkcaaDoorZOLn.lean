/- Words of 128 bits: what the document's Right computes. -/
import Derived.Test.YtdjhmapmhajkcaaDoorZOLw
import Derived.Test.YtdjhmapmhajkcaaDoorZOX6
import Derived.Test.YtdjhmapmhajkcaaDoorZOX7
namespace Go.Proofs.YtdjhmapmhajkcaaDoor.Th
open Go.RowKit Go.Proofs.YtdjhmapmhajkcaaDoor.X Go.Proofs.YtdjhmapmhajkcaaDoorW.PrintWords Go.Proofs.YtdjhmapmhajkcaaDoorW.PrintLast Go.Proofs.YtdjhmapmhajkcaaDoor.Sm
set_option linter.unusedVariables false
set_option linter.unusedSimpArgs false
theorem rnot (v : Nat) (hv : v < 2 ^ 128) : turnpikeref1_Not.f (hi v) (lo v) = some (hi (nt v), lo (nt v)) := by
  unfold turnpikeref1_Not.f; rw [not_hi v hv, not_lo v hv]
theorem rright (f : Int) (w : Nat) (hw : w < 2 ^ 128) : Ev (fun k => turnpikeref2_Right.f k f (hi w) (lo w)) (rightV f w) := by
  unfold turnpikeref2_Right.f rightV
  simp only [rfam, Option.bind_some]
  cases h : fam f with
  | false => simp only [Bool.false_eq_true, if_false]; exact Ev.now _
  | true =>
    simp only [if_true]
    obtain ⟨n, rfl⟩ : ∃ n : Nat, f = (n : Int) := by rcases fam_cases h with e | e <;> exact ⟨_, e⟩
    refine Ev.bind (rmask n) ?_
    simp only [Option.bind_some, rnot _ (mk_lt n), rand_ w _ hw (nt_lt _), zero_iff, Int.toNat_natCast]
    by_cases h0 : w &&& nt (mk n) = 0
    · simp only [h0, ne_eq, not_true_eq_false, if_false, if_true]; exact Ev.now _
    · simp only [ne_eq, h0, not_false_eq_true, if_true, if_false]; exact Ev.now _
end Go.Proofs.YtdjhmapmhajkcaaDoor.Th

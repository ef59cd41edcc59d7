/- The meeting of two right prefixes, and their order: the program and the document tell the same. -/
import Derived.Test.YtdjhmapmhajkcaaDoorZMMt
import Derived.Test.YtdjhmapmhajkcaaDoorZMKp
import Derived.Test.YtdjhmapmhajkcaaDoorZMX31
namespace Go.Proofs.YtdjhmapmhajkcaaDoor.Pure
open Go.RowKit Go.Proofs.YtdjhmapmhajkcaaDoor.X Go.Proofs.YtdjhmapmhajkcaaDoorW.PrintWords Go.Proofs.YtdjhmapmhajkcaaDoor.Th
set_option linter.unusedVariables false
theorem PrefixMeets : turnpikelaw3_PrefixMeets.Pure := by
  intro six a b n c d m h1 h2 _ h3 h4 _
  obtain ⟨v, hv, rfl, rfl⟩ := as_word h1 h2
  obtain ⟨u, hu, rfl, rfl⟩ := as_word h3 h4
  obtain ⟨f, hf, ef⟩ := family3 six
  obtain ⟨w, i, hw, hs⟩ := some3 f v hf hv n
  obtain ⟨x, j, hx, ht⟩ := some3 f u hf hu m
  refine Ev.rounds ?_
  unfold turnpikelaw3_PrefixMeets.f
  simp only [ef, Option.bind_some]
  refine Ev.bind hs (Ev.bind ht (Ev.bind known3_f ?_))
  simp only [if_true, pmeet w i x j hw.1 hx.1, Option.bind_some]
  refine Ev.bind (rmeet w i x j hw.1 hx.1) ?_
  simp only [if_true, beq_self_eq_true, Bool.and_self, pcmp w x _ _ hw.1 hx.1, Option.bind_some]
  refine Ev.bind (rcmp3 w x _ _ hw.1 hx.1) ?_
  simp only [beq_self_eq_true]
  exact Ev.now _
end Go.Proofs.YtdjhmapmhajkcaaDoor.Pure

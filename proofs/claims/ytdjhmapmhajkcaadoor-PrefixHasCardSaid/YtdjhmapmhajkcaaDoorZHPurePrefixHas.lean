/- What a right prefix has, what lies within it, its ends: the program and the document tell the same. -/
import Derived.Test.YtdjhmapmhajkcaaDoorZHPy
import Derived.Test.YtdjhmapmhajkcaaDoorZHKp
import Derived.Test.YtdjhmapmhajkcaaDoorZHX14
import Derived.Test.YtdjhmapmhajkcaaDoorZHX27
namespace Go.Proofs.YtdjhmapmhajkcaaDoor.Pure
open Go.RowKit Go.Proofs.YtdjhmapmhajkcaaDoor.X Go.Proofs.YtdjhmapmhajkcaaDoorW.PrintWords Go.Proofs.YtdjhmapmhajkcaaDoor.Th
set_option linter.unusedVariables false
theorem PrefixHas : turnpikelaw3_PrefixHas.Pure := by
  intro six a b n c d m e g h1 h2 _ h3 h4 _ h5 h6
  obtain ⟨v, hv, rfl, rfl⟩ := as_word h1 h2
  obtain ⟨u, hu, rfl, rfl⟩ := as_word h3 h4
  obtain ⟨z, hz, rfl, rfl⟩ := as_word h5 h6
  obtain ⟨f, hf, ef⟩ := family3 six
  obtain ⟨w, i, hw, hs⟩ := some3 f v hf hv n
  obtain ⟨x, j, hx, ht⟩ := some3 f u hf hu m
  have hc := clip3 f z hz
  have hzz : z &&& mk f < 2 ^ 128 := and_lt128 _ hz
  refine Ev.rounds ?_
  unfold turnpikelaw3_PrefixHas.f
  simp only [ef, Option.bind_some]
  refine Ev.bind hs (Ev.bind ht (Ev.bind hc (Ev.bind known3_f ?_)))
  simp only [if_true, phas w _ _ hw.1 hzz, Option.bind_some]
  refine Ev.bind (rhas w _ _ hw.1 hzz) ?_
  simp only [beq_self_eq_true, if_true, pwithin w x _ _ hw.1 hx.1, Option.bind_some]
  refine Ev.bind (rwithin w x _ _ hw.1 hx.1) ?_
  have e1 : prefix_First.f (hi w) (lo w) (i : Int) = some (hi w, lo w) := rfl
  simp only [beq_self_eq_true, if_true, e1, Option.bind_some, Bool.and_self, plastp f w i hw.1]
  refine Ev.bind (rlastp f w i hw.1) ?_
  simp only [beq_self_eq_true, Bool.and_self]
  exact Ev.now _
end Go.Proofs.YtdjhmapmhajkcaaDoor.Pure

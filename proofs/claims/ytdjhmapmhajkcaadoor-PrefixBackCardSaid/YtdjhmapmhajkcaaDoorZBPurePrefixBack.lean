/- A right prefix's text is read as the prefix. -/
import Derived.Test.YtdjhmapmhajkcaaDoorZBSo
import Derived.Test.YtdjhmapmhajkcaaDoorZBKp
import Derived.Test.YtdjhmapmhajkcaaDoorZBX16
namespace Go.Proofs.YtdjhmapmhajkcaaDoor.Pure
open Go.RowKit Go.Proofs.YtdjhmapmhajkcaaDoor.X Go.Proofs.YtdjhmapmhajkcaaDoorW.PrintWords Go.Proofs.YtdjhmapmhajkcaaDoor.Th
set_option linter.unusedVariables false
theorem PrefixBack : turnpikelaw3_PrefixBack.Pure := by
  intro six a b n h1 h2 _
  obtain ⟨v, hv, rfl, rfl⟩ := as_word h1 h2
  obtain ⟨f, hf, ef⟩ := family3 six
  obtain ⟨w, m, hfit, hs⟩ := some3 f v hf hv n
  have hc := fit_check hf hfit
  have ht := ptextp (f : Int) w (m : Int) hfit.1
  rw [if_pos hc, Int.toNat_natCast] at ht
  have hp := pparsep (f : Int) w m hfit.1 hc
  have hk := pcheck (f : Int) w (m : Int) hfit.1
  rw [hc] at hk
  refine Ev.rounds ?_
  unfold turnpikelaw3_PrefixBack.f
  refine Ev.bind known3_f ?_
  simp only [if_true, ef, Option.bind_some]
  refine Ev.bind hs (Ev.bind ht (Ev.bind hp ?_))
  simp only [if_true, beq_self_eq_true, Bool.and_self]
  refine Ev.bind hk ?_
  exact Ev.now _
end Go.Proofs.YtdjhmapmhajkcaaDoor.Pure

/- For any family and any word the addresses beside it, and the last one, are the document's. -/
import Derived.Test.YtamiaaeaehdahaaLw
import Derived.Test.YtamiaaeaehdahaaX22
namespace Go.Proofs.Ytamiaaeaehdahaa.Pure
open Go.RowKit Go.Proofs.Ytamiaaeaehdahaa.X Go.Proofs.YtamiaaeaehdahaaW.PrintWords Go.Proofs.Ytamiaaeaehdahaa.Th
theorem AddrBeside : turnpikelaw2_AddrBeside.Pure := by
  intro a0 a1_0 a1_1 _ h1 h2
  obtain ⟨w, hw, rfl, rfl⟩ := as_word h1 h2
  refine Ev.rounds ?_
  unfold turnpikelaw2_AddrBeside.f
  refine Ev.bind (pnext a0 w hw) (Ev.bind (pprev a0 w hw) (Ev.bind (plast a0) (Ev.bind (rnext a0 w hw) (Ev.bind (rprev a0 w hw) (Ev.bind (rlast a0) (Ev.bind known_f ?_))))))
  simp only [beq_self_eq_true, Bool.and_self, if_true]
  exact Ev.now _
end Go.Proofs.Ytamiaaeaehdahaa.Pure

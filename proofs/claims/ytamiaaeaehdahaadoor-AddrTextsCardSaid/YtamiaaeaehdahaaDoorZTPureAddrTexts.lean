/- For any family and any word the program's writer, its Right and the document's tell the same. -/
import Derived.Test.YtamiaaeaehdahaaDoorZTPt
import Derived.Test.YtamiaaeaehdahaaDoorZTX8
namespace Go.Proofs.YtamiaaeaehdahaaDoor.Pure
open Go.RowKit Go.Proofs.YtamiaaeaehdahaaDoor.X Go.Proofs.YtamiaaeaehdahaaDoorW.PrintWords Go.Proofs.YtamiaaeaehdahaaDoor.Th
set_option linter.unusedVariables false
theorem AddrTexts : turnpikelaw2_AddrTexts.Pure := by
  intro f a b _ h1 h2
  obtain ⟨w, hw, rfl, rfl⟩ := as_word h1 h2
  refine Ev.rounds ?_
  unfold turnpikelaw2_AddrTexts.f
  refine Ev.bind (ptext f w hw) (Ev.bind (rtext f w hw) (Ev.bind known_f ?_))
  simp only [if_true]
  refine Ev.bind (pright f w hw) (Ev.bind (rright f w hw) ?_)
  simp only [beq_self_eq_true]
  exact Ev.now _
end Go.Proofs.YtamiaaeaehdahaaDoor.Pure

-- Printed by a program of this session (xprint.py, over the kit's printer)
import Derived.Test.YtamiaaeaehdahaaX0
import Derived.Test.YtamiaaeaehdahaaShelf
namespace Go.Proofs.Ytamiaaeaehdahaa.X
open Go.RowKit Go.Proofs.YtamiaaeaehdahaaW.PrintWords Go.Proofs.YtamiaaeaehdahaaW.PrintLast Go.Proofs.YtamiaaeaehdahaaW.PrintMore
attribute [local go_sem] max2_int min2_int max_two min_two max_three min_three max_four min_four   -- for this text's walks alone
set_option linter.unusedVariables false
set_option linter.unusedSimpArgs false

/-! ### strings_Cut: function 49 -/
/-- strings.Cut, as the shelf's contract tells it; longer texts than the model's entries take: nothing is said. -/
def strings_Cut.f (a0 a1 : ByteArray) : Option (ByteArray × ByteArray × Bool) := if a0.size < 4294967281 then some (⟨(Go.Lib.cut a0.data.toList a1.data.toList).1.toArray⟩, ⟨(Go.Lib.cut a0.data.toList a1.data.toList).2.1.toArray⟩, (Go.Lib.cut a0.data.toList a1.data.toList).2.2) else none
theorem strings_Cut.calls (a0 a1 : ByteArray) (r1 : ByteArray) (r2 : ByteArray) (r3 : Bool) (w : World) (hML : MLOk w) (h : strings_Cut.f a0 a1 = some (r1, r2, r3)) :
    Calls Try.prog 49 #[.string a0, .string a1] w fun e w' => e = .returned (.tuple #[.string r1, .string r2, .bool r3]) ∧ Drawn0 w w' := by
  unfold strings_Cut.f at h
  split at h
  case isTrue hs =>
    obtain ⟨m, hm⟩ := hML
    cases h
    exact (Try.strings_Cut a0 a1 m w hs hm).mono fun e w' ⟨he, hw⟩ => ⟨he, ⟨hw⟩⟩
  case isFalse => cases h

end Go.Proofs.Ytamiaaeaehdahaa.X

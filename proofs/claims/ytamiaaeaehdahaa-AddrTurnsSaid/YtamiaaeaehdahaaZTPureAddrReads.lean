/- For any family and any text (of bulk at most 1048576) the program's reader and the document's tell the same. -/
import Derived.Test.YtamiaaeaehdahaaZTLr
import Derived.Test.YtamiaaeaehdahaaZTX7
namespace Go.Proofs.Ytamiaaeaehdahaa.Pure
open Go.RowKit Go.Proofs.Ytamiaaeaehdahaa.X Go.Proofs.YtamiaaeaehdahaaW.PrintWords Go.Proofs.Ytamiaaeaehdahaa.Th
theorem reads (a0 : Int) (a1 : ByteArray) (h : a1.size ≤ 2097152) : Ev (fun k => turnpikelaw2_AddrReads.f k a0 a1) true := by
  unfold turnpikelaw2_AddrReads.f
  refine Ev.bind (pparse a0 a1 h) (Ev.bind (rparse a0 a1 h) (Ev.bind known_f ?_))
  simp only [beq_self_eq_true, Bool.and_self, if_true]
  exact Ev.now _
end Go.Proofs.Ytamiaaeaehdahaa.Pure

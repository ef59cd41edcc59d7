-- Printed by a program of this session (xprint.py, over the kit's printer)
import Derived.Test.YtdjhmapmhajkcaaDoorProg
import Derived.Below
import Derived.Deep.Draws
import Derived.Deep.AppendLies
import Derived.Maps.AppendAt
import Derived.OwnWalk
import Derived.Laws.BytesArg
import Derived.Laws.MakeOwn
import Derived.Laws.OwnMore
import Derived.Deep.OwnRows
import Derived.Tactics
import Derived.Lib.ConvBytes
import Derived.Laws.Slices
import Derived.WalkKit
import Derived.KernelRfl
import Derived.RowKit3
import Derived.Deep.LoopGhost
import Derived.Deep.QuietTactic
import Derived.BigQuiet
import Derived.WideLaws
import Derived.Deep.DeepCutAuto
import Derived.Deep.CutBlock
import Derived.Deep.RegionHeld3
import Derived.Laws.Rows
import Derived.Lib.AppendStr
import Derived.ArgAppend
import Derived.Laws.IdiomCopy
import Derived.OrdersHeld
import Derived.Laws.BitsLemmas
import Derived.RowKit
import Derived.WalkMore
import Derived.Lib.AppendIntMem
import Derived.Lib.ItoaNum
import Derived.Lib.TrailingZeros
import Derived.Test.YtdjhmapmhajkcaaDoorZOWWords
import Derived.Test.YtdjhmapmhajkcaaDoorZOWLast
import Derived.Test.YtdjhmapmhajkcaaDoorZOWTab
import Derived.Test.YtdjhmapmhajkcaaDoorZOWEqStruct
import Derived.Test.YtdjhmapmhajkcaaDoorZOWRepsOne
import Derived.Test.YtdjhmapmhajkcaaDoorZOWGuard
import Derived.Test.YtdjhmapmhajkcaaDoorZOSm
namespace Go.Proofs.YtdjhmapmhajkcaaDoor.X
open Go.RowKit Go.Proofs.YtdjhmapmhajkcaaDoorW.PrintWords Go.Proofs.YtdjhmapmhajkcaaDoorW.PrintLast Go.Proofs.YtdjhmapmhajkcaaDoor.Sm
set_option linter.unusedVariables false
set_option linter.unusedSimpArgs false
def errW : Option Int → Value
  | none => .nilIface
  | some c => .iface 0 (.int .i64 c)
theorem errW_none : errW none = .nilIface := rfl
theorem errW_some (c : Int) : errW (some c) = .iface 0 (.int .i64 c) := rfl
structure MLOk (w : World) : Prop where
  ml : ∃ m : Int, w.cell? ⟨0, 0, none⟩ = some (.int .i64 m)
  p10 : Lib.TabIs Tryd.prog w "internal/strconv.uint64pow10" .u64 Lib.pow10Tab
  d64 : ∀ j, j < 64 → w.cell? ⟨3, j, none⟩ = some (.int .u8 (Lib.deBruijn64tab.getD j 0))
theorem MLOk.below {w w' : World} (h : MLOk w) (hb : Below w.heap.size w w') : MLOk w' := by
  obtain ⟨m, hm⟩ := h.ml
  exact ⟨⟨m, (hb.cell (World.block_lt_of_cell? w _ hm)).trans hm⟩, (Lib.tabBelow_of_tabIs h.p10) w' hb, fun j hj => (hb.cell (World.block_lt_of_cell? w _ (h.d64 j hj))).trans (h.d64 j hj)⟩
theorem MLOk.drew {w : World} (h : MLOk w) : MLOk w.drew := h.below (below_drew (Below.refl _ _))
theorem MLOk.drewN {w : World} (h : MLOk w) (n : Nat) : MLOk (w.drewN n) := h.below (pw_below_drewN (Below.refl _ _) n)
theorem MLOk.alloc {w : World} (h : MLOk w) (o : Obj) : MLOk (w.alloc o) := h.below (below_alloc (Below.refl _ _) o)
theorem isEmpty_bne (l : List UInt8) : (!l.isEmpty) = (l != []) := by cases l <;> rfl
theorem info9 : (Tryd.prog.info? 9).map (fun i => (i.zero, i.size, i.bytes)) = some (some (.string ⟨#[]⟩), 1, 16) := by kernel_rfl
theorem info22 : (Tryd.prog.info? 22).map (fun i => (i.zero, i.size, i.bytes)) = some (some (.int .u64 0), 1, 8) := by kernel_rfl
end Go.Proofs.YtdjhmapmhajkcaaDoor.X

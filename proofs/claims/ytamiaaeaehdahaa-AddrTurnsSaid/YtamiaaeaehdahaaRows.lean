/-
  No cell of these rows narrows 'for every input' (looked for: loops, veiled, ifaces, maps, wideKeys, modest, calm, conditions, laid).
  DERIVED. THE GIVEN ROWS OF THIS SEAT. 6 by the template 'for every input the law returns true; each argument reads behind the call as it read before'; 0 by the template 'total and deterministic' (their statements: YtamiaaeaehdahaaTotals.lean).
  GIVEN WITH THE SEED: the statements are not yours to turn. If you find one false, say at which input.
  Laid BY PROGRAM, IN A SANDBOX (cutbox-rows.mjs): the forced cells as the released guide's own fill.sh prints them over the translation 3af523803591a9af… (all of the seat's roots in one cut). By AI agents, Wed Nov 11 2026. No macro, syntax, notation, axiom, sorry.
-/
import Derived.Test.YtamiaaeaehdahaaChecked
import GoSem.Claim
import GoSem.ClaimJoined
import GoSem.ClaimMapViews
import Derived.JoinedTies
import Derived.KernelRfl
namespace Go.Proofs.Ytamiaaeaehdahaa
/- THE CELL 'sum', in the pinned program and in every row, IS THE sha256 OF THE DUMP (.gsa) THAT YtamiaaeaehdahaaProg.lean LOADS. Nothing in Lean hashes anything: it is a label: what it is worth is what the hold of that sum in a sandbox is worth. -/
noncomputable def Try.pinned : Pinned := { name := "ytamiaaeaehdahaa", sum := "3af523803591a9afa44ae2ee562edc4925cfa77e26347f14804bfac8043ad2f3", checked := Try.checked }
namespace Rows
def none {H : Type} : Left H := { results := [], args := [] }

/-- 'turnpikelaw2.AddrReads': WHATEVER THE INPUT: true; the input reads as it did. -/
def addrReadsSpec : ChangeSpec := { name := "addrReads", fn := fun _ => fun
  | [d1, d2] => { results := [.lit (.bool true)], args := [d1, d2] }
  | _ => none }
def addrReadsRow : OpenClaim := { program := "ytamiaaeaehdahaa", sum := "3af523803591a9afa44ae2ee562edc4925cfa77e26347f14804bfac8043ad2f3", func := "turnpike/turnpikelaw2.AddrReads", spec := "addrReads", inPlace := ["internal/bytealg.IndexByteString", "internal/bytealg.IndexString"], named := ["internal/bytealg.MaxLen"], apart := false }
def AddrReadsSaid : Prop := addrReadsRow.holds Try.pinned (OpenSpec.ofChange addrReadsSpec)

/-- ITS FALSE NEIGHBOUR: 'it returns false'. Refute it at one input. -/
def addrReadsWrong : ChangeSpec := { name := "addrReads", fn := fun _ => fun
  | [d1, d2] => { results := [.lit (.bool false)], args := [d1, d2] }
  | _ => none }
def AddrReadsWrongFalsely : Prop := addrReadsRow.holds Try.pinned (OpenSpec.ofChange addrReadsWrong)

/-- 'turnpikelaw2.AddrTurns': WHATEVER THE INPUT: true; the input reads as it did. -/
def addrTurnsSpec : ChangeSpec := { name := "addrTurns", fn := fun _ => fun
  | [d1, d2, d3, d4, d5, d6] => { results := [.lit (.bool true)], args := [d1, d2, d3, d4, d5, d6] }
  | _ => none }
def addrTurnsRow : OpenClaim := { program := "ytamiaaeaehdahaa", sum := "3af523803591a9afa44ae2ee562edc4925cfa77e26347f14804bfac8043ad2f3", func := "turnpike/turnpikelaw2.AddrTurns", spec := "addrTurns", inPlace := ["internal/bytealg.IndexByteString", "internal/bytealg.IndexString"], recurses := true, named := ["internal/bytealg.MaxLen"], apart := false }
def AddrTurnsSaid : Prop := addrTurnsRow.holds Try.pinned (OpenSpec.ofChange addrTurnsSpec)

/-- ITS FALSE NEIGHBOUR: 'it returns false'. Refute it at one input. -/
def addrTurnsWrong : ChangeSpec := { name := "addrTurns", fn := fun _ => fun
  | [d1, d2, d3, d4, d5, d6] => { results := [.lit (.bool false)], args := [d1, d2, d3, d4, d5, d6] }
  | _ => none }
def AddrTurnsWrongFalsely : Prop := addrTurnsRow.holds Try.pinned (OpenSpec.ofChange addrTurnsWrong)

/-- 'turnpikelaw2.AddrForms': WHATEVER THE INPUT: true; the input reads as it did. -/
def addrFormsSpec : ChangeSpec := { name := "addrForms", fn := fun _ => fun
  | [d1, d2, d3, d4, d5, d6] => { results := [.lit (.bool true)], args := [d1, d2, d3, d4, d5, d6] }
  | _ => none }
def addrFormsRow : OpenClaim := { program := "ytamiaaeaehdahaa", sum := "3af523803591a9afa44ae2ee562edc4925cfa77e26347f14804bfac8043ad2f3", func := "turnpike/turnpikelaw2.AddrForms", spec := "addrForms", inPlace := ["internal/bytealg.IndexByteString", "internal/bytealg.IndexString"], named := ["internal/bytealg.MaxLen"], apart := false }
def AddrFormsSaid : Prop := addrFormsRow.holds Try.pinned (OpenSpec.ofChange addrFormsSpec)

/-- ITS FALSE NEIGHBOUR: 'it returns false'. Refute it at one input. -/
def addrFormsWrong : ChangeSpec := { name := "addrForms", fn := fun _ => fun
  | [d1, d2, d3, d4, d5, d6] => { results := [.lit (.bool false)], args := [d1, d2, d3, d4, d5, d6] }
  | _ => none }
def AddrFormsWrongFalsely : Prop := addrFormsRow.holds Try.pinned (OpenSpec.ofChange addrFormsWrong)

/-- 'turnpikelaw2.AddrFour': WHATEVER THE INPUT: true; the input reads as it did. -/
def addrFourSpec : ChangeSpec := { name := "addrFour", fn := fun _ => fun
  | [d1, d2, d3, d4, d5] => { results := [.lit (.bool true)], args := [d1, d2, d3, d4, d5] }
  | _ => none }
def addrFourRow : OpenClaim := { program := "ytamiaaeaehdahaa", sum := "3af523803591a9afa44ae2ee562edc4925cfa77e26347f14804bfac8043ad2f3", func := "turnpike/turnpikelaw2.AddrFour", spec := "addrFour", inPlace := ["internal/bytealg.IndexByteString", "internal/bytealg.IndexString"], named := ["internal/bytealg.MaxLen"], apart := false }
def AddrFourSaid : Prop := addrFourRow.holds Try.pinned (OpenSpec.ofChange addrFourSpec)

/-- ITS FALSE NEIGHBOUR: 'it returns false'. Refute it at one input. -/
def addrFourWrong : ChangeSpec := { name := "addrFour", fn := fun _ => fun
  | [d1, d2, d3, d4, d5] => { results := [.lit (.bool false)], args := [d1, d2, d3, d4, d5] }
  | _ => none }
def AddrFourWrongFalsely : Prop := addrFourRow.holds Try.pinned (OpenSpec.ofChange addrFourWrong)

/-- 'turnpikelaw2.AddrBeside': WHATEVER THE INPUT: true; the input reads as it did. -/
def addrBesideSpec : ChangeSpec := { name := "addrBeside", fn := fun _ => fun
  | [d1, d2] => { results := [.lit (.bool true)], args := [d1, d2] }
  | _ => none }
def addrBesideRow : OpenClaim := { program := "ytamiaaeaehdahaa", sum := "3af523803591a9afa44ae2ee562edc4925cfa77e26347f14804bfac8043ad2f3", func := "turnpike/turnpikelaw2.AddrBeside", spec := "addrBeside", inPlace := ["math/bits.Add64", "math/bits.Sub64", "internal/bytealg.IndexByteString", "internal/bytealg.IndexString"], named := ["internal/bytealg.MaxLen"], apart := false }
def AddrBesideSaid : Prop := addrBesideRow.holds Try.pinned (OpenSpec.ofChange addrBesideSpec)

/-- ITS FALSE NEIGHBOUR: 'it returns false'. Refute it at one input. -/
def addrBesideWrong : ChangeSpec := { name := "addrBeside", fn := fun _ => fun
  | [d1, d2] => { results := [.lit (.bool false)], args := [d1, d2] }
  | _ => none }
def AddrBesideWrongFalsely : Prop := addrBesideRow.holds Try.pinned (OpenSpec.ofChange addrBesideWrong)

/-- 'turnpikelaw2.AddrWalk': WHATEVER THE INPUT: true; the input reads as it did. -/
def addrWalkSpec : ChangeSpec := { name := "addrWalk", fn := fun _ => fun
  | [d1, d2, d3] => { results := [.lit (.bool true)], args := [d1, d2, d3] }
  | _ => none }
def addrWalkRow : OpenClaim := { program := "ytamiaaeaehdahaa", sum := "3af523803591a9afa44ae2ee562edc4925cfa77e26347f14804bfac8043ad2f3", func := "turnpike/turnpikelaw2.AddrWalk", spec := "addrWalk", inPlace := ["internal/bytealg.IndexByteString", "internal/bytealg.IndexString", "math/bits.Add64", "math/bits.Sub64"], named := ["internal/bytealg.MaxLen"], apart := false }
def AddrWalkSaid : Prop := addrWalkRow.holds Try.pinned (OpenSpec.ofChange addrWalkSpec)

/-- ITS FALSE NEIGHBOUR: 'it returns false'. Refute it at one input. -/
def addrWalkWrong : ChangeSpec := { name := "addrWalk", fn := fun _ => fun
  | [d1, d2, d3] => { results := [.lit (.bool false)], args := [d1, d2, d3] }
  | _ => none }
def AddrWalkWrongFalsely : Prop := addrWalkRow.holds Try.pinned (OpenSpec.ofChange addrWalkWrong)

/- THE SECOND FORM. 'bulk': how many values and letters a reading holds, each counted each time it is reached (what is shared counts as often as it is met; a slice's spare places count too). A statement '..UptoSaid' is the law's where the arguments, and the package variables that the reading takes, are together of bulk at most 1048576: NARROWER than '..Said'. Prove '..Said' where nothing that the law and all that it calls make is longer than what came in: it says more and counts as full. Else prove '..UptoSaid'. A law counts once. -/
mutual
def uptoBulk {H : Type} : DataW H → Nat
  | .lit (.string bytes) => bytes.length + 1
  | .lit _ => 1
  | .nil => 1
  | .ptr d => uptoBulk d + 1
  | .slice elems spare => uptoBulkAll elems + uptoBulkAll spare + 1
  | .agg parts => uptoBulkAll parts + 1
  | .iface _ d => uptoBulk d + 1
  | .map entries => uptoBulkEntries entries + 1
  | .held _ => 1
def uptoBulkAll {H : Type} : List (DataW H) → Nat
  | [] => 0
  | d :: r => uptoBulk d + uptoBulkAll r
def uptoBulkEntries {H : Type} : List (Lit × DataW H) → Nat
  | [] => 0
  | x :: r => uptoBulkEntry x + uptoBulkEntries r
def uptoBulkEntry {H : Type} : Lit × DataW H → Nat
  | (.string bytes, d) => bytes.length + uptoBulk d + 1
  | (_, d) => uptoBulk d + 1
 end
def uptoSmall : (H : Type) → List (DataW H) → Bool := fun _ ds => decide (uptoBulkAll ds ≤ 1048576)
def OpenSpec.upto (s : _root_.Go.ChangeSpec) : _root_.Go.OpenSpec := { _root_.Go.OpenSpec.ofChange s with cond := some uptoSmall }

/-- 'turnpikelaw2.AddrReads', WHERE WHAT IT READS IS OF BULK AT MOST 1048576: true; the input reads as it did. -/
def addrReadsUptoRow : OpenClaim := { program := "ytamiaaeaehdahaa", sum := "3af523803591a9afa44ae2ee562edc4925cfa77e26347f14804bfac8043ad2f3", func := "turnpike/turnpikelaw2.AddrReads", spec := "addrReads", inPlace := ["internal/bytealg.IndexByteString", "internal/bytealg.IndexString"], named := ["internal/bytealg.MaxLen"], apart := false, narrowed := true }
def AddrReadsUptoSaid : Prop := addrReadsUptoRow.holds Try.pinned (OpenSpec.upto addrReadsSpec)

/-- 'turnpikelaw2.AddrTurns', WHERE WHAT IT READS IS OF BULK AT MOST 1048576: true; the input reads as it did. -/
def addrTurnsUptoRow : OpenClaim := { program := "ytamiaaeaehdahaa", sum := "3af523803591a9afa44ae2ee562edc4925cfa77e26347f14804bfac8043ad2f3", func := "turnpike/turnpikelaw2.AddrTurns", spec := "addrTurns", inPlace := ["internal/bytealg.IndexByteString", "internal/bytealg.IndexString"], recurses := true, named := ["internal/bytealg.MaxLen"], apart := false, narrowed := true }
def AddrTurnsUptoSaid : Prop := addrTurnsUptoRow.holds Try.pinned (OpenSpec.upto addrTurnsSpec)

/-- 'turnpikelaw2.AddrForms', WHERE WHAT IT READS IS OF BULK AT MOST 1048576: true; the input reads as it did. -/
def addrFormsUptoRow : OpenClaim := { program := "ytamiaaeaehdahaa", sum := "3af523803591a9afa44ae2ee562edc4925cfa77e26347f14804bfac8043ad2f3", func := "turnpike/turnpikelaw2.AddrForms", spec := "addrForms", inPlace := ["internal/bytealg.IndexByteString", "internal/bytealg.IndexString"], named := ["internal/bytealg.MaxLen"], apart := false, narrowed := true }
def AddrFormsUptoSaid : Prop := addrFormsUptoRow.holds Try.pinned (OpenSpec.upto addrFormsSpec)

/-- 'turnpikelaw2.AddrFour', WHERE WHAT IT READS IS OF BULK AT MOST 1048576: true; the input reads as it did. -/
def addrFourUptoRow : OpenClaim := { program := "ytamiaaeaehdahaa", sum := "3af523803591a9afa44ae2ee562edc4925cfa77e26347f14804bfac8043ad2f3", func := "turnpike/turnpikelaw2.AddrFour", spec := "addrFour", inPlace := ["internal/bytealg.IndexByteString", "internal/bytealg.IndexString"], named := ["internal/bytealg.MaxLen"], apart := false, narrowed := true }
def AddrFourUptoSaid : Prop := addrFourUptoRow.holds Try.pinned (OpenSpec.upto addrFourSpec)

/-- 'turnpikelaw2.AddrBeside', WHERE WHAT IT READS IS OF BULK AT MOST 1048576: true; the input reads as it did. -/
def addrBesideUptoRow : OpenClaim := { program := "ytamiaaeaehdahaa", sum := "3af523803591a9afa44ae2ee562edc4925cfa77e26347f14804bfac8043ad2f3", func := "turnpike/turnpikelaw2.AddrBeside", spec := "addrBeside", inPlace := ["math/bits.Add64", "math/bits.Sub64", "internal/bytealg.IndexByteString", "internal/bytealg.IndexString"], named := ["internal/bytealg.MaxLen"], apart := false, narrowed := true }
def AddrBesideUptoSaid : Prop := addrBesideUptoRow.holds Try.pinned (OpenSpec.upto addrBesideSpec)

/-- 'turnpikelaw2.AddrWalk', WHERE WHAT IT READS IS OF BULK AT MOST 1048576: true; the input reads as it did. -/
def addrWalkUptoRow : OpenClaim := { program := "ytamiaaeaehdahaa", sum := "3af523803591a9afa44ae2ee562edc4925cfa77e26347f14804bfac8043ad2f3", func := "turnpike/turnpikelaw2.AddrWalk", spec := "addrWalk", inPlace := ["internal/bytealg.IndexByteString", "internal/bytealg.IndexString", "math/bits.Add64", "math/bits.Sub64"], named := ["internal/bytealg.MaxLen"], apart := false, narrowed := true }
def AddrWalkUptoSaid : Prop := addrWalkUptoRow.holds Try.pinned (OpenSpec.upto addrWalkSpec)

end Rows
end Go.Proofs.Ytamiaaeaehdahaa

/-
  DERIVED. GIVEN WITH THE SEED: THE CARDS: each row of YtdjhmapmhajkcaaDoorRows.lean that lists a variable, with what it lists TIED to the program's text (the seventh form; the later family's looks); each row that meets fmt, with fmt's text TOLD by the authors' own Lean function (tested against real Go, not proved from fmt's source: count such statements apart). THE CARD IS WHAT COUNTS. Prove the row's statement (the work); the ties are given (YtdjhmapmhajkcaaDoorTie.lean); close each card by the builder's one call (the guide's Derived/Test/ToyasCard.lean, 'card_holds'). Laid BY PROGRAM, IN A SANDBOX (cutbox-door.mjs). By AI agents, Wed Nov 11 2026. No macro, syntax, notation, axiom, sorry.
-/
import Derived.Test.YtdjhmapmhajkcaaDoorRows
import GoSem.ClaimSeven
namespace Go.Proofs.YtdjhmapmhajkcaaDoor
namespace Rows

/-- THE TIED CARD OF 'turnpikelaw3.PrefixApart'. -/
def prefixApartCard : Claim7 := { stood := { row := prefixApartRow, standIns := [], harness := (true, "d3b910c0206d85a3ab95646d8567c17cf98ab8401d38a4c77ffc59445b2c2656"), looks := false }, kinds := [], alts := [], laidByText := true, laidKinds := [.data, .data, .data], laidTests := true, laidLooks := .later }
def PrefixApartCardSaid : Prop := Claim7.holds Tryd.pinned (.plain (OpenSpec.ofChange prefixApartSpec)) prefixApartCard

/-- THE TIED CARD OF 'turnpikelaw3.PrefixBack'. -/
def prefixBackCard : Claim7 := { stood := { row := prefixBackRow, standIns := [], harness := (true, "d3b910c0206d85a3ab95646d8567c17cf98ab8401d38a4c77ffc59445b2c2656"), looks := false }, kinds := [], alts := [], laidByText := true, laidKinds := [.data, .data, .data], laidTests := true, laidLooks := .later }
def PrefixBackCardSaid : Prop := Claim7.holds Tryd.pinned (.plain (OpenSpec.ofChange prefixBackSpec)) prefixBackCard

/-- THE TIED CARD OF 'turnpikelaw3.PrefixChecks'. -/
def prefixChecksCard : Claim7 := { stood := { row := prefixChecksRow, standIns := [], harness := (true, "d3b910c0206d85a3ab95646d8567c17cf98ab8401d38a4c77ffc59445b2c2656"), looks := false }, kinds := [], alts := [], laidByText := true, laidKinds := [.data, .data, .data], laidTests := true, laidLooks := .later }
def PrefixChecksCardSaid : Prop := Claim7.holds Tryd.pinned (.plain (OpenSpec.ofChange prefixChecksSpec)) prefixChecksCard

/-- THE TIED CARD OF 'turnpikelaw3.PrefixHalves'. -/
def prefixHalvesCard : Claim7 := { stood := { row := prefixHalvesRow, standIns := [], harness := (true, "d3b910c0206d85a3ab95646d8567c17cf98ab8401d38a4c77ffc59445b2c2656"), looks := false }, kinds := [], alts := [], laidByText := true, laidKinds := [.data, .data, .data], laidTests := true, laidLooks := .later }
def PrefixHalvesCardSaid : Prop := Claim7.holds Tryd.pinned (.plain (OpenSpec.ofChange prefixHalvesSpec)) prefixHalvesCard

/-- THE TIED CARD OF 'turnpikelaw3.PrefixHas'. -/
def prefixHasCard : Claim7 := { stood := { row := prefixHasRow, standIns := [], harness := (true, "d3b910c0206d85a3ab95646d8567c17cf98ab8401d38a4c77ffc59445b2c2656"), looks := false }, kinds := [], alts := [], laidByText := true, laidKinds := [.data, .data, .data], laidTests := true, laidLooks := .later }
def PrefixHasCardSaid : Prop := Claim7.holds Tryd.pinned (.plain (OpenSpec.ofChange prefixHasSpec)) prefixHasCard

/-- THE TIED CARD OF 'turnpikelaw3.PrefixKin'. -/
def prefixKinCard : Claim7 := { stood := { row := prefixKinRow, standIns := [], harness := (true, "d3b910c0206d85a3ab95646d8567c17cf98ab8401d38a4c77ffc59445b2c2656"), looks := false }, kinds := [], alts := [], laidByText := true, laidKinds := [.data, .data, .data], laidTests := true, laidLooks := .later }
def PrefixKinCardSaid : Prop := Claim7.holds Tryd.pinned (.plain (OpenSpec.ofChange prefixKinSpec)) prefixKinCard

/-- THE TIED CARD OF 'turnpikelaw3.PrefixMeets'. -/
def prefixMeetsCard : Claim7 := { stood := { row := prefixMeetsRow, standIns := [], harness := (true, "d3b910c0206d85a3ab95646d8567c17cf98ab8401d38a4c77ffc59445b2c2656"), looks := false }, kinds := [], alts := [], laidByText := true, laidKinds := [.data, .data, .data], laidTests := true, laidLooks := .later }
def PrefixMeetsCardSaid : Prop := Claim7.holds Tryd.pinned (.plain (OpenSpec.ofChange prefixMeetsSpec)) prefixMeetsCard

/-- THE TIED CARD OF 'turnpikelaw3.PrefixOrder'. -/
def prefixOrderCard : Claim7 := { stood := { row := prefixOrderRow, standIns := [], harness := (true, "d3b910c0206d85a3ab95646d8567c17cf98ab8401d38a4c77ffc59445b2c2656"), looks := false }, kinds := [], alts := [], laidByText := true, laidKinds := [.data, .data, .data], laidTests := true, laidLooks := .later }
def PrefixOrderCardSaid : Prop := Claim7.holds Tryd.pinned (.plain (OpenSpec.ofChange prefixOrderSpec)) prefixOrderCard

/-- THE TIED CARD OF 'turnpikelaw3.PrefixParts'. -/
def prefixPartsCard : Claim7 := { stood := { row := prefixPartsRow, standIns := [], harness := (true, "d3b910c0206d85a3ab95646d8567c17cf98ab8401d38a4c77ffc59445b2c2656"), looks := false }, kinds := [], alts := [], laidByText := true, laidKinds := [.data, .data, .data], laidTests := true, laidLooks := .later }
def PrefixPartsCardSaid : Prop := Claim7.holds Tryd.pinned (.plain (OpenSpec.ofChange prefixPartsSpec)) prefixPartsCard

/-- THE TIED CARD OF 'turnpikelaw3.PrefixReads'. -/
def prefixReadsCard : Claim7 := { stood := { row := prefixReadsRow, standIns := [], harness := (true, "d3b910c0206d85a3ab95646d8567c17cf98ab8401d38a4c77ffc59445b2c2656"), looks := false }, kinds := [], alts := [], laidByText := true, laidKinds := [.data, .data, .data], laidTests := true, laidLooks := .later }
def PrefixReadsCardSaid : Prop := Claim7.holds Tryd.pinned (.plain (OpenSpec.ofChange prefixReadsSpec)) prefixReadsCard

/-- THE TIED CARD OF 'turnpikelaw3.PrefixSplits'. -/
def prefixSplitsCard : Claim7 := { stood := { row := prefixSplitsRow, standIns := [], harness := (true, "d3b910c0206d85a3ab95646d8567c17cf98ab8401d38a4c77ffc59445b2c2656"), looks := false }, kinds := [], alts := [], laidByText := true, laidKinds := [.data, .data, .data], laidTests := true, laidLooks := .later }
def PrefixSplitsCardSaid : Prop := Claim7.holds Tryd.pinned (.plain (OpenSpec.ofChange prefixSplitsSpec)) prefixSplitsCard

/-- THE SECOND FORM's CARD OF 'turnpikelaw3.PrefixApart'. -/
def prefixApartUptoCard : Claim7 := { stood := { row := prefixApartUptoRow, standIns := [], harness := (true, "d3b910c0206d85a3ab95646d8567c17cf98ab8401d38a4c77ffc59445b2c2656"), looks := false }, kinds := [], alts := [], laidByText := true, laidKinds := [.data, .data, .data], laidTests := true, laidLooks := .later }
def PrefixApartUptoCardSaid : Prop := Claim7.holds Tryd.pinned (.plain (OpenSpec.upto prefixApartSpec)) prefixApartUptoCard

/-- THE SECOND FORM's CARD OF 'turnpikelaw3.PrefixBack'. -/
def prefixBackUptoCard : Claim7 := { stood := { row := prefixBackUptoRow, standIns := [], harness := (true, "d3b910c0206d85a3ab95646d8567c17cf98ab8401d38a4c77ffc59445b2c2656"), looks := false }, kinds := [], alts := [], laidByText := true, laidKinds := [.data, .data, .data], laidTests := true, laidLooks := .later }
def PrefixBackUptoCardSaid : Prop := Claim7.holds Tryd.pinned (.plain (OpenSpec.upto prefixBackSpec)) prefixBackUptoCard

/-- THE SECOND FORM's CARD OF 'turnpikelaw3.PrefixChecks'. -/
def prefixChecksUptoCard : Claim7 := { stood := { row := prefixChecksUptoRow, standIns := [], harness := (true, "d3b910c0206d85a3ab95646d8567c17cf98ab8401d38a4c77ffc59445b2c2656"), looks := false }, kinds := [], alts := [], laidByText := true, laidKinds := [.data, .data, .data], laidTests := true, laidLooks := .later }
def PrefixChecksUptoCardSaid : Prop := Claim7.holds Tryd.pinned (.plain (OpenSpec.upto prefixChecksSpec)) prefixChecksUptoCard

/-- THE SECOND FORM's CARD OF 'turnpikelaw3.PrefixHalves'. -/
def prefixHalvesUptoCard : Claim7 := { stood := { row := prefixHalvesUptoRow, standIns := [], harness := (true, "d3b910c0206d85a3ab95646d8567c17cf98ab8401d38a4c77ffc59445b2c2656"), looks := false }, kinds := [], alts := [], laidByText := true, laidKinds := [.data, .data, .data], laidTests := true, laidLooks := .later }
def PrefixHalvesUptoCardSaid : Prop := Claim7.holds Tryd.pinned (.plain (OpenSpec.upto prefixHalvesSpec)) prefixHalvesUptoCard

/-- THE SECOND FORM's CARD OF 'turnpikelaw3.PrefixHas'. -/
def prefixHasUptoCard : Claim7 := { stood := { row := prefixHasUptoRow, standIns := [], harness := (true, "d3b910c0206d85a3ab95646d8567c17cf98ab8401d38a4c77ffc59445b2c2656"), looks := false }, kinds := [], alts := [], laidByText := true, laidKinds := [.data, .data, .data], laidTests := true, laidLooks := .later }
def PrefixHasUptoCardSaid : Prop := Claim7.holds Tryd.pinned (.plain (OpenSpec.upto prefixHasSpec)) prefixHasUptoCard

/-- THE SECOND FORM's CARD OF 'turnpikelaw3.PrefixKin'. -/
def prefixKinUptoCard : Claim7 := { stood := { row := prefixKinUptoRow, standIns := [], harness := (true, "d3b910c0206d85a3ab95646d8567c17cf98ab8401d38a4c77ffc59445b2c2656"), looks := false }, kinds := [], alts := [], laidByText := true, laidKinds := [.data, .data, .data], laidTests := true, laidLooks := .later }
def PrefixKinUptoCardSaid : Prop := Claim7.holds Tryd.pinned (.plain (OpenSpec.upto prefixKinSpec)) prefixKinUptoCard

/-- THE SECOND FORM's CARD OF 'turnpikelaw3.PrefixMeets'. -/
def prefixMeetsUptoCard : Claim7 := { stood := { row := prefixMeetsUptoRow, standIns := [], harness := (true, "d3b910c0206d85a3ab95646d8567c17cf98ab8401d38a4c77ffc59445b2c2656"), looks := false }, kinds := [], alts := [], laidByText := true, laidKinds := [.data, .data, .data], laidTests := true, laidLooks := .later }
def PrefixMeetsUptoCardSaid : Prop := Claim7.holds Tryd.pinned (.plain (OpenSpec.upto prefixMeetsSpec)) prefixMeetsUptoCard

/-- THE SECOND FORM's CARD OF 'turnpikelaw3.PrefixOrder'. -/
def prefixOrderUptoCard : Claim7 := { stood := { row := prefixOrderUptoRow, standIns := [], harness := (true, "d3b910c0206d85a3ab95646d8567c17cf98ab8401d38a4c77ffc59445b2c2656"), looks := false }, kinds := [], alts := [], laidByText := true, laidKinds := [.data, .data, .data], laidTests := true, laidLooks := .later }
def PrefixOrderUptoCardSaid : Prop := Claim7.holds Tryd.pinned (.plain (OpenSpec.upto prefixOrderSpec)) prefixOrderUptoCard

/-- THE SECOND FORM's CARD OF 'turnpikelaw3.PrefixParts'. -/
def prefixPartsUptoCard : Claim7 := { stood := { row := prefixPartsUptoRow, standIns := [], harness := (true, "d3b910c0206d85a3ab95646d8567c17cf98ab8401d38a4c77ffc59445b2c2656"), looks := false }, kinds := [], alts := [], laidByText := true, laidKinds := [.data, .data, .data], laidTests := true, laidLooks := .later }
def PrefixPartsUptoCardSaid : Prop := Claim7.holds Tryd.pinned (.plain (OpenSpec.upto prefixPartsSpec)) prefixPartsUptoCard

/-- THE SECOND FORM's CARD OF 'turnpikelaw3.PrefixReads'. -/
def prefixReadsUptoCard : Claim7 := { stood := { row := prefixReadsUptoRow, standIns := [], harness := (true, "d3b910c0206d85a3ab95646d8567c17cf98ab8401d38a4c77ffc59445b2c2656"), looks := false }, kinds := [], alts := [], laidByText := true, laidKinds := [.data, .data, .data], laidTests := true, laidLooks := .later }
def PrefixReadsUptoCardSaid : Prop := Claim7.holds Tryd.pinned (.plain (OpenSpec.upto prefixReadsSpec)) prefixReadsUptoCard

/-- THE SECOND FORM's CARD OF 'turnpikelaw3.PrefixSplits'. -/
def prefixSplitsUptoCard : Claim7 := { stood := { row := prefixSplitsUptoRow, standIns := [], harness := (true, "d3b910c0206d85a3ab95646d8567c17cf98ab8401d38a4c77ffc59445b2c2656"), looks := false }, kinds := [], alts := [], laidByText := true, laidKinds := [.data, .data, .data], laidTests := true, laidLooks := .later }
def PrefixSplitsUptoCardSaid : Prop := Claim7.holds Tryd.pinned (.plain (OpenSpec.upto prefixSplitsSpec)) prefixSplitsUptoCard
end Rows
end Go.Proofs.YtdjhmapmhajkcaaDoor

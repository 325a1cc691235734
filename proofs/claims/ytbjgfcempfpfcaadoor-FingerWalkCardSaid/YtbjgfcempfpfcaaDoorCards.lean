/-
  DERIVED. GIVEN WITH THE SEED: THE CARDS: each row of YtbjgfcempfpfcaaDoorRows.lean that lists a variable, with what it lists TIED to the program's text (the seventh form; the later family's looks); each row that meets fmt, with fmt's text TOLD by the authors' own Lean function (tested against real Go, not proved from fmt's source: count such statements apart). THE CARD IS WHAT COUNTS. Prove the row's statement (the work); the ties are given (YtbjgfcempfpfcaaDoorTie.lean); close each card by the builder's one call (the guide's Derived/Test/ToyasCard.lean, 'card_holds'). Laid BY PROGRAM, IN A SANDBOX (cutbox-door.mjs). By AI agents, Wed Nov 11 2026. No macro, syntax, notation, axiom, sorry.
-/
import Derived.Test.YtbjgfcempfpfcaaDoorRows
import GoSem.ClaimSeven
namespace Go.Proofs.YtbjgfcempfpfcaaDoor
namespace Rows

/-- THE TIED CARD OF 'garlandlaw17.FingerTells'. -/
def fingerTellsCard : Claim7 := { stood := { row := fingerTellsRow, standIns := [], harness := (true, "7c286e8ac1e0f4d51d4494e44b8f4a09befcbe50b225904ffbaa660002eb7a98"), looks := false }, kinds := [], alts := [], laidByText := true, laidKinds := [.data], laidTests := true, laidLooks := .later }
def FingerTellsCardSaid : Prop := Claim7.holds Tryd.pinned (.plain (OpenSpec.ofChange fingerTellsSpec)) fingerTellsCard

/-- THE TIED CARD OF 'garlandlaw17.FingerWalk'. -/
def fingerWalkCard : Claim7 := { stood := { row := fingerWalkRow, standIns := [], harness := (true, "7c286e8ac1e0f4d51d4494e44b8f4a09befcbe50b225904ffbaa660002eb7a98"), looks := false }, kinds := [], alts := [], laidByText := true, laidKinds := [.data], laidTests := true, laidLooks := .later }
def FingerWalkCardSaid : Prop := Claim7.holds Tryd.pinned (.plain (OpenSpec.ofChange fingerWalkSpec)) fingerWalkCard

/-- THE TIED CARD OF 'garlandlaw17.FingerOnce'. -/
def fingerOnceCard : Claim7 := { stood := { row := fingerOnceRow, standIns := [], harness := (true, "7c286e8ac1e0f4d51d4494e44b8f4a09befcbe50b225904ffbaa660002eb7a98"), looks := false }, kinds := [], alts := [], laidByText := true, laidKinds := [.data], laidTests := true, laidLooks := .later }
def FingerOnceCardSaid : Prop := Claim7.holds Tryd.pinned (.plain (OpenSpec.ofChange fingerOnceSpec)) fingerOnceCard

/-- THE TIED CARD OF 'garlandlaw17.FingerSets'. -/
def fingerSetsCard : Claim7 := { stood := { row := fingerSetsRow, standIns := [], harness := (true, "7c286e8ac1e0f4d51d4494e44b8f4a09befcbe50b225904ffbaa660002eb7a98"), looks := false }, kinds := [], alts := [], laidByText := true, laidKinds := [.data], laidTests := true, laidLooks := .later }
def FingerSetsCardSaid : Prop := Claim7.holds Tryd.pinned (.plain (OpenSpec.ofChange fingerSetsSpec)) fingerSetsCard

/-- THE TIED CARD OF 'garlandlaw17.FingerTable'. -/
def fingerTableCard : Claim7 := { stood := { row := fingerTableRow, standIns := [], harness := (true, "7c286e8ac1e0f4d51d4494e44b8f4a09befcbe50b225904ffbaa660002eb7a98"), looks := false }, kinds := [], alts := [], laidByText := true, laidKinds := [.data], laidTests := true, laidLooks := .later }
def FingerTableCardSaid : Prop := Claim7.holds Tryd.pinned (.plain (OpenSpec.ofChange fingerTableSpec)) fingerTableCard

/-- THE TIED CARD OF 'garlandlaw26.IdealRing'. -/
def idealRingCard : Claim7 := { stood := { row := idealRingRow, standIns := [], harness := (true, "7c286e8ac1e0f4d51d4494e44b8f4a09befcbe50b225904ffbaa660002eb7a98"), looks := false }, kinds := [], alts := [], laidByText := true, laidKinds := [.data], laidTests := true, laidLooks := .later }
def IdealRingCardSaid : Prop := Claim7.holds Tryd.pinned (.plain (OpenSpec.ofChange idealRingSpec)) idealRingCard

/-- THE TIED CARD OF 'garlandlaw26.IdealOwner'. -/
def idealOwnerCard : Claim7 := { stood := { row := idealOwnerRow, standIns := [], harness := (true, "7c286e8ac1e0f4d51d4494e44b8f4a09befcbe50b225904ffbaa660002eb7a98"), looks := false }, kinds := [], alts := [], laidByText := true, laidKinds := [.data], laidTests := true, laidLooks := .later }
def IdealOwnerCardSaid : Prop := Claim7.holds Tryd.pinned (.plain (OpenSpec.ofChange idealOwnerSpec)) idealOwnerCard

/-- THE TIED CARD OF 'garlandlaw26.IdealView'. -/
def idealViewCard : Claim7 := { stood := { row := idealViewRow, standIns := [], harness := (true, "7c286e8ac1e0f4d51d4494e44b8f4a09befcbe50b225904ffbaa660002eb7a98"), looks := false }, kinds := [], alts := [], laidByText := true, laidKinds := [.data], laidTests := true, laidLooks := .later }
def IdealViewCardSaid : Prop := Claim7.holds Tryd.pinned (.plain (OpenSpec.ofChange idealViewSpec)) idealViewCard

/-- THE TIED CARD OF 'garlandlaw26.IdealMore'. -/
def idealMoreCard : Claim7 := { stood := { row := idealMoreRow, standIns := [], harness := (true, "7c286e8ac1e0f4d51d4494e44b8f4a09befcbe50b225904ffbaa660002eb7a98"), looks := false }, kinds := [], alts := [], laidByText := true, laidKinds := [.data], laidTests := true, laidLooks := .later }
def IdealMoreCardSaid : Prop := Claim7.holds Tryd.pinned (.plain (OpenSpec.ofChange idealMoreSpec)) idealMoreCard

/-- THE SECOND FORM's CARD OF 'garlandlaw17.FingerTells'. -/
def fingerTellsUptoCard : Claim7 := { stood := { row := fingerTellsUptoRow, standIns := [], harness := (true, "7c286e8ac1e0f4d51d4494e44b8f4a09befcbe50b225904ffbaa660002eb7a98"), looks := false }, kinds := [], alts := [], laidByText := true, laidKinds := [.data], laidTests := true, laidLooks := .later }
def FingerTellsUptoCardSaid : Prop := Claim7.holds Tryd.pinned (.plain (OpenSpec.upto fingerTellsSpec)) fingerTellsUptoCard

/-- THE SECOND FORM's CARD OF 'garlandlaw17.FingerWalk'. -/
def fingerWalkUptoCard : Claim7 := { stood := { row := fingerWalkUptoRow, standIns := [], harness := (true, "7c286e8ac1e0f4d51d4494e44b8f4a09befcbe50b225904ffbaa660002eb7a98"), looks := false }, kinds := [], alts := [], laidByText := true, laidKinds := [.data], laidTests := true, laidLooks := .later }
def FingerWalkUptoCardSaid : Prop := Claim7.holds Tryd.pinned (.plain (OpenSpec.upto fingerWalkSpec)) fingerWalkUptoCard

/-- THE SECOND FORM's CARD OF 'garlandlaw17.FingerOnce'. -/
def fingerOnceUptoCard : Claim7 := { stood := { row := fingerOnceUptoRow, standIns := [], harness := (true, "7c286e8ac1e0f4d51d4494e44b8f4a09befcbe50b225904ffbaa660002eb7a98"), looks := false }, kinds := [], alts := [], laidByText := true, laidKinds := [.data], laidTests := true, laidLooks := .later }
def FingerOnceUptoCardSaid : Prop := Claim7.holds Tryd.pinned (.plain (OpenSpec.upto fingerOnceSpec)) fingerOnceUptoCard

/-- THE SECOND FORM's CARD OF 'garlandlaw17.FingerSets'. -/
def fingerSetsUptoCard : Claim7 := { stood := { row := fingerSetsUptoRow, standIns := [], harness := (true, "7c286e8ac1e0f4d51d4494e44b8f4a09befcbe50b225904ffbaa660002eb7a98"), looks := false }, kinds := [], alts := [], laidByText := true, laidKinds := [.data], laidTests := true, laidLooks := .later }
def FingerSetsUptoCardSaid : Prop := Claim7.holds Tryd.pinned (.plain (OpenSpec.upto fingerSetsSpec)) fingerSetsUptoCard

/-- THE SECOND FORM's CARD OF 'garlandlaw17.FingerTable'. -/
def fingerTableUptoCard : Claim7 := { stood := { row := fingerTableUptoRow, standIns := [], harness := (true, "7c286e8ac1e0f4d51d4494e44b8f4a09befcbe50b225904ffbaa660002eb7a98"), looks := false }, kinds := [], alts := [], laidByText := true, laidKinds := [.data], laidTests := true, laidLooks := .later }
def FingerTableUptoCardSaid : Prop := Claim7.holds Tryd.pinned (.plain (OpenSpec.upto fingerTableSpec)) fingerTableUptoCard

/-- THE SECOND FORM's CARD OF 'garlandlaw26.IdealRing'. -/
def idealRingUptoCard : Claim7 := { stood := { row := idealRingUptoRow, standIns := [], harness := (true, "7c286e8ac1e0f4d51d4494e44b8f4a09befcbe50b225904ffbaa660002eb7a98"), looks := false }, kinds := [], alts := [], laidByText := true, laidKinds := [.data], laidTests := true, laidLooks := .later }
def IdealRingUptoCardSaid : Prop := Claim7.holds Tryd.pinned (.plain (OpenSpec.upto idealRingSpec)) idealRingUptoCard

/-- THE SECOND FORM's CARD OF 'garlandlaw26.IdealOwner'. -/
def idealOwnerUptoCard : Claim7 := { stood := { row := idealOwnerUptoRow, standIns := [], harness := (true, "7c286e8ac1e0f4d51d4494e44b8f4a09befcbe50b225904ffbaa660002eb7a98"), looks := false }, kinds := [], alts := [], laidByText := true, laidKinds := [.data], laidTests := true, laidLooks := .later }
def IdealOwnerUptoCardSaid : Prop := Claim7.holds Tryd.pinned (.plain (OpenSpec.upto idealOwnerSpec)) idealOwnerUptoCard

/-- THE SECOND FORM's CARD OF 'garlandlaw26.IdealView'. -/
def idealViewUptoCard : Claim7 := { stood := { row := idealViewUptoRow, standIns := [], harness := (true, "7c286e8ac1e0f4d51d4494e44b8f4a09befcbe50b225904ffbaa660002eb7a98"), looks := false }, kinds := [], alts := [], laidByText := true, laidKinds := [.data], laidTests := true, laidLooks := .later }
def IdealViewUptoCardSaid : Prop := Claim7.holds Tryd.pinned (.plain (OpenSpec.upto idealViewSpec)) idealViewUptoCard

/-- THE SECOND FORM's CARD OF 'garlandlaw26.IdealMore'. -/
def idealMoreUptoCard : Claim7 := { stood := { row := idealMoreUptoRow, standIns := [], harness := (true, "7c286e8ac1e0f4d51d4494e44b8f4a09befcbe50b225904ffbaa660002eb7a98"), looks := false }, kinds := [], alts := [], laidByText := true, laidKinds := [.data], laidTests := true, laidLooks := .later }
def IdealMoreUptoCardSaid : Prop := Claim7.holds Tryd.pinned (.plain (OpenSpec.upto idealMoreSpec)) idealMoreUptoCard
end Rows
end Go.Proofs.YtbjgfcempfpfcaaDoor

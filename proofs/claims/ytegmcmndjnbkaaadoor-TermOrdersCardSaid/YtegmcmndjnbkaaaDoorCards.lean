/-
  DERIVED. GIVEN WITH THE SEED: THE CARDS: each row of YtegmcmndjnbkaaaDoorRows.lean that lists a variable, with what it lists TIED to the program's text (the seventh form; the later family's looks); each row that meets fmt, with fmt's text TOLD by the authors' own Lean function (tested against real Go, not proved from fmt's source: count such statements apart). THE CARD IS WHAT COUNTS. Prove the row's statement (the work); the ties are given (YtegmcmndjnbkaaaDoorTie.lean); close each card by the builder's one call (the guide's Derived/Test/ToyasCard.lean, 'card_holds'). Laid BY PROGRAM, IN A SANDBOX (cutbox-door.mjs). By AI agents, Wed Nov 11 2026. No macro, syntax, notation, axiom, sorry.
-/
import Derived.Test.YtegmcmndjnbkaaaDoorRows
import GoSem.ClaimSeven
namespace Go.Proofs.YtegmcmndjnbkaaaDoor
namespace Rows

/-- THE TIED CARD OF 'rhizomelaw02.TermBounds'. -/
def termBoundsCard : Claim7 := { stood := { row := termBoundsRow, standIns := [], harness := (true, "2f2a3915920828c410758f2c94b8eb86bc0c77b53b96dfeb11b75246458a775e"), looks := false }, kinds := [], alts := [], laidByText := true, laidKinds := [.data, .pinned], laidTests := true, laidLooks := .later }
def TermBoundsCardSaid : Prop := Claim7.holds Tryd.pinned (.plain (OpenSpec.ofChange termBoundsSpec)) termBoundsCard

/-- THE TIED CARD OF 'rhizomelaw02.TermMays'. -/
def termMaysCard : Claim7 := { stood := { row := termMaysRow, standIns := [], harness := (true, "2f2a3915920828c410758f2c94b8eb86bc0c77b53b96dfeb11b75246458a775e"), looks := false }, kinds := [], alts := [], laidByText := true, laidKinds := [.data, .pinned], laidTests := true, laidLooks := .later }
def TermMaysCardSaid : Prop := Claim7.holds Tryd.pinned (.plain (OpenSpec.ofChange termMaysSpec)) termMaysCard

/-- THE TIED CARD OF 'rhizomelaw02.TermMeans'. -/
def termMeansCard : Claim7 := { stood := { row := termMeansRow, standIns := [], harness := (true, "2f2a3915920828c410758f2c94b8eb86bc0c77b53b96dfeb11b75246458a775e"), looks := false }, kinds := [], alts := [], laidByText := true, laidKinds := [.data, .pinned], laidTests := true, laidLooks := .later }
def TermMeansCardSaid : Prop := Claim7.holds Tryd.pinned (.plain (OpenSpec.ofChange termMeansSpec)) termMeansCard

/-- THE TIED CARD OF 'rhizomelaw02.TermSorts'. -/
def termSortsCard : Claim7 := { stood := { row := termSortsRow, standIns := [], harness := (true, "2f2a3915920828c410758f2c94b8eb86bc0c77b53b96dfeb11b75246458a775e"), looks := false }, kinds := [], alts := [], laidByText := true, laidKinds := [.data, .pinned], laidTests := true, laidLooks := .later }
def TermSortsCardSaid : Prop := Claim7.holds Tryd.pinned (.plain (OpenSpec.ofChange termSortsSpec)) termSortsCard

/-- THE TIED CARD OF 'rhizomelaw02.TermOrders'. -/
def termOrdersCard : Claim7 := { stood := { row := termOrdersRow, standIns := [], harness := (true, "2f2a3915920828c410758f2c94b8eb86bc0c77b53b96dfeb11b75246458a775e"), looks := false }, kinds := [], alts := [], laidByText := true, laidKinds := [.data, .pinned], laidTests := true, laidLooks := .later }
def TermOrdersCardSaid : Prop := Claim7.holds Tryd.pinned (.plain (OpenSpec.ofChange termOrdersSpec)) termOrdersCard

/-- THE SECOND FORM's CARD OF 'rhizomelaw02.TermBounds'. -/
def termBoundsUptoCard : Claim7 := { stood := { row := termBoundsUptoRow, standIns := [], harness := (true, "2f2a3915920828c410758f2c94b8eb86bc0c77b53b96dfeb11b75246458a775e"), looks := false }, kinds := [], alts := [], laidByText := true, laidKinds := [.data, .pinned], laidTests := true, laidLooks := .later }
def TermBoundsUptoCardSaid : Prop := Claim7.holds Tryd.pinned (.plain (OpenSpec.upto termBoundsSpec)) termBoundsUptoCard

/-- THE SECOND FORM's CARD OF 'rhizomelaw02.TermMays'. -/
def termMaysUptoCard : Claim7 := { stood := { row := termMaysUptoRow, standIns := [], harness := (true, "2f2a3915920828c410758f2c94b8eb86bc0c77b53b96dfeb11b75246458a775e"), looks := false }, kinds := [], alts := [], laidByText := true, laidKinds := [.data, .pinned], laidTests := true, laidLooks := .later }
def TermMaysUptoCardSaid : Prop := Claim7.holds Tryd.pinned (.plain (OpenSpec.upto termMaysSpec)) termMaysUptoCard

/-- THE SECOND FORM's CARD OF 'rhizomelaw02.TermMeans'. -/
def termMeansUptoCard : Claim7 := { stood := { row := termMeansUptoRow, standIns := [], harness := (true, "2f2a3915920828c410758f2c94b8eb86bc0c77b53b96dfeb11b75246458a775e"), looks := false }, kinds := [], alts := [], laidByText := true, laidKinds := [.data, .pinned], laidTests := true, laidLooks := .later }
def TermMeansUptoCardSaid : Prop := Claim7.holds Tryd.pinned (.plain (OpenSpec.upto termMeansSpec)) termMeansUptoCard

/-- THE SECOND FORM's CARD OF 'rhizomelaw02.TermSorts'. -/
def termSortsUptoCard : Claim7 := { stood := { row := termSortsUptoRow, standIns := [], harness := (true, "2f2a3915920828c410758f2c94b8eb86bc0c77b53b96dfeb11b75246458a775e"), looks := false }, kinds := [], alts := [], laidByText := true, laidKinds := [.data, .pinned], laidTests := true, laidLooks := .later }
def TermSortsUptoCardSaid : Prop := Claim7.holds Tryd.pinned (.plain (OpenSpec.upto termSortsSpec)) termSortsUptoCard

/-- THE SECOND FORM's CARD OF 'rhizomelaw02.TermOrders'. -/
def termOrdersUptoCard : Claim7 := { stood := { row := termOrdersUptoRow, standIns := [], harness := (true, "2f2a3915920828c410758f2c94b8eb86bc0c77b53b96dfeb11b75246458a775e"), looks := false }, kinds := [], alts := [], laidByText := true, laidKinds := [.data, .pinned], laidTests := true, laidLooks := .later }
def TermOrdersUptoCardSaid : Prop := Claim7.holds Tryd.pinned (.plain (OpenSpec.upto termOrdersSpec)) termOrdersUptoCard
end Rows
end Go.Proofs.YtegmcmndjnbkaaaDoor

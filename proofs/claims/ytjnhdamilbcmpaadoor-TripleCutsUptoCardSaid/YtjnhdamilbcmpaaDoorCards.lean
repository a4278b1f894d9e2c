/-
  DERIVED. GIVEN WITH THE SEED: THE CARDS: each row of YtjnhdamilbcmpaaDoorRows.lean that lists a variable, with what it lists TIED to the program's text (the seventh form; the later family's looks); each row that meets fmt, with fmt's text TOLD by the authors' own Lean function (tested against real Go, not proved from fmt's source: count such statements apart). THE CARD IS WHAT COUNTS. Prove the row's statement (the work); the ties are given (YtjnhdamilbcmpaaDoorTie.lean); close each card by the builder's one call (the guide's Derived/Test/ToyasCard.lean, 'card_holds'). Laid BY PROGRAM, IN A SANDBOX (cutbox-door.mjs). By AI agents, Wed Nov 11 2026. No macro, syntax, notation, axiom, sorry.
-/
import Derived.Test.YtjnhdamilbcmpaaDoorRows
import GoSem.ClaimSeven
namespace Go.Proofs.YtjnhdamilbcmpaaDoor
namespace Rows

/-- THE TIED CARD OF 'rhizomelaw05.TripleMeans'. -/
def tripleMeansCard : Claim7 := { stood := { row := tripleMeansRow, standIns := [], harness := (true, "3b74f657595162979b1995dc4232d878d394c59233762351a3b030c6520cacd3"), looks := true }, kinds := [], alts := [], laidByText := true, laidKinds := [.data, .pinned], laidTests := true, laidLooks := .later }
def TripleMeansCardSaid : Prop := Claim7.holds Tryd.pinned (.plain (OpenSpec.ofChange tripleMeansSpec)) tripleMeansCard

/-- THE TIED CARD OF 'rhizomelaw05.TripleCuts'. -/
def tripleCutsCard : Claim7 := { stood := { row := tripleCutsRow, standIns := [], harness := (true, "3b74f657595162979b1995dc4232d878d394c59233762351a3b030c6520cacd3"), looks := true }, kinds := [], alts := [], laidByText := true, laidKinds := [.data, .pinned], laidTests := true, laidLooks := .later }
def TripleCutsCardSaid : Prop := Claim7.holds Tryd.pinned (.plain (OpenSpec.ofChange tripleCutsSpec)) tripleCutsCard

/-- THE SECOND FORM's CARD OF 'rhizomelaw05.TripleMeans'. -/
def tripleMeansUptoCard : Claim7 := { stood := { row := tripleMeansUptoRow, standIns := [], harness := (true, "3b74f657595162979b1995dc4232d878d394c59233762351a3b030c6520cacd3"), looks := true }, kinds := [], alts := [], laidByText := true, laidKinds := [.data, .pinned], laidTests := true, laidLooks := .later }
def TripleMeansUptoCardSaid : Prop := Claim7.holds Tryd.pinned (.plain (OpenSpec.upto tripleMeansSpec)) tripleMeansUptoCard

/-- THE SECOND FORM's CARD OF 'rhizomelaw05.TripleCuts'. -/
def tripleCutsUptoCard : Claim7 := { stood := { row := tripleCutsUptoRow, standIns := [], harness := (true, "3b74f657595162979b1995dc4232d878d394c59233762351a3b030c6520cacd3"), looks := true }, kinds := [], alts := [], laidByText := true, laidKinds := [.data, .pinned], laidTests := true, laidLooks := .later }
def TripleCutsUptoCardSaid : Prop := Claim7.holds Tryd.pinned (.plain (OpenSpec.upto tripleCutsSpec)) tripleCutsUptoCard
end Rows
end Go.Proofs.YtjnhdamilbcmpaaDoor

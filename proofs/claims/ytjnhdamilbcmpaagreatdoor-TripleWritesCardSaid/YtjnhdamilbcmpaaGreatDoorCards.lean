/-
  DERIVED. GIVEN WITH THE SEED: THE CARDS: each row of YtjnhdamilbcmpaaGreatDoorRows.lean that lists a variable, with what it lists TIED to the program's text (the seventh form; the later family's looks); each row that meets fmt, with fmt's text TOLD by the authors' own Lean function (tested against real Go, not proved from fmt's source: count such statements apart). THE CARD IS WHAT COUNTS. Prove the row's statement (the work); the ties are given (YtjnhdamilbcmpaaGreatDoorTie.lean); close each card by the builder's one call (the guide's Derived/Test/ToyasCard.lean, 'card_holds'). Laid BY PROGRAM, IN A SANDBOX (cutbox-door.mjs). By AI agents, Wed Nov 11 2026. No macro, syntax, notation, axiom, sorry.
-/
import Derived.Test.YtjnhdamilbcmpaaGreatDoorRows
import GoSem.ClaimSeven
namespace Go.Proofs.YtjnhdamilbcmpaaGreatDoor
namespace Rows

/-- THE TIED CARD OF 'rhizomelaw05.TripleReads'. -/
def tripleReadsCard : Claim7 := { stood := { row := tripleReadsRow, standIns := [], harness := (true, "ef9ec14393c6bb6301b15ae460185d9d2bf1669247ac096d454e2becf535f3f6"), looks := true }, kinds := [], alts := [], laidByText := true, laidKinds := [.data, .pinned], laidTests := true, laidLooks := .later }
def TripleReadsCardSaid : Prop := Claim7.holds Tryz.pinned (.plain (OpenSpec.ofChange tripleReadsSpec)) tripleReadsCard

/-- THE TIED CARD OF 'rhizomelaw05.TripleWrites'. -/
def tripleWritesCard : Claim7 := { stood := { row := tripleWritesRow, standIns := [], harness := (true, "ef9ec14393c6bb6301b15ae460185d9d2bf1669247ac096d454e2becf535f3f6"), looks := true }, kinds := [], alts := [], laidByText := true, laidKinds := [.data, .pinned], laidTests := true, laidLooks := .later }
def TripleWritesCardSaid : Prop := Claim7.holds Tryz.pinned (.plain (OpenSpec.ofChange tripleWritesSpec)) tripleWritesCard

/-- THE SECOND FORM's CARD OF 'rhizomelaw05.TripleReads'. -/
def tripleReadsUptoCard : Claim7 := { stood := { row := tripleReadsUptoRow, standIns := [], harness := (true, "ef9ec14393c6bb6301b15ae460185d9d2bf1669247ac096d454e2becf535f3f6"), looks := true }, kinds := [], alts := [], laidByText := true, laidKinds := [.data, .pinned], laidTests := true, laidLooks := .later }
def TripleReadsUptoCardSaid : Prop := Claim7.holds Tryz.pinned (.plain (OpenSpec.upto tripleReadsSpec)) tripleReadsUptoCard

/-- THE SECOND FORM's CARD OF 'rhizomelaw05.TripleWrites'. -/
def tripleWritesUptoCard : Claim7 := { stood := { row := tripleWritesUptoRow, standIns := [], harness := (true, "ef9ec14393c6bb6301b15ae460185d9d2bf1669247ac096d454e2becf535f3f6"), looks := true }, kinds := [], alts := [], laidByText := true, laidKinds := [.data, .pinned], laidTests := true, laidLooks := .later }
def TripleWritesUptoCardSaid : Prop := Claim7.holds Tryz.pinned (.plain (OpenSpec.upto tripleWritesSpec)) tripleWritesUptoCard
end Rows
end Go.Proofs.YtjnhdamilbcmpaaGreatDoor

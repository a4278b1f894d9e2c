/-
  DERIVED. GIVEN WITH THE SEED: THE CARDS: each row of YtpbphelaeleikaaGreatDoorRows.lean that lists a variable, with what it lists TIED to the program's text (the seventh form; the later family's looks); each row that meets fmt, with fmt's text TOLD by the authors' own Lean function (tested against real Go, not proved from fmt's source: count such statements apart). THE CARD IS WHAT COUNTS. Prove the row's statement (the work); the ties are given (YtpbphelaeleikaaGreatDoorTie.lean); close each card by the builder's one call (the guide's Derived/Test/ToyasCard.lean, 'card_holds'). Laid BY PROGRAM, IN A SANDBOX (cutbox-door.mjs). By AI agents, Wed Nov 11 2026. No macro, syntax, notation, axiom, sorry.
-/
import Derived.Test.YtpbphelaeleikaaGreatDoorRows
import GoSem.ClaimSeven
namespace Go.Proofs.YtpbphelaeleikaaGreatDoor
namespace Rows

/-- THE TIED CARD OF 'rhizomelaw04.LexTerms'. -/
def lexTermsCard : Claim7 := { stood := { row := lexTermsRow, standIns := [], harness := (true, "c234f54f92d9f0811532628141af94ec3b7d505bd69b8a728807a3f240e558ef"), looks := true }, kinds := [], alts := [], laidByText := true, laidKinds := [.data, .data, .data, .pinned, .pinned], laidTests := true, laidLooks := .later }
def LexTermsCardSaid : Prop := Claim7.holds Tryz.pinned (.plain (OpenSpec.ofChange lexTermsSpec)) lexTermsCard

/-- THE SECOND FORM's CARD OF 'rhizomelaw04.LexTerms'. -/
def lexTermsUptoCard : Claim7 := { stood := { row := lexTermsUptoRow, standIns := [], harness := (true, "c234f54f92d9f0811532628141af94ec3b7d505bd69b8a728807a3f240e558ef"), looks := true }, kinds := [], alts := [], laidByText := true, laidKinds := [.data, .data, .data, .pinned, .pinned], laidTests := true, laidLooks := .later }
def LexTermsUptoCardSaid : Prop := Claim7.holds Tryz.pinned (.plain (OpenSpec.upto lexTermsSpec)) lexTermsUptoCard
end Rows
end Go.Proofs.YtpbphelaeleikaaGreatDoor

/- TermBounds: texts at their bounds may be terms, and those past them may not; for the one closed input, under the card's own conditions. -/
import Derived.Test.YtegmcmndjnbkaaaDoorRows
import Derived.Test.YtegmcmndjnbkaaaDoorTie
import Derived.Test.YtegmcmndjnbkaaaDoorCards
import Derived.Test.YtegmcmndjnbkaaaDoorBaPTermx0
import Derived.Test.YtegmcmndjnbkaaaDoorBaPTermx1
import Derived.Test.YtegmcmndjnbkaaaDoorBaPTermx2
import Derived.Test.YtegmcmndjnbkaaaDoorBaPTermx3
import Derived.Test.YtegmcmndjnbkaaaDoorBaPTermx4
import Derived.Test.YtegmcmndjnbkaaaDoorBaPTermx5
import Derived.Test.YtegmcmndjnbkaaaDoorBaPTermx6
import Derived.Test.YtegmcmndjnbkaaaDoorBaPureTermBounds
import Derived.WalkKit
import Derived.ProofKit
import Derived.OpenShut
import Derived.ChangeOld
import Derived.Below
import Derived.LaidMore
import Derived.Lay
import Derived.Stop.Joined
import Derived.SevenTiedAt
namespace Go.Proofs.YtegmcmndjnbkaaaDoor.termBounds
open Go.ChangeShapes Go.WideShapes Go.ChangeAt Go.WideMaps Go.WideElems Go.RowKit
set_option linter.unusedVariables false
theorem own : ownKnob Tryd.prog.godebug = none := by kernel_rfl
set_option maxRecDepth 100000 in
theorem lifted (os : Os) (started : os.Started) (H : Type) (enc : TypeId × Value → H) :
    ReturnsInHanded {} Tryd.checked os 3 .any (fun w args => (Rows.termBoundsSpec.pre enc Tryd.prog Tryd.f3 [] false w args ∧ laidMetH Tryd.prog Rows.termBoundsRow.laid w) ∧ sizedMet enc Tryd.prog Tryd.f3 (OpenSpec.ofChange Rows.termBoundsSpec) false w args)
      (Rows.termBoundsSpec.post enc Tryd.prog Tryd.f3 false true false false) := by
  refine returnsInHanded_of_change_and (C := Tryd.checked) (X := fun w _ => laidMetH Tryd.prog Rows.termBoundsRow.laid w) (fun _ _ _ hh h => h.of_heap hh) own started (by kernel_rfl) Tryd.func3
    (ChangeSpec.witness_shaped (enc := enc) (C := Tryd.checked) (os := os) (X := fun w _ => laidMetH Tryd.prog Rows.termBoundsRow.laid w) false (World.laidAll Tryd.prog os Rows.termBoundsRow.laid) #[] 8 (World.laidAll_os _ _ _)
      (World.shaped_of_ZipB (by kernel_rfl) (by kernel_rfl)) (by kernel_rfl) (by kernel_rfl) (by kernel_rfl)
      (by rw [MakeChecks.laidMetH_plain _ _ _ (by kernel_rfl)]; exact laidMet_laidAll _ (by kernel_rfl) (by kernel_rfl))) ?_
  intro W base args ds gs before hval0 hW _ _ hL _
  have hW' := hW
  obtain ⟨p, q, hA0, hV, rfl, hfz, hnd⟩ := hW
  have hA : DataW.TrodAll enc Tryd.prog W 0 (fun _ => true) true Tryd.f3.params.toList args.toList ds p := hA0
  rw [Tryd.params3] at hA
  obtain ⟨rfl, rfl, rfl⟩ := trodAll_none hA
  obtain ⟨rfl, rfl⟩ := trodVars_none hV
  clear hA0 hval0
  refine (PTerm.rhizomelaw02_TermBounds.walk Pure.TermBounds W).mono fun e W' ⟨he, bel⟩ => ?_
  subst he
  exact ⟨_, rfl, _, _, _, [], _, [], hW', trodAll_mk1 (shut_bool Tryd.underlying4 _), trodAll_mk0, rfl, bel.frame _, fun h => by cases h⟩
theorem over : Rows.termBoundsRow.holds Tryd.pinned (OpenSpec.ofChange Rows.termBoundsSpec) :=
  OpenClaim.holds_of_wide 3 Tryd.f3 rfl rfl rfl rfl rfl rfl rfl ⟨rfl, rfl, rfl, rfl, rfl⟩ rfl rfl rfl rfl rfl (by kernel_rfl) Tryd.func3 (by kernel_rfl)
    (of_decide_eq_true (by kernel_rfl)) (by unfold Func.isWrapper; first | (rw [if_pos (by decide +kernel)]; kernel_rfl) | (rw [if_neg (by decide +kernel)]; exact ⟨rfl, rfl⟩))
    (fun os started H enc _ => lifted os started H enc)
theorem card_holds : Rows.TermBoundsCardSaid :=
  Claim7.holds_tied_plain_at .later [] [.data, .pinned] true (true, "2f2a3915920828c410758f2c94b8eb86bc0c77b53b96dfeb11b75246458a775e") false
    over (fun _ h => by cases h) (by kernel_rfl) (fun _ h => by cases h) termBounds_row_tie rfl ⟨rfl, rfl⟩ (by kernel_rfl) rfl
    (fun f fn hf hfn => by
      obtain rfl : f = 3 := Option.some.inj ((show Tryd.prog.funcNamed "rhizome/rhizomelaw02.TermBounds" = some 3 by kernel_rfl).symm.trans hf) |>.symm
      obtain rfl : fn = Tryd.f3 := (Option.some.inj (Tryd.func3.symm.trans hfn)).symm
      exact ⟨by kernel_rfl, fun j t ht => by
        rw [Tryd.params3] at ht
        simp at ht⟩)
    (by kernel_rfl)
end Go.Proofs.YtegmcmndjnbkaaaDoor.termBounds
namespace Go.Proofs.YtegmcmndjnbkaaaDoor
theorem termBounds_card : Rows.TermBoundsCardSaid := termBounds.card_holds
end Go.Proofs.YtegmcmndjnbkaaaDoor
#print axioms Go.Proofs.YtegmcmndjnbkaaaDoor.termBounds_card

/- TripleWrites: triples' text is the chapter's, or refused; for every list of triples, under the card's own conditions. -/
import Derived.Test.YtjnhdamilbcmpaaGreatDoorRows
import Derived.Test.YtjnhdamilbcmpaaGreatDoorTie
import Derived.Test.YtjnhdamilbcmpaaGreatDoorCards
import Derived.Test.YtjnhdamilbcmpaaGreatDoorWrPWritx0
import Derived.Test.YtjnhdamilbcmpaaGreatDoorWrPWritx1
import Derived.Test.YtjnhdamilbcmpaaGreatDoorWrPWritx2
import Derived.Test.YtjnhdamilbcmpaaGreatDoorWrPWritx3
import Derived.Test.YtjnhdamilbcmpaaGreatDoorWrPWritx4
import Derived.Test.YtjnhdamilbcmpaaGreatDoorWrPWritx5
import Derived.Test.YtjnhdamilbcmpaaGreatDoorWrPWritx6
import Derived.Test.YtjnhdamilbcmpaaGreatDoorWrPWritx7
import Derived.Test.YtjnhdamilbcmpaaGreatDoorWrPWritx8
import Derived.Test.YtjnhdamilbcmpaaGreatDoorWrPWritx9
import Derived.Test.YtjnhdamilbcmpaaGreatDoorWrPWritx10
import Derived.Test.YtjnhdamilbcmpaaGreatDoorWrPWritx11
import Derived.Test.YtjnhdamilbcmpaaGreatDoorWrPWritx12
import Derived.Test.YtjnhdamilbcmpaaGreatDoorWrPWritx13
import Derived.Test.YtjnhdamilbcmpaaGreatDoorWrPWritx14
import Derived.Test.YtjnhdamilbcmpaaGreatDoorWrPWritx15
import Derived.Test.YtjnhdamilbcmpaaGreatDoorWrPWritx16
import Derived.Test.YtjnhdamilbcmpaaGreatDoorWrPWritx17
import Derived.Test.YtjnhdamilbcmpaaGreatDoorWrPureLawWrites
import Derived.Test.YtjnhdamilbcmpaaGreatDoorWrRowTriples
import Derived.WalkKit
import Derived.LaidMore
import Derived.Lay
import Derived.Stop.Joined
import Derived.SevenTiedAt
namespace Go.Proofs.YtjnhdamilbcmpaaGreatDoor.tripleWrites
open Go.ChangeShapes Go.WideShapes Go.ChangeAt Go.WideMaps Go.WideElems Go.RowKit
set_option linter.unusedVariables false
theorem own : ownKnob Tryz.prog.godebug = none := by kernel_rfl
theorem laidOut : laidOutB Tryz.prog = true := by kernel_rfl
set_option maxRecDepth 100000 in
theorem lifted (os : Os) (started : os.Started) (H : Type) (enc : TypeId × Value → H) :
    ReturnsInHanded {} Tryz.checked os 4 .any (fun w args => (Rows.tripleWritesSpec.pre enc Tryz.prog Tryz.f4 [] false w args ∧ laidMetH Tryz.prog Rows.tripleWritesRow.laid w) ∧ sizedMet enc Tryz.prog Tryz.f4 (OpenSpec.ofChange Rows.tripleWritesSpec) false w args)
      (Rows.tripleWritesSpec.post enc Tryz.prog Tryz.f4 false true false false) := by
  refine returnsInHanded_of_change_and (C := Tryz.checked) (X := fun w _ => laidMetH Tryz.prog Rows.tripleWritesRow.laid w) (fun _ _ _ hh h => h.of_heap hh) own started (by kernel_rfl) Tryz.func4
    (ChangeSpec.witness_shaped (enc := enc) (C := Tryz.checked) (os := os) (X := fun w _ => laidMetH Tryz.prog Rows.tripleWritesRow.laid w) false (World.laidAll Tryz.prog os Rows.tripleWritesRow.laid) #[.slice none 0 0] 8 (World.laidAll_os _ _ _)
      (World.shaped_of_ZipB (by kernel_rfl) (by kernel_rfl)) (by kernel_rfl) (by kernel_rfl) (by kernel_rfl)
      (by rw [MakeChecks.laidMetH_plain _ _ _ (by kernel_rfl)]; exact laidMet_laidAll _ (by kernel_rfl) (by kernel_rfl))) ?_
  intro W base args ds gs before hval0 hW _ _ hL _
  have hval : ∀ (j : Nat) t v, Tryz.f4.params[j]? = some t → args[j]? = some v → Value.okWide Tryz.prog W .any base t v := hval0
  have hW' := hW
  obtain ⟨p, q, hA0, hV, rfl, hfz, hnd⟩ := hW
  have hA : DataW.TrodAll enc Tryz.prog W 0 (fun _ => true) true Tryz.f4.params.toList args.toList ds p := hA0
  rw [Tryz.params4] at hA hval
  obtain ⟨v0, vs0, d0, ds0, p0, q0, hargs, rfl, rfl, h0, r0⟩ := trodAll_cons hA
  obtain ⟨rfl, rfl, rfl⟩ := trodAll_nil r0
  obtain rfl : args = #[v0] := by cases args; simp_all
  obtain ⟨rfl, rfl⟩ := trodVars_none hV
  have k0 := h0
  have lt0 : ∀ x ∈ p0, x.block < W.heap.size := by obtain ⟨m, hm⟩ := k0; exact DataW.trod_lt m _ _ _ hm
  obtain ⟨A0, c0, l0, rfl, hc0, hC0⟩ := open_triples (hval 0 23 v0 rfl rfl) h0
  clear hA0 hval0
  obtain ⟨k, hk⟩ := PWrit.tripleWrites_pure l0
  refine (PWrit.rhizomelaw05_TripleWrites.calls k A0 c0 l0 true W hC0 hc0 hk).mono fun e W' ⟨he, bel⟩ => ?_
  subst he
  exact ⟨_, rfl, _, _, _, [], _, [], hW', trodAll_mk1 (shut_bool Tryz.underlying4 _), trodAll_cons_mk (Below.trod laidOut (by kernel_rfl) (of_decide_eq_true (by kernel_rfl)) k0 bel lt0) trodAll_mk0, rfl, bel.frame _, fun h => by cases h⟩
theorem over : Rows.tripleWritesRow.holds Tryz.pinned (OpenSpec.ofChange Rows.tripleWritesSpec) :=
  OpenClaim.holds_of_wide 4 Tryz.f4 rfl rfl rfl rfl rfl rfl rfl ⟨rfl, rfl, rfl, rfl, rfl⟩ rfl rfl rfl rfl rfl (by kernel_rfl) Tryz.func4 (by kernel_rfl)
    (of_decide_eq_true (by kernel_rfl)) (by unfold Func.isWrapper; first | (rw [if_pos (by decide +kernel)]; kernel_rfl) | (rw [if_neg (by decide +kernel)]; exact ⟨rfl, rfl⟩))
    (fun os started H enc _ => lifted os started H enc)
theorem card_holds : Rows.TripleWritesCardSaid :=
  Claim7.holds_tied_plain_at .later [] [.data, .pinned] true (true, "ef9ec14393c6bb6301b15ae460185d9d2bf1669247ac096d454e2becf535f3f6") true
    over (fun _ h => by cases h) (by kernel_rfl) (fun _ h => by cases h) tripleWrites_row_tie rfl ⟨rfl, rfl⟩ (by kernel_rfl) rfl
    (fun f fn hf hfn => by
      obtain rfl : f = 4 := Option.some.inj ((show Tryz.prog.funcNamed "rhizome/rhizomelaw05.TripleWrites" = some 4 by kernel_rfl).symm.trans hf) |>.symm
      obtain rfl : fn = Tryz.f4 := (Option.some.inj (Tryz.func4.symm.trans hfn)).symm
      exact ⟨by kernel_rfl, fun j t ht => by
        rw [Tryz.params4] at ht
        have hm : t ∈ [23] := by simpa using Array.mem_of_getElem? ht
        have hall : ([23].all fun u => !Tryz.prog.wantsStandIn u) = true := by kernel_rfl
        exact (show Tryz.prog.wantsStandIn t = false by simpa using List.all_eq_true.1 hall t hm)⟩)
    (by kernel_rfl)
end Go.Proofs.YtjnhdamilbcmpaaGreatDoor.tripleWrites
namespace Go.Proofs.YtjnhdamilbcmpaaGreatDoor
theorem tripleWrites_card : Rows.TripleWritesCardSaid := tripleWrites.card_holds
end Go.Proofs.YtjnhdamilbcmpaaGreatDoor
#print axioms Go.Proofs.YtjnhdamilbcmpaaGreatDoor.tripleWrites_card

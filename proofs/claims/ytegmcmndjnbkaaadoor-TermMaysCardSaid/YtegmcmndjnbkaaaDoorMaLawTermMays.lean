/- TermMays: which terms, and triples, may be, be added, follow, and their texts, is what the chapter's reference says; for every triple, under the card's own conditions. -/
import Derived.Test.YtegmcmndjnbkaaaDoorRows
import Derived.Test.YtegmcmndjnbkaaaDoorTie
import Derived.Test.YtegmcmndjnbkaaaDoorCards
import Derived.Test.YtegmcmndjnbkaaaDoorMaPTermx0
import Derived.Test.YtegmcmndjnbkaaaDoorMaPTermx1
import Derived.Test.YtegmcmndjnbkaaaDoorMaPTermx2
import Derived.Test.YtegmcmndjnbkaaaDoorMaPTermx3
import Derived.Test.YtegmcmndjnbkaaaDoorMaPTermx4
import Derived.Test.YtegmcmndjnbkaaaDoorMaPTermx5
import Derived.Test.YtegmcmndjnbkaaaDoorMaPTermx6
import Derived.Test.YtegmcmndjnbkaaaDoorMaPTermx7
import Derived.Test.YtegmcmndjnbkaaaDoorMaPTermx8
import Derived.Test.YtegmcmndjnbkaaaDoorMaPTermx9
import Derived.Test.YtegmcmndjnbkaaaDoorMaPTermx10
import Derived.Test.YtegmcmndjnbkaaaDoorMaPTermx11
import Derived.Test.YtegmcmndjnbkaaaDoorMaPTermx12
import Derived.Test.YtegmcmndjnbkaaaDoorMaPTermx13
import Derived.Test.YtegmcmndjnbkaaaDoorMaPTermx14
import Derived.Test.YtegmcmndjnbkaaaDoorMaPureMays
import Derived.Test.YtegmcmndjnbkaaaDoorMaRowTriple
import Derived.WalkKit
import Derived.LaidMore
import Derived.Lay
import Derived.Stop.Joined
import Derived.SevenTiedAt
namespace Go.Proofs.YtegmcmndjnbkaaaDoor.termMays
open Go.ChangeShapes Go.WideShapes Go.ChangeAt Go.WideMaps Go.WideElems Go.RowKit
set_option linter.unusedVariables false
theorem own : ownKnob Tryd.prog.godebug = none := by kernel_rfl
theorem laidOut : laidOutB Tryd.prog = true := by kernel_rfl
set_option maxRecDepth 100000 in
theorem lifted (os : Os) (started : os.Started) (H : Type) (enc : TypeId × Value → H) :
    ReturnsInHanded {} Tryd.checked os 4 .any (fun w args => (Rows.termMaysSpec.pre enc Tryd.prog Tryd.f4 [] false w args ∧ laidMetH Tryd.prog Rows.termMaysRow.laid w) ∧ sizedMet enc Tryd.prog Tryd.f4 (OpenSpec.ofChange Rows.termMaysSpec) false w args)
      (Rows.termMaysSpec.post enc Tryd.prog Tryd.f4 false true false false) := by
  refine returnsInHanded_of_change_and (C := Tryd.checked) (X := fun w _ => laidMetH Tryd.prog Rows.termMaysRow.laid w) (fun _ _ _ hh h => h.of_heap hh) own started (by kernel_rfl) Tryd.func4
    (ChangeSpec.witness_shaped (enc := enc) (C := Tryd.checked) (os := os) (X := fun w _ => laidMetH Tryd.prog Rows.termMaysRow.laid w) false (World.laidAll Tryd.prog os Rows.termMaysRow.laid) #[.agg #[.int .i64 0, .string ⟨#[]⟩, .string ⟨#[]⟩, .int .i64 0, .string ⟨#[]⟩, .string ⟨#[]⟩, .int .i64 0, .string ⟨#[]⟩, .string ⟨#[]⟩]] 8 (World.laidAll_os _ _ _)
      (World.shaped_of_ZipB (by kernel_rfl) (by kernel_rfl)) (by kernel_rfl) (by kernel_rfl) (by kernel_rfl)
      (by rw [MakeChecks.laidMetH_plain _ _ _ (by kernel_rfl)]; exact laidMet_laidAll _ (by kernel_rfl) (by kernel_rfl))) ?_
  intro W base args ds gs before hval0 hW _ _ hL _
  have hval : ∀ (j : Nat) t v, Tryd.f4.params[j]? = some t → args[j]? = some v → Value.okWide Tryd.prog W .any base t v := hval0
  have hW' := hW
  obtain ⟨p, q, hA0, hV, rfl, hfz, hnd⟩ := hW
  have hA : DataW.TrodAll enc Tryd.prog W 0 (fun _ => true) true Tryd.f4.params.toList args.toList ds p := hA0
  rw [Tryd.params4] at hA hval
  obtain ⟨v0, vs0, d0, ds0, p0, q0, hargs, rfl, rfl, h0, r0⟩ := trodAll_cons hA
  obtain ⟨rfl, rfl, rfl⟩ := trodAll_nil r0
  obtain rfl : args = #[v0] := by cases args; simp_all
  obtain ⟨rfl, rfl⟩ := trodVars_none hV
  have k0 := h0
  have lt0 : ∀ x ∈ p0, x.block < W.heap.size := by obtain ⟨m, hm⟩ := k0; exact DataW.trod_lt m _ _ _ hm
  obtain ⟨n1, t1, x1, n2, t2, x2, n3, t3, x3, rfl⟩ := open_triple (hval 0 29 v0 rfl rfl) h0
  clear hA0 hval0
  obtain ⟨k, hk⟩ := PTerm.termMays_pure n1 t1 x1 n2 t2 x2 n3 t3 x3
  refine (PTerm.rhizomelaw02_TermMays.calls k n1 t1 x1 n2 t2 x2 n3 t3 x3 true W hk).mono fun e W' ⟨he, bel⟩ => ?_
  subst he
  exact ⟨_, rfl, _, _, _, [], _, [], hW', trodAll_mk1 (shut_bool Tryd.underlying4 _), trodAll_cons_mk (Below.trod laidOut (by kernel_rfl) (of_decide_eq_true (by kernel_rfl)) k0 bel lt0) trodAll_mk0, rfl, bel.frame _, fun h => by cases h⟩
theorem over : Rows.termMaysRow.holds Tryd.pinned (OpenSpec.ofChange Rows.termMaysSpec) :=
  OpenClaim.holds_of_wide 4 Tryd.f4 rfl rfl rfl rfl rfl rfl rfl ⟨rfl, rfl, rfl, rfl, rfl⟩ rfl rfl rfl rfl rfl (by kernel_rfl) Tryd.func4 (by kernel_rfl)
    (of_decide_eq_true (by kernel_rfl)) (by unfold Func.isWrapper; first | (rw [if_pos (by decide +kernel)]; kernel_rfl) | (rw [if_neg (by decide +kernel)]; exact ⟨rfl, rfl⟩))
    (fun os started H enc _ => lifted os started H enc)
theorem card_holds : Rows.TermMaysCardSaid :=
  Claim7.holds_tied_plain_at .later [] [.data, .pinned] true (true, "2f2a3915920828c410758f2c94b8eb86bc0c77b53b96dfeb11b75246458a775e") false
    over (fun _ h => by cases h) (by kernel_rfl) (fun _ h => by cases h) termMays_row_tie rfl ⟨rfl, rfl⟩ (by kernel_rfl) rfl
    (fun f fn hf hfn => by
      obtain rfl : f = 4 := Option.some.inj ((show Tryd.prog.funcNamed "rhizome/rhizomelaw02.TermMays" = some 4 by kernel_rfl).symm.trans hf) |>.symm
      obtain rfl : fn = Tryd.f4 := (Option.some.inj (Tryd.func4.symm.trans hfn)).symm
      exact ⟨by kernel_rfl, fun j t ht => by
        rw [Tryd.params4] at ht
        have hm : t ∈ [29] := by simpa using Array.mem_of_getElem? ht
        have hall : ([29].all fun u => !Tryd.prog.wantsStandIn u) = true := by kernel_rfl
        exact (show Tryd.prog.wantsStandIn t = false by simpa using List.all_eq_true.1 hall t hm)⟩)
    (by kernel_rfl)
end Go.Proofs.YtegmcmndjnbkaaaDoor.termMays
namespace Go.Proofs.YtegmcmndjnbkaaaDoor
theorem termMays_card : Rows.TermMaysCardSaid := termMays.card_holds
end Go.Proofs.YtegmcmndjnbkaaaDoor
#print axioms Go.Proofs.YtegmcmndjnbkaaaDoor.termMays_card

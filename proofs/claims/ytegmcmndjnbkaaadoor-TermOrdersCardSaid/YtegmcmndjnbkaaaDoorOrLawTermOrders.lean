/- TermOrders: how two terms, two triples, and triples in order stand is what the chapter's reference says, and the triples stay; for every two triples and every list of triples, under the card's own conditions. -/
import Derived.Test.YtegmcmndjnbkaaaDoorRows
import Derived.Test.YtegmcmndjnbkaaaDoorTie
import Derived.Test.YtegmcmndjnbkaaaDoorCards
import Derived.Test.YtegmcmndjnbkaaaDoorOrPSortx0
import Derived.Test.YtegmcmndjnbkaaaDoorOrPSortx1
import Derived.Test.YtegmcmndjnbkaaaDoorOrPSortx2
import Derived.Test.YtegmcmndjnbkaaaDoorOrPSortx3
import Derived.Test.YtegmcmndjnbkaaaDoorOrPSortx4
import Derived.Test.YtegmcmndjnbkaaaDoorOrPSortx5
import Derived.Test.YtegmcmndjnbkaaaDoorOrPSortx6
import Derived.Test.YtegmcmndjnbkaaaDoorOrPSortx7
import Derived.Test.YtegmcmndjnbkaaaDoorOrPSortx8
import Derived.Test.YtegmcmndjnbkaaaDoorOrPSortx11
import Derived.Test.YtegmcmndjnbkaaaDoorOrPSortx12
import Derived.Test.YtegmcmndjnbkaaaDoorOrPSortx13
import Derived.Test.YtegmcmndjnbkaaaDoorOrPSortx14
import Derived.Test.YtegmcmndjnbkaaaDoorOrPSortx15
import Derived.Test.YtegmcmndjnbkaaaDoorOrPureOrders
import Derived.Test.YtegmcmndjnbkaaaDoorOrRowTriples
import Derived.WalkKit
import Derived.LaidMore
import Derived.Lay
import Derived.Stop.Joined
import Derived.SevenTiedAt
namespace Go.Proofs.YtegmcmndjnbkaaaDoor.termOrders
open Go.ChangeShapes Go.WideShapes Go.ChangeAt Go.WideMaps Go.WideElems Go.RowKit
set_option linter.unusedVariables false
theorem own : ownKnob Tryd.prog.godebug = none := by kernel_rfl
theorem laidOut : laidOutB Tryd.prog = true := by kernel_rfl
set_option maxRecDepth 100000 in
theorem lifted (os : Os) (started : os.Started) (H : Type) (enc : TypeId × Value → H) :
    ReturnsInHanded {} Tryd.checked os 7 .any (fun w args => (Rows.termOrdersSpec.pre enc Tryd.prog Tryd.f7 [] false w args ∧ laidMetH Tryd.prog Rows.termOrdersRow.laid w) ∧ sizedMet enc Tryd.prog Tryd.f7 (OpenSpec.ofChange Rows.termOrdersSpec) false w args)
      (Rows.termOrdersSpec.post enc Tryd.prog Tryd.f7 false true false false) := by
  refine returnsInHanded_of_change_and (C := Tryd.checked) (X := fun w _ => laidMetH Tryd.prog Rows.termOrdersRow.laid w) (fun _ _ _ hh h => h.of_heap hh) own started (by kernel_rfl) Tryd.func7
    (ChangeSpec.witness_shaped (enc := enc) (C := Tryd.checked) (os := os) (X := fun w _ => laidMetH Tryd.prog Rows.termOrdersRow.laid w) false (World.laidAll Tryd.prog os Rows.termOrdersRow.laid) #[.agg #[.int .i64 0, .string ⟨#[]⟩, .string ⟨#[]⟩, .int .i64 0, .string ⟨#[]⟩, .string ⟨#[]⟩, .int .i64 0, .string ⟨#[]⟩, .string ⟨#[]⟩], .agg #[.int .i64 0, .string ⟨#[]⟩, .string ⟨#[]⟩, .int .i64 0, .string ⟨#[]⟩, .string ⟨#[]⟩, .int .i64 0, .string ⟨#[]⟩, .string ⟨#[]⟩], .slice none 0 0] 8 (World.laidAll_os _ _ _)
      (World.shaped_of_ZipB (by kernel_rfl) (by kernel_rfl)) (by kernel_rfl) (by kernel_rfl) (by kernel_rfl)
      (by rw [MakeChecks.laidMetH_plain _ _ _ (by kernel_rfl)]; exact laidMet_laidAll _ (by kernel_rfl) (by kernel_rfl))) ?_
  intro W base args ds gs before hval0 hW _ _ hL _
  have hval : ∀ (j : Nat) t v, Tryd.f7.params[j]? = some t → args[j]? = some v → Value.okWide Tryd.prog W .any base t v := hval0
  have hW' := hW
  obtain ⟨p, q, hA0, hV, rfl, hfz, hnd⟩ := hW
  have hA : DataW.TrodAll enc Tryd.prog W 0 (fun _ => true) true Tryd.f7.params.toList args.toList ds p := hA0
  rw [Tryd.params7] at hA hval
  obtain ⟨v0, vs0, d0, ds0, p0, q0, hargs, rfl, rfl, h0, r0⟩ := trodAll_cons hA
  obtain ⟨v1, vs1, d1, ds1, p1, q1, rfl, rfl, rfl, h1, r1⟩ := trodAll_cons r0
  obtain ⟨v2, vs2, d2, ds2, p2, q2, rfl, rfl, rfl, h2, r2⟩ := trodAll_cons r1
  obtain ⟨rfl, rfl, rfl⟩ := trodAll_nil r2
  obtain rfl : args = #[v0, v1, v2] := by cases args; simp_all
  obtain ⟨rfl, rfl⟩ := trodVars_none hV
  have k0 := h0
  have k1 := h1
  have k2 := h2
  have lt0 : ∀ x ∈ p0, x.block < W.heap.size := by obtain ⟨m, hm⟩ := k0; exact DataW.trod_lt m _ _ _ hm
  have lt1 : ∀ x ∈ p1, x.block < W.heap.size := by obtain ⟨m, hm⟩ := k1; exact DataW.trod_lt m _ _ _ hm
  have lt2 : ∀ x ∈ p2, x.block < W.heap.size := by obtain ⟨m, hm⟩ := k2; exact DataW.trod_lt m _ _ _ hm
  obtain ⟨⟨⟨n1, t1, x1⟩, ⟨n2, t2, x2⟩, ⟨n3, t3, x3⟩⟩, rfl⟩ := open_one (hval 0 29 v0 rfl rfl) h0
  obtain ⟨⟨⟨m1, s1, y1⟩, ⟨m2, s2, y2⟩, ⟨m3, s3, y3⟩⟩, rfl⟩ := open_one (hval 1 29 v1 rfl rfl) h1
  obtain ⟨A2, c2, l2, rfl, hc2, hC2⟩ := open_triples (hval 2 39 v2 rfl rfl) h2
  clear hA0 hval0
  obtain ⟨k, hk⟩ := PSort.termOrders_pure n1 t1 x1 n2 t2 x2 n3 t3 x3 m1 s1 y1 m2 s2 y2 m3 s3 y3 l2
  refine (PSort.rhizomelaw02_TermOrders.calls k n1 t1 x1 n2 t2 x2 n3 t3 x3 m1 s1 y1 m2 s2 y2 m3 s3 y3 A2 c2 l2 true W hC2 hc2 hk).mono fun e W' ⟨he, bel⟩ => ?_
  subst he
  exact ⟨_, rfl, _, _, _, [], _, [], hW', trodAll_mk1 (shut_bool Tryd.underlying4 _), trodAll_cons_mk (Below.trod laidOut (by kernel_rfl) (of_decide_eq_true (by kernel_rfl)) k0 bel lt0) (trodAll_cons_mk (Below.trod laidOut (by kernel_rfl) (of_decide_eq_true (by kernel_rfl)) k1 bel lt1) (trodAll_cons_mk (Below.trod laidOut (by kernel_rfl) (of_decide_eq_true (by kernel_rfl)) k2 bel lt2) trodAll_mk0)), rfl, bel.frame _, fun h => by cases h⟩
theorem over : Rows.termOrdersRow.holds Tryd.pinned (OpenSpec.ofChange Rows.termOrdersSpec) :=
  OpenClaim.holds_of_wide 7 Tryd.f7 rfl rfl rfl rfl rfl rfl rfl ⟨rfl, rfl, rfl, rfl, rfl⟩ rfl rfl rfl rfl rfl (by kernel_rfl) Tryd.func7 (by kernel_rfl)
    (of_decide_eq_true (by kernel_rfl)) (by unfold Func.isWrapper; first | (rw [if_pos (by decide +kernel)]; kernel_rfl) | (rw [if_neg (by decide +kernel)]; exact ⟨rfl, rfl⟩))
    (fun os started H enc _ => lifted os started H enc)
theorem card_holds : Rows.TermOrdersCardSaid :=
  Claim7.holds_tied_plain_at .later [] [.data, .pinned] true (true, "2f2a3915920828c410758f2c94b8eb86bc0c77b53b96dfeb11b75246458a775e") false
    over (fun _ h => by cases h) (by kernel_rfl) (fun _ h => by cases h) termOrders_row_tie rfl ⟨rfl, rfl⟩ (by kernel_rfl) rfl
    (fun f fn hf hfn => by
      obtain rfl : f = 7 := Option.some.inj ((show Tryd.prog.funcNamed "rhizome/rhizomelaw02.TermOrders" = some 7 by kernel_rfl).symm.trans hf) |>.symm
      obtain rfl : fn = Tryd.f7 := (Option.some.inj (Tryd.func7.symm.trans hfn)).symm
      exact ⟨by kernel_rfl, fun j t ht => by
        rw [Tryd.params7] at ht
        have hm : t ∈ [29, 29, 39] := by simpa using Array.mem_of_getElem? ht
        have hall : ([29, 29, 39].all fun u => !Tryd.prog.wantsStandIn u) = true := by kernel_rfl
        exact (show Tryd.prog.wantsStandIn t = false by simpa using List.all_eq_true.1 hall t hm)⟩)
    (by kernel_rfl)
end Go.Proofs.YtegmcmndjnbkaaaDoor.termOrders
namespace Go.Proofs.YtegmcmndjnbkaaaDoor
theorem termOrders_card : Rows.TermOrdersCardSaid := termOrders.card_holds
end Go.Proofs.YtegmcmndjnbkaaaDoor
#print axioms Go.Proofs.YtegmcmndjnbkaaaDoor.termOrders_card

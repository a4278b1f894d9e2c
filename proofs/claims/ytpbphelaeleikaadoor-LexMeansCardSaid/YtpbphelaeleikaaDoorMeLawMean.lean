/- LexMeans: a term's text is read as it; two texts with a newline between have the symbols of both, each at its place; for every term and any two texts, under the card's own conditions. -/
import Derived.Test.YtpbphelaeleikaaDoorRows
import Derived.Test.YtpbphelaeleikaaDoorTie
import Derived.Test.YtpbphelaeleikaaDoorCards
import Derived.Test.YtpbphelaeleikaaDoorMePMeanx0
import Derived.Test.YtpbphelaeleikaaDoorMePMeanx1
import Derived.Test.YtpbphelaeleikaaDoorMePMeanx2
import Derived.Test.YtpbphelaeleikaaDoorMePMeanx3
import Derived.Test.YtpbphelaeleikaaDoorMePMeanx4
import Derived.Test.YtpbphelaeleikaaDoorMePMeanx5
import Derived.Test.YtpbphelaeleikaaDoorMePMeanx6
import Derived.Test.YtpbphelaeleikaaDoorMePMeanx7
import Derived.Test.YtpbphelaeleikaaDoorMePMeanx8
import Derived.Test.YtpbphelaeleikaaDoorMePMeanx9
import Derived.Test.YtpbphelaeleikaaDoorMePMeanx10
import Derived.Test.YtpbphelaeleikaaDoorMePMeanx11
import Derived.Test.YtpbphelaeleikaaDoorMePMeanx12
import Derived.Test.YtpbphelaeleikaaDoorMePMeanx13
import Derived.Test.YtpbphelaeleikaaDoorMePMeanx14
import Derived.Test.YtpbphelaeleikaaDoorMePMeanx15
import Derived.Test.YtpbphelaeleikaaDoorMePMeanx16
import Derived.Test.YtpbphelaeleikaaDoorMePMeanx17
import Derived.Test.YtpbphelaeleikaaDoorMePMeanx18
import Derived.Test.YtpbphelaeleikaaDoorMePMeanx19
import Derived.Test.YtpbphelaeleikaaDoorMePMeanx20
import Derived.Test.YtpbphelaeleikaaDoorMePMeanx21
import Derived.Test.YtpbphelaeleikaaDoorMePureMean
import Derived.Test.YtpbphelaeleikaaDoorMeRowTerm
import Derived.ChangeMaps5
import Derived.WalkKit
import Derived.LaidMore
import Derived.Lay
import Derived.Stop.Joined
import Derived.SevenTiedAt
namespace Go.Proofs.YtpbphelaeleikaaDoor.lexMeans
open Go.ChangeMaps (open_string)
open Go.ChangeShapes Go.WideShapes Go.ChangeAt Go.WideMaps Go.WideElems Go.RowKit
set_option linter.unusedVariables false
theorem own : ownKnob Tryd.prog.godebug = none := by kernel_rfl
theorem laidOut : laidOutB Tryd.prog = true := by kernel_rfl
set_option maxRecDepth 100000 in
theorem lifted (os : Os) (started : os.Started) (H : Type) (enc : TypeId × Value → H) :
  ReturnsInHanded {} Tryd.checked os 4 .any (fun w args => (Rows.lexMeansSpec.pre enc Tryd.prog Tryd.f4 [] false w args ∧ laidMetH Tryd.prog Rows.lexMeansRow.laid w) ∧ sizedMet enc Tryd.prog Tryd.f4 (OpenSpec.ofChange Rows.lexMeansSpec) false w args)
   (Rows.lexMeansSpec.post enc Tryd.prog Tryd.f4 false true false false) := by
 refine returnsInHanded_of_change_and (C := Tryd.checked) (X := fun w _ => laidMetH Tryd.prog Rows.lexMeansRow.laid w) (fun _ _ _ hh h => h.of_heap hh) own started (by kernel_rfl) Tryd.func4
  (ChangeSpec.witness_shaped (enc := enc) (C := Tryd.checked) (os := os) (X := fun w _ => laidMetH Tryd.prog Rows.lexMeansRow.laid w) false (World.laidAll Tryd.prog os Rows.lexMeansRow.laid) #[.agg #[.int .i64 0, .string ⟨#[]⟩, .string ⟨#[]⟩], .string ⟨#[]⟩, .string ⟨#[]⟩] 8 (World.laidAll_os _ _ _)
   (World.shaped_of_ZipB (by kernel_rfl) (by kernel_rfl)) (by kernel_rfl) (by kernel_rfl) (by kernel_rfl)
   (by rw [MakeChecks.laidMetH_plain _ _ _ (by kernel_rfl)]; exact laidMet_laidAll _ (by kernel_rfl) (by kernel_rfl))) ?_
 intro W base args ds gs before hval0 hW _ _ hL _
 have hval : ∀ (j : Nat) t v, Tryd.f4.params[j]? = some t → args[j]? = some v → Value.okWide Tryd.prog W .any base t v := hval0
 have hW' := hW
 obtain ⟨p, q, hA0, hV, rfl, hfz, hnd⟩ := hW
 have hA : DataW.TrodAll enc Tryd.prog W 0 (fun _ => true) true Tryd.f4.params.toList args.toList ds p := hA0
 rw [Tryd.params4] at hA hval
 obtain ⟨v0, vs0, d0, ds0, p0, q0, hargs, rfl, rfl, h0, r0⟩ := trodAll_cons hA
 obtain ⟨v1, vs1, d1, ds1, p1, q1, rfl, rfl, rfl, h1, r1⟩ := trodAll_cons r0
 obtain ⟨v2, vs2, d2, ds2, p2, q2, rfl, rfl, rfl, h2, r2⟩ := trodAll_cons r1
 obtain ⟨rfl, rfl, rfl⟩ := trodAll_nil r2
 obtain rfl : args = #[v0, v1, v2] := by cases args; simp_all
 obtain ⟨rfl, rfl⟩ := trodVars_none hV
 have k0 := h0
 have k1 := h1
 have k2 := h2
 have lt0 : ∀ x ∈ p0, x.block < W.heap.size := by obtain ⟨m, hm⟩ := k0; exact DataW.trod_lt m _ _ _ hm
 have lt1 : ∀ x ∈ p1, x.block < W.heap.size := by obtain ⟨m, hm⟩ := k1; exact DataW.trod_lt m _ _ _ hm
 have lt2 : ∀ x ∈ p2, x.block < W.heap.size := by obtain ⟨m, hm⟩ := k2; exact DataW.trod_lt m _ _ _ hm
 obtain ⟨n1, t1, x1, rfl⟩ := open_termv (hval 0 31 v0 rfl rfl) h0
 obtain ⟨sa, rfl, _⟩ := open_string Tryd.underlying9 (hval 1 9 v1 rfl rfl) h1
 obtain ⟨sb, rfl, _⟩ := open_string Tryd.underlying9 (hval 2 9 v2 rfl rfl) h2
 clear hA0 hval0
 obtain ⟨k, hk⟩ := PMean.means_pure n1 t1 x1 sa sb
 refine (PMean.rhizomelaw04_LexMeans.calls k n1 t1 x1 sa sb true W hk).mono fun e W' ⟨he, bel⟩ => ?_
 subst he
 exact ⟨_, rfl, _, _, _, [], _, [], hW', trodAll_mk1 (shut_bool Tryd.underlying4 _), trodAll_cons_mk (Below.trod laidOut (by kernel_rfl) (of_decide_eq_true (by kernel_rfl)) k0 bel lt0) (trodAll_cons_mk (Below.trod laidOut (by kernel_rfl) (of_decide_eq_true (by kernel_rfl)) k1 bel lt1) (trodAll_cons_mk (Below.trod laidOut (by kernel_rfl) (of_decide_eq_true (by kernel_rfl)) k2 bel lt2) trodAll_mk0)), rfl, bel.frame _, fun h => by cases h⟩
theorem over : Rows.lexMeansRow.holds Tryd.pinned (OpenSpec.ofChange Rows.lexMeansSpec) :=
 OpenClaim.holds_of_wide 4 Tryd.f4 rfl rfl rfl rfl rfl rfl rfl ⟨rfl, rfl, rfl, rfl, rfl⟩ rfl rfl rfl rfl rfl (by kernel_rfl) Tryd.func4 (by kernel_rfl)
  (of_decide_eq_true (by kernel_rfl)) (by unfold Func.isWrapper; first | (rw [if_pos (by decide +kernel)]; kernel_rfl) | (rw [if_neg (by decide +kernel)]; exact ⟨rfl, rfl⟩))
  (fun os started H enc _ => lifted os started H enc)
theorem card_holds : Rows.LexMeansCardSaid :=
 Claim7.holds_tied_plain_at .later [] [.data, .data, .data, .pinned, .pinned] true (true, "dffe354060b5118d7154ac452f07c8fbc54017de72ed890242c64d6b549ef7ff") true
  over (fun _ h => by cases h) (by kernel_rfl) (fun _ h => by cases h) lexMeans_row_tie rfl ⟨rfl, rfl⟩ (by kernel_rfl) rfl
  (fun f fn hf hfn => by
   obtain rfl : f = 4 := Option.some.inj ((show Tryd.prog.funcNamed "rhizome/rhizomelaw04.LexMeans" = some 4 by kernel_rfl).symm.trans hf) |>.symm
   obtain rfl : fn = Tryd.f4 := (Option.some.inj (Tryd.func4.symm.trans hfn)).symm
   exact ⟨by kernel_rfl, fun j t ht => by
    rw [Tryd.params4] at ht
    have hm : t ∈ [31, 9] := by simpa using Array.mem_of_getElem? ht
    have hall : ([31, 9].all fun u => !Tryd.prog.wantsStandIn u) = true := by kernel_rfl
    exact (show Tryd.prog.wantsStandIn t = false by simpa using List.all_eq_true.1 hall t hm)⟩)
  (by kernel_rfl)
end Go.Proofs.YtpbphelaeleikaaDoor.lexMeans
namespace Go.Proofs.YtpbphelaeleikaaDoor
theorem lexMeans_card : Rows.LexMeansCardSaid := lexMeans.card_holds
end Go.Proofs.YtpbphelaeleikaaDoor
#print axioms Go.Proofs.YtpbphelaeleikaaDoor.lexMeans_card

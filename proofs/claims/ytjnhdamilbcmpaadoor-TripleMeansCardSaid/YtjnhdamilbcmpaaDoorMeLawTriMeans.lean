/- TripleMeans: triples are read from their text, as they were; two documents behind each other are one, of both; what was read and written is read so again; for every list of triples and any two texts, under the card's own conditions. -/
import Derived.Test.YtjnhdamilbcmpaaDoorMeTriE
import Derived.Test.YtjnhdamilbcmpaaDoorMeRowTriples
import Derived.Test.YtjnhdamilbcmpaaDoorRows
import Derived.Test.YtjnhdamilbcmpaaDoorTie
import Derived.Test.YtjnhdamilbcmpaaDoorCards
import Derived.Test.YtjnhdamilbcmpaaDoorMePTmx0
import Derived.Test.YtjnhdamilbcmpaaDoorMePTmx1
import Derived.Test.YtjnhdamilbcmpaaDoorMePTmx2
import Derived.Test.YtjnhdamilbcmpaaDoorMePTmx3
import Derived.Test.YtjnhdamilbcmpaaDoorMePTmx4
import Derived.Test.YtjnhdamilbcmpaaDoorMePTmx5
import Derived.Test.YtjnhdamilbcmpaaDoorMePTmx6
import Derived.Test.YtjnhdamilbcmpaaDoorMePTmx7
import Derived.Test.YtjnhdamilbcmpaaDoorMePTmx8
import Derived.Test.YtjnhdamilbcmpaaDoorMePTmx9
import Derived.Test.YtjnhdamilbcmpaaDoorMePTmx10
import Derived.Test.YtjnhdamilbcmpaaDoorMePTmx11
import Derived.Test.YtjnhdamilbcmpaaDoorMePTmx12
import Derived.Test.YtjnhdamilbcmpaaDoorMePTmx13
import Derived.Test.YtjnhdamilbcmpaaDoorMePTmx14
import Derived.Test.YtjnhdamilbcmpaaDoorMePTmx15
import Derived.Test.YtjnhdamilbcmpaaDoorMePTmx16
import Derived.Test.YtjnhdamilbcmpaaDoorMePTmx17
import Derived.WalkKit
import Derived.ChangeMaps5
import Derived.LaidMore
import Derived.Lay
import Derived.Stop.Joined
import Derived.SevenTiedAt
namespace Go.Proofs.YtjnhdamilbcmpaaDoor.tripleMeans
open Go.ChangeMaps (open_string)
open Go.ChangeShapes Go.WideShapes Go.ChangeAt Go.WideMaps Go.WideElems Go.RowKit
set_option linter.unusedVariables false
theorem own : ownKnob Tryd.prog.godebug = none := by kernel_rfl
theorem laidOut : laidOutB Tryd.prog = true := by kernel_rfl
set_option maxRecDepth 100000 in
theorem lifted (os : Os) (started : os.Started) (H : Type) (enc : TypeId × Value → H) :
  ReturnsInHanded {} Tryd.checked os 3 .any (fun w args => (Rows.tripleMeansSpec.pre enc Tryd.prog Tryd.f3 [] false w args ∧ laidMetH Tryd.prog Rows.tripleMeansRow.laid w) ∧ sizedMet enc Tryd.prog Tryd.f3 (OpenSpec.ofChange Rows.tripleMeansSpec) false w args)
   (Rows.tripleMeansSpec.post enc Tryd.prog Tryd.f3 false true false false) := by
 refine returnsInHanded_of_change_and (C := Tryd.checked) (X := fun w _ => laidMetH Tryd.prog Rows.tripleMeansRow.laid w) (fun _ _ _ hh h => h.of_heap hh) own started (by kernel_rfl) Tryd.func3
  (ChangeSpec.witness_shaped (enc := enc) (C := Tryd.checked) (os := os) (X := fun w _ => laidMetH Tryd.prog Rows.tripleMeansRow.laid w) false (World.laidAll Tryd.prog os Rows.tripleMeansRow.laid) #[.slice none 0 0, .string ⟨#[]⟩, .string ⟨#[]⟩] 8 (World.laidAll_os _ _ _)
   (World.shaped_of_ZipB (by kernel_rfl) (by kernel_rfl)) (by kernel_rfl) (by kernel_rfl) (by kernel_rfl)
   (by rw [MakeChecks.laidMetH_plain _ _ _ (by kernel_rfl)]; exact laidMet_laidAll _ (by kernel_rfl) (by kernel_rfl))) ?_
 intro W base args ds gs before hval0 hW _ _ hL _
 have hval : ∀ (j : Nat) t v, Tryd.f3.params[j]? = some t → args[j]? = some v → Value.okWide Tryd.prog W .any base t v := hval0
 have hW' := hW
 obtain ⟨p, q, hA0, hV, rfl, hfz, hnd⟩ := hW
 have hA : DataW.TrodAll enc Tryd.prog W 0 (fun _ => true) true Tryd.f3.params.toList args.toList ds p := hA0
 rw [Tryd.params3] at hA hval
 obtain ⟨v0, vs0, d0, ds0, p0, q0, hargs, rfl, rfl, h0, r0⟩ := trodAll_cons hA
 obtain ⟨v1, vs1, d1, ds1, p1, q1, rfl, rfl, rfl, h1, r1⟩ := trodAll_cons r0
 obtain ⟨v2, vs2, d2, ds2, p2, q2, rfl, rfl, rfl, h2, r2⟩ := trodAll_cons r1
 obtain ⟨rfl, rfl, rfl⟩ := trodAll_nil r2
 obtain rfl : args = #[v0, v1, v2] := by cases args; simp_all
 obtain ⟨rfl, rfl⟩ := trodVars_none hV
 have k0 := h0
 have k1 := h1
 have k2 := h2
 have lt0 : ∀ x ∈ p0, x.block < W.heap.size := by obtain ⟨m, hm⟩ := k0; exact DataW.trod_lt m _ _ _ hm
 have lt1 : ∀ x ∈ p1, x.block < W.heap.size := by obtain ⟨m, hm⟩ := k1; exact DataW.trod_lt m _ _ _ hm
 have lt2 : ∀ x ∈ p2, x.block < W.heap.size := by obtain ⟨m, hm⟩ := k2; exact DataW.trod_lt m _ _ _ hm
 obtain ⟨A0, c0, l0, rfl, hc0, hC0⟩ := open_triples (hval 0 22 v0 rfl rfl) h0
 obtain ⟨s1, rfl, _⟩ := open_string Tryd.underlying9 (hval 1 9 v1 rfl rfl) h1
 obtain ⟨s2, rfl, _⟩ := open_string Tryd.underlying9 (hval 2 9 v2 rfl rfl) h2
 clear hA0 hval0
 obtain ⟨k, hk⟩ := PTm.tripleMeans_pure l0 s1 s2
 refine (PTm.rhizomelaw05_TripleMeans.calls k A0 c0 l0 s1 s2 true W hC0 hc0 hk).mono fun e W' ⟨he, bel⟩ => ?_
 subst he
 exact ⟨_, rfl, _, _, _, [], _, [], hW', trodAll_mk1 (shut_bool Tryd.underlying4 _), (trodAll_cons_mk (Below.trod laidOut (by kernel_rfl) (of_decide_eq_true (by kernel_rfl)) k0 bel lt0) (trodAll_cons_mk (Below.trod laidOut (by kernel_rfl) (of_decide_eq_true (by kernel_rfl)) k1 bel lt1) (trodAll_cons_mk (Below.trod laidOut (by kernel_rfl) (of_decide_eq_true (by kernel_rfl)) k2 bel lt2) trodAll_mk0))), rfl, bel.frame _, fun h => by cases h⟩
theorem over : Rows.tripleMeansRow.holds Tryd.pinned (OpenSpec.ofChange Rows.tripleMeansSpec) :=
 OpenClaim.holds_of_wide 3 Tryd.f3 rfl rfl rfl rfl rfl rfl rfl ⟨rfl, rfl, rfl, rfl, rfl⟩ rfl rfl rfl rfl rfl (by kernel_rfl) Tryd.func3 (by kernel_rfl)
  (of_decide_eq_true (by kernel_rfl)) (by unfold Func.isWrapper; first | (rw [if_pos (by decide +kernel)]; kernel_rfl) | (rw [if_neg (by decide +kernel)]; exact ⟨rfl, rfl⟩))
  (fun os started H enc _ => lifted os started H enc)
theorem card_holds : Rows.TripleMeansCardSaid :=
 Claim7.holds_tied_plain_at .later [] [.data, .pinned] true (true, "3b74f657595162979b1995dc4232d878d394c59233762351a3b030c6520cacd3") true
  over (fun _ h => by cases h) (by kernel_rfl) (fun _ h => by cases h) tripleMeans_row_tie rfl ⟨rfl, rfl⟩ (by kernel_rfl) rfl
  (fun f fn hf hfn => by
   obtain rfl : f = 3 := Option.some.inj ((show Tryd.prog.funcNamed "rhizome/rhizomelaw05.TripleMeans" = some 3 by kernel_rfl).symm.trans hf) |>.symm
   obtain rfl : fn = Tryd.f3 := (Option.some.inj (Tryd.func3.symm.trans hfn)).symm
   exact ⟨by kernel_rfl, fun j t ht => by
    rw [Tryd.params3] at ht
    have hm : t ∈ [22, 9] := by simpa using Array.mem_of_getElem? ht
    have hall : ([22, 9].all fun u => !Tryd.prog.wantsStandIn u) = true := by kernel_rfl
    exact (show Tryd.prog.wantsStandIn t = false by simpa using List.all_eq_true.1 hall t hm)⟩)
  (by kernel_rfl)
end Go.Proofs.YtjnhdamilbcmpaaDoor.tripleMeans
namespace Go.Proofs.YtjnhdamilbcmpaaDoor
theorem tripleMeans_card : Rows.TripleMeansCardSaid := tripleMeans.card_holds
end Go.Proofs.YtjnhdamilbcmpaaDoor
#print axioms Go.Proofs.YtjnhdamilbcmpaaDoor.tripleMeans_card

/- TripleCuts, the second form: a text of triples, cut behind any of its lines, is of the first of them, and cut within one, it is wrong; for every list of triples and any place, where what is read is of bulk at most 1048576, under the card's own conditions. -/
import Derived.Test.YtjnhdamilbcmpaaDoorRows
import Derived.Test.YtjnhdamilbcmpaaDoorTie
import Derived.Test.YtjnhdamilbcmpaaDoorCards
import Derived.Test.YtjnhdamilbcmpaaDoorCuPTmx0
import Derived.Test.YtjnhdamilbcmpaaDoorCuPTmx1
import Derived.Test.YtjnhdamilbcmpaaDoorCuPTmx2
import Derived.Test.YtjnhdamilbcmpaaDoorCuPTmx3
import Derived.Test.YtjnhdamilbcmpaaDoorCuPTmx4
import Derived.Test.YtjnhdamilbcmpaaDoorCuPTmx5
import Derived.Test.YtjnhdamilbcmpaaDoorCuPTmx6
import Derived.Test.YtjnhdamilbcmpaaDoorCuPTmx7
import Derived.Test.YtjnhdamilbcmpaaDoorCuPTmx8
import Derived.Test.YtjnhdamilbcmpaaDoorCuPTmx9
import Derived.Test.YtjnhdamilbcmpaaDoorCuPTmx10
import Derived.Test.YtjnhdamilbcmpaaDoorCuPTmx11
import Derived.Test.YtjnhdamilbcmpaaDoorCuPTmx12
import Derived.Test.YtjnhdamilbcmpaaDoorCuPTmx13
import Derived.Test.YtjnhdamilbcmpaaDoorCuPTmx14
import Derived.Test.YtjnhdamilbcmpaaDoorCuPTmx15
import Derived.Test.YtjnhdamilbcmpaaDoorCuPTmx16
import Derived.Test.YtjnhdamilbcmpaaDoorCuPTmx17
import Derived.Test.YtjnhdamilbcmpaaDoorCuPTmx18
import Derived.Test.YtjnhdamilbcmpaaDoorCuPTmx19
import Derived.Test.YtjnhdamilbcmpaaDoorCuPTmx20
import Derived.Test.YtjnhdamilbcmpaaDoorCuTriG
import Derived.Test.YtjnhdamilbcmpaaDoorCuRowTriplesB
import Derived.WalkKit
import Derived.LaidMore
import Derived.Lay
import Derived.Stop.Joined
import Derived.SevenTiedAt
namespace Go.Proofs.YtjnhdamilbcmpaaDoor.tripleCuts
open Go.ChangeShapes Go.WideShapes Go.ChangeAt Go.WideMaps Go.WideElems Go.RowKit
set_option linter.unusedVariables false
theorem own : ownKnob Tryd.prog.godebug = none := by kernel_rfl
theorem laidOut : laidOutB Tryd.prog = true := by kernel_rfl
theorem cond : (Rows.OpenSpec.upto Rows.tripleCutsSpec).cond = some Rows.uptoSmall := rfl
set_option maxRecDepth 100000 in
theorem wit (os : Os) (H : Type) (enc : TypeId × Value → H) : ∃ (w : World) (tape : Tape) (i : Input), w.os = os ∧ (w.forCall tape i).Shaped Tryd.prog ∧ i.vars = [] ∧ Input.okWide Tryd.prog (w.forCall tape i) .any w.heap.size 4 i ∧
   (((Rows.OpenSpec.upto Rows.tripleCutsSpec).pre enc Tryd.prog Tryd.f4 [] false (w.forCall tape i).memory i.args ∧ laidMetH Tryd.prog Rows.tripleCutsUptoRow.laid (w.forCall tape i).memory) ∧ sizedMet enc Tryd.prog Tryd.f4 (Rows.OpenSpec.upto Rows.tripleCutsSpec) false (w.forCall tape i).memory i.args) ∧ ({} : Assume).holds Tryd.prog (lone (Frame.enter Tryd.prog 4 i.args .normal) [] (w.forCall tape i)) := by
 have hok : Input.okWideB Tryd.prog ((World.laidAll Tryd.prog os Rows.tripleCutsUptoRow.laid).forCall (fun _ _ => 0) ⟨#[], #[.slice none 0 0, .int .i64 0], []⟩) 4 ⟨#[], #[.slice none 0 0, .int .i64 0], []⟩ = true := by kernel_rfl
 have hsz : Rows.tripleCutsSpec.sizedB enc Tryd.prog Tryd.f4 false ((World.laidAll Tryd.prog os Rows.tripleCutsUptoRow.laid).forCall (fun _ _ => 0) ⟨#[], #[.slice none 0 0, .int .i64 0], []⟩).memory #[.slice none 0 0, .int .i64 0] 8 = true := by kernel_rfl
 have hx : DataW.whole enc Tryd.prog ((World.laidAll Tryd.prog os Rows.tripleCutsUptoRow.laid).forCall (fun _ _ => 0) ⟨#[], #[.slice none 0 0, .int .i64 0], []⟩).memory Tryd.f4.params.toList (Rows.OpenSpec.upto Rows.tripleCutsSpec).vars false [.slice none 0 0, .int .i64 0] 8 = some ([.nil, .lit (.int .i64 0)], [], []) := by kernel_rfl
 refine ⟨World.laidAll Tryd.prog os Rows.tripleCutsUptoRow.laid, fun _ _ => 0, ⟨#[], #[.slice none 0 0, .int .i64 0], []⟩, World.laidAll_os _ _ _, World.shaped_of_ZipB (by kernel_rfl) (by kernel_rfl), (Input.okWide_of_okWideB (base := 0) hok).1, (Input.okWide_of_okWideB hok).2, ⟨⟨?_, ?_⟩, sizedMet_of_sizedB hsz⟩, ?_⟩
 ·exact (OpenSpec.pre_some cond [] false _ _).2 ⟨_, _, _, DataW.Whole_of_whole hx, rfl, by kernel_rfl⟩
 ·rw [MakeChecks.laidMetH_plain _ _ _ (by kernel_rfl)]
  exact laidMet_laidAll _ (by kernel_rfl) (by kernel_rfl)
 ·simp only [Assume.holds]
  exact ⟨by simp, by simp, fun _ => Modest.zero, by simp, by simp⟩
set_option maxRecDepth 100000 in
theorem lifted (os : Os) (started : os.Started) (H : Type) (enc : TypeId × Value → H) (F0 : Stop.Interp) :
  ReturnsInHanded {} Tryd.checked os 4 .any (fun w args => ((Rows.OpenSpec.upto Rows.tripleCutsSpec).pre enc Tryd.prog Tryd.f4 [] false w args ∧ laidMetH Tryd.prog Rows.tripleCutsUptoRow.laid w) ∧ sizedMet enc Tryd.prog Tryd.f4 (Rows.OpenSpec.upto Rows.tripleCutsSpec) false w args)
   (((Rows.OpenSpec.upto Rows.tripleCutsSpec).at F0).post enc Tryd.prog Tryd.f4 false true false false) := by
 refine returnsInHanded_of_cond_and (C := Tryd.checked) cond (X := fun w _ => laidMetH Tryd.prog Rows.tripleCutsUptoRow.laid w) (fun _ _ _ hh h => h.of_heap hh) own started (by kernel_rfl) Tryd.func4 (wit os H enc) ?_
 intro W base args ds gs before hval0 hW _ hk _ _
 have hval : ∀ (j : Nat) t v, Tryd.f4.params[j]? = some t → args[j]? = some v → Value.okWide Tryd.prog W .any base t v := hval0
 have hW' := hW
 obtain ⟨p, q, hA0, hV, rfl, hfz, hnd⟩ := hW
 have hA : DataW.TrodAll enc Tryd.prog W 0 (fun _ => true) true Tryd.f4.params.toList args.toList ds p := hA0
 rw [Tryd.params4] at hA hval
 obtain ⟨v0, vs0, d0, ds0, p0, q0, hargs, rfl, rfl, h0, r0⟩ := trodAll_cons hA
 obtain ⟨v1, vs1, d1, ds1, p1, q1, rfl, rfl, rfl, h1, r1⟩ := trodAll_cons r0
 obtain ⟨rfl, rfl, rfl⟩ := trodAll_nil r1
 obtain rfl : args = #[v0, v1] := by cases args; simp_all
 obtain ⟨rfl, rfl⟩ := trodVars_none hV
 have hbulk : Rows.uptoBulk d0 ≤ 1048576 := by
  have := of_decide_eq_true hk
  rw [List.append_nil, Rows.uptoBulkAll] at this
  omega
 have k0 := h0
 have k1 := h1
 have lt0 : ∀ x ∈ p0, x.block < W.heap.size := by obtain ⟨m, hm⟩ := k0; exact DataW.trod_lt m _ _ _ hm
 have lt1 : ∀ x ∈ p1, x.block < W.heap.size := by obtain ⟨m, hm⟩ := k1; exact DataW.trod_lt m _ _ _ hm
 obtain ⟨A0, c0, l0, rfl, hc0, hC0, hup⟩ := open_triplesB (hval 0 22 v0 rfl rfl) h0
 obtain ⟨n1, rfl, rfl, rfl, _⟩ := open_int Tryd.underlying3 (hval 1 3 v1 rfl rfl) h1
 clear hA0 hval0
 obtain ⟨k, hk⟩ := PTm.tripleCuts_pure l0 n1 (fun x hx => by
  have := hup x hx
  unfold Upto at this
  unfold PTm.SmallT
  omega)
 refine (PTm.w5_TripleCuts.calls k A0 c0 l0 n1 true W hC0 hc0 hk).mono fun e W' ⟨he, bel⟩ => ?_
 subst he
 exact ⟨_, rfl, _, _, _, [], _, [], hW', trodAll_mk1 (shut_bool Tryd.underlying4 _), trodAll_cons_mk (Below.trod laidOut (by kernel_rfl) (of_decide_eq_true (by kernel_rfl)) k0 bel lt0) (trodAll_cons_mk (Below.trod laidOut (by kernel_rfl) (of_decide_eq_true (by kernel_rfl)) k1 bel lt1) trodAll_mk0), rfl, bel.frame _, fun h => by cases h⟩
theorem over : Rows.tripleCutsUptoRow.holds Tryd.pinned (Rows.OpenSpec.upto Rows.tripleCutsSpec) :=
 OpenClaim.holds_of_cond 4 Tryd.f4 rfl rfl rfl rfl rfl rfl rfl ⟨rfl, rfl, rfl, rfl, rfl⟩ rfl rfl rfl rfl rfl (by kernel_rfl) Tryd.func4 (by kernel_rfl)
  (of_decide_eq_true (by kernel_rfl)) (by unfold Func.isWrapper; first | (rw [if_pos (by decide +kernel)]; kernel_rfl) | (rw [if_neg (by decide +kernel)]; exact ⟨rfl, rfl⟩))
  (fun os started H enc _ F0 => lifted os started H enc F0)
theorem card_holds : Rows.TripleCutsUptoCardSaid :=
 Claim7.holds_tied_plain_at .later [] [.data, .pinned] true (true, "3b74f657595162979b1995dc4232d878d394c59233762351a3b030c6520cacd3") true
  over (fun _ h => by cases h) (by kernel_rfl) (fun _ h => by cases h) tripleCutsUpto_row_tie rfl ⟨rfl, rfl⟩ (by kernel_rfl) rfl
  (fun f fn hf hfn => by
   obtain rfl : f = 4 := Option.some.inj ((show Tryd.prog.funcNamed "rhizome/rhizomelaw05.TripleCuts" = some 4 by kernel_rfl).symm.trans hf) |>.symm
   obtain rfl : fn = Tryd.f4 := (Option.some.inj (Tryd.func4.symm.trans hfn)).symm
   exact ⟨by kernel_rfl, fun j t ht => by
    rw [Tryd.params4] at ht
    have hm : t ∈ [22, 3] := by simpa using Array.mem_of_getElem? ht
    have hall : ([22, 3].all fun u => !Tryd.prog.wantsStandIn u) = true := by kernel_rfl
    exact (show Tryd.prog.wantsStandIn t = false by simpa using List.all_eq_true.1 hall t hm)⟩)
  (by kernel_rfl)
end Go.Proofs.YtjnhdamilbcmpaaDoor.tripleCuts
namespace Go.Proofs.YtjnhdamilbcmpaaDoor
theorem tripleCuts_card : Rows.TripleCutsUptoCardSaid := tripleCuts.card_holds
end Go.Proofs.YtjnhdamilbcmpaaDoor
#print axioms Go.Proofs.YtjnhdamilbcmpaaDoor.tripleCuts_card

import Derived.Test.YtpbphelaeleikaaGreatDoorXtFoldB
import Derived.Test.YtpbphelaeleikaaGreatDoorXtPLtx0
import Derived.Test.YtpbphelaeleikaaGreatDoorXtPLtx1
import Derived.Test.YtpbphelaeleikaaGreatDoorXtPLtx2
import Derived.Test.YtpbphelaeleikaaGreatDoorXtPLtx3
import Derived.Test.YtpbphelaeleikaaGreatDoorXtPLtx4
import Derived.Test.YtpbphelaeleikaaGreatDoorXtPLtx5
import Derived.Test.YtpbphelaeleikaaGreatDoorXtPLtx6
import Derived.Test.YtpbphelaeleikaaGreatDoorXtPLtx7
import Derived.Test.YtpbphelaeleikaaGreatDoorXtPLtx8
import Derived.Test.YtpbphelaeleikaaGreatDoorXtPLtx9
import Derived.Test.YtpbphelaeleikaaGreatDoorXtPLtx10
import Derived.Test.YtpbphelaeleikaaGreatDoorXtPLtx11
import Derived.Test.YtpbphelaeleikaaGreatDoorXtPLtx12
import Derived.Test.YtpbphelaeleikaaGreatDoorXtPLtx13
import Derived.Test.YtpbphelaeleikaaGreatDoorXtPLtx14
import Derived.Test.YtpbphelaeleikaaGreatDoorXtPLtx15
import Derived.Test.YtpbphelaeleikaaGreatDoorXtPLtx16
import Derived.Test.YtpbphelaeleikaaGreatDoorXtPLtx17
import Derived.Test.YtpbphelaeleikaaGreatDoorXtPLtx18
import Derived.Test.YtpbphelaeleikaaGreatDoorXtPLtx19
import Derived.Test.YtpbphelaeleikaaGreatDoorXtPLtx20
namespace Go.Proofs.YtpbphelaeleikaaGreatDoor
open Go.RowKit Go.Lib
def fEq (s t : ByteArray) : Bool := if t.data.toList.all (fun b => decide (b.toNat < 128)) = true then Lib.equalFold s.data.toList t.data.toList else false
theorem first_high (t : ByteArray) (h : ¬ t.data.toList.all (fun b => decide (b.toNat < 128)) = true) : ∃ i0, ∃ hi0 : i0 < t.size, (∀ j (h : j < t.size), j < i0 → (t[j]'h).toNat < 128) ∧ 128 ≤ (t[i0]'hi0).toNat := by
 have : ∃ i, i < t.size ∧ ∃ hi : i < t.size, 128 ≤ (t[i]'hi).toNat := by
  refine Classical.byContradiction fun hn => h ?_
  rw [List.all_eq_true]
  intro b hb
  obtain ⟨i, hi, rfl⟩ := List.mem_iff_getElem.1 hb
  refine decide_eq_true ?_
  refine Classical.byContradiction fun hg => hn ⟨i, by simpa using hi, by simpa using hi, ?_⟩
  have : t[i]'(by simpa using hi) = t.data.toList[i]'hi := by simp [ByteArray.getElem_eq_getElem_data]
  rw [this]
  omega
 obtain ⟨n, hn⟩ := this
 clear h
 induction n using Nat.strongRecOn with
 | _ n ih =>
  by_cases hm : ∃ j, ∃ h : j < t.size, j < n ∧ 128 ≤ (t[j]'h).toNat
  ·obtain ⟨j, hj, h1, h2⟩ := hm
   exact ih j h1 ⟨hj, hj, h2⟩
  ·exact ⟨n, hn.1, fun j h hj => by
    refine Classical.byContradiction fun hg => hm ⟨j, h, hj, by omega⟩, hn.2.2⟩
theorem ef_any (s t : ByteArray) (w : World) (hs : s.size < 4294967281) (hst : t.size = s.size) (HT : FoldTabs w) (has : s.data.toList.all (fun b => decide (b.toNat < 128)) = true) :
  Calls Tryz.prog 22 #[.string s, .string t] w fun e w' => e = .returned (.bool (fEq s t)) ∧ Below w.heap.size w w' := by
 have key : ∀ {l : List UInt8}, l.all (fun b => decide (b.toNat < 128)) = true → ∀ (j : Nat) b, l[j]? = some b → b.toNat < 128 := fun {l} hl j b hb => by
  have := List.all_eq_true.1 hl b (List.mem_of_getElem? hb)
  simpa using this
 unfold fEq
 by_cases c : t.data.toList.all (fun b => decide (b.toNat < 128)) = true
 ·rw [if_pos c]
  exact (Tryz.strings_EqualFold s t w hs (key has) (key c)).mono fun e w' ⟨he, hw⟩ => ⟨he, by rw [hw]; exact Below.refl _ _⟩
 ·rw [if_neg c]
  obtain ⟨i0, hi0, h1, h2⟩ := first_high t c
  refine ef_bad s t i0 w hs hst HT hi0 (fun j h => key has j _ ?_) h1 h2
  rw [ByteArray.getElem_eq_getElem_data]
  simp
end Go.Proofs.YtpbphelaeleikaaGreatDoor
namespace Go.Proofs.YtpbphelaeleikaaGreatDoor.PLt
open Go.RowKit Go.Proofs.YtpbphelaeleikaaGreatDoorW.PrintWords Go.Proofs.YtpbphelaeleikaaGreatDoorW.PrintLast Go.Proofs.YtpbphelaeleikaaGreatDoorW.PrintMore
attribute [local go_sem] max2_int min2_int max_two min_two max_three min_three max_four min_four
set_option linter.unusedVariables false
set_option linter.unusedSimpArgs false
set_option maxHeartbeats 8000000 in
set_option maxRecDepth 100000 in
theorem lex_Word.six (a0_1 : ByteArray) (a0_2 : Int) (a0_3 : ByteArray) (a0_4 : ByteArray) (a0_5 : Int) (a1 : ByteArray) (w : World) (hs : a0_1.size < 4294967281) (hss : a1.size = a0_1.size) (hT : FoldTabs w) (has : a0_1.data.toList.all (fun b => decide (b.toNat < 128)) = true) :
  Calls Tryz.prog 12 #[.agg #[.int .i64 6, .string a0_1, .int .i64 a0_2, .string a0_3, .string a0_4, .int .i64 a0_5], .string a1] w fun e w' => e = .returned (.bool (fEq a0_1 a1)) ∧ Below w.heap.size w w' := by
 obtain ⟨a0_0, ha⟩ : ∃ a : Int, (6 : Int) = a := ⟨_, rfl⟩
 rw [ha]
 have hu43 := Tryz.underlying43
 have HB := Ad.mk (Below.refl w.heap.size w)
 have c3b0 : (a0_0 == 6) = true := beq_iff_eq.mpr ha.symm
 have c3b1 : (a0_0 != 6) = false := bne_eq_false_iff_eq.mpr ha.symm
 have c4b0 : ((a0_1.size : Int) == (a1.size : Int)) = true := by rw [hss]; simp
 have c4b2 : (a0_1.size == a1.size) = true := by rw [hss]; simp
 have HSS := Ad.mk hss
 have HSZ := Ad.mk hs
 have HT := Ad.mk hT
 have HAS := Ad.mk has
 clear hss hs hT has ha
 go_enter Tryz.func12, Tryz.ntmps12
 go_wp2_with (first | ((with_reducible refine gate_dst (N := 2) rfl ?_); (try (refine gate_guard (by rfl) ?_; dsimp only)); refine box_event ?hg (N := 2) ?hd (cs := #[.int .i64 a0_0, .string a0_1, .int .i64 a0_2, .string a0_3, .string a0_4, .int .i64 a0_5]) (t := 43) ?hr ?_; (case hd => rfl); (case hg => rfl); (case hr => first | (go_simp; done) | (go_simp; rfl)); intro gb363 hg w6 hbox hb; have n0_ := Ad.mk (below_step (by repeat (first | (with_reducible first | exact HB.out | apply below_alloc | apply pw_below_drewN | apply below_drew1) | exact HB.out)) hb); have n1_ := Ad.mk (hbox); have n2_ := Ad.mk ((by rw [hg]; exact (below_size (by repeat (first | (with_reducible first | exact HB.out | apply below_alloc | apply pw_below_drewN | apply below_drew1) | exact HB.out))) : w.heap.size ≤ gb363)); have n3_ := Ad.mk ((by rw [hg]; exact (below_size (by repeat (first | (with_reducible first | exact HB.out | apply below_alloc | apply pw_below_drewN | apply below_drew1) | exact HB.out))) : w.heap.size ≤ gb363)); clear HB; have HB := n0_; have BK363 := n1_; have GW363 := n2_; have GE363 := n3_; clear n0_ n1_ n2_ n3_; clear hb hbox hg; have hcz7_0 : w6.cell? ⟨gb363, 0, none⟩ = some (.int .i64 a0_0) := (blk_cell BK363.out 0).trans rfl; have hcz7_1 : w6.cell? ⟨gb363, 1, none⟩ = some (.string a0_1) := (blk_cell BK363.out 1).trans rfl; have hcz7_2 : w6.cell? ⟨gb363, 2, none⟩ = some (.int .i64 a0_2) := (blk_cell BK363.out 2).trans rfl; have hcz7_3 : w6.cell? ⟨gb363, 3, none⟩ = some (.string a0_3) := (blk_cell BK363.out 3).trans rfl; have hcz7_4 : w6.cell? ⟨gb363, 4, none⟩ = some (.string a0_4) := (blk_cell BK363.out 4).trans rfl; have hcz7_5 : w6.cell? ⟨gb363, 5, none⟩ = some (.int .i64 a0_5) := (blk_cell BK363.out 5).trans rfl; have hfz7_0 := blk_frozen BK363.out 0; have hfz7_1 := blk_frozen BK363.out 1; have hfz7_2 := blk_frozen BK363.out 2; have hfz7_3 := blk_frozen BK363.out 3; have hfz7_4 := blk_frozen BK363.out 4; have hfz7_5 := blk_frozen BK363.out 5) | (go_at_call 22; refine (ef_any a0_1 a1 _ HSZ.out HSS.out (HT.out.below (by repeat (first | (with_reducible first | exact HB.out | apply below_alloc | apply pw_below_drewN | apply below_drew1) | exact HB.out))) HAS.out).mono ?_; rintro e w' ⟨rfl, hb2⟩))
 go_ret
 exact ⟨rfl, below_step (by repeat (first | (with_reducible first | exact HB.out | apply below_alloc | apply pw_below_drewN | apply below_drew1) | exact HB.out)) hb2⟩
end Go.Proofs.YtpbphelaeleikaaGreatDoor.PLt

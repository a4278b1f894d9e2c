import Derived.Test.YtegmcmndjnbkaaaDoorOrPSortx0
import Derived.Test.YtegmcmndjnbkaaaDoorOrPSortx8
import Derived.Test.YtegmcmndjnbkaaaDoorOrPSortx11
import Derived.Test.YtegmcmndjnbkaaaDoorOrPSortx12
namespace Go.Proofs.YtegmcmndjnbkaaaDoor.PSort
open Go.RowKit Go.Proofs.YtegmcmndjnbkaaaDoorW.PrintWords Go.Proofs.YtegmcmndjnbkaaaDoorW.PrintLast Go.Proofs.YtegmcmndjnbkaaaDoorW.PrintMore
attribute [local go_sem] max2_int min2_int max_two min_two max_three min_three max_four min_four
set_option linter.unusedVariables false
set_option linter.unusedSimpArgs false
set_option maxHeartbeats 8000000 in
set_option maxRecDepth 100000 in
theorem rhizomeref02_Compare.callsD (a0_0 : Int) (a0_1 : ByteArray) (a0_2 : ByteArray) (a1_0 : Int) (a1_1 : ByteArray) (a1_2 : ByteArray) (r : Int) (w : World) (h : rhizomeref02_Compare.f a0_0 a0_1 a0_2 a1_0 a1_1 a1_2 = some r) :
    Calls Tryd.prog 30 #[.agg #[.int .i64 a0_0, .string a0_1, .string a0_2], .agg #[.int .i64 a1_0, .string a1_1, .string a1_2]] w fun e w' => e = .returned (.int .i64 r) ∧ BelowD w.heap.size w w' := by
  have hu26 := Tryd.underlying26
  have HB := Aside0.mk (BelowD.refl w.heap.size w)
  have H : (if a0_0 < a1_0 then (some (-1)) else (if a0_0 > a1_0 then (some 1) else ((rhizomeref02_texts.f a0_1 a1_1).bind fun t229 => (if t229 = 0 then ((rhizomeref02_texts.f a0_2 a1_2).bind fun t230 => (some t230)) else (some t229))))) = some r := h
  clear h
  by_cases c3 : a0_0 < a1_0
  · rw [if_pos c3] at H
    have c3b0 : decide (a0_0 < a1_0) = true := decide_eq_true c3
    clear c3
    obtain rfl := Option.some.inj H
    go_enter Tryd.func30, Tryd.ntmps30
    go_wp2_with (first | ((with_reducible refine gate_dst (N := 2) rfl ?_); refine box_eventD ?hg (N := 2) ?hd (cs := #[.int .i64 a0_0, .string a0_1, .string a0_2]) (t := 26) ?hr ?_; (case hd => rfl); (case hg => rfl); (case hr => first | (go_simp; done) | (go_simp; rfl)); intro gb227 hg w4 hbox hb; have n0_ := Aside0.mk (belowD_step (by repeat (first | (with_reducible first | exact HB.out | apply belowD_alloc | apply belowD_drewN | apply belowD_drew1) | exact HB.out)) hb); have n1_ := Aside0.mk (hbox); have n2_ := Aside0.mk ((by rw [hg]; exact (belowD_size (by repeat (first | (with_reducible first | exact HB.out | apply belowD_alloc | apply belowD_drewN | apply belowD_drew1) | exact HB.out))) : w.heap.size ≤ gb227)); have n3_ := Aside0.mk ((by rw [hg]; exact (belowD_size (by repeat (first | (with_reducible first | exact HB.out | apply belowD_alloc | apply belowD_drewN | apply belowD_drew1) | exact HB.out))) : w.heap.size ≤ gb227)); clear HB; have HB := n0_; have BK227 := n1_; have GW227 := n2_; have GE227 := n3_; clear n0_ n1_ n2_ n3_; clear hb hbox hg) | ((with_reducible refine gate_dst (N := 3) rfl ?_); refine box_eventD ?hg (N := 3) ?hd (cs := #[.int .i64 a1_0, .string a1_1, .string a1_2]) (t := 26) ?hr ?_; (case hd => rfl); (case hg => rfl); (case hr => first | (go_simp; done) | (go_simp; rfl)); intro gb228 hg w5 hbox hb; have n0_ := Aside0.mk (blk_below (g := gb227) (o := .cells #[.int .i64 a0_0, .string a0_1, .string a0_2] 26 (0, 0)) (by (with_reducible repeat (first | refine blk_drewN ?_ _ | refine blk_drew ?_ | refine blk_alloc ?_ _)); exact BK227.out) hb.b); have n1_ := Aside0.mk (belowD_step (by repeat (first | (with_reducible first | exact HB.out | apply belowD_alloc | apply belowD_drewN | apply belowD_drew1) | exact HB.out)) hb); have n2_ := Aside0.mk (hbox); have n3_ := Aside0.mk ((by rw [hg]; exact (belowD_size (by repeat (first | (with_reducible first | exact HB.out | apply belowD_alloc | apply belowD_drewN | apply belowD_drew1) | exact HB.out))) : w.heap.size ≤ gb228)); have n4_ := Aside0.mk ((by rw [hg]; exact (belowD_size (by repeat (first | (with_reducible first | exact HB.out | apply belowD_alloc | apply belowD_drewN | apply belowD_drew1) | exact HB.out))) : w.heap.size ≤ gb228)); have n5_ := Aside0.mk ((by rw [hg]; exact Nat.ne_of_lt (blk_lt (g := gb227) (o := .cells #[.int .i64 a0_0, .string a0_1, .string a0_2] 26 (0, 0)) (by (with_reducible repeat (first | refine blk_drewN ?_ _ | refine blk_drew ?_ | refine blk_alloc ?_ _)); exact BK227.out)) : gb227 ≠ gb228)); have n6_ := Aside0.mk ((by rw [hg]; exact Nat.ne_of_gt (blk_lt (g := gb227) (o := .cells #[.int .i64 a0_0, .string a0_1, .string a0_2] 26 (0, 0)) (by (with_reducible repeat (first | refine blk_drewN ?_ _ | refine blk_drew ?_ | refine blk_alloc ?_ _)); exact BK227.out)) : gb228 ≠ gb227)); clear BK227; clear HB; have BK227 := n0_; have HB := n1_; have BK228 := n2_; have GW228 := n3_; have GE228 := n4_; have NB227_228 := n5_; have NB228_227 := n6_; clear n0_ n1_ n2_ n3_ n4_ n5_ n6_; clear hb hbox hg; have hnb6 := NB227_228.out; have hnc6 := NB228_227.out; have hcz7_0 : w5.cell? ⟨gb227, 0, none⟩ = some (.int .i64 a0_0) := (blk_cell BK227.out 0).trans rfl; have hcz7_1 : w5.cell? ⟨gb227, 1, none⟩ = some (.string a0_1) := (blk_cell BK227.out 1).trans rfl; have hcz7_2 : w5.cell? ⟨gb227, 2, none⟩ = some (.string a0_2) := (blk_cell BK227.out 2).trans rfl; have hfz7_0 := blk_frozen BK227.out 0; have hfz7_1 := blk_frozen BK227.out 1; have hfz7_2 := blk_frozen BK227.out 2; have hcz8_0 : w5.cell? ⟨gb228, 0, none⟩ = some (.int .i64 a1_0) := (blk_cell BK228.out 0).trans rfl; have hcz8_1 : w5.cell? ⟨gb228, 1, none⟩ = some (.string a1_1) := (blk_cell BK228.out 1).trans rfl; have hcz8_2 : w5.cell? ⟨gb228, 2, none⟩ = some (.string a1_2) := (blk_cell BK228.out 2).trans rfl; have hfz8_0 := blk_frozen BK228.out 0; have hfz8_1 := blk_frozen BK228.out 1; have hfz8_2 := blk_frozen BK228.out 2))
    go_ret
    exact ⟨by first | rfl | (simp [errW_none, errW_some] <;> rfl) | (simp [*, errW_none, errW_some] <;> rfl), by repeat (first | (with_reducible first | exact HB.out | apply belowD_alloc | apply belowD_drewN | apply belowD_drew1) | exact HB.out)⟩
  · rw [if_neg c3] at H
    have c3b0 : decide (a0_0 < a1_0) = false := decide_eq_false c3
    clear c3
    by_cases c9 : a0_0 > a1_0
    · rw [if_pos c9] at H
      have c9b0 : decide (a1_0 < a0_0) = true := decide_eq_true c9
      clear c9
      obtain rfl := Option.some.inj H
      go_enter Tryd.func30, Tryd.ntmps30
      go_wp2_with (first | ((with_reducible refine gate_dst (N := 2) rfl ?_); refine box_eventD ?hg (N := 2) ?hd (cs := #[.int .i64 a0_0, .string a0_1, .string a0_2]) (t := 26) ?hr ?_; (case hd => rfl); (case hg => rfl); (case hr => first | (go_simp; done) | (go_simp; rfl)); intro gb227 hg w10 hbox hb; have n0_ := Aside0.mk (belowD_step (by repeat (first | (with_reducible first | exact HB.out | apply belowD_alloc | apply belowD_drewN | apply belowD_drew1) | exact HB.out)) hb); have n1_ := Aside0.mk (hbox); have n2_ := Aside0.mk ((by rw [hg]; exact (belowD_size (by repeat (first | (with_reducible first | exact HB.out | apply belowD_alloc | apply belowD_drewN | apply belowD_drew1) | exact HB.out))) : w.heap.size ≤ gb227)); have n3_ := Aside0.mk ((by rw [hg]; exact (belowD_size (by repeat (first | (with_reducible first | exact HB.out | apply belowD_alloc | apply belowD_drewN | apply belowD_drew1) | exact HB.out))) : w.heap.size ≤ gb227)); clear HB; have HB := n0_; have BK227 := n1_; have GW227 := n2_; have GE227 := n3_; clear n0_ n1_ n2_ n3_; clear hb hbox hg) | ((with_reducible refine gate_dst (N := 3) rfl ?_); refine box_eventD ?hg (N := 3) ?hd (cs := #[.int .i64 a1_0, .string a1_1, .string a1_2]) (t := 26) ?hr ?_; (case hd => rfl); (case hg => rfl); (case hr => first | (go_simp; done) | (go_simp; rfl)); intro gb228 hg w11 hbox hb; have n0_ := Aside0.mk (blk_below (g := gb227) (o := .cells #[.int .i64 a0_0, .string a0_1, .string a0_2] 26 (0, 0)) (by (with_reducible repeat (first | refine blk_drewN ?_ _ | refine blk_drew ?_ | refine blk_alloc ?_ _)); exact BK227.out) hb.b); have n1_ := Aside0.mk (belowD_step (by repeat (first | (with_reducible first | exact HB.out | apply belowD_alloc | apply belowD_drewN | apply belowD_drew1) | exact HB.out)) hb); have n2_ := Aside0.mk (hbox); have n3_ := Aside0.mk ((by rw [hg]; exact (belowD_size (by repeat (first | (with_reducible first | exact HB.out | apply belowD_alloc | apply belowD_drewN | apply belowD_drew1) | exact HB.out))) : w.heap.size ≤ gb228)); have n4_ := Aside0.mk ((by rw [hg]; exact (belowD_size (by repeat (first | (with_reducible first | exact HB.out | apply belowD_alloc | apply belowD_drewN | apply belowD_drew1) | exact HB.out))) : w.heap.size ≤ gb228)); have n5_ := Aside0.mk ((by rw [hg]; exact Nat.ne_of_lt (blk_lt (g := gb227) (o := .cells #[.int .i64 a0_0, .string a0_1, .string a0_2] 26 (0, 0)) (by (with_reducible repeat (first | refine blk_drewN ?_ _ | refine blk_drew ?_ | refine blk_alloc ?_ _)); exact BK227.out)) : gb227 ≠ gb228)); have n6_ := Aside0.mk ((by rw [hg]; exact Nat.ne_of_gt (blk_lt (g := gb227) (o := .cells #[.int .i64 a0_0, .string a0_1, .string a0_2] 26 (0, 0)) (by (with_reducible repeat (first | refine blk_drewN ?_ _ | refine blk_drew ?_ | refine blk_alloc ?_ _)); exact BK227.out)) : gb228 ≠ gb227)); clear BK227; clear HB; have BK227 := n0_; have HB := n1_; have BK228 := n2_; have GW228 := n3_; have GE228 := n4_; have NB227_228 := n5_; have NB228_227 := n6_; clear n0_ n1_ n2_ n3_ n4_ n5_ n6_; clear hb hbox hg; have hnb12 := NB227_228.out; have hnc12 := NB228_227.out; have hcz13_0 : w11.cell? ⟨gb227, 0, none⟩ = some (.int .i64 a0_0) := (blk_cell BK227.out 0).trans rfl; have hcz13_1 : w11.cell? ⟨gb227, 1, none⟩ = some (.string a0_1) := (blk_cell BK227.out 1).trans rfl; have hcz13_2 : w11.cell? ⟨gb227, 2, none⟩ = some (.string a0_2) := (blk_cell BK227.out 2).trans rfl; have hfz13_0 := blk_frozen BK227.out 0; have hfz13_1 := blk_frozen BK227.out 1; have hfz13_2 := blk_frozen BK227.out 2; have hcz14_0 : w11.cell? ⟨gb228, 0, none⟩ = some (.int .i64 a1_0) := (blk_cell BK228.out 0).trans rfl; have hcz14_1 : w11.cell? ⟨gb228, 1, none⟩ = some (.string a1_1) := (blk_cell BK228.out 1).trans rfl; have hcz14_2 : w11.cell? ⟨gb228, 2, none⟩ = some (.string a1_2) := (blk_cell BK228.out 2).trans rfl; have hfz14_0 := blk_frozen BK228.out 0; have hfz14_1 := blk_frozen BK228.out 1; have hfz14_2 := blk_frozen BK228.out 2))
      go_ret
      exact ⟨by first | rfl | (simp [errW_none, errW_some] <;> rfl) | (simp [*, errW_none, errW_some] <;> rfl), by repeat (first | (with_reducible first | exact HB.out | apply belowD_alloc | apply belowD_drewN | apply belowD_drew1) | exact HB.out)⟩
    · rw [if_neg c9] at H
      have c9b0 : decide (a1_0 < a0_0) = false := decide_eq_false c9
      clear c9
      replace H := Option.bind_eq_some_iff.mp H
      obtain ⟨t229, A150, H⟩ := H
      replace H : (if t229 = 0 then ((rhizomeref02_texts.f a0_2 a1_2).bind fun t230 => (some t230)) else (some t229)) = some r := H
      have A15 := Aside0.mk A150
      clear A150
      by_cases c16 : t229 = 0
      · rw [if_pos c16] at H
        have c16b0 : (t229 == 0) = true := beq_iff_eq.mpr c16
        have c16b1 : (t229 != 0) = false := bne_eq_false_iff_eq.mpr c16
        clear c16
        replace H := Option.bind_eq_some_iff.mp H
        obtain ⟨t230, A170, H⟩ := H
        replace H : (some t230) = some r := H
        have A17 := Aside0.mk A170
        clear A170
        obtain rfl := Option.some.inj H
        go_enter Tryd.func30, Tryd.ntmps30
        go_wp2_with (first | ((with_reducible refine gate_dst (N := 2) rfl ?_); refine box_eventD ?hg (N := 2) ?hd (cs := #[.int .i64 a0_0, .string a0_1, .string a0_2]) (t := 26) ?hr ?_; (case hd => rfl); (case hg => rfl); (case hr => first | (go_simp; done) | (go_simp; rfl)); intro gb227 hg w18 hbox hb; have n0_ := Aside0.mk (belowD_step (by repeat (first | (with_reducible first | exact HB.out | apply belowD_alloc | apply belowD_drewN | apply belowD_drew1) | exact HB.out)) hb); have n1_ := Aside0.mk (hbox); have n2_ := Aside0.mk ((by rw [hg]; exact (belowD_size (by repeat (first | (with_reducible first | exact HB.out | apply belowD_alloc | apply belowD_drewN | apply belowD_drew1) | exact HB.out))) : w.heap.size ≤ gb227)); have n3_ := Aside0.mk ((by rw [hg]; exact (belowD_size (by repeat (first | (with_reducible first | exact HB.out | apply belowD_alloc | apply belowD_drewN | apply belowD_drew1) | exact HB.out))) : w.heap.size ≤ gb227)); clear HB; have HB := n0_; have BK227 := n1_; have GW227 := n2_; have GE227 := n3_; clear n0_ n1_ n2_ n3_; clear hb hbox hg) | ((with_reducible refine gate_dst (N := 3) rfl ?_); refine box_eventD ?hg (N := 3) ?hd (cs := #[.int .i64 a1_0, .string a1_1, .string a1_2]) (t := 26) ?hr ?_; (case hd => rfl); (case hg => rfl); (case hr => first | (go_simp; done) | (go_simp; rfl)); intro gb228 hg w19 hbox hb; have n0_ := Aside0.mk (blk_below (g := gb227) (o := .cells #[.int .i64 a0_0, .string a0_1, .string a0_2] 26 (0, 0)) (by (with_reducible repeat (first | refine blk_drewN ?_ _ | refine blk_drew ?_ | refine blk_alloc ?_ _)); exact BK227.out) hb.b); have n1_ := Aside0.mk (belowD_step (by repeat (first | (with_reducible first | exact HB.out | apply belowD_alloc | apply belowD_drewN | apply belowD_drew1) | exact HB.out)) hb); have n2_ := Aside0.mk (hbox); have n3_ := Aside0.mk ((by rw [hg]; exact (belowD_size (by repeat (first | (with_reducible first | exact HB.out | apply belowD_alloc | apply belowD_drewN | apply belowD_drew1) | exact HB.out))) : w.heap.size ≤ gb228)); have n4_ := Aside0.mk ((by rw [hg]; exact (belowD_size (by repeat (first | (with_reducible first | exact HB.out | apply belowD_alloc | apply belowD_drewN | apply belowD_drew1) | exact HB.out))) : w.heap.size ≤ gb228)); have n5_ := Aside0.mk ((by rw [hg]; exact Nat.ne_of_lt (blk_lt (g := gb227) (o := .cells #[.int .i64 a0_0, .string a0_1, .string a0_2] 26 (0, 0)) (by (with_reducible repeat (first | refine blk_drewN ?_ _ | refine blk_drew ?_ | refine blk_alloc ?_ _)); exact BK227.out)) : gb227 ≠ gb228)); have n6_ := Aside0.mk ((by rw [hg]; exact Nat.ne_of_gt (blk_lt (g := gb227) (o := .cells #[.int .i64 a0_0, .string a0_1, .string a0_2] 26 (0, 0)) (by (with_reducible repeat (first | refine blk_drewN ?_ _ | refine blk_drew ?_ | refine blk_alloc ?_ _)); exact BK227.out)) : gb228 ≠ gb227)); clear BK227; clear HB; have BK227 := n0_; have HB := n1_; have BK228 := n2_; have GW228 := n3_; have GE228 := n4_; have NB227_228 := n5_; have NB228_227 := n6_; clear n0_ n1_ n2_ n3_ n4_ n5_ n6_; clear hb hbox hg; have hnb20 := NB227_228.out; have hnc20 := NB228_227.out; have hcz21_0 : w19.cell? ⟨gb227, 0, none⟩ = some (.int .i64 a0_0) := (blk_cell BK227.out 0).trans rfl; have hcz21_1 : w19.cell? ⟨gb227, 1, none⟩ = some (.string a0_1) := (blk_cell BK227.out 1).trans rfl; have hcz21_2 : w19.cell? ⟨gb227, 2, none⟩ = some (.string a0_2) := (blk_cell BK227.out 2).trans rfl; have hfz21_0 := blk_frozen BK227.out 0; have hfz21_1 := blk_frozen BK227.out 1; have hfz21_2 := blk_frozen BK227.out 2; have hcz22_0 : w19.cell? ⟨gb228, 0, none⟩ = some (.int .i64 a1_0) := (blk_cell BK228.out 0).trans rfl; have hcz22_1 : w19.cell? ⟨gb228, 1, none⟩ = some (.string a1_1) := (blk_cell BK228.out 1).trans rfl; have hcz22_2 : w19.cell? ⟨gb228, 2, none⟩ = some (.string a1_2) := (blk_cell BK228.out 2).trans rfl; have hfz22_0 := blk_frozen BK228.out 0; have hfz22_1 := blk_frozen BK228.out 1; have hfz22_2 := blk_frozen BK228.out 2) | ((with_reducible refine gate_callee (f := 46) rfl ?_); refine goesL_ (some 20) rfl rfl Tryd.func46 (by kernel_rfl) rfl #[.string a0_1, .string a1_1] rfl (by (try simp only [List.map_toArray, List.map_cons, List.map_nil]); first | done | rfl | (simp only [List.length_drop, List.length_take]; rfl)) ?_; (with_reducible refine (rhizomeref02_texts.calls a0_1 a1_1 t229 _ A15.out).mono ?_); rintro e w' ⟨rfl, ⟨nd, rfl⟩⟩; refine ⟨_, rfl, ?_⟩) | ((with_reducible refine gate_callee (f := 46) rfl ?_); refine goesL_ (some 28) rfl rfl Tryd.func46 (by kernel_rfl) rfl #[.string a0_2, .string a1_2] rfl (by (try simp only [List.map_toArray, List.map_cons, List.map_nil]); first | done | rfl | (simp only [List.length_drop, List.length_take]; rfl)) ?_; (with_reducible refine (rhizomeref02_texts.calls a0_2 a1_2 t230 _ A17.out).mono ?_); rintro e w' ⟨rfl, ⟨nd, rfl⟩⟩; refine ⟨_, rfl, ?_⟩))
        go_ret
        exact ⟨by first | rfl | (simp [errW_none, errW_some] <;> rfl) | (simp [*, errW_none, errW_some] <;> rfl), by repeat (first | (with_reducible first | exact HB.out | apply belowD_alloc | apply belowD_drewN | apply belowD_drew1) | exact HB.out)⟩
      · rw [if_neg c16] at H
        have c16b0 : (t229 == 0) = false := beq_eq_false_iff_ne.mpr c16
        have c16b1 : (t229 != 0) = true := bne_iff_ne.mpr c16
        obtain rfl := Option.some.inj H
        go_enter Tryd.func30, Tryd.ntmps30
        go_wp2_with (first | ((with_reducible refine gate_dst (N := 2) rfl ?_); refine box_eventD ?hg (N := 2) ?hd (cs := #[.int .i64 a0_0, .string a0_1, .string a0_2]) (t := 26) ?hr ?_; (case hd => rfl); (case hg => rfl); (case hr => first | (go_simp; done) | (go_simp; rfl)); intro gb227 hg w23 hbox hb; have n0_ := Aside0.mk (belowD_step (by repeat (first | (with_reducible first | exact HB.out | apply belowD_alloc | apply belowD_drewN | apply belowD_drew1) | exact HB.out)) hb); have n1_ := Aside0.mk (hbox); have n2_ := Aside0.mk ((by rw [hg]; exact (belowD_size (by repeat (first | (with_reducible first | exact HB.out | apply belowD_alloc | apply belowD_drewN | apply belowD_drew1) | exact HB.out))) : w.heap.size ≤ gb227)); have n3_ := Aside0.mk ((by rw [hg]; exact (belowD_size (by repeat (first | (with_reducible first | exact HB.out | apply belowD_alloc | apply belowD_drewN | apply belowD_drew1) | exact HB.out))) : w.heap.size ≤ gb227)); clear HB; have HB := n0_; have BK227 := n1_; have GW227 := n2_; have GE227 := n3_; clear n0_ n1_ n2_ n3_; clear hb hbox hg) | ((with_reducible refine gate_dst (N := 3) rfl ?_); refine box_eventD ?hg (N := 3) ?hd (cs := #[.int .i64 a1_0, .string a1_1, .string a1_2]) (t := 26) ?hr ?_; (case hd => rfl); (case hg => rfl); (case hr => first | (go_simp; done) | (go_simp; rfl)); intro gb228 hg w24 hbox hb; have n0_ := Aside0.mk (blk_below (g := gb227) (o := .cells #[.int .i64 a0_0, .string a0_1, .string a0_2] 26 (0, 0)) (by (with_reducible repeat (first | refine blk_drewN ?_ _ | refine blk_drew ?_ | refine blk_alloc ?_ _)); exact BK227.out) hb.b); have n1_ := Aside0.mk (belowD_step (by repeat (first | (with_reducible first | exact HB.out | apply belowD_alloc | apply belowD_drewN | apply belowD_drew1) | exact HB.out)) hb); have n2_ := Aside0.mk (hbox); have n3_ := Aside0.mk ((by rw [hg]; exact (belowD_size (by repeat (first | (with_reducible first | exact HB.out | apply belowD_alloc | apply belowD_drewN | apply belowD_drew1) | exact HB.out))) : w.heap.size ≤ gb228)); have n4_ := Aside0.mk ((by rw [hg]; exact (belowD_size (by repeat (first | (with_reducible first | exact HB.out | apply belowD_alloc | apply belowD_drewN | apply belowD_drew1) | exact HB.out))) : w.heap.size ≤ gb228)); have n5_ := Aside0.mk ((by rw [hg]; exact Nat.ne_of_lt (blk_lt (g := gb227) (o := .cells #[.int .i64 a0_0, .string a0_1, .string a0_2] 26 (0, 0)) (by (with_reducible repeat (first | refine blk_drewN ?_ _ | refine blk_drew ?_ | refine blk_alloc ?_ _)); exact BK227.out)) : gb227 ≠ gb228)); have n6_ := Aside0.mk ((by rw [hg]; exact Nat.ne_of_gt (blk_lt (g := gb227) (o := .cells #[.int .i64 a0_0, .string a0_1, .string a0_2] 26 (0, 0)) (by (with_reducible repeat (first | refine blk_drewN ?_ _ | refine blk_drew ?_ | refine blk_alloc ?_ _)); exact BK227.out)) : gb228 ≠ gb227)); clear BK227; clear HB; have BK227 := n0_; have HB := n1_; have BK228 := n2_; have GW228 := n3_; have GE228 := n4_; have NB227_228 := n5_; have NB228_227 := n6_; clear n0_ n1_ n2_ n3_ n4_ n5_ n6_; clear hb hbox hg; have hnb25 := NB227_228.out; have hnc25 := NB228_227.out; have hcz26_0 : w24.cell? ⟨gb227, 0, none⟩ = some (.int .i64 a0_0) := (blk_cell BK227.out 0).trans rfl; have hcz26_1 : w24.cell? ⟨gb227, 1, none⟩ = some (.string a0_1) := (blk_cell BK227.out 1).trans rfl; have hcz26_2 : w24.cell? ⟨gb227, 2, none⟩ = some (.string a0_2) := (blk_cell BK227.out 2).trans rfl; have hfz26_0 := blk_frozen BK227.out 0; have hfz26_1 := blk_frozen BK227.out 1; have hfz26_2 := blk_frozen BK227.out 2; have hcz27_0 : w24.cell? ⟨gb228, 0, none⟩ = some (.int .i64 a1_0) := (blk_cell BK228.out 0).trans rfl; have hcz27_1 : w24.cell? ⟨gb228, 1, none⟩ = some (.string a1_1) := (blk_cell BK228.out 1).trans rfl; have hcz27_2 : w24.cell? ⟨gb228, 2, none⟩ = some (.string a1_2) := (blk_cell BK228.out 2).trans rfl; have hfz27_0 := blk_frozen BK228.out 0; have hfz27_1 := blk_frozen BK228.out 1; have hfz27_2 := blk_frozen BK228.out 2) | ((with_reducible refine gate_callee (f := 46) rfl ?_); refine goesL_ (some 20) rfl rfl Tryd.func46 (by kernel_rfl) rfl #[.string a0_1, .string a1_1] rfl (by (try simp only [List.map_toArray, List.map_cons, List.map_nil]); first | done | rfl | (simp only [List.length_drop, List.length_take]; rfl)) ?_; (with_reducible refine (rhizomeref02_texts.calls a0_1 a1_1 t229 _ A15.out).mono ?_); rintro e w' ⟨rfl, ⟨nd, rfl⟩⟩; refine ⟨_, rfl, ?_⟩))
        go_ret
        exact ⟨by first | rfl | (simp [errW_none, errW_some] <;> rfl) | (simp [*, errW_none, errW_some] <;> rfl), by repeat (first | (with_reducible first | exact HB.out | apply belowD_alloc | apply belowD_drewN | apply belowD_drew1) | exact HB.out)⟩
set_option maxRecDepth 100000 in
set_option maxHeartbeats 8000000 in
theorem rhizomeref02_CompareTriples.callsD (a0_0 : Int) (a0_1 : ByteArray) (a0_2 : ByteArray) (a0_3 : Int) (a0_4 : ByteArray) (a0_5 : ByteArray) (a0_6 : Int) (a0_7 : ByteArray) (a0_8 : ByteArray) (a1_0 : Int) (a1_1 : ByteArray) (a1_2 : ByteArray) (a1_3 : Int) (a1_4 : ByteArray) (a1_5 : ByteArray) (a1_6 : Int) (a1_7 : ByteArray) (a1_8 : ByteArray) (r : Int) (w : World) (h : rhizomeref02_CompareTriples.f a0_0 a0_1 a0_2 a0_3 a0_4 a0_5 a0_6 a0_7 a0_8 a1_0 a1_1 a1_2 a1_3 a1_4 a1_5 a1_6 a1_7 a1_8 = some r) :
    Calls Tryd.prog 32 #[.agg #[.int .i64 a0_0, .string a0_1, .string a0_2, .int .i64 a0_3, .string a0_4, .string a0_5, .int .i64 a0_6, .string a0_7, .string a0_8], .agg #[.int .i64 a1_0, .string a1_1, .string a1_2, .int .i64 a1_3, .string a1_4, .string a1_5, .int .i64 a1_6, .string a1_7, .string a1_8]] w fun e w' => e = .returned (.int .i64 r) ∧ BelowD w.heap.size w w' := by
  have HB := Aside0.mk (BelowD.refl w.heap.size w)
  unfold rhizomeref02_CompareTriples.f at h
  obtain ⟨t0, A0, h⟩ := Option.bind_eq_some_iff.mp h
  by_cases c0 : t0 = 0
  · rw [if_pos c0] at h
    subst c0
    obtain ⟨t1, A1, h⟩ := Option.bind_eq_some_iff.mp h
    by_cases c1 : t1 = 0
    · rw [if_pos c1] at h
      subst c1
      obtain ⟨t2, A2, h⟩ := Option.bind_eq_some_iff.mp h
      by_cases c2 : t2 = 0
      · obtain rfl := Option.some.inj h
        subst c2
        go_enter Tryd.func32, Tryd.ntmps32
        try go_wp2_with (first | ((with_reducible refine gate_dst (N := 2) rfl ?_); refine box_eventD ?hg (N := 2) ?hd (cs := #[.int .i64 a0_0, .string a0_1, .string a0_2, .int .i64 a0_3, .string a0_4, .string a0_5, .int .i64 a0_6, .string a0_7, .string a0_8]) (t := 29) ?hr ?_; (case hd => rfl); (case hg => rfl); (case hr => first | (go_simp; done) | (go_simp; rfl)); intro gb0 hg wb0 hbox hb; have m1_ := Aside0.mk (belowD_step (by repeat (first | (with_reducible first | exact HB.out | apply belowD_alloc | apply belowD_drewN | apply belowD_drew1) | exact HB.out)) hb); have m2_ := Aside0.mk hbox; clear HB; have HB := m1_; have BK0 := m2_; clear m1_ m2_; clear hb hbox hg) | ((with_reducible refine gate_dst (N := 3) rfl ?_); refine box_eventD ?hg (N := 3) ?hd (cs := #[.int .i64 a1_0, .string a1_1, .string a1_2, .int .i64 a1_3, .string a1_4, .string a1_5, .int .i64 a1_6, .string a1_7, .string a1_8]) (t := 29) ?hr ?_; (case hd => rfl); (case hg => rfl); (case hr => first | (go_simp; done) | (go_simp; rfl)); intro gb1 hg wb1 hbox hb; have m0_ := Aside0.mk (blk_below (g := gb0) (o := .cells #[.int .i64 a0_0, .string a0_1, .string a0_2, .int .i64 a0_3, .string a0_4, .string a0_5, .int .i64 a0_6, .string a0_7, .string a0_8] 29 (0, 0)) (by (with_reducible repeat (first | refine blk_drewN ?_ _ | refine blk_drew ?_ | refine blk_alloc ?_ _)); exact BK0.out) hb.b); have m1_ := Aside0.mk (belowD_step (by repeat (first | (with_reducible first | exact HB.out | apply belowD_alloc | apply belowD_drewN | apply belowD_drew1) | exact HB.out)) hb); have m2_ := Aside0.mk hbox; clear BK0; have BK0 := m0_; clear m0_; clear HB; have HB := m1_; have BK1 := m2_; clear m1_ m2_; clear hb hbox hg))
        refine wp_loop_rounds 4 ?_
        rw [rounds_succ]
        try go_wp2
        have n0_ := Aside0.mk (blk_drew BK0.out)
        have n1_ := Aside0.mk (blk_drew BK1.out)
        have n2_ := Aside0.mk (belowD_drew1 HB.out)
        clear BK0 BK1 HB
        have BK0 := n0_
        have BK1 := n1_
        have HB := n2_
        clear n0_ n1_ n2_
        refine start_ (n := 8) (S := fun w' => w'.cell? ⟨gb0, 0, none⟩ = some (.int .i64 a0_0) ∧ w'.cell? ⟨gb0, 1, none⟩ = some (.string a0_1) ∧ w'.cell? ⟨gb0, 2, none⟩ = some (.string a0_2) ∧ w'.cell? ⟨gb0, 3, none⟩ = some (.int .i64 a0_3) ∧ w'.cell? ⟨gb0, 4, none⟩ = some (.string a0_4) ∧ w'.cell? ⟨gb0, 5, none⟩ = some (.string a0_5) ∧ w'.cell? ⟨gb0, 6, none⟩ = some (.int .i64 a0_6) ∧ w'.cell? ⟨gb0, 7, none⟩ = some (.string a0_7) ∧ w'.cell? ⟨gb0, 8, none⟩ = some (.string a0_8) ∧ w'.cell? ⟨gb1, 0, none⟩ = some (.int .i64 a1_0) ∧ w'.cell? ⟨gb1, 1, none⟩ = some (.string a1_1) ∧ w'.cell? ⟨gb1, 2, none⟩ = some (.string a1_2) ∧ w'.cell? ⟨gb1, 3, none⟩ = some (.int .i64 a1_3) ∧ w'.cell? ⟨gb1, 4, none⟩ = some (.string a1_4) ∧ w'.cell? ⟨gb1, 5, none⟩ = some (.string a1_5) ∧ w'.cell? ⟨gb1, 6, none⟩ = some (.int .i64 a1_6) ∧ w'.cell? ⟨gb1, 7, none⟩ = some (.string a1_7) ∧ w'.cell? ⟨gb1, 8, none⟩ = some (.string a1_8)) (ds := []) #[false, false, false, false, false, false, false, false] (by kernel_rfl) rfl rfl ⟨(blk_cell BK0.out 0).trans rfl, (blk_cell BK0.out 1).trans rfl, (blk_cell BK0.out 2).trans rfl, (blk_cell BK0.out 3).trans rfl, (blk_cell BK0.out 4).trans rfl, (blk_cell BK0.out 5).trans rfl, (blk_cell BK0.out 6).trans rfl, (blk_cell BK0.out 7).trans rfl, (blk_cell BK0.out 8).trans rfl, (blk_cell BK1.out 0).trans rfl, (blk_cell BK1.out 1).trans rfl, (blk_cell BK1.out 2).trans rfl, (blk_cell BK1.out 3).trans rfl, (blk_cell BK1.out 4).trans rfl, (blk_cell BK1.out 5).trans rfl, (blk_cell BK1.out 6).trans rfl, (blk_cell BK1.out 7).trans rfl, (blk_cell BK1.out 8).trans rfl⟩ (fun hHeld => ?_); refine with_tabW rhizomeref02_CompareTriples.tab4 rhizomeref02_CompareTriples.bits4 (fun HT_ HW_ => ?_)
        generalize wb1.drew = wd0 at BK0 BK1 HB hHeld ⊢
        refine pure_ (i := 0) (N := some 11) (v := ?_) (a' := ?_) #[true, false, false, false, false, false, false, false] rfl rfl (any_of HT_.out (by kernel_rfl)) (fun _ _ _ h => h) (Or.inl ⟨by rfl, ?_⟩) ?_ ?_
        rotate_left
        · intro w'
          go_simp
          with_reducible rfl
        rotate_left
        · simp only [Act.put, List.setIfInBounds_toArray, List.set_cons_zero, List.set_cons_succ, i64_w, i32_w]
          rfl
        refine pure_ (i := 3) (N := some 14) (v := ?_) (a' := ?_) #[true, false, false, true, false, false, false, false] rfl rfl (any_of HT_.out (by kernel_rfl)) (fun _ _ _ h => h) (Or.inl ⟨by rfl, ?_⟩) ?_ ?_
        rotate_left
        · intro w'
          go_simp
          with_reducible rfl
        rotate_left
        · simp only [Act.put, List.setIfInBounds_toArray, List.set_cons_zero, List.set_cons_succ, i64_w, i32_w]
          rfl
        refine pure_ (i := 1) (N := some 12) (v := ?_) (a' := ?_) #[true, true, false, true, false, false, false, false] rfl rfl (any_of HT_.out (by kernel_rfl)) (fun _ _ _ h => h) (Or.inl ⟨by rfl, ?_⟩) ?_ ?_
        rotate_left
        · intro w'
          go_simp
          with_reducible rfl
        rotate_left
        · simp only [Act.put, List.setIfInBounds_toArray, List.set_cons_zero, List.set_cons_succ, i64_w, i32_w]
          rfl
        refine pure_ (i := 4) (N := some 15) (v := ?_) (a' := ?_) #[true, true, false, true, true, false, false, false] rfl rfl (any_of HT_.out (by kernel_rfl)) (fun _ _ _ h => h) (Or.inl ⟨by rfl, ?_⟩) ?_ ?_
        rotate_left
        · intro w'
          go_simp
          with_reducible rfl
        rotate_left
        · simp only [Act.put, List.setIfInBounds_toArray, List.set_cons_zero, List.set_cons_succ, i64_w, i32_w]
          rfl
        refine take_ (i := 2) (N := some 13) (v := ?_) (a' := ?_) #[true, true, true, true, true, false, false, false] rfl rfl (take_ofW HT_.out HW_.out (by kernel_rfl)) (fun _ _ _ h => h) (Or.inl ⟨by rfl, ?_⟩) hHeld ?_ ?_
        rotate_left
        · rintro w' ⟨s0, s1, s2, s3, s4, s5, s6, s7, s8, s9, s10, s11, s12, s13, s14, s15, s16, s17⟩
          go_simp
          with_reducible rfl
        rotate_left
        · simp only [Act.put, List.setIfInBounds_toArray, List.set_cons_zero, List.set_cons_succ, i64_w, i32_w]
          rfl
        refine take_ (i := 5) (N := some 16) (v := ?_) (a' := ?_) #[true, true, true, true, true, true, false, false] rfl rfl (take_ofW HT_.out HW_.out (by kernel_rfl)) (fun _ _ _ h => h) (Or.inl ⟨by rfl, ?_⟩) hHeld ?_ ?_
        rotate_left
        · rintro w' ⟨s0, s1, s2, s3, s4, s5, s6, s7, s8, s9, s10, s11, s12, s13, s14, s15, s16, s17⟩
          go_simp
          with_reducible rfl
        rotate_left
        · simp only [Act.put, List.setIfInBounds_toArray, List.set_cons_zero, List.set_cons_succ, i64_w, i32_w]
          rfl
        refine one_ (i := 6) (N := some 17) #[true, true, true, true, true, true, true, false] rfl rfl (one_of HT_.out (by kernel_rfl)) (by decide) (fun K hK => ?_)
        refine goes_ Tryd.func30 (by kernel_rfl) rfl #[.agg #[.int .i64 a0_0, .string a0_1, .string a0_2], .agg #[.int .i64 a1_0, .string a1_1, .string a1_2]] (by rfl) rfl rfl (by (try simp only [List.map_toArray, List.map_cons, List.map_nil]); first | done | rfl) ?_
        with_reducible refine (rhizomeref02_Compare.callsD a0_0 a0_1 a0_2 a1_0 a1_1 a1_2 0 _ A0).mono ?_
        rintro e wc0 ⟨rfl, hb⟩
        refine ⟨_, rfl, ?_⟩
        have n0_ := Aside0.mk (blk_below (g := gb0) (o := .cells #[.int .i64 a0_0, .string a0_1, .string a0_2, .int .i64 a0_3, .string a0_4, .string a0_5, .int .i64 a0_6, .string a0_7, .string a0_8] 29 (0, 0)) (by (with_reducible repeat (first | refine blk_drewN ?_ _ | refine blk_drew ?_ | refine blk_alloc ?_ _)); exact BK0.out) hb.b)
        have n1_ := Aside0.mk (blk_below (g := gb1) (o := .cells #[.int .i64 a1_0, .string a1_1, .string a1_2, .int .i64 a1_3, .string a1_4, .string a1_5, .int .i64 a1_6, .string a1_7, .string a1_8] 29 (0, 0)) (by (with_reducible repeat (first | refine blk_drewN ?_ _ | refine blk_drew ?_ | refine blk_alloc ?_ _)); exact BK1.out) hb.b)
        have n2_ := Aside0.mk (belowD_step (by repeat (first | (with_reducible first | exact HB.out | apply belowD_alloc | apply belowD_drewN | apply belowD_drew1) | exact HB.out)) hb)
        clear BK0 BK1 HB
        have BK0 := n0_
        have BK1 := n1_
        have HB := n2_
        clear n0_ n1_ n2_ hb
        refine hK.out _ _ ⟨(blk_cell BK0.out 0).trans rfl, (blk_cell BK0.out 1).trans rfl, (blk_cell BK0.out 2).trans rfl, (blk_cell BK0.out 3).trans rfl, (blk_cell BK0.out 4).trans rfl, (blk_cell BK0.out 5).trans rfl, (blk_cell BK0.out 6).trans rfl, (blk_cell BK0.out 7).trans rfl, (blk_cell BK0.out 8).trans rfl, (blk_cell BK1.out 0).trans rfl, (blk_cell BK1.out 1).trans rfl, (blk_cell BK1.out 2).trans rfl, (blk_cell BK1.out 3).trans rfl, (blk_cell BK1.out 4).trans rfl, (blk_cell BK1.out 5).trans rfl, (blk_cell BK1.out 6).trans rfl, (blk_cell BK1.out 7).trans rfl, (blk_cell BK1.out 8).trans rfl⟩ (fun hHeld => ?_)
        clear hK K
        refine norm_ (a' := ?_) ?_ ?_
        rotate_left
        · show Act.put _ (some 17) _ = _
          simp only [Act.put, List.setIfInBounds_toArray, List.set_cons_zero, List.set_cons_succ, i64_w, i32_w]
          rfl
        refine pure_ (i := 7) (N := some 6) (v := ?_) (a' := ?_) #[true, true, true, true, true, true, true, true] rfl rfl (any_of HT_.out (by kernel_rfl)) (fun _ _ _ h => h) (Or.inl ⟨by rfl, ?_⟩) ?_ ?_
        rotate_left
        · intro w'
          go_simp
          with_reducible rfl
        rotate_left
        · simp only [Act.put, List.setIfInBounds_toArray, List.set_cons_zero, List.set_cons_succ, i64_w, i32_w]
          rfl
        refine done_ (done_of HT_.out (by kernel_rfl)) ?_
        clear hHeld HT_ HW_
        try go_wp2
        rw [rounds_succ]
        try go_wp2
        have n0_ := Aside0.mk (blk_drew BK0.out)
        have n1_ := Aside0.mk (blk_drew BK1.out)
        have n2_ := Aside0.mk (belowD_drew1 HB.out)
        clear BK0 BK1 HB
        have BK0 := n0_
        have BK1 := n1_
        have HB := n2_
        clear n0_ n1_ n2_
        refine start_ (n := 8) (S := fun w' => w'.cell? ⟨gb0, 0, none⟩ = some (.int .i64 a0_0) ∧ w'.cell? ⟨gb0, 1, none⟩ = some (.string a0_1) ∧ w'.cell? ⟨gb0, 2, none⟩ = some (.string a0_2) ∧ w'.cell? ⟨gb0, 3, none⟩ = some (.int .i64 a0_3) ∧ w'.cell? ⟨gb0, 4, none⟩ = some (.string a0_4) ∧ w'.cell? ⟨gb0, 5, none⟩ = some (.string a0_5) ∧ w'.cell? ⟨gb0, 6, none⟩ = some (.int .i64 a0_6) ∧ w'.cell? ⟨gb0, 7, none⟩ = some (.string a0_7) ∧ w'.cell? ⟨gb0, 8, none⟩ = some (.string a0_8) ∧ w'.cell? ⟨gb1, 0, none⟩ = some (.int .i64 a1_0) ∧ w'.cell? ⟨gb1, 1, none⟩ = some (.string a1_1) ∧ w'.cell? ⟨gb1, 2, none⟩ = some (.string a1_2) ∧ w'.cell? ⟨gb1, 3, none⟩ = some (.int .i64 a1_3) ∧ w'.cell? ⟨gb1, 4, none⟩ = some (.string a1_4) ∧ w'.cell? ⟨gb1, 5, none⟩ = some (.string a1_5) ∧ w'.cell? ⟨gb1, 6, none⟩ = some (.int .i64 a1_6) ∧ w'.cell? ⟨gb1, 7, none⟩ = some (.string a1_7) ∧ w'.cell? ⟨gb1, 8, none⟩ = some (.string a1_8)) (ds := []) #[false, false, false, false, false, false, false, false] (by kernel_rfl) rfl rfl ⟨(blk_cell BK0.out 0).trans rfl, (blk_cell BK0.out 1).trans rfl, (blk_cell BK0.out 2).trans rfl, (blk_cell BK0.out 3).trans rfl, (blk_cell BK0.out 4).trans rfl, (blk_cell BK0.out 5).trans rfl, (blk_cell BK0.out 6).trans rfl, (blk_cell BK0.out 7).trans rfl, (blk_cell BK0.out 8).trans rfl, (blk_cell BK1.out 0).trans rfl, (blk_cell BK1.out 1).trans rfl, (blk_cell BK1.out 2).trans rfl, (blk_cell BK1.out 3).trans rfl, (blk_cell BK1.out 4).trans rfl, (blk_cell BK1.out 5).trans rfl, (blk_cell BK1.out 6).trans rfl, (blk_cell BK1.out 7).trans rfl, (blk_cell BK1.out 8).trans rfl⟩ (fun hHeld => ?_); refine with_tabW rhizomeref02_CompareTriples.tab4 rhizomeref02_CompareTriples.bits4 (fun HT_ HW_ => ?_)
        generalize wc0.drew = wd1 at BK0 BK1 HB hHeld ⊢
        refine pure_ (i := 0) (N := some 11) (v := ?_) (a' := ?_) #[true, false, false, false, false, false, false, false] rfl rfl (any_of HT_.out (by kernel_rfl)) (fun _ _ _ h => h) (Or.inl ⟨by rfl, ?_⟩) ?_ ?_
        rotate_left
        · intro w'
          go_simp
          with_reducible rfl
        rotate_left
        · simp only [Act.put, List.setIfInBounds_toArray, List.set_cons_zero, List.set_cons_succ, i64_w, i32_w]
          rfl
        refine pure_ (i := 3) (N := some 14) (v := ?_) (a' := ?_) #[true, false, false, true, false, false, false, false] rfl rfl (any_of HT_.out (by kernel_rfl)) (fun _ _ _ h => h) (Or.inl ⟨by rfl, ?_⟩) ?_ ?_
        rotate_left
        · intro w'
          go_simp
          with_reducible rfl
        rotate_left
        · simp only [Act.put, List.setIfInBounds_toArray, List.set_cons_zero, List.set_cons_succ, i64_w, i32_w]
          rfl
        refine pure_ (i := 1) (N := some 12) (v := ?_) (a' := ?_) #[true, true, false, true, false, false, false, false] rfl rfl (any_of HT_.out (by kernel_rfl)) (fun _ _ _ h => h) (Or.inl ⟨by rfl, ?_⟩) ?_ ?_
        rotate_left
        · intro w'
          go_simp
          with_reducible rfl
        rotate_left
        · simp only [Act.put, List.setIfInBounds_toArray, List.set_cons_zero, List.set_cons_succ, i64_w, i32_w]
          rfl
        refine pure_ (i := 4) (N := some 15) (v := ?_) (a' := ?_) #[true, true, false, true, true, false, false, false] rfl rfl (any_of HT_.out (by kernel_rfl)) (fun _ _ _ h => h) (Or.inl ⟨by rfl, ?_⟩) ?_ ?_
        rotate_left
        · intro w'
          go_simp
          with_reducible rfl
        rotate_left
        · simp only [Act.put, List.setIfInBounds_toArray, List.set_cons_zero, List.set_cons_succ, i64_w, i32_w]
          rfl
        refine take_ (i := 2) (N := some 13) (v := ?_) (a' := ?_) #[true, true, true, true, true, false, false, false] rfl rfl (take_ofW HT_.out HW_.out (by kernel_rfl)) (fun _ _ _ h => h) (Or.inl ⟨by rfl, ?_⟩) hHeld ?_ ?_
        rotate_left
        · rintro w' ⟨s0, s1, s2, s3, s4, s5, s6, s7, s8, s9, s10, s11, s12, s13, s14, s15, s16, s17⟩
          go_simp
          with_reducible rfl
        rotate_left
        · simp only [Act.put, List.setIfInBounds_toArray, List.set_cons_zero, List.set_cons_succ, i64_w, i32_w]
          rfl
        refine take_ (i := 5) (N := some 16) (v := ?_) (a' := ?_) #[true, true, true, true, true, true, false, false] rfl rfl (take_ofW HT_.out HW_.out (by kernel_rfl)) (fun _ _ _ h => h) (Or.inl ⟨by rfl, ?_⟩) hHeld ?_ ?_
        rotate_left
        · rintro w' ⟨s0, s1, s2, s3, s4, s5, s6, s7, s8, s9, s10, s11, s12, s13, s14, s15, s16, s17⟩
          go_simp
          with_reducible rfl
        rotate_left
        · simp only [Act.put, List.setIfInBounds_toArray, List.set_cons_zero, List.set_cons_succ, i64_w, i32_w]
          rfl
        refine one_ (i := 6) (N := some 17) #[true, true, true, true, true, true, true, false] rfl rfl (one_of HT_.out (by kernel_rfl)) (by decide) (fun K hK => ?_)
        refine goes_ Tryd.func30 (by kernel_rfl) rfl #[.agg #[.int .i64 a0_3, .string a0_4, .string a0_5], .agg #[.int .i64 a1_3, .string a1_4, .string a1_5]] (by rfl) rfl rfl (by (try simp only [List.map_toArray, List.map_cons, List.map_nil]); first | done | rfl) ?_
        with_reducible refine (rhizomeref02_Compare.callsD a0_3 a0_4 a0_5 a1_3 a1_4 a1_5 0 _ A1).mono ?_
        rintro e wc1 ⟨rfl, hb⟩
        refine ⟨_, rfl, ?_⟩
        have n0_ := Aside0.mk (blk_below (g := gb0) (o := .cells #[.int .i64 a0_0, .string a0_1, .string a0_2, .int .i64 a0_3, .string a0_4, .string a0_5, .int .i64 a0_6, .string a0_7, .string a0_8] 29 (0, 0)) (by (with_reducible repeat (first | refine blk_drewN ?_ _ | refine blk_drew ?_ | refine blk_alloc ?_ _)); exact BK0.out) hb.b)
        have n1_ := Aside0.mk (blk_below (g := gb1) (o := .cells #[.int .i64 a1_0, .string a1_1, .string a1_2, .int .i64 a1_3, .string a1_4, .string a1_5, .int .i64 a1_6, .string a1_7, .string a1_8] 29 (0, 0)) (by (with_reducible repeat (first | refine blk_drewN ?_ _ | refine blk_drew ?_ | refine blk_alloc ?_ _)); exact BK1.out) hb.b)
        have n2_ := Aside0.mk (belowD_step (by repeat (first | (with_reducible first | exact HB.out | apply belowD_alloc | apply belowD_drewN | apply belowD_drew1) | exact HB.out)) hb)
        clear BK0 BK1 HB
        have BK0 := n0_
        have BK1 := n1_
        have HB := n2_
        clear n0_ n1_ n2_ hb
        refine hK.out _ _ ⟨(blk_cell BK0.out 0).trans rfl, (blk_cell BK0.out 1).trans rfl, (blk_cell BK0.out 2).trans rfl, (blk_cell BK0.out 3).trans rfl, (blk_cell BK0.out 4).trans rfl, (blk_cell BK0.out 5).trans rfl, (blk_cell BK0.out 6).trans rfl, (blk_cell BK0.out 7).trans rfl, (blk_cell BK0.out 8).trans rfl, (blk_cell BK1.out 0).trans rfl, (blk_cell BK1.out 1).trans rfl, (blk_cell BK1.out 2).trans rfl, (blk_cell BK1.out 3).trans rfl, (blk_cell BK1.out 4).trans rfl, (blk_cell BK1.out 5).trans rfl, (blk_cell BK1.out 6).trans rfl, (blk_cell BK1.out 7).trans rfl, (blk_cell BK1.out 8).trans rfl⟩ (fun hHeld => ?_)
        clear hK K
        refine norm_ (a' := ?_) ?_ ?_
        rotate_left
        · show Act.put _ (some 17) _ = _
          simp only [Act.put, List.setIfInBounds_toArray, List.set_cons_zero, List.set_cons_succ, i64_w, i32_w]
          rfl
        refine pure_ (i := 7) (N := some 6) (v := ?_) (a' := ?_) #[true, true, true, true, true, true, true, true] rfl rfl (any_of HT_.out (by kernel_rfl)) (fun _ _ _ h => h) (Or.inl ⟨by rfl, ?_⟩) ?_ ?_
        rotate_left
        · intro w'
          go_simp
          with_reducible rfl
        rotate_left
        · simp only [Act.put, List.setIfInBounds_toArray, List.set_cons_zero, List.set_cons_succ, i64_w, i32_w]
          rfl
        refine done_ (done_of HT_.out (by kernel_rfl)) ?_
        clear hHeld HT_ HW_
        try go_wp2
        rw [rounds_succ]
        try go_wp2
        have n0_ := Aside0.mk (blk_drew BK0.out)
        have n1_ := Aside0.mk (blk_drew BK1.out)
        have n2_ := Aside0.mk (belowD_drew1 HB.out)
        clear BK0 BK1 HB
        have BK0 := n0_
        have BK1 := n1_
        have HB := n2_
        clear n0_ n1_ n2_
        refine start_ (n := 8) (S := fun w' => w'.cell? ⟨gb0, 0, none⟩ = some (.int .i64 a0_0) ∧ w'.cell? ⟨gb0, 1, none⟩ = some (.string a0_1) ∧ w'.cell? ⟨gb0, 2, none⟩ = some (.string a0_2) ∧ w'.cell? ⟨gb0, 3, none⟩ = some (.int .i64 a0_3) ∧ w'.cell? ⟨gb0, 4, none⟩ = some (.string a0_4) ∧ w'.cell? ⟨gb0, 5, none⟩ = some (.string a0_5) ∧ w'.cell? ⟨gb0, 6, none⟩ = some (.int .i64 a0_6) ∧ w'.cell? ⟨gb0, 7, none⟩ = some (.string a0_7) ∧ w'.cell? ⟨gb0, 8, none⟩ = some (.string a0_8) ∧ w'.cell? ⟨gb1, 0, none⟩ = some (.int .i64 a1_0) ∧ w'.cell? ⟨gb1, 1, none⟩ = some (.string a1_1) ∧ w'.cell? ⟨gb1, 2, none⟩ = some (.string a1_2) ∧ w'.cell? ⟨gb1, 3, none⟩ = some (.int .i64 a1_3) ∧ w'.cell? ⟨gb1, 4, none⟩ = some (.string a1_4) ∧ w'.cell? ⟨gb1, 5, none⟩ = some (.string a1_5) ∧ w'.cell? ⟨gb1, 6, none⟩ = some (.int .i64 a1_6) ∧ w'.cell? ⟨gb1, 7, none⟩ = some (.string a1_7) ∧ w'.cell? ⟨gb1, 8, none⟩ = some (.string a1_8)) (ds := []) #[false, false, false, false, false, false, false, false] (by kernel_rfl) rfl rfl ⟨(blk_cell BK0.out 0).trans rfl, (blk_cell BK0.out 1).trans rfl, (blk_cell BK0.out 2).trans rfl, (blk_cell BK0.out 3).trans rfl, (blk_cell BK0.out 4).trans rfl, (blk_cell BK0.out 5).trans rfl, (blk_cell BK0.out 6).trans rfl, (blk_cell BK0.out 7).trans rfl, (blk_cell BK0.out 8).trans rfl, (blk_cell BK1.out 0).trans rfl, (blk_cell BK1.out 1).trans rfl, (blk_cell BK1.out 2).trans rfl, (blk_cell BK1.out 3).trans rfl, (blk_cell BK1.out 4).trans rfl, (blk_cell BK1.out 5).trans rfl, (blk_cell BK1.out 6).trans rfl, (blk_cell BK1.out 7).trans rfl, (blk_cell BK1.out 8).trans rfl⟩ (fun hHeld => ?_); refine with_tabW rhizomeref02_CompareTriples.tab4 rhizomeref02_CompareTriples.bits4 (fun HT_ HW_ => ?_)
        generalize wc1.drew = wd2 at BK0 BK1 HB hHeld ⊢
        refine pure_ (i := 0) (N := some 11) (v := ?_) (a' := ?_) #[true, false, false, false, false, false, false, false] rfl rfl (any_of HT_.out (by kernel_rfl)) (fun _ _ _ h => h) (Or.inl ⟨by rfl, ?_⟩) ?_ ?_
        rotate_left
        · intro w'
          go_simp
          with_reducible rfl
        rotate_left
        · simp only [Act.put, List.setIfInBounds_toArray, List.set_cons_zero, List.set_cons_succ, i64_w, i32_w]
          rfl
        refine pure_ (i := 3) (N := some 14) (v := ?_) (a' := ?_) #[true, false, false, true, false, false, false, false] rfl rfl (any_of HT_.out (by kernel_rfl)) (fun _ _ _ h => h) (Or.inl ⟨by rfl, ?_⟩) ?_ ?_
        rotate_left
        · intro w'
          go_simp
          with_reducible rfl
        rotate_left
        · simp only [Act.put, List.setIfInBounds_toArray, List.set_cons_zero, List.set_cons_succ, i64_w, i32_w]
          rfl
        refine pure_ (i := 1) (N := some 12) (v := ?_) (a' := ?_) #[true, true, false, true, false, false, false, false] rfl rfl (any_of HT_.out (by kernel_rfl)) (fun _ _ _ h => h) (Or.inl ⟨by rfl, ?_⟩) ?_ ?_
        rotate_left
        · intro w'
          go_simp
          with_reducible rfl
        rotate_left
        · simp only [Act.put, List.setIfInBounds_toArray, List.set_cons_zero, List.set_cons_succ, i64_w, i32_w]
          rfl
        refine pure_ (i := 4) (N := some 15) (v := ?_) (a' := ?_) #[true, true, false, true, true, false, false, false] rfl rfl (any_of HT_.out (by kernel_rfl)) (fun _ _ _ h => h) (Or.inl ⟨by rfl, ?_⟩) ?_ ?_
        rotate_left
        · intro w'
          go_simp
          with_reducible rfl
        rotate_left
        · simp only [Act.put, List.setIfInBounds_toArray, List.set_cons_zero, List.set_cons_succ, i64_w, i32_w]
          rfl
        refine take_ (i := 2) (N := some 13) (v := ?_) (a' := ?_) #[true, true, true, true, true, false, false, false] rfl rfl (take_ofW HT_.out HW_.out (by kernel_rfl)) (fun _ _ _ h => h) (Or.inl ⟨by rfl, ?_⟩) hHeld ?_ ?_
        rotate_left
        · rintro w' ⟨s0, s1, s2, s3, s4, s5, s6, s7, s8, s9, s10, s11, s12, s13, s14, s15, s16, s17⟩
          go_simp
          with_reducible rfl
        rotate_left
        · simp only [Act.put, List.setIfInBounds_toArray, List.set_cons_zero, List.set_cons_succ, i64_w, i32_w]
          rfl
        refine take_ (i := 5) (N := some 16) (v := ?_) (a' := ?_) #[true, true, true, true, true, true, false, false] rfl rfl (take_ofW HT_.out HW_.out (by kernel_rfl)) (fun _ _ _ h => h) (Or.inl ⟨by rfl, ?_⟩) hHeld ?_ ?_
        rotate_left
        · rintro w' ⟨s0, s1, s2, s3, s4, s5, s6, s7, s8, s9, s10, s11, s12, s13, s14, s15, s16, s17⟩
          go_simp
          with_reducible rfl
        rotate_left
        · simp only [Act.put, List.setIfInBounds_toArray, List.set_cons_zero, List.set_cons_succ, i64_w, i32_w]
          rfl
        refine one_ (i := 6) (N := some 17) #[true, true, true, true, true, true, true, false] rfl rfl (one_of HT_.out (by kernel_rfl)) (by decide) (fun K hK => ?_)
        refine goes_ Tryd.func30 (by kernel_rfl) rfl #[.agg #[.int .i64 a0_6, .string a0_7, .string a0_8], .agg #[.int .i64 a1_6, .string a1_7, .string a1_8]] (by rfl) rfl rfl (by (try simp only [List.map_toArray, List.map_cons, List.map_nil]); first | done | rfl) ?_
        with_reducible refine (rhizomeref02_Compare.callsD a0_6 a0_7 a0_8 a1_6 a1_7 a1_8 0 _ A2).mono ?_
        rintro e wc2 ⟨rfl, hb⟩
        refine ⟨_, rfl, ?_⟩
        have n0_ := Aside0.mk (blk_below (g := gb0) (o := .cells #[.int .i64 a0_0, .string a0_1, .string a0_2, .int .i64 a0_3, .string a0_4, .string a0_5, .int .i64 a0_6, .string a0_7, .string a0_8] 29 (0, 0)) (by (with_reducible repeat (first | refine blk_drewN ?_ _ | refine blk_drew ?_ | refine blk_alloc ?_ _)); exact BK0.out) hb.b)
        have n1_ := Aside0.mk (blk_below (g := gb1) (o := .cells #[.int .i64 a1_0, .string a1_1, .string a1_2, .int .i64 a1_3, .string a1_4, .string a1_5, .int .i64 a1_6, .string a1_7, .string a1_8] 29 (0, 0)) (by (with_reducible repeat (first | refine blk_drewN ?_ _ | refine blk_drew ?_ | refine blk_alloc ?_ _)); exact BK1.out) hb.b)
        have n2_ := Aside0.mk (belowD_step (by repeat (first | (with_reducible first | exact HB.out | apply belowD_alloc | apply belowD_drewN | apply belowD_drew1) | exact HB.out)) hb)
        clear BK0 BK1 HB
        have BK0 := n0_
        have BK1 := n1_
        have HB := n2_
        clear n0_ n1_ n2_ hb
        refine hK.out _ _ ⟨(blk_cell BK0.out 0).trans rfl, (blk_cell BK0.out 1).trans rfl, (blk_cell BK0.out 2).trans rfl, (blk_cell BK0.out 3).trans rfl, (blk_cell BK0.out 4).trans rfl, (blk_cell BK0.out 5).trans rfl, (blk_cell BK0.out 6).trans rfl, (blk_cell BK0.out 7).trans rfl, (blk_cell BK0.out 8).trans rfl, (blk_cell BK1.out 0).trans rfl, (blk_cell BK1.out 1).trans rfl, (blk_cell BK1.out 2).trans rfl, (blk_cell BK1.out 3).trans rfl, (blk_cell BK1.out 4).trans rfl, (blk_cell BK1.out 5).trans rfl, (blk_cell BK1.out 6).trans rfl, (blk_cell BK1.out 7).trans rfl, (blk_cell BK1.out 8).trans rfl⟩ (fun hHeld => ?_)
        clear hK K
        refine norm_ (a' := ?_) ?_ ?_
        rotate_left
        · show Act.put _ (some 17) _ = _
          simp only [Act.put, List.setIfInBounds_toArray, List.set_cons_zero, List.set_cons_succ, i64_w, i32_w]
          rfl
        refine pure_ (i := 7) (N := some 6) (v := ?_) (a' := ?_) #[true, true, true, true, true, true, true, true] rfl rfl (any_of HT_.out (by kernel_rfl)) (fun _ _ _ h => h) (Or.inl ⟨by rfl, ?_⟩) ?_ ?_
        rotate_left
        · intro w'
          go_simp
          with_reducible rfl
        rotate_left
        · simp only [Act.put, List.setIfInBounds_toArray, List.set_cons_zero, List.set_cons_succ, i64_w, i32_w]
          rfl
        refine done_ (done_of HT_.out (by kernel_rfl)) ?_
        clear hHeld HT_ HW_
        try go_wp2
        rw [rounds_succ]
        try go_wp2
        go_ret
        exact ⟨by first | rfl | (simp; done) | (simp [*]; done), (by repeat (first | (with_reducible first | exact HB.out | apply belowD_alloc | apply belowD_drewN | apply belowD_drew1) | exact HB.out))⟩
      · skip
        obtain rfl := Option.some.inj h
        have c2b : (t2 == 0) = false := by simpa using c2
        have c2c : (t2 != 0) = true := by simpa using c2
        go_enter Tryd.func32, Tryd.ntmps32
        try go_wp2_with (first | ((with_reducible refine gate_dst (N := 2) rfl ?_); refine box_eventD ?hg (N := 2) ?hd (cs := #[.int .i64 a0_0, .string a0_1, .string a0_2, .int .i64 a0_3, .string a0_4, .string a0_5, .int .i64 a0_6, .string a0_7, .string a0_8]) (t := 29) ?hr ?_; (case hd => rfl); (case hg => rfl); (case hr => first | (go_simp; done) | (go_simp; rfl)); intro gb0 hg wb0 hbox hb; have m1_ := Aside0.mk (belowD_step (by repeat (first | (with_reducible first | exact HB.out | apply belowD_alloc | apply belowD_drewN | apply belowD_drew1) | exact HB.out)) hb); have m2_ := Aside0.mk hbox; clear HB; have HB := m1_; have BK0 := m2_; clear m1_ m2_; clear hb hbox hg) | ((with_reducible refine gate_dst (N := 3) rfl ?_); refine box_eventD ?hg (N := 3) ?hd (cs := #[.int .i64 a1_0, .string a1_1, .string a1_2, .int .i64 a1_3, .string a1_4, .string a1_5, .int .i64 a1_6, .string a1_7, .string a1_8]) (t := 29) ?hr ?_; (case hd => rfl); (case hg => rfl); (case hr => first | (go_simp; done) | (go_simp; rfl)); intro gb1 hg wb1 hbox hb; have m0_ := Aside0.mk (blk_below (g := gb0) (o := .cells #[.int .i64 a0_0, .string a0_1, .string a0_2, .int .i64 a0_3, .string a0_4, .string a0_5, .int .i64 a0_6, .string a0_7, .string a0_8] 29 (0, 0)) (by (with_reducible repeat (first | refine blk_drewN ?_ _ | refine blk_drew ?_ | refine blk_alloc ?_ _)); exact BK0.out) hb.b); have m1_ := Aside0.mk (belowD_step (by repeat (first | (with_reducible first | exact HB.out | apply belowD_alloc | apply belowD_drewN | apply belowD_drew1) | exact HB.out)) hb); have m2_ := Aside0.mk hbox; clear BK0; have BK0 := m0_; clear m0_; clear HB; have HB := m1_; have BK1 := m2_; clear m1_ m2_; clear hb hbox hg))
        refine wp_loop_rounds 4 ?_
        rw [rounds_succ]
        try go_wp2
        have n0_ := Aside0.mk (blk_drew BK0.out)
        have n1_ := Aside0.mk (blk_drew BK1.out)
        have n2_ := Aside0.mk (belowD_drew1 HB.out)
        clear BK0 BK1 HB
        have BK0 := n0_
        have BK1 := n1_
        have HB := n2_
        clear n0_ n1_ n2_
        refine start_ (n := 8) (S := fun w' => w'.cell? ⟨gb0, 0, none⟩ = some (.int .i64 a0_0) ∧ w'.cell? ⟨gb0, 1, none⟩ = some (.string a0_1) ∧ w'.cell? ⟨gb0, 2, none⟩ = some (.string a0_2) ∧ w'.cell? ⟨gb0, 3, none⟩ = some (.int .i64 a0_3) ∧ w'.cell? ⟨gb0, 4, none⟩ = some (.string a0_4) ∧ w'.cell? ⟨gb0, 5, none⟩ = some (.string a0_5) ∧ w'.cell? ⟨gb0, 6, none⟩ = some (.int .i64 a0_6) ∧ w'.cell? ⟨gb0, 7, none⟩ = some (.string a0_7) ∧ w'.cell? ⟨gb0, 8, none⟩ = some (.string a0_8) ∧ w'.cell? ⟨gb1, 0, none⟩ = some (.int .i64 a1_0) ∧ w'.cell? ⟨gb1, 1, none⟩ = some (.string a1_1) ∧ w'.cell? ⟨gb1, 2, none⟩ = some (.string a1_2) ∧ w'.cell? ⟨gb1, 3, none⟩ = some (.int .i64 a1_3) ∧ w'.cell? ⟨gb1, 4, none⟩ = some (.string a1_4) ∧ w'.cell? ⟨gb1, 5, none⟩ = some (.string a1_5) ∧ w'.cell? ⟨gb1, 6, none⟩ = some (.int .i64 a1_6) ∧ w'.cell? ⟨gb1, 7, none⟩ = some (.string a1_7) ∧ w'.cell? ⟨gb1, 8, none⟩ = some (.string a1_8)) (ds := []) #[false, false, false, false, false, false, false, false] (by kernel_rfl) rfl rfl ⟨(blk_cell BK0.out 0).trans rfl, (blk_cell BK0.out 1).trans rfl, (blk_cell BK0.out 2).trans rfl, (blk_cell BK0.out 3).trans rfl, (blk_cell BK0.out 4).trans rfl, (blk_cell BK0.out 5).trans rfl, (blk_cell BK0.out 6).trans rfl, (blk_cell BK0.out 7).trans rfl, (blk_cell BK0.out 8).trans rfl, (blk_cell BK1.out 0).trans rfl, (blk_cell BK1.out 1).trans rfl, (blk_cell BK1.out 2).trans rfl, (blk_cell BK1.out 3).trans rfl, (blk_cell BK1.out 4).trans rfl, (blk_cell BK1.out 5).trans rfl, (blk_cell BK1.out 6).trans rfl, (blk_cell BK1.out 7).trans rfl, (blk_cell BK1.out 8).trans rfl⟩ (fun hHeld => ?_); refine with_tabW rhizomeref02_CompareTriples.tab4 rhizomeref02_CompareTriples.bits4 (fun HT_ HW_ => ?_)
        generalize wb1.drew = wd0 at BK0 BK1 HB hHeld ⊢
        refine pure_ (i := 0) (N := some 11) (v := ?_) (a' := ?_) #[true, false, false, false, false, false, false, false] rfl rfl (any_of HT_.out (by kernel_rfl)) (fun _ _ _ h => h) (Or.inl ⟨by rfl, ?_⟩) ?_ ?_
        rotate_left
        · intro w'
          go_simp
          with_reducible rfl
        rotate_left
        · simp only [Act.put, List.setIfInBounds_toArray, List.set_cons_zero, List.set_cons_succ, i64_w, i32_w]
          rfl
        refine pure_ (i := 3) (N := some 14) (v := ?_) (a' := ?_) #[true, false, false, true, false, false, false, false] rfl rfl (any_of HT_.out (by kernel_rfl)) (fun _ _ _ h => h) (Or.inl ⟨by rfl, ?_⟩) ?_ ?_
        rotate_left
        · intro w'
          go_simp
          with_reducible rfl
        rotate_left
        · simp only [Act.put, List.setIfInBounds_toArray, List.set_cons_zero, List.set_cons_succ, i64_w, i32_w]
          rfl
        refine pure_ (i := 1) (N := some 12) (v := ?_) (a' := ?_) #[true, true, false, true, false, false, false, false] rfl rfl (any_of HT_.out (by kernel_rfl)) (fun _ _ _ h => h) (Or.inl ⟨by rfl, ?_⟩) ?_ ?_
        rotate_left
        · intro w'
          go_simp
          with_reducible rfl
        rotate_left
        · simp only [Act.put, List.setIfInBounds_toArray, List.set_cons_zero, List.set_cons_succ, i64_w, i32_w]
          rfl
        refine pure_ (i := 4) (N := some 15) (v := ?_) (a' := ?_) #[true, true, false, true, true, false, false, false] rfl rfl (any_of HT_.out (by kernel_rfl)) (fun _ _ _ h => h) (Or.inl ⟨by rfl, ?_⟩) ?_ ?_
        rotate_left
        · intro w'
          go_simp
          with_reducible rfl
        rotate_left
        · simp only [Act.put, List.setIfInBounds_toArray, List.set_cons_zero, List.set_cons_succ, i64_w, i32_w]
          rfl
        refine take_ (i := 2) (N := some 13) (v := ?_) (a' := ?_) #[true, true, true, true, true, false, false, false] rfl rfl (take_ofW HT_.out HW_.out (by kernel_rfl)) (fun _ _ _ h => h) (Or.inl ⟨by rfl, ?_⟩) hHeld ?_ ?_
        rotate_left
        · rintro w' ⟨s0, s1, s2, s3, s4, s5, s6, s7, s8, s9, s10, s11, s12, s13, s14, s15, s16, s17⟩
          go_simp
          with_reducible rfl
        rotate_left
        · simp only [Act.put, List.setIfInBounds_toArray, List.set_cons_zero, List.set_cons_succ, i64_w, i32_w]
          rfl
        refine take_ (i := 5) (N := some 16) (v := ?_) (a' := ?_) #[true, true, true, true, true, true, false, false] rfl rfl (take_ofW HT_.out HW_.out (by kernel_rfl)) (fun _ _ _ h => h) (Or.inl ⟨by rfl, ?_⟩) hHeld ?_ ?_
        rotate_left
        · rintro w' ⟨s0, s1, s2, s3, s4, s5, s6, s7, s8, s9, s10, s11, s12, s13, s14, s15, s16, s17⟩
          go_simp
          with_reducible rfl
        rotate_left
        · simp only [Act.put, List.setIfInBounds_toArray, List.set_cons_zero, List.set_cons_succ, i64_w, i32_w]
          rfl
        refine one_ (i := 6) (N := some 17) #[true, true, true, true, true, true, true, false] rfl rfl (one_of HT_.out (by kernel_rfl)) (by decide) (fun K hK => ?_)
        refine goes_ Tryd.func30 (by kernel_rfl) rfl #[.agg #[.int .i64 a0_0, .string a0_1, .string a0_2], .agg #[.int .i64 a1_0, .string a1_1, .string a1_2]] (by rfl) rfl rfl (by (try simp only [List.map_toArray, List.map_cons, List.map_nil]); first | done | rfl) ?_
        with_reducible refine (rhizomeref02_Compare.callsD a0_0 a0_1 a0_2 a1_0 a1_1 a1_2 0 _ A0).mono ?_
        rintro e wc0 ⟨rfl, hb⟩
        refine ⟨_, rfl, ?_⟩
        have n0_ := Aside0.mk (blk_below (g := gb0) (o := .cells #[.int .i64 a0_0, .string a0_1, .string a0_2, .int .i64 a0_3, .string a0_4, .string a0_5, .int .i64 a0_6, .string a0_7, .string a0_8] 29 (0, 0)) (by (with_reducible repeat (first | refine blk_drewN ?_ _ | refine blk_drew ?_ | refine blk_alloc ?_ _)); exact BK0.out) hb.b)
        have n1_ := Aside0.mk (blk_below (g := gb1) (o := .cells #[.int .i64 a1_0, .string a1_1, .string a1_2, .int .i64 a1_3, .string a1_4, .string a1_5, .int .i64 a1_6, .string a1_7, .string a1_8] 29 (0, 0)) (by (with_reducible repeat (first | refine blk_drewN ?_ _ | refine blk_drew ?_ | refine blk_alloc ?_ _)); exact BK1.out) hb.b)
        have n2_ := Aside0.mk (belowD_step (by repeat (first | (with_reducible first | exact HB.out | apply belowD_alloc | apply belowD_drewN | apply belowD_drew1) | exact HB.out)) hb)
        clear BK0 BK1 HB
        have BK0 := n0_
        have BK1 := n1_
        have HB := n2_
        clear n0_ n1_ n2_ hb
        refine hK.out _ _ ⟨(blk_cell BK0.out 0).trans rfl, (blk_cell BK0.out 1).trans rfl, (blk_cell BK0.out 2).trans rfl, (blk_cell BK0.out 3).trans rfl, (blk_cell BK0.out 4).trans rfl, (blk_cell BK0.out 5).trans rfl, (blk_cell BK0.out 6).trans rfl, (blk_cell BK0.out 7).trans rfl, (blk_cell BK0.out 8).trans rfl, (blk_cell BK1.out 0).trans rfl, (blk_cell BK1.out 1).trans rfl, (blk_cell BK1.out 2).trans rfl, (blk_cell BK1.out 3).trans rfl, (blk_cell BK1.out 4).trans rfl, (blk_cell BK1.out 5).trans rfl, (blk_cell BK1.out 6).trans rfl, (blk_cell BK1.out 7).trans rfl, (blk_cell BK1.out 8).trans rfl⟩ (fun hHeld => ?_)
        clear hK K
        refine norm_ (a' := ?_) ?_ ?_
        rotate_left
        · show Act.put _ (some 17) _ = _
          simp only [Act.put, List.setIfInBounds_toArray, List.set_cons_zero, List.set_cons_succ, i64_w, i32_w]
          rfl
        refine pure_ (i := 7) (N := some 6) (v := ?_) (a' := ?_) #[true, true, true, true, true, true, true, true] rfl rfl (any_of HT_.out (by kernel_rfl)) (fun _ _ _ h => h) (Or.inl ⟨by rfl, ?_⟩) ?_ ?_
        rotate_left
        · intro w'
          go_simp
          with_reducible rfl
        rotate_left
        · simp only [Act.put, List.setIfInBounds_toArray, List.set_cons_zero, List.set_cons_succ, i64_w, i32_w]
          rfl
        refine done_ (done_of HT_.out (by kernel_rfl)) ?_
        clear hHeld HT_ HW_
        try go_wp2
        rw [rounds_succ]
        try go_wp2
        have n0_ := Aside0.mk (blk_drew BK0.out)
        have n1_ := Aside0.mk (blk_drew BK1.out)
        have n2_ := Aside0.mk (belowD_drew1 HB.out)
        clear BK0 BK1 HB
        have BK0 := n0_
        have BK1 := n1_
        have HB := n2_
        clear n0_ n1_ n2_
        refine start_ (n := 8) (S := fun w' => w'.cell? ⟨gb0, 0, none⟩ = some (.int .i64 a0_0) ∧ w'.cell? ⟨gb0, 1, none⟩ = some (.string a0_1) ∧ w'.cell? ⟨gb0, 2, none⟩ = some (.string a0_2) ∧ w'.cell? ⟨gb0, 3, none⟩ = some (.int .i64 a0_3) ∧ w'.cell? ⟨gb0, 4, none⟩ = some (.string a0_4) ∧ w'.cell? ⟨gb0, 5, none⟩ = some (.string a0_5) ∧ w'.cell? ⟨gb0, 6, none⟩ = some (.int .i64 a0_6) ∧ w'.cell? ⟨gb0, 7, none⟩ = some (.string a0_7) ∧ w'.cell? ⟨gb0, 8, none⟩ = some (.string a0_8) ∧ w'.cell? ⟨gb1, 0, none⟩ = some (.int .i64 a1_0) ∧ w'.cell? ⟨gb1, 1, none⟩ = some (.string a1_1) ∧ w'.cell? ⟨gb1, 2, none⟩ = some (.string a1_2) ∧ w'.cell? ⟨gb1, 3, none⟩ = some (.int .i64 a1_3) ∧ w'.cell? ⟨gb1, 4, none⟩ = some (.string a1_4) ∧ w'.cell? ⟨gb1, 5, none⟩ = some (.string a1_5) ∧ w'.cell? ⟨gb1, 6, none⟩ = some (.int .i64 a1_6) ∧ w'.cell? ⟨gb1, 7, none⟩ = some (.string a1_7) ∧ w'.cell? ⟨gb1, 8, none⟩ = some (.string a1_8)) (ds := []) #[false, false, false, false, false, false, false, false] (by kernel_rfl) rfl rfl ⟨(blk_cell BK0.out 0).trans rfl, (blk_cell BK0.out 1).trans rfl, (blk_cell BK0.out 2).trans rfl, (blk_cell BK0.out 3).trans rfl, (blk_cell BK0.out 4).trans rfl, (blk_cell BK0.out 5).trans rfl, (blk_cell BK0.out 6).trans rfl, (blk_cell BK0.out 7).trans rfl, (blk_cell BK0.out 8).trans rfl, (blk_cell BK1.out 0).trans rfl, (blk_cell BK1.out 1).trans rfl, (blk_cell BK1.out 2).trans rfl, (blk_cell BK1.out 3).trans rfl, (blk_cell BK1.out 4).trans rfl, (blk_cell BK1.out 5).trans rfl, (blk_cell BK1.out 6).trans rfl, (blk_cell BK1.out 7).trans rfl, (blk_cell BK1.out 8).trans rfl⟩ (fun hHeld => ?_); refine with_tabW rhizomeref02_CompareTriples.tab4 rhizomeref02_CompareTriples.bits4 (fun HT_ HW_ => ?_)
        generalize wc0.drew = wd1 at BK0 BK1 HB hHeld ⊢
        refine pure_ (i := 0) (N := some 11) (v := ?_) (a' := ?_) #[true, false, false, false, false, false, false, false] rfl rfl (any_of HT_.out (by kernel_rfl)) (fun _ _ _ h => h) (Or.inl ⟨by rfl, ?_⟩) ?_ ?_
        rotate_left
        · intro w'
          go_simp
          with_reducible rfl
        rotate_left
        · simp only [Act.put, List.setIfInBounds_toArray, List.set_cons_zero, List.set_cons_succ, i64_w, i32_w]
          rfl
        refine pure_ (i := 3) (N := some 14) (v := ?_) (a' := ?_) #[true, false, false, true, false, false, false, false] rfl rfl (any_of HT_.out (by kernel_rfl)) (fun _ _ _ h => h) (Or.inl ⟨by rfl, ?_⟩) ?_ ?_
        rotate_left
        · intro w'
          go_simp
          with_reducible rfl
        rotate_left
        · simp only [Act.put, List.setIfInBounds_toArray, List.set_cons_zero, List.set_cons_succ, i64_w, i32_w]
          rfl
        refine pure_ (i := 1) (N := some 12) (v := ?_) (a' := ?_) #[true, true, false, true, false, false, false, false] rfl rfl (any_of HT_.out (by kernel_rfl)) (fun _ _ _ h => h) (Or.inl ⟨by rfl, ?_⟩) ?_ ?_
        rotate_left
        · intro w'
          go_simp
          with_reducible rfl
        rotate_left
        · simp only [Act.put, List.setIfInBounds_toArray, List.set_cons_zero, List.set_cons_succ, i64_w, i32_w]
          rfl
        refine pure_ (i := 4) (N := some 15) (v := ?_) (a' := ?_) #[true, true, false, true, true, false, false, false] rfl rfl (any_of HT_.out (by kernel_rfl)) (fun _ _ _ h => h) (Or.inl ⟨by rfl, ?_⟩) ?_ ?_
        rotate_left
        · intro w'
          go_simp
          with_reducible rfl
        rotate_left
        · simp only [Act.put, List.setIfInBounds_toArray, List.set_cons_zero, List.set_cons_succ, i64_w, i32_w]
          rfl
        refine take_ (i := 2) (N := some 13) (v := ?_) (a' := ?_) #[true, true, true, true, true, false, false, false] rfl rfl (take_ofW HT_.out HW_.out (by kernel_rfl)) (fun _ _ _ h => h) (Or.inl ⟨by rfl, ?_⟩) hHeld ?_ ?_
        rotate_left
        · rintro w' ⟨s0, s1, s2, s3, s4, s5, s6, s7, s8, s9, s10, s11, s12, s13, s14, s15, s16, s17⟩
          go_simp
          with_reducible rfl
        rotate_left
        · simp only [Act.put, List.setIfInBounds_toArray, List.set_cons_zero, List.set_cons_succ, i64_w, i32_w]
          rfl
        refine take_ (i := 5) (N := some 16) (v := ?_) (a' := ?_) #[true, true, true, true, true, true, false, false] rfl rfl (take_ofW HT_.out HW_.out (by kernel_rfl)) (fun _ _ _ h => h) (Or.inl ⟨by rfl, ?_⟩) hHeld ?_ ?_
        rotate_left
        · rintro w' ⟨s0, s1, s2, s3, s4, s5, s6, s7, s8, s9, s10, s11, s12, s13, s14, s15, s16, s17⟩
          go_simp
          with_reducible rfl
        rotate_left
        · simp only [Act.put, List.setIfInBounds_toArray, List.set_cons_zero, List.set_cons_succ, i64_w, i32_w]
          rfl
        refine one_ (i := 6) (N := some 17) #[true, true, true, true, true, true, true, false] rfl rfl (one_of HT_.out (by kernel_rfl)) (by decide) (fun K hK => ?_)
        refine goes_ Tryd.func30 (by kernel_rfl) rfl #[.agg #[.int .i64 a0_3, .string a0_4, .string a0_5], .agg #[.int .i64 a1_3, .string a1_4, .string a1_5]] (by rfl) rfl rfl (by (try simp only [List.map_toArray, List.map_cons, List.map_nil]); first | done | rfl) ?_
        with_reducible refine (rhizomeref02_Compare.callsD a0_3 a0_4 a0_5 a1_3 a1_4 a1_5 0 _ A1).mono ?_
        rintro e wc1 ⟨rfl, hb⟩
        refine ⟨_, rfl, ?_⟩
        have n0_ := Aside0.mk (blk_below (g := gb0) (o := .cells #[.int .i64 a0_0, .string a0_1, .string a0_2, .int .i64 a0_3, .string a0_4, .string a0_5, .int .i64 a0_6, .string a0_7, .string a0_8] 29 (0, 0)) (by (with_reducible repeat (first | refine blk_drewN ?_ _ | refine blk_drew ?_ | refine blk_alloc ?_ _)); exact BK0.out) hb.b)
        have n1_ := Aside0.mk (blk_below (g := gb1) (o := .cells #[.int .i64 a1_0, .string a1_1, .string a1_2, .int .i64 a1_3, .string a1_4, .string a1_5, .int .i64 a1_6, .string a1_7, .string a1_8] 29 (0, 0)) (by (with_reducible repeat (first | refine blk_drewN ?_ _ | refine blk_drew ?_ | refine blk_alloc ?_ _)); exact BK1.out) hb.b)
        have n2_ := Aside0.mk (belowD_step (by repeat (first | (with_reducible first | exact HB.out | apply belowD_alloc | apply belowD_drewN | apply belowD_drew1) | exact HB.out)) hb)
        clear BK0 BK1 HB
        have BK0 := n0_
        have BK1 := n1_
        have HB := n2_
        clear n0_ n1_ n2_ hb
        refine hK.out _ _ ⟨(blk_cell BK0.out 0).trans rfl, (blk_cell BK0.out 1).trans rfl, (blk_cell BK0.out 2).trans rfl, (blk_cell BK0.out 3).trans rfl, (blk_cell BK0.out 4).trans rfl, (blk_cell BK0.out 5).trans rfl, (blk_cell BK0.out 6).trans rfl, (blk_cell BK0.out 7).trans rfl, (blk_cell BK0.out 8).trans rfl, (blk_cell BK1.out 0).trans rfl, (blk_cell BK1.out 1).trans rfl, (blk_cell BK1.out 2).trans rfl, (blk_cell BK1.out 3).trans rfl, (blk_cell BK1.out 4).trans rfl, (blk_cell BK1.out 5).trans rfl, (blk_cell BK1.out 6).trans rfl, (blk_cell BK1.out 7).trans rfl, (blk_cell BK1.out 8).trans rfl⟩ (fun hHeld => ?_)
        clear hK K
        refine norm_ (a' := ?_) ?_ ?_
        rotate_left
        · show Act.put _ (some 17) _ = _
          simp only [Act.put, List.setIfInBounds_toArray, List.set_cons_zero, List.set_cons_succ, i64_w, i32_w]
          rfl
        refine pure_ (i := 7) (N := some 6) (v := ?_) (a' := ?_) #[true, true, true, true, true, true, true, true] rfl rfl (any_of HT_.out (by kernel_rfl)) (fun _ _ _ h => h) (Or.inl ⟨by rfl, ?_⟩) ?_ ?_
        rotate_left
        · intro w'
          go_simp
          with_reducible rfl
        rotate_left
        · simp only [Act.put, List.setIfInBounds_toArray, List.set_cons_zero, List.set_cons_succ, i64_w, i32_w]
          rfl
        refine done_ (done_of HT_.out (by kernel_rfl)) ?_
        clear hHeld HT_ HW_
        try go_wp2
        rw [rounds_succ]
        try go_wp2
        have n0_ := Aside0.mk (blk_drew BK0.out)
        have n1_ := Aside0.mk (blk_drew BK1.out)
        have n2_ := Aside0.mk (belowD_drew1 HB.out)
        clear BK0 BK1 HB
        have BK0 := n0_
        have BK1 := n1_
        have HB := n2_
        clear n0_ n1_ n2_
        refine start_ (n := 8) (S := fun w' => w'.cell? ⟨gb0, 0, none⟩ = some (.int .i64 a0_0) ∧ w'.cell? ⟨gb0, 1, none⟩ = some (.string a0_1) ∧ w'.cell? ⟨gb0, 2, none⟩ = some (.string a0_2) ∧ w'.cell? ⟨gb0, 3, none⟩ = some (.int .i64 a0_3) ∧ w'.cell? ⟨gb0, 4, none⟩ = some (.string a0_4) ∧ w'.cell? ⟨gb0, 5, none⟩ = some (.string a0_5) ∧ w'.cell? ⟨gb0, 6, none⟩ = some (.int .i64 a0_6) ∧ w'.cell? ⟨gb0, 7, none⟩ = some (.string a0_7) ∧ w'.cell? ⟨gb0, 8, none⟩ = some (.string a0_8) ∧ w'.cell? ⟨gb1, 0, none⟩ = some (.int .i64 a1_0) ∧ w'.cell? ⟨gb1, 1, none⟩ = some (.string a1_1) ∧ w'.cell? ⟨gb1, 2, none⟩ = some (.string a1_2) ∧ w'.cell? ⟨gb1, 3, none⟩ = some (.int .i64 a1_3) ∧ w'.cell? ⟨gb1, 4, none⟩ = some (.string a1_4) ∧ w'.cell? ⟨gb1, 5, none⟩ = some (.string a1_5) ∧ w'.cell? ⟨gb1, 6, none⟩ = some (.int .i64 a1_6) ∧ w'.cell? ⟨gb1, 7, none⟩ = some (.string a1_7) ∧ w'.cell? ⟨gb1, 8, none⟩ = some (.string a1_8)) (ds := []) #[false, false, false, false, false, false, false, false] (by kernel_rfl) rfl rfl ⟨(blk_cell BK0.out 0).trans rfl, (blk_cell BK0.out 1).trans rfl, (blk_cell BK0.out 2).trans rfl, (blk_cell BK0.out 3).trans rfl, (blk_cell BK0.out 4).trans rfl, (blk_cell BK0.out 5).trans rfl, (blk_cell BK0.out 6).trans rfl, (blk_cell BK0.out 7).trans rfl, (blk_cell BK0.out 8).trans rfl, (blk_cell BK1.out 0).trans rfl, (blk_cell BK1.out 1).trans rfl, (blk_cell BK1.out 2).trans rfl, (blk_cell BK1.out 3).trans rfl, (blk_cell BK1.out 4).trans rfl, (blk_cell BK1.out 5).trans rfl, (blk_cell BK1.out 6).trans rfl, (blk_cell BK1.out 7).trans rfl, (blk_cell BK1.out 8).trans rfl⟩ (fun hHeld => ?_); refine with_tabW rhizomeref02_CompareTriples.tab4 rhizomeref02_CompareTriples.bits4 (fun HT_ HW_ => ?_)
        generalize wc1.drew = wd2 at BK0 BK1 HB hHeld ⊢
        refine pure_ (i := 0) (N := some 11) (v := ?_) (a' := ?_) #[true, false, false, false, false, false, false, false] rfl rfl (any_of HT_.out (by kernel_rfl)) (fun _ _ _ h => h) (Or.inl ⟨by rfl, ?_⟩) ?_ ?_
        rotate_left
        · intro w'
          go_simp
          with_reducible rfl
        rotate_left
        · simp only [Act.put, List.setIfInBounds_toArray, List.set_cons_zero, List.set_cons_succ, i64_w, i32_w]
          rfl
        refine pure_ (i := 3) (N := some 14) (v := ?_) (a' := ?_) #[true, false, false, true, false, false, false, false] rfl rfl (any_of HT_.out (by kernel_rfl)) (fun _ _ _ h => h) (Or.inl ⟨by rfl, ?_⟩) ?_ ?_
        rotate_left
        · intro w'
          go_simp
          with_reducible rfl
        rotate_left
        · simp only [Act.put, List.setIfInBounds_toArray, List.set_cons_zero, List.set_cons_succ, i64_w, i32_w]
          rfl
        refine pure_ (i := 1) (N := some 12) (v := ?_) (a' := ?_) #[true, true, false, true, false, false, false, false] rfl rfl (any_of HT_.out (by kernel_rfl)) (fun _ _ _ h => h) (Or.inl ⟨by rfl, ?_⟩) ?_ ?_
        rotate_left
        · intro w'
          go_simp
          with_reducible rfl
        rotate_left
        · simp only [Act.put, List.setIfInBounds_toArray, List.set_cons_zero, List.set_cons_succ, i64_w, i32_w]
          rfl
        refine pure_ (i := 4) (N := some 15) (v := ?_) (a' := ?_) #[true, true, false, true, true, false, false, false] rfl rfl (any_of HT_.out (by kernel_rfl)) (fun _ _ _ h => h) (Or.inl ⟨by rfl, ?_⟩) ?_ ?_
        rotate_left
        · intro w'
          go_simp
          with_reducible rfl
        rotate_left
        · simp only [Act.put, List.setIfInBounds_toArray, List.set_cons_zero, List.set_cons_succ, i64_w, i32_w]
          rfl
        refine take_ (i := 2) (N := some 13) (v := ?_) (a' := ?_) #[true, true, true, true, true, false, false, false] rfl rfl (take_ofW HT_.out HW_.out (by kernel_rfl)) (fun _ _ _ h => h) (Or.inl ⟨by rfl, ?_⟩) hHeld ?_ ?_
        rotate_left
        · rintro w' ⟨s0, s1, s2, s3, s4, s5, s6, s7, s8, s9, s10, s11, s12, s13, s14, s15, s16, s17⟩
          go_simp
          with_reducible rfl
        rotate_left
        · simp only [Act.put, List.setIfInBounds_toArray, List.set_cons_zero, List.set_cons_succ, i64_w, i32_w]
          rfl
        refine take_ (i := 5) (N := some 16) (v := ?_) (a' := ?_) #[true, true, true, true, true, true, false, false] rfl rfl (take_ofW HT_.out HW_.out (by kernel_rfl)) (fun _ _ _ h => h) (Or.inl ⟨by rfl, ?_⟩) hHeld ?_ ?_
        rotate_left
        · rintro w' ⟨s0, s1, s2, s3, s4, s5, s6, s7, s8, s9, s10, s11, s12, s13, s14, s15, s16, s17⟩
          go_simp
          with_reducible rfl
        rotate_left
        · simp only [Act.put, List.setIfInBounds_toArray, List.set_cons_zero, List.set_cons_succ, i64_w, i32_w]
          rfl
        refine one_ (i := 6) (N := some 17) #[true, true, true, true, true, true, true, false] rfl rfl (one_of HT_.out (by kernel_rfl)) (by decide) (fun K hK => ?_)
        refine goes_ Tryd.func30 (by kernel_rfl) rfl #[.agg #[.int .i64 a0_6, .string a0_7, .string a0_8], .agg #[.int .i64 a1_6, .string a1_7, .string a1_8]] (by rfl) rfl rfl (by (try simp only [List.map_toArray, List.map_cons, List.map_nil]); first | done | rfl) ?_
        with_reducible refine (rhizomeref02_Compare.callsD a0_6 a0_7 a0_8 a1_6 a1_7 a1_8 t2 _ A2).mono ?_
        rintro e wc2 ⟨rfl, hb⟩
        refine ⟨_, rfl, ?_⟩
        have n0_ := Aside0.mk (blk_below (g := gb0) (o := .cells #[.int .i64 a0_0, .string a0_1, .string a0_2, .int .i64 a0_3, .string a0_4, .string a0_5, .int .i64 a0_6, .string a0_7, .string a0_8] 29 (0, 0)) (by (with_reducible repeat (first | refine blk_drewN ?_ _ | refine blk_drew ?_ | refine blk_alloc ?_ _)); exact BK0.out) hb.b)
        have n1_ := Aside0.mk (blk_below (g := gb1) (o := .cells #[.int .i64 a1_0, .string a1_1, .string a1_2, .int .i64 a1_3, .string a1_4, .string a1_5, .int .i64 a1_6, .string a1_7, .string a1_8] 29 (0, 0)) (by (with_reducible repeat (first | refine blk_drewN ?_ _ | refine blk_drew ?_ | refine blk_alloc ?_ _)); exact BK1.out) hb.b)
        have n2_ := Aside0.mk (belowD_step (by repeat (first | (with_reducible first | exact HB.out | apply belowD_alloc | apply belowD_drewN | apply belowD_drew1) | exact HB.out)) hb)
        clear BK0 BK1 HB
        have BK0 := n0_
        have BK1 := n1_
        have HB := n2_
        clear n0_ n1_ n2_ hb
        refine hK.out _ _ ⟨(blk_cell BK0.out 0).trans rfl, (blk_cell BK0.out 1).trans rfl, (blk_cell BK0.out 2).trans rfl, (blk_cell BK0.out 3).trans rfl, (blk_cell BK0.out 4).trans rfl, (blk_cell BK0.out 5).trans rfl, (blk_cell BK0.out 6).trans rfl, (blk_cell BK0.out 7).trans rfl, (blk_cell BK0.out 8).trans rfl, (blk_cell BK1.out 0).trans rfl, (blk_cell BK1.out 1).trans rfl, (blk_cell BK1.out 2).trans rfl, (blk_cell BK1.out 3).trans rfl, (blk_cell BK1.out 4).trans rfl, (blk_cell BK1.out 5).trans rfl, (blk_cell BK1.out 6).trans rfl, (blk_cell BK1.out 7).trans rfl, (blk_cell BK1.out 8).trans rfl⟩ (fun hHeld => ?_)
        clear hK K
        refine norm_ (a' := ?_) ?_ ?_
        rotate_left
        · show Act.put _ (some 17) _ = _
          simp only [Act.put, List.setIfInBounds_toArray, List.set_cons_zero, List.set_cons_succ, i64_w, i32_w]
          rfl
        refine pure_ (i := 7) (N := some 6) (v := ?_) (a' := ?_) #[true, true, true, true, true, true, true, true] rfl rfl (any_of HT_.out (by kernel_rfl)) (fun _ _ _ h => h) (Or.inl ⟨by rfl, ?_⟩) ?_ ?_
        rotate_left
        · intro w'
          go_simp
          with_reducible rfl
        rotate_left
        · simp only [Act.put, List.setIfInBounds_toArray, List.set_cons_zero, List.set_cons_succ, i64_w, i32_w]
          rfl
        refine done_ (done_of HT_.out (by kernel_rfl)) ?_
        clear hHeld HT_ HW_
        try go_wp2
        go_ret
        exact ⟨by first | rfl | (simp; done) | (simp [*]; done), (by repeat (first | (with_reducible first | exact HB.out | apply belowD_alloc | apply belowD_drewN | apply belowD_drew1) | exact HB.out))⟩
    · rw [if_neg c1] at h
      obtain rfl := Option.some.inj h
      have c1b : (t1 == 0) = false := by simpa using c1
      have c1c : (t1 != 0) = true := by simpa using c1
      go_enter Tryd.func32, Tryd.ntmps32
      try go_wp2_with (first | ((with_reducible refine gate_dst (N := 2) rfl ?_); refine box_eventD ?hg (N := 2) ?hd (cs := #[.int .i64 a0_0, .string a0_1, .string a0_2, .int .i64 a0_3, .string a0_4, .string a0_5, .int .i64 a0_6, .string a0_7, .string a0_8]) (t := 29) ?hr ?_; (case hd => rfl); (case hg => rfl); (case hr => first | (go_simp; done) | (go_simp; rfl)); intro gb0 hg wb0 hbox hb; have m1_ := Aside0.mk (belowD_step (by repeat (first | (with_reducible first | exact HB.out | apply belowD_alloc | apply belowD_drewN | apply belowD_drew1) | exact HB.out)) hb); have m2_ := Aside0.mk hbox; clear HB; have HB := m1_; have BK0 := m2_; clear m1_ m2_; clear hb hbox hg) | ((with_reducible refine gate_dst (N := 3) rfl ?_); refine box_eventD ?hg (N := 3) ?hd (cs := #[.int .i64 a1_0, .string a1_1, .string a1_2, .int .i64 a1_3, .string a1_4, .string a1_5, .int .i64 a1_6, .string a1_7, .string a1_8]) (t := 29) ?hr ?_; (case hd => rfl); (case hg => rfl); (case hr => first | (go_simp; done) | (go_simp; rfl)); intro gb1 hg wb1 hbox hb; have m0_ := Aside0.mk (blk_below (g := gb0) (o := .cells #[.int .i64 a0_0, .string a0_1, .string a0_2, .int .i64 a0_3, .string a0_4, .string a0_5, .int .i64 a0_6, .string a0_7, .string a0_8] 29 (0, 0)) (by (with_reducible repeat (first | refine blk_drewN ?_ _ | refine blk_drew ?_ | refine blk_alloc ?_ _)); exact BK0.out) hb.b); have m1_ := Aside0.mk (belowD_step (by repeat (first | (with_reducible first | exact HB.out | apply belowD_alloc | apply belowD_drewN | apply belowD_drew1) | exact HB.out)) hb); have m2_ := Aside0.mk hbox; clear BK0; have BK0 := m0_; clear m0_; clear HB; have HB := m1_; have BK1 := m2_; clear m1_ m2_; clear hb hbox hg))
      refine wp_loop_rounds 4 ?_
      rw [rounds_succ]
      try go_wp2
      have n0_ := Aside0.mk (blk_drew BK0.out)
      have n1_ := Aside0.mk (blk_drew BK1.out)
      have n2_ := Aside0.mk (belowD_drew1 HB.out)
      clear BK0 BK1 HB
      have BK0 := n0_
      have BK1 := n1_
      have HB := n2_
      clear n0_ n1_ n2_
      refine start_ (n := 8) (S := fun w' => w'.cell? ⟨gb0, 0, none⟩ = some (.int .i64 a0_0) ∧ w'.cell? ⟨gb0, 1, none⟩ = some (.string a0_1) ∧ w'.cell? ⟨gb0, 2, none⟩ = some (.string a0_2) ∧ w'.cell? ⟨gb0, 3, none⟩ = some (.int .i64 a0_3) ∧ w'.cell? ⟨gb0, 4, none⟩ = some (.string a0_4) ∧ w'.cell? ⟨gb0, 5, none⟩ = some (.string a0_5) ∧ w'.cell? ⟨gb0, 6, none⟩ = some (.int .i64 a0_6) ∧ w'.cell? ⟨gb0, 7, none⟩ = some (.string a0_7) ∧ w'.cell? ⟨gb0, 8, none⟩ = some (.string a0_8) ∧ w'.cell? ⟨gb1, 0, none⟩ = some (.int .i64 a1_0) ∧ w'.cell? ⟨gb1, 1, none⟩ = some (.string a1_1) ∧ w'.cell? ⟨gb1, 2, none⟩ = some (.string a1_2) ∧ w'.cell? ⟨gb1, 3, none⟩ = some (.int .i64 a1_3) ∧ w'.cell? ⟨gb1, 4, none⟩ = some (.string a1_4) ∧ w'.cell? ⟨gb1, 5, none⟩ = some (.string a1_5) ∧ w'.cell? ⟨gb1, 6, none⟩ = some (.int .i64 a1_6) ∧ w'.cell? ⟨gb1, 7, none⟩ = some (.string a1_7) ∧ w'.cell? ⟨gb1, 8, none⟩ = some (.string a1_8)) (ds := []) #[false, false, false, false, false, false, false, false] (by kernel_rfl) rfl rfl ⟨(blk_cell BK0.out 0).trans rfl, (blk_cell BK0.out 1).trans rfl, (blk_cell BK0.out 2).trans rfl, (blk_cell BK0.out 3).trans rfl, (blk_cell BK0.out 4).trans rfl, (blk_cell BK0.out 5).trans rfl, (blk_cell BK0.out 6).trans rfl, (blk_cell BK0.out 7).trans rfl, (blk_cell BK0.out 8).trans rfl, (blk_cell BK1.out 0).trans rfl, (blk_cell BK1.out 1).trans rfl, (blk_cell BK1.out 2).trans rfl, (blk_cell BK1.out 3).trans rfl, (blk_cell BK1.out 4).trans rfl, (blk_cell BK1.out 5).trans rfl, (blk_cell BK1.out 6).trans rfl, (blk_cell BK1.out 7).trans rfl, (blk_cell BK1.out 8).trans rfl⟩ (fun hHeld => ?_); refine with_tabW rhizomeref02_CompareTriples.tab4 rhizomeref02_CompareTriples.bits4 (fun HT_ HW_ => ?_)
      generalize wb1.drew = wd0 at BK0 BK1 HB hHeld ⊢
      refine pure_ (i := 0) (N := some 11) (v := ?_) (a' := ?_) #[true, false, false, false, false, false, false, false] rfl rfl (any_of HT_.out (by kernel_rfl)) (fun _ _ _ h => h) (Or.inl ⟨by rfl, ?_⟩) ?_ ?_
      rotate_left
      · intro w'
        go_simp
        with_reducible rfl
      rotate_left
      · simp only [Act.put, List.setIfInBounds_toArray, List.set_cons_zero, List.set_cons_succ, i64_w, i32_w]
        rfl
      refine pure_ (i := 3) (N := some 14) (v := ?_) (a' := ?_) #[true, false, false, true, false, false, false, false] rfl rfl (any_of HT_.out (by kernel_rfl)) (fun _ _ _ h => h) (Or.inl ⟨by rfl, ?_⟩) ?_ ?_
      rotate_left
      · intro w'
        go_simp
        with_reducible rfl
      rotate_left
      · simp only [Act.put, List.setIfInBounds_toArray, List.set_cons_zero, List.set_cons_succ, i64_w, i32_w]
        rfl
      refine pure_ (i := 1) (N := some 12) (v := ?_) (a' := ?_) #[true, true, false, true, false, false, false, false] rfl rfl (any_of HT_.out (by kernel_rfl)) (fun _ _ _ h => h) (Or.inl ⟨by rfl, ?_⟩) ?_ ?_
      rotate_left
      · intro w'
        go_simp
        with_reducible rfl
      rotate_left
      · simp only [Act.put, List.setIfInBounds_toArray, List.set_cons_zero, List.set_cons_succ, i64_w, i32_w]
        rfl
      refine pure_ (i := 4) (N := some 15) (v := ?_) (a' := ?_) #[true, true, false, true, true, false, false, false] rfl rfl (any_of HT_.out (by kernel_rfl)) (fun _ _ _ h => h) (Or.inl ⟨by rfl, ?_⟩) ?_ ?_
      rotate_left
      · intro w'
        go_simp
        with_reducible rfl
      rotate_left
      · simp only [Act.put, List.setIfInBounds_toArray, List.set_cons_zero, List.set_cons_succ, i64_w, i32_w]
        rfl
      refine take_ (i := 2) (N := some 13) (v := ?_) (a' := ?_) #[true, true, true, true, true, false, false, false] rfl rfl (take_ofW HT_.out HW_.out (by kernel_rfl)) (fun _ _ _ h => h) (Or.inl ⟨by rfl, ?_⟩) hHeld ?_ ?_
      rotate_left
      · rintro w' ⟨s0, s1, s2, s3, s4, s5, s6, s7, s8, s9, s10, s11, s12, s13, s14, s15, s16, s17⟩
        go_simp
        with_reducible rfl
      rotate_left
      · simp only [Act.put, List.setIfInBounds_toArray, List.set_cons_zero, List.set_cons_succ, i64_w, i32_w]
        rfl
      refine take_ (i := 5) (N := some 16) (v := ?_) (a' := ?_) #[true, true, true, true, true, true, false, false] rfl rfl (take_ofW HT_.out HW_.out (by kernel_rfl)) (fun _ _ _ h => h) (Or.inl ⟨by rfl, ?_⟩) hHeld ?_ ?_
      rotate_left
      · rintro w' ⟨s0, s1, s2, s3, s4, s5, s6, s7, s8, s9, s10, s11, s12, s13, s14, s15, s16, s17⟩
        go_simp
        with_reducible rfl
      rotate_left
      · simp only [Act.put, List.setIfInBounds_toArray, List.set_cons_zero, List.set_cons_succ, i64_w, i32_w]
        rfl
      refine one_ (i := 6) (N := some 17) #[true, true, true, true, true, true, true, false] rfl rfl (one_of HT_.out (by kernel_rfl)) (by decide) (fun K hK => ?_)
      refine goes_ Tryd.func30 (by kernel_rfl) rfl #[.agg #[.int .i64 a0_0, .string a0_1, .string a0_2], .agg #[.int .i64 a1_0, .string a1_1, .string a1_2]] (by rfl) rfl rfl (by (try simp only [List.map_toArray, List.map_cons, List.map_nil]); first | done | rfl) ?_
      with_reducible refine (rhizomeref02_Compare.callsD a0_0 a0_1 a0_2 a1_0 a1_1 a1_2 0 _ A0).mono ?_
      rintro e wc0 ⟨rfl, hb⟩
      refine ⟨_, rfl, ?_⟩
      have n0_ := Aside0.mk (blk_below (g := gb0) (o := .cells #[.int .i64 a0_0, .string a0_1, .string a0_2, .int .i64 a0_3, .string a0_4, .string a0_5, .int .i64 a0_6, .string a0_7, .string a0_8] 29 (0, 0)) (by (with_reducible repeat (first | refine blk_drewN ?_ _ | refine blk_drew ?_ | refine blk_alloc ?_ _)); exact BK0.out) hb.b)
      have n1_ := Aside0.mk (blk_below (g := gb1) (o := .cells #[.int .i64 a1_0, .string a1_1, .string a1_2, .int .i64 a1_3, .string a1_4, .string a1_5, .int .i64 a1_6, .string a1_7, .string a1_8] 29 (0, 0)) (by (with_reducible repeat (first | refine blk_drewN ?_ _ | refine blk_drew ?_ | refine blk_alloc ?_ _)); exact BK1.out) hb.b)
      have n2_ := Aside0.mk (belowD_step (by repeat (first | (with_reducible first | exact HB.out | apply belowD_alloc | apply belowD_drewN | apply belowD_drew1) | exact HB.out)) hb)
      clear BK0 BK1 HB
      have BK0 := n0_
      have BK1 := n1_
      have HB := n2_
      clear n0_ n1_ n2_ hb
      refine hK.out _ _ ⟨(blk_cell BK0.out 0).trans rfl, (blk_cell BK0.out 1).trans rfl, (blk_cell BK0.out 2).trans rfl, (blk_cell BK0.out 3).trans rfl, (blk_cell BK0.out 4).trans rfl, (blk_cell BK0.out 5).trans rfl, (blk_cell BK0.out 6).trans rfl, (blk_cell BK0.out 7).trans rfl, (blk_cell BK0.out 8).trans rfl, (blk_cell BK1.out 0).trans rfl, (blk_cell BK1.out 1).trans rfl, (blk_cell BK1.out 2).trans rfl, (blk_cell BK1.out 3).trans rfl, (blk_cell BK1.out 4).trans rfl, (blk_cell BK1.out 5).trans rfl, (blk_cell BK1.out 6).trans rfl, (blk_cell BK1.out 7).trans rfl, (blk_cell BK1.out 8).trans rfl⟩ (fun hHeld => ?_)
      clear hK K
      refine norm_ (a' := ?_) ?_ ?_
      rotate_left
      · show Act.put _ (some 17) _ = _
        simp only [Act.put, List.setIfInBounds_toArray, List.set_cons_zero, List.set_cons_succ, i64_w, i32_w]
        rfl
      refine pure_ (i := 7) (N := some 6) (v := ?_) (a' := ?_) #[true, true, true, true, true, true, true, true] rfl rfl (any_of HT_.out (by kernel_rfl)) (fun _ _ _ h => h) (Or.inl ⟨by rfl, ?_⟩) ?_ ?_
      rotate_left
      · intro w'
        go_simp
        with_reducible rfl
      rotate_left
      · simp only [Act.put, List.setIfInBounds_toArray, List.set_cons_zero, List.set_cons_succ, i64_w, i32_w]
        rfl
      refine done_ (done_of HT_.out (by kernel_rfl)) ?_
      clear hHeld HT_ HW_
      try go_wp2
      rw [rounds_succ]
      try go_wp2
      have n0_ := Aside0.mk (blk_drew BK0.out)
      have n1_ := Aside0.mk (blk_drew BK1.out)
      have n2_ := Aside0.mk (belowD_drew1 HB.out)
      clear BK0 BK1 HB
      have BK0 := n0_
      have BK1 := n1_
      have HB := n2_
      clear n0_ n1_ n2_
      refine start_ (n := 8) (S := fun w' => w'.cell? ⟨gb0, 0, none⟩ = some (.int .i64 a0_0) ∧ w'.cell? ⟨gb0, 1, none⟩ = some (.string a0_1) ∧ w'.cell? ⟨gb0, 2, none⟩ = some (.string a0_2) ∧ w'.cell? ⟨gb0, 3, none⟩ = some (.int .i64 a0_3) ∧ w'.cell? ⟨gb0, 4, none⟩ = some (.string a0_4) ∧ w'.cell? ⟨gb0, 5, none⟩ = some (.string a0_5) ∧ w'.cell? ⟨gb0, 6, none⟩ = some (.int .i64 a0_6) ∧ w'.cell? ⟨gb0, 7, none⟩ = some (.string a0_7) ∧ w'.cell? ⟨gb0, 8, none⟩ = some (.string a0_8) ∧ w'.cell? ⟨gb1, 0, none⟩ = some (.int .i64 a1_0) ∧ w'.cell? ⟨gb1, 1, none⟩ = some (.string a1_1) ∧ w'.cell? ⟨gb1, 2, none⟩ = some (.string a1_2) ∧ w'.cell? ⟨gb1, 3, none⟩ = some (.int .i64 a1_3) ∧ w'.cell? ⟨gb1, 4, none⟩ = some (.string a1_4) ∧ w'.cell? ⟨gb1, 5, none⟩ = some (.string a1_5) ∧ w'.cell? ⟨gb1, 6, none⟩ = some (.int .i64 a1_6) ∧ w'.cell? ⟨gb1, 7, none⟩ = some (.string a1_7) ∧ w'.cell? ⟨gb1, 8, none⟩ = some (.string a1_8)) (ds := []) #[false, false, false, false, false, false, false, false] (by kernel_rfl) rfl rfl ⟨(blk_cell BK0.out 0).trans rfl, (blk_cell BK0.out 1).trans rfl, (blk_cell BK0.out 2).trans rfl, (blk_cell BK0.out 3).trans rfl, (blk_cell BK0.out 4).trans rfl, (blk_cell BK0.out 5).trans rfl, (blk_cell BK0.out 6).trans rfl, (blk_cell BK0.out 7).trans rfl, (blk_cell BK0.out 8).trans rfl, (blk_cell BK1.out 0).trans rfl, (blk_cell BK1.out 1).trans rfl, (blk_cell BK1.out 2).trans rfl, (blk_cell BK1.out 3).trans rfl, (blk_cell BK1.out 4).trans rfl, (blk_cell BK1.out 5).trans rfl, (blk_cell BK1.out 6).trans rfl, (blk_cell BK1.out 7).trans rfl, (blk_cell BK1.out 8).trans rfl⟩ (fun hHeld => ?_); refine with_tabW rhizomeref02_CompareTriples.tab4 rhizomeref02_CompareTriples.bits4 (fun HT_ HW_ => ?_)
      generalize wc0.drew = wd1 at BK0 BK1 HB hHeld ⊢
      refine pure_ (i := 0) (N := some 11) (v := ?_) (a' := ?_) #[true, false, false, false, false, false, false, false] rfl rfl (any_of HT_.out (by kernel_rfl)) (fun _ _ _ h => h) (Or.inl ⟨by rfl, ?_⟩) ?_ ?_
      rotate_left
      · intro w'
        go_simp
        with_reducible rfl
      rotate_left
      · simp only [Act.put, List.setIfInBounds_toArray, List.set_cons_zero, List.set_cons_succ, i64_w, i32_w]
        rfl
      refine pure_ (i := 3) (N := some 14) (v := ?_) (a' := ?_) #[true, false, false, true, false, false, false, false] rfl rfl (any_of HT_.out (by kernel_rfl)) (fun _ _ _ h => h) (Or.inl ⟨by rfl, ?_⟩) ?_ ?_
      rotate_left
      · intro w'
        go_simp
        with_reducible rfl
      rotate_left
      · simp only [Act.put, List.setIfInBounds_toArray, List.set_cons_zero, List.set_cons_succ, i64_w, i32_w]
        rfl
      refine pure_ (i := 1) (N := some 12) (v := ?_) (a' := ?_) #[true, true, false, true, false, false, false, false] rfl rfl (any_of HT_.out (by kernel_rfl)) (fun _ _ _ h => h) (Or.inl ⟨by rfl, ?_⟩) ?_ ?_
      rotate_left
      · intro w'
        go_simp
        with_reducible rfl
      rotate_left
      · simp only [Act.put, List.setIfInBounds_toArray, List.set_cons_zero, List.set_cons_succ, i64_w, i32_w]
        rfl
      refine pure_ (i := 4) (N := some 15) (v := ?_) (a' := ?_) #[true, true, false, true, true, false, false, false] rfl rfl (any_of HT_.out (by kernel_rfl)) (fun _ _ _ h => h) (Or.inl ⟨by rfl, ?_⟩) ?_ ?_
      rotate_left
      · intro w'
        go_simp
        with_reducible rfl
      rotate_left
      · simp only [Act.put, List.setIfInBounds_toArray, List.set_cons_zero, List.set_cons_succ, i64_w, i32_w]
        rfl
      refine take_ (i := 2) (N := some 13) (v := ?_) (a' := ?_) #[true, true, true, true, true, false, false, false] rfl rfl (take_ofW HT_.out HW_.out (by kernel_rfl)) (fun _ _ _ h => h) (Or.inl ⟨by rfl, ?_⟩) hHeld ?_ ?_
      rotate_left
      · rintro w' ⟨s0, s1, s2, s3, s4, s5, s6, s7, s8, s9, s10, s11, s12, s13, s14, s15, s16, s17⟩
        go_simp
        with_reducible rfl
      rotate_left
      · simp only [Act.put, List.setIfInBounds_toArray, List.set_cons_zero, List.set_cons_succ, i64_w, i32_w]
        rfl
      refine take_ (i := 5) (N := some 16) (v := ?_) (a' := ?_) #[true, true, true, true, true, true, false, false] rfl rfl (take_ofW HT_.out HW_.out (by kernel_rfl)) (fun _ _ _ h => h) (Or.inl ⟨by rfl, ?_⟩) hHeld ?_ ?_
      rotate_left
      · rintro w' ⟨s0, s1, s2, s3, s4, s5, s6, s7, s8, s9, s10, s11, s12, s13, s14, s15, s16, s17⟩
        go_simp
        with_reducible rfl
      rotate_left
      · simp only [Act.put, List.setIfInBounds_toArray, List.set_cons_zero, List.set_cons_succ, i64_w, i32_w]
        rfl
      refine one_ (i := 6) (N := some 17) #[true, true, true, true, true, true, true, false] rfl rfl (one_of HT_.out (by kernel_rfl)) (by decide) (fun K hK => ?_)
      refine goes_ Tryd.func30 (by kernel_rfl) rfl #[.agg #[.int .i64 a0_3, .string a0_4, .string a0_5], .agg #[.int .i64 a1_3, .string a1_4, .string a1_5]] (by rfl) rfl rfl (by (try simp only [List.map_toArray, List.map_cons, List.map_nil]); first | done | rfl) ?_
      with_reducible refine (rhizomeref02_Compare.callsD a0_3 a0_4 a0_5 a1_3 a1_4 a1_5 t1 _ A1).mono ?_
      rintro e wc1 ⟨rfl, hb⟩
      refine ⟨_, rfl, ?_⟩
      have n0_ := Aside0.mk (blk_below (g := gb0) (o := .cells #[.int .i64 a0_0, .string a0_1, .string a0_2, .int .i64 a0_3, .string a0_4, .string a0_5, .int .i64 a0_6, .string a0_7, .string a0_8] 29 (0, 0)) (by (with_reducible repeat (first | refine blk_drewN ?_ _ | refine blk_drew ?_ | refine blk_alloc ?_ _)); exact BK0.out) hb.b)
      have n1_ := Aside0.mk (blk_below (g := gb1) (o := .cells #[.int .i64 a1_0, .string a1_1, .string a1_2, .int .i64 a1_3, .string a1_4, .string a1_5, .int .i64 a1_6, .string a1_7, .string a1_8] 29 (0, 0)) (by (with_reducible repeat (first | refine blk_drewN ?_ _ | refine blk_drew ?_ | refine blk_alloc ?_ _)); exact BK1.out) hb.b)
      have n2_ := Aside0.mk (belowD_step (by repeat (first | (with_reducible first | exact HB.out | apply belowD_alloc | apply belowD_drewN | apply belowD_drew1) | exact HB.out)) hb)
      clear BK0 BK1 HB
      have BK0 := n0_
      have BK1 := n1_
      have HB := n2_
      clear n0_ n1_ n2_ hb
      refine hK.out _ _ ⟨(blk_cell BK0.out 0).trans rfl, (blk_cell BK0.out 1).trans rfl, (blk_cell BK0.out 2).trans rfl, (blk_cell BK0.out 3).trans rfl, (blk_cell BK0.out 4).trans rfl, (blk_cell BK0.out 5).trans rfl, (blk_cell BK0.out 6).trans rfl, (blk_cell BK0.out 7).trans rfl, (blk_cell BK0.out 8).trans rfl, (blk_cell BK1.out 0).trans rfl, (blk_cell BK1.out 1).trans rfl, (blk_cell BK1.out 2).trans rfl, (blk_cell BK1.out 3).trans rfl, (blk_cell BK1.out 4).trans rfl, (blk_cell BK1.out 5).trans rfl, (blk_cell BK1.out 6).trans rfl, (blk_cell BK1.out 7).trans rfl, (blk_cell BK1.out 8).trans rfl⟩ (fun hHeld => ?_)
      clear hK K
      refine norm_ (a' := ?_) ?_ ?_
      rotate_left
      · show Act.put _ (some 17) _ = _
        simp only [Act.put, List.setIfInBounds_toArray, List.set_cons_zero, List.set_cons_succ, i64_w, i32_w]
        rfl
      refine pure_ (i := 7) (N := some 6) (v := ?_) (a' := ?_) #[true, true, true, true, true, true, true, true] rfl rfl (any_of HT_.out (by kernel_rfl)) (fun _ _ _ h => h) (Or.inl ⟨by rfl, ?_⟩) ?_ ?_
      rotate_left
      · intro w'
        go_simp
        with_reducible rfl
      rotate_left
      · simp only [Act.put, List.setIfInBounds_toArray, List.set_cons_zero, List.set_cons_succ, i64_w, i32_w]
        rfl
      refine done_ (done_of HT_.out (by kernel_rfl)) ?_
      clear hHeld HT_ HW_
      try go_wp2
      go_ret
      exact ⟨by first | rfl | (simp; done) | (simp [*]; done), (by repeat (first | (with_reducible first | exact HB.out | apply belowD_alloc | apply belowD_drewN | apply belowD_drew1) | exact HB.out))⟩
  · rw [if_neg c0] at h
    obtain rfl := Option.some.inj h
    have c0b : (t0 == 0) = false := by simpa using c0
    have c0c : (t0 != 0) = true := by simpa using c0
    go_enter Tryd.func32, Tryd.ntmps32
    try go_wp2_with (first | ((with_reducible refine gate_dst (N := 2) rfl ?_); refine box_eventD ?hg (N := 2) ?hd (cs := #[.int .i64 a0_0, .string a0_1, .string a0_2, .int .i64 a0_3, .string a0_4, .string a0_5, .int .i64 a0_6, .string a0_7, .string a0_8]) (t := 29) ?hr ?_; (case hd => rfl); (case hg => rfl); (case hr => first | (go_simp; done) | (go_simp; rfl)); intro gb0 hg wb0 hbox hb; have m1_ := Aside0.mk (belowD_step (by repeat (first | (with_reducible first | exact HB.out | apply belowD_alloc | apply belowD_drewN | apply belowD_drew1) | exact HB.out)) hb); have m2_ := Aside0.mk hbox; clear HB; have HB := m1_; have BK0 := m2_; clear m1_ m2_; clear hb hbox hg) | ((with_reducible refine gate_dst (N := 3) rfl ?_); refine box_eventD ?hg (N := 3) ?hd (cs := #[.int .i64 a1_0, .string a1_1, .string a1_2, .int .i64 a1_3, .string a1_4, .string a1_5, .int .i64 a1_6, .string a1_7, .string a1_8]) (t := 29) ?hr ?_; (case hd => rfl); (case hg => rfl); (case hr => first | (go_simp; done) | (go_simp; rfl)); intro gb1 hg wb1 hbox hb; have m0_ := Aside0.mk (blk_below (g := gb0) (o := .cells #[.int .i64 a0_0, .string a0_1, .string a0_2, .int .i64 a0_3, .string a0_4, .string a0_5, .int .i64 a0_6, .string a0_7, .string a0_8] 29 (0, 0)) (by (with_reducible repeat (first | refine blk_drewN ?_ _ | refine blk_drew ?_ | refine blk_alloc ?_ _)); exact BK0.out) hb.b); have m1_ := Aside0.mk (belowD_step (by repeat (first | (with_reducible first | exact HB.out | apply belowD_alloc | apply belowD_drewN | apply belowD_drew1) | exact HB.out)) hb); have m2_ := Aside0.mk hbox; clear BK0; have BK0 := m0_; clear m0_; clear HB; have HB := m1_; have BK1 := m2_; clear m1_ m2_; clear hb hbox hg))
    refine wp_loop_rounds 4 ?_
    rw [rounds_succ]
    try go_wp2
    have n0_ := Aside0.mk (blk_drew BK0.out)
    have n1_ := Aside0.mk (blk_drew BK1.out)
    have n2_ := Aside0.mk (belowD_drew1 HB.out)
    clear BK0 BK1 HB
    have BK0 := n0_
    have BK1 := n1_
    have HB := n2_
    clear n0_ n1_ n2_
    refine start_ (n := 8) (S := fun w' => w'.cell? ⟨gb0, 0, none⟩ = some (.int .i64 a0_0) ∧ w'.cell? ⟨gb0, 1, none⟩ = some (.string a0_1) ∧ w'.cell? ⟨gb0, 2, none⟩ = some (.string a0_2) ∧ w'.cell? ⟨gb0, 3, none⟩ = some (.int .i64 a0_3) ∧ w'.cell? ⟨gb0, 4, none⟩ = some (.string a0_4) ∧ w'.cell? ⟨gb0, 5, none⟩ = some (.string a0_5) ∧ w'.cell? ⟨gb0, 6, none⟩ = some (.int .i64 a0_6) ∧ w'.cell? ⟨gb0, 7, none⟩ = some (.string a0_7) ∧ w'.cell? ⟨gb0, 8, none⟩ = some (.string a0_8) ∧ w'.cell? ⟨gb1, 0, none⟩ = some (.int .i64 a1_0) ∧ w'.cell? ⟨gb1, 1, none⟩ = some (.string a1_1) ∧ w'.cell? ⟨gb1, 2, none⟩ = some (.string a1_2) ∧ w'.cell? ⟨gb1, 3, none⟩ = some (.int .i64 a1_3) ∧ w'.cell? ⟨gb1, 4, none⟩ = some (.string a1_4) ∧ w'.cell? ⟨gb1, 5, none⟩ = some (.string a1_5) ∧ w'.cell? ⟨gb1, 6, none⟩ = some (.int .i64 a1_6) ∧ w'.cell? ⟨gb1, 7, none⟩ = some (.string a1_7) ∧ w'.cell? ⟨gb1, 8, none⟩ = some (.string a1_8)) (ds := []) #[false, false, false, false, false, false, false, false] (by kernel_rfl) rfl rfl ⟨(blk_cell BK0.out 0).trans rfl, (blk_cell BK0.out 1).trans rfl, (blk_cell BK0.out 2).trans rfl, (blk_cell BK0.out 3).trans rfl, (blk_cell BK0.out 4).trans rfl, (blk_cell BK0.out 5).trans rfl, (blk_cell BK0.out 6).trans rfl, (blk_cell BK0.out 7).trans rfl, (blk_cell BK0.out 8).trans rfl, (blk_cell BK1.out 0).trans rfl, (blk_cell BK1.out 1).trans rfl, (blk_cell BK1.out 2).trans rfl, (blk_cell BK1.out 3).trans rfl, (blk_cell BK1.out 4).trans rfl, (blk_cell BK1.out 5).trans rfl, (blk_cell BK1.out 6).trans rfl, (blk_cell BK1.out 7).trans rfl, (blk_cell BK1.out 8).trans rfl⟩ (fun hHeld => ?_); refine with_tabW rhizomeref02_CompareTriples.tab4 rhizomeref02_CompareTriples.bits4 (fun HT_ HW_ => ?_)
    generalize wb1.drew = wd0 at BK0 BK1 HB hHeld ⊢
    refine pure_ (i := 0) (N := some 11) (v := ?_) (a' := ?_) #[true, false, false, false, false, false, false, false] rfl rfl (any_of HT_.out (by kernel_rfl)) (fun _ _ _ h => h) (Or.inl ⟨by rfl, ?_⟩) ?_ ?_
    rotate_left
    · intro w'
      go_simp
      with_reducible rfl
    rotate_left
    · simp only [Act.put, List.setIfInBounds_toArray, List.set_cons_zero, List.set_cons_succ, i64_w, i32_w]
      rfl
    refine pure_ (i := 3) (N := some 14) (v := ?_) (a' := ?_) #[true, false, false, true, false, false, false, false] rfl rfl (any_of HT_.out (by kernel_rfl)) (fun _ _ _ h => h) (Or.inl ⟨by rfl, ?_⟩) ?_ ?_
    rotate_left
    · intro w'
      go_simp
      with_reducible rfl
    rotate_left
    · simp only [Act.put, List.setIfInBounds_toArray, List.set_cons_zero, List.set_cons_succ, i64_w, i32_w]
      rfl
    refine pure_ (i := 1) (N := some 12) (v := ?_) (a' := ?_) #[true, true, false, true, false, false, false, false] rfl rfl (any_of HT_.out (by kernel_rfl)) (fun _ _ _ h => h) (Or.inl ⟨by rfl, ?_⟩) ?_ ?_
    rotate_left
    · intro w'
      go_simp
      with_reducible rfl
    rotate_left
    · simp only [Act.put, List.setIfInBounds_toArray, List.set_cons_zero, List.set_cons_succ, i64_w, i32_w]
      rfl
    refine pure_ (i := 4) (N := some 15) (v := ?_) (a' := ?_) #[true, true, false, true, true, false, false, false] rfl rfl (any_of HT_.out (by kernel_rfl)) (fun _ _ _ h => h) (Or.inl ⟨by rfl, ?_⟩) ?_ ?_
    rotate_left
    · intro w'
      go_simp
      with_reducible rfl
    rotate_left
    · simp only [Act.put, List.setIfInBounds_toArray, List.set_cons_zero, List.set_cons_succ, i64_w, i32_w]
      rfl
    refine take_ (i := 2) (N := some 13) (v := ?_) (a' := ?_) #[true, true, true, true, true, false, false, false] rfl rfl (take_ofW HT_.out HW_.out (by kernel_rfl)) (fun _ _ _ h => h) (Or.inl ⟨by rfl, ?_⟩) hHeld ?_ ?_
    rotate_left
    · rintro w' ⟨s0, s1, s2, s3, s4, s5, s6, s7, s8, s9, s10, s11, s12, s13, s14, s15, s16, s17⟩
      go_simp
      with_reducible rfl
    rotate_left
    · simp only [Act.put, List.setIfInBounds_toArray, List.set_cons_zero, List.set_cons_succ, i64_w, i32_w]
      rfl
    refine take_ (i := 5) (N := some 16) (v := ?_) (a' := ?_) #[true, true, true, true, true, true, false, false] rfl rfl (take_ofW HT_.out HW_.out (by kernel_rfl)) (fun _ _ _ h => h) (Or.inl ⟨by rfl, ?_⟩) hHeld ?_ ?_
    rotate_left
    · rintro w' ⟨s0, s1, s2, s3, s4, s5, s6, s7, s8, s9, s10, s11, s12, s13, s14, s15, s16, s17⟩
      go_simp
      with_reducible rfl
    rotate_left
    · simp only [Act.put, List.setIfInBounds_toArray, List.set_cons_zero, List.set_cons_succ, i64_w, i32_w]
      rfl
    refine one_ (i := 6) (N := some 17) #[true, true, true, true, true, true, true, false] rfl rfl (one_of HT_.out (by kernel_rfl)) (by decide) (fun K hK => ?_)
    refine goes_ Tryd.func30 (by kernel_rfl) rfl #[.agg #[.int .i64 a0_0, .string a0_1, .string a0_2], .agg #[.int .i64 a1_0, .string a1_1, .string a1_2]] (by rfl) rfl rfl (by (try simp only [List.map_toArray, List.map_cons, List.map_nil]); first | done | rfl) ?_
    with_reducible refine (rhizomeref02_Compare.callsD a0_0 a0_1 a0_2 a1_0 a1_1 a1_2 t0 _ A0).mono ?_
    rintro e wc0 ⟨rfl, hb⟩
    refine ⟨_, rfl, ?_⟩
    have n0_ := Aside0.mk (blk_below (g := gb0) (o := .cells #[.int .i64 a0_0, .string a0_1, .string a0_2, .int .i64 a0_3, .string a0_4, .string a0_5, .int .i64 a0_6, .string a0_7, .string a0_8] 29 (0, 0)) (by (with_reducible repeat (first | refine blk_drewN ?_ _ | refine blk_drew ?_ | refine blk_alloc ?_ _)); exact BK0.out) hb.b)
    have n1_ := Aside0.mk (blk_below (g := gb1) (o := .cells #[.int .i64 a1_0, .string a1_1, .string a1_2, .int .i64 a1_3, .string a1_4, .string a1_5, .int .i64 a1_6, .string a1_7, .string a1_8] 29 (0, 0)) (by (with_reducible repeat (first | refine blk_drewN ?_ _ | refine blk_drew ?_ | refine blk_alloc ?_ _)); exact BK1.out) hb.b)
    have n2_ := Aside0.mk (belowD_step (by repeat (first | (with_reducible first | exact HB.out | apply belowD_alloc | apply belowD_drewN | apply belowD_drew1) | exact HB.out)) hb)
    clear BK0 BK1 HB
    have BK0 := n0_
    have BK1 := n1_
    have HB := n2_
    clear n0_ n1_ n2_ hb
    refine hK.out _ _ ⟨(blk_cell BK0.out 0).trans rfl, (blk_cell BK0.out 1).trans rfl, (blk_cell BK0.out 2).trans rfl, (blk_cell BK0.out 3).trans rfl, (blk_cell BK0.out 4).trans rfl, (blk_cell BK0.out 5).trans rfl, (blk_cell BK0.out 6).trans rfl, (blk_cell BK0.out 7).trans rfl, (blk_cell BK0.out 8).trans rfl, (blk_cell BK1.out 0).trans rfl, (blk_cell BK1.out 1).trans rfl, (blk_cell BK1.out 2).trans rfl, (blk_cell BK1.out 3).trans rfl, (blk_cell BK1.out 4).trans rfl, (blk_cell BK1.out 5).trans rfl, (blk_cell BK1.out 6).trans rfl, (blk_cell BK1.out 7).trans rfl, (blk_cell BK1.out 8).trans rfl⟩ (fun hHeld => ?_)
    clear hK K
    refine norm_ (a' := ?_) ?_ ?_
    rotate_left
    · show Act.put _ (some 17) _ = _
      simp only [Act.put, List.setIfInBounds_toArray, List.set_cons_zero, List.set_cons_succ, i64_w, i32_w]
      rfl
    refine pure_ (i := 7) (N := some 6) (v := ?_) (a' := ?_) #[true, true, true, true, true, true, true, true] rfl rfl (any_of HT_.out (by kernel_rfl)) (fun _ _ _ h => h) (Or.inl ⟨by rfl, ?_⟩) ?_ ?_
    rotate_left
    · intro w'
      go_simp
      with_reducible rfl
    rotate_left
    · simp only [Act.put, List.setIfInBounds_toArray, List.set_cons_zero, List.set_cons_succ, i64_w, i32_w]
      rfl
    refine done_ (done_of HT_.out (by kernel_rfl)) ?_
    clear hHeld HT_ HW_
    try go_wp2
    go_ret
    exact ⟨by first | rfl | (simp; done) | (simp [*]; done), (by repeat (first | (with_reducible first | exact HB.out | apply belowD_alloc | apply belowD_drewN | apply belowD_drew1) | exact HB.out))⟩
theorem rcmp_eq (n : Int) (t x : ByteArray) (m : Int) (s y : ByteArray) : rhizomeref02_Compare.f n t x m s y = some (cmpT (n, t, x) (m, s, y)) := by
  unfold rhizomeref02_Compare.f rhizomeref02_texts.f
  simp only [cmpT, lex2, cmpI, cmpB]
  by_cases h1 : n < m
  · simp [h1]
  · by_cases h2 : n > m
    · simp [h1, h2]
    · simp only [h1, h2, if_false, Option.bind_some]
      by_cases h3 : Lib.compareBytes t.data.toList s.data.toList = 0 <;> simp [h3]
theorem rcmp3_eq (x y : S29) : rhizomeref02_CompareTriples.f x.f0.f0 x.f0.f1 x.f0.f2 x.f1.f0 x.f1.f1 x.f1.f2 x.f2.f0 x.f2.f1 x.f2.f2 y.f0.f0 y.f0.f1 y.f0.f2 y.f1.f0 y.f1.f1 y.f1.f2 y.f2.f0 y.f2.f1 y.f2.f2 = some (cmp9 x y) := by
  unfold rhizomeref02_CompareTriples.f
  simp only [rcmp_eq, Option.bind_some, cmp9, cmp3, lex2, tr9, tm3]
  by_cases h1 : cmpT (x.f0.f0, x.f0.f1, x.f0.f2) (y.f0.f0, y.f0.f1, y.f0.f2) = 0
  · by_cases h2 : cmpT (x.f1.f0, x.f1.f1, x.f1.f2) (y.f1.f0, y.f1.f1, y.f1.f2) = 0
    · by_cases h3 : cmpT (x.f2.f0, x.f2.f1, x.f2.f2) (y.f2.f0, y.f2.f1, y.f2.f2) = 0 <;> simp [h1, h2, h3]
    · simp [h1, h2]
  · simp [h1]
def lt9 (x y : S29) : Bool := decide (cmp9 y x < 0)
def pos9 (xs : List S29) (x : S29) : Nat := (xs.takeWhile (lt9 x)).length
def ins9 (xs : List S29) (x : S29) : List S29 := if xs[pos9 xs x]? = some x then xs else xs.take (pos9 xs x) ++ x :: xs.drop (pos9 xs x)
def refS (l : List S29) : List S29 := l.foldl ins9 []
theorem pos_le (xs : List S29) (x : S29) : pos9 xs x ≤ xs.length := (List.takeWhile_prefix _).length_le
theorem takeWhile_len {α : Type} (p : α → Bool) : ∀ (xs : List α) (k : Nat), k ≤ xs.length → (∀ j y, j < k → xs[j]? = some y → p y = true) → (∀ y, xs[k]? = some y → p y = false) → (xs.takeWhile p).length = k
  | [], k, hk, _, _ => by simp at hk; subst hk; rfl
  | x :: xs, 0, _, _, h2 => by rw [List.takeWhile_cons, h2 x rfl]; rfl
  | x :: xs, k + 1, hk, h1, h2 => by
    rw [List.takeWhile_cons, h1 0 x (by omega) rfl]
    simp only [if_true, List.length_cons]
    rw [takeWhile_len p xs k (by simpa using hk) (fun j y hj hy => h1 (j + 1) y (by omega) hy) (fun y hy => h2 y hy)]
theorem ins_len (xs : List S29) (x : S29) : (ins9 xs x).length ≤ xs.length + 1 := by
  unfold ins9
  split
  · omega
  · have := pos_le xs x
    simp
    omega
theorem rd29_get (xs : List S29) (i : Int) (h0 : 0 ≤ i) (h1 : i < xs.length) : xs[i.toNat]? = some (rd_T29 xs i) := by
  have h : i.toNat < xs.length := by omega
  rw [List.getElem?_eq_getElem h]
  unfold rd_T29
  simp [List.getD_eq_getElem?_getD, List.getElem?_eq_getElem h]
theorem refS_step (l : List S29) (i : Int) (h0 : 0 ≤ i) (h1 : i < l.length) : refS (l.take (i + 1).toNat) = ins9 (refS (l.take i.toNat)) (rd_T29 l i) := by
  have h := rd29_get l i h0 h1
  rw [show (i + 1).toNat = i.toNat + 1 by omega, List.take_add_one, h]
  simp [refS]
theorem own_slice2 {W : World} {base : Nat} {ok : Nat → Prop} {v : Value} {xs : List S29} (h : Kd.R k29 29 W base ok v xs) (h0 : xs ≠ []) : ∃ g cap, v = .slice (some ⟨g, 0, none⟩) xs.length cap := by
  obtain ⟨_, inner, ho, _⟩ := h
  rcases ho.2 with ⟨_, e0⟩ | ⟨g, cap, cur, e0, _⟩
  · exact absurd (List.length_eq_zero_iff.1 e0) h0
  · exact ⟨g, cap, e0⟩
theorem run_copy_k {P : Program} (K : Nat) (w : World) (dT sT ty elem : TypeId) (b o dLen dCap : Nat) (a : Addr) (sLen sCap n : Nat) (cs : List Value)
    (hu : P.underlying dT = some (.slice elem)) (hs : (P.info? elem).map (·.size) = some K) (hn : Nat.min sLen dLen = n) (hl0 : cs.length = n * K)
    (hsrc : ∀ j v, cs[j]? = some v → w.cell? (a.add j) = some v) (hc : ∀ j, j < cs.length → (w.cell? ⟨b, o + j, none⟩).isSome = true) (hf : ∀ j, j < cs.length → w.frozen? ⟨b, o + j, none⟩ = false) (h1 : ∀ v ∈ cs, v.oneCell' = true) :
    (Builtin.copy_ #[dT, sT] ty #[.slice (some ⟨b, o, none⟩) dLen dCap, .slice (some a) sLen sCap]).run P w = .ok (goInt n) (w.setCells b o cs) := by
  have hl := run_loadCells_list (P := P) w a cs hsrc
  have hst := run_storeCells_cells (P := P) b o cs 0 w (by simpa using hc) (by simpa using hf) h1
  rw [hl0] at hl
  cases hq : P.info? elem with
  | none => simp [hq] at hs
  | some i =>
    have hi : i.size = K := by simpa [hq] using hs
    simp [Builtin.copy_, run_underlying hu, Builtin.lenOf, Builtin.firstCells, sizeOf, typeInfo, hq, hi, hn, hl, hst]
def rhizomeref02_Sort.f (l0 : List S29) : Option (List S29) := if l0.length < 1172812402961 then some (refS l0) else none
theorem below_grown_by (w : World) (n : Nat) (os : Array Obj) : Below w.heap.size w (Sort.grow (w.drewN n) os) :=
  ⟨rfl, rfl, rfl, by rw [Sort.size_grow]; exact Nat.le_add_right _ _, fun k hk => by unfold Sort.grow; exact Array.getElem?_append_left hk⟩
theorem callsD_grown {W : World} (x y : S29) : Calls Tryd.prog 32 #[.agg #[.int .i64 x.f0.f0, .string x.f0.f1, .string x.f0.f2, .int .i64 x.f1.f0, .string x.f1.f1, .string x.f1.f2, .int .i64 x.f2.f0, .string x.f2.f1, .string x.f2.f2], .agg #[.int .i64 y.f0.f0, .string y.f0.f1, .string y.f0.f2, .int .i64 y.f1.f0, .string y.f1.f1, .string y.f1.f2, .int .i64 y.f2.f0, .string y.f2.f1, .string y.f2.f2]] W fun e w' => e = .returned (.int .i64 (cmp9 x y)) ∧ ∃ q os', w' = Sort.grow (W.drewN q) os' :=
  (rhizomeref02_CompareTriples.callsD x.f0.f0 x.f0.f1 x.f0.f2 x.f1.f0 x.f1.f1 x.f1.f2 x.f2.f0 x.f2.f1 x.f2.f2 y.f0.f0 y.f0.f1 y.f0.f2 y.f1.f0 y.f1.f1 y.f1.f2 y.f2.f0 y.f2.f1 y.f2.f2 _ W (rcmp3_eq x y)).mono fun _ _ ⟨he, hw⟩ => ⟨he, grow_of_belowD hw⟩
theorem flat_get : ∀ (ys : List S29) (j : Nat), (ys.flatMap enc9)[j]? = (ys[j / 9]?).bind fun y => (enc9 y)[j % 9]?
  | [], j => by simp
  | y :: ys, j => by
    rw [List.flatMap_cons]
    by_cases hj : j < 9
    · rw [List.getElem?_append_left (by rw [enc9_len]; exact hj), show j / 9 = 0 by omega, show j % 9 = j by omega]
      rfl
    · obtain ⟨m, rfl⟩ : ∃ m, j = m + 9 := ⟨j - 9, by omega⟩
      rw [List.getElem?_append_right (by rw [enc9_len]; omega), enc9_len, Nat.add_sub_cancel, flat_get ys m, show (m + 9) / 9 = m / 9 + 1 by omega, show (m + 9) % 9 = m % 9 by omega, List.getElem?_cons_succ]
theorem flat_len (ys : List S29) : (ys.flatMap enc9).length = ys.length * 9 := by
  induction ys with
  | nil => rfl
  | cons y ys ih => rw [List.flatMap_cons, List.length_append, ih, enc9_len, List.length_cons]; omega
theorem flat_one (ys : List S29) : ∀ v ∈ ys.flatMap enc9, v.oneCell' = true := by
  intro v hv
  obtain ⟨y, _, h⟩ := List.mem_flatMap.1 hv
  exact enc9_one y v h
theorem cells_of_row {w W : World} {g cap : Nat} {d : Array S29} (h : Row9 w W g cap d) (ys : List S29) (s : Nat) (hs : ∀ j y, ys[j]? = some y → d[s + j]? = some y) : ∀ j v, (ys.flatMap enc9)[j]? = some v → W.cell? ((⟨g, s * 9, none⟩ : Addr).add j) = some v := by
  intro j v hv
  rw [flat_get] at hv
  obtain ⟨y, hy, hv⟩ := Option.bind_eq_some_iff.1 hv
  have hd := hs _ _ hy
  have hlt : s + j / 9 < d.size := (Array.getElem?_eq_some_iff.1 hd).1
  have hc := (h.holds.cell (i := s + j / 9) (c := j % 9) hlt (by omega)).1
  have hx : d[s + j / 9]! = y := by rw [getElem!_def, hd]
  have hl : j % 9 < (enc9 y).length := by rw [enc9_len]; omega
  rw [hx, getElem!_pos (enc9 y) (j % 9) hl] at hc
  rw [List.getElem?_eq_getElem hl] at hv
  rw [Addr.add_lit, ← hv, ← hc]
  congr 2
  omega
theorem run_copy_none9 {P : Program} (K : Nat) (w : World) (dT sT ty elem : TypeId) (d a : Option Addr) (dLen dCap sLen sCap : Nat) (hu : P.underlying dT = some (.slice elem)) (hs : (P.info? elem).map (·.size) = some K) (hn : Nat.min sLen dLen = 0) :
    (Builtin.copy_ #[dT, sT] ty #[.slice d dLen dCap, .slice a sLen sCap]).run P w = .ok (goInt 0) w := by
  cases hq : P.info? elem with
  | none => simp [hq] at hs
  | some i =>
    have hl : ∀ (x : Addr), (loadCells x 0).run P w = .ok #[] w := fun x => by simpa using run_loadCells_list (P := P) w x [] (by simp)
    cases d <;> cases a <;> simp [Builtin.copy_, run_underlying hu, Builtin.lenOf, Builtin.firstCells, sizeOf, typeInfo, hq, hn, storeCells, hl]
theorem copy_row {w W : World} {g cap : Nat} {xs : List S29} (h : Row9 w W g cap (xs ++ [z29]).toArray) (k : Nat) (hk : k ≤ xs.length) (ty : TypeId) (ad : Addr) (had : k < xs.length → ad = ⟨g, (k + 1) * 9, none⟩) :
    (Builtin.copy_ #[39, 39] ty #[.slice (some ad) (xs.length - k) (cap - (k + 1)), .slice (some ⟨g, k * 9, none⟩) (xs.length + 1 - k) (cap - k)]).run Tryd.prog W.drew = .ok (goInt ((xs.length - k : Nat) : Int)) (W.drew.setCells g ((k + 1) * 9) ((xs.drop k).flatMap enc9)) := by
  by_cases hlt : k < xs.length
  · rw [had hlt]
    have hfl : ∀ j, j < ((xs.drop k).flatMap enc9).length → (k + 1) * 9 + j < (Sort.flatK enc9 9 (xs ++ [z29]).toArray).size := fun j hj => by
      rw [flat_len, List.length_drop] at hj
      rw [Sort.size_flatK]
      simp only [List.size_toArray, List.length_append, List.length_singleton]
      omega
    refine run_copy_k 9 W.drew 39 39 ty 29 g ((k + 1) * 9) _ _ ⟨g, k * 9, none⟩ _ _ (xs.length - k) _ Tryd.underlying39 (by kernel_rfl) (by simp only [Nat.min_def]; split <;> omega) (by rw [flat_len, List.length_drop]) ?_ ?_ ?_ (flat_one _)
    · intro j v hv
      exact cells_of_row h (xs.drop k) k (fun j y hy => by
        rw [List.getElem?_drop] at hy
        have hj := (List.getElem?_eq_some_iff.1 hy).1
        rw [List.getElem?_toArray, List.getElem?_append_left hj]
        exact hy) j v hv
    · intro j hj
      have := (h.holds ((k + 1) * 9 + j) (hfl j hj)).1
      rw [Nat.zero_add] at this
      show (W.cell? _).isSome = true
      rw [this]
      rfl
    · intro j hj
      have := (h.holds ((k + 1) * 9 + j) (hfl j hj)).2
      rw [Nat.zero_add] at this
      exact this
  · obtain rfl : k = xs.length := by omega
    rw [Nat.sub_self, List.drop_length]
    exact run_copy_none9 9 W.drew 39 39 ty 29 _ _ _ _ _ _ Tryd.underlying39 (by kernel_rfl) (Nat.min_zero _)
theorem slice_lo (g n cap k : Nat) (W : World) (hkn : k ≤ n) (hcap : n + 1 ≤ cap) : Sem.run Tryd.prog (Instr.sliceAt 39 (.slice (some ⟨g, 0, none⟩) (n + 1) cap) (some (.int .i64 (k : Int))) none none) W = .ok (.slice (some ⟨g, k * 9, none⟩) (n + 1 - k) (cap - k)) W := by
  have hz7 : k ≤ n + 1 := by omega
  have hz5 : (k : Int) ≤ (n : Int) + 1 := by omega
  have hz8 : ¬ cap = k := by omega
  go_simp
theorem slice_hi (g n cap k : Nat) (W : World) (hkn : k ≤ n) (hcap : n + 1 ≤ cap) : Sem.run Tryd.prog (Instr.sliceAt 39 (.slice (some ⟨g, 0, none⟩) (n + 1) cap) (some (.int .i64 ((k : Int) + 1))) none none) W = .ok (.slice (some (if cap = k + 1 then ⟨g, 0, none⟩ else ⟨g, (k + 1) * 9, none⟩)) (n + 1 - (k + 1)) (cap - (k + 1))) W := by
  have h1 : (0 : Int) ≤ (k : Int) + 1 := by omega
  have h2 : ((k : Int) + 1).toNat = k + 1 := by omega
  by_cases hz8 : cap = k + 1
  · go_simp
  · go_simp
def cp9 (xs : List S29) (k : Nat) : List S29 := (xs ++ [z29]).take (k + 1) ++ xs.drop k
theorem cp9_len (xs : List S29) (k : Nat) (hk : k ≤ xs.length) : (cp9 xs k).length = xs.length + 1 := by
  unfold cp9
  simp
  omega
theorem cp9_set (xs : List S29) (k : Nat) (hk : k ≤ xs.length) (x : S29) : (cp9 xs k).set k x = xs.take k ++ x :: xs.drop k := by
  apply List.ext_getElem?
  intro j
  unfold cp9
  rw [List.getElem?_set]
  have h1 : ((xs ++ [z29]).take (k + 1)).length = k + 1 := by simp; omega
  have h2 : (xs.take k).length = k := by simp; omega
  by_cases hj : k = j
  · subst hj
    rw [if_pos rfl, if_pos (by simp; omega), List.getElem?_append_right (by omega), h2, Nat.sub_self]
    rfl
  · rw [if_neg hj]
    by_cases hlt : j < k
    · rw [List.getElem?_append_left (by omega), List.getElem?_append_left (by omega), List.getElem?_take_of_lt (by omega), List.getElem?_take_of_lt hlt, List.getElem?_append_left (by omega)]
    · rw [List.getElem?_append_right (by omega), h1, List.getElem?_append_right (by omega), h2]
      obtain ⟨m, rfl⟩ : ∃ m, j = k + 1 + m := ⟨j - (k + 1), by omega⟩
      rw [show k + 1 + m - (k + 1) = m by omega, show k + 1 + m - k = m + 1 by omega, List.getElem?_cons_succ]
theorem cp9_lay (xs : List S29) (k : Nat) (hk : k ≤ xs.length) : Lib.lay (xs ++ [z29]).toArray (k + 1) (xs.drop k) = (cp9 xs k).toArray := by
  apply Array.ext_getElem?
  intro j
  rw [Lib.lay_get? _ _ _ _ (by simp; omega)]
  unfold cp9
  simp only [List.getElem?_toArray, List.length_drop]
  have h1 : ((xs ++ [z29]).take (k + 1)).length = k + 1 := by simp; omega
  by_cases c : k + 1 ≤ j ∧ j < k + 1 + (xs.length - k)
  · rw [if_pos c, List.getElem?_append_right (by omega), h1]
  · rw [if_neg c]
    by_cases c2 : j < k + 1
    · have h3 : ((xs ++ [z29]).take (k + 1) ++ xs.drop k)[j]? = (xs ++ [z29])[j]? := by
        rw [List.getElem?_append_left (by omega), List.getElem?_take_of_lt c2]
      exact h3.symm
    · rw [List.getElem?_eq_none (by simp; omega), List.getElem?_append_right (by omega), List.getElem?_eq_none (by simp; omega)]
theorem Row9.copied {w W : World} {g cap : Nat} {xs : List S29} (h : Row9 w W g cap (xs ++ [z29]).toArray) (k : Nat) (hk : k ≤ xs.length) : Row9 w (W.drew.setCells g ((k + 1) * 9) ((xs.drop k).flatMap enc9)) g cap (cp9 xs k).toArray := by
  have h1 := h.put (ys := (cp9 xs k).toArray) (by simp [cp9_len xs k hk]) 1 #[]
  unfold sortWorldK at h1
  rw [Sort.grow_empty] at h1
  have e1 : W.drew = Sort.putRowK enc9 9 (Sort.ahead W 1) g 0 (xs ++ [z29]).toArray := (Sort.putRowK_self enc9 9 (Sort.ahead W 1) g 0 _ (Sort.holdsK_ahead enc9 9 W 1 g 0 _ h.holds)).symm
  have e2 := Go.Proofs.CompactK.put_lay enc9 9 enc9_len (Sort.ahead W 1) g 0 (xs.drop k) (xs ++ [z29]).toArray (k + 1) (by simp; omega)
  rw [cp9_lay xs k hk, Nat.zero_add] at e2
  rw [e1, e2]
  exact h1
theorem Row9.stored {w W : World} {g cap : Nat} {d : Array S29} (h : Row9 w W g cap d) (k : Nat) (hk : k < d.size) (y : S29) : Row9 w (W.setCells g (k * 9) (enc9 y)) g cap (d.setIfInBounds k y) := by
  have h1 := h.put (ys := d.setIfInBounds k y) (by simp) 0 #[]
  unfold sortWorldK at h1
  rw [Sort.grow_empty, Sort.ahead_zero] at h1
  have e1 : W = Sort.putRowK enc9 9 W g 0 d := (Sort.putRowK_self enc9 9 W g 0 _ h.holds).symm
  have e2 := Go.Proofs.CompactK.put_at enc9 9 enc9_len W g 0 d k hk y
  rw [← e1, Nat.zero_add] at e2
  rw [e2]
  exact h1
theorem store_row9 {ops : Array Oper} {rest : List Oper} {o : Oper} {a : Act} {Q : Exit → Act → World → Prop} {w W : World} {g cap k : Nat} {d : Array S29} {y : S29} (hgd : o.guard = none) {p x : Operand} (ho : o.op = .store 29 p x) (hN : o.dst = none)
    (haddr : a.eval p = .pointer (some ⟨g, k * 9, none⟩)) (hx : a.eval x = .agg (enc9 y).toArray) (HR : Row9 w W g cap d) (hk : k < d.size) (h : ∀ w1, Row9 w w1 g cap (d.setIfInBounds k y) → wpList Tryd.prog ops Q rest a w1) : wpList Tryd.prog ops Q (o :: rest) a W := by
  obtain ⟨cur, hc, hcs⟩ := HR.blk
  have hle := HR.hle
  have hst := run_store_run (P := Tryd.prog) (o := k * 9) 29 (.agg (enc9 y).toArray) (enc9 y) hc rfl (by kernel_rfl) (by rw [enc9_len, hcs]; have := Nat.mul_le_mul_right 9 (show k + 1 ≤ cap by omega); omega) (enc9_one y)
  have h2 := h _ (HR.stored k hk y)
  refine wpList_plain hgd fun K hK => ?_
  have hex : Sem.run Tryd.prog (execOp a.eval o) W = .ok .skip (W.setCells g (k * 9) (enc9 y)) := by
    unfold execOp
    rw [ho]
    simp [haddr, hx, hst]
  unfold Oper.wp
  rw [hex]
  show K (a.put o.dst undef) _
  rw [hN]
  exact hK _ _ h2
theorem fin_row {w W : World} {g cap k : Nat} {xs : List S29} {x : S29} (h : Row9 w W g cap ((cp9 xs k).toArray.setIfInBounds k x)) (hk : k ≤ xs.length) (hp : pos9 xs x = k) (hI : ins9 xs x = xs.take (pos9 xs x) ++ x :: xs.drop (pos9 xs x)) : Kd.R k29 29 W w.heap.size (fun _ => True) (.slice (some ⟨g, 0, none⟩) (xs.length + 1) cap) (ins9 xs x) := by
  rw [hp] at hI
  have e : ((cp9 xs k).toArray.setIfInBounds k x).toList = ins9 xs x := by
    rw [Array.toList_setIfInBounds, cp9_set xs k hk x, hI]
  have hl : (ins9 xs x).length = xs.length + 1 := by
    rw [hI]
    simp
    omega
  have := h.toR (ins9 xs x) (by rw [e]; exact List.prefix_rfl)
  rwa [hl] at this
def rsT10 : Bool × List (List Nat × List Nat) := (true, [([], []), ([], []), ([1], [1]), ([0, 2], [0, 2]), ([], []), ([], []), ([4, 5], [4, 5]), ([3, 6], [3, 6])])
def rsB10 : List Nat := [0, 0, 2, 7, 0, 0, 48, 127]
theorem rsTab10 : rtab .any (opsOf Tryd.f29 10) = rsT10 := by kernel_rfl
theorem rsBits10 : waitsOk rsT10.2 rsB10 = true := by kernel_rfl
set_option maxHeartbeats 4000000 in
set_option maxRecDepth 1000000 in
theorem rhizomeref02_Sort.calls (A0 : Option Addr) (c0 : Nat) (l0 : List S29) (r : List S29) (w : World) (hr0 : Kd.C k29 w A0 l0.length l0) (hc0 : l0.length ≤ c0) (h : rhizomeref02_Sort.f l0 = some r) :
    Calls Tryd.prog 29 #[.slice A0 l0.length c0] w fun e w' => ∃ v0_ : Value, e = .returned (v0_) ∧ Kd.R k29 29 w' w.heap.size (fun _ => True) v0_ r ∧ Below w.heap.size w w' := by
  unfold rhizomeref02_Sort.f at h
  split at h
  · rename_i hlen
    obtain rfl := Option.some.inj h
    clear h
    have mixed : Tryd.prog.follows .mixedOrders = true := by kernel_rfl
    have HR0 := Aside0.mk hr0
    clear hr0 hc0
    go_enter Tryd.func29, Tryd.ntmps29
    go_wp2
    go_loopg [3, 4] l0.length (fun gk v3 v4 w' => ∃ (xs : List S29) (x4 : Int), v4 = .int .i64 x4 ∧ gk = l0.length - x4.toNat ∧ Aside0 (0 ≤ x4 ∧ x4 ≤ l0.length) ∧ Aside0 (xs = refS (l0.take x4.toNat)) ∧ Aside0 (xs.length ≤ x4.toNat) ∧ Aside0 (Kd.R k29 29 w' w.heap.size (fun _ => True) v3 xs) ∧ Aside0 (Below w.heap.size w w'))
    case atStart => exact ⟨[], 0, rfl, by omega, ⟨by omega⟩, ⟨rfl⟩, ⟨Nat.zero_le _⟩, ⟨Kd.R_nil _ _ _ _ _⟩, ⟨Below.refl _ _⟩⟩
    case round =>
      obtain ⟨xs, x4, rfl, rfl, H4, HX, HL0, HO, HB⟩ := hrel
      by_cases c2 : x4 < (l0.length : Int)
      · have c2b : decide (x4 < (l0.length : Int)) = true := decide_eq_true c2
        have HL : Aside0 (xs.length < 1172812402961 ∧ x4 < 1172812402961) := ⟨by have := HL0.out; have := H4.out; omega⟩
        have hnx : IntKind.i64.wrap (x4 + 1) = x4 + 1 := by rw [IntKind.wrap_i64]; have := HL.out; have := H4.out; omega
        go_wp2
        go_loopg [5] xs.length (fun gk v5 w' => ∃ (x5 : Int), v5 = .int .i64 x5 ∧ gk = xs.length - x5.toNat ∧ Aside0 (0 ≤ x5) ∧ Aside0 (x5 ≤ xs.length) ∧ Aside0 (∀ j y, j < x5.toNat → xs[j]? = some y → lt9 (rd_T29 l0 x4) y = true) ∧ Aside0 (Kd.R k29 29 w' w.heap.size (fun _ => True) u3 xs) ∧ Aside0 (Below w.heap.size w w'))
        case atStart => exact ⟨0, rfl, by omega, ⟨by omega⟩, ⟨by omega⟩, ⟨fun j y hj => by omega⟩, HO, HB⟩
        case round =>
          clear HO HB
          obtain ⟨x5, rfl, rfl, h50, h51, HP, HO, HB⟩ := hrel
          have p4 : 0 ≤ x4 := H4.out.1
          by_cases c3 : x5 < (xs.length : Int)
          · have c3b : decide (x5 < (xs.length : Int)) = true := decide_eq_true c3
            obtain ⟨Ao, co, eo⟩ := Kd.R_slice HO.out
            subst eo
            have HG5 := Aside0.mk (rd29_get xs x5 h50.out c3)
            obtain ⟨adA, eA, hxA_0, hxA_1, hxA_2, hxA_3, hxA_4, hxA_5, hxA_6, hxA_7, hxA_8⟩ := at_T29 (Kd.R_reads' HO.out).2.2 x5 h50.out c3
            cases eA
            obtain ⟨adB, eB, hxB_0, hxB_1, hxB_2, hxB_3, hxB_4, hxB_5, hxB_6, hxB_7, hxB_8⟩ := at_T29 HR0.out x4 p4 c2
            cases eB
            replace hxB_0 := (HB.out.cell (World.block_lt_of_cell? _ _ hxB_0)).trans hxB_0
            replace hxB_1 := (HB.out.cell (World.block_lt_of_cell? _ _ hxB_1)).trans hxB_1
            replace hxB_2 := (HB.out.cell (World.block_lt_of_cell? _ _ hxB_2)).trans hxB_2
            replace hxB_3 := (HB.out.cell (World.block_lt_of_cell? _ _ hxB_3)).trans hxB_3
            replace hxB_4 := (HB.out.cell (World.block_lt_of_cell? _ _ hxB_4)).trans hxB_4
            replace hxB_5 := (HB.out.cell (World.block_lt_of_cell? _ _ hxB_5)).trans hxB_5
            replace hxB_6 := (HB.out.cell (World.block_lt_of_cell? _ _ hxB_6)).trans hxB_6
            replace hxB_7 := (HB.out.cell (World.block_lt_of_cell? _ _ hxB_7)).trans hxB_7
            replace hxB_8 := (HB.out.cell (World.block_lt_of_cell? _ _ hxB_8)).trans hxB_8
            have hgA_0 := fun (n_ : Nat) (os_ : Array Obj) => cell_grown (World.block_lt_of_cell? _ _ hxA_0) hxA_0 n_ os_
            have hgA_1 := fun (n_ : Nat) (os_ : Array Obj) => cell_grown (World.block_lt_of_cell? _ _ hxA_1) hxA_1 n_ os_
            have hgA_2 := fun (n_ : Nat) (os_ : Array Obj) => cell_grown (World.block_lt_of_cell? _ _ hxA_2) hxA_2 n_ os_
            have hgA_3 := fun (n_ : Nat) (os_ : Array Obj) => cell_grown (World.block_lt_of_cell? _ _ hxA_3) hxA_3 n_ os_
            have hgA_4 := fun (n_ : Nat) (os_ : Array Obj) => cell_grown (World.block_lt_of_cell? _ _ hxA_4) hxA_4 n_ os_
            have hgA_5 := fun (n_ : Nat) (os_ : Array Obj) => cell_grown (World.block_lt_of_cell? _ _ hxA_5) hxA_5 n_ os_
            have hgA_6 := fun (n_ : Nat) (os_ : Array Obj) => cell_grown (World.block_lt_of_cell? _ _ hxA_6) hxA_6 n_ os_
            have hgA_7 := fun (n_ : Nat) (os_ : Array Obj) => cell_grown (World.block_lt_of_cell? _ _ hxA_7) hxA_7 n_ os_
            have hgA_8 := fun (n_ : Nat) (os_ : Array Obj) => cell_grown (World.block_lt_of_cell? _ _ hxA_8) hxA_8 n_ os_
            clear hxA_0 hxA_1 hxA_2 hxA_3 hxA_4 hxA_5 hxA_6 hxA_7 hxA_8
            have hgB_0 := fun (n_ : Nat) (os_ : Array Obj) => cell_grown (World.block_lt_of_cell? _ _ hxB_0) hxB_0 n_ os_
            have hgB_1 := fun (n_ : Nat) (os_ : Array Obj) => cell_grown (World.block_lt_of_cell? _ _ hxB_1) hxB_1 n_ os_
            have hgB_2 := fun (n_ : Nat) (os_ : Array Obj) => cell_grown (World.block_lt_of_cell? _ _ hxB_2) hxB_2 n_ os_
            have hgB_3 := fun (n_ : Nat) (os_ : Array Obj) => cell_grown (World.block_lt_of_cell? _ _ hxB_3) hxB_3 n_ os_
            have hgB_4 := fun (n_ : Nat) (os_ : Array Obj) => cell_grown (World.block_lt_of_cell? _ _ hxB_4) hxB_4 n_ os_
            have hgB_5 := fun (n_ : Nat) (os_ : Array Obj) => cell_grown (World.block_lt_of_cell? _ _ hxB_5) hxB_5 n_ os_
            have hgB_6 := fun (n_ : Nat) (os_ : Array Obj) => cell_grown (World.block_lt_of_cell? _ _ hxB_6) hxB_6 n_ os_
            have hgB_7 := fun (n_ : Nat) (os_ : Array Obj) => cell_grown (World.block_lt_of_cell? _ _ hxB_7) hxB_7 n_ os_
            have hgB_8 := fun (n_ : Nat) (os_ : Array Obj) => cell_grown (World.block_lt_of_cell? _ _ hxB_8) hxB_8 n_ os_
            clear hxB_0 hxB_1 hxB_2 hxB_3 hxB_4 hxB_5 hxB_6 hxB_7 hxB_8
            have hcg := fun (n_ : Nat) (os_ : Array Obj) => callsD_grown (W := Sort.grow (wr.drewN n_) os_) (rd_T29 xs x5) (rd_T29 l0 x4)
            have p5q := eq_true h50.out
            have q5q := eq_true c3
            have p4q := eq_true p4
            have q4q := eq_true c2
            generalize hcv : cmp9 (rd_T29 xs x5) (rd_T29 l0 x4) = cv at hcg
            have HCV := Aside0.mk hcv
            clear hcv
            by_cases c8 : cv < 0
            · have c8b : decide (cv < 0) = true := decide_eq_true c8
              have hn5 : IntKind.i64.wrap (x5 + 1) = x5 + 1 := by rw [IntKind.wrap_i64]; have := HL.out; have := h50.out; omega
              go_wp2_with fail
              go_quiet_grown (first | (go_at_call 32; refine Calls.grown_of (hcg _ _)))
              clear hcg
              go_wp2
              go_roundg (xs.length - (x5 + 1).toNat)
              case measure => have := h50.out; omega
              case rel => exact ⟨x5 + 1, by first | rfl | (rw [hn5]; done) | (simp [hn5]; done), rfl, ⟨by have := h50.out; omega⟩, ⟨by omega⟩, ⟨fun j y hj hy => by
                by_cases hj2 : j < x5.toNat
                · exact HP.out j y hj2 hy
                · obtain rfl : j = x5.toNat := by have := h50.out; omega
                  rw [HG5.out] at hy
                  obtain rfl := Option.some.inj hy
                  unfold lt9
                  rw [HCV.out]
                  exact c8b⟩, ⟨Kd.R_below HO.out (below_grown_by wr nq osq)⟩, ⟨below_step HB.out (below_grown_by wr nq osq)⟩⟩
            · have c8b : decide (cv < 0) = false := decide_eq_false c8
              have HPk : Aside0 (pos9 xs (rd_T29 l0 x4) = x5.toNat) := ⟨takeWhile_len _ xs x5.toNat (by have := h51.out; omega) HP.out (fun y hy => by rw [HG5.out] at hy; obtain rfl := Option.some.inj hy; unfold lt9; rw [HCV.out]; exact c8b)⟩
              go_wp2_with fail
              go_quiet_grown (first | (go_at_call 32; refine Calls.grown_of (hcg _ _)))
              clear hcg
              have hyA_0 := hgA_0 nq osq
              have hyA_1 := hgA_1 nq osq
              have hyA_2 := hgA_2 nq osq
              have hyA_3 := hgA_3 nq osq
              have hyA_4 := hgA_4 nq osq
              have hyA_5 := hgA_5 nq osq
              have hyA_6 := hgA_6 nq osq
              have hyA_7 := hgA_7 nq osq
              have hyA_8 := hgA_8 nq osq
              have hyB_0 := hgB_0 nq osq
              have hyB_1 := hgB_1 nq osq
              have hyB_2 := hgB_2 nq osq
              have hyB_3 := hgB_3 nq osq
              have hyB_4 := hgB_4 nq osq
              have hyB_5 := hgB_5 nq osq
              have hyB_6 := hgB_6 nq osq
              have hyB_7 := hgB_7 nq osq
              have hyB_8 := hgB_8 nq osq
              clear hgA_0 hgA_1 hgA_2 hgA_3 hgA_4 hgA_5 hgA_6 hgA_7 hgA_8 hgB_0 hgB_1 hgB_2 hgB_3 hgB_4 hgB_5 hgB_6 hgB_7 hgB_8
              have n1_ : Aside0 (Kd.R k29 29 (Sort.grow (wr.drewN nq) osq) w.heap.size (fun _ => True) (.slice (some adA) xs.length co) xs) := ⟨Kd.R_below HO.out (below_grown_by wr nq osq)⟩
              have n2_ : Aside0 (Below w.heap.size w (Sort.grow (wr.drewN nq) osq)) := ⟨below_step HB.out (below_grown_by wr nq osq)⟩
              clear HO HB
              have HO := n1_
              have HB := n2_
              clear n1_ n2_
              generalize Sort.grow (wr.drewN nq) osq = wr2 at hyA_0 hyA_1 hyA_2 hyA_3 hyA_4 hyA_5 hyA_6 hyA_7 hyA_8 hyB_0 hyB_1 hyB_2 hyB_3 hyB_4 hyB_5 hyB_6 hyB_7 hyB_8 HO HB ⊢
              clear nq osq
              have heq := eql9_run (rd_T29 xs x5) (rd_T29 l0 x4)
              simp only [enc9] at heq
              have hgd := fun (a b : Operand) (W : World) => gd9_run .eql a b (rd_T29 xs x5) (rd_T29 l0 x4) W
              simp only [enc9] at hgd
              by_cases c11 : rd_T29 xs x5 = rd_T29 l0 x4
              · have c11b : decide (rd_T29 xs x5 = rd_T29 l0 x4) = true := decide_eq_true c11
                rw [c11b] at heq
                have hins : ins9 xs (rd_T29 l0 x4) = xs := by unfold ins9; rw [HPk.out, HG5.out, c11, if_pos rfl]
                have HI := Aside0.mk hins
                clear hins c11 c11b
                go_wp2
                repeat (go_quiet (fail); try go_wp2)
                go_roundg (l0.length - (x4 + 1).toNat)
                case measure => omega
                case rel => exact ⟨xs, x4 + 1, by first | rfl | (rw [hnx]; done) | (simp [hnx]; done), rfl, ⟨by omega⟩, ⟨by rw [refS_step l0 x4 p4 c2, ← HX.out]; exact HI.out.symm⟩, ⟨by have := HL0.out; omega⟩, ⟨by (with_reducible repeat (first | apply Kd.R_alloc | apply Kd.R_drewN | apply Kd.R_drew)); exact HO.out⟩, ⟨by repeat (first | (with_reducible first | exact HB.out | apply below_alloc | apply pw_below_drewN | apply below_drew1) | exact HB.out)⟩⟩
              · have c11b : decide (rd_T29 xs x5 = rd_T29 l0 x4) = false := decide_eq_false c11
                rw [c11b] at heq
                have HI : Aside0 (ins9 xs (rd_T29 l0 x4) = xs.take (pos9 xs (rd_T29 l0 x4)) ++ (rd_T29 l0 x4) :: xs.drop (pos9 xs (rd_T29 l0 x4))) := ⟨by unfold ins9; rw [HPk.out, HG5.out, if_neg (fun e => c11 (Option.some.inj e))]⟩
                clear c11 c11b
                go_wp2_with fail
                repeat (go_quiet (fail); try go_wp2_with (first | ((with_reducible refine gate_builtin (b := .append) (xs := #[(.tmp 45), .tmp 47]) rfl ?_); at_builtin; refine Kd.R_append k29 (w0 := w) w.heap.size rfl (.tmp 45) (.tmp 47) 39 29 (.agg #[(.int .i64 0), (.string ⟨#[]⟩), (.string ⟨#[]⟩), (.int .i64 0), (.string ⟨#[]⟩), (.string ⟨#[]⟩), (.int .i64 0), (.string ⟨#[]⟩), (.string ⟨#[]⟩)]) 120 rfl Tryd.underlying39 info29 rfl (by decide) (by omega) (.slice (some adA) xs.length co) xs z29 [.int .i64 0, .string ⟨#[]⟩, .string ⟨#[]⟩, .int .i64 0, .string ⟨#[]⟩, .string ⟨#[]⟩, .int .i64 0, .string ⟨#[]⟩, .string ⟨#[]⟩] (fun _ => True) (fun _ => False) rfl rfl ?aP (fun _ hk => hk.elim) ?aF ?aO ?aB ?aS ?aL ?_; (case aP => exact k29_mkM _ _ _ z29); (case aB => exact (by repeat (first | (with_reducible first | exact HB.out | apply below_alloc | apply pw_below_drewN | apply below_drew1) | exact HB.out))); (case aF => exact (fun _ _ => trivial)); (case aO => exact (by (with_reducible repeat (first | apply Kd.R_alloc | apply Kd.R_drewN | apply Kd.R_drew)); exact HO.out)); (case aS => exact (below_size (by repeat (first | (with_reducible first | exact HB.out | apply below_alloc | apply pw_below_drewN | apply below_drew1) | exact HB.out)))); (case aL => have := HL.out; omega); intro v242 w22 ho hb hg hat; obtain ⟨g, cap, e1⟩ := own_slice2 ho (by simp); rw [List.length_append, List.length_singleton] at e1; subst e1; have HRow := Aside0.mk (Row9.ofR ho hb).2; clear ho hb hg hat)))
                have hpk : pos9 xs (rd_T29 l0 x4) = x5.toNat := HPk.out
                obtain ⟨kN, rfl⟩ := Int.eq_ofNat_of_zero_le h50.out
                rw [Int.toNat_natCast] at hpk
                have hkn : kN ≤ xs.length := by rw [← hpk]; exact pos_le _ _
                have HPK := Aside0.mk hpk
                have HKN := Aside0.mk hkn
                clear hpk
                have hz3 : IntKind.i64.wrap ((kN : Int) + 1) = (kN : Int) + 1 := by rw [IntKind.wrap_i64]; have := HL.out; omega
                have hcap : xs.length + 1 ≤ cap := by have := HRow.out.hle; simpa using this
                have hs1 := fun (W : World) => slice_lo g xs.length cap kN W hkn hcap
                have hs2 := fun (W : World) => slice_hi g xs.length cap kN W hkn hcap
                obtain ⟨ad2, had2⟩ : ∃ ad2, ad2 = (if cap = kN + 1 then (⟨g, 0, none⟩ : Addr) else ⟨g, (kN + 1) * 9, none⟩) := ⟨_, rfl⟩
                rw [← had2] at hs2
                have hcopy := fun ty => copy_row (W := w22) HRow.out kN hkn ty ad2 (fun hh => by rw [had2, if_neg (by omega)])
                clear had2 hkn hcap
                (try simp only [Act.put, List.setIfInBounds_toArray, List.set_cons_zero, List.set_cons_succ])
                go_wp2_with fail
                refine start_ (n := 8) (S := fun _ => True) (ds := []) #[false, false, false, false, false, false, false, false] (by kernel_rfl) rfl rfl trivial (fun hHeld => ?_); refine with_tabW rsTab10 rsBits10 (fun HT_ HW_ => ?_)
                refine pure_ (i := 0) (N := some 49) (v := ?_) (a' := ?_) #[true, false, false, false, false, false, false, false] rfl rfl (any_of HT_.out (by kernel_rfl)) (fun _ _ _ h => h) (Or.inl ⟨by rfl, ?_⟩) ?_ ?_
                rotate_left
                · intro w'
                  go_simp
                  with_reducible rfl
                rotate_left
                · simp only [Act.put, List.setIfInBounds_toArray, List.set_cons_zero, List.set_cons_succ, i64_w, i32_w]
                  rfl
                refine pure_ (i := 1) (N := some 50) (v := ?_) (a' := ?_) #[true, true, false, false, false, false, false, false] rfl rfl (any_of HT_.out (by kernel_rfl)) (fun _ _ _ h => h) (Or.inl ⟨by rfl, ?_⟩) ?_ ?_
                rotate_left
                · intro w'
                  go_simp
                  with_reducible rfl
                rotate_left
                · simp only [Act.put, List.setIfInBounds_toArray, List.set_cons_zero, List.set_cons_succ, i64_w, i32_w]
                  rfl
                refine pure_ (i := 2) (N := some 51) (v := ?_) (a' := ?_) #[true, true, true, false, false, false, false, false] rfl rfl (any_of HT_.out (by kernel_rfl)) (fun _ _ _ h => h) (Or.inl ⟨by rfl, ?_⟩) ?_ ?_
                rotate_left
                · intro w'
                  go_simp
                  with_reducible rfl
                rotate_left
                · simp only [Act.put, List.setIfInBounds_toArray, List.set_cons_zero, List.set_cons_succ, i64_w, i32_w]
                  rfl
                refine pure_ (i := 3) (N := some 52) (v := ?_) (a' := ?_) #[true, true, true, true, false, false, false, false] rfl rfl (any_of HT_.out (by kernel_rfl)) (fun _ _ _ h => h) (Or.inl ⟨by rfl, ?_⟩) ?_ ?_
                rotate_left
                · intro w'
                  go_simp
                  with_reducible rfl
                rotate_left
                · simp only [Act.put, List.setIfInBounds_toArray, List.set_cons_zero, List.set_cons_succ, i64_w, i32_w]
                  rfl
                refine pure_ (i := 4) (N := some 53) (v := ?_) (a' := ?_) #[true, true, true, true, true, false, false, false] rfl rfl (any_of HT_.out (by kernel_rfl)) (fun _ _ _ h => h) (Or.inl ⟨by rfl, ?_⟩) ?_ ?_
                rotate_left
                · intro w'
                  go_simp
                  with_reducible rfl
                rotate_left
                · simp only [Act.put, List.setIfInBounds_toArray, List.set_cons_zero, List.set_cons_succ, i64_w, i32_w]
                  rfl
                refine pure_ (i := 5) (N := some 54) (v := ?_) (a' := ?_) #[true, true, true, true, true, true, false, false] rfl rfl (any_of HT_.out (by kernel_rfl)) (fun _ _ _ h => h) (Or.inl ⟨by rfl, ?_⟩) ?_ ?_
                rotate_left
                · intro w'
                  go_simp
                  with_reducible rfl
                rotate_left
                · simp only [Act.put, List.setIfInBounds_toArray, List.set_cons_zero, List.set_cons_succ, i64_w, i32_w]
                  rfl
                refine pure_ (i := 6) (N := some 55) (v := ?_) (a' := ?_) #[true, true, true, true, true, true, true, false] rfl rfl (any_of HT_.out (by kernel_rfl)) (fun _ _ _ h => h) (Or.inl ⟨by rfl, ?_⟩) ?_ ?_
                rotate_left
                · intro w'
                  go_simp
                  with_reducible rfl
                rotate_left
                · simp only [Act.put, List.setIfInBounds_toArray, List.set_cons_zero, List.set_cons_succ, i64_w, i32_w]
                  rfl
                refine one_ (i := 7) (N := some 56) #[true, true, true, true, true, true, true, true] rfl rfl (one_of HT_.out (by kernel_rfl)) (by decide) (fun K hK => ?_)
                refine event_step (w1 := w22.drew.setCells g ((kN + 1) * 9) ((xs.drop kN).flatMap enc9)) (v := goInt ((xs.length - kN : Nat) : Int)) ?hg ?hr ?_
                case hg => rfl
                case hr => have hc_ := hcopy 3; go_simp; done
                refine hK.out _ _ trivial (fun hHeld => ?_)
                clear hK K
                refine norm_ (a' := ?_) ?_ ?_
                rotate_left
                · show Act.put _ (some 56) _ = _
                  simp only [Act.put, List.setIfInBounds_toArray, List.set_cons_zero, List.set_cons_succ, i64_w, i32_w]
                  rfl
                refine done_ (done_of HT_.out (by kernel_rfl)) ?_
                have HRow3 := Aside0.mk (HRow.out.copied kN HKN.out)
                clear hs1 hs2 hcopy hHeld HT_ HW_
                generalize w22.drew.setCells g ((kN + 1) * 9) ((xs.drop kN).flatMap enc9) = w33 at HRow3 ⊢
                obtain ⟨adC, eC, hxC_0, hxC_1, hxC_2, hxC_3, hxC_4, hxC_5, hxC_6, hxC_7, hxC_8⟩ := at_T29 HR0.out x4 p4 c2
                cases eC
                replace hxC_0 := (HRow3.out.below.cell (World.block_lt_of_cell? _ _ hxC_0)).trans hxC_0
                replace hxC_1 := (HRow3.out.below.cell (World.block_lt_of_cell? _ _ hxC_1)).trans hxC_1
                replace hxC_2 := (HRow3.out.below.cell (World.block_lt_of_cell? _ _ hxC_2)).trans hxC_2
                replace hxC_3 := (HRow3.out.below.cell (World.block_lt_of_cell? _ _ hxC_3)).trans hxC_3
                replace hxC_4 := (HRow3.out.below.cell (World.block_lt_of_cell? _ _ hxC_4)).trans hxC_4
                replace hxC_5 := (HRow3.out.below.cell (World.block_lt_of_cell? _ _ hxC_5)).trans hxC_5
                replace hxC_6 := (HRow3.out.below.cell (World.block_lt_of_cell? _ _ hxC_6)).trans hxC_6
                replace hxC_7 := (HRow3.out.below.cell (World.block_lt_of_cell? _ _ hxC_7)).trans hxC_7
                replace hxC_8 := (HRow3.out.below.cell (World.block_lt_of_cell? _ _ hxC_8)).trans hxC_8
                have p4r := eq_true p4
                have q4r := eq_true c2
                have hk1 : (kN : Int) < (xs.length : Int) + 1 := by have := HKN.out; omega
                have hk2 : kN < xs.length + 1 := by have := HKN.out; omega
                go_wp2_with (first | ((with_reducible refine gate_store (t := 29) (p := 63) rfl ?_); refine store_row9 (w := w) (g := g) (cap := cap) (k := kN) (d := (cp9 xs kN).toArray) (y := rd_T29 l0 x4) rfl (p := .tmp 63) (x := .tmp 62) rfl rfl ?had rfl HRow3.out ?hk ?_; (case had => first | rfl | (go_simp; done) | (go_simp; rfl)); (case hk => rw [List.size_toArray, cp9_len xs kN HKN.out]; exact hk2); intro w44 hrow4; have HRow4 := Aside0.mk hrow4; clear hrow4))
                go_roundg (l0.length - (x4 + 1).toNat)
                case measure => omega
                case rel => exact ⟨ins9 xs (rd_T29 l0 x4), x4 + 1, by first | rfl | (rw [hnx]; done) | (simp [hnx]; done), rfl, ⟨by omega⟩, ⟨by rw [refS_step l0 x4 p4 c2, ← HX.out]⟩, ⟨by have := ins_len xs (rd_T29 l0 x4); have := HL0.out; omega⟩, ⟨fin_row HRow4.out HKN.out HPK.out HI.out⟩, ⟨HRow4.out.below⟩⟩
          · have c3b : decide (x5 < (xs.length : Int)) = false := decide_eq_false c3
            obtain ⟨Ao, co, eo⟩ := Kd.R_slice HO.out
            subst eo
            have HPk : Aside0 (pos9 xs (rd_T29 l0 x4) = x5.toNat) := ⟨takeWhile_len _ xs x5.toNat (by have := h51.out; omega) HP.out (fun y hy => by rw [List.getElem?_eq_none (by omega)] at hy; cases hy)⟩
            have HI : Aside0 (ins9 xs (rd_T29 l0 x4) = xs.take (pos9 xs (rd_T29 l0 x4)) ++ (rd_T29 l0 x4) :: xs.drop (pos9 xs (rd_T29 l0 x4))) := ⟨by unfold ins9; rw [HPk.out, List.getElem?_eq_none (by omega), if_neg (by simp)]⟩
            go_wp2_with fail
            repeat (go_quiet (fail); try go_wp2_with (first | ((with_reducible refine gate_builtin (b := .append) (xs := #[(.tmp 45), .tmp 47]) rfl ?_); at_builtin; refine Kd.R_append k29 (w0 := w) w.heap.size rfl (.tmp 45) (.tmp 47) 39 29 (.agg #[(.int .i64 0), (.string ⟨#[]⟩), (.string ⟨#[]⟩), (.int .i64 0), (.string ⟨#[]⟩), (.string ⟨#[]⟩), (.int .i64 0), (.string ⟨#[]⟩), (.string ⟨#[]⟩)]) 120 rfl Tryd.underlying39 info29 rfl (by decide) (by omega) (.slice Ao xs.length co) xs z29 [.int .i64 0, .string ⟨#[]⟩, .string ⟨#[]⟩, .int .i64 0, .string ⟨#[]⟩, .string ⟨#[]⟩, .int .i64 0, .string ⟨#[]⟩, .string ⟨#[]⟩] (fun _ => True) (fun _ => False) rfl rfl ?aP (fun _ hk => hk.elim) ?aF ?aO ?aB ?aS ?aL ?_; (case aP => exact k29_mkM _ _ _ z29); (case aB => exact (by repeat (first | (with_reducible first | exact HB.out | apply below_alloc | apply pw_below_drewN | apply below_drew1) | exact HB.out))); (case aF => exact (fun _ _ => trivial)); (case aO => exact (by (with_reducible repeat (first | apply Kd.R_alloc | apply Kd.R_drewN | apply Kd.R_drew)); exact HO.out)); (case aS => exact (below_size (by repeat (first | (with_reducible first | exact HB.out | apply below_alloc | apply pw_below_drewN | apply below_drew1) | exact HB.out)))); (case aL => have := HL.out; omega); intro v242 w22 ho hb hg hat; obtain ⟨g, cap, e1⟩ := own_slice2 ho (by simp); rw [List.length_append, List.length_singleton] at e1; subst e1; have HRow := Aside0.mk (Row9.ofR ho hb).2; clear ho hb hg hat)))
            have hpk : pos9 xs (rd_T29 l0 x4) = x5.toNat := HPk.out
            obtain ⟨kN, rfl⟩ := Int.eq_ofNat_of_zero_le h50.out
            rw [Int.toNat_natCast] at hpk
            have hkn : kN ≤ xs.length := by rw [← hpk]; exact pos_le _ _
            have HPK := Aside0.mk hpk
            have HKN := Aside0.mk hkn
            clear hpk
            have hz3 : IntKind.i64.wrap ((kN : Int) + 1) = (kN : Int) + 1 := by rw [IntKind.wrap_i64]; have := HL.out; omega
            have hcap : xs.length + 1 ≤ cap := by have := HRow.out.hle; simpa using this
            have hs1 := fun (W : World) => slice_lo g xs.length cap kN W hkn hcap
            have hs2 := fun (W : World) => slice_hi g xs.length cap kN W hkn hcap
            obtain ⟨ad2, had2⟩ : ∃ ad2, ad2 = (if cap = kN + 1 then (⟨g, 0, none⟩ : Addr) else ⟨g, (kN + 1) * 9, none⟩) := ⟨_, rfl⟩
            rw [← had2] at hs2
            have hcopy := fun ty => copy_row (W := w22) HRow.out kN hkn ty ad2 (fun hh => by rw [had2, if_neg (by omega)])
            clear had2 hkn hcap
            (try simp only [Act.put, List.setIfInBounds_toArray, List.set_cons_zero, List.set_cons_succ])
            go_wp2_with fail
            refine start_ (n := 8) (S := fun _ => True) (ds := []) #[false, false, false, false, false, false, false, false] (by kernel_rfl) rfl rfl trivial (fun hHeld => ?_); refine with_tabW rsTab10 rsBits10 (fun HT_ HW_ => ?_)
            refine pure_ (i := 0) (N := some 49) (v := ?_) (a' := ?_) #[true, false, false, false, false, false, false, false] rfl rfl (any_of HT_.out (by kernel_rfl)) (fun _ _ _ h => h) (Or.inl ⟨by rfl, ?_⟩) ?_ ?_
            rotate_left
            · intro w'
              go_simp
              with_reducible rfl
            rotate_left
            · simp only [Act.put, List.setIfInBounds_toArray, List.set_cons_zero, List.set_cons_succ, i64_w, i32_w]
              rfl
            refine pure_ (i := 1) (N := some 50) (v := ?_) (a' := ?_) #[true, true, false, false, false, false, false, false] rfl rfl (any_of HT_.out (by kernel_rfl)) (fun _ _ _ h => h) (Or.inl ⟨by rfl, ?_⟩) ?_ ?_
            rotate_left
            · intro w'
              go_simp
              with_reducible rfl
            rotate_left
            · simp only [Act.put, List.setIfInBounds_toArray, List.set_cons_zero, List.set_cons_succ, i64_w, i32_w]
              rfl
            refine pure_ (i := 2) (N := some 51) (v := ?_) (a' := ?_) #[true, true, true, false, false, false, false, false] rfl rfl (any_of HT_.out (by kernel_rfl)) (fun _ _ _ h => h) (Or.inl ⟨by rfl, ?_⟩) ?_ ?_
            rotate_left
            · intro w'
              go_simp
              with_reducible rfl
            rotate_left
            · simp only [Act.put, List.setIfInBounds_toArray, List.set_cons_zero, List.set_cons_succ, i64_w, i32_w]
              rfl
            refine pure_ (i := 3) (N := some 52) (v := ?_) (a' := ?_) #[true, true, true, true, false, false, false, false] rfl rfl (any_of HT_.out (by kernel_rfl)) (fun _ _ _ h => h) (Or.inl ⟨by rfl, ?_⟩) ?_ ?_
            rotate_left
            · intro w'
              go_simp
              with_reducible rfl
            rotate_left
            · simp only [Act.put, List.setIfInBounds_toArray, List.set_cons_zero, List.set_cons_succ, i64_w, i32_w]
              rfl
            refine pure_ (i := 4) (N := some 53) (v := ?_) (a' := ?_) #[true, true, true, true, true, false, false, false] rfl rfl (any_of HT_.out (by kernel_rfl)) (fun _ _ _ h => h) (Or.inl ⟨by rfl, ?_⟩) ?_ ?_
            rotate_left
            · intro w'
              go_simp
              with_reducible rfl
            rotate_left
            · simp only [Act.put, List.setIfInBounds_toArray, List.set_cons_zero, List.set_cons_succ, i64_w, i32_w]
              rfl
            refine pure_ (i := 5) (N := some 54) (v := ?_) (a' := ?_) #[true, true, true, true, true, true, false, false] rfl rfl (any_of HT_.out (by kernel_rfl)) (fun _ _ _ h => h) (Or.inl ⟨by rfl, ?_⟩) ?_ ?_
            rotate_left
            · intro w'
              go_simp
              with_reducible rfl
            rotate_left
            · simp only [Act.put, List.setIfInBounds_toArray, List.set_cons_zero, List.set_cons_succ, i64_w, i32_w]
              rfl
            refine pure_ (i := 6) (N := some 55) (v := ?_) (a' := ?_) #[true, true, true, true, true, true, true, false] rfl rfl (any_of HT_.out (by kernel_rfl)) (fun _ _ _ h => h) (Or.inl ⟨by rfl, ?_⟩) ?_ ?_
            rotate_left
            · intro w'
              go_simp
              with_reducible rfl
            rotate_left
            · simp only [Act.put, List.setIfInBounds_toArray, List.set_cons_zero, List.set_cons_succ, i64_w, i32_w]
              rfl
            refine one_ (i := 7) (N := some 56) #[true, true, true, true, true, true, true, true] rfl rfl (one_of HT_.out (by kernel_rfl)) (by decide) (fun K hK => ?_)
            refine event_step (w1 := w22.drew.setCells g ((kN + 1) * 9) ((xs.drop kN).flatMap enc9)) (v := goInt ((xs.length - kN : Nat) : Int)) ?hg ?hr ?_
            case hg => rfl
            case hr => have hc_ := hcopy 3; go_simp; done
            refine hK.out _ _ trivial (fun hHeld => ?_)
            clear hK K
            refine norm_ (a' := ?_) ?_ ?_
            rotate_left
            · show Act.put _ (some 56) _ = _
              simp only [Act.put, List.setIfInBounds_toArray, List.set_cons_zero, List.set_cons_succ, i64_w, i32_w]
              rfl
            refine done_ (done_of HT_.out (by kernel_rfl)) ?_
            have HRow3 := Aside0.mk (HRow.out.copied kN HKN.out)
            clear hs1 hs2 hcopy hHeld HT_ HW_
            generalize w22.drew.setCells g ((kN + 1) * 9) ((xs.drop kN).flatMap enc9) = w33 at HRow3 ⊢
            obtain ⟨adC, eC, hxC_0, hxC_1, hxC_2, hxC_3, hxC_4, hxC_5, hxC_6, hxC_7, hxC_8⟩ := at_T29 HR0.out x4 p4 c2
            cases eC
            replace hxC_0 := (HRow3.out.below.cell (World.block_lt_of_cell? _ _ hxC_0)).trans hxC_0
            replace hxC_1 := (HRow3.out.below.cell (World.block_lt_of_cell? _ _ hxC_1)).trans hxC_1
            replace hxC_2 := (HRow3.out.below.cell (World.block_lt_of_cell? _ _ hxC_2)).trans hxC_2
            replace hxC_3 := (HRow3.out.below.cell (World.block_lt_of_cell? _ _ hxC_3)).trans hxC_3
            replace hxC_4 := (HRow3.out.below.cell (World.block_lt_of_cell? _ _ hxC_4)).trans hxC_4
            replace hxC_5 := (HRow3.out.below.cell (World.block_lt_of_cell? _ _ hxC_5)).trans hxC_5
            replace hxC_6 := (HRow3.out.below.cell (World.block_lt_of_cell? _ _ hxC_6)).trans hxC_6
            replace hxC_7 := (HRow3.out.below.cell (World.block_lt_of_cell? _ _ hxC_7)).trans hxC_7
            replace hxC_8 := (HRow3.out.below.cell (World.block_lt_of_cell? _ _ hxC_8)).trans hxC_8
            have p4r := eq_true p4
            have q4r := eq_true c2
            have hk1 : (kN : Int) < (xs.length : Int) + 1 := by have := HKN.out; omega
            have hk2 : kN < xs.length + 1 := by have := HKN.out; omega
            go_wp2_with (first | ((with_reducible refine gate_store (t := 29) (p := 63) rfl ?_); refine store_row9 (w := w) (g := g) (cap := cap) (k := kN) (d := (cp9 xs kN).toArray) (y := rd_T29 l0 x4) rfl (p := .tmp 63) (x := .tmp 62) rfl rfl ?had rfl HRow3.out ?hk ?_; (case had => first | rfl | (go_simp; done) | (go_simp; rfl)); (case hk => rw [List.size_toArray, cp9_len xs kN HKN.out]; exact hk2); intro w44 hrow4; have HRow4 := Aside0.mk hrow4; clear hrow4))
            go_roundg (l0.length - (x4 + 1).toNat)
            case measure => omega
            case rel => exact ⟨ins9 xs (rd_T29 l0 x4), x4 + 1, by first | rfl | (rw [hnx]; done) | (simp [hnx]; done), rfl, ⟨by omega⟩, ⟨by rw [refS_step l0 x4 p4 c2, ← HX.out]⟩, ⟨by have := ins_len xs (rd_T29 l0 x4); have := HL0.out; omega⟩, ⟨fin_row HRow4.out HKN.out HPK.out HI.out⟩, ⟨HRow4.out.below⟩⟩
      · have c2b : decide (x4 < (l0.length : Int)) = false := decide_eq_false c2
        go_wp2
        go_ret
        exact ⟨_, rfl, by rw [show refS l0 = xs by rw [HX.out, show x4.toNat = l0.length by have := H4.out; omega, List.take_length]]; exact HO.out, HB.out⟩
  · cases h
end Go.Proofs.YtegmcmndjnbkaaaDoor.PSort

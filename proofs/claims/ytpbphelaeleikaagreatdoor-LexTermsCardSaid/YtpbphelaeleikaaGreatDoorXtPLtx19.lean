import Derived.Test.YtpbphelaeleikaaGreatDoorXtPLtx0
import Derived.Test.YtpbphelaeleikaaGreatDoorXtPLtx10
import Derived.Test.YtpbphelaeleikaaGreatDoorXtPLtx17
import Derived.Test.YtpbphelaeleikaaGreatDoorXtPLtx18
namespace Go.Proofs.YtpbphelaeleikaaGreatDoor.PLt
open Go.RowKit Go.Proofs.YtpbphelaeleikaaGreatDoorW.PrintWords Go.Proofs.YtpbphelaeleikaaGreatDoorW.PrintLast Go.Proofs.YtpbphelaeleikaaGreatDoorW.PrintMore
attribute [local go_sem] max2_int min2_int max_two min_two max_three min_three max_four min_four
set_option linter.unusedVariables false
set_option linter.unusedSimpArgs false
set_option maxHeartbeats 8000000
set_option maxRecDepth 100000
mutual
def g4_Read.j0 : Nat → List (S43) → List (S24) → Int → Bool → Int → ByteArray → ByteArray → Option (Int × ByteArray × ByteArray × Int)
 | 0, _, _, _, _, _, _, _ => none
 | k + 1, x0, x1, x9, x56, x420000, x420001, x420002 => if x56 = true then (if 1 < (x0.length : Int) then (g4_Read.j1 k x0 x1 2 4 x420001 ((rd_T43 x0 1).f1)) else (none)) else (g4_Read.j1 k x0 x1 x9 x420000 x420001 x420002)
def g4_Read.j1 : Nat → List (S43) → List (S24) → Int → Int → ByteArray → ByteArray → Option (Int × ByteArray × ByteArray × Int)
 | 0, _, _, _, _, _, _ => none
 | k + 1, x0, x1, x9, x420000, x420001, x420002 => if (x0.length : Int) > 2 then (if 1 < (x0.length : Int) then ((g4_Mark.f ((rd_T43 x0 1).f0) ((rd_T43 x0 1).f1) ((rd_T43 x0 1).f2.f0) ((rd_T43 x0 1).f2.f1) ((rd_T43 x0 1).f2.f2) ((rd_T43 x0 1).f3) (⟨#[94, 94]⟩ : ByteArray)).bind fun t423 => (g4_Read.j2 k x0 x1 x9 t423 x420000 x420001 x420002)) else (none)) else (g4_Read.j2 k x0 x1 x9 false x420000 x420001 x420002)
def g4_Read.j2 : Nat → List (S43) → List (S24) → Int → Bool → Int → ByteArray → ByteArray → Option (Int × ByteArray × ByteArray × Int)
 | 0, _, _, _, _, _, _, _ => none
 | k + 1, x0, x1, x9, x71, x420000, x420001, x420002 => if x71 = true then (if 2 < (x0.length : Int) then ((g4_resource.f k ((rd_T43 x0 2).f0) ((rd_T43 x0 2).f1) ((rd_T43 x0 2).f2.f0) ((rd_T43 x0 2).f2.f1) ((rd_T43 x0 2).f2.f2) ((rd_T43 x0 2).f3) x1).bind fun bt425 => (if bt425.2.2.2 = true then (if bt425.2.1.toList = ([104, 116, 116, 112, 58, 47, 47, 119, 119, 119, 46, 119, 51, 46, 111, 114, 103, 47, 50, 48, 48, 49, 47, 88, 77, 76, 83, 99, 104, 101, 109, 97, 35, 115, 116, 114, 105, 110, 103] : List UInt8) then ((g2_May.f k x420000 x420001 x420002).bind fun t430 => (if t430 = true then (some (x420000, x420001, x420002, 3)) else (some (0, (⟨#[]⟩ : ByteArray), (⟨#[]⟩ : ByteArray), 0)))) else ((g2_May.f k 5 x420001 bt425.2.1).bind fun t431 => (if t431 = true then (some (5, x420001, bt425.2.1, 3)) else (some (0, (⟨#[]⟩ : ByteArray), (⟨#[]⟩ : ByteArray), 0))))) else ((g2_May.f k x420000 x420001 x420002).bind fun t432 => (if t432 = true then (some (x420000, x420001, x420002, x9)) else (some (0, (⟨#[]⟩ : ByteArray), (⟨#[]⟩ : ByteArray), 0)))))) else (none)) else ((g2_May.f k x420000 x420001 x420002).bind fun t433 => (if t433 = true then (some (x420000, x420001, x420002, x9)) else (some (0, (⟨#[]⟩ : ByteArray), (⟨#[]⟩ : ByteArray), 0))))
end
def g4_Read.f (k : Nat) (l0 : List (S43)) (l1 : List (S24)) : Option (Int × ByteArray × ByteArray × Int) := if (l0.length : Int) = 0 then (some (0, (⟨#[]⟩ : ByteArray), (⟨#[]⟩ : ByteArray), 0)) else (if 0 < (l0.length : Int) then (if ((rd_T43 l0 0).f0) = 2 then (some ((rd_T43 l0 0).f2.f0, (rd_T43 l0 0).f2.f1, (rd_T43 l0 0).f2.f2, 1)) else (if ((rd_T43 l0 0).f0) = 3 then (if (l0.length : Int) > 1 then (if 1 < (l0.length : Int) then (g4_Read.j0 k l0 l1 1 (((rd_T43 l0 1).f0) == 4) 3 ((rd_T43 l0 0).f1) (⟨#[]⟩ : ByteArray)) else (none)) else (g4_Read.j0 k l0 l1 1 false 3 ((rd_T43 l0 0).f1) (⟨#[]⟩ : ByteArray))) else ((g4_resource.f k ((rd_T43 l0 0).f0) ((rd_T43 l0 0).f1) ((rd_T43 l0 0).f2.f0) ((rd_T43 l0 0).f2.f1) ((rd_T43 l0 0).f2.f2) ((rd_T43 l0 0).f3) l1).bind fun bt413 => (if bt413.2.2.2 = true then (some (bt413.1, bt413.2.1, bt413.2.2.1, 1)) else (some (0, (⟨#[]⟩ : ByteArray), (⟨#[]⟩ : ByteArray), 0)))))) else (none))
def g4_Read.T13 : Bool × List (List Nat × List Nat) := (true, [([], []), ([0], [0]), ([1], [1]), ([2], [2]), ([], []), ([4], [4]), ([0, 1, 2, 3, 4, 5], []), ([6, 3, 5, 0, 1, 2, 3, 4, 5], [3, 6]), ([7, 0, 1, 2, 3, 4, 5, 6, 7], [])])
def g4_Read.B13 : List Nat := [0, 1, 3, 7, 0, 16, 63, 127, 255]
theorem g4_Read.tab13 : rtab .any (opsOf Tryz.f8 13) = g4_Read.T13 := by kernel_rfl
theorem g4_Read.bits13 : waitsOk g4_Read.T13.2 g4_Read.B13 = true := by kernel_rfl
theorem g4_Read.calls (k : Nat) (A0 : Option Addr) (c0 : Nat) (l0 : List (S43)) (A1 : Option Addr) (c1 : Nat) (l1 : List (S24)) (r1 : Int) (r2 : ByteArray) (r3 : ByteArray) (r4 : Int) (w : World) (hr0 : Kd.C k43 w A0 l0.length l0) (hc0 : l0.length ≤ c0) (hr1 : Kd.C k24 w A1 l1.length l1) (hc1 : l1.length ≤ c1) (h : g4_Read.f k l0 l1 = some (r1, r2, r3, r4)) :
  Calls Tryz.prog 8 #[.slice A0 l0.length c0, .slice A1 l1.length c1] w fun e w' => e = .returned (.tuple #[.agg #[.int .i64 r1, .string r2, .string r3], .int .i64 r4]) ∧ Below w.heap.size w w' := by
 have hu31 := Tryz.underlying31
 have hu43 := Tryz.underlying43
 have HR0 := Ad.mk hr0
 have HC0 := Ad.mk hc0
 clear hr0 hc0
 have HR1 := Ad.mk hr1
 have HC1 := Ad.mk hc1
 clear hr1 hc1
 have HB := Ad.mk (Below.refl w.heap.size w)
 have H := h
 clear h
 unfold g4_Read.f at H
 by_cases c3 : (l0.length : Int) = 0
 ·rw [if_pos c3] at H
  have c3b0 := beq_iff_eq.mpr c3
  have c3b1 := bne_eq_false_iff_eq.mpr c3
  clear c3
  simp only [Option.some.injEq, Prod.mk.injEq] at H
  obtain ⟨rfl, rfl, rfl, rfl⟩ := H
  go_enter Tryz.func8, Tryz.ntmps8
  go_wp2_with (first | ((with_reducible refine gate_dst (N := 4) rfl ?_); refine box_event r1_ (N := 4) r1_ (cs := #[.int .i64 0, .string ⟨#[]⟩, .string ⟨#[]⟩]) (t := 31) r2_ ?_; intro gb408 hg w4 hbox hb; have BK408 := Ad.mk (hbox); have GW408 := Ad.mk (bs_ : w.heap.size ≤ gb408); have GE408 := Ad.mk (bs_ : w.heap.size ≤ gb408); replace HB := Ad.mk (below_step b1_ hb); clear hb hbox hg; obtain ⟨⟨hcz5_0, hcz5_1, hcz5_2⟩, hfz5_0, hfz5_1, hfz5_2⟩ := c3_ BK408.out))
  refine bodyPost_ret (results_ct rfl _ _ gb408 31 #[.int .i64 0, .string ⟨#[]⟩, .string ⟨#[]⟩] (0, 0) _ rfl (by have G0 := BK408; exact z36_) Tryz.underlying31 rfl k1_) rfl ?_
  exact ⟨e2_, by have G0 := GE408; exact z7_⟩
 rw [if_neg c3] at H
 have c3b0 := beq_eq_false_iff_ne.mpr c3
 have c3b1 := bne_iff_ne.mpr c3
 have c3b2 : ¬ (l0 = []) := fun h_ => c3 (by rw [h_]; rfl)
 by_cases c6 : 0 < (l0.length : Int)
 ·rw [if_pos c6] at H
  have c6b0 := decide_eq_true c6
  have c6b1 : decide (0 < l0.length) = true := decide_eq_true (by omega)
  clear c6
  by_cases c7 : ((rd_T43 l0 0).f0) = 2
  ·rw [if_pos c7] at H
   have c7b0 := beq_iff_eq.mpr c7
   have c7b1 := bne_eq_false_iff_eq.mpr c7
   clear c7
   simp only [Option.some.injEq, Prod.mk.injEq] at H
   obtain ⟨rfl, rfl, rfl, rfl⟩ := H
   go_enter Tryz.func8, Tryz.ntmps8
   go_wp2_with (first | ((with_reducible refine gate_dst (N := 4) rfl ?_); refine box_event r1_ (N := 4) r1_ (cs := #[.int .i64 0, .string ⟨#[]⟩, .string ⟨#[]⟩]) (t := 31) r2_ ?_; intro gb408 hg w8 hbox hb; have BK408 := Ad.mk (hbox); have GW408 := Ad.mk (bs_ : w.heap.size ≤ gb408); have GE408 := Ad.mk (bs_ : w.heap.size ≤ gb408); replace HB := Ad.mk (below_step b1_ hb); clear hb hbox hg; have p409 : 0 ≤ (0 : Int) := (by omega); have q409 : 0 < (l0.length : Int) := of_decide_eq_true a1_; obtain ⟨ad409, e409, hx409_0, hx409_1, hx409_2, hx409_3, hx409_4, hx409_5⟩ := at_T43 HR0.out 0 p409 q409; cases e409; have qi409 : (0 < l0.length) = True := eq_true (by omega); (try simp only [show ((0 : Int)).toNat = 0 from rfl, show 0 * 6 = 0 from rfl, Addr.add_zero'] at hx409_0 hx409_1 hx409_2 hx409_3 hx409_4 hx409_5); replace hx409_0 := (HB.out.cell (World.block_lt_of_cell? w _ hx409_0)).trans hx409_0; replace hx409_1 := (HB.out.cell (World.block_lt_of_cell? w _ hx409_1)).trans hx409_1; replace hx409_2 := (HB.out.cell (World.block_lt_of_cell? w _ hx409_2)).trans hx409_2; replace hx409_3 := (HB.out.cell (World.block_lt_of_cell? w _ hx409_3)).trans hx409_3; replace hx409_4 := (HB.out.cell (World.block_lt_of_cell? w _ hx409_4)).trans hx409_4; replace hx409_5 := (HB.out.cell (World.block_lt_of_cell? w _ hx409_5)).trans hx409_5; replace p409 := eq_true p409; replace q409 := eq_true q409; have p410 : 0 ≤ (0 : Int) := (by omega); have q410 : 0 < (l0.length : Int) := of_decide_eq_true a1_; obtain ⟨ad410, e410, hx410_0, hx410_1, hx410_2, hx410_3, hx410_4, hx410_5⟩ := at_T43 HR0.out 0 p410 q410; obtain rfl : ad409 = ad410 := (by injection e410); have qi410 : (0 < l0.length) = True := eq_true (by omega); (try simp only [show ((0 : Int)).toNat = 0 from rfl, show 0 * 6 = 0 from rfl, Addr.add_zero'] at hx410_0 hx410_1 hx410_2 hx410_3 hx410_4 hx410_5); replace hx410_0 := (HB.out.cell (World.block_lt_of_cell? w _ hx410_0)).trans hx410_0; replace hx410_1 := (HB.out.cell (World.block_lt_of_cell? w _ hx410_1)).trans hx410_1; replace hx410_2 := (HB.out.cell (World.block_lt_of_cell? w _ hx410_2)).trans hx410_2; replace hx410_3 := (HB.out.cell (World.block_lt_of_cell? w _ hx410_3)).trans hx410_3; replace hx410_4 := (HB.out.cell (World.block_lt_of_cell? w _ hx410_4)).trans hx410_4; replace hx410_5 := (HB.out.cell (World.block_lt_of_cell? w _ hx410_5)).trans hx410_5; replace p410 := eq_true p410; replace q410 := eq_true q410; obtain ⟨⟨hcz9_0, hcz9_1, hcz9_2⟩, hfz9_0, hfz9_1, hfz9_2⟩ := c3_ BK408.out))
   refine bodyPost_ret (results_ct rfl _ _ gb408 31 #[.int .i64 ((rd_T43 l0 0).f2.f0), .string ((rd_T43 l0 0).f2.f1), .string ((rd_T43 l0 0).f2.f2)] (0, 0) _ rfl (by refine bd_ ?_; refine blk_put (cs := #[.int .i64 ((rd_T43 l0 0).f2.f0), .string ((rd_T43 l0 0).f2.f1), .string ⟨#[]⟩]) ?_ 2 _ rfl; refine bd_ ?_; refine blk_put (cs := #[.int .i64 ((rd_T43 l0 0).f2.f0), .string ⟨#[]⟩, .string ⟨#[]⟩]) ?_ 1 _ rfl; refine bd_ ?_; refine blk_put (cs := #[.int .i64 0, .string ⟨#[]⟩, .string ⟨#[]⟩]) ?_ 0 _ rfl; refine bd_ ?_; exact BK408.out) Tryz.underlying31 rfl k1_) rfl ?_
   exact ⟨e2_, by have G0 := GE408; exact z7_⟩
  rw [if_neg c7] at H
  have c7b0 := beq_eq_false_iff_ne.mpr c7
  have c7b1 := bne_iff_ne.mpr c7
  by_cases c10 : ((rd_T43 l0 0).f0) = 3
  ·rw [if_pos c10] at H
   have c10b0 := beq_iff_eq.mpr c10
   have c10b1 := bne_eq_false_iff_eq.mpr c10
   clear c10
   have HC11 := Ad.mk H
   clear H
   go_enter Tryz.func8, Tryz.ntmps8
   go_upto_region 12 with (first | ((with_reducible refine gate_dst (N := 4) rfl ?_); refine box_event r1_ (N := 4) r1_ (cs := #[.int .i64 0, .string ⟨#[]⟩, .string ⟨#[]⟩]) (t := 31) r2_ ?_; intro gb408 hg w12 hbox hb; have BK408 := Ad.mk (hbox); have GW408 := Ad.mk (bs_ : w.heap.size ≤ gb408); have GE408 := Ad.mk (bs_ : w.heap.size ≤ gb408); replace HB := Ad.mk (below_step b1_ hb); clear hb hbox hg; have p409 : 0 ≤ (0 : Int) := (by omega); have q409 : 0 < (l0.length : Int) := of_decide_eq_true a1_; obtain ⟨ad409, e409, hx409_0, hx409_1, hx409_2, hx409_3, hx409_4, hx409_5⟩ := at_T43 HR0.out 0 p409 q409; cases e409; have qi409 : (0 < l0.length) = True := eq_true (by omega); (try simp only [show ((0 : Int)).toNat = 0 from rfl, show 0 * 6 = 0 from rfl, Addr.add_zero'] at hx409_0 hx409_1 hx409_2 hx409_3 hx409_4 hx409_5); replace hx409_0 := (HB.out.cell (World.block_lt_of_cell? w _ hx409_0)).trans hx409_0; replace hx409_1 := (HB.out.cell (World.block_lt_of_cell? w _ hx409_1)).trans hx409_1; replace hx409_2 := (HB.out.cell (World.block_lt_of_cell? w _ hx409_2)).trans hx409_2; replace hx409_3 := (HB.out.cell (World.block_lt_of_cell? w _ hx409_3)).trans hx409_3; replace hx409_4 := (HB.out.cell (World.block_lt_of_cell? w _ hx409_4)).trans hx409_4; replace hx409_5 := (HB.out.cell (World.block_lt_of_cell? w _ hx409_5)).trans hx409_5; replace p409 := eq_true p409; replace q409 := eq_true q409; have p411 : 0 ≤ (0 : Int) := (by omega); have q411 : 0 < (l0.length : Int) := of_decide_eq_true a1_; obtain ⟨ad411, e411, hx411_0, hx411_1, hx411_2, hx411_3, hx411_4, hx411_5⟩ := at_T43 HR0.out 0 p411 q411; obtain rfl : ad409 = ad411 := (by injection e411); have qi411 : (0 < l0.length) = True := eq_true (by omega); (try simp only [show ((0 : Int)).toNat = 0 from rfl, show 0 * 6 = 0 from rfl, Addr.add_zero'] at hx411_0 hx411_1 hx411_2 hx411_3 hx411_4 hx411_5); replace hx411_0 := (HB.out.cell (World.block_lt_of_cell? w _ hx411_0)).trans hx411_0; replace hx411_1 := (HB.out.cell (World.block_lt_of_cell? w _ hx411_1)).trans hx411_1; replace hx411_2 := (HB.out.cell (World.block_lt_of_cell? w _ hx411_2)).trans hx411_2; replace hx411_3 := (HB.out.cell (World.block_lt_of_cell? w _ hx411_3)).trans hx411_3; replace hx411_4 := (HB.out.cell (World.block_lt_of_cell? w _ hx411_4)).trans hx411_4; replace hx411_5 := (HB.out.cell (World.block_lt_of_cell? w _ hx411_5)).trans hx411_5; replace p411 := eq_true p411; replace q411 := eq_true q411; have p418 : 0 ≤ (0 : Int) := (by omega); have q418 : 0 < (l0.length : Int) := of_decide_eq_true a1_; obtain ⟨ad418, e418, hx418_0, hx418_1, hx418_2, hx418_3, hx418_4, hx418_5⟩ := at_T43 HR0.out 0 p418 q418; obtain rfl : ad409 = ad418 := (by injection e418); have qi418 : (0 < l0.length) = True := eq_true (by omega); (try simp only [show ((0 : Int)).toNat = 0 from rfl, show 0 * 6 = 0 from rfl, Addr.add_zero'] at hx418_0 hx418_1 hx418_2 hx418_3 hx418_4 hx418_5); replace hx418_0 := (HB.out.cell (World.block_lt_of_cell? w _ hx418_0)).trans hx418_0; replace hx418_1 := (HB.out.cell (World.block_lt_of_cell? w _ hx418_1)).trans hx418_1; replace hx418_2 := (HB.out.cell (World.block_lt_of_cell? w _ hx418_2)).trans hx418_2; replace hx418_3 := (HB.out.cell (World.block_lt_of_cell? w _ hx418_3)).trans hx418_3; replace hx418_4 := (HB.out.cell (World.block_lt_of_cell? w _ hx418_4)).trans hx418_4; replace hx418_5 := (HB.out.cell (World.block_lt_of_cell? w _ hx418_5)).trans hx418_5; replace p418 := eq_true p418; replace q418 := eq_true q418) | ((with_reducible refine gate_dst (N := 8) rfl ?_); refine box_event r1_ (N := 8) r1_ (cs := #[.int .i64 0, .string ⟨#[]⟩, .string ⟨#[]⟩]) (t := 31) r2_ ?_; intro gb419 hg w13 hbox hb; have BK419 := Ad.mk (hbox); have GW419 := Ad.mk ((z37_ : w.heap.size ≤ gb419)); have GE419 := Ad.mk ((z37_ : w.heap.size ≤ gb419)); have NB408_419 := Ad.mk ((by have G0 := BK408; exact z25_ : gb408 ≠ gb419)); have NB419_408 := Ad.mk ((by have G0 := BK408; exact z26_ : gb419 ≠ gb408)); replace BK408 := Ad.mk (blk_below (g := gb408) (o := .cells #[.int .i64 0, .string ⟨#[]⟩, .string ⟨#[]⟩] 31 (0, 0)) (bd_ BK408.out) hb); replace HB := Ad.mk (below_step z49_ hb); clear hb hbox hg; have hnb14 := NB419_408.out; have hnc14 := NB408_419.out; obtain ⟨⟨hcz15_0, hcz15_1, hcz15_2⟩, hfz15_0, hfz15_1, hfz15_2⟩ := c3_ BK419.out))
   (try simp only [Act.put, List.setIfInBounds_toArray, List.set_cons_zero, List.set_cons_succ])
   go_cut [56] (fun v56 wc => ∃ (kq : Nat) (x56_10 : Bool), v56 = .bool x56_10 ∧ Ad (g4_Read.j0 kq l0 l1 1 x56_10 3 ((rd_T43 l0 0).f1) (⟨#[]⟩ : ByteArray) = some (r1, r2, r3, r4)) ∧ Ad (kq ≤ k) ∧ Ad (wc.heap[gb408]? = some (.cells #[.int .i64 0, .string ⟨#[]⟩, .string ⟨#[]⟩] 31 (0, 0))) ∧ Ad (wc.heap[gb419]? = some (.cells #[.int .i64 3, .string ((rd_T43 l0 0).f1), .string ⟨#[]⟩] 31 (0, 0))) ∧ Ad (Below w.heap.size w wc))
   case first =>
    have H := HC11.out
    clear HC11
    by_cases c16 : (l0.length : Int) > 1
    ·rw [if_pos c16] at H
     have c16b0 : decide (1 < (l0.length : Int)) = true := decide_eq_true c16
     have c16b1 : decide (1 < l0.length) = true := decide_eq_true (by omega)
     clear c16
     (first | rw [c16b0] | (simp only [i64_w, i32_w]; rw [c16b0]) | skip)
     by_cases c17 : 1 < (l0.length : Int)
     ·rw [if_pos c17] at H
      have c17b0 := decide_eq_true c17
      have c17b1 : decide (1 < l0.length) = true := decide_eq_true (by omega)
      clear c17
      have H' := Ad.mk H
      clear H
      have p420 : 0 ≤ (1 : Int) := (by omega)
      have q420 : 1 < (l0.length : Int) := of_decide_eq_true a1_
      obtain ⟨ad420, e420, hx420_0, hx420_1, hx420_2, hx420_3, hx420_4, hx420_5⟩ := at_T43 HR0.out 1 p420 q420
      obtain rfl : ad409 = ad420 := (by injection e420)
      (try simp only [show (1 : Int).toNat = 1 from rfl, Nat.reduceMul, Nat.reduceEqDiff, Go.Addr.add, ↓reduceIte] at hx420_0 hx420_1 hx420_2 hx420_3 hx420_4 hx420_5)
      have qi420 : (1 < l0.length) = True := eq_true (by omega)
      have hn420_0 : ad409.block ≠ gb419 := Nat.ne_of_lt (Nat.lt_of_lt_of_le z71_ GW419.out)
      have hn420_1 : ad409.block ≠ gb419 := Nat.ne_of_lt (Nat.lt_of_lt_of_le z71_ GW419.out)
      have hn420_2 : ad409.block ≠ gb419 := Nat.ne_of_lt (Nat.lt_of_lt_of_le z71_ GW419.out)
      replace hx420_0 := (HB.out.cell (World.block_lt_of_cell? w _ hx420_0)).trans hx420_0
      replace hx420_1 := (HB.out.cell (World.block_lt_of_cell? w _ hx420_1)).trans hx420_1
      replace hx420_2 := (HB.out.cell (World.block_lt_of_cell? w _ hx420_2)).trans hx420_2
      replace hx420_3 := (HB.out.cell (World.block_lt_of_cell? w _ hx420_3)).trans hx420_3
      replace hx420_4 := (HB.out.cell (World.block_lt_of_cell? w _ hx420_4)).trans hx420_4
      replace hx420_5 := (HB.out.cell (World.block_lt_of_cell? w _ hx420_5)).trans hx420_5
      replace hx420_0 := (cell_far (p := ⟨gb419, 0, none⟩) z38_ (.int .i64 3)).trans hx420_0
      replace hx420_1 := (cell_far (p := ⟨gb419, 0, none⟩) z38_ (.int .i64 3)).trans hx420_1
      replace hx420_2 := (cell_far (p := ⟨gb419, 0, none⟩) z38_ (.int .i64 3)).trans hx420_2
      replace hx420_3 := (cell_far (p := ⟨gb419, 0, none⟩) z38_ (.int .i64 3)).trans hx420_3
      replace hx420_4 := (cell_far (p := ⟨gb419, 0, none⟩) z38_ (.int .i64 3)).trans hx420_4
      replace hx420_5 := (cell_far (p := ⟨gb419, 0, none⟩) z38_ (.int .i64 3)).trans hx420_5
      replace hx420_0 := (cell_far (p := ⟨gb419, 1, none⟩) z39_ (.string ((rd_T43 l0 0).f1))).trans hx420_0
      replace hx420_1 := (cell_far (p := ⟨gb419, 1, none⟩) z39_ (.string ((rd_T43 l0 0).f1))).trans hx420_1
      replace hx420_2 := (cell_far (p := ⟨gb419, 1, none⟩) z39_ (.string ((rd_T43 l0 0).f1))).trans hx420_2
      replace hx420_3 := (cell_far (p := ⟨gb419, 1, none⟩) z39_ (.string ((rd_T43 l0 0).f1))).trans hx420_3
      replace hx420_4 := (cell_far (p := ⟨gb419, 1, none⟩) z39_ (.string ((rd_T43 l0 0).f1))).trans hx420_4
      replace hx420_5 := (cell_far (p := ⟨gb419, 1, none⟩) z39_ (.string ((rd_T43 l0 0).f1))).trans hx420_5
      replace hx420_0 := (cell_far (p := ⟨gb419, 2, none⟩) z40_ (.string ⟨#[]⟩)).trans hx420_0
      replace hx420_1 := (cell_far (p := ⟨gb419, 2, none⟩) z40_ (.string ⟨#[]⟩)).trans hx420_1
      replace hx420_2 := (cell_far (p := ⟨gb419, 2, none⟩) z40_ (.string ⟨#[]⟩)).trans hx420_2
      replace hx420_3 := (cell_far (p := ⟨gb419, 2, none⟩) z40_ (.string ⟨#[]⟩)).trans hx420_3
      replace hx420_4 := (cell_far (p := ⟨gb419, 2, none⟩) z40_ (.string ⟨#[]⟩)).trans hx420_4
      replace hx420_5 := (cell_far (p := ⟨gb419, 2, none⟩) z40_ (.string ⟨#[]⟩)).trans hx420_5
      clear hn420_0
      clear hn420_1
      clear hn420_2
      replace p420 := eq_true p420
      replace q420 := eq_true q420
      go_wp2
      go_meet
      case rel => exact ⟨_, ((((rd_T43 l0 1).f0) == 4)), e1_, H', ⟨z12_⟩, ⟨by have G0 := NB408_419; have G1 := BK408; exact z13_⟩, ⟨by refine bd_ ?_; refine blk_put (cs := #[.int .i64 3, .string ((rd_T43 l0 0).f1), .string ⟨#[]⟩]) ?_ 2 _ rfl; refine bd_ ?_; refine blk_put (cs := #[.int .i64 3, .string ⟨#[]⟩, .string ⟨#[]⟩]) ?_ 1 _ rfl; refine bd_ ?_; refine blk_put (cs := #[.int .i64 0, .string ⟨#[]⟩, .string ⟨#[]⟩]) ?_ 0 _ rfl; refine bd_ ?_; exact BK419.out⟩, ⟨by have G0 := GE408; have G1 := GE419; exact z2_⟩⟩
     rw [if_neg c17] at H
     exact absurd H (by simp)
    rw [if_neg c16] at H
    have c16b0 : decide (1 < (l0.length : Int)) = false := decide_eq_false c16
    have c16b1 : decide (1 < l0.length) = false := decide_eq_false (by omega)
    clear c16
    (first | rw [c16b0] | (simp only [i64_w, i32_w]; rw [c16b0]) | skip)
    have H' := Ad.mk H
    clear H
    go_wp2
    go_meet
    case rel => exact ⟨_, (false), e1_, H', ⟨z12_⟩, ⟨by have G0 := NB408_419; have G1 := BK408; exact z13_⟩, ⟨by refine bd_ ?_; refine blk_put (cs := #[.int .i64 3, .string ((rd_T43 l0 0).f1), .string ⟨#[]⟩]) ?_ 2 _ rfl; refine bd_ ?_; refine blk_put (cs := #[.int .i64 3, .string ⟨#[]⟩, .string ⟨#[]⟩]) ?_ 1 _ rfl; refine bd_ ?_; refine blk_put (cs := #[.int .i64 0, .string ⟨#[]⟩, .string ⟨#[]⟩]) ?_ 0 _ rfl; refine bd_ ?_; exact BK419.out⟩, ⟨by have G0 := GE408; have G1 := GE419; exact z2_⟩⟩
   case rest =>
    clear HC11
    try clear c1
    try clear c3
    try clear c3b0
    try clear c3b1
    try clear c3b2
    try clear c6
    try clear c6b0
    try clear c6b1
    try clear c7
    try clear c7b0
    try clear c7b1
    try clear c10
    try clear c10b0
    try clear c10b1
    try clear hcz15_0
    try clear hcz15_1
    try clear hcz15_2
    try clear hcz5_0
    try clear hcz5_1
    try clear hcz5_2
    try clear hcz9_0
    try clear hcz9_1
    try clear hcz9_2
    try clear hfz15_0
    try clear hfz15_1
    try clear hfz15_2
    try clear hfz5_0
    try clear hfz5_1
    try clear hfz5_2
    try clear hfz9_0
    try clear hfz9_1
    try clear hfz9_2
    try clear hx409_0
    try clear hx409_1
    try clear hx409_2
    try clear hx409_3
    try clear hx409_4
    try clear hx409_5
    try clear hx410_0
    try clear hx410_1
    try clear hx410_2
    try clear hx410_3
    try clear hx410_4
    try clear hx410_5
    try clear hx411_0
    try clear hx411_1
    try clear hx411_2
    try clear hx411_3
    try clear hx411_4
    try clear hx411_5
    try clear hx418_0
    try clear hx418_1
    try clear hx418_2
    try clear hx418_3
    try clear hx418_4
    try clear hx418_5
    try clear p409
    try clear p410
    try clear p411
    try clear p418
    try clear q409
    try clear q410
    try clear q411
    try clear q418
    obtain ⟨kq, x56_10, rfl, HA, HJ10, BK408, BK419, HB⟩ := hcut
    cases kq with
    | zero => exact absurd HA.out (by simp [g4_Read.j0])
    | succ kj10 =>
     have H := HA.out
     clear HA
     simp only [g4_Read.j0] at H
     have HC18 := Ad.mk H
     clear H
     go_upto_if 56 with (fail)
     go_cut [9] (fun v9 wc => ∃ (kq : Nat) (x9_17 : Int) (x420000_17 : Int) (x420002_17 : ByteArray), v9 = .int .i64 x9_17 ∧ Ad (g4_Read.j1 kq l0 l1 x9_17 x420000_17 ((rd_T43 l0 0).f1) x420002_17 = some (r1, r2, r3, r4)) ∧ Ad (kq ≤ kj10) ∧ Ad (wc.heap[gb408]? = some (.cells #[.int .i64 0, .string ⟨#[]⟩, .string ⟨#[]⟩] 31 (0, 0))) ∧ Ad (wc.heap[gb419]? = some (.cells #[.int .i64 x420000_17, .string ((rd_T43 l0 0).f1), .string x420002_17] 31 (0, 0))) ∧ Ad (Below w.heap.size w wc))
     case first =>
      have H := HC18.out
      clear HC18
      by_cases c19 : x56_10 = true
      ·subst c19
       rw [if_pos rfl] at H
       by_cases c20 : 1 < (l0.length : Int)
       ·rw [if_pos c20] at H
        have c20b0 := decide_eq_true c20
        have c20b1 : decide (1 < l0.length) = true := decide_eq_true (by omega)
        clear c20
        (first | rw [c20b0] | (simp only [i64_w, i32_w]; rw [c20b0]) | skip)
        have H' := Ad.mk H
        clear H
        try go_wp2
        have n0_ := Ad.mk (blk_drew BK408.out)
        have n1_ := Ad.mk (blk_drew BK419.out)
        have n2_ := Ad.mk (below_drew1 HB.out)
        clear BK408
        clear BK419
        clear HB
        have BK408 := n0_
        have BK419 := n1_
        have HB := n2_
        clear n0_ n1_ n2_
        have p421 : 0 ≤ (1 : Int) := (by omega)
        have q421 : 1 < (l0.length : Int) := of_decide_eq_true a1_
        obtain ⟨ad421, e421, hx421_0, hx421_1, hx421_2, hx421_3, hx421_4, hx421_5⟩ := at_T43 HR0.out 1 p421 q421
        have hw421_5 := hx421_5
        (try rw [show ((1 : Int)).toNat = 1 from rfl] at hw421_5)
        (try rw [show 1 * 6 = 6 from rfl] at hw421_5)
        (try simp only [Nat.reduceMul, Nat.reduceEqDiff, Go.Addr.add, ↓reduceIte] at hw421_5)
        have hw421_4 := hx421_4
        (try rw [show ((1 : Int)).toNat = 1 from rfl] at hw421_4)
        (try rw [show 1 * 6 = 6 from rfl] at hw421_4)
        (try simp only [Nat.reduceMul, Nat.reduceEqDiff, Go.Addr.add, ↓reduceIte] at hw421_4)
        have hw421_3 := hx421_3
        (try rw [show ((1 : Int)).toNat = 1 from rfl] at hw421_3)
        (try rw [show 1 * 6 = 6 from rfl] at hw421_3)
        (try simp only [Nat.reduceMul, Nat.reduceEqDiff, Go.Addr.add, ↓reduceIte] at hw421_3)
        have hw421_2 := hx421_2
        (try rw [show ((1 : Int)).toNat = 1 from rfl] at hw421_2)
        (try rw [show 1 * 6 = 6 from rfl] at hw421_2)
        (try simp only [Nat.reduceMul, Nat.reduceEqDiff, Go.Addr.add, ↓reduceIte] at hw421_2)
        have hw421_1 := hx421_1
        (try rw [show ((1 : Int)).toNat = 1 from rfl] at hw421_1)
        (try rw [show 1 * 6 = 6 from rfl] at hw421_1)
        (try simp only [Nat.reduceMul, Nat.reduceEqDiff, Go.Addr.add, ↓reduceIte] at hw421_1)
        have hw421_0 := hx421_0
        (try rw [show ((1 : Int)).toNat = 1 from rfl] at hw421_0)
        (try rw [show 1 * 6 = 6 from rfl] at hw421_0)
        (try simp only [Nat.reduceMul, Nat.reduceEqDiff, Go.Addr.add, ↓reduceIte] at hw421_0)
        obtain rfl : ad409 = ad421 := (by injection e421)
        (try simp only [show (1 : Int).toNat = 1 from rfl, Nat.reduceMul, Nat.reduceEqDiff, Go.Addr.add, ↓reduceIte] at hx421_0 hx421_1 hx421_2 hx421_3 hx421_4 hx421_5)
        have qi421 : (1 < l0.length) = True := eq_true (by omega)
        replace hx421_0 := (HB.out.cell (World.block_lt_of_cell? w _ hx421_0)).trans hx421_0
        replace hx421_1 := (HB.out.cell (World.block_lt_of_cell? w _ hx421_1)).trans hx421_1
        replace hx421_2 := (HB.out.cell (World.block_lt_of_cell? w _ hx421_2)).trans hx421_2
        replace hx421_3 := (HB.out.cell (World.block_lt_of_cell? w _ hx421_3)).trans hx421_3
        replace hx421_4 := (HB.out.cell (World.block_lt_of_cell? w _ hx421_4)).trans hx421_4
        replace hx421_5 := (HB.out.cell (World.block_lt_of_cell? w _ hx421_5)).trans hx421_5
        replace p421 := eq_true p421
        replace q421 := eq_true q421
        refine start_ (n := 9) (S := fun w' => w'.cell? ⟨ad409.block, ad409.off + 6, none⟩ = some (.int .i64 ((rd_T43 l0 1).f0)) ∧ w'.cell? ⟨ad409.block, ad409.off + 6 + 1, none⟩ = some (.string ((rd_T43 l0 1).f1)) ∧ w'.cell? ⟨ad409.block, ad409.off + 6 + 2, none⟩ = some (.int .i64 ((rd_T43 l0 1).f2.f0)) ∧ w'.cell? ⟨ad409.block, ad409.off + 6 + 3, none⟩ = some (.string ((rd_T43 l0 1).f2.f1)) ∧ w'.cell? ⟨ad409.block, ad409.off + 6 + 4, none⟩ = some (.string ((rd_T43 l0 1).f2.f2)) ∧ w'.cell? ⟨ad409.block, ad409.off + 6 + 5, none⟩ = some (.int .i64 ((rd_T43 l0 1).f3))) (ds := []) #[false, false, false, false, false, false, false, false, false] k1_ rfl rfl ⟨((HB.out.cell (World.block_lt_of_cell? w _ hw421_0)).trans hw421_0), ((HB.out.cell (World.block_lt_of_cell? w _ hw421_1)).trans hw421_1), ((HB.out.cell (World.block_lt_of_cell? w _ hw421_2)).trans hw421_2), ((HB.out.cell (World.block_lt_of_cell? w _ hw421_3)).trans hw421_3), ((HB.out.cell (World.block_lt_of_cell? w _ hw421_4)).trans hw421_4), ((HB.out.cell (World.block_lt_of_cell? w _ hw421_5)).trans hw421_5)⟩ (fun hHeld => ?_); refine with_tabW g4_Read.tab13 g4_Read.bits13 (fun HT_ HW_ => ?_)
        generalize wc.drew = w21 at BK408 BK419 HB hx421_0 hx421_1 hx421_2 hx421_3 hx421_4 hx421_5 hHeld ⊢
        refine pure_ (i := 0) (N := some 57) #[true, false, false, false, false, false, false, false, false] rfl rfl (any_of HT_.out k1_) (fun _ _ _ h => h) (Or.inl ⟨by rfl, py_⟩) pa_ ?_
        refine pure_ (i := 1) (N := some 58) #[true, true, false, false, false, false, false, false, false] rfl rfl (any_of HT_.out k1_) (fun _ _ _ h => h) (Or.inl ⟨by rfl, py_⟩) pa_ ?_
        refine pure_ (i := 2) (N := some 59) #[true, true, true, false, false, false, false, false, false] rfl rfl (any_of HT_.out k1_) (fun _ _ _ h => h) (Or.inl ⟨by rfl, py_⟩) pa_ ?_
        refine pure_ (i := 4) (N := some 61) #[true, true, true, false, true, false, false, false, false] rfl rfl (any_of HT_.out k1_) (fun _ _ _ h => h) (Or.inl ⟨by rfl, py_⟩) pa_ ?_
        refine take_ (i := 3) (N := some 60) (v := ?_) (a' := ?_) #[true, true, true, true, true, false, false, false, false] rfl rfl (take_ofW HT_.out HW_.out k1_) (fun _ _ _ h => h) (Or.inl ⟨by rfl, ?_⟩) hHeld ?_ ?_
        rotate_left
        ·rintro w' ⟨s0, s1, s2, s3, s4, s5⟩
         go_simp
         with_reducible rfl
        rotate_left
        ·simp only [Act.put, List.setIfInBounds_toArray, List.set_cons_zero, List.set_cons_succ, i64_w, i32_w]
         rfl
        refine one_ (i := 5) (N := none) #[true, true, true, true, true, true, false, false, false] rfl rfl (one_of HT_.out k1_) (by decide) (fun K hK => ?_)
        have hs22 : w21.cell? ⟨gb419, 0, none⟩ = some (.int .i64 3) := (blk_cell BK419.out 0).trans rfl
        have hfs22 := blk_frozen BK419.out 0
        have hns22_0 := NB408_419.out
        have hms22_0 := NB419_408.out
        refine skip_ (w1 := ?_) (by rfl) rfl ?_ ?_
        rotate_left
        ·go_simp
         rfl
        refine hK.out _ _ ⟨((cell_far (p := ⟨gb419, _, none⟩) (by have G0 := GW419; exact z95_) _).trans (hHeld.1)), ((cell_far (p := ⟨gb419, _, none⟩) (by have G0 := GW419; exact z96_) _).trans (hHeld.2.1)), ((cell_far (p := ⟨gb419, _, none⟩) (by have G0 := GW419; exact z97_) _).trans (hHeld.2.2.1)), ((cell_far (p := ⟨gb419, _, none⟩) (by have G0 := GW419; exact z98_) _).trans (hHeld.2.2.2.1)), ((cell_far (p := ⟨gb419, _, none⟩) (by have G0 := GW419; exact z99_) _).trans (hHeld.2.2.2.2.1)), ((cell_far (p := ⟨gb419, _, none⟩) (by have G0 := GW419; exact z100_) _).trans (hHeld.2.2.2.2.2))⟩ (fun hHeld => ?_)
        clear hK K
        refine pure_ (i := 6) (N := some 62) #[true, true, true, true, true, true, true, false, false] rfl rfl (any_of HT_.out k1_) (fun _ _ _ h => h) (Or.inl ⟨by rfl, py_⟩) pa_ ?_
        refine one_ (i := 7) (N := none) #[true, true, true, true, true, true, true, true, false] rfl rfl (one_of HT_.out k1_) (by decide) (fun K hK => ?_)
        have hs23 : w21.cell? ⟨gb419, 2, none⟩ = some (.string ⟨#[]⟩) := (blk_cell BK419.out 2).trans rfl
        have hfs23 := blk_frozen BK419.out 2
        have hns23_0 := NB408_419.out
        have hms23_0 := NB419_408.out
        refine skip_ (w1 := ?_) (by rfl) rfl ?_ ?_
        rotate_left
        ·go_simp
         rfl
        refine hK.out _ _ ⟨((cell_far (p := ⟨gb419, _, none⟩) (by have G0 := GW419; exact z95_) _).trans (hHeld.1)), ((cell_far (p := ⟨gb419, _, none⟩) (by have G0 := GW419; exact z96_) _).trans (hHeld.2.1)), ((cell_far (p := ⟨gb419, _, none⟩) (by have G0 := GW419; exact z97_) _).trans (hHeld.2.2.1)), ((cell_far (p := ⟨gb419, _, none⟩) (by have G0 := GW419; exact z98_) _).trans (hHeld.2.2.2.1)), ((cell_far (p := ⟨gb419, _, none⟩) (by have G0 := GW419; exact z99_) _).trans (hHeld.2.2.2.2.1)), ((cell_far (p := ⟨gb419, _, none⟩) (by have G0 := GW419; exact z100_) _).trans (hHeld.2.2.2.2.2))⟩ (fun hHeld => ?_)
        clear hK K
        refine pure_ (i := 8) (N := some 9) #[true, true, true, true, true, true, true, true, true] rfl rfl (any_of HT_.out k1_) (fun _ _ _ h => h) (Or.inl ⟨by rfl, py_⟩) pa_ ?_
        refine done_ (done_of HT_.out k1_) ?_
        try go_wp2
        go_meet
        case rel => exact ⟨_, (2), (4), ((rd_T43 l0 1).f1), e1_, H', ⟨by have := HJ10.out; first | omega | exact Nat.le_refl _⟩, ⟨by have G0 := NB408_419; have G1 := BK408; exact z30_⟩, ⟨by refine bd_ ?_; refine blk_put (cs := #[.int .i64 4, .string ((rd_T43 l0 0).f1), .string ⟨#[]⟩]) ?_ 2 _ rfl; refine bd_ ?_; refine blk_put (cs := #[.int .i64 3, .string ((rd_T43 l0 0).f1), .string ⟨#[]⟩]) ?_ 0 _ rfl; refine bd_ ?_; exact BK419.out⟩, ⟨by have G0 := GE408; have G1 := GE419; exact z2_⟩⟩
       rw [if_neg c20] at H
       exact absurd H (by simp)
      replace c19 := Bool.eq_false_iff.mpr c19
      subst c19
      rw [if_neg (show ¬ (false = true) by decide)] at H
      have H' := Ad.mk H
      clear H
      go_wp2
      go_meet
      case rel => exact ⟨_, (1), (3), ((⟨#[]⟩ : ByteArray)), e1_, H', ⟨by have := HJ10.out; first | omega | exact Nat.le_refl _⟩, ⟨by refine bd_ ?_; exact BK408.out⟩, ⟨by refine bd_ ?_; exact BK419.out⟩, ⟨by have G0 := GE408; have G1 := GE419; exact z2_⟩⟩
     case rest =>
      clear HC18
      try clear c1
      try clear c3
      try clear c3b0
      try clear c3b1
      try clear c3b2
      try clear c6
      try clear c6b0
      try clear c6b1
      try clear c7
      try clear c7b0
      try clear c7b1
      try clear c10
      try clear c10b0
      try clear c10b1
      try clear c16
      try clear c16b0
      try clear c16b1
      try clear c17
      try clear c17b0
      try clear c17b1
      try clear hcz15_0
      try clear hcz15_1
      try clear hcz15_2
      try clear hcz5_0
      try clear hcz5_1
      try clear hcz5_2
      try clear hcz9_0
      try clear hcz9_1
      try clear hcz9_2
      try clear hfz15_0
      try clear hfz15_1
      try clear hfz15_2
      try clear hfz5_0
      try clear hfz5_1
      try clear hfz5_2
      try clear hfz9_0
      try clear hfz9_1
      try clear hfz9_2
      try clear hx409_0
      try clear hx409_1
      try clear hx409_2
      try clear hx409_3
      try clear hx409_4
      try clear hx409_5
      try clear hx410_0
      try clear hx410_1
      try clear hx410_2
      try clear hx410_3
      try clear hx410_4
      try clear hx410_5
      try clear hx411_0
      try clear hx411_1
      try clear hx411_2
      try clear hx411_3
      try clear hx411_4
      try clear hx411_5
      try clear hx418_0
      try clear hx418_1
      try clear hx418_2
      try clear hx418_3
      try clear hx418_4
      try clear hx418_5
      try clear hx420_0
      try clear hx420_1
      try clear hx420_2
      try clear hx420_3
      try clear hx420_4
      try clear hx420_5
      try clear p409
      try clear p410
      try clear p411
      try clear p418
      try clear p420
      try clear q409
      try clear q410
      try clear q411
      try clear q418
      try clear q420
      obtain ⟨kq, x9_17, x420000_17, x420002_17, rfl, HA, HJ17, BK408, BK419, HB⟩ := hcut
      cases kq with
      | zero => exact absurd HA.out (by simp [g4_Read.j1])
      | succ kj17 =>
       have H := HA.out
       clear HA
       simp only [g4_Read.j1] at H
       have HC24 := Ad.mk H
       clear H
       go_upto_region 14 with (fail)
       go_cut [71] (fun v71 wc => ∃ (kq : Nat) (x71_23 : Bool), v71 = .bool x71_23 ∧ Ad (g4_Read.j2 kq l0 l1 x9_17 x71_23 x420000_17 ((rd_T43 l0 0).f1) x420002_17 = some (r1, r2, r3, r4)) ∧ Ad (kq ≤ kj17) ∧ Ad (wc.heap[gb408]? = some (.cells #[.int .i64 0, .string ⟨#[]⟩, .string ⟨#[]⟩] 31 (0, 0))) ∧ Ad (wc.heap[gb419]? = some (.cells #[.int .i64 x420000_17, .string ((rd_T43 l0 0).f1), .string x420002_17] 31 (0, 0))) ∧ Ad (Below w.heap.size w wc))
       case first =>
        have H := HC24.out
        clear HC24
        by_cases c25 : (l0.length : Int) > 2
        ·rw [if_pos c25] at H
         have c25b0 : decide (2 < (l0.length : Int)) = true := decide_eq_true c25
         have c25b1 : decide (2 < l0.length) = true := decide_eq_true (by omega)
         clear c25
         (first | rw [c25b0] | (simp only [i64_w, i32_w]; rw [c25b0]) | skip)
         by_cases c26 : 1 < (l0.length : Int)
         ·rw [if_pos c26] at H
          have c26b0 := decide_eq_true c26
          have c26b1 : decide (1 < l0.length) = true := decide_eq_true (by omega)
          clear c26
          obtain ⟨t423, A27, H⟩ := bi_ H
          have H' := Ad.mk H
          clear H
          have p422 : 0 ≤ (1 : Int) := (by omega)
          have q422 : 1 < (l0.length : Int) := of_decide_eq_true a1_
          obtain ⟨ad422, e422, hx422_0, hx422_1, hx422_2, hx422_3, hx422_4, hx422_5⟩ := at_T43 HR0.out 1 p422 q422
          obtain rfl : ad409 = ad422 := (by injection e422)
          (try simp only [show (1 : Int).toNat = 1 from rfl, Nat.reduceMul, Nat.reduceEqDiff, Go.Addr.add, ↓reduceIte] at hx422_0 hx422_1 hx422_2 hx422_3 hx422_4 hx422_5)
          have qi422 : (1 < l0.length) = True := eq_true (by omega)
          replace hx422_0 := (HB.out.cell (World.block_lt_of_cell? w _ hx422_0)).trans hx422_0
          replace hx422_1 := (HB.out.cell (World.block_lt_of_cell? w _ hx422_1)).trans hx422_1
          replace hx422_2 := (HB.out.cell (World.block_lt_of_cell? w _ hx422_2)).trans hx422_2
          replace hx422_3 := (HB.out.cell (World.block_lt_of_cell? w _ hx422_3)).trans hx422_3
          replace hx422_4 := (HB.out.cell (World.block_lt_of_cell? w _ hx422_4)).trans hx422_4
          replace hx422_5 := (HB.out.cell (World.block_lt_of_cell? w _ hx422_5)).trans hx422_5
          replace p422 := eq_true p422
          replace q422 := eq_true q422
          go_wp2_with (first | (go_at_call 11; (with_reducible refine (g4_Mark.calls ((rd_T43 l0 1).f0) ((rd_T43 l0 1).f1) ((rd_T43 l0 1).f2.f0) ((rd_T43 l0 1).f2.f1) ((rd_T43 l0 1).f2.f2) ((rd_T43 l0 1).f3) (⟨#[94, 94]⟩ : ByteArray) t423 _ A27.out).mono ?_); rintro e w28 ⟨rfl, hb⟩; replace BK408 := Ad.mk (blk_below (g := gb408) (o := .cells #[.int .i64 0, .string ⟨#[]⟩, .string ⟨#[]⟩] 31 (0, 0)) (bd_ BK408.out) hb); replace BK419 := Ad.mk (blk_below (g := gb419) (o := .cells #[.int .i64 x420000_17, .string ((rd_T43 l0 0).f1), .string x420002_17] 31 (0, 0)) (bd_ BK419.out) hb); replace HB := Ad.mk (below_step (by have G0 := GE408; have G1 := GE419; exact z2_) hb); clear hb))
          go_meet
          case rel => exact ⟨_, (t423), e1_, H', ⟨by have := HJ10.out; have := HJ17.out; first | omega | exact Nat.le_refl _⟩, ⟨by refine bd_ ?_; exact BK408.out⟩, ⟨by refine bd_ ?_; exact BK419.out⟩, ⟨by have G0 := GE408; have G1 := GE419; exact z2_⟩⟩
         rw [if_neg c26] at H
         exact absurd H (by simp)
        rw [if_neg c25] at H
        have c25b0 : decide (2 < (l0.length : Int)) = false := decide_eq_false c25
        have c25b1 : decide (2 < l0.length) = false := decide_eq_false (by omega)
        clear c25
        (first | rw [c25b0] | (simp only [i64_w, i32_w]; rw [c25b0]) | skip)
        have H' := Ad.mk H
        clear H
        go_wp2
        go_meet
        case rel => exact ⟨_, (false), e1_, H', ⟨by have := HJ10.out; have := HJ17.out; first | omega | exact Nat.le_refl _⟩, ⟨by refine bd_ ?_; exact BK408.out⟩, ⟨by refine bd_ ?_; exact BK419.out⟩, ⟨by have G0 := GE408; have G1 := GE419; exact z2_⟩⟩
       case rest =>
        clear HC24
        try clear c1
        try clear c3
        try clear c3b0
        try clear c3b1
        try clear c3b2
        try clear c6
        try clear c6b0
        try clear c6b1
        try clear c7
        try clear c7b0
        try clear c7b1
        try clear c10
        try clear c10b0
        try clear c10b1
        try clear c16
        try clear c16b0
        try clear c16b1
        try clear c17
        try clear c17b0
        try clear c17b1
        try clear c19
        try clear c20
        try clear c20b0
        try clear c20b1
        try clear hcz15_0
        try clear hcz15_1
        try clear hcz15_2
        try clear hcz5_0
        try clear hcz5_1
        try clear hcz5_2
        try clear hcz9_0
        try clear hcz9_1
        try clear hcz9_2
        try clear hfz15_0
        try clear hfz15_1
        try clear hfz15_2
        try clear hfz5_0
        try clear hfz5_1
        try clear hfz5_2
        try clear hfz9_0
        try clear hfz9_1
        try clear hfz9_2
        try clear hx409_0
        try clear hx409_1
        try clear hx409_2
        try clear hx409_3
        try clear hx409_4
        try clear hx409_5
        try clear hx410_0
        try clear hx410_1
        try clear hx410_2
        try clear hx410_3
        try clear hx410_4
        try clear hx410_5
        try clear hx411_0
        try clear hx411_1
        try clear hx411_2
        try clear hx411_3
        try clear hx411_4
        try clear hx411_5
        try clear hx418_0
        try clear hx418_1
        try clear hx418_2
        try clear hx418_3
        try clear hx418_4
        try clear hx418_5
        try clear hx420_0
        try clear hx420_1
        try clear hx420_2
        try clear hx420_3
        try clear hx420_4
        try clear hx420_5
        try clear hx421_0
        try clear hx421_1
        try clear hx421_2
        try clear hx421_3
        try clear hx421_4
        try clear hx421_5
        try clear p409
        try clear p410
        try clear p411
        try clear p418
        try clear p420
        try clear p421
        try clear q409
        try clear q410
        try clear q411
        try clear q418
        try clear q420
        try clear q421
        obtain ⟨kq, x71_23, rfl, HA, HJ23, BK408, BK419, HB⟩ := hcut
        cases kq with
        | zero => exact absurd HA.out (by simp [g4_Read.j2])
        | succ kj23 =>
         have H := HA.out
         clear HA
         simp only [g4_Read.j2] at H
         by_cases c29 : x71_23 = true
         ·subst c29
          rw [if_pos rfl] at H
          by_cases c30 : 2 < (l0.length : Int)
          ·rw [if_pos c30] at H
           have c30b0 := decide_eq_true c30
           have c30b1 : decide (2 < l0.length) = true := decide_eq_true (by omega)
           clear c30
           obtain ⟨⟨t425, t426, t427, t428⟩, A31, H⟩ := bi_ H
           try dsimp only at H
           by_cases c32 : t428 = true
           ·subst c32
            rw [if_pos rfl] at H
            by_cases c33 : t426.toList = ([104, 116, 116, 112, 58, 47, 47, 119, 119, 119, 46, 119, 51, 46, 111, 114, 103, 47, 50, 48, 48, 49, 47, 88, 77, 76, 83, 99, 104, 101, 109, 97, 35, 115, 116, 114, 105, 110, 103] : List UInt8)
            ·rw [if_pos c33] at H
             have c33b0 := beq_iff_eq.mpr c33
             have c33b1 := bne_eq_false_iff_eq.mpr c33
             clear c33
             obtain ⟨t430, A34, H⟩ := bi_ H
             by_cases c35 : t430 = true
             ·subst c35
              rw [if_pos rfl] at H
              simp only [Option.some.injEq, Prod.mk.injEq] at H
              obtain ⟨rfl, rfl, rfl, rfl⟩ := H
              have p424 : 0 ≤ (2 : Int) := (by omega)
              have q424 : 2 < (l0.length : Int) := of_decide_eq_true a1_
              obtain ⟨ad424, e424, hx424_0, hx424_1, hx424_2, hx424_3, hx424_4, hx424_5⟩ := at_T43 HR0.out 2 p424 q424
              obtain rfl : ad409 = ad424 := (by injection e424)
              (try simp only [show (2 : Int).toNat = 2 from rfl, Nat.reduceMul, Nat.reduceEqDiff, Go.Addr.add, ↓reduceIte] at hx424_0 hx424_1 hx424_2 hx424_3 hx424_4 hx424_5)
              have qi424 : (2 < l0.length) = True := eq_true (by omega)
              replace hx424_0 := (HB.out.cell (World.block_lt_of_cell? w _ hx424_0)).trans hx424_0
              replace hx424_1 := (HB.out.cell (World.block_lt_of_cell? w _ hx424_1)).trans hx424_1
              replace hx424_2 := (HB.out.cell (World.block_lt_of_cell? w _ hx424_2)).trans hx424_2
              replace hx424_3 := (HB.out.cell (World.block_lt_of_cell? w _ hx424_3)).trans hx424_3
              replace hx424_4 := (HB.out.cell (World.block_lt_of_cell? w _ hx424_4)).trans hx424_4
              replace hx424_5 := (HB.out.cell (World.block_lt_of_cell? w _ hx424_5)).trans hx424_5
              replace p424 := eq_true p424
              replace q424 := eq_true q424
              go_wp2_with (first | ((with_reducible refine gate_callee (f := 20) rfl ?_); refine goesL_ (some 77) rfl rfl Tryz.func20 k1_ rfl #[.agg #[.int .i64 ((rd_T43 l0 2).f0), .string ((rd_T43 l0 2).f1), .int .i64 ((rd_T43 l0 2).f2.f0), .string ((rd_T43 l0 2).f2.f1), .string ((rd_T43 l0 2).f2.f2), .int .i64 ((rd_T43 l0 2).f3)], .slice A1 l1.length c1] rfl g1_ ?_; (with_reducible refine (g4_resource.calls kj23 ((rd_T43 l0 2).f0) ((rd_T43 l0 2).f1) ((rd_T43 l0 2).f2.f0) ((rd_T43 l0 2).f2.f1) ((rd_T43 l0 2).f2.f2) ((rd_T43 l0 2).f3) _ _ l1 t425 t426 t427 true _ ?side1 ?side2 A31.out).mono ?_); (case side1 => exact (by have G0 := HR1; exact z29_)); (case side2 => exact HC1.out); rintro e w36 ⟨rfl, hb⟩; refine ⟨_, rfl, ?_⟩; replace BK408 := Ad.mk (blk_below (g := gb408) (o := .cells #[.int .i64 0, .string ⟨#[]⟩, .string ⟨#[]⟩] 31 (0, 0)) (bd_ BK408.out) hb); replace BK419 := Ad.mk (blk_below (g := gb419) (o := .cells #[.int .i64 x420000_17, .string ((rd_T43 l0 0).f1), .string x420002_17] 31 (0, 0)) (bd_ BK419.out) hb); replace HB := Ad.mk (below_step (by have G0 := GE408; have G1 := GE419; exact z2_) hb); clear hb) | ((with_reducible refine gate_dst (N := 10) rfl ?_); refine box_event r1_ (N := 10) r1_ (cs := #[.int .i64 0, .string ⟨#[]⟩, .string ⟨#[]⟩]) (t := 31) r2_ ?_; intro gb429 hg w37 hbox hb; have BK429 := Ad.mk (hbox); have GW429 := Ad.mk ((by have G0 := GE408; have G1 := GE419; exact z17_ : w.heap.size ≤ gb429)); have GE429 := Ad.mk ((by have G0 := GE408; have G1 := GE419; exact z17_ : w.heap.size ≤ gb429)); have NB408_429 := Ad.mk ((by have G0 := BK408; exact z25_ : gb408 ≠ gb429)); have NB429_408 := Ad.mk ((by have G0 := BK408; exact z26_ : gb429 ≠ gb408)); have NB419_429 := Ad.mk ((by have G0 := BK419; exact z41_ : gb419 ≠ gb429)); have NB429_419 := Ad.mk ((by have G0 := BK419; exact z42_ : gb429 ≠ gb419)); replace BK408 := Ad.mk (blk_below (g := gb408) (o := .cells #[.int .i64 0, .string ⟨#[]⟩, .string ⟨#[]⟩] 31 (0, 0)) (bd_ BK408.out) hb); replace BK419 := Ad.mk (blk_below (g := gb419) (o := .cells #[.int .i64 x420000_17, .string ((rd_T43 l0 0).f1), .string x420002_17] 31 (0, 0)) (bd_ BK419.out) hb); replace HB := Ad.mk (below_step (by have G0 := GE408; have G1 := GE419; exact z2_) hb); clear hb hbox hg; have hnb38 := NB429_408.out; have hnc38 := NB408_429.out; have hnb39 := NB429_419.out; have hnc39 := NB419_429.out; obtain ⟨⟨hcz40_0, hcz40_1, hcz40_2⟩, hfz40_0, hfz40_1, hfz40_2⟩ := c3_ BK429.out; have hnb41 := NB419_408.out; have hnc41 := NB408_419.out; obtain ⟨⟨hcz42_0, hcz42_1, hcz42_2⟩, hfz42_0, hfz42_1, hfz42_2⟩ := c3_ BK419.out) | ((with_reducible refine gate_callee (f := 21) rfl ?_); refine goesL_ (some 89) rfl rfl Tryz.func21 k1_ rfl #[.agg #[.int .i64 x420000_17, .string ((rd_T43 l0 0).f1), .string x420002_17]] rfl g1_ ?_; (with_reducible refine (g2_May.calls kj23 x420000_17 ((rd_T43 l0 0).f1) x420002_17 true _ A34.out).mono ?_); rintro e w43 ⟨rfl, hb⟩; refine ⟨_, rfl, ?_⟩; replace BK408 := Ad.mk (blk_below (g := gb408) (o := .cells #[.int .i64 0, .string ⟨#[]⟩, .string ⟨#[]⟩] 31 (0, 0)) (by have G0 := NB408_429; have G1 := BK408; exact z13_) hb); replace BK419 := Ad.mk (blk_below (g := gb419) (o := .cells #[.int .i64 x420000_17, .string ((rd_T43 l0 0).f1), .string x420002_17] 31 (0, 0)) (by have G0 := NB419_429; have G1 := BK419; exact z13_) hb); replace BK429 := Ad.mk (blk_below (g := gb429) (o := .cells #[.int .i64 t425, .string t426, .string t427] 31 (0, 0)) (by have G0 := BK429; exact z56_) hb); replace HB := Ad.mk (below_step (by have G0 := GE408; have G1 := GE419; have G2 := GE429; exact z14_) hb); clear hb; obtain ⟨⟨hcz44_0, hcz44_1, hcz44_2⟩, hfz44_0, hfz44_1, hfz44_2⟩ := c3_ BK419.out; obtain ⟨⟨hcz45_0, hcz45_1, hcz45_2⟩, hfz45_0, hfz45_1, hfz45_2⟩ := c3_ BK408.out))
              refine bodyPost_ret (results_ct rfl _ _ gb408 31 #[.int .i64 x420000_17, .string ((rd_T43 l0 0).f1), .string x420002_17] (0, 0) _ rfl (by have G0 := BK408; exact z72_) Tryz.underlying31 rfl k1_) rfl ?_
              exact ⟨e2_, by have G0 := GE408; have G1 := GE419; have G2 := GE429; exact z14_⟩
             replace c35 := Bool.eq_false_iff.mpr c35
             subst c35
             rw [if_neg (show ¬ (false = true) by decide)] at H
             simp only [Option.some.injEq, Prod.mk.injEq] at H
             obtain ⟨rfl, rfl, rfl, rfl⟩ := H
             have p424 : 0 ≤ (2 : Int) := (by omega)
             have q424 : 2 < (l0.length : Int) := of_decide_eq_true a1_
             obtain ⟨ad424, e424, hx424_0, hx424_1, hx424_2, hx424_3, hx424_4, hx424_5⟩ := at_T43 HR0.out 2 p424 q424
             obtain rfl : ad409 = ad424 := (by injection e424)
             (try simp only [show (2 : Int).toNat = 2 from rfl, Nat.reduceMul, Nat.reduceEqDiff, Go.Addr.add, ↓reduceIte] at hx424_0 hx424_1 hx424_2 hx424_3 hx424_4 hx424_5)
             have qi424 : (2 < l0.length) = True := eq_true (by omega)
             replace hx424_0 := (HB.out.cell (World.block_lt_of_cell? w _ hx424_0)).trans hx424_0
             replace hx424_1 := (HB.out.cell (World.block_lt_of_cell? w _ hx424_1)).trans hx424_1
             replace hx424_2 := (HB.out.cell (World.block_lt_of_cell? w _ hx424_2)).trans hx424_2
             replace hx424_3 := (HB.out.cell (World.block_lt_of_cell? w _ hx424_3)).trans hx424_3
             replace hx424_4 := (HB.out.cell (World.block_lt_of_cell? w _ hx424_4)).trans hx424_4
             replace hx424_5 := (HB.out.cell (World.block_lt_of_cell? w _ hx424_5)).trans hx424_5
             replace p424 := eq_true p424
             replace q424 := eq_true q424
             go_wp2_with (first | ((with_reducible refine gate_callee (f := 20) rfl ?_); refine goesL_ (some 77) rfl rfl Tryz.func20 k1_ rfl #[.agg #[.int .i64 ((rd_T43 l0 2).f0), .string ((rd_T43 l0 2).f1), .int .i64 ((rd_T43 l0 2).f2.f0), .string ((rd_T43 l0 2).f2.f1), .string ((rd_T43 l0 2).f2.f2), .int .i64 ((rd_T43 l0 2).f3)], .slice A1 l1.length c1] rfl g1_ ?_; (with_reducible refine (g4_resource.calls kj23 ((rd_T43 l0 2).f0) ((rd_T43 l0 2).f1) ((rd_T43 l0 2).f2.f0) ((rd_T43 l0 2).f2.f1) ((rd_T43 l0 2).f2.f2) ((rd_T43 l0 2).f3) _ _ l1 t425 t426 t427 true _ ?side1 ?side2 A31.out).mono ?_); (case side1 => exact (by have G0 := HR1; exact z29_)); (case side2 => exact HC1.out); rintro e w46 ⟨rfl, hb⟩; refine ⟨_, rfl, ?_⟩; replace BK408 := Ad.mk (blk_below (g := gb408) (o := .cells #[.int .i64 0, .string ⟨#[]⟩, .string ⟨#[]⟩] 31 (0, 0)) (bd_ BK408.out) hb); replace BK419 := Ad.mk (blk_below (g := gb419) (o := .cells #[.int .i64 x420000_17, .string ((rd_T43 l0 0).f1), .string x420002_17] 31 (0, 0)) (bd_ BK419.out) hb); replace HB := Ad.mk (below_step (by have G0 := GE408; have G1 := GE419; exact z2_) hb); clear hb) | ((with_reducible refine gate_dst (N := 10) rfl ?_); refine box_event r1_ (N := 10) r1_ (cs := #[.int .i64 0, .string ⟨#[]⟩, .string ⟨#[]⟩]) (t := 31) r2_ ?_; intro gb429 hg w47 hbox hb; have BK429 := Ad.mk (hbox); have GW429 := Ad.mk ((by have G0 := GE408; have G1 := GE419; exact z17_ : w.heap.size ≤ gb429)); have GE429 := Ad.mk ((by have G0 := GE408; have G1 := GE419; exact z17_ : w.heap.size ≤ gb429)); have NB408_429 := Ad.mk ((by have G0 := BK408; exact z25_ : gb408 ≠ gb429)); have NB429_408 := Ad.mk ((by have G0 := BK408; exact z26_ : gb429 ≠ gb408)); have NB419_429 := Ad.mk ((by have G0 := BK419; exact z41_ : gb419 ≠ gb429)); have NB429_419 := Ad.mk ((by have G0 := BK419; exact z42_ : gb429 ≠ gb419)); replace BK408 := Ad.mk (blk_below (g := gb408) (o := .cells #[.int .i64 0, .string ⟨#[]⟩, .string ⟨#[]⟩] 31 (0, 0)) (bd_ BK408.out) hb); replace BK419 := Ad.mk (blk_below (g := gb419) (o := .cells #[.int .i64 x420000_17, .string ((rd_T43 l0 0).f1), .string x420002_17] 31 (0, 0)) (bd_ BK419.out) hb); replace HB := Ad.mk (below_step (by have G0 := GE408; have G1 := GE419; exact z2_) hb); clear hb hbox hg; have hnb48 := NB429_408.out; have hnc48 := NB408_429.out; have hnb49 := NB429_419.out; have hnc49 := NB419_429.out; obtain ⟨⟨hcz50_0, hcz50_1, hcz50_2⟩, hfz50_0, hfz50_1, hfz50_2⟩ := c3_ BK429.out; have hnb51 := NB419_408.out; have hnc51 := NB408_419.out; obtain ⟨⟨hcz52_0, hcz52_1, hcz52_2⟩, hfz52_0, hfz52_1, hfz52_2⟩ := c3_ BK419.out) | ((with_reducible refine gate_callee (f := 21) rfl ?_); refine goesL_ (some 89) rfl rfl Tryz.func21 k1_ rfl #[.agg #[.int .i64 x420000_17, .string ((rd_T43 l0 0).f1), .string x420002_17]] rfl g1_ ?_; (with_reducible refine (g2_May.calls kj23 x420000_17 ((rd_T43 l0 0).f1) x420002_17 false _ A34.out).mono ?_); rintro e w53 ⟨rfl, hb⟩; refine ⟨_, rfl, ?_⟩; replace BK408 := Ad.mk (blk_below (g := gb408) (o := .cells #[.int .i64 0, .string ⟨#[]⟩, .string ⟨#[]⟩] 31 (0, 0)) (by have G0 := NB408_429; have G1 := BK408; exact z13_) hb); replace BK419 := Ad.mk (blk_below (g := gb419) (o := .cells #[.int .i64 x420000_17, .string ((rd_T43 l0 0).f1), .string x420002_17] 31 (0, 0)) (by have G0 := NB419_429; have G1 := BK419; exact z13_) hb); replace BK429 := Ad.mk (blk_below (g := gb429) (o := .cells #[.int .i64 t425, .string t426, .string t427] 31 (0, 0)) (by have G0 := BK429; exact z56_) hb); replace HB := Ad.mk (below_step (by have G0 := GE408; have G1 := GE419; have G2 := GE429; exact z14_) hb); clear hb; obtain ⟨⟨hcz54_0, hcz54_1, hcz54_2⟩, hfz54_0, hfz54_1, hfz54_2⟩ := c3_ BK408.out))
             refine bodyPost_ret (results_ct rfl _ _ gb408 31 #[.int .i64 0, .string ⟨#[]⟩, .string ⟨#[]⟩] (0, 0) _ rfl (by have G0 := BK408; exact z36_) Tryz.underlying31 rfl k1_) rfl ?_
             exact ⟨e2_, by have G0 := GE408; have G1 := GE419; have G2 := GE429; exact z14_⟩
            rw [if_neg c33] at H
            have c33b0 := beq_eq_false_iff_ne.mpr c33
            have c33b1 := bne_iff_ne.mpr c33
            obtain ⟨t431, A55, H⟩ := bi_ H
            by_cases c56 : t431 = true
            ·subst c56
             rw [if_pos rfl] at H
             simp only [Option.some.injEq, Prod.mk.injEq] at H
             obtain ⟨rfl, rfl, rfl, rfl⟩ := H
             have p424 : 0 ≤ (2 : Int) := (by omega)
             have q424 : 2 < (l0.length : Int) := of_decide_eq_true a1_
             obtain ⟨ad424, e424, hx424_0, hx424_1, hx424_2, hx424_3, hx424_4, hx424_5⟩ := at_T43 HR0.out 2 p424 q424
             obtain rfl : ad409 = ad424 := (by injection e424)
             (try simp only [show (2 : Int).toNat = 2 from rfl, Nat.reduceMul, Nat.reduceEqDiff, Go.Addr.add, ↓reduceIte] at hx424_0 hx424_1 hx424_2 hx424_3 hx424_4 hx424_5)
             have qi424 : (2 < l0.length) = True := eq_true (by omega)
             replace hx424_0 := (HB.out.cell (World.block_lt_of_cell? w _ hx424_0)).trans hx424_0
             replace hx424_1 := (HB.out.cell (World.block_lt_of_cell? w _ hx424_1)).trans hx424_1
             replace hx424_2 := (HB.out.cell (World.block_lt_of_cell? w _ hx424_2)).trans hx424_2
             replace hx424_3 := (HB.out.cell (World.block_lt_of_cell? w _ hx424_3)).trans hx424_3
             replace hx424_4 := (HB.out.cell (World.block_lt_of_cell? w _ hx424_4)).trans hx424_4
             replace hx424_5 := (HB.out.cell (World.block_lt_of_cell? w _ hx424_5)).trans hx424_5
             replace p424 := eq_true p424
             replace q424 := eq_true q424
             try go_wp2_with (first | ((with_reducible refine gate_callee (f := 20) rfl ?_); refine goesL_ (some 77) rfl rfl Tryz.func20 k1_ rfl #[.agg #[.int .i64 ((rd_T43 l0 2).f0), .string ((rd_T43 l0 2).f1), .int .i64 ((rd_T43 l0 2).f2.f0), .string ((rd_T43 l0 2).f2.f1), .string ((rd_T43 l0 2).f2.f2), .int .i64 ((rd_T43 l0 2).f3)], .slice A1 l1.length c1] rfl g1_ ?_; (with_reducible refine (g4_resource.calls kj23 ((rd_T43 l0 2).f0) ((rd_T43 l0 2).f1) ((rd_T43 l0 2).f2.f0) ((rd_T43 l0 2).f2.f1) ((rd_T43 l0 2).f2.f2) ((rd_T43 l0 2).f3) _ _ l1 t425 t426 t427 true _ ?side1 ?side2 A31.out).mono ?_); (case side1 => exact (by have G0 := HR1; exact z29_)); (case side2 => exact HC1.out); rintro e w57 ⟨rfl, hb⟩; refine ⟨_, rfl, ?_⟩; replace BK408 := Ad.mk (blk_below (g := gb408) (o := .cells #[.int .i64 0, .string ⟨#[]⟩, .string ⟨#[]⟩] 31 (0, 0)) (bd_ BK408.out) hb); replace BK419 := Ad.mk (blk_below (g := gb419) (o := .cells #[.int .i64 x420000_17, .string ((rd_T43 l0 0).f1), .string x420002_17] 31 (0, 0)) (bd_ BK419.out) hb); replace HB := Ad.mk (below_step (by have G0 := GE408; have G1 := GE419; exact z2_) hb); clear hb) | ((with_reducible refine gate_dst (N := 10) rfl ?_); refine box_event r1_ (N := 10) r1_ (cs := #[.int .i64 0, .string ⟨#[]⟩, .string ⟨#[]⟩]) (t := 31) r2_ ?_; intro gb429 hg w58 hbox hb; have BK429 := Ad.mk (hbox); have GW429 := Ad.mk ((by have G0 := GE408; have G1 := GE419; exact z17_ : w.heap.size ≤ gb429)); have GE429 := Ad.mk ((by have G0 := GE408; have G1 := GE419; exact z17_ : w.heap.size ≤ gb429)); have NB408_429 := Ad.mk ((by have G0 := BK408; exact z25_ : gb408 ≠ gb429)); have NB429_408 := Ad.mk ((by have G0 := BK408; exact z26_ : gb429 ≠ gb408)); have NB419_429 := Ad.mk ((by have G0 := BK419; exact z41_ : gb419 ≠ gb429)); have NB429_419 := Ad.mk ((by have G0 := BK419; exact z42_ : gb429 ≠ gb419)); replace BK408 := Ad.mk (blk_below (g := gb408) (o := .cells #[.int .i64 0, .string ⟨#[]⟩, .string ⟨#[]⟩] 31 (0, 0)) (bd_ BK408.out) hb); replace BK419 := Ad.mk (blk_below (g := gb419) (o := .cells #[.int .i64 x420000_17, .string ((rd_T43 l0 0).f1), .string x420002_17] 31 (0, 0)) (bd_ BK419.out) hb); replace HB := Ad.mk (below_step (by have G0 := GE408; have G1 := GE419; exact z2_) hb); clear hb hbox hg; have hnb59 := NB429_408.out; have hnc59 := NB408_429.out; have hnb60 := NB429_419.out; have hnc60 := NB419_429.out; obtain ⟨⟨hcz61_0, hcz61_1, hcz61_2⟩, hfz61_0, hfz61_1, hfz61_2⟩ := c3_ BK429.out))
             have n0_ : Ad ((((w58.setCell ⟨gb429, 0, none⟩ (.int .i64 t425)).setCell ⟨gb429, 1, none⟩ (.string t426)).setCell ⟨gb429, 2, none⟩ (.string t427)).heap[gb408]? = some (.cells #[.int .i64 0, .string ⟨#[]⟩, .string ⟨#[]⟩] 31 (0, 0))) := ⟨by have G0 := NB408_429; have G1 := BK408; exact z13_⟩
             have n1_ : Ad ((((w58.setCell ⟨gb429, 0, none⟩ (.int .i64 t425)).setCell ⟨gb429, 1, none⟩ (.string t426)).setCell ⟨gb429, 2, none⟩ (.string t427)).heap[gb419]? = some (.cells #[.int .i64 x420000_17, .string ((rd_T43 l0 0).f1), .string x420002_17] 31 (0, 0))) := ⟨by have G0 := NB419_429; have G1 := BK419; exact z13_⟩
             have n2_ : Ad ((((w58.setCell ⟨gb429, 0, none⟩ (.int .i64 t425)).setCell ⟨gb429, 1, none⟩ (.string t426)).setCell ⟨gb429, 2, none⟩ (.string t427)).heap[gb429]? = some (.cells #[.int .i64 t425, .string t426, .string t427] 31 (0, 0))) := ⟨by refine bd_ ?_; refine blk_put (cs := #[.int .i64 t425, .string t426, .string ⟨#[]⟩]) ?_ 2 _ rfl; refine bd_ ?_; refine blk_put (cs := #[.int .i64 t425, .string ⟨#[]⟩, .string ⟨#[]⟩]) ?_ 1 _ rfl; refine bd_ ?_; refine blk_put (cs := #[.int .i64 0, .string ⟨#[]⟩, .string ⟨#[]⟩]) ?_ 0 _ rfl; refine bd_ ?_; exact BK429.out⟩
             have n3_ : Ad (Below w.heap.size w (((w58.setCell ⟨gb429, 0, none⟩ (.int .i64 t425)).setCell ⟨gb429, 1, none⟩ (.string t426)).setCell ⟨gb429, 2, none⟩ (.string t427))) := ⟨by have G0 := GE408; have G1 := GE419; have G2 := GE429; exact z14_⟩
             (try clear BK408)
             (try clear BK419)
             (try clear BK429)
             (try clear HB)
             generalize (((w58.setCell ⟨gb429, 0, none⟩ (.int .i64 t425)).setCell ⟨gb429, 1, none⟩ (.string t426)).setCell ⟨gb429, 2, none⟩ (.string t427)) = w62 at n0_ n1_ n2_ n3_ ⊢
             have BK408 := n0_
             have BK419 := n1_
             have BK429 := n2_
             have HB := n3_
             clear n0_ n1_ n2_ n3_
             have n0_ := Ad.mk (blk_drew BK408.out)
             have n1_ := Ad.mk (blk_drew BK419.out)
             have n2_ := Ad.mk (blk_drew BK429.out)
             have n3_ := Ad.mk (below_drew1 HB.out)
             clear BK408
             clear BK419
             clear BK429
             clear HB
             have BK408 := n0_
             have BK419 := n1_
             have BK429 := n2_
             have HB := n3_
             clear n0_ n1_ n2_ n3_
             refine start_ (n := 6) (S := fun w' => w'.cell? ⟨gb429, 0, none⟩ = some (.int .i64 t425) ∧ w'.cell? ⟨gb429, 1, none⟩ = some (.string t426) ∧ w'.cell? ⟨gb429, 2, none⟩ = some (.string t427)) (ds := []) #[false, false, false, false, false, false] k1_ rfl rfl ⟨(blk_cell BK429.out 0).trans rfl, (blk_cell BK429.out 1).trans rfl, (blk_cell BK429.out 2).trans rfl⟩ (fun hHeld => ?_)
             generalize w62.drew = w63 at BK408 BK419 BK429 HB hHeld ⊢
             refine pure_ (i := 0) (N := some 84) (v := ?_) (a' := ?_) #[true, false, false, false, false, false] rfl rfl k1_ (fun _ _ _ h => h) (Or.inl ⟨by rfl, ?_⟩) ?_ ?_
             rotate_left
             ·intro w'
              go_simp
              with_reducible rfl
             rotate_left
             ·simp only [Act.put, List.setIfInBounds_toArray, List.set_cons_zero, List.set_cons_succ, i64_w, i32_w]
              rfl
             refine pure_ (i := 2) (N := some 86) (v := ?_) (a' := ?_) #[true, false, true, false, false, false] rfl rfl k1_ (fun _ _ _ h => h) (Or.inl ⟨by rfl, ?_⟩) ?_ ?_
             rotate_left
             ·intro w'
              go_simp
              with_reducible rfl
             rotate_left
             ·simp only [Act.put, List.setIfInBounds_toArray, List.set_cons_zero, List.set_cons_succ, i64_w, i32_w]
              rfl
             refine take_ (i := 1) (N := some 85) (v := ?_) (a' := ?_) #[true, true, true, false, false, false] rfl rfl k1_ (fun _ _ _ h => h) (Or.inl ⟨by rfl, ?_⟩) hHeld ?_ ?_
             rotate_left
             ·rintro w' ⟨s0, s1, s2⟩
              go_simp
              with_reducible rfl
             rotate_left
             ·simp only [Act.put, List.setIfInBounds_toArray, List.set_cons_zero, List.set_cons_succ, i64_w, i32_w]
              rfl
             refine one_ (i := 3) (N := none) #[true, true, true, true, false, false] rfl rfl k1_ (by decide) (fun K hK => ?_)
             have hs64 : w63.cell? ⟨gb419, 0, none⟩ = some (.int .i64 x420000_17) := (blk_cell BK419.out 0).trans rfl
             have hfs64 := blk_frozen BK419.out 0
             have hns64_0 := NB408_419.out
             have hns64_2 := NB429_419.out
             have hms64_0 := NB419_408.out
             have hms64_2 := NB419_429.out
             refine skip_ (w1 := ?_) (by rfl) rfl ?_ ?_
             rotate_left
             ·go_simp
              rfl
             refine hK.out _ _ ⟨((cell_far (p := ⟨gb419, _, none⟩) NB429_419.out _).trans (hHeld.1)), ((cell_far (p := ⟨gb419, _, none⟩) NB429_419.out _).trans (hHeld.2.1)), ((cell_far (p := ⟨gb419, _, none⟩) NB429_419.out _).trans (hHeld.2.2))⟩ (fun hHeld => ?_)
             clear hK K
             refine pure_ (i := 4) (N := some 87) (v := ?_) (a' := ?_) #[true, true, true, true, true, false] rfl rfl k1_ (fun _ _ _ h => h) (Or.inl ⟨by rfl, ?_⟩) ?_ ?_
             rotate_left
             ·intro w'
              go_simp
              with_reducible rfl
             rotate_left
             ·simp only [Act.put, List.setIfInBounds_toArray, List.set_cons_zero, List.set_cons_succ, i64_w, i32_w]
              rfl
             refine one_ (i := 5) (N := none) #[true, true, true, true, true, true] rfl rfl k1_ (by decide) (fun K hK => ?_)
             have hs65 : w63.cell? ⟨gb419, 2, none⟩ = some (.string x420002_17) := (blk_cell BK419.out 2).trans rfl
             have hfs65 := blk_frozen BK419.out 2
             have hns65_0 := NB408_419.out
             have hns65_2 := NB429_419.out
             have hms65_0 := NB419_408.out
             have hms65_2 := NB419_429.out
             refine skip_ (w1 := ?_) (by rfl) rfl ?_ ?_
             rotate_left
             ·go_simp
              rfl
             refine hK.out _ _ ⟨((cell_far (p := ⟨gb419, _, none⟩) NB429_419.out _).trans (hHeld.1)), ((cell_far (p := ⟨gb419, _, none⟩) NB429_419.out _).trans (hHeld.2.1)), ((cell_far (p := ⟨gb419, _, none⟩) NB429_419.out _).trans (hHeld.2.2))⟩ (fun hHeld => ?_)
             clear hK K
             refine done_ k1_ ?_
             have hnb66 := NB419_408.out
             have hnc66 := NB408_419.out
             obtain ⟨⟨hcz67_0, hcz67_1, hcz67_2⟩, hfz67_0, hfz67_1, hfz67_2⟩ := c3_ BK419.out
             try go_wp2_with (first | ((with_reducible refine gate_callee (f := 21) rfl ?_); refine goesL_ (some 89) rfl rfl Tryz.func21 k1_ rfl #[.agg #[.int .i64 5, .string ((rd_T43 l0 0).f1), .string t426]] rfl g1_ ?_; (with_reducible refine (g2_May.calls kj23 5 ((rd_T43 l0 0).f1) t426 true _ A55.out).mono ?_); rintro e w68 ⟨rfl, hb⟩; refine ⟨_, rfl, ?_⟩; replace BK408 := Ad.mk (blk_below (g := gb408) (o := .cells #[.int .i64 0, .string ⟨#[]⟩, .string ⟨#[]⟩] 31 (0, 0)) (by have G0 := NB408_419; have G1 := BK408; exact z30_) hb); replace BK419 := Ad.mk (blk_below (g := gb419) (o := .cells #[.int .i64 5, .string ((rd_T43 l0 0).f1), .string t426] 31 (0, 0)) (by have G0 := BK419; exact z101_) hb); replace BK429 := Ad.mk (blk_below (g := gb429) (o := .cells #[.int .i64 t425, .string t426, .string t427] 31 (0, 0)) (by have G0 := NB429_419; have G1 := BK429; exact z30_) hb); replace HB := Ad.mk (below_step (by have G0 := GE408; have G1 := GE419; have G2 := GE429; exact z14_) hb); clear hb; obtain ⟨⟨hcz69_0, hcz69_1, hcz69_2⟩, hfz69_0, hfz69_1, hfz69_2⟩ := c3_ BK419.out; obtain ⟨⟨hcz70_0, hcz70_1, hcz70_2⟩, hfz70_0, hfz70_1, hfz70_2⟩ := c3_ BK408.out))
             refine bodyPost_ret (results_ct rfl _ _ gb408 31 #[.int .i64 5, .string ((rd_T43 l0 0).f1), .string t426] (0, 0) _ rfl (by refine bd_ ?_; refine blk_put (cs := #[.int .i64 5, .string ((rd_T43 l0 0).f1), .string ⟨#[]⟩]) ?_ 2 _ rfl; refine bd_ ?_; refine blk_put (cs := #[.int .i64 5, .string ⟨#[]⟩, .string ⟨#[]⟩]) ?_ 1 _ rfl; refine bd_ ?_; refine blk_put (cs := #[.int .i64 0, .string ⟨#[]⟩, .string ⟨#[]⟩]) ?_ 0 _ rfl; refine bd_ ?_; exact BK408.out) Tryz.underlying31 rfl k1_) rfl ?_
             exact ⟨e2_, by have G0 := GE408; have G1 := GE419; have G2 := GE429; exact z14_⟩
            replace c56 := Bool.eq_false_iff.mpr c56
            subst c56
            rw [if_neg (show ¬ (false = true) by decide)] at H
            simp only [Option.some.injEq, Prod.mk.injEq] at H
            obtain ⟨rfl, rfl, rfl, rfl⟩ := H
            have p424 : 0 ≤ (2 : Int) := (by omega)
            have q424 : 2 < (l0.length : Int) := of_decide_eq_true a1_
            obtain ⟨ad424, e424, hx424_0, hx424_1, hx424_2, hx424_3, hx424_4, hx424_5⟩ := at_T43 HR0.out 2 p424 q424
            obtain rfl : ad409 = ad424 := (by injection e424)
            (try simp only [show (2 : Int).toNat = 2 from rfl, Nat.reduceMul, Nat.reduceEqDiff, Go.Addr.add, ↓reduceIte] at hx424_0 hx424_1 hx424_2 hx424_3 hx424_4 hx424_5)
            have qi424 : (2 < l0.length) = True := eq_true (by omega)
            replace hx424_0 := (HB.out.cell (World.block_lt_of_cell? w _ hx424_0)).trans hx424_0
            replace hx424_1 := (HB.out.cell (World.block_lt_of_cell? w _ hx424_1)).trans hx424_1
            replace hx424_2 := (HB.out.cell (World.block_lt_of_cell? w _ hx424_2)).trans hx424_2
            replace hx424_3 := (HB.out.cell (World.block_lt_of_cell? w _ hx424_3)).trans hx424_3
            replace hx424_4 := (HB.out.cell (World.block_lt_of_cell? w _ hx424_4)).trans hx424_4
            replace hx424_5 := (HB.out.cell (World.block_lt_of_cell? w _ hx424_5)).trans hx424_5
            replace p424 := eq_true p424
            replace q424 := eq_true q424
            try go_wp2_with (first | ((with_reducible refine gate_callee (f := 20) rfl ?_); refine goesL_ (some 77) rfl rfl Tryz.func20 k1_ rfl #[.agg #[.int .i64 ((rd_T43 l0 2).f0), .string ((rd_T43 l0 2).f1), .int .i64 ((rd_T43 l0 2).f2.f0), .string ((rd_T43 l0 2).f2.f1), .string ((rd_T43 l0 2).f2.f2), .int .i64 ((rd_T43 l0 2).f3)], .slice A1 l1.length c1] rfl g1_ ?_; (with_reducible refine (g4_resource.calls kj23 ((rd_T43 l0 2).f0) ((rd_T43 l0 2).f1) ((rd_T43 l0 2).f2.f0) ((rd_T43 l0 2).f2.f1) ((rd_T43 l0 2).f2.f2) ((rd_T43 l0 2).f3) _ _ l1 t425 t426 t427 true _ ?side1 ?side2 A31.out).mono ?_); (case side1 => exact (by have G0 := HR1; exact z29_)); (case side2 => exact HC1.out); rintro e w71 ⟨rfl, hb⟩; refine ⟨_, rfl, ?_⟩; replace BK408 := Ad.mk (blk_below (g := gb408) (o := .cells #[.int .i64 0, .string ⟨#[]⟩, .string ⟨#[]⟩] 31 (0, 0)) (bd_ BK408.out) hb); replace BK419 := Ad.mk (blk_below (g := gb419) (o := .cells #[.int .i64 x420000_17, .string ((rd_T43 l0 0).f1), .string x420002_17] 31 (0, 0)) (bd_ BK419.out) hb); replace HB := Ad.mk (below_step (by have G0 := GE408; have G1 := GE419; exact z2_) hb); clear hb) | ((with_reducible refine gate_dst (N := 10) rfl ?_); refine box_event r1_ (N := 10) r1_ (cs := #[.int .i64 0, .string ⟨#[]⟩, .string ⟨#[]⟩]) (t := 31) r2_ ?_; intro gb429 hg w72 hbox hb; have BK429 := Ad.mk (hbox); have GW429 := Ad.mk ((by have G0 := GE408; have G1 := GE419; exact z17_ : w.heap.size ≤ gb429)); have GE429 := Ad.mk ((by have G0 := GE408; have G1 := GE419; exact z17_ : w.heap.size ≤ gb429)); have NB408_429 := Ad.mk ((by have G0 := BK408; exact z25_ : gb408 ≠ gb429)); have NB429_408 := Ad.mk ((by have G0 := BK408; exact z26_ : gb429 ≠ gb408)); have NB419_429 := Ad.mk ((by have G0 := BK419; exact z41_ : gb419 ≠ gb429)); have NB429_419 := Ad.mk ((by have G0 := BK419; exact z42_ : gb429 ≠ gb419)); replace BK408 := Ad.mk (blk_below (g := gb408) (o := .cells #[.int .i64 0, .string ⟨#[]⟩, .string ⟨#[]⟩] 31 (0, 0)) (bd_ BK408.out) hb); replace BK419 := Ad.mk (blk_below (g := gb419) (o := .cells #[.int .i64 x420000_17, .string ((rd_T43 l0 0).f1), .string x420002_17] 31 (0, 0)) (bd_ BK419.out) hb); replace HB := Ad.mk (below_step (by have G0 := GE408; have G1 := GE419; exact z2_) hb); clear hb hbox hg; have hnb73 := NB429_408.out; have hnc73 := NB408_429.out; have hnb74 := NB429_419.out; have hnc74 := NB419_429.out; obtain ⟨⟨hcz75_0, hcz75_1, hcz75_2⟩, hfz75_0, hfz75_1, hfz75_2⟩ := c3_ BK429.out))
            have n0_ : Ad ((((w72.setCell ⟨gb429, 0, none⟩ (.int .i64 t425)).setCell ⟨gb429, 1, none⟩ (.string t426)).setCell ⟨gb429, 2, none⟩ (.string t427)).heap[gb408]? = some (.cells #[.int .i64 0, .string ⟨#[]⟩, .string ⟨#[]⟩] 31 (0, 0))) := ⟨by have G0 := NB408_429; have G1 := BK408; exact z13_⟩
            have n1_ : Ad ((((w72.setCell ⟨gb429, 0, none⟩ (.int .i64 t425)).setCell ⟨gb429, 1, none⟩ (.string t426)).setCell ⟨gb429, 2, none⟩ (.string t427)).heap[gb419]? = some (.cells #[.int .i64 x420000_17, .string ((rd_T43 l0 0).f1), .string x420002_17] 31 (0, 0))) := ⟨by have G0 := NB419_429; have G1 := BK419; exact z13_⟩
            have n2_ : Ad ((((w72.setCell ⟨gb429, 0, none⟩ (.int .i64 t425)).setCell ⟨gb429, 1, none⟩ (.string t426)).setCell ⟨gb429, 2, none⟩ (.string t427)).heap[gb429]? = some (.cells #[.int .i64 t425, .string t426, .string t427] 31 (0, 0))) := ⟨by refine bd_ ?_; refine blk_put (cs := #[.int .i64 t425, .string t426, .string ⟨#[]⟩]) ?_ 2 _ rfl; refine bd_ ?_; refine blk_put (cs := #[.int .i64 t425, .string ⟨#[]⟩, .string ⟨#[]⟩]) ?_ 1 _ rfl; refine bd_ ?_; refine blk_put (cs := #[.int .i64 0, .string ⟨#[]⟩, .string ⟨#[]⟩]) ?_ 0 _ rfl; refine bd_ ?_; exact BK429.out⟩
            have n3_ : Ad (Below w.heap.size w (((w72.setCell ⟨gb429, 0, none⟩ (.int .i64 t425)).setCell ⟨gb429, 1, none⟩ (.string t426)).setCell ⟨gb429, 2, none⟩ (.string t427))) := ⟨by have G0 := GE408; have G1 := GE419; have G2 := GE429; exact z14_⟩
            (try clear BK408)
            (try clear BK419)
            (try clear BK429)
            (try clear HB)
            generalize (((w72.setCell ⟨gb429, 0, none⟩ (.int .i64 t425)).setCell ⟨gb429, 1, none⟩ (.string t426)).setCell ⟨gb429, 2, none⟩ (.string t427)) = w76 at n0_ n1_ n2_ n3_ ⊢
            have BK408 := n0_
            have BK419 := n1_
            have BK429 := n2_
            have HB := n3_
            clear n0_ n1_ n2_ n3_
            have n0_ := Ad.mk (blk_drew BK408.out)
            have n1_ := Ad.mk (blk_drew BK419.out)
            have n2_ := Ad.mk (blk_drew BK429.out)
            have n3_ := Ad.mk (below_drew1 HB.out)
            clear BK408
            clear BK419
            clear BK429
            clear HB
            have BK408 := n0_
            have BK419 := n1_
            have BK429 := n2_
            have HB := n3_
            clear n0_ n1_ n2_ n3_
            refine start_ (n := 6) (S := fun w' => w'.cell? ⟨gb429, 0, none⟩ = some (.int .i64 t425) ∧ w'.cell? ⟨gb429, 1, none⟩ = some (.string t426) ∧ w'.cell? ⟨gb429, 2, none⟩ = some (.string t427)) (ds := []) #[false, false, false, false, false, false] k1_ rfl rfl ⟨(blk_cell BK429.out 0).trans rfl, (blk_cell BK429.out 1).trans rfl, (blk_cell BK429.out 2).trans rfl⟩ (fun hHeld => ?_)
            generalize w76.drew = w77 at BK408 BK419 BK429 HB hHeld ⊢
            refine pure_ (i := 0) (N := some 84) (v := ?_) (a' := ?_) #[true, false, false, false, false, false] rfl rfl k1_ (fun _ _ _ h => h) (Or.inl ⟨by rfl, ?_⟩) ?_ ?_
            rotate_left
            ·intro w'
             go_simp
             with_reducible rfl
            rotate_left
            ·simp only [Act.put, List.setIfInBounds_toArray, List.set_cons_zero, List.set_cons_succ, i64_w, i32_w]
             rfl
            refine pure_ (i := 2) (N := some 86) (v := ?_) (a' := ?_) #[true, false, true, false, false, false] rfl rfl k1_ (fun _ _ _ h => h) (Or.inl ⟨by rfl, ?_⟩) ?_ ?_
            rotate_left
            ·intro w'
             go_simp
             with_reducible rfl
            rotate_left
            ·simp only [Act.put, List.setIfInBounds_toArray, List.set_cons_zero, List.set_cons_succ, i64_w, i32_w]
             rfl
            refine take_ (i := 1) (N := some 85) (v := ?_) (a' := ?_) #[true, true, true, false, false, false] rfl rfl k1_ (fun _ _ _ h => h) (Or.inl ⟨by rfl, ?_⟩) hHeld ?_ ?_
            rotate_left
            ·rintro w' ⟨s0, s1, s2⟩
             go_simp
             with_reducible rfl
            rotate_left
            ·simp only [Act.put, List.setIfInBounds_toArray, List.set_cons_zero, List.set_cons_succ, i64_w, i32_w]
             rfl
            refine one_ (i := 3) (N := none) #[true, true, true, true, false, false] rfl rfl k1_ (by decide) (fun K hK => ?_)
            have hs78 : w77.cell? ⟨gb419, 0, none⟩ = some (.int .i64 x420000_17) := (blk_cell BK419.out 0).trans rfl
            have hfs78 := blk_frozen BK419.out 0
            have hns78_0 := NB408_419.out
            have hns78_2 := NB429_419.out
            have hms78_0 := NB419_408.out
            have hms78_2 := NB419_429.out
            refine skip_ (w1 := ?_) (by rfl) rfl ?_ ?_
            rotate_left
            ·go_simp
             rfl
            refine hK.out _ _ ⟨((cell_far (p := ⟨gb419, _, none⟩) NB429_419.out _).trans (hHeld.1)), ((cell_far (p := ⟨gb419, _, none⟩) NB429_419.out _).trans (hHeld.2.1)), ((cell_far (p := ⟨gb419, _, none⟩) NB429_419.out _).trans (hHeld.2.2))⟩ (fun hHeld => ?_)
            clear hK K
            refine pure_ (i := 4) (N := some 87) (v := ?_) (a' := ?_) #[true, true, true, true, true, false] rfl rfl k1_ (fun _ _ _ h => h) (Or.inl ⟨by rfl, ?_⟩) ?_ ?_
            rotate_left
            ·intro w'
             go_simp
             with_reducible rfl
            rotate_left
            ·simp only [Act.put, List.setIfInBounds_toArray, List.set_cons_zero, List.set_cons_succ, i64_w, i32_w]
             rfl
            refine one_ (i := 5) (N := none) #[true, true, true, true, true, true] rfl rfl k1_ (by decide) (fun K hK => ?_)
            have hs79 : w77.cell? ⟨gb419, 2, none⟩ = some (.string x420002_17) := (blk_cell BK419.out 2).trans rfl
            have hfs79 := blk_frozen BK419.out 2
            have hns79_0 := NB408_419.out
            have hns79_2 := NB429_419.out
            have hms79_0 := NB419_408.out
            have hms79_2 := NB419_429.out
            refine skip_ (w1 := ?_) (by rfl) rfl ?_ ?_
            rotate_left
            ·go_simp
             rfl
            refine hK.out _ _ ⟨((cell_far (p := ⟨gb419, _, none⟩) NB429_419.out _).trans (hHeld.1)), ((cell_far (p := ⟨gb419, _, none⟩) NB429_419.out _).trans (hHeld.2.1)), ((cell_far (p := ⟨gb419, _, none⟩) NB429_419.out _).trans (hHeld.2.2))⟩ (fun hHeld => ?_)
            clear hK K
            refine done_ k1_ ?_
            have hnb80 := NB419_408.out
            have hnc80 := NB408_419.out
            obtain ⟨⟨hcz81_0, hcz81_1, hcz81_2⟩, hfz81_0, hfz81_1, hfz81_2⟩ := c3_ BK419.out
            try go_wp2_with (first | ((with_reducible refine gate_callee (f := 21) rfl ?_); refine goesL_ (some 89) rfl rfl Tryz.func21 k1_ rfl #[.agg #[.int .i64 5, .string ((rd_T43 l0 0).f1), .string t426]] rfl g1_ ?_; (with_reducible refine (g2_May.calls kj23 5 ((rd_T43 l0 0).f1) t426 false _ A55.out).mono ?_); rintro e w82 ⟨rfl, hb⟩; refine ⟨_, rfl, ?_⟩; replace BK408 := Ad.mk (blk_below (g := gb408) (o := .cells #[.int .i64 0, .string ⟨#[]⟩, .string ⟨#[]⟩] 31 (0, 0)) (by have G0 := NB408_419; have G1 := BK408; exact z30_) hb); replace BK419 := Ad.mk (blk_below (g := gb419) (o := .cells #[.int .i64 5, .string ((rd_T43 l0 0).f1), .string t426] 31 (0, 0)) (by have G0 := BK419; exact z101_) hb); replace BK429 := Ad.mk (blk_below (g := gb429) (o := .cells #[.int .i64 t425, .string t426, .string t427] 31 (0, 0)) (by have G0 := NB429_419; have G1 := BK429; exact z30_) hb); replace HB := Ad.mk (below_step (by have G0 := GE408; have G1 := GE419; have G2 := GE429; exact z14_) hb); clear hb; obtain ⟨⟨hcz83_0, hcz83_1, hcz83_2⟩, hfz83_0, hfz83_1, hfz83_2⟩ := c3_ BK408.out))
            refine bodyPost_ret (results_ct rfl _ _ gb408 31 #[.int .i64 0, .string ⟨#[]⟩, .string ⟨#[]⟩] (0, 0) _ rfl (by have G0 := BK408; exact z36_) Tryz.underlying31 rfl k1_) rfl ?_
            exact ⟨e2_, by have G0 := GE408; have G1 := GE419; have G2 := GE429; exact z14_⟩
           replace c32 := Bool.eq_false_iff.mpr c32
           subst c32
           rw [if_neg (show ¬ (false = true) by decide)] at H
           obtain ⟨t432, A84, H⟩ := bi_ H
           by_cases c85 : t432 = true
           ·subst c85
            rw [if_pos rfl] at H
            simp only [Option.some.injEq, Prod.mk.injEq] at H
            obtain ⟨rfl, rfl, rfl, rfl⟩ := H
            have p424 : 0 ≤ (2 : Int) := (by omega)
            have q424 : 2 < (l0.length : Int) := of_decide_eq_true a1_
            obtain ⟨ad424, e424, hx424_0, hx424_1, hx424_2, hx424_3, hx424_4, hx424_5⟩ := at_T43 HR0.out 2 p424 q424
            obtain rfl : ad409 = ad424 := (by injection e424)
            (try simp only [show (2 : Int).toNat = 2 from rfl, Nat.reduceMul, Nat.reduceEqDiff, Go.Addr.add, ↓reduceIte] at hx424_0 hx424_1 hx424_2 hx424_3 hx424_4 hx424_5)
            have qi424 : (2 < l0.length) = True := eq_true (by omega)
            replace hx424_0 := (HB.out.cell (World.block_lt_of_cell? w _ hx424_0)).trans hx424_0
            replace hx424_1 := (HB.out.cell (World.block_lt_of_cell? w _ hx424_1)).trans hx424_1
            replace hx424_2 := (HB.out.cell (World.block_lt_of_cell? w _ hx424_2)).trans hx424_2
            replace hx424_3 := (HB.out.cell (World.block_lt_of_cell? w _ hx424_3)).trans hx424_3
            replace hx424_4 := (HB.out.cell (World.block_lt_of_cell? w _ hx424_4)).trans hx424_4
            replace hx424_5 := (HB.out.cell (World.block_lt_of_cell? w _ hx424_5)).trans hx424_5
            replace p424 := eq_true p424
            replace q424 := eq_true q424
            go_wp2_with (first | ((with_reducible refine gate_callee (f := 20) rfl ?_); refine goesL_ (some 77) rfl rfl Tryz.func20 k1_ rfl #[.agg #[.int .i64 ((rd_T43 l0 2).f0), .string ((rd_T43 l0 2).f1), .int .i64 ((rd_T43 l0 2).f2.f0), .string ((rd_T43 l0 2).f2.f1), .string ((rd_T43 l0 2).f2.f2), .int .i64 ((rd_T43 l0 2).f3)], .slice A1 l1.length c1] rfl g1_ ?_; (with_reducible refine (g4_resource.calls kj23 ((rd_T43 l0 2).f0) ((rd_T43 l0 2).f1) ((rd_T43 l0 2).f2.f0) ((rd_T43 l0 2).f2.f1) ((rd_T43 l0 2).f2.f2) ((rd_T43 l0 2).f3) _ _ l1 t425 t426 t427 false _ ?side1 ?side2 A31.out).mono ?_); (case side1 => exact (by have G0 := HR1; exact z29_)); (case side2 => exact HC1.out); rintro e w86 ⟨rfl, hb⟩; refine ⟨_, rfl, ?_⟩; replace BK408 := Ad.mk (blk_below (g := gb408) (o := .cells #[.int .i64 0, .string ⟨#[]⟩, .string ⟨#[]⟩] 31 (0, 0)) (bd_ BK408.out) hb); replace BK419 := Ad.mk (blk_below (g := gb419) (o := .cells #[.int .i64 x420000_17, .string ((rd_T43 l0 0).f1), .string x420002_17] 31 (0, 0)) (bd_ BK419.out) hb); replace HB := Ad.mk (below_step (by have G0 := GE408; have G1 := GE419; exact z2_) hb); clear hb) | ((with_reducible refine gate_dst (N := 10) rfl ?_); refine box_event r1_ (N := 10) r1_ (cs := #[.int .i64 0, .string ⟨#[]⟩, .string ⟨#[]⟩]) (t := 31) r2_ ?_; intro gb429 hg w87 hbox hb; have BK429 := Ad.mk (hbox); have GW429 := Ad.mk ((by have G0 := GE408; have G1 := GE419; exact z17_ : w.heap.size ≤ gb429)); have GE429 := Ad.mk ((by have G0 := GE408; have G1 := GE419; exact z17_ : w.heap.size ≤ gb429)); have NB408_429 := Ad.mk ((by have G0 := BK408; exact z25_ : gb408 ≠ gb429)); have NB429_408 := Ad.mk ((by have G0 := BK408; exact z26_ : gb429 ≠ gb408)); have NB419_429 := Ad.mk ((by have G0 := BK419; exact z41_ : gb419 ≠ gb429)); have NB429_419 := Ad.mk ((by have G0 := BK419; exact z42_ : gb429 ≠ gb419)); replace BK408 := Ad.mk (blk_below (g := gb408) (o := .cells #[.int .i64 0, .string ⟨#[]⟩, .string ⟨#[]⟩] 31 (0, 0)) (bd_ BK408.out) hb); replace BK419 := Ad.mk (blk_below (g := gb419) (o := .cells #[.int .i64 x420000_17, .string ((rd_T43 l0 0).f1), .string x420002_17] 31 (0, 0)) (bd_ BK419.out) hb); replace HB := Ad.mk (below_step (by have G0 := GE408; have G1 := GE419; exact z2_) hb); clear hb hbox hg; have hnb88 := NB429_408.out; have hnc88 := NB408_429.out; have hnb89 := NB429_419.out; have hnc89 := NB419_429.out; obtain ⟨⟨hcz90_0, hcz90_1, hcz90_2⟩, hfz90_0, hfz90_1, hfz90_2⟩ := c3_ BK429.out; have hnb91 := NB419_408.out; have hnc91 := NB408_419.out; obtain ⟨⟨hcz92_0, hcz92_1, hcz92_2⟩, hfz92_0, hfz92_1, hfz92_2⟩ := c3_ BK419.out) | ((with_reducible refine gate_callee (f := 21) rfl ?_); refine goesL_ (some 89) rfl rfl Tryz.func21 k1_ rfl #[.agg #[.int .i64 x420000_17, .string ((rd_T43 l0 0).f1), .string x420002_17]] rfl g1_ ?_; (with_reducible refine (g2_May.calls kj23 x420000_17 ((rd_T43 l0 0).f1) x420002_17 true _ A84.out).mono ?_); rintro e w93 ⟨rfl, hb⟩; refine ⟨_, rfl, ?_⟩; replace BK408 := Ad.mk (blk_below (g := gb408) (o := .cells #[.int .i64 0, .string ⟨#[]⟩, .string ⟨#[]⟩] 31 (0, 0)) (by have G0 := NB408_429; have G1 := BK408; exact z13_) hb); replace BK419 := Ad.mk (blk_below (g := gb419) (o := .cells #[.int .i64 x420000_17, .string ((rd_T43 l0 0).f1), .string x420002_17] 31 (0, 0)) (by have G0 := NB419_429; have G1 := BK419; exact z13_) hb); replace BK429 := Ad.mk (blk_below (g := gb429) (o := .cells #[.int .i64 t425, .string t426, .string t427] 31 (0, 0)) (by have G0 := BK429; exact z56_) hb); replace HB := Ad.mk (below_step (by have G0 := GE408; have G1 := GE419; have G2 := GE429; exact z14_) hb); clear hb; obtain ⟨⟨hcz94_0, hcz94_1, hcz94_2⟩, hfz94_0, hfz94_1, hfz94_2⟩ := c3_ BK419.out; obtain ⟨⟨hcz95_0, hcz95_1, hcz95_2⟩, hfz95_0, hfz95_1, hfz95_2⟩ := c3_ BK408.out))
            refine bodyPost_ret (results_ct rfl _ _ gb408 31 #[.int .i64 x420000_17, .string ((rd_T43 l0 0).f1), .string x420002_17] (0, 0) _ rfl (by have G0 := BK408; exact z72_) Tryz.underlying31 rfl k1_) rfl ?_
            exact ⟨e2_, by have G0 := GE408; have G1 := GE419; have G2 := GE429; exact z14_⟩
           replace c85 := Bool.eq_false_iff.mpr c85
           subst c85
           rw [if_neg (show ¬ (false = true) by decide)] at H
           simp only [Option.some.injEq, Prod.mk.injEq] at H
           obtain ⟨rfl, rfl, rfl, rfl⟩ := H
           have p424 : 0 ≤ (2 : Int) := (by omega)
           have q424 : 2 < (l0.length : Int) := of_decide_eq_true a1_
           obtain ⟨ad424, e424, hx424_0, hx424_1, hx424_2, hx424_3, hx424_4, hx424_5⟩ := at_T43 HR0.out 2 p424 q424
           obtain rfl : ad409 = ad424 := (by injection e424)
           (try simp only [show (2 : Int).toNat = 2 from rfl, Nat.reduceMul, Nat.reduceEqDiff, Go.Addr.add, ↓reduceIte] at hx424_0 hx424_1 hx424_2 hx424_3 hx424_4 hx424_5)
           have qi424 : (2 < l0.length) = True := eq_true (by omega)
           replace hx424_0 := (HB.out.cell (World.block_lt_of_cell? w _ hx424_0)).trans hx424_0
           replace hx424_1 := (HB.out.cell (World.block_lt_of_cell? w _ hx424_1)).trans hx424_1
           replace hx424_2 := (HB.out.cell (World.block_lt_of_cell? w _ hx424_2)).trans hx424_2
           replace hx424_3 := (HB.out.cell (World.block_lt_of_cell? w _ hx424_3)).trans hx424_3
           replace hx424_4 := (HB.out.cell (World.block_lt_of_cell? w _ hx424_4)).trans hx424_4
           replace hx424_5 := (HB.out.cell (World.block_lt_of_cell? w _ hx424_5)).trans hx424_5
           replace p424 := eq_true p424
           replace q424 := eq_true q424
           go_wp2_with (first | ((with_reducible refine gate_callee (f := 20) rfl ?_); refine goesL_ (some 77) rfl rfl Tryz.func20 k1_ rfl #[.agg #[.int .i64 ((rd_T43 l0 2).f0), .string ((rd_T43 l0 2).f1), .int .i64 ((rd_T43 l0 2).f2.f0), .string ((rd_T43 l0 2).f2.f1), .string ((rd_T43 l0 2).f2.f2), .int .i64 ((rd_T43 l0 2).f3)], .slice A1 l1.length c1] rfl g1_ ?_; (with_reducible refine (g4_resource.calls kj23 ((rd_T43 l0 2).f0) ((rd_T43 l0 2).f1) ((rd_T43 l0 2).f2.f0) ((rd_T43 l0 2).f2.f1) ((rd_T43 l0 2).f2.f2) ((rd_T43 l0 2).f3) _ _ l1 t425 t426 t427 false _ ?side1 ?side2 A31.out).mono ?_); (case side1 => exact (by have G0 := HR1; exact z29_)); (case side2 => exact HC1.out); rintro e w96 ⟨rfl, hb⟩; refine ⟨_, rfl, ?_⟩; replace BK408 := Ad.mk (blk_below (g := gb408) (o := .cells #[.int .i64 0, .string ⟨#[]⟩, .string ⟨#[]⟩] 31 (0, 0)) (bd_ BK408.out) hb); replace BK419 := Ad.mk (blk_below (g := gb419) (o := .cells #[.int .i64 x420000_17, .string ((rd_T43 l0 0).f1), .string x420002_17] 31 (0, 0)) (bd_ BK419.out) hb); replace HB := Ad.mk (below_step (by have G0 := GE408; have G1 := GE419; exact z2_) hb); clear hb) | ((with_reducible refine gate_dst (N := 10) rfl ?_); refine box_event r1_ (N := 10) r1_ (cs := #[.int .i64 0, .string ⟨#[]⟩, .string ⟨#[]⟩]) (t := 31) r2_ ?_; intro gb429 hg w97 hbox hb; have BK429 := Ad.mk (hbox); have GW429 := Ad.mk ((by have G0 := GE408; have G1 := GE419; exact z17_ : w.heap.size ≤ gb429)); have GE429 := Ad.mk ((by have G0 := GE408; have G1 := GE419; exact z17_ : w.heap.size ≤ gb429)); have NB408_429 := Ad.mk ((by have G0 := BK408; exact z25_ : gb408 ≠ gb429)); have NB429_408 := Ad.mk ((by have G0 := BK408; exact z26_ : gb429 ≠ gb408)); have NB419_429 := Ad.mk ((by have G0 := BK419; exact z41_ : gb419 ≠ gb429)); have NB429_419 := Ad.mk ((by have G0 := BK419; exact z42_ : gb429 ≠ gb419)); replace BK408 := Ad.mk (blk_below (g := gb408) (o := .cells #[.int .i64 0, .string ⟨#[]⟩, .string ⟨#[]⟩] 31 (0, 0)) (bd_ BK408.out) hb); replace BK419 := Ad.mk (blk_below (g := gb419) (o := .cells #[.int .i64 x420000_17, .string ((rd_T43 l0 0).f1), .string x420002_17] 31 (0, 0)) (bd_ BK419.out) hb); replace HB := Ad.mk (below_step (by have G0 := GE408; have G1 := GE419; exact z2_) hb); clear hb hbox hg; have hnb98 := NB429_408.out; have hnc98 := NB408_429.out; have hnb99 := NB429_419.out; have hnc99 := NB419_429.out; obtain ⟨⟨hcz100_0, hcz100_1, hcz100_2⟩, hfz100_0, hfz100_1, hfz100_2⟩ := c3_ BK429.out; have hnb101 := NB419_408.out; have hnc101 := NB408_419.out; obtain ⟨⟨hcz102_0, hcz102_1, hcz102_2⟩, hfz102_0, hfz102_1, hfz102_2⟩ := c3_ BK419.out) | ((with_reducible refine gate_callee (f := 21) rfl ?_); refine goesL_ (some 89) rfl rfl Tryz.func21 k1_ rfl #[.agg #[.int .i64 x420000_17, .string ((rd_T43 l0 0).f1), .string x420002_17]] rfl g1_ ?_; (with_reducible refine (g2_May.calls kj23 x420000_17 ((rd_T43 l0 0).f1) x420002_17 false _ A84.out).mono ?_); rintro e w103 ⟨rfl, hb⟩; refine ⟨_, rfl, ?_⟩; replace BK408 := Ad.mk (blk_below (g := gb408) (o := .cells #[.int .i64 0, .string ⟨#[]⟩, .string ⟨#[]⟩] 31 (0, 0)) (by have G0 := NB408_429; have G1 := BK408; exact z13_) hb); replace BK419 := Ad.mk (blk_below (g := gb419) (o := .cells #[.int .i64 x420000_17, .string ((rd_T43 l0 0).f1), .string x420002_17] 31 (0, 0)) (by have G0 := NB419_429; have G1 := BK419; exact z13_) hb); replace BK429 := Ad.mk (blk_below (g := gb429) (o := .cells #[.int .i64 t425, .string t426, .string t427] 31 (0, 0)) (by have G0 := BK429; exact z56_) hb); replace HB := Ad.mk (below_step (by have G0 := GE408; have G1 := GE419; have G2 := GE429; exact z14_) hb); clear hb; obtain ⟨⟨hcz104_0, hcz104_1, hcz104_2⟩, hfz104_0, hfz104_1, hfz104_2⟩ := c3_ BK408.out))
           refine bodyPost_ret (results_ct rfl _ _ gb408 31 #[.int .i64 0, .string ⟨#[]⟩, .string ⟨#[]⟩] (0, 0) _ rfl (by have G0 := BK408; exact z36_) Tryz.underlying31 rfl k1_) rfl ?_
           exact ⟨e2_, by have G0 := GE408; have G1 := GE419; have G2 := GE429; exact z14_⟩
          rw [if_neg c30] at H
          exact absurd H (by simp)
         replace c29 := Bool.eq_false_iff.mpr c29
         subst c29
         rw [if_neg (show ¬ (false = true) by decide)] at H
         obtain ⟨t433, A105, H⟩ := bi_ H
         by_cases c106 : t433 = true
         ·subst c106
          rw [if_pos rfl] at H
          simp only [Option.some.injEq, Prod.mk.injEq] at H
          obtain ⟨rfl, rfl, rfl, rfl⟩ := H
          have hnb107 := NB419_408.out
          have hnc107 := NB408_419.out
          obtain ⟨⟨hcz108_0, hcz108_1, hcz108_2⟩, hfz108_0, hfz108_1, hfz108_2⟩ := c3_ BK419.out
          go_wp2_with (first | ((with_reducible refine gate_callee (f := 21) rfl ?_); refine goesL_ (some 89) rfl rfl Tryz.func21 k1_ rfl #[.agg #[.int .i64 x420000_17, .string ((rd_T43 l0 0).f1), .string x420002_17]] rfl g1_ ?_; (with_reducible refine (g2_May.calls kj23 x420000_17 ((rd_T43 l0 0).f1) x420002_17 true _ A105.out).mono ?_); rintro e w109 ⟨rfl, hb⟩; refine ⟨_, rfl, ?_⟩; replace BK408 := Ad.mk (blk_below (g := gb408) (o := .cells #[.int .i64 0, .string ⟨#[]⟩, .string ⟨#[]⟩] 31 (0, 0)) (bd_ BK408.out) hb); replace BK419 := Ad.mk (blk_below (g := gb419) (o := .cells #[.int .i64 x420000_17, .string ((rd_T43 l0 0).f1), .string x420002_17] 31 (0, 0)) (bd_ BK419.out) hb); replace HB := Ad.mk (below_step (by have G0 := GE408; have G1 := GE419; exact z2_) hb); clear hb; obtain ⟨⟨hcz110_0, hcz110_1, hcz110_2⟩, hfz110_0, hfz110_1, hfz110_2⟩ := c3_ BK419.out; obtain ⟨⟨hcz111_0, hcz111_1, hcz111_2⟩, hfz111_0, hfz111_1, hfz111_2⟩ := c3_ BK408.out))
          refine bodyPost_ret (results_ct rfl _ _ gb408 31 #[.int .i64 x420000_17, .string ((rd_T43 l0 0).f1), .string x420002_17] (0, 0) _ rfl (by have G0 := BK408; exact z72_) Tryz.underlying31 rfl k1_) rfl ?_
          exact ⟨e2_, by have G0 := GE408; have G1 := GE419; exact z2_⟩
         replace c106 := Bool.eq_false_iff.mpr c106
         subst c106
         rw [if_neg (show ¬ (false = true) by decide)] at H
         simp only [Option.some.injEq, Prod.mk.injEq] at H
         obtain ⟨rfl, rfl, rfl, rfl⟩ := H
         have hnb112 := NB419_408.out
         have hnc112 := NB408_419.out
         obtain ⟨⟨hcz113_0, hcz113_1, hcz113_2⟩, hfz113_0, hfz113_1, hfz113_2⟩ := c3_ BK419.out
         go_wp2_with (first | ((with_reducible refine gate_callee (f := 21) rfl ?_); refine goesL_ (some 89) rfl rfl Tryz.func21 k1_ rfl #[.agg #[.int .i64 x420000_17, .string ((rd_T43 l0 0).f1), .string x420002_17]] rfl g1_ ?_; (with_reducible refine (g2_May.calls kj23 x420000_17 ((rd_T43 l0 0).f1) x420002_17 false _ A105.out).mono ?_); rintro e w114 ⟨rfl, hb⟩; refine ⟨_, rfl, ?_⟩; replace BK408 := Ad.mk (blk_below (g := gb408) (o := .cells #[.int .i64 0, .string ⟨#[]⟩, .string ⟨#[]⟩] 31 (0, 0)) (bd_ BK408.out) hb); replace BK419 := Ad.mk (blk_below (g := gb419) (o := .cells #[.int .i64 x420000_17, .string ((rd_T43 l0 0).f1), .string x420002_17] 31 (0, 0)) (bd_ BK419.out) hb); replace HB := Ad.mk (below_step (by have G0 := GE408; have G1 := GE419; exact z2_) hb); clear hb; obtain ⟨⟨hcz115_0, hcz115_1, hcz115_2⟩, hfz115_0, hfz115_1, hfz115_2⟩ := c3_ BK408.out))
         refine bodyPost_ret (results_ct rfl _ _ gb408 31 #[.int .i64 0, .string ⟨#[]⟩, .string ⟨#[]⟩] (0, 0) _ rfl (by have G0 := BK408; exact z36_) Tryz.underlying31 rfl k1_) rfl ?_
         exact ⟨e2_, by have G0 := GE408; have G1 := GE419; exact z2_⟩
  rw [if_neg c10] at H
  have c10b0 := beq_eq_false_iff_ne.mpr c10
  have c10b1 := bne_iff_ne.mpr c10
  obtain ⟨⟨t413, t414, t415, t416⟩, A116, H⟩ := bi_ H
  try dsimp only at H
  by_cases c117 : t416 = true
  ·subst c117
   rw [if_pos rfl] at H
   simp only [Option.some.injEq, Prod.mk.injEq] at H
   obtain ⟨rfl, rfl, rfl, rfl⟩ := H
   go_enter Tryz.func8, Tryz.ntmps8
   go_wp2_with (first | ((with_reducible refine gate_dst (N := 4) rfl ?_); refine box_event r1_ (N := 4) r1_ (cs := #[.int .i64 0, .string ⟨#[]⟩, .string ⟨#[]⟩]) (t := 31) r2_ ?_; intro gb408 hg w118 hbox hb; have BK408 := Ad.mk (hbox); have GW408 := Ad.mk (bs_ : w.heap.size ≤ gb408); have GE408 := Ad.mk (bs_ : w.heap.size ≤ gb408); replace HB := Ad.mk (below_step b1_ hb); clear hb hbox hg; have p409 : 0 ≤ (0 : Int) := (by omega); have q409 : 0 < (l0.length : Int) := of_decide_eq_true a1_; obtain ⟨ad409, e409, hx409_0, hx409_1, hx409_2, hx409_3, hx409_4, hx409_5⟩ := at_T43 HR0.out 0 p409 q409; cases e409; have qi409 : (0 < l0.length) = True := eq_true (by omega); (try simp only [show ((0 : Int)).toNat = 0 from rfl, show 0 * 6 = 0 from rfl, Addr.add_zero'] at hx409_0 hx409_1 hx409_2 hx409_3 hx409_4 hx409_5); replace hx409_0 := (HB.out.cell (World.block_lt_of_cell? w _ hx409_0)).trans hx409_0; replace hx409_1 := (HB.out.cell (World.block_lt_of_cell? w _ hx409_1)).trans hx409_1; replace hx409_2 := (HB.out.cell (World.block_lt_of_cell? w _ hx409_2)).trans hx409_2; replace hx409_3 := (HB.out.cell (World.block_lt_of_cell? w _ hx409_3)).trans hx409_3; replace hx409_4 := (HB.out.cell (World.block_lt_of_cell? w _ hx409_4)).trans hx409_4; replace hx409_5 := (HB.out.cell (World.block_lt_of_cell? w _ hx409_5)).trans hx409_5; replace p409 := eq_true p409; replace q409 := eq_true q409; have p411 : 0 ≤ (0 : Int) := (by omega); have q411 : 0 < (l0.length : Int) := of_decide_eq_true a1_; obtain ⟨ad411, e411, hx411_0, hx411_1, hx411_2, hx411_3, hx411_4, hx411_5⟩ := at_T43 HR0.out 0 p411 q411; obtain rfl : ad409 = ad411 := (by injection e411); have qi411 : (0 < l0.length) = True := eq_true (by omega); (try simp only [show ((0 : Int)).toNat = 0 from rfl, show 0 * 6 = 0 from rfl, Addr.add_zero'] at hx411_0 hx411_1 hx411_2 hx411_3 hx411_4 hx411_5); replace hx411_0 := (HB.out.cell (World.block_lt_of_cell? w _ hx411_0)).trans hx411_0; replace hx411_1 := (HB.out.cell (World.block_lt_of_cell? w _ hx411_1)).trans hx411_1; replace hx411_2 := (HB.out.cell (World.block_lt_of_cell? w _ hx411_2)).trans hx411_2; replace hx411_3 := (HB.out.cell (World.block_lt_of_cell? w _ hx411_3)).trans hx411_3; replace hx411_4 := (HB.out.cell (World.block_lt_of_cell? w _ hx411_4)).trans hx411_4; replace hx411_5 := (HB.out.cell (World.block_lt_of_cell? w _ hx411_5)).trans hx411_5; replace p411 := eq_true p411; replace q411 := eq_true q411; have p412 : 0 ≤ (0 : Int) := (by omega); have q412 : 0 < (l0.length : Int) := of_decide_eq_true a1_; obtain ⟨ad412, e412, hx412_0, hx412_1, hx412_2, hx412_3, hx412_4, hx412_5⟩ := at_T43 HR0.out 0 p412 q412; obtain rfl : ad409 = ad412 := (by injection e412); have qi412 : (0 < l0.length) = True := eq_true (by omega); (try simp only [show ((0 : Int)).toNat = 0 from rfl, show 0 * 6 = 0 from rfl, Addr.add_zero'] at hx412_0 hx412_1 hx412_2 hx412_3 hx412_4 hx412_5); replace hx412_0 := (HB.out.cell (World.block_lt_of_cell? w _ hx412_0)).trans hx412_0; replace hx412_1 := (HB.out.cell (World.block_lt_of_cell? w _ hx412_1)).trans hx412_1; replace hx412_2 := (HB.out.cell (World.block_lt_of_cell? w _ hx412_2)).trans hx412_2; replace hx412_3 := (HB.out.cell (World.block_lt_of_cell? w _ hx412_3)).trans hx412_3; replace hx412_4 := (HB.out.cell (World.block_lt_of_cell? w _ hx412_4)).trans hx412_4; replace hx412_5 := (HB.out.cell (World.block_lt_of_cell? w _ hx412_5)).trans hx412_5; replace p412 := eq_true p412; replace q412 := eq_true q412) | ((with_reducible refine gate_callee (f := 20) rfl ?_); refine goesL_ (some 35) rfl rfl Tryz.func20 k1_ rfl #[.agg #[.int .i64 ((rd_T43 l0 0).f0), .string ((rd_T43 l0 0).f1), .int .i64 ((rd_T43 l0 0).f2.f0), .string ((rd_T43 l0 0).f2.f1), .string ((rd_T43 l0 0).f2.f2), .int .i64 ((rd_T43 l0 0).f3)], .slice A1 l1.length c1] rfl g1_ ?_; (with_reducible refine (g4_resource.calls k ((rd_T43 l0 0).f0) ((rd_T43 l0 0).f1) ((rd_T43 l0 0).f2.f0) ((rd_T43 l0 0).f2.f1) ((rd_T43 l0 0).f2.f2) ((rd_T43 l0 0).f3) _ _ l1 t413 t414 t415 true _ ?side1 ?side2 A116.out).mono ?_); (case side1 => exact (by have G0 := HR1; exact z29_)); (case side2 => exact HC1.out); rintro e w119 ⟨rfl, hb⟩; refine ⟨_, rfl, ?_⟩; replace BK408 := Ad.mk (blk_below (g := gb408) (o := .cells #[.int .i64 0, .string ⟨#[]⟩, .string ⟨#[]⟩] 31 (0, 0)) (bd_ BK408.out) hb); replace HB := Ad.mk (below_step z49_ hb); clear hb) | ((with_reducible refine gate_dst (N := 6) rfl ?_); refine box_event r1_ (N := 6) r1_ (cs := #[.int .i64 0, .string ⟨#[]⟩, .string ⟨#[]⟩]) (t := 31) r2_ ?_; intro gb417 hg w120 hbox hb; have BK417 := Ad.mk (hbox); have GW417 := Ad.mk ((z37_ : w.heap.size ≤ gb417)); have GE417 := Ad.mk ((z37_ : w.heap.size ≤ gb417)); have NB408_417 := Ad.mk ((by have G0 := BK408; exact z25_ : gb408 ≠ gb417)); have NB417_408 := Ad.mk ((by have G0 := BK408; exact z26_ : gb417 ≠ gb408)); replace BK408 := Ad.mk (blk_below (g := gb408) (o := .cells #[.int .i64 0, .string ⟨#[]⟩, .string ⟨#[]⟩] 31 (0, 0)) (bd_ BK408.out) hb); replace HB := Ad.mk (below_step z49_ hb); clear hb hbox hg; have hnb121 := NB417_408.out; have hnc121 := NB408_417.out; obtain ⟨⟨hcz122_0, hcz122_1, hcz122_2⟩, hfz122_0, hfz122_1, hfz122_2⟩ := c3_ BK417.out; obtain ⟨⟨hcz123_0, hcz123_1, hcz123_2⟩, hfz123_0, hfz123_1, hfz123_2⟩ := c3_ BK408.out))
   refine bodyPost_ret (results_ct rfl _ _ gb408 31 #[.int .i64 t413, .string t414, .string t415] (0, 0) _ rfl (by refine bd_ ?_; refine blk_put (cs := #[.int .i64 t413, .string t414, .string ⟨#[]⟩]) ?_ 2 _ rfl; refine bd_ ?_; refine blk_put (cs := #[.int .i64 t413, .string ⟨#[]⟩, .string ⟨#[]⟩]) ?_ 1 _ rfl; refine bd_ ?_; refine blk_put (cs := #[.int .i64 0, .string ⟨#[]⟩, .string ⟨#[]⟩]) ?_ 0 _ rfl; refine bd_ ?_; refine blk_far ?_ NB408_417.out _; refine bd_ ?_; refine blk_far ?_ NB408_417.out _; refine bd_ ?_; refine blk_far ?_ NB408_417.out _; refine bd_ ?_; exact BK408.out) Tryz.underlying31 rfl k1_) rfl ?_
   exact ⟨e2_, by have G0 := GE408; have G1 := GE417; exact z2_⟩
  replace c117 := Bool.eq_false_iff.mpr c117
  subst c117
  rw [if_neg (show ¬ (false = true) by decide)] at H
  simp only [Option.some.injEq, Prod.mk.injEq] at H
  obtain ⟨rfl, rfl, rfl, rfl⟩ := H
  go_enter Tryz.func8, Tryz.ntmps8
  go_wp2_with (first | ((with_reducible refine gate_dst (N := 4) rfl ?_); refine box_event r1_ (N := 4) r1_ (cs := #[.int .i64 0, .string ⟨#[]⟩, .string ⟨#[]⟩]) (t := 31) r2_ ?_; intro gb408 hg w124 hbox hb; have BK408 := Ad.mk (hbox); have GW408 := Ad.mk (bs_ : w.heap.size ≤ gb408); have GE408 := Ad.mk (bs_ : w.heap.size ≤ gb408); replace HB := Ad.mk (below_step b1_ hb); clear hb hbox hg; have p409 : 0 ≤ (0 : Int) := (by omega); have q409 : 0 < (l0.length : Int) := of_decide_eq_true a1_; obtain ⟨ad409, e409, hx409_0, hx409_1, hx409_2, hx409_3, hx409_4, hx409_5⟩ := at_T43 HR0.out 0 p409 q409; cases e409; have qi409 : (0 < l0.length) = True := eq_true (by omega); (try simp only [show ((0 : Int)).toNat = 0 from rfl, show 0 * 6 = 0 from rfl, Addr.add_zero'] at hx409_0 hx409_1 hx409_2 hx409_3 hx409_4 hx409_5); replace hx409_0 := (HB.out.cell (World.block_lt_of_cell? w _ hx409_0)).trans hx409_0; replace hx409_1 := (HB.out.cell (World.block_lt_of_cell? w _ hx409_1)).trans hx409_1; replace hx409_2 := (HB.out.cell (World.block_lt_of_cell? w _ hx409_2)).trans hx409_2; replace hx409_3 := (HB.out.cell (World.block_lt_of_cell? w _ hx409_3)).trans hx409_3; replace hx409_4 := (HB.out.cell (World.block_lt_of_cell? w _ hx409_4)).trans hx409_4; replace hx409_5 := (HB.out.cell (World.block_lt_of_cell? w _ hx409_5)).trans hx409_5; replace p409 := eq_true p409; replace q409 := eq_true q409; have p411 : 0 ≤ (0 : Int) := (by omega); have q411 : 0 < (l0.length : Int) := of_decide_eq_true a1_; obtain ⟨ad411, e411, hx411_0, hx411_1, hx411_2, hx411_3, hx411_4, hx411_5⟩ := at_T43 HR0.out 0 p411 q411; obtain rfl : ad409 = ad411 := (by injection e411); have qi411 : (0 < l0.length) = True := eq_true (by omega); (try simp only [show ((0 : Int)).toNat = 0 from rfl, show 0 * 6 = 0 from rfl, Addr.add_zero'] at hx411_0 hx411_1 hx411_2 hx411_3 hx411_4 hx411_5); replace hx411_0 := (HB.out.cell (World.block_lt_of_cell? w _ hx411_0)).trans hx411_0; replace hx411_1 := (HB.out.cell (World.block_lt_of_cell? w _ hx411_1)).trans hx411_1; replace hx411_2 := (HB.out.cell (World.block_lt_of_cell? w _ hx411_2)).trans hx411_2; replace hx411_3 := (HB.out.cell (World.block_lt_of_cell? w _ hx411_3)).trans hx411_3; replace hx411_4 := (HB.out.cell (World.block_lt_of_cell? w _ hx411_4)).trans hx411_4; replace hx411_5 := (HB.out.cell (World.block_lt_of_cell? w _ hx411_5)).trans hx411_5; replace p411 := eq_true p411; replace q411 := eq_true q411; have p412 : 0 ≤ (0 : Int) := (by omega); have q412 : 0 < (l0.length : Int) := of_decide_eq_true a1_; obtain ⟨ad412, e412, hx412_0, hx412_1, hx412_2, hx412_3, hx412_4, hx412_5⟩ := at_T43 HR0.out 0 p412 q412; obtain rfl : ad409 = ad412 := (by injection e412); have qi412 : (0 < l0.length) = True := eq_true (by omega); (try simp only [show ((0 : Int)).toNat = 0 from rfl, show 0 * 6 = 0 from rfl, Addr.add_zero'] at hx412_0 hx412_1 hx412_2 hx412_3 hx412_4 hx412_5); replace hx412_0 := (HB.out.cell (World.block_lt_of_cell? w _ hx412_0)).trans hx412_0; replace hx412_1 := (HB.out.cell (World.block_lt_of_cell? w _ hx412_1)).trans hx412_1; replace hx412_2 := (HB.out.cell (World.block_lt_of_cell? w _ hx412_2)).trans hx412_2; replace hx412_3 := (HB.out.cell (World.block_lt_of_cell? w _ hx412_3)).trans hx412_3; replace hx412_4 := (HB.out.cell (World.block_lt_of_cell? w _ hx412_4)).trans hx412_4; replace hx412_5 := (HB.out.cell (World.block_lt_of_cell? w _ hx412_5)).trans hx412_5; replace p412 := eq_true p412; replace q412 := eq_true q412) | ((with_reducible refine gate_callee (f := 20) rfl ?_); refine goesL_ (some 35) rfl rfl Tryz.func20 k1_ rfl #[.agg #[.int .i64 ((rd_T43 l0 0).f0), .string ((rd_T43 l0 0).f1), .int .i64 ((rd_T43 l0 0).f2.f0), .string ((rd_T43 l0 0).f2.f1), .string ((rd_T43 l0 0).f2.f2), .int .i64 ((rd_T43 l0 0).f3)], .slice A1 l1.length c1] rfl g1_ ?_; (with_reducible refine (g4_resource.calls k ((rd_T43 l0 0).f0) ((rd_T43 l0 0).f1) ((rd_T43 l0 0).f2.f0) ((rd_T43 l0 0).f2.f1) ((rd_T43 l0 0).f2.f2) ((rd_T43 l0 0).f3) _ _ l1 t413 t414 t415 false _ ?side1 ?side2 A116.out).mono ?_); (case side1 => exact (by have G0 := HR1; exact z29_)); (case side2 => exact HC1.out); rintro e w125 ⟨rfl, hb⟩; refine ⟨_, rfl, ?_⟩; replace BK408 := Ad.mk (blk_below (g := gb408) (o := .cells #[.int .i64 0, .string ⟨#[]⟩, .string ⟨#[]⟩] 31 (0, 0)) (bd_ BK408.out) hb); replace HB := Ad.mk (below_step z49_ hb); clear hb) | ((with_reducible refine gate_dst (N := 6) rfl ?_); refine box_event r1_ (N := 6) r1_ (cs := #[.int .i64 0, .string ⟨#[]⟩, .string ⟨#[]⟩]) (t := 31) r2_ ?_; intro gb417 hg w126 hbox hb; have BK417 := Ad.mk (hbox); have GW417 := Ad.mk ((z37_ : w.heap.size ≤ gb417)); have GE417 := Ad.mk ((z37_ : w.heap.size ≤ gb417)); have NB408_417 := Ad.mk ((by have G0 := BK408; exact z25_ : gb408 ≠ gb417)); have NB417_408 := Ad.mk ((by have G0 := BK408; exact z26_ : gb417 ≠ gb408)); replace BK408 := Ad.mk (blk_below (g := gb408) (o := .cells #[.int .i64 0, .string ⟨#[]⟩, .string ⟨#[]⟩] 31 (0, 0)) (bd_ BK408.out) hb); replace HB := Ad.mk (below_step z49_ hb); clear hb hbox hg; have hnb127 := NB417_408.out; have hnc127 := NB408_417.out; obtain ⟨⟨hcz128_0, hcz128_1, hcz128_2⟩, hfz128_0, hfz128_1, hfz128_2⟩ := c3_ BK417.out; obtain ⟨⟨hcz129_0, hcz129_1, hcz129_2⟩, hfz129_0, hfz129_1, hfz129_2⟩ := c3_ BK408.out))
  refine bodyPost_ret (results_ct rfl _ _ gb408 31 #[.int .i64 0, .string ⟨#[]⟩, .string ⟨#[]⟩] (0, 0) _ rfl (by refine bd_ ?_; refine blk_put (cs := #[.int .i64 0, .string ⟨#[]⟩, .string ⟨#[]⟩]) ?_ 2 _ rfl; refine bd_ ?_; refine blk_put (cs := #[.int .i64 0, .string ⟨#[]⟩, .string ⟨#[]⟩]) ?_ 1 _ rfl; refine bd_ ?_; refine blk_put (cs := #[.int .i64 0, .string ⟨#[]⟩, .string ⟨#[]⟩]) ?_ 0 _ rfl; refine bd_ ?_; refine blk_far ?_ NB408_417.out _; refine bd_ ?_; refine blk_far ?_ NB408_417.out _; refine bd_ ?_; refine blk_far ?_ NB408_417.out _; refine bd_ ?_; exact BK408.out) Tryz.underlying31 rfl k1_) rfl ?_
  exact ⟨e2_, by have G0 := GE408; have G1 := GE417; exact z2_⟩
 rw [if_neg c6] at H
 exact absurd H (by simp)
end Go.Proofs.YtpbphelaeleikaaGreatDoor.PLt

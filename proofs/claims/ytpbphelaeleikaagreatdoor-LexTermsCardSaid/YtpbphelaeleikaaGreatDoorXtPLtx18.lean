import Derived.Test.YtpbphelaeleikaaGreatDoorXtPLtx0
import Derived.Test.YtpbphelaeleikaaGreatDoorXtPLtx10
namespace Go.Proofs.YtpbphelaeleikaaGreatDoor.PLt
open Go.RowKit Go.Proofs.YtpbphelaeleikaaGreatDoorW.PrintWords Go.Proofs.YtpbphelaeleikaaGreatDoorW.PrintLast Go.Proofs.YtpbphelaeleikaaGreatDoorW.PrintMore
attribute [local go_sem] max2_int min2_int max_two min_two max_three min_three max_four min_four
set_option linter.unusedVariables false
set_option linter.unusedSimpArgs false
set_option maxHeartbeats 8000000
set_option maxRecDepth 100000
mutual
def g4_resource.l0 : Nat → List (S24) → Int → Int → ByteArray → Int → ByteArray → ByteArray → Int → Option (Int × ByteArray × ByteArray × Bool)
 | 0, _, _, _, _, _, _, _, _ => none
 | k + 1, x1, x6, x403000, x403001, x403002, x403003, x403004, x403005 => if 0 ≤ x6 then (if x6 < (x403001.size : Int) then (if (bt x403001 x6) = 58 then (g4_resource.l1 k x1 x6 (wrap64 ((x1.length : Int) - 1)) x403000 x403001 x403002 x403003 x403004 x403005) else (g4_resource.l0 k x1 (wrap64 (x6 + 1)) x403000 x403001 x403002 x403003 x403004 x403005)) else (none)) else (none)
def g4_resource.l1 : Nat → List (S24) → Int → Int → Int → ByteArray → Int → ByteArray → ByteArray → Int → Option (Int × ByteArray × ByteArray × Bool)
 | 0, _, _, _, _, _, _, _, _, _ => none
 | k + 1, x1, x6, x7, x403000, x403001, x403002, x403003, x403004, x403005 => if x7 ≥ 0 then (if 0 ≤ x7 then (if x7 < (x1.length : Int) then (if 0 ≤ x6 then (if x6 ≤ (x403001.size : Int) then (if ((rd_T24 x1 x7).f0).toList = (x403001.extract 0 (x6 : Int).toNat).toList then (if 0 ≤ (wrap64 (x6 + 1)) then (if (wrap64 (x6 + 1)) ≤ (x403001.size : Int) then (if ((rd_T24 x1 x7).f1).size + (x403001.extract ((wrap64 (x6 + 1)) : Int).toNat x403001.size).size ≤ 9223372036854775807 then ((g2_May.f k 1 (((rd_T24 x1 x7).f1) ++ (x403001.extract ((wrap64 (x6 + 1)) : Int).toNat x403001.size)) (⟨#[]⟩ : ByteArray)).bind fun t407 => (some (1, ((rd_T24 x1 x7).f1) ++ (x403001.extract ((wrap64 (x6 + 1)) : Int).toNat x403001.size), (⟨#[]⟩ : ByteArray), t407))) else (none)) else (none)) else (none)) else (g4_resource.l1 k x1 x6 (wrap64 (x7 - 1)) x403000 x403001 x403002 x403003 x403004 x403005)) else (none)) else (none)) else (none)) else (none)) else (some (0, (⟨#[]⟩ : ByteArray), (⟨#[]⟩ : ByteArray), false))
end
def g4_resource.f (k : Nat) (a0_0 : Int) (a0_1 : ByteArray) (a0_2 : Int) (a0_3 : ByteArray) (a0_4 : ByteArray) (a0_5 : Int) (l1 : List (S24)) : Option (Int × ByteArray × ByteArray × Bool) := if a0_0 = 1 then (some (a0_2, a0_3, a0_4, true)) else (if a0_0 = 7 then (g4_resource.l0 k l1 0 a0_0 a0_1 a0_2 a0_3 a0_4 a0_5) else (some (0, (⟨#[]⟩ : ByteArray), (⟨#[]⟩ : ByteArray), false)))
def g4_resource.T11 : Bool × List (List Nat × List Nat) := (true, [([], []), ([], []), ([0, 1], [0, 1]), ([2], [2]), ([3], [3]), ([], []), ([5], [5]), ([], []), ([6, 7], [6, 7]), ([4, 8], [4, 8])])
def g4_resource.B11 : List Nat := [0, 0, 3, 7, 15, 0, 32, 0, 224, 511]
theorem g4_resource.tab11 : rtab .any (opsOf Tryz.f20 11) = g4_resource.T11 := by kernel_rfl
theorem g4_resource.bits11 : waitsOk g4_resource.T11.2 g4_resource.B11 = true := by kernel_rfl
def g4_resource.T12 : Bool × List (List Nat × List Nat) := (true, [([], []), ([], []), ([0, 1], [0, 1]), ([2], [2]), ([3], [3]), ([], []), ([5], [5]), ([], []), ([7], [7]), ([6, 8], [6, 8]), ([4, 9], [4, 9]), ([10], [10]), ([], []), ([12, 11, 0, 1, 2, 3, 4, 5, 6, 7, 8, 9, 10, 11, 12], [11, 12])])
def g4_resource.B12 : List Nat := [0, 0, 3, 7, 15, 0, 32, 0, 128, 480, 1023, 2047, 0, 8191]
theorem g4_resource.tab12 : rtab .any (opsOf Tryz.f20 12) = g4_resource.T12 := by kernel_rfl
theorem g4_resource.bits12 : waitsOk g4_resource.T12.2 g4_resource.B12 = true := by kernel_rfl
theorem g4_resource.calls (k : Nat) (a0_0 : Int) (a0_1 : ByteArray) (a0_2 : Int) (a0_3 : ByteArray) (a0_4 : ByteArray) (a0_5 : Int) (A1 : Option Addr) (c1 : Nat) (l1 : List (S24)) (r1 : Int) (r2 : ByteArray) (r3 : ByteArray) (r4 : Bool) (w : World) (hr1 : Kd.C k24 w A1 l1.length l1) (hc1 : l1.length ≤ c1) (h : g4_resource.f k a0_0 a0_1 a0_2 a0_3 a0_4 a0_5 l1 = some (r1, r2, r3, r4)) :
  Calls Tryz.prog 20 #[.agg #[.int .i64 a0_0, .string a0_1, .int .i64 a0_2, .string a0_3, .string a0_4, .int .i64 a0_5], .slice A1 l1.length c1] w fun e w' => e = .returned (.tuple #[.agg #[.int .i64 r1, .string r2, .string r3], .bool r4]) ∧ Below w.heap.size w w' := by
 have hu43 := Tryz.underlying43
 have hu31 := Tryz.underlying31
 have HR1 := Ad.mk hr1
 have HC1 := Ad.mk hc1
 clear hr1 hc1
 have HB := Ad.mk (Below.refl w.heap.size w)
 have H := h
 clear h
 unfold g4_resource.f at H
 by_cases c3 : a0_0 = 1
 ·rw [if_pos c3] at H
  have c3b0 := beq_iff_eq.mpr c3
  have c3b1 := bne_eq_false_iff_eq.mpr c3
  clear c3
  simp only [Option.some.injEq, Prod.mk.injEq] at H
  obtain ⟨rfl, rfl, rfl, rfl⟩ := H
  go_enter Tryz.func20, Tryz.ntmps20
  go_wp2_with (first | ((with_reducible refine gate_dst (N := 2) rfl ?_); refine box_event r1_ (N := 2) r1_ (cs := #[.int .i64 a0_0, .string a0_1, .int .i64 a0_2, .string a0_3, .string a0_4, .int .i64 a0_5]) (t := 43) r2_ ?_; intro gb402 hg w4 hbox hb; have BK402 := Ad.mk (hbox); have GW402 := Ad.mk (bs_ : w.heap.size ≤ gb402); have GE402 := Ad.mk (bs_ : w.heap.size ≤ gb402); replace HB := Ad.mk (below_step b1_ hb); clear hb hbox hg) | ((with_reducible refine gate_dst (N := 4) rfl ?_); refine box_event r1_ (N := 4) r1_ (cs := #[.int .i64 0, .string ⟨#[]⟩, .string ⟨#[]⟩]) (t := 31) r2_ ?_; intro gb403 hg w5 hbox hb; have BK403 := Ad.mk (hbox); have GW403 := Ad.mk ((z35_ : w.heap.size ≤ gb403)); have GE403 := Ad.mk ((z35_ : w.heap.size ≤ gb403)); have NB402_403 := Ad.mk ((by have G0 := BK402; exact z52_ : gb402 ≠ gb403)); have NB403_402 := Ad.mk ((by have G0 := BK402; exact z53_ : gb403 ≠ gb402)); replace BK402 := Ad.mk (blk_below (g := gb402) (o := .cells #[.int .i64 a0_0, .string a0_1, .int .i64 a0_2, .string a0_3, .string a0_4, .int .i64 a0_5] 43 (0, 0)) (bd_ BK402.out) hb); replace HB := Ad.mk (below_step (by have GE := GE402; exact b2_) hb); clear hb hbox hg; have hnb6 := NB402_403.out; have hnc6 := NB403_402.out; obtain ⟨⟨hcz7_0, hcz7_1, hcz7_2, hcz7_3, hcz7_4, hcz7_5⟩, hfz7_0, hfz7_1, hfz7_2, hfz7_3, hfz7_4, hfz7_5⟩ := c6_ BK402.out; obtain ⟨⟨hcz8_0, hcz8_1, hcz8_2⟩, hfz8_0, hfz8_1, hfz8_2⟩ := c3_ BK403.out))
  refine bodyPost_ret (results_ct rfl _ _ gb403 31 #[.int .i64 a0_2, .string a0_3, .string a0_4] (0, 0) _ rfl (by refine bd_ ?_; refine blk_put (cs := #[.int .i64 a0_2, .string a0_3, .string ⟨#[]⟩]) ?_ 2 _ rfl; refine bd_ ?_; refine blk_put (cs := #[.int .i64 a0_2, .string ⟨#[]⟩, .string ⟨#[]⟩]) ?_ 1 _ rfl; refine bd_ ?_; refine blk_put (cs := #[.int .i64 0, .string ⟨#[]⟩, .string ⟨#[]⟩]) ?_ 0 _ rfl; refine bd_ ?_; exact BK403.out) Tryz.underlying31 rfl k1_) rfl ?_
  exact ⟨e2_, by have G0 := GE402; have G1 := GE403; exact z2_⟩
 rw [if_neg c3] at H
 have c3b0 := beq_eq_false_iff_ne.mpr c3
 have c3b1 := bne_iff_ne.mpr c3
 by_cases c9 : a0_0 = 7
 ·rw [if_pos c9] at H
  have c9b0 := beq_iff_eq.mpr c9
  have c9b1 := bne_eq_false_iff_eq.mpr c9
  clear c9
  have H' := Ad.mk H
  clear H
  go_enter Tryz.func20, Tryz.ntmps20
  go_wp2_with (first | ((with_reducible refine gate_dst (N := 2) rfl ?_); refine box_event r1_ (N := 2) r1_ (cs := #[.int .i64 a0_0, .string a0_1, .int .i64 a0_2, .string a0_3, .string a0_4, .int .i64 a0_5]) (t := 43) r2_ ?_; intro gb402 hg w10 hbox hb; have BK402 := Ad.mk (hbox); have GW402 := Ad.mk (bs_ : w.heap.size ≤ gb402); have GE402 := Ad.mk (bs_ : w.heap.size ≤ gb402); replace HB := Ad.mk (below_step b1_ hb); clear hb hbox hg) | ((with_reducible refine gate_dst (N := 4) rfl ?_); refine box_event r1_ (N := 4) r1_ (cs := #[.int .i64 0, .string ⟨#[]⟩, .string ⟨#[]⟩]) (t := 31) r2_ ?_; intro gb403 hg w11 hbox hb; have BK403 := Ad.mk (hbox); have GW403 := Ad.mk ((z35_ : w.heap.size ≤ gb403)); have GE403 := Ad.mk ((z35_ : w.heap.size ≤ gb403)); have NB402_403 := Ad.mk ((by have G0 := BK402; exact z52_ : gb402 ≠ gb403)); have NB403_402 := Ad.mk ((by have G0 := BK402; exact z53_ : gb403 ≠ gb402)); replace BK402 := Ad.mk (blk_below (g := gb402) (o := .cells #[.int .i64 a0_0, .string a0_1, .int .i64 a0_2, .string a0_3, .string a0_4, .int .i64 a0_5] 43 (0, 0)) (bd_ BK402.out) hb); replace HB := Ad.mk (below_step (by have GE := GE402; exact b2_) hb); clear hb hbox hg; have hnb12 := NB402_403.out; have hnc12 := NB403_402.out; obtain ⟨⟨hcz13_0, hcz13_1, hcz13_2, hcz13_3, hcz13_4, hcz13_5⟩, hfz13_0, hfz13_1, hfz13_2, hfz13_3, hfz13_4, hfz13_5⟩ := c6_ BK402.out))
  go_loopg [6] k (fun kq v6 w' => ∃ (x6_1 : Int), v6 = .int .i64 x6_1 ∧ Ad (g4_resource.l0 kq l1 x6_1 a0_0 a0_1 a0_2 a0_3 a0_4 a0_5 = some (r1, r2, r3, r4)) ∧ Ad (kq ≤ k) ∧ Ad (w'.heap[gb402]? = some (.cells #[.int .i64 a0_0, .string a0_1, .int .i64 a0_2, .string a0_3, .string a0_4, .int .i64 a0_5] 43 (0, 0))) ∧ Ad (w'.heap[gb403]? = some (.cells #[.int .i64 0, .string ⟨#[]⟩, .string ⟨#[]⟩] 31 (0, 0))) ∧ Ad (Below w.heap.size w w'))
  case atStart => exact ⟨(0), e1_, H', ⟨Nat.le_refl _⟩, ⟨by refine bd_ ?_; exact BK402.out⟩, ⟨by refine bd_ ?_; exact BK403.out⟩, ⟨by have G0 := GE402; have G1 := GE403; exact z2_⟩⟩
  case round =>
   clear H'
   try clear c1
   try clear c2
   try clear p2
   try clear c3
   try clear c3b0
   try clear c3b1
   try clear c6
   try clear c9
   try clear c9b0
   try clear c9b1
   try clear c12
   try clear hcz13_0
   try clear hcz13_1
   try clear hcz13_2
   try clear hcz13_3
   try clear hcz13_4
   try clear hcz13_5
   try clear hcz7_0
   try clear hcz7_1
   try clear hcz7_2
   try clear hcz7_3
   try clear hcz7_4
   try clear hcz7_5
   try clear hcz8_0
   try clear hcz8_1
   try clear hcz8_2
   try clear hfz13_0
   try clear hfz13_1
   try clear hfz13_2
   try clear hfz13_3
   try clear hfz13_4
   try clear hfz13_5
   try clear hfz7_0
   try clear hfz7_1
   try clear hfz7_2
   try clear hfz7_3
   try clear hfz7_4
   try clear hfz7_5
   try clear hfz8_0
   try clear hfz8_1
   try clear hfz8_2
   obtain ⟨x6_1, rfl, HA, HK1, BK402, BK403, HB⟩ := hrel
   cases gk with
   | zero => exact absurd HA.out (by simp [g4_resource.l0])
   | succ k1 =>
    have H := HA.out
    clear HA
    simp only [g4_resource.l0] at H
    by_cases c14 : 0 ≤ x6_1
    ·rw [if_pos c14] at H
     have c14b0 := decide_eq_true c14
     clear c14
     by_cases c15 : x6_1 < (a0_1.size : Int)
     ·rw [if_pos c15] at H
      have c15b0 := decide_eq_true c15
      clear c15
      by_cases c17 : (bt a0_1 x6_1) = 58
      ·rw [if_pos c17] at H
       have c17b0 := beq_iff_eq.mpr c17
       have c17b1 := bne_eq_false_iff_eq.mpr c17
       clear c17
       have H' := Ad.mk H
       clear H
       have hnb18 := NB402_403.out
       have hnc18 := NB403_402.out
       obtain ⟨⟨hcz19_0, hcz19_1, hcz19_2, hcz19_3, hcz19_4, hcz19_5⟩, hfz19_0, hfz19_1, hfz19_2, hfz19_3, hfz19_4, hfz19_5⟩ := c6_ BK402.out
       have p16 : 0 ≤ (x6_1 : Int) := of_decide_eq_true a1_
       have q16 : x6_1 < (a0_1.size : Int) := of_decide_eq_true a1_
       have hx16 := bt_at a0_1 x6_1
       replace p16 := eq_true p16
       replace q16 := eq_true q16
       go_wp2
       go_loopg [7] k1 (fun kq v7 w' => ∃ (x7_2 : Int) (x404000_2 : Int) (x404001_2 : ByteArray) (x404002_2 : ByteArray), v7 = .int .i64 x7_2 ∧ Ad (g4_resource.l1 kq l1 x6_1 x7_2 a0_0 a0_1 a0_2 a0_3 a0_4 a0_5 = some (r1, r2, r3, r4)) ∧ Ad (kq ≤ k1) ∧ Ad (w'.heap[gb402]? = some (.cells #[.int .i64 a0_0, .string a0_1, .int .i64 a0_2, .string a0_3, .string a0_4, .int .i64 a0_5] 43 (0, 0))) ∧ Ad (w'.heap[gb403]? = some (.cells #[.int .i64 x404000_2, .string x404001_2, .string x404002_2] 31 (0, 0))) ∧ Ad (Below w.heap.size w w'))
       case atStart => exact ⟨(wrap64 ((l1.length : Int) - 1)), (0), ((⟨#[]⟩ : ByteArray)), ((⟨#[]⟩ : ByteArray)), e1_, H', ⟨Nat.le_refl _⟩, ⟨by refine bd_ ?_; exact BK402.out⟩, ⟨by refine bd_ ?_; exact BK403.out⟩, ⟨by have G0 := GE402; have G1 := GE403; exact z2_⟩⟩
       case round =>
        clear H'
        try clear c1
        try clear p1
        try clear q1
        try clear hx1
        try clear c2
        try clear p2
        try clear c3
        try clear c3b0
        try clear c3b1
        try clear c6
        try clear p6
        try clear c9
        try clear c9b0
        try clear c9b1
        try clear c12
        try clear c14
        try clear c14b0
        try clear c15
        try clear c15b0
        try clear p16
        try clear q16
        try clear hx16
        try clear c17
        try clear c17b0
        try clear c17b1
        try clear c18
        try clear hcz13_0
        try clear hcz13_1
        try clear hcz13_2
        try clear hcz13_3
        try clear hcz13_4
        try clear hcz13_5
        try clear hcz19_0
        try clear hcz19_1
        try clear hcz19_2
        try clear hcz19_3
        try clear hcz19_4
        try clear hcz19_5
        try clear hcz7_0
        try clear hcz7_1
        try clear hcz7_2
        try clear hcz7_3
        try clear hcz7_4
        try clear hcz7_5
        try clear hcz8_0
        try clear hcz8_1
        try clear hcz8_2
        try clear hfz13_0
        try clear hfz13_1
        try clear hfz13_2
        try clear hfz13_3
        try clear hfz13_4
        try clear hfz13_5
        try clear hfz19_0
        try clear hfz19_1
        try clear hfz19_2
        try clear hfz19_3
        try clear hfz19_4
        try clear hfz19_5
        try clear hfz7_0
        try clear hfz7_1
        try clear hfz7_2
        try clear hfz7_3
        try clear hfz7_4
        try clear hfz7_5
        try clear hfz8_0
        try clear hfz8_1
        try clear hfz8_2
        try clear p16
        try clear p2
        try clear q16
        obtain ⟨x7_2, x404000_2, x404001_2, x404002_2, rfl, HA, HK2, BK402, BK403, HB⟩ := hrel
        cases gk with
        | zero => exact absurd HA.out (by simp [g4_resource.l1])
        | succ k2 =>
         have H := HA.out
         clear HA
         simp only [g4_resource.l1] at H
         by_cases c20 : x7_2 ≥ 0
         ·rw [if_pos c20] at H
          have c20b0 : decide (0 ≤ x7_2) = true := decide_eq_true c20
          clear c20
          by_cases c21 : 0 ≤ x7_2
          ·rw [if_pos c21] at H
           have c21b0 := decide_eq_true c21
           clear c21
           by_cases c22 : x7_2 < (l1.length : Int)
           ·rw [if_pos c22] at H
            have c22b0 := decide_eq_true c22
            clear c22
            by_cases c23 : 0 ≤ x6_1
            ·rw [if_pos c23] at H
             have c23b0 := eq_true c23
             have c23b1 := decide_eq_true c23
             clear c23
             by_cases c24 : x6_1 ≤ (a0_1.size : Int)
             ·rw [if_pos c24] at H
              have c24b0 := eq_true c24
              have c24b1 := decide_eq_true c24
              clear c24
              by_cases c25 : ((rd_T24 l1 x7_2).f0).toList = (a0_1.extract 0 (x6_1 : Int).toNat).toList
              ·rw [if_pos c25] at H
               have c25b0 := beq_iff_eq.mpr c25
               have c25b1 := bne_eq_false_iff_eq.mpr c25
               clear c25
               obtain ⟨ji26, hji26⟩ : ∃ j_ : Int, (wrap64 (x6_1 + 1)) = j_ := ⟨_, rfl⟩
               replace H : (if 0 ≤ (ji26) then (if (ji26) ≤ (a0_1.size : Int) then (if ((rd_T24 l1 x7_2).f1).size + (a0_1.extract ((ji26) : Int).toNat a0_1.size).size ≤ 9223372036854775807 then ((g2_May.f k2 1 (((rd_T24 l1 x7_2).f1) ++ (a0_1.extract ((ji26) : Int).toNat a0_1.size)) (⟨#[]⟩ : ByteArray)).bind fun t407 => (some (1, ((rd_T24 l1 x7_2).f1) ++ (a0_1.extract ((ji26) : Int).toNat a0_1.size), (⟨#[]⟩ : ByteArray), t407))) else (none)) else (none)) else (none)) = some (r1, r2, r3, r4) := by first | (rw [hji26] at H; exact H) | (simp only [hji26] at H ⊢; exact H)
               have hji26w : (IntKind.i64.wrap (x6_1 + 1)) = ji26 := (i64_w _).trans hji26
               by_cases c27 : 0 ≤ (ji26)
               ·rw [if_pos c27] at H
                have c27b0 := eq_true c27
                have c27b1 := decide_eq_true c27
                clear c27
                by_cases c28 : (ji26) ≤ (a0_1.size : Int)
                ·rw [if_pos c28] at H
                 have c28b0 := eq_true c28
                 have c28b1 := decide_eq_true c28
                 clear c28
                 by_cases c29 : ((rd_T24 l1 x7_2).f1).size + (a0_1.extract ((ji26) : Int).toNat a0_1.size).size ≤ 9223372036854775807
                 ·rw [if_pos c29] at H
                  have c29b0 := eq_true c29
                  have c29b1 := decide_eq_true c29
                  try have c29b2 : (9223372036854775807 < ((rd_T24 l1 x7_2).f1).size + (a0_1.extract ((ji26) : Int).toNat a0_1.size).size) = False := eq_false (Nat.not_lt.2 c29)
                  try have c29b2_ : (9223372036854775807 < ((rd_T24 l1 x7_2).f1).size + (a0_1.size - ((ji26) : Int).toNat)) = False := by (have h_ := c29b2; rw [ByteArray.size_extract] at h_; simpa only [Nat.min_self] using h_)
                  obtain ⟨t407, A30, H⟩ := bi_ H
                  simp only [Option.some.injEq, Prod.mk.injEq] at H
                  obtain ⟨rfl, rfl, rfl, rfl⟩ := H
                  try go_wp2
                  have n0_ := Ad.mk (blk_drew BK402.out)
                  have n1_ := Ad.mk (blk_drew BK403.out)
                  have n2_ := Ad.mk (below_drew1 HB.out)
                  clear BK402
                  clear BK403
                  clear HB
                  have BK402 := n0_
                  have BK403 := n1_
                  have HB := n2_
                  clear n0_ n1_ n2_
                  have p404 : 0 ≤ (x7_2 : Int) := of_decide_eq_true a1_
                  have q404 : x7_2 < (l1.length : Int) := of_decide_eq_true a1_
                  obtain ⟨ad404, e404, hx404_0, hx404_1⟩ := at_T24 HR1.out x7_2 p404 q404
                  have hw404_1 := hx404_1
                  have hw404_0 := hx404_0
                  cases e404
                  replace hx404_0 := (HB.out.cell (World.block_lt_of_cell? w _ hx404_0)).trans hx404_0
                  replace hx404_1 := (HB.out.cell (World.block_lt_of_cell? w _ hx404_1)).trans hx404_1
                  replace p404 := eq_true p404
                  replace q404 := eq_true q404
                  refine start_ (n := 10) (S := fun w' => w'.cell? ⟨gb402, 0, none⟩ = some (.int .i64 a0_0) ∧ w'.cell? ⟨gb402, 1, none⟩ = some (.string a0_1) ∧ w'.cell? ⟨gb402, 2, none⟩ = some (.int .i64 a0_2) ∧ w'.cell? ⟨gb402, 3, none⟩ = some (.string a0_3) ∧ w'.cell? ⟨gb402, 4, none⟩ = some (.string a0_4) ∧ w'.cell? ⟨gb402, 5, none⟩ = some (.int .i64 a0_5) ∧ w'.cell? (ad404.add ((x7_2).toNat * 2)) = some (.string ((rd_T24 l1 x7_2).f0)) ∧ w'.cell? ⟨(ad404.add ((x7_2).toNat * 2)).block, (ad404.add ((x7_2).toNat * 2)).off + 1, none⟩ = some (.string ((rd_T24 l1 x7_2).f1))) (ds := []) #[false, false, false, false, false, false, false, false, false, false] k1_ rfl rfl ⟨(blk_cell BK402.out 0).trans rfl, (blk_cell BK402.out 1).trans rfl, (blk_cell BK402.out 2).trans rfl, (blk_cell BK402.out 3).trans rfl, (blk_cell BK402.out 4).trans rfl, (blk_cell BK402.out 5).trans rfl, ((HB.out.cell (World.block_lt_of_cell? w _ hw404_0)).trans hw404_0), ((HB.out.cell (World.block_lt_of_cell? w _ hw404_1)).trans hw404_1)⟩ (fun hHeld => ?_); refine with_tabW g4_resource.tab11 g4_resource.bits11 (fun HT_ HW_ => ?_)
                  generalize wr.drew = w31 at BK402 BK403 HB hx404_0 hx404_1 hHeld ⊢
                  refine pure_ (i := 0) (N := some 32) #[true, false, false, false, false, false, false, false, false, false] rfl rfl (any_of HT_.out k1_) (fun _ _ _ h => h) (Or.inl ⟨by rfl, py_⟩) pa_ ?_
                  refine pure_ (i := 1) (N := some 33) #[true, true, false, false, false, false, false, false, false, false] rfl rfl (any_of HT_.out k1_) (fun _ _ _ h => h) (Or.inl ⟨by rfl, py_⟩) pa_ ?_
                  refine pure_ (i := 2) (N := some 34) #[true, true, true, false, false, false, false, false, false, false] rfl rfl (any_of HT_.out k1_) (fun _ _ _ h => h) (Or.inl ⟨by rfl, py_⟩) pa_ ?_
                  refine pure_ (i := 3) (N := some 35) #[true, true, true, true, false, false, false, false, false, false] rfl rfl (any_of HT_.out k1_) (fun _ _ _ h => h) (Or.inl ⟨by rfl, py_⟩) pa_ ?_
                  refine pure_ (i := 5) (N := some 37) #[true, true, true, true, false, true, false, false, false, false] rfl rfl (any_of HT_.out k1_) (fun _ _ _ h => h) (Or.inl ⟨by rfl, py_⟩) pa_ ?_
                  refine pure_ (i := 7) (N := some 39) #[true, true, true, true, false, true, false, true, false, false] rfl rfl (any_of HT_.out k1_) (fun _ _ _ h => h) (Or.inl ⟨by rfl, py_⟩) pa_ ?_
                  refine take_ (i := 4) (N := some 36) (v := ?_) (a' := ?_) #[true, true, true, true, true, true, false, true, false, false] rfl rfl (take_ofW HT_.out HW_.out k1_) (fun _ _ _ h => h) (Or.inl ⟨by rfl, ?_⟩) hHeld ?_ ?_
                  rotate_left
                  ·rintro w' ⟨s0, s1, s2, s3, s4, s5, s6, s7⟩
                   go_simp
                   with_reducible rfl
                  rotate_left
                  ·simp only [Act.put, List.setIfInBounds_toArray, List.set_cons_zero, List.set_cons_succ, i64_w, i32_w]
                   rfl
                  refine take_ (i := 6) (N := some 38) (v := ?_) (a' := ?_) #[true, true, true, true, true, true, true, true, false, false] rfl rfl (take_ofW HT_.out HW_.out k1_) (fun _ _ _ h => h) (Or.inl ⟨by rfl, ?_⟩) hHeld ?_ ?_
                  rotate_left
                  ·rintro w' ⟨s0, s1, s2, s3, s4, s5, s6, s7⟩
                   go_simp
                   with_reducible rfl
                  rotate_left
                  ·simp only [Act.put, List.setIfInBounds_toArray, List.set_cons_zero, List.set_cons_succ, i64_w, i32_w]
                   rfl
                  refine pure_ (i := 8) (N := some 40) #[true, true, true, true, true, true, true, true, true, false] rfl rfl (any_of HT_.out k1_) (fun _ _ _ h => h) (Or.inl ⟨by rfl, py_⟩) pa_ ?_
                  refine pure_ (i := 9) (N := some 41) #[true, true, true, true, true, true, true, true, true, true] rfl rfl (any_of HT_.out k1_) (fun _ _ _ h => h) (Or.inl ⟨by rfl, py_⟩) pa_ ?_
                  refine done_ (done_of HT_.out k1_) ?_
                  try go_wp2
                  have n0_ := Ad.mk (blk_drew BK402.out)
                  have n1_ := Ad.mk (blk_drew BK403.out)
                  have n2_ := Ad.mk (below_drew1 HB.out)
                  clear BK402
                  clear BK403
                  clear HB
                  have BK402 := n0_
                  have BK403 := n1_
                  have HB := n2_
                  clear n0_ n1_ n2_
                  have p405 : 0 ≤ (x7_2 : Int) := of_decide_eq_true a1_
                  have q405 : x7_2 < (l1.length : Int) := of_decide_eq_true a1_
                  obtain ⟨ad405, e405, hx405_0, hx405_1⟩ := at_T24 HR1.out x7_2 p405 q405
                  have hw405_1 := hx405_1
                  have hw405_0 := hx405_0
                  obtain rfl : ad404 = ad405 := (by injection e405)
                  replace hx405_0 := (HB.out.cell (World.block_lt_of_cell? w _ hx405_0)).trans hx405_0
                  replace hx405_1 := (HB.out.cell (World.block_lt_of_cell? w _ hx405_1)).trans hx405_1
                  replace p405 := eq_true p405
                  replace q405 := eq_true q405
                  refine start_ (n := 14) (S := fun w' => w'.cell? ⟨gb402, 0, none⟩ = some (.int .i64 a0_0) ∧ w'.cell? ⟨gb402, 1, none⟩ = some (.string a0_1) ∧ w'.cell? ⟨gb402, 2, none⟩ = some (.int .i64 a0_2) ∧ w'.cell? ⟨gb402, 3, none⟩ = some (.string a0_3) ∧ w'.cell? ⟨gb402, 4, none⟩ = some (.string a0_4) ∧ w'.cell? ⟨gb402, 5, none⟩ = some (.int .i64 a0_5) ∧ w'.cell? (ad404.add ((x7_2).toNat * 2)) = some (.string ((rd_T24 l1 x7_2).f0)) ∧ w'.cell? ⟨(ad404.add ((x7_2).toNat * 2)).block, (ad404.add ((x7_2).toNat * 2)).off + 1, none⟩ = some (.string ((rd_T24 l1 x7_2).f1))) (ds := []) #[false, false, false, false, false, false, false, false, false, false, false, false, false, false] k1_ rfl rfl ⟨(blk_cell BK402.out 0).trans rfl, (blk_cell BK402.out 1).trans rfl, (blk_cell BK402.out 2).trans rfl, (blk_cell BK402.out 3).trans rfl, (blk_cell BK402.out 4).trans rfl, (blk_cell BK402.out 5).trans rfl, ((HB.out.cell (World.block_lt_of_cell? w _ hw405_0)).trans hw405_0), ((HB.out.cell (World.block_lt_of_cell? w _ hw405_1)).trans hw405_1)⟩ (fun hHeld => ?_); refine with_tabW g4_resource.tab12 g4_resource.bits12 (fun HT_ HW_ => ?_)
                  generalize w31.drew = w32 at BK402 BK403 HB hx405_0 hx405_1 hHeld ⊢
                  refine pure_ (i := 0) (N := some 42) #[true, false, false, false, false, false, false, false, false, false, false, false, false, false] rfl rfl (any_of HT_.out k1_) (fun _ _ _ h => h) (Or.inl ⟨by rfl, py_⟩) pa_ ?_
                  refine pure_ (i := 1) (N := some 43) #[true, true, false, false, false, false, false, false, false, false, false, false, false, false] rfl rfl (any_of HT_.out k1_) (fun _ _ _ h => h) (Or.inl ⟨by rfl, py_⟩) pa_ ?_
                  refine pure_ (i := 2) (N := some 44) #[true, true, true, false, false, false, false, false, false, false, false, false, false, false] rfl rfl (any_of HT_.out k1_) (fun _ _ _ h => h) (Or.inl ⟨by rfl, py_⟩) pa_ ?_
                  refine pure_ (i := 3) (N := some 45) #[true, true, true, true, false, false, false, false, false, false, false, false, false, false] rfl rfl (any_of HT_.out k1_) (fun _ _ _ h => h) (Or.inl ⟨by rfl, py_⟩) pa_ ?_
                  refine pure_ (i := 5) (N := some 47) #[true, true, true, true, false, true, false, false, false, false, false, false, false, false] rfl rfl (any_of HT_.out k1_) (fun _ _ _ h => h) (Or.inl ⟨by rfl, py_⟩) pa_ ?_
                  refine pure_ (i := 7) (N := some 49) #[true, true, true, true, false, true, false, true, false, false, false, false, false, false] rfl rfl (any_of HT_.out k1_) (fun _ _ _ h => h) (Or.inl ⟨by rfl, py_⟩) pa_ ?_
                  refine pure_ (i := 8) (N := some 50) #[true, true, true, true, false, true, false, true, true, false, false, false, false, false] rfl rfl (any_of HT_.out k1_) (fun _ _ _ h => h) (Or.inl ⟨by rfl, py_⟩) pa_ ?_
                  refine take_ (i := 4) (N := some 46) (v := ?_) (a' := ?_) #[true, true, true, true, true, true, false, true, true, false, false, false, false, false] rfl rfl (take_ofW HT_.out HW_.out k1_) (fun _ _ _ h => h) (Or.inl ⟨by rfl, ?_⟩) hHeld ?_ ?_
                  rotate_left
                  ·rintro w' ⟨s0, s1, s2, s3, s4, s5, s6, s7⟩
                   go_simp
                   with_reducible rfl
                  rotate_left
                  ·simp only [Act.put, List.setIfInBounds_toArray, List.set_cons_zero, List.set_cons_succ, i64_w, i32_w]
                   rfl
                  refine take_ (i := 6) (N := some 48) (v := ?_) (a' := ?_) #[true, true, true, true, true, true, true, true, true, false, false, false, false, false] rfl rfl (take_ofW HT_.out HW_.out k1_) (fun _ _ _ h => h) (Or.inl ⟨by rfl, ?_⟩) hHeld ?_ ?_
                  rotate_left
                  ·rintro w' ⟨s0, s1, s2, s3, s4, s5, s6, s7⟩
                   go_simp
                   with_reducible rfl
                  rotate_left
                  ·simp only [Act.put, List.setIfInBounds_toArray, List.set_cons_zero, List.set_cons_succ, i64_w, i32_w]
                   rfl
                  refine pure_ (i := 9) (N := some 51) #[true, true, true, true, true, true, true, true, true, true, false, false, false, false] rfl rfl (any_of HT_.out k1_) (fun _ _ _ h => h) (Or.inl ⟨by rfl, py_⟩) pa_ ?_
                  refine pure_ (i := 10) (N := some 52) #[true, true, true, true, true, true, true, true, true, true, true, false, false, false] rfl rfl (any_of HT_.out k1_) (fun _ _ _ h => h) (Or.inl ⟨by rfl, py_⟩) pa_ ?_
                  refine pure_ (i := 11) (N := some 53) #[true, true, true, true, true, true, true, true, true, true, true, true, false, false] rfl rfl (any_of HT_.out k1_) (fun _ _ _ h => h) (Or.inl ⟨by rfl, py_⟩) pa_ ?_
                  refine one_ (i := 12) (N := some 8) #[true, true, true, true, true, true, true, true, true, true, true, true, true, false] rfl rfl (one_of HT_.out k1_) (by decide) (fun K hK => ?_)
                  refine box_step ?hg (N := 8) ?hd (cs := #[.int .i64 0, .string ⟨#[]⟩, .string ⟨#[]⟩]) (t := 31) ?hr ?_; (case hd => rfl); (case hg => rfl); (case hr => first | (go_simp; done) | (go_simp; rfl))
                  intro gb406 hg w33 hbox hb
                  have n0_ := Ad.mk (blk_below (g := gb402) (o := .cells #[.int .i64 a0_0, .string a0_1, .int .i64 a0_2, .string a0_3, .string a0_4, .int .i64 a0_5] 43 (0, 0)) (bd_ BK402.out) hb)
                  have n1_ := Ad.mk (blk_below (g := gb403) (o := .cells #[.int .i64 x404000_2, .string x404001_2, .string x404002_2] 31 (0, 0)) (bd_ BK403.out) hb)
                  have n2_ := Ad.mk (below_step (by have G0 := GE402; have G1 := GE403; exact z2_) hb)
                  have n3_ := Ad.mk (hbox)
                  have n4_ := Ad.mk ((by have G0 := GE402; have G1 := GE403; exact z17_ : w.heap.size ≤ gb406))
                  have n5_ := Ad.mk ((by have G0 := GE402; have G1 := GE403; exact z17_ : w.heap.size ≤ gb406))
                  have n6_ := Ad.mk ((by have G0 := BK402; exact z52_ : gb402 ≠ gb406))
                  have n7_ := Ad.mk ((by have G0 := BK402; exact z53_ : gb406 ≠ gb402))
                  have n8_ := Ad.mk ((by rw [hg]; exact Nat.ne_of_lt (blk_lt (g := gb403) (o := .cells #[.int .i64 x404000_2, .string x404001_2, .string x404002_2] 31 (0, 0)) (bd_ BK403.out)) : gb403 ≠ gb406))
                  have n9_ := Ad.mk ((by rw [hg]; exact Nat.ne_of_gt (blk_lt (g := gb403) (o := .cells #[.int .i64 x404000_2, .string x404001_2, .string x404002_2] 31 (0, 0)) (bd_ BK403.out)) : gb406 ≠ gb403))
                  clear BK402
                  clear BK403
                  clear HB
                  have BK402 := n0_
                  have BK403 := n1_
                  have HB := n2_
                  have BK406 := n3_
                  have GW406 := n4_
                  have GE406 := n5_
                  have NB402_406 := n6_
                  have NB406_402 := n7_
                  have NB403_406 := n8_
                  have NB406_403 := n9_
                  clear n0_ n1_ n2_ n3_ n4_ n5_ n6_ n7_ n8_ n9_
                  clear hb hbox hg
                  refine hK.out _ _ ⟨(blk_cell BK402.out 0).trans rfl, (blk_cell BK402.out 1).trans rfl, (blk_cell BK402.out 2).trans rfl, (blk_cell BK402.out 3).trans rfl, (blk_cell BK402.out 4).trans rfl, (blk_cell BK402.out 5).trans rfl, ((HB.out.cell (World.block_lt_of_cell? w _ hw405_0)).trans hw405_0), ((HB.out.cell (World.block_lt_of_cell? w _ hw405_1)).trans hw405_1)⟩ (fun hHeld => ?_)
                  clear hK K
                  refine norm_ (a' := ?_) ?_ ?_
                  rotate_left
                  ·show Act.put _ (some 8) _ = _
                   simp only [Act.put, List.setIfInBounds_toArray, List.set_cons_zero, List.set_cons_succ, i64_w, i32_w]
                   rfl
                  refine one_ (i := 13) (N := none) #[true, true, true, true, true, true, true, true, true, true, true, true, true, true] rfl rfl (one_of HT_.out k1_) (by decide) (fun K hK => ?_)
                  have hs34 : w33.cell? ⟨gb406, 0, none⟩ = some (.int .i64 0) := (blk_cell BK406.out 0).trans rfl
                  have hfs34 := blk_frozen BK406.out 0
                  have hns34_0 := NB402_406.out
                  have hns34_1 := NB403_406.out
                  have hms34_0 := NB406_402.out
                  have hms34_1 := NB406_403.out
                  have hs35 : w33.cell? ⟨gb406, 1, none⟩ = some (.string ⟨#[]⟩) := (blk_cell BK406.out 1).trans rfl
                  have hfs35 := blk_frozen BK406.out 1
                  have hns35_0 := NB402_406.out
                  have hns35_1 := NB403_406.out
                  have hms35_0 := NB406_402.out
                  have hms35_1 := NB406_403.out
                  have hs36 : w33.cell? ⟨gb406, 2, none⟩ = some (.string ⟨#[]⟩) := (blk_cell BK406.out 2).trans rfl
                  have hfs36 := blk_frozen BK406.out 2
                  have hns36_0 := NB402_406.out
                  have hns36_1 := NB403_406.out
                  have hms36_0 := NB406_402.out
                  have hms36_1 := NB406_403.out
                  refine skip_ (w1 := ?_) (by rfl) rfl ?_ ?_
                  rotate_left
                  ·go_simp
                   rfl
                  refine hK.out _ _ ⟨((cell_far (p := ⟨gb406, _, none⟩) NB402_406.out _).trans (((cell_far (p := ⟨gb406, _, none⟩) NB402_406.out _).trans (((cell_far (p := ⟨gb406, _, none⟩) NB402_406.out _).trans (hHeld.1)))))), ((cell_far (p := ⟨gb406, _, none⟩) NB402_406.out _).trans (((cell_far (p := ⟨gb406, _, none⟩) NB402_406.out _).trans (((cell_far (p := ⟨gb406, _, none⟩) NB402_406.out _).trans (hHeld.2.1)))))), ((cell_far (p := ⟨gb406, _, none⟩) NB402_406.out _).trans (((cell_far (p := ⟨gb406, _, none⟩) NB402_406.out _).trans (((cell_far (p := ⟨gb406, _, none⟩) NB402_406.out _).trans (hHeld.2.2.1)))))), ((cell_far (p := ⟨gb406, _, none⟩) NB402_406.out _).trans (((cell_far (p := ⟨gb406, _, none⟩) NB402_406.out _).trans (((cell_far (p := ⟨gb406, _, none⟩) NB402_406.out _).trans (hHeld.2.2.2.1)))))), ((cell_far (p := ⟨gb406, _, none⟩) NB402_406.out _).trans (((cell_far (p := ⟨gb406, _, none⟩) NB402_406.out _).trans (((cell_far (p := ⟨gb406, _, none⟩) NB402_406.out _).trans (hHeld.2.2.2.2.1)))))), ((cell_far (p := ⟨gb406, _, none⟩) NB402_406.out _).trans (((cell_far (p := ⟨gb406, _, none⟩) NB402_406.out _).trans (((cell_far (p := ⟨gb406, _, none⟩) NB402_406.out _).trans (hHeld.2.2.2.2.2.1)))))), ((cell_far (p := ⟨gb406, _, none⟩) (by have G0 := GW406; exact z62_) _).trans (((cell_far (p := ⟨gb406, _, none⟩) (by have G0 := GW406; exact z62_) _).trans (((cell_far (p := ⟨gb406, _, none⟩) (by have G0 := GW406; exact z62_) _).trans (hHeld.2.2.2.2.2.2.1)))))), ((cell_far (p := ⟨gb406, _, none⟩) (by have G0 := GW406; exact z63_) _).trans (((cell_far (p := ⟨gb406, _, none⟩) (by have G0 := GW406; exact z63_) _).trans (((cell_far (p := ⟨gb406, _, none⟩) (by have G0 := GW406; exact z63_) _).trans (hHeld.2.2.2.2.2.2.2))))))⟩ (fun hHeld => ?_)
                  clear hK K
                  refine done_ (done_of HT_.out k1_) ?_
                  try go_wp2
                  have n0_ : Ad ((((w33.setCell ⟨gb406, 0, none⟩ (.int .i64 1)).setCell ⟨gb406, 1, none⟩ (.string (((rd_T24 l1 x7_2).f1) ++ (a0_1.extract ((ji26) : Int).toNat a0_1.size)))).setCell ⟨gb406, 2, none⟩ (.string ⟨#[]⟩)).heap[gb402]? = some (.cells #[.int .i64 a0_0, .string a0_1, .int .i64 a0_2, .string a0_3, .string a0_4, .int .i64 a0_5] 43 (0, 0))) := ⟨by have G0 := NB402_406; have G1 := BK402; exact z13_⟩
                  have n1_ : Ad ((((w33.setCell ⟨gb406, 0, none⟩ (.int .i64 1)).setCell ⟨gb406, 1, none⟩ (.string (((rd_T24 l1 x7_2).f1) ++ (a0_1.extract ((ji26) : Int).toNat a0_1.size)))).setCell ⟨gb406, 2, none⟩ (.string ⟨#[]⟩)).heap[gb403]? = some (.cells #[.int .i64 x404000_2, .string x404001_2, .string x404002_2] 31 (0, 0))) := ⟨by have G0 := NB403_406; have G1 := BK403; exact z13_⟩
                  have n2_ : Ad ((((w33.setCell ⟨gb406, 0, none⟩ (.int .i64 1)).setCell ⟨gb406, 1, none⟩ (.string (((rd_T24 l1 x7_2).f1) ++ (a0_1.extract ((ji26) : Int).toNat a0_1.size)))).setCell ⟨gb406, 2, none⟩ (.string ⟨#[]⟩)).heap[gb406]? = some (.cells #[.int .i64 1, .string (((rd_T24 l1 x7_2).f1) ++ (a0_1.extract ((ji26) : Int).toNat a0_1.size)), .string ⟨#[]⟩] 31 (0, 0))) := ⟨by refine bd_ ?_; refine blk_put (cs := #[.int .i64 1, .string (((rd_T24 l1 x7_2).f1) ++ (a0_1.extract ((ji26) : Int).toNat a0_1.size)), .string ⟨#[]⟩]) ?_ 2 _ rfl; refine bd_ ?_; refine blk_put (cs := #[.int .i64 1, .string ⟨#[]⟩, .string ⟨#[]⟩]) ?_ 1 _ rfl; refine bd_ ?_; refine blk_put (cs := #[.int .i64 0, .string ⟨#[]⟩, .string ⟨#[]⟩]) ?_ 0 _ rfl; refine bd_ ?_; exact BK406.out⟩
                  have n3_ : Ad (Below w.heap.size w (((w33.setCell ⟨gb406, 0, none⟩ (.int .i64 1)).setCell ⟨gb406, 1, none⟩ (.string (((rd_T24 l1 x7_2).f1) ++ (a0_1.extract ((ji26) : Int).toNat a0_1.size)))).setCell ⟨gb406, 2, none⟩ (.string ⟨#[]⟩))) := ⟨by have G0 := GE402; have G1 := GE403; have G2 := GE406; exact z14_⟩
                  (try clear BK402)
                  (try clear BK403)
                  (try clear BK406)
                  (try clear HB)
                  generalize (((w33.setCell ⟨gb406, 0, none⟩ (.int .i64 1)).setCell ⟨gb406, 1, none⟩ (.string (((rd_T24 l1 x7_2).f1) ++ (a0_1.extract ((ji26) : Int).toNat a0_1.size)))).setCell ⟨gb406, 2, none⟩ (.string ⟨#[]⟩)) = w37 at n0_ n1_ n2_ n3_ ⊢
                  have BK402 := n0_
                  have BK403 := n1_
                  have BK406 := n2_
                  have HB := n3_
                  clear n0_ n1_ n2_ n3_
                  have n0_ := Ad.mk (blk_drew BK402.out)
                  have n1_ := Ad.mk (blk_drew BK403.out)
                  have n2_ := Ad.mk (blk_drew BK406.out)
                  have n3_ := Ad.mk (below_drew1 HB.out)
                  clear BK402
                  clear BK403
                  clear BK406
                  clear HB
                  have BK402 := n0_
                  have BK403 := n1_
                  have BK406 := n2_
                  have HB := n3_
                  clear n0_ n1_ n2_ n3_
                  refine start_ (n := 5) (S := fun w' => w'.cell? ⟨gb406, 0, none⟩ = some (.int .i64 1) ∧ w'.cell? ⟨gb406, 1, none⟩ = some (.string (((rd_T24 l1 x7_2).f1) ++ (a0_1.extract ((ji26) : Int).toNat a0_1.size))) ∧ w'.cell? ⟨gb406, 2, none⟩ = some (.string ⟨#[]⟩)) (ds := []) #[false, false, false, false, false] k1_ rfl rfl ⟨(blk_cell BK406.out 0).trans rfl, (blk_cell BK406.out 1).trans rfl, (blk_cell BK406.out 2).trans rfl⟩ (fun hHeld => ?_)
                  generalize w37.drew = w38 at BK402 BK403 BK406 HB hHeld ⊢
                  refine take_ (i := 0) (N := some 54) (v := ?_) (a' := ?_) #[true, false, false, false, false] rfl rfl k1_ (fun _ _ _ h => h) (Or.inl ⟨by rfl, ?_⟩) hHeld ?_ ?_
                  rotate_left
                  ·rintro w' ⟨s0, s1, s2⟩
                   go_simp
                   with_reducible rfl
                  rotate_left
                  ·simp only [Act.put, List.setIfInBounds_toArray, List.set_cons_zero, List.set_cons_succ, i64_w, i32_w]
                   rfl
                  refine take_ (i := 1) (N := some 55) (v := ?_) (a' := ?_) #[true, true, false, false, false] rfl rfl k1_ (fun _ _ _ h => h) (Or.inl ⟨by rfl, ?_⟩) hHeld ?_ ?_
                  rotate_left
                  ·rintro w' ⟨s0, s1, s2⟩
                   go_simp
                   with_reducible rfl
                  rotate_left
                  ·simp only [Act.put, List.setIfInBounds_toArray, List.set_cons_zero, List.set_cons_succ, i64_w, i32_w]
                   rfl
                  refine one_ (i := 2) (N := some 56) #[true, true, true, false, false] rfl rfl k1_ (by decide) (fun K hK => ?_)
                  refine goes_ Tryz.func21 k1_ rfl #[.agg #[.int .i64 1, .string (((rd_T24 l1 x7_2).f1) ++ (a0_1.extract ((ji26) : Int).toNat a0_1.size)), .string ⟨#[]⟩]] (by rfl) rfl rfl (by (try simp only [List.map_toArray, List.map_cons, List.map_nil]); first | done | (simp only [hji26]; rfl) | rfl | (simp only [List.length_drop, List.length_take]; rfl)) ?_
                  with_reducible refine (g2_May.calls k2 1 (((rd_T24 l1 x7_2).f1) ++ (a0_1.extract ((ji26) : Int).toNat a0_1.size)) (⟨#[]⟩ : ByteArray) t407 _ A30.out).mono ?_
                  rintro e w39 ⟨rfl, hb⟩
                  refine ⟨_, rfl, ?_⟩
                  have n0_ := Ad.mk (blk_below (g := gb402) (o := .cells #[.int .i64 a0_0, .string a0_1, .int .i64 a0_2, .string a0_3, .string a0_4, .int .i64 a0_5] 43 (0, 0)) (bd_ BK402.out) hb)
                  have n1_ := Ad.mk (blk_below (g := gb403) (o := .cells #[.int .i64 x404000_2, .string x404001_2, .string x404002_2] 31 (0, 0)) (bd_ BK403.out) hb)
                  have n2_ := Ad.mk (blk_below (g := gb406) (o := .cells #[.int .i64 1, .string (((rd_T24 l1 x7_2).f1) ++ (a0_1.extract ((ji26) : Int).toNat a0_1.size)), .string ⟨#[]⟩] 31 (0, 0)) (bd_ BK406.out) hb)
                  have n3_ := Ad.mk (below_step (by have G0 := GE402; have G1 := GE403; have G2 := GE406; exact z14_) hb)
                  clear BK402
                  clear BK403
                  clear BK406
                  clear HB
                  have BK402 := n0_
                  have BK403 := n1_
                  have BK406 := n2_
                  have HB := n3_
                  clear n0_ n1_ n2_ n3_
                  (try clear hb)
                  (try clear hb2)
                  (try clear hk)
                  (try clear hi)
                  refine hK.out _ _ ⟨(blk_cell BK406.out 0).trans rfl, (blk_cell BK406.out 1).trans rfl, (blk_cell BK406.out 2).trans rfl⟩ (fun hHeld => ?_)
                  clear hK K
                  refine norm_ (a' := ?_) ?_ ?_
                  rotate_left
                  ·show Act.put _ (some 56) _ = _
                   simp only [Act.put, List.setIfInBounds_toArray, List.set_cons_zero, List.set_cons_succ, i64_w, i32_w]
                   rfl
                  refine one_ (i := 3) (N := none) #[true, true, true, true, false] rfl rfl k1_ (by decide) (fun K hK => ?_)
                  have hs40 : w39.cell? ⟨gb403, 0, none⟩ = some (.int .i64 x404000_2) := (blk_cell BK403.out 0).trans rfl
                  have hfs40 := blk_frozen BK403.out 0
                  have hns40_0 := NB402_403.out
                  have hns40_2 := NB406_403.out
                  have hms40_0 := NB403_402.out
                  have hms40_2 := NB403_406.out
                  have hs41 : w39.cell? ⟨gb403, 1, none⟩ = some (.string x404001_2) := (blk_cell BK403.out 1).trans rfl
                  have hfs41 := blk_frozen BK403.out 1
                  have hns41_0 := NB402_403.out
                  have hns41_2 := NB406_403.out
                  have hms41_0 := NB403_402.out
                  have hms41_2 := NB403_406.out
                  have hs42 : w39.cell? ⟨gb403, 2, none⟩ = some (.string x404002_2) := (blk_cell BK403.out 2).trans rfl
                  have hfs42 := blk_frozen BK403.out 2
                  have hns42_0 := NB402_403.out
                  have hns42_2 := NB406_403.out
                  have hms42_0 := NB403_402.out
                  have hms42_2 := NB403_406.out
                  refine skip_ (w1 := ?_) (by rfl) rfl ?_ ?_
                  rotate_left
                  ·go_simp
                   rfl
                  refine hK.out _ _ ⟨((cell_far (p := ⟨gb403, _, none⟩) NB406_403.out _).trans (((cell_far (p := ⟨gb403, _, none⟩) NB406_403.out _).trans (((cell_far (p := ⟨gb403, _, none⟩) NB406_403.out _).trans (hHeld.1)))))), ((cell_far (p := ⟨gb403, _, none⟩) NB406_403.out _).trans (((cell_far (p := ⟨gb403, _, none⟩) NB406_403.out _).trans (((cell_far (p := ⟨gb403, _, none⟩) NB406_403.out _).trans (hHeld.2.1)))))), ((cell_far (p := ⟨gb403, _, none⟩) NB406_403.out _).trans (((cell_far (p := ⟨gb403, _, none⟩) NB406_403.out _).trans (((cell_far (p := ⟨gb403, _, none⟩) NB406_403.out _).trans (hHeld.2.2))))))⟩ (fun hHeld => ?_)
                  clear hK K
                  refine pure_ (i := 4) (N := some 5) (v := ?_) (a' := ?_) #[true, true, true, true, true] rfl rfl k1_ (fun _ _ _ h => h) (Or.inl ⟨by rfl, ?_⟩) ?_ ?_
                  rotate_left
                  ·intro w'
                   go_simp
                   with_reducible rfl
                  rotate_left
                  ·simp only [Act.put, List.setIfInBounds_toArray, List.set_cons_zero, List.set_cons_succ, i64_w, i32_w]
                   rfl
                  refine done_ k1_ ?_
                  try go_wp2
                  refine bodyPost_ret (results_ct rfl _ _ gb403 31 #[.int .i64 1, .string (((rd_T24 l1 x7_2).f1) ++ (a0_1.extract ((ji26) : Int).toNat a0_1.size)), .string ⟨#[]⟩] (0, 0) _ rfl (by refine bd_ ?_; refine blk_put (cs := #[.int .i64 1, .string (((rd_T24 l1 x7_2).f1) ++ (a0_1.extract ((ji26) : Int).toNat a0_1.size)), .string x404002_2]) ?_ 2 _ rfl; refine bd_ ?_; refine blk_put (cs := #[.int .i64 1, .string x404001_2, .string x404002_2]) ?_ 1 _ rfl; refine bd_ ?_; refine blk_put (cs := #[.int .i64 x404000_2, .string x404001_2, .string x404002_2]) ?_ 0 _ rfl; refine bd_ ?_; exact BK403.out) Tryz.underlying31 rfl k1_) rfl ?_
                  exact ⟨by first | rfl | (simp [errW_none, errW_some] <;> rfl) | (simp only [← hji26]; first | rfl | (simp [errW_none, errW_some] <;> rfl)) | (simp [*, errW_none, errW_some] <;> rfl), by have G0 := GE402; have G1 := GE403; have G2 := GE406; exact z14_⟩
                 rw [if_neg c29] at H
                 exact absurd H (by simp)
                rw [if_neg c28] at H
                exact absurd H (by simp)
               rw [if_neg c27] at H
               exact absurd H (by simp)
              rw [if_neg c25] at H
              have c25b0 := beq_eq_false_iff_ne.mpr c25
              have c25b1 := bne_iff_ne.mpr c25
              have H' := Ad.mk H
              clear H
              try go_wp2
              have n0_ := Ad.mk (blk_drew BK402.out)
              have n1_ := Ad.mk (blk_drew BK403.out)
              have n2_ := Ad.mk (below_drew1 HB.out)
              clear BK402
              clear BK403
              clear HB
              have BK402 := n0_
              have BK403 := n1_
              have HB := n2_
              clear n0_ n1_ n2_
              have p404 : 0 ≤ (x7_2 : Int) := of_decide_eq_true a1_
              have q404 : x7_2 < (l1.length : Int) := of_decide_eq_true a1_
              obtain ⟨ad404, e404, hx404_0, hx404_1⟩ := at_T24 HR1.out x7_2 p404 q404
              have hw404_1 := hx404_1
              have hw404_0 := hx404_0
              cases e404
              replace hx404_0 := (HB.out.cell (World.block_lt_of_cell? w _ hx404_0)).trans hx404_0
              replace hx404_1 := (HB.out.cell (World.block_lt_of_cell? w _ hx404_1)).trans hx404_1
              replace p404 := eq_true p404
              replace q404 := eq_true q404
              refine start_ (n := 10) (S := fun w' => w'.cell? ⟨gb402, 0, none⟩ = some (.int .i64 a0_0) ∧ w'.cell? ⟨gb402, 1, none⟩ = some (.string a0_1) ∧ w'.cell? ⟨gb402, 2, none⟩ = some (.int .i64 a0_2) ∧ w'.cell? ⟨gb402, 3, none⟩ = some (.string a0_3) ∧ w'.cell? ⟨gb402, 4, none⟩ = some (.string a0_4) ∧ w'.cell? ⟨gb402, 5, none⟩ = some (.int .i64 a0_5) ∧ w'.cell? (ad404.add ((x7_2).toNat * 2)) = some (.string ((rd_T24 l1 x7_2).f0)) ∧ w'.cell? ⟨(ad404.add ((x7_2).toNat * 2)).block, (ad404.add ((x7_2).toNat * 2)).off + 1, none⟩ = some (.string ((rd_T24 l1 x7_2).f1))) (ds := []) #[false, false, false, false, false, false, false, false, false, false] k1_ rfl rfl ⟨(blk_cell BK402.out 0).trans rfl, (blk_cell BK402.out 1).trans rfl, (blk_cell BK402.out 2).trans rfl, (blk_cell BK402.out 3).trans rfl, (blk_cell BK402.out 4).trans rfl, (blk_cell BK402.out 5).trans rfl, ((HB.out.cell (World.block_lt_of_cell? w _ hw404_0)).trans hw404_0), ((HB.out.cell (World.block_lt_of_cell? w _ hw404_1)).trans hw404_1)⟩ (fun hHeld => ?_); refine with_tabW g4_resource.tab11 g4_resource.bits11 (fun HT_ HW_ => ?_)
              generalize wr.drew = w43 at BK402 BK403 HB hx404_0 hx404_1 hHeld ⊢
              refine pure_ (i := 0) (N := some 32) #[true, false, false, false, false, false, false, false, false, false] rfl rfl (any_of HT_.out k1_) (fun _ _ _ h => h) (Or.inl ⟨by rfl, py_⟩) pa_ ?_
              refine pure_ (i := 1) (N := some 33) #[true, true, false, false, false, false, false, false, false, false] rfl rfl (any_of HT_.out k1_) (fun _ _ _ h => h) (Or.inl ⟨by rfl, py_⟩) pa_ ?_
              refine pure_ (i := 2) (N := some 34) #[true, true, true, false, false, false, false, false, false, false] rfl rfl (any_of HT_.out k1_) (fun _ _ _ h => h) (Or.inl ⟨by rfl, py_⟩) pa_ ?_
              refine pure_ (i := 3) (N := some 35) #[true, true, true, true, false, false, false, false, false, false] rfl rfl (any_of HT_.out k1_) (fun _ _ _ h => h) (Or.inl ⟨by rfl, py_⟩) pa_ ?_
              refine pure_ (i := 5) (N := some 37) #[true, true, true, true, false, true, false, false, false, false] rfl rfl (any_of HT_.out k1_) (fun _ _ _ h => h) (Or.inl ⟨by rfl, py_⟩) pa_ ?_
              refine pure_ (i := 7) (N := some 39) #[true, true, true, true, false, true, false, true, false, false] rfl rfl (any_of HT_.out k1_) (fun _ _ _ h => h) (Or.inl ⟨by rfl, py_⟩) pa_ ?_
              refine take_ (i := 4) (N := some 36) (v := ?_) (a' := ?_) #[true, true, true, true, true, true, false, true, false, false] rfl rfl (take_ofW HT_.out HW_.out k1_) (fun _ _ _ h => h) (Or.inl ⟨by rfl, ?_⟩) hHeld ?_ ?_
              rotate_left
              ·rintro w' ⟨s0, s1, s2, s3, s4, s5, s6, s7⟩
               go_simp
               with_reducible rfl
              rotate_left
              ·simp only [Act.put, List.setIfInBounds_toArray, List.set_cons_zero, List.set_cons_succ, i64_w, i32_w]
               rfl
              refine take_ (i := 6) (N := some 38) (v := ?_) (a' := ?_) #[true, true, true, true, true, true, true, true, false, false] rfl rfl (take_ofW HT_.out HW_.out k1_) (fun _ _ _ h => h) (Or.inl ⟨by rfl, ?_⟩) hHeld ?_ ?_
              rotate_left
              ·rintro w' ⟨s0, s1, s2, s3, s4, s5, s6, s7⟩
               go_simp
               with_reducible rfl
              rotate_left
              ·simp only [Act.put, List.setIfInBounds_toArray, List.set_cons_zero, List.set_cons_succ, i64_w, i32_w]
               rfl
              refine pure_ (i := 8) (N := some 40) #[true, true, true, true, true, true, true, true, true, false] rfl rfl (any_of HT_.out k1_) (fun _ _ _ h => h) (Or.inl ⟨by rfl, py_⟩) pa_ ?_
              refine pure_ (i := 9) (N := some 41) #[true, true, true, true, true, true, true, true, true, true] rfl rfl (any_of HT_.out k1_) (fun _ _ _ h => h) (Or.inl ⟨by rfl, py_⟩) pa_ ?_
              refine done_ (done_of HT_.out k1_) ?_
              try go_wp2
              go_roundg k2
              case measure => have := HK1.out; have := HK2.out; omega
              case rel => exact ⟨(wrap64 (x7_2 - 1)), (x404000_2), (x404001_2), (x404002_2), e1_, H', ⟨z27_⟩, ⟨by refine bd_ ?_; exact BK402.out⟩, ⟨by refine bd_ ?_; exact BK403.out⟩, ⟨by have G0 := GE402; have G1 := GE403; exact z2_⟩⟩
             rw [if_neg c24] at H
             exact absurd H (by simp)
            rw [if_neg c23] at H
            exact absurd H (by simp)
           rw [if_neg c22] at H
           exact absurd H (by simp)
          rw [if_neg c21] at H
          exact absurd H (by simp)
         rw [if_neg c20] at H
         have c20b0 : decide (0 ≤ x7_2) = false := decide_eq_false c20
         clear c20
         simp only [Option.some.injEq, Prod.mk.injEq] at H
         obtain ⟨rfl, rfl, rfl, rfl⟩ := H
         have hnb44 := NB403_402.out
         have hnc44 := NB402_403.out
         obtain ⟨⟨hcz45_0, hcz45_1, hcz45_2⟩, hfz45_0, hfz45_1, hfz45_2⟩ := c3_ BK403.out
         go_wp2
         refine bodyPost_ret (results_ct rfl _ _ gb403 31 #[.int .i64 0, .string ⟨#[]⟩, .string ⟨#[]⟩] (0, 0) _ rfl (by refine bd_ ?_; refine blk_put (cs := #[.int .i64 0, .string ⟨#[]⟩, .string x404002_2]) ?_ 2 _ rfl; refine bd_ ?_; refine blk_put (cs := #[.int .i64 0, .string x404001_2, .string x404002_2]) ?_ 1 _ rfl; refine bd_ ?_; refine blk_put (cs := #[.int .i64 x404000_2, .string x404001_2, .string x404002_2]) ?_ 0 _ rfl; refine bd_ ?_; exact BK403.out) Tryz.underlying31 rfl k1_) rfl ?_
         exact ⟨e2_, by have G0 := GE402; have G1 := GE403; exact z2_⟩
      rw [if_neg c17] at H
      have c17b0 := beq_eq_false_iff_ne.mpr c17
      have c17b1 := bne_iff_ne.mpr c17
      have H' := Ad.mk H
      clear H
      have hnb46 := NB402_403.out
      have hnc46 := NB403_402.out
      obtain ⟨⟨hcz47_0, hcz47_1, hcz47_2, hcz47_3, hcz47_4, hcz47_5⟩, hfz47_0, hfz47_1, hfz47_2, hfz47_3, hfz47_4, hfz47_5⟩ := c6_ BK402.out
      have p16 : 0 ≤ (x6_1 : Int) := of_decide_eq_true a1_
      have q16 : x6_1 < (a0_1.size : Int) := of_decide_eq_true a1_
      have hx16 := bt_at a0_1 x6_1
      replace p16 := eq_true p16
      replace q16 := eq_true q16
      go_wp2
      go_roundg k1
      case measure => have := HK1.out; omega
      case rel => exact ⟨(wrap64 (x6_1 + 1)), e1_, H', ⟨by have := HK1.out; omega⟩, ⟨by refine bd_ ?_; exact BK402.out⟩, ⟨by refine bd_ ?_; exact BK403.out⟩, ⟨by have G0 := GE402; have G1 := GE403; exact z2_⟩⟩
     rw [if_neg c15] at H
     exact absurd H (by simp)
    rw [if_neg c14] at H
    exact absurd H (by simp)
 rw [if_neg c9] at H
 have c9b0 := beq_eq_false_iff_ne.mpr c9
 have c9b1 := bne_iff_ne.mpr c9
 simp only [Option.some.injEq, Prod.mk.injEq] at H
 obtain ⟨rfl, rfl, rfl, rfl⟩ := H
 go_enter Tryz.func20, Tryz.ntmps20
 go_wp2_with (first | ((with_reducible refine gate_dst (N := 2) rfl ?_); refine box_event r1_ (N := 2) r1_ (cs := #[.int .i64 a0_0, .string a0_1, .int .i64 a0_2, .string a0_3, .string a0_4, .int .i64 a0_5]) (t := 43) r2_ ?_; intro gb402 hg w48 hbox hb; have BK402 := Ad.mk (hbox); have GW402 := Ad.mk (bs_ : w.heap.size ≤ gb402); have GE402 := Ad.mk (bs_ : w.heap.size ≤ gb402); replace HB := Ad.mk (below_step b1_ hb); clear hb hbox hg) | ((with_reducible refine gate_dst (N := 4) rfl ?_); refine box_event r1_ (N := 4) r1_ (cs := #[.int .i64 0, .string ⟨#[]⟩, .string ⟨#[]⟩]) (t := 31) r2_ ?_; intro gb403 hg w49 hbox hb; have BK403 := Ad.mk (hbox); have GW403 := Ad.mk ((z35_ : w.heap.size ≤ gb403)); have GE403 := Ad.mk ((z35_ : w.heap.size ≤ gb403)); have NB402_403 := Ad.mk ((by have G0 := BK402; exact z52_ : gb402 ≠ gb403)); have NB403_402 := Ad.mk ((by have G0 := BK402; exact z53_ : gb403 ≠ gb402)); replace BK402 := Ad.mk (blk_below (g := gb402) (o := .cells #[.int .i64 a0_0, .string a0_1, .int .i64 a0_2, .string a0_3, .string a0_4, .int .i64 a0_5] 43 (0, 0)) (bd_ BK402.out) hb); replace HB := Ad.mk (below_step (by have GE := GE402; exact b2_) hb); clear hb hbox hg; have hnb50 := NB402_403.out; have hnc50 := NB403_402.out; obtain ⟨⟨hcz51_0, hcz51_1, hcz51_2, hcz51_3, hcz51_4, hcz51_5⟩, hfz51_0, hfz51_1, hfz51_2, hfz51_3, hfz51_4, hfz51_5⟩ := c6_ BK402.out; obtain ⟨⟨hcz52_0, hcz52_1, hcz52_2⟩, hfz52_0, hfz52_1, hfz52_2⟩ := c3_ BK403.out))
 refine bodyPost_ret (results_ct rfl _ _ gb403 31 #[.int .i64 0, .string ⟨#[]⟩, .string ⟨#[]⟩] (0, 0) _ rfl (by have G0 := BK403; exact z36_) Tryz.underlying31 rfl k1_) rfl ?_
 exact ⟨e2_, by have G0 := GE402; have G1 := GE403; exact z2_⟩
end Go.Proofs.YtpbphelaeleikaaGreatDoor.PLt

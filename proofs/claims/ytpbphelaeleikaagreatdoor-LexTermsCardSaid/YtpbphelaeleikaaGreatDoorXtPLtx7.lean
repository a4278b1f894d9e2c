import Derived.Test.YtpbphelaeleikaaGreatDoorXtPLtx0
import Derived.Test.YtpbphelaeleikaaGreatDoorXtPLtx6
namespace Go.Proofs.YtpbphelaeleikaaGreatDoor.PLt
open Go.RowKit Go.Proofs.YtpbphelaeleikaaGreatDoorW.PrintWords Go.Proofs.YtpbphelaeleikaaGreatDoorW.PrintLast Go.Proofs.YtpbphelaeleikaaGreatDoorW.PrintMore
attribute [local go_sem] max2_int min2_int max_two min_two max_three min_three max_four min_four
set_option linter.unusedVariables false
set_option linter.unusedSimpArgs false
set_option maxHeartbeats 8000000
set_option maxRecDepth 100000
mutual
def g1r_Get.l0 : Nat → ByteArray → Int → Option (Int × Int)
 | 0, _, _ => none
 | k + 1, x0, x4 => if x4 ≤ 4 then (g1r_Get.j1 k x0 x4 (decide (x4 ≤ (x0.size : Int)))) else (g1r_Get.j1 k x0 x4 false)
def g1r_Get.j1 : Nat → ByteArray → Int → Bool → Option (Int × Int)
 | 0, _, _, _ => none
 | k + 1, x0, x4, x15 => if x15 = true then (g1r_Get.l1 k x0 x4 0 0) else (some (0, 0))
def g1r_Get.l1 : Nat → ByteArray → Int → Int → Int → Option (Int × Int)
 | 0, _, _, _, _ => none
 | k + 1, x0, x4, x5, x6 => if x6 < x4 then (if 0 ≤ x6 then (if x6 < (x0.size : Int) then (if x6 = 0 then (g1r_Get.j3 k x0 x4 x5 x6 (wrap64 (bt x0 x6)) (decide (x4 > 1))) else (g1r_Get.j3 k x0 x4 x5 x6 (wrap64 (bt x0 x6)) false)) else (none)) else (none)) else ((g1r_May.f x5).bind fun t224 => (if t224 = true then ((g1r_Put.f x5).bind fun t225 => (if 0 ≤ x4 then (if x4 ≤ (x0.size : Int) then (if (strOfNums t225).toList = (x0.extract 0 (x4 : Int).toNat).toList then (some (x5, x4)) else (g1r_Get.l0 k x0 (wrap64 (x4 + 1)))) else (none)) else (none))) else (g1r_Get.l0 k x0 (wrap64 (x4 + 1)))))
def g1r_Get.j3 : Nat → ByteArray → Int → Int → Int → Int → Bool → Option (Int × Int)
 | 0, _, _, _, _, _, _ => none
 | k + 1, x0, x4, x5, x6, x7, x32 => if x32 = true then ((some (([1, 1, 32, 16, 8] : List Int) : List Int)).bind fun y220 => (if 0 ≤ x4 then (if x4 < (y220.length : Int) then (if (rd y220 x4) = 0 then (none) else (if x6 > 0 then (g1r_Get.l1 k x0 x4 (wrap64 ((wrap64 (64 * x5)) + (Int.tmod (Int.tmod x7 (rd y220 x4)) 64))) (wrap64 (x6 + 1))) else (g1r_Get.l1 k x0 x4 (wrap64 ((wrap64 (64 * x5)) + (Int.tmod x7 (rd y220 x4)))) (wrap64 (x6 + 1))))) else (none)) else (none))) else (if x6 > 0 then (g1r_Get.l1 k x0 x4 (wrap64 ((wrap64 (64 * x5)) + (Int.tmod x7 64))) (wrap64 (x6 + 1))) else (g1r_Get.l1 k x0 x4 (wrap64 ((wrap64 (64 * x5)) + x7)) (wrap64 (x6 + 1))))
end
def g1r_Get.f (k : Nat) (a0 : ByteArray) : Option (Int × Int) := g1r_Get.l0 k a0 1
def g1r_Get.T14 : Bool × List (List Nat × List Nat) := (true, [([], []), ([0], [0]), ([1, 1], [1]), ([2], [2]), ([3, 2, 2], [2, 3]), ([4, 2], [2, 4]), ([2], [2]), ([2], [2]), ([6, 7, 2], [2, 6, 7]), ([5, 8, 2], [2, 5, 8]), ([2, 9], [2, 9])])
def g1r_Get.B14 : List Nat := [0, 1, 3, 7, 15, 31, 7, 7, 199, 511, 1023]
theorem g1r_Get.tab14 : rtab .any (opsOf Tryz.f23 14) = g1r_Get.T14 := by kernel_rfl
theorem g1r_Get.bits14 : waitsOk g1r_Get.T14.2 g1r_Get.B14 = true := by kernel_rfl
theorem g1r_Get.calls (k : Nat) (a0 : ByteArray) (r1 : Int) (r2 : Int) (w : World) (h : g1r_Get.f k a0 = some (r1, r2)) :
  Calls Tryz.prog 23 #[.string a0] w fun e w' => e = .returned (.tuple #[.int .i64 r1, .int .i64 r2]) ∧ Below w.heap.size w w' := by
 have HB := Ad.mk (Below.refl w.heap.size w)
 have H := h
 clear h
 unfold g1r_Get.f at H
 have H' := Ad.mk H
 clear H
 go_enter Tryz.func23, Tryz.ntmps23
 go_wp2
 go_loopg [4] k (fun kq v4 w' => ∃ (x4_1 : Int), v4 = .int .i64 x4_1 ∧ Ad (g1r_Get.l0 kq a0 x4_1 = some (r1, r2)) ∧ Ad (kq ≤ k) ∧ Ad (Below w.heap.size w w'))
 case atStart => exact ⟨(1), e1_, H', ⟨Nat.le_refl _⟩, ⟨b1_⟩⟩
 case round =>
  clear H'
  obtain ⟨x4_1, rfl, HA, HK1, HB⟩ := hrel
  cases gk with
  | zero => exact absurd HA.out (by simp [g1r_Get.l0])
  | succ k1 =>
   have H := HA.out
   clear HA
   simp only [g1r_Get.l0] at H
   have HC2 := Ad.mk H
   clear H
   go_upto_region 2 with (fail)
   go_cut [15] (fun v15 wc => ∃ (kq : Nat) (x15_1 : Bool), v15 = .bool x15_1 ∧ Ad (g1r_Get.j1 kq a0 x4_1 x15_1 = some (r1, r2)) ∧ Ad (kq ≤ k1) ∧ Ad (Below w.heap.size w wc))
   case first =>
    have H := HC2.out
    clear HC2
    by_cases c3 : x4_1 ≤ 4
    ·rw [if_pos c3] at H
     have c3b0 := decide_eq_true c3
     clear c3
     (first | rw [c3b0] | (simp only [i64_w, i32_w]; rw [c3b0]) | skip)
     have H' := Ad.mk H
     clear H
     go_wp2
     go_meet
     case rel => exact ⟨_, (decide (x4_1 ≤ (a0.size : Int))), e1_, H', ⟨o1_⟩, ⟨b1_⟩⟩
    rw [if_neg c3] at H
    have c3b0 := decide_eq_false c3
    clear c3
    (first | rw [c3b0] | (simp only [i64_w, i32_w]; rw [c3b0]) | skip)
    have H' := Ad.mk H
    clear H
    go_wp2
    go_meet
    case rel => exact ⟨_, (false), e1_, H', ⟨o1_⟩, ⟨b1_⟩⟩
   case rest =>
    clear HC2
    obtain ⟨kq, x15_1, rfl, HA, HJ1, HB⟩ := hcut
    cases kq with
    | zero => exact absurd HA.out (by simp [g1r_Get.j1])
    | succ kj1 =>
     have H := HA.out
     clear HA
     simp only [g1r_Get.j1] at H
     by_cases c4 : x15_1 = true
     ·subst c4
      rw [if_pos rfl] at H
      have H' := Ad.mk H
      clear H
      go_wp2
      go_loopg [5, 6] kj1 (fun kq v5 v6 w' => ∃ (x5_3 : Int) (x6_3 : Int), v5 = .int .i64 x5_3 ∧ v6 = .int .i64 x6_3 ∧ Ad (g1r_Get.l1 kq a0 x4_1 x5_3 x6_3 = some (r1, r2)) ∧ Ad (kq ≤ kj1) ∧ Ad (Below w.heap.size w w'))
      case atStart => exact ⟨(0), (0), e1_, e1_, H', ⟨Nat.le_refl _⟩, ⟨b1_⟩⟩
      case round =>
       clear H'
       obtain ⟨x5_3, x6_3, rfl, rfl, HA, HK3, HB⟩ := hrel
       cases gk with
       | zero => exact absurd HA.out (by simp [g1r_Get.l1])
       | succ k3 =>
        have H := HA.out
        clear HA
        simp only [g1r_Get.l1] at H
        by_cases c5 : x6_3 < x4_1
        ·rw [if_pos c5] at H
         have c5b0 := decide_eq_true c5
         clear c5
         by_cases c6 : 0 ≤ x6_3
         ·rw [if_pos c6] at H
          have c6b0 := decide_eq_true c6
          clear c6
          by_cases c7 : x6_3 < (a0.size : Int)
          ·rw [if_pos c7] at H
           have c7b0 := decide_eq_true c7
           clear c7
           have HC9 := Ad.mk H
           clear H
           have p8 : 0 ≤ (x6_3 : Int) := of_decide_eq_true a1_
           have q8 : x6_3 < (a0.size : Int) := of_decide_eq_true a1_
           have hx8 := bt_at a0 x6_3
           replace p8 := eq_true p8
           replace q8 := eq_true q8
           go_upto_region 9 with (fail)
           go_cut [32] (fun v32 wc => ∃ (kq : Nat) (x32_8 : Bool), v32 = .bool x32_8 ∧ Ad (g1r_Get.j3 kq a0 x4_1 x5_3 x6_3 (wrap64 (bt a0 x6_3)) x32_8 = some (r1, r2)) ∧ Ad (kq ≤ k3) ∧ Ad (Below w.heap.size w wc))
           case first =>
            have H := HC9.out
            clear HC9
            by_cases c10 : x6_3 = 0
            ·rw [if_pos c10] at H
             have c10b0 := beq_iff_eq.mpr c10
             have c10b1 := bne_eq_false_iff_eq.mpr c10
             clear c10
             (first | rw [c10b0] | (simp only [i64_w, i32_w]; rw [c10b0]) | skip)
             have H' := Ad.mk H
             clear H
             go_wp2
             go_meet
             case rel => exact ⟨_, (decide (x4_1 > 1)), e1_, H', ⟨z86_⟩, ⟨b1_⟩⟩
            rw [if_neg c10] at H
            have c10b0 := beq_eq_false_iff_ne.mpr c10
            have c10b1 := bne_iff_ne.mpr c10
            (first | rw [c10b0] | (simp only [i64_w, i32_w]; rw [c10b0]) | skip)
            have H' := Ad.mk H
            clear H
            go_wp2
            go_meet
            case rel => exact ⟨_, (false), e1_, H', ⟨z86_⟩, ⟨b1_⟩⟩
           case rest =>
            clear HC9
            try clear c3
            try clear c3b0
            try clear c4
            try clear c5
            try clear c5b0
            try clear c6
            try clear c6b0
            try clear c7
            try clear c7b0
            try clear p8
            try clear q8
            try clear hx8
            try clear p8
            try clear q8
            obtain ⟨kq, x32_8, rfl, HA, HJ8, HB⟩ := hcut
            cases kq with
            | zero => exact absurd HA.out (by simp [g1r_Get.j3])
            | succ kj8 =>
             have H := HA.out
             clear HA
             simp only [g1r_Get.j3] at H
             by_cases c11 : x32_8 = true
             ·subst c11
              rw [if_pos rfl] at H
              replace H := yb_ H
              obtain ⟨y220, hy220, H⟩ := H
              have Ny220 := Ad.mk hy220
              clear hy220
              by_cases c12 : 0 ≤ x4_1
              ·rw [if_pos c12] at H
               have c12b0 := decide_eq_true c12
               clear c12
               by_cases c13 : x4_1 < (y220.length : Int)
               ·rw [if_pos c13] at H
                have c13b0 := decide_eq_true c13
                clear c13
                by_cases c14 : (rd y220 x4_1) = 0
                ·rw [if_pos c14] at H
                 exact absurd H (by simp)
                rw [if_neg c14] at H
                have c14b0 := beq_eq_false_iff_ne.mpr c14
                have c14b1 := bne_iff_ne.mpr c14
                by_cases c15 : x6_3 > 0
                ·rw [if_pos c15] at H
                 have c15b0 : decide (0 < x6_3) = true := decide_eq_true c15
                 clear c15
                 have H' := Ad.mk H
                 clear H
                 go_wp2_with (first | ((with_reducible refine gate_dst (N := 34) rfl ?_); (try (refine gate_guard (by rfl) ?_; dsimp only)); refine Kd.R_lit (Kd.int .i64) _ 3 r1_ (N := 34) r1_ (xs := ([1, 1, 32, 16, 8] : List Int)) (inner := [.int .i64 1, .int .i64 1, .int .i64 32, .int .i64 16, .int .i64 8]) (ok := fun _ => True) (okp := fun _ => True) r2_ ?hp (fun _ hk => hk) trivial (Below.refl _ _) (Nat.le_refl _) (by simp) ?_; (case hp => exact (Reps.one (show Kd.M (Kd.int .i64) _ _ _ 1 [.int .i64 1] from rfl) (Reps.one (show Kd.M (Kd.int .i64) _ _ _ 1 [.int .i64 1] from rfl) (Reps.one (show Kd.M (Kd.int .i64) _ _ _ 32 [.int .i64 32] from rfl) (Reps.one (show Kd.M (Kd.int .i64) _ _ _ 16 [.int .i64 16] from rfl) (Reps.one (show Kd.M (Kd.int .i64) _ _ _ 8 [.int .i64 8] from rfl) (Reps.none _ _))))))); intro v221 w16 ho17 hb hg_ hnew_; clear hg_ hnew_; (first | rw [← Ny220.out] at ho17 | (simp only [Int.reduceToNat] at ho17; rw [← Ny220.out] at ho17)); have HO222 := Ad.mk (Kd.R_lower ho17 (below_size b1_)); replace HB := Ad.mk (below_step b1_ hb); clear hb ho17; obtain ⟨Ao18, co18, eo18⟩ := Kd.R_slice HO222.out; subst eo18; have p223 : 0 ≤ (x4_1 : Int) := of_decide_eq_true a1_; have q223 : x4_1 < (y220.length : Int) := of_decide_eq_true a1_; obtain ⟨ad223, e223, hx223_0⟩ := Kd.at_int (Kd.R_reads' HO222.out).2.2 x4_1 p223 q223; cases e223; replace p223 := eq_true p223; replace q223 := eq_true q223))
                 go_roundg kj8
                 case measure => have := HK1.out; have := HJ1.out; have := HK3.out; have := HJ8.out; omega
                 case rel => exact ⟨(wrap64 ((wrap64 (64 * x5_3)) + (Int.tmod (Int.tmod (wrap64 (bt a0 x6_3)) (rd y220 x4_1)) 64))), (wrap64 (x6_3 + 1)), e1_, e1_, H', ⟨z51_⟩, ⟨b1_⟩⟩
                rw [if_neg c15] at H
                have c15b0 : decide (0 < x6_3) = false := decide_eq_false c15
                clear c15
                have H' := Ad.mk H
                clear H
                go_wp2_with (first | ((with_reducible refine gate_dst (N := 34) rfl ?_); (try (refine gate_guard (by rfl) ?_; dsimp only)); refine Kd.R_lit (Kd.int .i64) _ 3 r1_ (N := 34) r1_ (xs := ([1, 1, 32, 16, 8] : List Int)) (inner := [.int .i64 1, .int .i64 1, .int .i64 32, .int .i64 16, .int .i64 8]) (ok := fun _ => True) (okp := fun _ => True) r2_ ?hp (fun _ hk => hk) trivial (Below.refl _ _) (Nat.le_refl _) (by simp) ?_; (case hp => exact (Reps.one (show Kd.M (Kd.int .i64) _ _ _ 1 [.int .i64 1] from rfl) (Reps.one (show Kd.M (Kd.int .i64) _ _ _ 1 [.int .i64 1] from rfl) (Reps.one (show Kd.M (Kd.int .i64) _ _ _ 32 [.int .i64 32] from rfl) (Reps.one (show Kd.M (Kd.int .i64) _ _ _ 16 [.int .i64 16] from rfl) (Reps.one (show Kd.M (Kd.int .i64) _ _ _ 8 [.int .i64 8] from rfl) (Reps.none _ _))))))); intro v221 w19 ho20 hb hg_ hnew_; clear hg_ hnew_; (first | rw [← Ny220.out] at ho20 | (simp only [Int.reduceToNat] at ho20; rw [← Ny220.out] at ho20)); have HO222 := Ad.mk (Kd.R_lower ho20 (below_size b1_)); replace HB := Ad.mk (below_step b1_ hb); clear hb ho20; obtain ⟨Ao21, co21, eo21⟩ := Kd.R_slice HO222.out; subst eo21; have p223 : 0 ≤ (x4_1 : Int) := of_decide_eq_true a1_; have q223 : x4_1 < (y220.length : Int) := of_decide_eq_true a1_; obtain ⟨ad223, e223, hx223_0⟩ := Kd.at_int (Kd.R_reads' HO222.out).2.2 x4_1 p223 q223; cases e223; replace p223 := eq_true p223; replace q223 := eq_true q223))
                go_roundg kj8
                case measure => have := HK1.out; have := HJ1.out; have := HK3.out; have := HJ8.out; omega
                case rel => exact ⟨(wrap64 ((wrap64 (64 * x5_3)) + (Int.tmod (wrap64 (bt a0 x6_3)) (rd y220 x4_1)))), (wrap64 (x6_3 + 1)), e1_, e1_, H', ⟨z51_⟩, ⟨b1_⟩⟩
               rw [if_neg c13] at H
               exact absurd H (by simp)
              rw [if_neg c12] at H
              exact absurd H (by simp)
             replace c11 := Bool.eq_false_iff.mpr c11
             subst c11
             rw [if_neg (show ¬ (false = true) by decide)] at H
             by_cases c22 : x6_3 > 0
             ·rw [if_pos c22] at H
              have c22b0 : decide (0 < x6_3) = true := decide_eq_true c22
              clear c22
              have H' := Ad.mk H
              clear H
              go_wp2
              go_roundg kj8
              case measure => have := HK1.out; have := HJ1.out; have := HK3.out; have := HJ8.out; omega
              case rel => exact ⟨(wrap64 ((wrap64 (64 * x5_3)) + (Int.tmod (wrap64 (bt a0 x6_3)) 64))), (wrap64 (x6_3 + 1)), e1_, e1_, H', ⟨z51_⟩, ⟨b1_⟩⟩
             rw [if_neg c22] at H
             have c22b0 : decide (0 < x6_3) = false := decide_eq_false c22
             clear c22
             have H' := Ad.mk H
             clear H
             go_wp2
             go_roundg kj8
             case measure => have := HK1.out; have := HJ1.out; have := HK3.out; have := HJ8.out; omega
             case rel => exact ⟨(wrap64 ((wrap64 (64 * x5_3)) + (wrap64 (bt a0 x6_3)))), (wrap64 (x6_3 + 1)), e1_, e1_, H', ⟨z51_⟩, ⟨b1_⟩⟩
          rw [if_neg c7] at H
          exact absurd H (by simp)
         rw [if_neg c6] at H
         exact absurd H (by simp)
        rw [if_neg c5] at H
        have c5b0 := decide_eq_false c5
        clear c5
        obtain ⟨t224, A23, H⟩ := bi_ H
        by_cases c24 : t224 = true
        ·subst c24
         rw [if_pos rfl] at H
         obtain ⟨t225, A25, H⟩ := bi_ H
         by_cases c26 : 0 ≤ x4_1
         ·rw [if_pos c26] at H
          have c26b0 := eq_true c26
          have c26b1 := decide_eq_true c26
          clear c26
          by_cases c27 : x4_1 ≤ (a0.size : Int)
          ·rw [if_pos c27] at H
           have c27b0 := eq_true c27
           have c27b1 := decide_eq_true c27
           clear c27
           by_cases c28 : (strOfNums t225).toList = (a0.extract 0 (x4_1 : Int).toNat).toList
           ·rw [if_pos c28] at H
            have c28b0 := beq_iff_eq.mpr c28
            have c28b1 := bne_eq_false_iff_eq.mpr c28
            clear c28
            simp only [Option.some.injEq, Prod.mk.injEq] at H
            obtain ⟨rfl, rfl⟩ := H
            try go_wp2
            have n0_ := Ad.mk (below_drew1 HB.out)
            clear HB
            have HB := n0_
            clear n0_
            refine start_ (n := 11) (S := fun w' => True) (ds := []) #[false, false, false, false, false, false, false, false, false, false, false] k1_ rfl rfl trivial (fun hHeld => ?_); refine with_tabW g1r_Get.tab14 g1r_Get.bits14 (fun HT_ HW_ => ?_)
            generalize wr.drew = w29 at HB hHeld ⊢
            refine pure_ (i := 0) (N := some 47) #[true, false, false, false, false, false, false, false, false, false, false] rfl rfl (any_of HT_.out k1_) (fun _ _ _ h => h) (Or.inl ⟨by rfl, py_⟩) pa_ ?_
            refine one_ (i := 1) (N := some 48) #[true, true, false, false, false, false, false, false, false, false, false] rfl rfl (one_of HT_.out k1_) (by decide) (fun K hK => ?_)
            refine goes_ Tryz.func41 k1_ rfl #[.int .i64 x5_3] (by rfl) rfl rfl g1_ ?_
            with_reducible refine (g1r_May.calls x5_3 true _ A23.out).mono ?_
            rintro e w' ⟨rfl, ⟨nd, rfl⟩⟩
            refine ⟨_, rfl, ?_⟩
            refine hK.out _ _ trivial (fun hHeld => ?_)
            clear hK K
            refine norm_ (a' := ?_) ?_ ?_
            rotate_left
            ·show Act.put _ (some 48) _ = _
             simp only [Act.put, List.setIfInBounds_toArray, List.set_cons_zero, List.set_cons_succ, i64_w, i32_w]
             rfl
            refine pure_ (i := 2) (N := some 49) #[true, true, true, false, false, false, false, false, false, false, false] rfl rfl (any_of HT_.out k1_) (fun _ _ _ h => h) (Or.inl ⟨by rfl, py_⟩) pa_ ?_
            refine pure_ (i := 3) (N := some 50) #[true, true, true, true, false, false, false, false, false, false, false] rfl rfl (any_of HT_.out k1_) (fun _ _ _ h => h) (Or.inl ⟨by rfl, py_⟩) pa_ ?_
            refine pure_ (i := 6) (N := some 53) #[true, true, true, true, false, false, true, false, false, false, false] rfl rfl (any_of HT_.out k1_) (fun _ _ _ h => h) (Or.inl ⟨by rfl, py_⟩) pa_ ?_
            refine pure_ (i := 7) (N := some 54) #[true, true, true, true, false, false, true, true, false, false, false] rfl rfl (any_of HT_.out k1_) (fun _ _ _ h => h) (Or.inl ⟨by rfl, py_⟩) pa_ ?_
            refine pure_ (i := 8) (N := some 55) #[true, true, true, true, false, false, true, true, true, false, false] rfl rfl (any_of HT_.out k1_) (fun _ _ _ h => h) (Or.inl ⟨by rfl, py_⟩) pa_ ?_
            refine one_ (i := 4) (N := some 51) #[true, true, true, true, true, false, true, true, true, false, false] rfl rfl (one_of HT_.out k1_) (by decide) (fun K hK => ?_)
            refine goes_ Tryz.func42 k1_ rfl #[.int .i64 x5_3] (by rfl) rfl rfl g1_ ?_
            with_reducible refine (g1r_Put.calls x5_3 t225 _ A25.out).mono ?_
            rintro e w30 ⟨v226, rfl, ho0, hb⟩
            refine ⟨_, rfl, ?_⟩
            have n0_ := Ad.mk (Kd.R_lower ho0 (below_size b1_))
            have n1_ := Ad.mk (below_step b1_ hb)
            clear HB
            have HO227 := n0_
            have HB := n1_
            clear n0_ n1_
            (try clear hb)
            (try clear hb2)
            (try clear hk)
            (try clear hi)
            (try clear ho0)
            refine hK.out _ _ trivial (fun hHeld => ?_)
            clear hK K
            refine norm_ (a' := ?_) ?_ ?_
            rotate_left
            ·show Act.put _ (some 51) _ = _
             simp only [Act.put, List.setIfInBounds_toArray, List.set_cons_zero, List.set_cons_succ, i64_w, i32_w]
             rfl
            refine one_ (i := 5) (N := some 52) #[true, true, true, true, true, true, true, true, true, false, false] rfl rfl (one_of HT_.out k1_) (by decide) (fun K hK => ?_)
            have hcv31 := own_string (P := Tryz.prog) Tryz.underlying88 Tryz.underlying5 Tryz.underlying9 (Kd.own_of_R HO227.out)
            refine value_ (w1 := ?_) (v := ?_) (by rfl) rfl ?_ ?_
            rotate_left 2
            ·go_simp
             constructor
             ·rfl
             rfl
            clear hcv31
            refine hK.out _ _ trivial (fun hHeld => ?_)
            clear hK K
            refine norm_ (a' := ?_) ?_ ?_
            rotate_left
            ·show Act.put _ (some 52) _ = _
             simp only [Act.put, List.setIfInBounds_toArray, List.set_cons_zero, List.set_cons_succ, i64_w, i32_w]
             rfl
            refine pure_ (i := 9) (N := some 56) #[true, true, true, true, true, true, true, true, true, true, false] rfl rfl (any_of HT_.out k1_) (fun _ _ _ h => h) (Or.inl ⟨by rfl, py_⟩) pa_ ?_
            refine pure_ (i := 10) (N := some 57) #[true, true, true, true, true, true, true, true, true, true, true] rfl rfl (any_of HT_.out k1_) (fun _ _ _ h => h) (Or.inl ⟨by rfl, py_⟩) pa_ ?_
            refine done_ (done_of HT_.out k1_) ?_
            try go_wp2
            go_ret2
            exact ⟨e2_, b1_⟩
           rw [if_neg c28] at H
           have c28b0 := beq_eq_false_iff_ne.mpr c28
           have c28b1 := bne_iff_ne.mpr c28
           have H' := Ad.mk H
           clear H
           try go_wp2
           have n0_ := Ad.mk (below_drew1 HB.out)
           clear HB
           have HB := n0_
           clear n0_
           refine start_ (n := 11) (S := fun w' => True) (ds := []) #[false, false, false, false, false, false, false, false, false, false, false] k1_ rfl rfl trivial (fun hHeld => ?_); refine with_tabW g1r_Get.tab14 g1r_Get.bits14 (fun HT_ HW_ => ?_)
           generalize wr.drew = w32 at HB hHeld ⊢
           refine pure_ (i := 0) (N := some 47) #[true, false, false, false, false, false, false, false, false, false, false] rfl rfl (any_of HT_.out k1_) (fun _ _ _ h => h) (Or.inl ⟨by rfl, py_⟩) pa_ ?_
           refine one_ (i := 1) (N := some 48) #[true, true, false, false, false, false, false, false, false, false, false] rfl rfl (one_of HT_.out k1_) (by decide) (fun K hK => ?_)
           refine goes_ Tryz.func41 k1_ rfl #[.int .i64 x5_3] (by rfl) rfl rfl g1_ ?_
           with_reducible refine (g1r_May.calls x5_3 true _ A23.out).mono ?_
           rintro e w' ⟨rfl, ⟨nd, rfl⟩⟩
           refine ⟨_, rfl, ?_⟩
           refine hK.out _ _ trivial (fun hHeld => ?_)
           clear hK K
           refine norm_ (a' := ?_) ?_ ?_
           rotate_left
           ·show Act.put _ (some 48) _ = _
            simp only [Act.put, List.setIfInBounds_toArray, List.set_cons_zero, List.set_cons_succ, i64_w, i32_w]
            rfl
           refine pure_ (i := 2) (N := some 49) #[true, true, true, false, false, false, false, false, false, false, false] rfl rfl (any_of HT_.out k1_) (fun _ _ _ h => h) (Or.inl ⟨by rfl, py_⟩) pa_ ?_
           refine pure_ (i := 3) (N := some 50) #[true, true, true, true, false, false, false, false, false, false, false] rfl rfl (any_of HT_.out k1_) (fun _ _ _ h => h) (Or.inl ⟨by rfl, py_⟩) pa_ ?_
           refine pure_ (i := 6) (N := some 53) #[true, true, true, true, false, false, true, false, false, false, false] rfl rfl (any_of HT_.out k1_) (fun _ _ _ h => h) (Or.inl ⟨by rfl, py_⟩) pa_ ?_
           refine pure_ (i := 7) (N := some 54) #[true, true, true, true, false, false, true, true, false, false, false] rfl rfl (any_of HT_.out k1_) (fun _ _ _ h => h) (Or.inl ⟨by rfl, py_⟩) pa_ ?_
           refine pure_ (i := 8) (N := some 55) #[true, true, true, true, false, false, true, true, true, false, false] rfl rfl (any_of HT_.out k1_) (fun _ _ _ h => h) (Or.inl ⟨by rfl, py_⟩) pa_ ?_
           refine one_ (i := 4) (N := some 51) #[true, true, true, true, true, false, true, true, true, false, false] rfl rfl (one_of HT_.out k1_) (by decide) (fun K hK => ?_)
           refine goes_ Tryz.func42 k1_ rfl #[.int .i64 x5_3] (by rfl) rfl rfl g1_ ?_
           with_reducible refine (g1r_Put.calls x5_3 t225 _ A25.out).mono ?_
           rintro e w33 ⟨v226, rfl, ho0, hb⟩
           refine ⟨_, rfl, ?_⟩
           have n0_ := Ad.mk (Kd.R_lower ho0 (below_size b1_))
           have n1_ := Ad.mk (below_step b1_ hb)
           clear HB
           have HO227 := n0_
           have HB := n1_
           clear n0_ n1_
           (try clear hb)
           (try clear hb2)
           (try clear hk)
           (try clear hi)
           (try clear ho0)
           refine hK.out _ _ trivial (fun hHeld => ?_)
           clear hK K
           refine norm_ (a' := ?_) ?_ ?_
           rotate_left
           ·show Act.put _ (some 51) _ = _
            simp only [Act.put, List.setIfInBounds_toArray, List.set_cons_zero, List.set_cons_succ, i64_w, i32_w]
            rfl
           refine one_ (i := 5) (N := some 52) #[true, true, true, true, true, true, true, true, true, false, false] rfl rfl (one_of HT_.out k1_) (by decide) (fun K hK => ?_)
           have hcv34 := own_string (P := Tryz.prog) Tryz.underlying88 Tryz.underlying5 Tryz.underlying9 (Kd.own_of_R HO227.out)
           refine value_ (w1 := ?_) (v := ?_) (by rfl) rfl ?_ ?_
           rotate_left 2
           ·go_simp
            constructor
            ·rfl
            rfl
           clear hcv34
           refine hK.out _ _ trivial (fun hHeld => ?_)
           clear hK K
           refine norm_ (a' := ?_) ?_ ?_
           rotate_left
           ·show Act.put _ (some 52) _ = _
            simp only [Act.put, List.setIfInBounds_toArray, List.set_cons_zero, List.set_cons_succ, i64_w, i32_w]
            rfl
           refine pure_ (i := 9) (N := some 56) #[true, true, true, true, true, true, true, true, true, true, false] rfl rfl (any_of HT_.out k1_) (fun _ _ _ h => h) (Or.inl ⟨by rfl, py_⟩) pa_ ?_
           refine pure_ (i := 10) (N := some 57) #[true, true, true, true, true, true, true, true, true, true, true] rfl rfl (any_of HT_.out k1_) (fun _ _ _ h => h) (Or.inl ⟨by rfl, py_⟩) pa_ ?_
           refine done_ (done_of HT_.out k1_) ?_
           try go_wp2
           go_roundg k3
           case measure => have := HK1.out; have := HJ1.out; have := HK3.out; omega
           case rel => exact ⟨(wrap64 (x4_1 + 1)), e1_, H', ⟨by have := HK1.out; have := HJ1.out; have := HK3.out; omega⟩, ⟨b1_⟩⟩
          rw [if_neg c27] at H
          exact absurd H (by simp)
         rw [if_neg c26] at H
         exact absurd H (by simp)
        replace c24 := Bool.eq_false_iff.mpr c24
        subst c24
        rw [if_neg (show ¬ (false = true) by decide)] at H
        have H' := Ad.mk H
        clear H
        try go_wp2
        have n0_ := Ad.mk (below_drew1 HB.out)
        clear HB
        have HB := n0_
        clear n0_
        refine start_ (n := 11) (S := fun w' => True) (ds := []) #[false, false, false, false, false, false, false, false, false, false, false] k1_ rfl rfl trivial (fun hHeld => ?_); refine with_tabW g1r_Get.tab14 g1r_Get.bits14 (fun HT_ HW_ => ?_)
        generalize wr.drew = w35 at HB hHeld ⊢
        refine pure_ (i := 0) (N := some 47) #[true, false, false, false, false, false, false, false, false, false, false] rfl rfl (any_of HT_.out k1_) (fun _ _ _ h => h) (Or.inl ⟨by rfl, py_⟩) pa_ ?_
        refine one_ (i := 1) (N := some 48) #[true, true, false, false, false, false, false, false, false, false, false] rfl rfl (one_of HT_.out k1_) (by decide) (fun K hK => ?_)
        refine goes_ Tryz.func41 k1_ rfl #[.int .i64 x5_3] (by rfl) rfl rfl g1_ ?_
        with_reducible refine (g1r_May.calls x5_3 false _ A23.out).mono ?_
        rintro e w' ⟨rfl, ⟨nd, rfl⟩⟩
        refine ⟨_, rfl, ?_⟩
        refine hK.out _ _ trivial (fun hHeld => ?_)
        clear hK K
        refine norm_ (a' := ?_) ?_ ?_
        rotate_left
        ·show Act.put _ (some 48) _ = _
         simp only [Act.put, List.setIfInBounds_toArray, List.set_cons_zero, List.set_cons_succ, i64_w, i32_w]
         rfl
        refine pure_ (i := 2) (N := some 49) #[true, true, true, false, false, false, false, false, false, false, false] rfl rfl (any_of HT_.out k1_) (fun _ _ _ h => h) (Or.inl ⟨by rfl, py_⟩) pa_ ?_
        refine pure_ (i := 3) (N := some 50) (v := undef) (a' := ?_) #[true, true, true, true, false, false, false, false, false, false, false] rfl rfl (any_of HT_.out k1_) (fun _ _ _ h => h) (Or.inr ⟨by rfl, rfl⟩) ?_ ?_
        rotate_left
        ·simp only [Act.put, List.setIfInBounds_toArray, List.set_cons_zero, List.set_cons_succ, i64_w, i32_w]
         rfl
        refine pure_ (i := 4) (N := some 51) (v := undef) (a' := ?_) #[true, true, true, true, true, false, false, false, false, false, false] rfl rfl (any_of HT_.out k1_) (fun _ _ _ h => h) (Or.inr ⟨by rfl, rfl⟩) ?_ ?_
        rotate_left
        ·simp only [Act.put, List.setIfInBounds_toArray, List.set_cons_zero, List.set_cons_succ, i64_w, i32_w]
         rfl
        refine pure_ (i := 5) (N := some 52) (v := undef) (a' := ?_) #[true, true, true, true, true, true, false, false, false, false, false] rfl rfl (any_of HT_.out k1_) (fun _ _ _ h => h) (Or.inr ⟨by rfl, rfl⟩) ?_ ?_
        rotate_left
        ·simp only [Act.put, List.setIfInBounds_toArray, List.set_cons_zero, List.set_cons_succ, i64_w, i32_w]
         rfl
        refine pure_ (i := 6) (N := some 53) (v := undef) (a' := ?_) #[true, true, true, true, true, true, true, false, false, false, false] rfl rfl (any_of HT_.out k1_) (fun _ _ _ h => h) (Or.inr ⟨by rfl, rfl⟩) ?_ ?_
        rotate_left
        ·simp only [Act.put, List.setIfInBounds_toArray, List.set_cons_zero, List.set_cons_succ, i64_w, i32_w]
         rfl
        refine pure_ (i := 7) (N := some 54) (v := undef) (a' := ?_) #[true, true, true, true, true, true, true, true, false, false, false] rfl rfl (any_of HT_.out k1_) (fun _ _ _ h => h) (Or.inr ⟨by rfl, rfl⟩) ?_ ?_
        rotate_left
        ·simp only [Act.put, List.setIfInBounds_toArray, List.set_cons_zero, List.set_cons_succ, i64_w, i32_w]
         rfl
        refine pure_ (i := 8) (N := some 55) (v := undef) (a' := ?_) #[true, true, true, true, true, true, true, true, true, false, false] rfl rfl (any_of HT_.out k1_) (fun _ _ _ h => h) (Or.inr ⟨by rfl, rfl⟩) ?_ ?_
        rotate_left
        ·simp only [Act.put, List.setIfInBounds_toArray, List.set_cons_zero, List.set_cons_succ, i64_w, i32_w]
         rfl
        refine pure_ (i := 9) (N := some 56) (v := undef) (a' := ?_) #[true, true, true, true, true, true, true, true, true, true, false] rfl rfl (any_of HT_.out k1_) (fun _ _ _ h => h) (Or.inr ⟨by rfl, rfl⟩) ?_ ?_
        rotate_left
        ·simp only [Act.put, List.setIfInBounds_toArray, List.set_cons_zero, List.set_cons_succ, i64_w, i32_w]
         rfl
        refine pure_ (i := 10) (N := some 57) #[true, true, true, true, true, true, true, true, true, true, true] rfl rfl (any_of HT_.out k1_) (fun _ _ _ h => h) (Or.inl ⟨by rfl, py_⟩) pa_ ?_
        refine done_ (done_of HT_.out k1_) ?_
        try go_wp2
        go_roundg k3
        case measure => have := HK1.out; have := HJ1.out; have := HK3.out; omega
        case rel => exact ⟨(wrap64 (x4_1 + 1)), e1_, H', ⟨by have := HK1.out; have := HJ1.out; have := HK3.out; omega⟩, ⟨b1_⟩⟩
     replace c4 := Bool.eq_false_iff.mpr c4
     subst c4
     rw [if_neg (show ¬ (false = true) by decide)] at H
     simp only [Option.some.injEq, Prod.mk.injEq] at H
     obtain ⟨rfl, rfl⟩ := H
     go_wp2
     go_ret2
     exact ⟨e2_, b1_⟩
def g1r_Runes.l0 : Nat → ByteArray → List (S61) → Int → Option ((List (S61)) × Int)
 | 0, _, _, _ => none
 | k + 1, x0, x4, x5 => if x5 < (x0.size : Int) then (if 0 ≤ x5 then (if x5 ≤ (mn (x0.size : Int) (wrap64 (x5 + 4))) then (if (mn (x0.size : Int) (wrap64 (x5 + 4))) ≤ (x0.size : Int) then ((g1r_Get.f k (x0.extract (x5 : Int).toNat ((mn (x0.size : Int) (wrap64 (x5 + 4))) : Int).toNat)).bind fun bt228 => (if bt228.2 = 0 then (some (x4, x5)) else (if x4.length < 8796093022208 then (g1r_Runes.l0 k x0 (x4 ++ [(⟨x5, bt228.1⟩ : S61)]) (wrap64 (x5 + bt228.2))) else (none)))) else (none)) else (none)) else (none)) else (some (x4, x5))
def g1r_Runes.f (k : Nat) (a0 : ByteArray) : Option ((List (S61)) × Int) := g1r_Runes.l0 k a0 ([] : List (S61)) 0
theorem g1r_Runes.calls (k : Nat) (a0 : ByteArray) (r1 : List (S61)) (r2 : Int) (w : World) (h : g1r_Runes.f k a0 = some (r1, r2)) :
  Calls Tryz.prog 14 #[.string a0] w fun e w' => ∃ v0_ : Value, e = .returned (.tuple #[v0_, .int .i64 r2]) ∧ Kd.R k61 61 w' w.heap.size (fun _ => True) v0_ r1 ∧ Below w.heap.size w w' := by
 have hu61 := Tryz.underlying61
 have HB := Ad.mk (Below.refl w.heap.size w)
 have H := h
 clear h
 unfold g1r_Runes.f at H
 have H' := Ad.mk H
 clear H
 go_enter Tryz.func14, Tryz.ntmps14
 go_wp2
 go_loopg [4, 5] k (fun kq v4 v5 w' => ∃ (x4_1 : List (S61)) (x5_1 : Int), v5 = .int .i64 x5_1 ∧ Ad (g1r_Runes.l0 kq a0 x4_1 x5_1 = some (r1, r2)) ∧ Ad (kq ≤ k) ∧ Ad (Kd.R k61 61 w' w.heap.size (fun _ => True) v4 x4_1) ∧ Ad (Below w.heap.size w w'))
 case atStart => exact ⟨(([] : List (S61))), (0), e1_, H', ⟨Nat.le_refl _⟩, ⟨z24_⟩, ⟨b1_⟩⟩
 case round =>
  clear H'
  try clear c1
  obtain ⟨x4_1, x5_1, rfl, HA, HK1, HO_4, HB⟩ := hrel
  cases gk with
  | zero => exact absurd HA.out (by simp [g1r_Runes.l0])
  | succ k1 =>
   have H := HA.out
   clear HA
   simp only [g1r_Runes.l0] at H
   by_cases c2 : x5_1 < (a0.size : Int)
   ·rw [if_pos c2] at H
    have c2b0 := decide_eq_true c2
    clear c2
    obtain ⟨ji3, hji3⟩ : ∃ j_ : Int, (mn (a0.size : Int) (wrap64 (x5_1 + 4))) = j_ := ⟨_, rfl⟩
    replace H : (if 0 ≤ x5_1 then (if x5_1 ≤ (ji3) then (if (ji3) ≤ (a0.size : Int) then ((g1r_Get.f k1 (a0.extract (x5_1 : Int).toNat ((ji3) : Int).toNat)).bind fun bt228 => (if bt228.2 = 0 then (some (x4_1, x5_1)) else (if x4_1.length < 8796093022208 then (g1r_Runes.l0 k1 a0 (x4_1 ++ [(⟨x5_1, bt228.1⟩ : S61)]) (wrap64 (x5_1 + bt228.2))) else (none)))) else (none)) else (none)) else (none)) = some (r1, r2) := by first | (rw [hji3] at H; exact H) | (simp only [hji3] at H ⊢; exact H)
    have hji3_ : (if (wrap64 (x5_1 + 4)) < (a0.size : Int) then (wrap64 (x5_1 + 4)) else (a0.size : Int)) = ji3 := hji3
    by_cases c4 : 0 ≤ x5_1
    ·rw [if_pos c4] at H
     have c4b0 := eq_true c4
     have c4b1 := decide_eq_true c4
     clear c4
     by_cases c5 : x5_1 ≤ (ji3)
     ·rw [if_pos c5] at H
      have c5b0 := eq_true c5
      have c5b1 := decide_eq_true c5
      clear c5
      by_cases c6 : (ji3) ≤ (a0.size : Int)
      ·rw [if_pos c6] at H
       have c6b0 := eq_true c6
       have c6b1 := decide_eq_true c6
       clear c6
       obtain ⟨⟨t228, t229⟩, A7, H⟩ := bi_ H
       try dsimp only at H
       by_cases c8 : t229 = 0
       ·rw [if_pos c8] at H
        have c8b0 := beq_iff_eq.mpr c8
        have c8b1 := bne_eq_false_iff_eq.mpr c8
        clear c8
        simp only [Option.some.injEq, Prod.mk.injEq] at H
        obtain ⟨rfl, rfl⟩ := H
        go_wp2_with (first | ((with_reducible refine gate_callee (f := 23) rfl ?_); refine goesL_ (some 21) rfl rfl Tryz.func23 k1_ rfl #[.string (a0.extract (x5_1 : Int).toNat ((ji3) : Int).toNat)] rfl z87_ ?_; (with_reducible refine (g1r_Get.calls k1 (a0.extract (x5_1 : Int).toNat ((ji3) : Int).toNat) t228 t229 _ A7.out).mono ?_); rintro e w9 ⟨rfl, hb⟩; refine ⟨_, rfl, ?_⟩; replace HO_4 := Ad.mk (Kd.R_below (by have G0 := HO_4; exact z3_) hb); replace HB := Ad.mk (below_step b1_ hb); clear hb))
        go_ret2
        exact ⟨_, by first | rfl | (simp [errW_none, errW_some] <;> rfl) | (simp only [← hji3]; first | rfl | (simp [errW_none, errW_some] <;> rfl)) | (simp [*, errW_none, errW_some] <;> rfl), by have G0 := HO_4; exact z3_, b1_⟩
       rw [if_neg c8] at H
       have c8b0 := beq_eq_false_iff_ne.mpr c8
       have c8b1 := bne_iff_ne.mpr c8
       by_cases c10 : x4_1.length < 8796093022208
       ·rw [if_pos c10] at H
        have LMc10 := Ad.mk c10
        clear c10
        generalize hy230 : (x4_1 ++ [(⟨x5_1, t228⟩ : S61)]) = y230 at H
        replace hy230 := hy230.symm
        have Ny230 := Ad.mk hy230
        clear hy230
        have H' := Ad.mk H
        clear H
        go_wp2_with (first | ((with_reducible refine gate_callee (f := 23) rfl ?_); refine goesL_ (some 21) rfl rfl Tryz.func23 k1_ rfl #[.string (a0.extract (x5_1 : Int).toNat ((ji3) : Int).toNat)] rfl z87_ ?_; (with_reducible refine (g1r_Get.calls k1 (a0.extract (x5_1 : Int).toNat ((ji3) : Int).toNat) t228 t229 _ A7.out).mono ?_); rintro e w11 ⟨rfl, hb⟩; refine ⟨_, rfl, ?_⟩; replace HO_4 := Ad.mk (Kd.R_below (by have G0 := HO_4; exact z3_) hb); replace HB := Ad.mk (below_step b1_ hb); clear hb) | ((with_reducible refine gate_builtin (b := .append) (xs := #[(.tmp 26), .tmp 30]) rfl ?_); at_builtin; refine Kd.R_append k61 (w0 := w) w.heap.size rfl (.tmp 26) (.tmp 30) 45 61 (.agg #[(.int .i64 0), (.int .i64 0)]) 16 rfl Tryz.underlying45 info61 rfl (by decide) (by omega) u4 x4_1 (⟨x5_1, t228⟩ : S61) [.int .i64 x5_1, .int .i64 t228] (fun _ => True) (fun _ => False) rfl rfl ?aP (fun _ hk => hk.elim) ?aF ?aO ?aB ?aS ?aL ?_; (case aP => exact k61_mkM _ _ _ (⟨x5_1, t228⟩ : S61)); (case aB => exact b1_); (case aF => exact (fun _ _ => trivial)); (case aO => exact (by have G0 := HO_4; exact z3_)); (case aS => exact (below_size b1_)); (case aL => have := LMc10.out; omega); intro v231 w12 ho hb hg hat; rw [← Ny230.out] at ho; have n0_ := Ad.mk (hb); have n1_ := Ad.mk (ho); clear HB; clear HO_4; have HB := n0_; have HO232 := n1_; clear n0_ n1_; clear ho hb hg hat))
        go_roundg k1
        case measure => have := HK1.out; omega
        case rel => exact ⟨(y230), (wrap64 (x5_1 + t229)), e1_, H', ⟨by have := HK1.out; omega⟩, ⟨by have G0 := HO232; exact z3_⟩, ⟨b1_⟩⟩
       rw [if_neg c10] at H
       exact absurd H (by simp)
      rw [if_neg c6] at H
      exact absurd H (by simp)
     rw [if_neg c5] at H
     exact absurd H (by simp)
    rw [if_neg c4] at H
    exact absurd H (by simp)
   rw [if_neg c2] at H
   have c2b0 := decide_eq_false c2
   clear c2
   simp only [Option.some.injEq, Prod.mk.injEq] at H
   obtain ⟨rfl, rfl⟩ := H
   go_wp2
   go_ret2
   exact ⟨_, e2_, by have G0 := HO_4; exact z3_, b1_⟩
end Go.Proofs.YtpbphelaeleikaaGreatDoor.PLt

import Derived.Test.YtpbphelaeleikaaGreatDoorXtPLtx0
import Derived.Test.YtpbphelaeleikaaGreatDoorXtPLtx6
import Derived.Test.YtpbphelaeleikaaGreatDoorXtPLtx10
namespace Go.Proofs.YtpbphelaeleikaaGreatDoor.PLt
open Go.RowKit Go.Proofs.YtpbphelaeleikaaGreatDoorW.PrintWords Go.Proofs.YtpbphelaeleikaaGreatDoorW.PrintLast Go.Proofs.YtpbphelaeleikaaGreatDoorW.PrintMore
attribute [local go_sem] max2_int min2_int max_two min_two max_three min_three max_four min_four
set_option linter.unusedVariables false
set_option linter.unusedSimpArgs false
set_option maxHeartbeats 8000000
set_option maxRecDepth 100000
mutual
def g4_escape.j0 : Nat → ByteArray → Int → Bool → Int → Int → Option (List Int × Int)
 | 0, _, _, _, _, _ => none
 | k + 1, x0, x1, x2, x8, x9 => if x8 = 85 then (g4_escape.j1 k x0 x1 x2 x8 8) else (g4_escape.j1 k x0 x1 x2 x8 x9)
def g4_escape.j1 : Nat → ByteArray → Int → Bool → Int → Int → Option (List Int × Int)
 | 0, _, _, _, _, _ => none
 | k + 1, x0, x1, x2, x8, x9 => if x9 > 0 then (g4_escape.l0 k x0 x1 x9 0 0) else (if x2 = true then (g4_escape.l1 k x1 x8 (⟨#[116, 98, 110, 114, 102, 34, 39, 92]⟩ : ByteArray) (⟨#[9, 8, 10, 13, 12, 34, 39, 92]⟩ : ByteArray) 0) else (some (([] : List Int), (-1))))
def g4_escape.l0 : Nat → ByteArray → Int → Int → Int → Int → Option (List Int × Int)
 | 0, _, _, _, _, _ => none
 | k + 1, x0, x1, x9, x10, x11 => if x11 < x9 then ((g4_ch.f x0 (wrap64 ((wrap64 (x1 + 2)) + x11))).bind fun t253 => ((g4_hex.f k t253).bind fun t254 => (if t254 < 0 then (some (([] : List Int), (-1))) else (g4_escape.l0 k x0 x1 x9 (wrap64 ((wrap64 (16 * x10)) + t254)) (wrap64 (x11 + 1)))))) else ((g1r_May.f x10).bind fun t255 => (if t255 = true then ((g1r_Put.f x10).bind fun t256 => (some (t256, wrap64 ((wrap64 (x1 + 2)) + x9)))) else (some (([] : List Int), (-1)))))
def g4_escape.l1 : Nat → Int → Int → ByteArray → ByteArray → Int → Option (List Int × Int)
 | 0, _, _, _, _, _ => none
 | k + 1, x1, x8, x13, x14, x15 => if x15 < (x13.size : Int) then (if 0 ≤ x15 then (if (bt x13 x15) = x8 then (if x15 < (x14.size : Int) then (some ((([bt x14 x15] : List Int)), wrap64 (x1 + 2))) else (none)) else (g4_escape.l1 k x1 x8 x13 x14 (wrap64 (x15 + 1)))) else (none)) else (some (([] : List Int), (-1)))
end
def g4_escape.f (k : Nat) (a0 : ByteArray) (a1 : Int) (a2 : Bool) : Option (List Int × Int) := (g4_ch.f a0 (wrap64 (a1 + 1))).bind fun t252 => (if t252 = 117 then (g4_escape.j0 k a0 a1 a2 t252 4) else (g4_escape.j0 k a0 a1 a2 t252 0))
theorem g4_escape.calls (k : Nat) (a0 : ByteArray) (a1 : Int) (a2 : Bool) (r1 : List Int) (r2 : Int) (w : World) (h : g4_escape.f k a0 a1 a2 = some (r1, r2)) :
  Calls Tryz.prog 43 #[.string a0, .int .i64 a1, .bool a2] w fun e w' => ∃ v0_ : Value, e = .returned (.tuple #[v0_, .int .i64 r2]) ∧ Kd.R (Kd.int .u8) 5 w' w.heap.size (fun _ => True) v0_ r1 ∧ Below w.heap.size w w' := by
 have HB := Ad.mk (Below.refl w.heap.size w)
 have H := h
 clear h
 unfold g4_escape.f at H
 obtain ⟨t252, A4, H⟩ := bi_ H
 have HC5 := Ad.mk H
 clear H
 go_enter Tryz.func43, Tryz.ntmps43
 go_upto_if 21 with (first | ((with_reducible refine gate_callee (f := 27) rfl ?_); refine goesL_ (some 19) rfl rfl Tryz.func27 k1_ rfl #[.string a0, .int .i64 (wrap64 (a1 + 1))] rfl g1_ ?_; (with_reducible refine (g4_ch.calls a0 (wrap64 (a1 + 1)) t252 _ A4.out).mono ?_); rintro e w' ⟨rfl, ⟨nd, rfl⟩⟩; refine ⟨_, rfl, ?_⟩))
 (try simp only [Act.put, List.setIfInBounds_toArray, List.set_cons_zero, List.set_cons_succ])
 go_cut [9] (fun v9 wc => ∃ (kq : Nat) (x9_4 : Int), v9 = .int .i64 x9_4 ∧ Ad (g4_escape.j0 kq a0 a1 a2 t252 x9_4 = some (r1, r2)) ∧ Ad (kq ≤ k) ∧ Ad (Below w.heap.size w wc))
 case first =>
  have H := HC5.out
  clear HC5
  by_cases c6 : t252 = 117
  ·rw [if_pos c6] at H
   have c6b0 := beq_iff_eq.mpr c6
   have c6b1 := bne_eq_false_iff_eq.mpr c6
   clear c6
   (first | rw [c6b0] | (simp only [i64_w, i32_w]; rw [c6b0]) | skip)
   have H' := Ad.mk H
   clear H
   go_wp2
   go_meet
   case rel => exact ⟨_, (4), e1_, H', ⟨z12_⟩, ⟨b1_⟩⟩
  rw [if_neg c6] at H
  have c6b0 := beq_eq_false_iff_ne.mpr c6
  have c6b1 := bne_iff_ne.mpr c6
  (first | rw [c6b0] | (simp only [i64_w, i32_w]; rw [c6b0]) | skip)
  have H' := Ad.mk H
  clear H
  go_wp2
  go_meet
  case rel => exact ⟨_, (0), e1_, H', ⟨z12_⟩, ⟨b1_⟩⟩
 case rest =>
  clear HC5
  obtain ⟨kq, x9_4, rfl, HA, HJ4, HB⟩ := hcut
  cases kq with
  | zero => exact absurd HA.out (by simp [g4_escape.j0])
  | succ kj4 =>
   have H := HA.out
   clear HA
   simp only [g4_escape.j0] at H
   have HC7 := Ad.mk H
   clear H
   go_upto_if 23 with (fail)
   go_cut [9] (fun v9 wc => ∃ (kq : Nat) (x9_6 : Int), v9 = .int .i64 x9_6 ∧ Ad (g4_escape.j1 kq a0 a1 a2 t252 x9_6 = some (r1, r2)) ∧ Ad (kq ≤ kj4) ∧ Ad (Below w.heap.size w wc))
   case first =>
    have H := HC7.out
    clear HC7
    by_cases c8 : t252 = 85
    ·rw [if_pos c8] at H
     have c8b0 := beq_iff_eq.mpr c8
     have c8b1 := bne_eq_false_iff_eq.mpr c8
     clear c8
     (first | rw [c8b0] | (simp only [i64_w, i32_w]; rw [c8b0]) | skip)
     have H' := Ad.mk H
     clear H
     go_wp2
     go_meet
     case rel => exact ⟨_, (8), e1_, H', ⟨z54_⟩, ⟨b1_⟩⟩
    rw [if_neg c8] at H
    have c8b0 := beq_eq_false_iff_ne.mpr c8
    have c8b1 := bne_iff_ne.mpr c8
    (first | rw [c8b0] | (simp only [i64_w, i32_w]; rw [c8b0]) | skip)
    have H' := Ad.mk H
    clear H
    go_wp2
    go_meet
    case rel => exact ⟨_, (x9_4), e1_, H', ⟨z54_⟩, ⟨b1_⟩⟩
   case rest =>
    clear HC7
    try clear c6
    try clear c6b0
    try clear c6b1
    obtain ⟨kq, x9_6, rfl, HA, HJ6, HB⟩ := hcut
    cases kq with
    | zero => exact absurd HA.out (by simp [g4_escape.j1])
    | succ kj6 =>
     have H := HA.out
     clear HA
     simp only [g4_escape.j1] at H
     by_cases c9 : x9_6 > 0
     ·rw [if_pos c9] at H
      have c9b0 : decide (0 < x9_6) = true := decide_eq_true c9
      clear c9
      have H' := Ad.mk H
      clear H
      go_wp2
      go_loopg [10, 11] kj6 (fun kq v10 v11 w' => ∃ (x10_3 : Int) (x11_3 : Int), v10 = .int .i64 x10_3 ∧ v11 = .int .i64 x11_3 ∧ Ad (g4_escape.l0 kq a0 a1 x9_6 x10_3 x11_3 = some (r1, r2)) ∧ Ad (kq ≤ kj6) ∧ Ad (Below w.heap.size w w'))
      case atStart => exact ⟨(0), (0), e1_, e1_, H', ⟨Nat.le_refl _⟩, ⟨b1_⟩⟩
      case round =>
       clear H'
       try clear c6
       try clear c6b0
       try clear c6b1
       obtain ⟨x10_3, x11_3, rfl, rfl, HA, HK3, HB⟩ := hrel
       cases gk with
       | zero => exact absurd HA.out (by simp [g4_escape.l0])
       | succ k3 =>
        have H := HA.out
        clear HA
        simp only [g4_escape.l0] at H
        by_cases c10 : x11_3 < x9_6
        ·rw [if_pos c10] at H
         have c10b0 := decide_eq_true c10
         clear c10
         obtain ⟨t253, A11, H⟩ := bi_ H
         obtain ⟨t254, A12, H⟩ := bi_ H
         by_cases c13 : t254 < 0
         ·rw [if_pos c13] at H
          have c13b0 := decide_eq_true c13
          clear c13
          simp only [Option.some.injEq, Prod.mk.injEq] at H
          obtain ⟨rfl, rfl⟩ := H
          go_wp2_with (first | ((with_reducible refine gate_callee (f := 27) rfl ?_); refine goesL_ (some 36) rfl rfl Tryz.func27 k1_ rfl #[.string a0, .int .i64 (wrap64 ((wrap64 (a1 + 2)) + x11_3))] rfl g1_ ?_; (with_reducible refine (g4_ch.calls a0 (wrap64 ((wrap64 (a1 + 2)) + x11_3)) t253 _ A11.out).mono ?_); rintro e w' ⟨rfl, ⟨nd, rfl⟩⟩; refine ⟨_, rfl, ?_⟩) | ((with_reducible refine gate_callee (f := 63) rfl ?_); refine goesL_ (some 37) rfl rfl Tryz.func63 k1_ rfl #[.int .u8 t253] rfl g1_ ?_; (with_reducible refine (g4_hex.calls k3 t253 t254 _ A12.out).mono ?_); rintro e w' ⟨rfl, ⟨nd, rfl⟩⟩; refine ⟨_, rfl, ?_⟩))
          go_ret2
          exact ⟨_, e2_, z24_, b1_⟩
         rw [if_neg c13] at H
         have c13b0 := decide_eq_false c13
         clear c13
         have H' := Ad.mk H
         clear H
         go_wp2_with (first | ((with_reducible refine gate_callee (f := 27) rfl ?_); refine goesL_ (some 36) rfl rfl Tryz.func27 k1_ rfl #[.string a0, .int .i64 (wrap64 ((wrap64 (a1 + 2)) + x11_3))] rfl g1_ ?_; (with_reducible refine (g4_ch.calls a0 (wrap64 ((wrap64 (a1 + 2)) + x11_3)) t253 _ A11.out).mono ?_); rintro e w' ⟨rfl, ⟨nd, rfl⟩⟩; refine ⟨_, rfl, ?_⟩) | ((with_reducible refine gate_callee (f := 63) rfl ?_); refine goesL_ (some 37) rfl rfl Tryz.func63 k1_ rfl #[.int .u8 t253] rfl g1_ ?_; (with_reducible refine (g4_hex.calls k3 t253 t254 _ A12.out).mono ?_); rintro e w' ⟨rfl, ⟨nd, rfl⟩⟩; refine ⟨_, rfl, ?_⟩))
         go_roundg k3
         case measure => have := HJ4.out; have := HJ6.out; have := HK3.out; omega
         case rel => exact ⟨(wrap64 ((wrap64 (16 * x10_3)) + t254)), (wrap64 (x11_3 + 1)), e1_, e1_, H', ⟨by have := HJ4.out; have := HJ6.out; have := HK3.out; omega⟩, ⟨b1_⟩⟩
        rw [if_neg c10] at H
        have c10b0 := decide_eq_false c10
        clear c10
        obtain ⟨t255, A14, H⟩ := bi_ H
        by_cases c15 : t255 = true
        ·subst c15
         rw [if_pos rfl] at H
         obtain ⟨t256, A16, H⟩ := bi_ H
         simp only [Option.some.injEq, Prod.mk.injEq] at H
         obtain ⟨rfl, rfl⟩ := H
         go_wp2_with (first | ((with_reducible refine gate_callee (f := 41) rfl ?_); refine goesL_ (some 45) rfl rfl Tryz.func41 k1_ rfl #[.int .i64 x10_3] rfl g1_ ?_; (with_reducible refine (g1r_May.calls x10_3 true _ A14.out).mono ?_); rintro e w' ⟨rfl, ⟨nd, rfl⟩⟩; refine ⟨_, rfl, ?_⟩) | ((with_reducible refine gate_callee (f := 42) rfl ?_); refine goesL_ (some 48) rfl rfl Tryz.func42 k1_ rfl #[.int .i64 x10_3] rfl g1_ ?_; (with_reducible refine (g1r_Put.calls x10_3 t256 _ A16.out).mono ?_); rintro e w17 ⟨v257, rfl, ho0, hb⟩; refine ⟨_, rfl, ?_⟩; have HO258 := Ad.mk (Kd.R_lower ho0 (below_size b1_)); replace HB := Ad.mk (below_step b1_ hb); (try clear hb); (try clear hb2); (try clear hk); (try clear hi); (try clear ho0)))
         go_ret2
         exact ⟨_, e2_, by have G0 := HO258; exact z3_, b1_⟩
        replace c15 := Bool.eq_false_iff.mpr c15
        subst c15
        rw [if_neg (show ¬ (false = true) by decide)] at H
        simp only [Option.some.injEq, Prod.mk.injEq] at H
        obtain ⟨rfl, rfl⟩ := H
        go_wp2_with (first | ((with_reducible refine gate_callee (f := 41) rfl ?_); refine goesL_ (some 45) rfl rfl Tryz.func41 k1_ rfl #[.int .i64 x10_3] rfl g1_ ?_; (with_reducible refine (g1r_May.calls x10_3 false _ A14.out).mono ?_); rintro e w' ⟨rfl, ⟨nd, rfl⟩⟩; refine ⟨_, rfl, ?_⟩))
        go_ret2
        exact ⟨_, e2_, z24_, b1_⟩
     rw [if_neg c9] at H
     have c9b0 : decide (0 < x9_6) = false := decide_eq_false c9
     clear c9
     by_cases c18 : a2 = true
     ·subst c18
      rw [if_pos rfl] at H
      have H' := Ad.mk H
      clear H
      go_wp2
      go_loopg [15] kj6 (fun kq v15 w' => ∃ (x15_3 : Int), v15 = .int .i64 x15_3 ∧ Ad (g4_escape.l1 kq a1 t252 (⟨#[116, 98, 110, 114, 102, 34, 39, 92]⟩ : ByteArray) (⟨#[9, 8, 10, 13, 12, 34, 39, 92]⟩ : ByteArray) x15_3 = some (r1, r2)) ∧ Ad (kq ≤ kj6) ∧ Ad (Below w.heap.size w w'))
      case atStart => exact ⟨(0), e1_, H', ⟨Nat.le_refl _⟩, ⟨b1_⟩⟩
      case round =>
       clear H'
       try clear c6
       try clear c6b0
       try clear c6b1
       obtain ⟨x15_3, rfl, HA, HK3, HB⟩ := hrel
       cases gk with
       | zero => exact absurd HA.out (by simp [g4_escape.l1])
       | succ k3 =>
        have H := HA.out
        clear HA
        simp only [g4_escape.l1] at H
        by_cases c19 : x15_3 < ((⟨#[116, 98, 110, 114, 102, 34, 39, 92]⟩ : ByteArray).size : Int)
        ·rw [if_pos c19] at H
         have c19b0 := decide_eq_true c19
         have c19b0n : decide (x15_3 < 8) = true := c19b0
         clear c19
         by_cases c20 : 0 ≤ x15_3
         ·rw [if_pos c20] at H
          have c20b0 := decide_eq_true c20
          clear c20
          by_cases c22 : (bt (⟨#[116, 98, 110, 114, 102, 34, 39, 92]⟩ : ByteArray) x15_3) = t252
          ·rw [if_pos c22] at H
           have c22b0 := beq_iff_eq.mpr c22
           have c22b1 := bne_eq_false_iff_eq.mpr c22
           clear c22
           by_cases c23 : x15_3 < ((⟨#[9, 8, 10, 13, 12, 34, 39, 92]⟩ : ByteArray).size : Int)
           ·rw [if_pos c23] at H
            have c23b0 := decide_eq_true c23
            have c23b0n : decide (x15_3 < 8) = true := c23b0
            clear c23
            generalize hy259 : (([bt (⟨#[9, 8, 10, 13, 12, 34, 39, 92]⟩ : ByteArray) x15_3] : List Int)) = y259 at H
            replace hy259 := hy259.symm
            have Ny259 := Ad.mk hy259
            clear hy259
            simp only [Option.some.injEq, Prod.mk.injEq] at H
            obtain ⟨rfl, rfl⟩ := H
            have p21 : 0 ≤ (x15_3 : Int) := of_decide_eq_true a1_
            have q21 : x15_3 < (8 : Int) := of_decide_eq_true a1_
            have hx21 := bt_at (⟨#[116, 98, 110, 114, 102, 34, 39, 92]⟩ : ByteArray) x15_3
            replace p21 := eq_true p21
            replace q21 := eq_true q21
            have p24 : 0 ≤ (x15_3 : Int) := of_decide_eq_true a1_
            have q24 : x15_3 < (8 : Int) := of_decide_eq_true a1_
            have hx24 := bt_at (⟨#[9, 8, 10, 13, 12, 34, 39, 92]⟩ : ByteArray) x15_3
            replace p24 := eq_true p24
            replace q24 := eq_true q24
            go_wp2_with (first | ((with_reducible refine gate_dst (N := 69) rfl ?_); refine Kd.R_lit (Kd.int .u8) _ 5 r1_ (N := 69) r1_ (xs := ([bt (⟨#[9, 8, 10, 13, 12, 34, 39, 92]⟩ : ByteArray) x15_3] : List Int)) (inner := [.int .u8 (bt (⟨#[9, 8, 10, 13, 12, 34, 39, 92]⟩ : ByteArray) x15_3)]) (ok := fun _ => True) (okp := fun _ => True) r2_ ?hp (fun _ hk => hk) trivial (Below.refl _ _) (Nat.le_refl _) (by simp) ?_; (case hp => exact (Reps.one (show Kd.M (Kd.int .u8) _ _ _ (bt (⟨#[9, 8, 10, 13, 12, 34, 39, 92]⟩ : ByteArray) x15_3) [.int .u8 (bt (⟨#[9, 8, 10, 13, 12, 34, 39, 92]⟩ : ByteArray) x15_3)] from rfl) (Reps.none _ _))); intro v260 w25 ho26 hb hg_ hnew_; clear hg_ hnew_; (first | rw [← Ny259.out] at ho26 | (simp only [Int.reduceToNat] at ho26; rw [← Ny259.out] at ho26)); have HO261 := Ad.mk (Kd.R_lower ho26 (below_size b1_)); replace HB := Ad.mk (below_step b1_ hb); clear hb ho26))
            go_ret2
            exact ⟨_, e2_, by have G0 := HO261; exact z3_, b1_⟩
           rw [if_neg c23] at H
           exact absurd H (by simp)
          rw [if_neg c22] at H
          have c22b0 := beq_eq_false_iff_ne.mpr c22
          have c22b1 := bne_iff_ne.mpr c22
          have H' := Ad.mk H
          clear H
          have p21 : 0 ≤ (x15_3 : Int) := of_decide_eq_true a1_
          have q21 : x15_3 < (8 : Int) := of_decide_eq_true a1_
          have hx21 := bt_at (⟨#[116, 98, 110, 114, 102, 34, 39, 92]⟩ : ByteArray) x15_3
          replace p21 := eq_true p21
          replace q21 := eq_true q21
          go_wp2
          go_roundg k3
          case measure => have := HJ4.out; have := HJ6.out; have := HK3.out; omega
          case rel => exact ⟨(wrap64 (x15_3 + 1)), e1_, H', ⟨by have := HJ4.out; have := HJ6.out; have := HK3.out; omega⟩, ⟨b1_⟩⟩
         rw [if_neg c20] at H
         exact absurd H (by simp)
        rw [if_neg c19] at H
        have c19b0 := decide_eq_false c19
        have c19b0n : decide (x15_3 < 8) = false := c19b0
        clear c19
        simp only [Option.some.injEq, Prod.mk.injEq] at H
        obtain ⟨rfl, rfl⟩ := H
        go_wp2
        go_ret2
        exact ⟨_, e2_, z24_, b1_⟩
     replace c18 := Bool.eq_false_iff.mpr c18
     subst c18
     rw [if_neg (show ¬ (false = true) by decide)] at H
     simp only [Option.some.injEq, Prod.mk.injEq] at H
     obtain ⟨rfl, rfl⟩ := H
     go_wp2
     go_ret2
     exact ⟨_, e2_, z24_, b1_⟩
mutual
def g4_quoted.l0 : Nat → ByteArray → Int → Int → Bool → List Int → Option (ByteArray × Int)
 | 0, _, _, _, _, _ => none
 | k + 1, x0, x1, x2, x3, x10 => if x1 < (x0.size : Int) then (if 0 ≤ x1 then (g4_quoted.j1 k x0 x1 x2 x3 x10 ((bt x0 x1) != x2)) else (none)) else (g4_quoted.j1 k x0 x1 x2 x3 x10 false)
def g4_quoted.j1 : Nat → ByteArray → Int → Int → Bool → List Int → Bool → Option (ByteArray × Int)
 | 0, _, _, _, _, _, _ => none
 | k + 1, x0, x1, x2, x3, x10, x25 => if x25 = true then (if x3 = true then (if 0 ≤ x1 then (if x1 < (x0.size : Int) then (if (bt x0 x1) = 10 then (g4_quoted.j2 k x0 x1 x2 x3 x10 true) else (g4_quoted.j2 k x0 x1 x2 x3 x10 ((bt x0 x1) == 13))) else (none)) else (none)) else (g4_quoted.j2 k x0 x1 x2 x3 x10 false)) else (if x1 ≥ (x0.size : Int) then (some ((⟨#[]⟩ : ByteArray), (-1))) else (some (strOfNums x10, wrap64 (x1 + 1))))
def g4_quoted.j2 : Nat → ByteArray → Int → Int → Bool → List Int → Bool → Option (ByteArray × Int)
 | 0, _, _, _, _, _, _ => none
 | k + 1, x0, x1, x2, x3, x10, x38 => if x38 = true then (some ((⟨#[]⟩ : ByteArray), (-1))) else (if 0 ≤ x1 then (if x1 < (x0.size : Int) then (if (bt x0 x1) = 92 then ((g4_escape.f k x0 x1 x3).bind fun bt262 => (if bt262.2 < 0 then (some ((⟨#[]⟩ : ByteArray), (-1))) else (if x10.length + bt262.1.length < 140737488355328 then (g4_quoted.l0 k x0 bt262.2 x2 x3 (x10 ++ bt262.1)) else (none)))) else (if x10.length < 140737488355328 then (g4_quoted.l0 k x0 (wrap64 (x1 + 1)) x2 x3 (x10 ++ [bt x0 x1])) else (none))) else (none)) else (none))
end
def g4_quoted.f (k : Nat) (a0 : ByteArray) (a1 : Int) (a2 : Int) (a3 : Bool) : Option (ByteArray × Int) := g4_quoted.l0 k a0 (wrap64 (a1 + 1)) a2 a3 ([] : List Int)
theorem g4_quoted.calls (k : Nat) (a0 : ByteArray) (a1 : Int) (a2 : Int) (a3 : Bool) (r1 : ByteArray) (r2 : Int) (w : World) (h : g4_quoted.f k a0 a1 a2 a3 = some (r1, r2)) :
  Calls Tryz.prog 25 #[.string a0, .int .i64 a1, .int .u8 a2, .bool a3] w fun e w' => e = .returned (.tuple #[.string r1, .int .i64 r2]) ∧ Below w.heap.size w w' := by
 have HB := Ad.mk (Below.refl w.heap.size w)
 have H := h
 clear h
 unfold g4_quoted.f at H
 have H' := Ad.mk H
 clear H
 go_enter Tryz.func25, Tryz.ntmps25
 go_wp2
 go_loopg [1, 10] k (fun kq v1 v10 w' => ∃ (x1_1 : Int) (x10_1 : List Int), v1 = .int .i64 x1_1 ∧ Ad (g4_quoted.l0 kq a0 x1_1 a2 a3 x10_1 = some (r1, r2)) ∧ Ad (kq ≤ k) ∧ Ad (Kd.R (Kd.int .u8) 5 w' w.heap.size (fun _ => True) v10 x10_1) ∧ Ad (Below w.heap.size w w'))
 case atStart => exact ⟨(wrap64 (a1 + 1)), (([] : List Int)), e1_, H', ⟨Nat.le_refl _⟩, ⟨z24_⟩, ⟨b1_⟩⟩
 case round =>
  clear H'
  try clear c2
  try clear p2
  obtain ⟨x1_1, x10_1, rfl, HA, HK1, HO_10, HB⟩ := hrel
  cases gk with
  | zero => exact absurd HA.out (by simp [g4_quoted.l0])
  | succ k1 =>
   have H := HA.out
   clear HA
   simp only [g4_quoted.l0] at H
   have HC5 := Ad.mk H
   clear H
   go_upto_region 3 with (fail)
   go_cut [25] (fun v25 wc => ∃ (kq : Nat) (x25_4 : Bool), v25 = .bool x25_4 ∧ Ad (g4_quoted.j1 kq a0 x1_1 a2 a3 x10_1 x25_4 = some (r1, r2)) ∧ Ad (kq ≤ k1) ∧ Ad (Kd.R (Kd.int .u8) 5 wc w.heap.size (fun _ => True) u10 x10_1) ∧ Ad (Below w.heap.size w wc))
   case first =>
    have H := HC5.out
    clear HC5
    by_cases c6 : x1_1 < (a0.size : Int)
    ·rw [if_pos c6] at H
     have c6b0 := decide_eq_true c6
     clear c6
     (first | rw [c6b0] | (simp only [i64_w, i32_w]; rw [c6b0]) | skip)
     by_cases c7 : 0 ≤ x1_1
     ·rw [if_pos c7] at H
      have c7b0 := decide_eq_true c7
      clear c7
      have H' := Ad.mk H
      clear H
      have p8 : 0 ≤ (x1_1 : Int) := of_decide_eq_true a1_
      have q8 : x1_1 < (a0.size : Int) := of_decide_eq_true a1_
      have hx8 := bt_at a0 x1_1
      replace p8 := eq_true p8
      replace q8 := eq_true q8
      go_wp2
      go_meet
      case rel => exact ⟨_, (((bt a0 x1_1) != a2)), e1_, H', ⟨o1_⟩, ⟨by have G0 := HO_10; exact z3_⟩, ⟨b1_⟩⟩
     rw [if_neg c7] at H
     exact absurd H (by simp)
    rw [if_neg c6] at H
    have c6b0 := decide_eq_false c6
    clear c6
    (first | rw [c6b0] | (simp only [i64_w, i32_w]; rw [c6b0]) | skip)
    have H' := Ad.mk H
    clear H
    go_wp2
    go_meet
    case rel => exact ⟨_, (false), e1_, H', ⟨o1_⟩, ⟨by have G0 := HO_10; exact z3_⟩, ⟨b1_⟩⟩
   case rest =>
    clear HC5
    try clear c2
    try clear p2
    try clear p2
    obtain ⟨kq, x25_4, rfl, HA, HJ4, HO_10, HB⟩ := hcut
    cases kq with
    | zero => exact absurd HA.out (by simp [g4_quoted.j1])
    | succ kj4 =>
     have H := HA.out
     clear HA
     simp only [g4_quoted.j1] at H
     by_cases c9 : x25_4 = true
     ·subst c9
      rw [if_pos rfl] at H
      have HC10 := Ad.mk H
      clear H
      go_upto_region 4 with (fail)
      go_cut [38] (fun v38 wc => ∃ (kq : Nat) (x38_9 : Bool), v38 = .bool x38_9 ∧ Ad (g4_quoted.j2 kq a0 x1_1 a2 a3 x10_1 x38_9 = some (r1, r2)) ∧ Ad (kq ≤ kj4) ∧ Ad (Kd.R (Kd.int .u8) 5 wc w.heap.size (fun _ => True) u10 x10_1) ∧ Ad (Below w.heap.size w wc))
      case first =>
       have H := HC10.out
       clear HC10
       by_cases c11 : a3 = true
       ·subst c11
        rw [if_pos rfl] at H
        by_cases c12 : 0 ≤ x1_1
        ·rw [if_pos c12] at H
         have c12b0 := decide_eq_true c12
         clear c12
         (first | rw [c12b0] | (simp only [i64_w, i32_w]; rw [c12b0]) | skip)
         by_cases c13 : x1_1 < (a0.size : Int)
         ·rw [if_pos c13] at H
          have c13b0 := decide_eq_true c13
          clear c13
          by_cases c15 : (bt a0 x1_1) = 10
          ·rw [if_pos c15] at H
           have c15b0 := beq_iff_eq.mpr c15
           have c15b1 := bne_eq_false_iff_eq.mpr c15
           clear c15
           have H' := Ad.mk H
           clear H
           have p14 : 0 ≤ (x1_1 : Int) := of_decide_eq_true a1_
           have q14 : x1_1 < (a0.size : Int) := of_decide_eq_true a1_
           have hx14 := bt_at a0 x1_1
           replace p14 := eq_true p14
           replace q14 := eq_true q14
           go_wp2
           go_meet
           case rel => exact ⟨_, (true), e1_, H', ⟨z65_⟩, ⟨by have G0 := HO_10; exact z3_⟩, ⟨b1_⟩⟩
          rw [if_neg c15] at H
          have c15b0 := beq_eq_false_iff_ne.mpr c15
          have c15b1 := bne_iff_ne.mpr c15
          have H' := Ad.mk H
          clear H
          have p14 : 0 ≤ (x1_1 : Int) := of_decide_eq_true a1_
          have q14 : x1_1 < (a0.size : Int) := of_decide_eq_true a1_
          have hx14 := bt_at a0 x1_1
          replace p14 := eq_true p14
          replace q14 := eq_true q14
          have p16 : 0 ≤ (x1_1 : Int) := of_decide_eq_true a1_
          have q16 : x1_1 < (a0.size : Int) := of_decide_eq_true a1_
          have hx16 := bt_at a0 x1_1
          replace p16 := eq_true p16
          replace q16 := eq_true q16
          go_wp2
          go_meet
          case rel => exact ⟨_, (((bt a0 x1_1) == 13)), e1_, H', ⟨z65_⟩, ⟨by have G0 := HO_10; exact z3_⟩, ⟨b1_⟩⟩
         rw [if_neg c13] at H
         exact absurd H (by simp)
        rw [if_neg c12] at H
        exact absurd H (by simp)
       replace c11 := Bool.eq_false_iff.mpr c11
       subst c11
       rw [if_neg (show ¬ (false = true) by decide)] at H
       have H' := Ad.mk H
       clear H
       go_wp2
       go_meet
       case rel => exact ⟨_, (false), e1_, H', ⟨z65_⟩, ⟨by have G0 := HO_10; exact z3_⟩, ⟨b1_⟩⟩
      case rest =>
       clear HC10
       try clear c2
       try clear p2
       try clear c6
       try clear c6b0
       try clear c7
       try clear c7b0
       try clear p8
       try clear q8
       try clear hx8
       try clear c9
       try clear p2
       try clear p8
       try clear q8
       obtain ⟨kq, x38_9, rfl, HA, HJ9, HO_10, HB⟩ := hcut
       cases kq with
       | zero => exact absurd HA.out (by simp [g4_quoted.j2])
       | succ kj9 =>
        have H := HA.out
        clear HA
        simp only [g4_quoted.j2] at H
        by_cases c17 : x38_9 = true
        ·subst c17
         rw [if_pos rfl] at H
         simp only [Option.some.injEq, Prod.mk.injEq] at H
         obtain ⟨rfl, rfl⟩ := H
         go_wp2
         go_ret2
         exact ⟨e2_, b1_⟩
        replace c17 := Bool.eq_false_iff.mpr c17
        subst c17
        rw [if_neg (show ¬ (false = true) by decide)] at H
        by_cases c18 : 0 ≤ x1_1
        ·rw [if_pos c18] at H
         have c18b0 := decide_eq_true c18
         clear c18
         by_cases c19 : x1_1 < (a0.size : Int)
         ·rw [if_pos c19] at H
          have c19b0 := decide_eq_true c19
          clear c19
          by_cases c21 : (bt a0 x1_1) = 92
          ·rw [if_pos c21] at H
           have c21b0 := beq_iff_eq.mpr c21
           have c21b1 := bne_eq_false_iff_eq.mpr c21
           clear c21
           obtain ⟨⟨t262, t263⟩, A22, H⟩ := bi_ H
           try dsimp only at H
           by_cases c23 : t263 < 0
           ·rw [if_pos c23] at H
            have c23b0 := decide_eq_true c23
            clear c23
            simp only [Option.some.injEq, Prod.mk.injEq] at H
            obtain ⟨rfl, rfl⟩ := H
            have p20 : 0 ≤ (x1_1 : Int) := of_decide_eq_true a1_
            have q20 : x1_1 < (a0.size : Int) := of_decide_eq_true a1_
            have hx20 := bt_at a0 x1_1
            replace p20 := eq_true p20
            replace q20 := eq_true q20
            go_wp2_with (first | ((with_reducible refine gate_callee (f := 43) rfl ?_); refine goesL_ (some 55) rfl rfl Tryz.func43 k1_ rfl #[.string a0, .int .i64 x1_1, .bool a3] rfl g1_ ?_; (with_reducible refine (g4_escape.calls kj9 a0 x1_1 a3 t262 t263 _ A22.out).mono ?_); rintro e w24 ⟨v264, rfl, ho0, hb⟩; refine ⟨_, rfl, ?_⟩; have HO265 := Ad.mk (Kd.R_lower (Kd.R_new' ho0 (Kd.R_lt (by have G0 := HO_10; exact z3_))) (below_size b1_)); replace HO_10 := Ad.mk (Kd.R_elder' (by have G0 := HO_10; exact z3_) (Kd.R_base ho0) hb); replace HB := Ad.mk (below_step b1_ hb); (try clear hb); (try clear hb2); (try clear hk); (try clear hi); (try clear ho0)))
            go_ret2
            exact ⟨e2_, b1_⟩
           rw [if_neg c23] at H
           have c23b0 := decide_eq_false c23
           clear c23
           by_cases c25 : x10_1.length + t262.length < 140737488355328
           ·rw [if_pos c25] at H
            have LMc25 := Ad.mk c25
            clear c25
            generalize hy266 : (x10_1 ++ t262) = y266 at H
            replace hy266 := hy266.symm
            have Ny266 := Ad.mk hy266
            clear hy266
            have H' := Ad.mk H
            clear H
            have p20 : 0 ≤ (x1_1 : Int) := of_decide_eq_true a1_
            have q20 : x1_1 < (a0.size : Int) := of_decide_eq_true a1_
            have hx20 := bt_at a0 x1_1
            replace p20 := eq_true p20
            replace q20 := eq_true q20
            go_wp2_with (first | ((with_reducible refine gate_callee (f := 43) rfl ?_); refine goesL_ (some 55) rfl rfl Tryz.func43 k1_ rfl #[.string a0, .int .i64 x1_1, .bool a3] rfl g1_ ?_; (with_reducible refine (g4_escape.calls kj9 a0 x1_1 a3 t262 t263 _ A22.out).mono ?_); rintro e w26 ⟨v264, rfl, ho0, hb⟩; refine ⟨_, rfl, ?_⟩; have HO265 := Ad.mk (Kd.R_lower (Kd.R_new' ho0 (Kd.R_lt (by have G0 := HO_10; exact z3_))) (below_size b1_)); replace HO_10 := Ad.mk (Kd.R_elder' (by have G0 := HO_10; exact z3_) (Kd.R_base ho0) hb); replace HB := Ad.mk (below_step b1_ hb); (try clear hb); (try clear hb2); (try clear hk); (try clear hi); (try clear ho0); obtain ⟨Ao28, co28, eo28⟩ := Kd.R_slice HO265.out; subst eo28) | ((with_reducible refine gate_builtin (b := .append) (xs := #[(.tmp 60), .tmp 61]) rfl ?_); at_builtin; refine Kd.R_append_rows (Kd.int .u8) (w0 := w) w.heap.size rfl (.tmp 60) (.tmp 61) 88 5 (.int .u8 0) 1 rfl Tryz.underlying88 info5 rfl (by decide) (by omega) u10 x10_1 t262 _ _ _ (fun k_ => some k_ ≠ (.slice Ao28 t262.length co28 : Value).ownBlock) (fun _ => False) rfl rfl ?aO ?aR (fun _ _ h => h) (fun _ h => h.elim) ?aF ?aB ?aS ?aL ?_; (case aR => repeat (first | exact (Kd.R_reads' HO265.out).2.2 | (with_reducible refine Kd.C_alloc ?_ _) | (with_reducible refine Kd.C_drewN ?_ _) | (with_reducible refine Kd.C_drew ?_))); (case aB => exact b1_); (case aF => exact (fun k_ hk => Kd.fresh' (Kd.R_lt (by have G0 := HO265; exact z3_)) k_ hk)); (case aO => exact (by have G0 := HO_10; exact z57_)); (case aS => exact (below_size b1_)); (case aL => have := LMc25.out; omega); intro v267 w27 ho hb hg hat; rw [← Ny266.out] at ho; have n0_ := Ad.mk (Kd.R_after (ok := (fun _ => True)) (by have G0 := HO265; exact z3_) hg hat); have n1_ := Ad.mk (hb); have n2_ := Ad.mk (ho); clear HO265; clear HB; clear HO_10; have HO265 := n0_; have HB := n1_; have HO268 := n2_; clear n0_ n1_ n2_; clear ho hb hg hat))
            go_roundg kj9
            case measure => have := HK1.out; have := HJ4.out; have := HJ9.out; omega
            case rel => exact ⟨(t263), (y266), e1_, H', ⟨by have := HK1.out; have := HJ4.out; have := HJ9.out; omega⟩, ⟨by (with_reducible repeat (first | apply Kd.R_alloc | apply Kd.R_drewN | apply Kd.R_drew)); exact Kd.R_mono HO268.out (fun _ hk => trivial)⟩, ⟨b1_⟩⟩
           rw [if_neg c25] at H
           exact absurd H (by simp)
          rw [if_neg c21] at H
          have c21b0 := beq_eq_false_iff_ne.mpr c21
          have c21b1 := bne_iff_ne.mpr c21
          by_cases c30 : x10_1.length < 140737488355328
          ·rw [if_pos c30] at H
           have LMc30 := Ad.mk c30
           clear c30
           generalize hy269 : (x10_1 ++ [bt a0 x1_1]) = y269 at H
           replace hy269 := hy269.symm
           have Ny269 := Ad.mk hy269
           clear hy269
           have H' := Ad.mk H
           clear H
           have p20 : 0 ≤ (x1_1 : Int) := of_decide_eq_true a1_
           have q20 : x1_1 < (a0.size : Int) := of_decide_eq_true a1_
           have hx20 := bt_at a0 x1_1
           replace p20 := eq_true p20
           replace q20 := eq_true q20
           have p29 : 0 ≤ (x1_1 : Int) := of_decide_eq_true a1_
           have q29 : x1_1 < (a0.size : Int) := of_decide_eq_true a1_
           have hx29 := bt_at a0 x1_1
           replace p29 := eq_true p29
           replace q29 := eq_true q29
           go_wp2_with (first | ((with_reducible refine gate_builtin (b := .append) (xs := #[(.tmp 43), .tmp 47]) rfl ?_); at_builtin; refine Kd.R_append (Kd.int .u8) (w0 := w) w.heap.size rfl (.tmp 43) (.tmp 47) 88 5 (.int .u8 0) 1 rfl Tryz.underlying88 info5 rfl (by decide) (by omega) u10 x10_1 (bt a0 x1_1) [.int .u8 (bt a0 x1_1)] (fun _ => True) (fun _ => False) rfl rfl ?aP (fun _ hk => hk.elim) ?aF ?aO ?aB ?aS ?aL ?_; (case aP => exact rfl); (case aB => exact b1_); (case aF => exact (fun _ _ => trivial)); (case aO => exact (by have G0 := HO_10; exact z3_)); (case aS => exact (below_size b1_)); (case aL => have := LMc30.out; omega); intro v270 w31 ho hb hg hat; rw [← Ny269.out] at ho; have n0_ := Ad.mk (hb); have n1_ := Ad.mk (ho); clear HB; clear HO_10; have HB := n0_; have HO271 := n1_; clear n0_ n1_; clear ho hb hg hat))
           go_roundg kj9
           case measure => have := HK1.out; have := HJ4.out; have := HJ9.out; omega
           case rel => exact ⟨(wrap64 (x1_1 + 1)), (y269), e1_, H', ⟨by have := HK1.out; have := HJ4.out; have := HJ9.out; omega⟩, ⟨by have G0 := HO271; exact z3_⟩, ⟨b1_⟩⟩
          rw [if_neg c30] at H
          exact absurd H (by simp)
         rw [if_neg c19] at H
         exact absurd H (by simp)
        rw [if_neg c18] at H
        exact absurd H (by simp)
     replace c9 := Bool.eq_false_iff.mpr c9
     subst c9
     rw [if_neg (show ¬ (false = true) by decide)] at H
     by_cases c32 : x1_1 ≥ (a0.size : Int)
     ·rw [if_pos c32] at H
      have c32b0 : decide ((a0.size : Int) ≤ x1_1) = true := decide_eq_true c32
      clear c32
      simp only [Option.some.injEq, Prod.mk.injEq] at H
      obtain ⟨rfl, rfl⟩ := H
      go_wp2
      go_ret2
      exact ⟨e2_, b1_⟩
     rw [if_neg c32] at H
     have c32b0 : decide ((a0.size : Int) ≤ x1_1) = false := decide_eq_false c32
     clear c32
     simp only [Option.some.injEq, Prod.mk.injEq] at H
     obtain ⟨rfl, rfl⟩ := H
     have hcv33 := own_string (P := Tryz.prog) Tryz.underlying88 Tryz.underlying5 Tryz.underlying9 (Kd.own_of_R HO_10.out)
     go_wp2
     go_ret2
     exact ⟨e2_, b1_⟩
end Go.Proofs.YtpbphelaeleikaaGreatDoor.PLt

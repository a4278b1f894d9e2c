import Derived.Test.YtpbphelaeleikaaGreatDoorXtPLtx0
import Derived.Test.YtpbphelaeleikaaGreatDoorXtPLtx8
namespace Go.Proofs.YtpbphelaeleikaaGreatDoor.PLt
open Go.RowKit Go.Proofs.YtpbphelaeleikaaGreatDoorW.PrintWords Go.Proofs.YtpbphelaeleikaaGreatDoorW.PrintLast Go.Proofs.YtpbphelaeleikaaGreatDoorW.PrintMore
attribute [local go_sem] max2_int min2_int max_two min_two max_three min_three max_four min_four
set_option linter.unusedVariables false
set_option linter.unusedSimpArgs false
set_option maxHeartbeats 8000000
set_option maxRecDepth 100000
mutual
def g2_Word.j0 : Nat → ByteArray → Bool → Option (Bool)
 | 0, _, _ => none
 | k + 1, x0, x20 => if x20 = true then (some false) else (g2_Word.l0 k x0 0)
def g2_Word.l0 : Nat → ByteArray → Int → Option (Bool)
 | 0, _, _ => none
 | k + 1, x0, x5 => if x5 < (x0.size : Int) then (if 0 ≤ x5 then ((g2_Letter.f (bt x0 x5)).bind fun t240 => (if t240 = true then (g2_Word.l0 k x0 (wrap64 (x5 + 1))) else ((g2_Digit.f (bt x0 x5)).bind fun t241 => (if t241 = true then (g2_Word.l0 k x0 (wrap64 (x5 + 1))) else (some false))))) else (none)) else (some true)
end
def g2_Word.f (k : Nat) (a0 : ByteArray) (a1 : Int) : Option (Bool) := if (a0.size : Int) < 1 then (g2_Word.j0 k a0 true) else (if (a0.size : Int) > a1 then (g2_Word.j0 k a0 true) else (if 0 < (a0.size : Int) then ((g2_Letter.f (bt a0 0)).bind fun t239 => (g2_Word.j0 k a0 (!t239))) else (none)))
theorem g2_Word.calls (k : Nat) (a0 : ByteArray) (a1 : Int) (r : Bool) (w : World) (h : g2_Word.f k a0 a1 = some r) :
  Calls Tryz.prog 37 #[.string a0, .int .i64 a1] w fun e w' => e = .returned (.bool r) ∧ Drawn0 w w' := by
 have H := h
 clear h
 unfold g2_Word.f at H
 have HC3 := Ad.mk H
 clear H
 go_enter Tryz.func37, Tryz.ntmps37
 go_upto_region 1 with (fail)
 go_cut [20] (fun v20 wc => ∃ (kq : Nat) (x20_2 : Bool), v20 = .bool x20_2 ∧ Ad (g2_Word.j0 kq a0 x20_2 = some r) ∧ Ad (kq ≤ k) ∧ Drawn0 w wc)
 case first =>
  have H := HC3.out
  clear HC3
  by_cases c4 : (a0.size : Int) < 1
  ·rw [if_pos c4] at H
   have c4b0 := decide_eq_true c4
   have c4b1 : decide (a0.size < 1) = true := decide_eq_true (by omega)
   clear c4
   (first | rw [c4b0] | (simp only [i64_w, i32_w]; rw [c4b0]) | skip)
   have H' := Ad.mk H
   clear H
   go_wp2
   go_meet
   case rel => exact ⟨_, (true), e1_, H', ⟨z12_⟩, z1_⟩
  rw [if_neg c4] at H
  have c4b0 := decide_eq_false c4
  have c4b1 : decide (a0.size < 1) = false := decide_eq_false (by omega)
  clear c4
  (first | rw [c4b0] | (simp only [i64_w, i32_w]; rw [c4b0]) | skip)
  by_cases c5 : (a0.size : Int) > a1
  ·rw [if_pos c5] at H
   have c5b0 : decide (a1 < (a0.size : Int)) = true := decide_eq_true c5
   clear c5
   have H' := Ad.mk H
   clear H
   go_wp2
   go_meet
   case rel => exact ⟨_, (true), e1_, H', ⟨z12_⟩, z1_⟩
  rw [if_neg c5] at H
  have c5b0 : decide (a1 < (a0.size : Int)) = false := decide_eq_false c5
  clear c5
  by_cases c6 : 0 < (a0.size : Int)
  ·rw [if_pos c6] at H
   have c6b0 := decide_eq_true c6
   have c6b1 : decide (0 < a0.size) = true := decide_eq_true (by omega)
   clear c6
   obtain ⟨t239, A8, H⟩ := bi_ H
   have H' := Ad.mk H
   clear H
   have p7 : 0 ≤ (0 : Int) := (by omega)
   have q7 : 0 < a0.size := (by have : (0 : Int) < (a0.size : Int) := of_decide_eq_true a1_; omega)
   have hx7 : ∀ h : 0 < a0.size, ((a0[0]'h).toNat : Int) = bt a0 0 := bt_at a0 0
   clear p7
   have qi7 : (0 < (a0.size : Int)) = True := eq_true (of_decide_eq_true a1_)
   replace q7 := eq_true q7
   go_wp2_with (first | (go_at_call 44; (with_reducible refine (g2_Letter.calls (bt a0 0) t239 _ A8.out).mono ?_); rintro e w' ⟨rfl, ⟨nd, rfl⟩⟩))
   go_meet
   case rel => exact ⟨_, (!t239), e1_, H', ⟨z12_⟩, z1_⟩
  rw [if_neg c6] at H
  exact absurd H (by simp)
 case rest =>
  clear HC3
  obtain ⟨kq, x20_2, rfl, HA, HJ2, ⟨mc2, rfl⟩⟩ := hcut
  cases kq with
  | zero => exact absurd HA.out (by simp [g2_Word.j0])
  | succ kj2 =>
   have H := HA.out
   clear HA
   simp only [g2_Word.j0] at H
   by_cases c9 : x20_2 = true
   ·subst c9
    rw [if_pos rfl] at H
    obtain rfl := Option.some.inj H
    go_wp2
    go_ret
    exact ⟨e1_, z1_⟩
   replace c9 := Bool.eq_false_iff.mpr c9
   subst c9
   rw [if_neg (show ¬ (false = true) by decide)] at H
   have H' := Ad.mk H
   clear H
   go_wp2
   go_loopg [5] kj2 (fun kq v5 w' => ∃ (x5_2 : Int), v5 = .int .i64 x5_2 ∧ Ad (g2_Word.l0 kq a0 x5_2 = some r) ∧ Ad (kq ≤ kj2) ∧ Drawn0 w w')
   case atStart => exact ⟨(0), e1_, H', ⟨Nat.le_refl _⟩, z1_⟩
   case round =>
    clear H'
    obtain ⟨x5_2, rfl, HA, HK2, ⟨m2, rfl⟩⟩ := hrel
    cases gk with
    | zero => exact absurd HA.out (by simp [g2_Word.l0])
    | succ k2 =>
     have H := HA.out
     clear HA
     simp only [g2_Word.l0] at H
     by_cases c10 : x5_2 < (a0.size : Int)
     ·rw [if_pos c10] at H
      have c10b0 := decide_eq_true c10
      clear c10
      by_cases c11 : 0 ≤ x5_2
      ·rw [if_pos c11] at H
       have c11b0 := decide_eq_true c11
       clear c11
       obtain ⟨t240, A13, H⟩ := bi_ H
       by_cases c14 : t240 = true
       ·subst c14
        rw [if_pos rfl] at H
        have H' := Ad.mk H
        clear H
        have p12 : 0 ≤ (x5_2 : Int) := of_decide_eq_true a1_
        have q12 : x5_2 < (a0.size : Int) := of_decide_eq_true a1_
        have hx12 := bt_at a0 x5_2
        replace p12 := eq_true p12
        replace q12 := eq_true q12
        go_wp2_with (first | ((with_reducible refine gate_callee (f := 44) rfl ?_); refine goesL_ (some 30) rfl rfl Tryz.func44 k1_ rfl #[.int .u8 (bt a0 x5_2)] rfl g1_ ?_; (with_reducible refine (g2_Letter.calls (bt a0 x5_2) true _ A13.out).mono ?_); rintro e w' ⟨rfl, ⟨nd, rfl⟩⟩; refine ⟨_, rfl, ?_⟩))
        go_roundg k2
        case measure => have := HJ2.out; have := HK2.out; omega
        case rel => exact ⟨(wrap64 (x5_2 + 1)), e1_, H', ⟨by have := HJ2.out; have := HK2.out; omega⟩, z1_⟩
       replace c14 := Bool.eq_false_iff.mpr c14
       subst c14
       rw [if_neg (show ¬ (false = true) by decide)] at H
       obtain ⟨t241, A16, H⟩ := bi_ H
       by_cases c17 : t241 = true
       ·subst c17
        rw [if_pos rfl] at H
        have H' := Ad.mk H
        clear H
        have p12 : 0 ≤ (x5_2 : Int) := of_decide_eq_true a1_
        have q12 : x5_2 < (a0.size : Int) := of_decide_eq_true a1_
        have hx12 := bt_at a0 x5_2
        replace p12 := eq_true p12
        replace q12 := eq_true q12
        go_wp2_with (first | ((with_reducible refine gate_callee (f := 44) rfl ?_); refine goesL_ (some 30) rfl rfl Tryz.func44 k1_ rfl #[.int .u8 (bt a0 x5_2)] rfl g1_ ?_; (with_reducible refine (g2_Letter.calls (bt a0 x5_2) false _ A13.out).mono ?_); rintro e w' ⟨rfl, ⟨nd, rfl⟩⟩; refine ⟨_, rfl, ?_⟩; have p15 : 0 ≤ (x5_2 : Int) := of_decide_eq_true a1_; have q15 : x5_2 < (a0.size : Int) := of_decide_eq_true a1_; have hx15 := bt_at a0 x5_2; replace p15 := eq_true p15; replace q15 := eq_true q15) | (go_at_call 29; (with_reducible refine (g2_Digit.calls (bt a0 x5_2) true _ A16.out).mono ?_); rintro e w' ⟨rfl, ⟨nd, rfl⟩⟩))
        go_roundg k2
        case measure => have := HJ2.out; have := HK2.out; omega
        case rel => exact ⟨(wrap64 (x5_2 + 1)), e1_, H', ⟨by have := HJ2.out; have := HK2.out; omega⟩, z1_⟩
       replace c17 := Bool.eq_false_iff.mpr c17
       subst c17
       rw [if_neg (show ¬ (false = true) by decide)] at H
       obtain rfl := Option.some.inj H
       have p12 : 0 ≤ (x5_2 : Int) := of_decide_eq_true a1_
       have q12 : x5_2 < (a0.size : Int) := of_decide_eq_true a1_
       have hx12 := bt_at a0 x5_2
       replace p12 := eq_true p12
       replace q12 := eq_true q12
       go_wp2_with (first | ((with_reducible refine gate_callee (f := 44) rfl ?_); refine goesL_ (some 30) rfl rfl Tryz.func44 k1_ rfl #[.int .u8 (bt a0 x5_2)] rfl g1_ ?_; (with_reducible refine (g2_Letter.calls (bt a0 x5_2) false _ A13.out).mono ?_); rintro e w' ⟨rfl, ⟨nd, rfl⟩⟩; refine ⟨_, rfl, ?_⟩; have p15 : 0 ≤ (x5_2 : Int) := of_decide_eq_true a1_; have q15 : x5_2 < (a0.size : Int) := of_decide_eq_true a1_; have hx15 := bt_at a0 x5_2; replace p15 := eq_true p15; replace q15 := eq_true q15) | (go_at_call 29; (with_reducible refine (g2_Digit.calls (bt a0 x5_2) false _ A16.out).mono ?_); rintro e w' ⟨rfl, ⟨nd, rfl⟩⟩))
       go_ret
       exact ⟨e1_, z1_⟩
      rw [if_neg c11] at H
      exact absurd H (by simp)
     rw [if_neg c10] at H
     have c10b0 := decide_eq_false c10
     clear c10
     obtain rfl := Option.some.inj H
     go_wp2
     go_ret
     exact ⟨e1_, z1_⟩
mutual
def g2_tag.j0 : Nat → ByteArray → Bool → Option (Bool)
 | 0, _, _ => none
 | k + 1, x0, x26 => if x26 = true then (some false) else (g2_tag.l0 k x0 true 0)
def g2_tag.l0 : Nat → ByteArray → Bool → Int → Option (Bool)
 | 0, _, _, _ => none
 | k + 1, x0, x3, x4 => if x4 < (x0.size : Int) then (if 0 ≤ x4 then (if (bt x0 x4) ≥ 97 then (g2_tag.j2 k x0 x3 x4 (decide ((bt x0 x4) ≤ 122))) else (g2_tag.j2 k x0 x3 x4 false)) else (none)) else (some true)
def g2_tag.j2 : Nat → ByteArray → Bool → Int → Bool → Option (Bool)
 | 0, _, _, _, _ => none
 | k + 1, x0, x3, x4, x5 => if 0 ≤ x4 then (if x4 < (x0.size : Int) then (if (bt x0 x4) = 45 then (if 0 ≤ (wrap64 (x4 - 1)) then (if (wrap64 (x4 - 1)) < (x0.size : Int) then (if (bt x0 (wrap64 (x4 - 1))) = 45 then (some false) else (g2_tag.l0 k x0 false (wrap64 (x4 + 1)))) else (none)) else (none)) else (if x5 = true then (g2_tag.l0 k x0 x3 (wrap64 (x4 + 1))) else (if x3 = true then (some false) else ((g2_Digit.f (bt x0 x4)).bind fun t242 => (if t242 = true then (g2_tag.l0 k x0 x3 (wrap64 (x4 + 1))) else (some false)))))) else (none)) else (none)
end
def g2_tag.f (k : Nat) (a0 : ByteArray) : Option (Bool) := if (a0.size : Int) < 1 then (g2_tag.j0 k a0 true) else (if (a0.size : Int) > 35 then (g2_tag.j0 k a0 true) else (if 0 < (a0.size : Int) then (if (bt a0 0) = 45 then (g2_tag.j0 k a0 true) else (if 0 ≤ (wrap64 ((a0.size : Int) - 1)) then (if (wrap64 ((a0.size : Int) - 1)) < (a0.size : Int) then (g2_tag.j0 k a0 ((bt a0 (wrap64 ((a0.size : Int) - 1))) == 45)) else (none)) else (none))) else (none)))
theorem g2_tag.calls (k : Nat) (a0 : ByteArray) (r : Bool) (w : World) (h : g2_tag.f k a0 = some r) :
  Calls Tryz.prog 38 #[.string a0] w fun e w' => e = .returned (.bool r) ∧ Drawn0 w w' := by
 have H := h
 clear h
 unfold g2_tag.f at H
 have HC2 := Ad.mk H
 clear H
 go_enter Tryz.func38, Tryz.ntmps38
 go_upto_region 1 with (fail)
 go_cut [26] (fun v26 wc => ∃ (kq : Nat) (x26_1 : Bool), v26 = .bool x26_1 ∧ Ad (g2_tag.j0 kq a0 x26_1 = some r) ∧ Ad (kq ≤ k) ∧ Drawn0 w wc)
 case first =>
  have H := HC2.out
  clear HC2
  by_cases c3 : (a0.size : Int) < 1
  ·rw [if_pos c3] at H
   have c3b0 := decide_eq_true c3
   have c3b1 : decide (a0.size < 1) = true := decide_eq_true (by omega)
   clear c3
   (first | rw [c3b0] | (simp only [i64_w, i32_w]; rw [c3b0]) | skip)
   have H' := Ad.mk H
   clear H
   go_wp2
   go_meet
   case rel => exact ⟨_, (true), e1_, H', ⟨z12_⟩, z1_⟩
  rw [if_neg c3] at H
  have c3b0 := decide_eq_false c3
  have c3b1 : decide (a0.size < 1) = false := decide_eq_false (by omega)
  clear c3
  (first | rw [c3b0] | (simp only [i64_w, i32_w]; rw [c3b0]) | skip)
  by_cases c4 : (a0.size : Int) > 35
  ·rw [if_pos c4] at H
   have c4b0 : decide (35 < (a0.size : Int)) = true := decide_eq_true c4
   have c4b1 : decide (35 < a0.size) = true := decide_eq_true (by omega)
   clear c4
   have H' := Ad.mk H
   clear H
   go_wp2
   go_meet
   case rel => exact ⟨_, (true), e1_, H', ⟨z12_⟩, z1_⟩
  rw [if_neg c4] at H
  have c4b0 : decide (35 < (a0.size : Int)) = false := decide_eq_false c4
  have c4b1 : decide (35 < a0.size) = false := decide_eq_false (by omega)
  clear c4
  by_cases c5 : 0 < (a0.size : Int)
  ·rw [if_pos c5] at H
   have c5b0 := decide_eq_true c5
   have c5b1 : decide (0 < a0.size) = true := decide_eq_true (by omega)
   clear c5
   by_cases c7 : (bt a0 0) = 45
   ·rw [if_pos c7] at H
    have c7b0 := beq_iff_eq.mpr c7
    have c7b1 := bne_eq_false_iff_eq.mpr c7
    clear c7
    have H' := Ad.mk H
    clear H
    have p6 : 0 ≤ (0 : Int) := (by omega)
    have q6 : 0 < a0.size := (by have : (0 : Int) < (a0.size : Int) := of_decide_eq_true a1_; omega)
    have hx6 : ∀ h : 0 < a0.size, ((a0[0]'h).toNat : Int) = bt a0 0 := bt_at a0 0
    clear p6
    have qi6 : (0 < (a0.size : Int)) = True := eq_true (of_decide_eq_true a1_)
    replace q6 := eq_true q6
    go_wp2
    go_meet
    case rel => exact ⟨_, (true), e1_, H', ⟨z12_⟩, z1_⟩
   rw [if_neg c7] at H
   have c7b0 := beq_eq_false_iff_ne.mpr c7
   have c7b1 := bne_iff_ne.mpr c7
   obtain ⟨ji8, hji8⟩ : ∃ j_ : Int, (wrap64 ((a0.size : Int) - 1)) = j_ := ⟨_, rfl⟩
   replace H : (if 0 ≤ (ji8) then (if (ji8) < (a0.size : Int) then (g2_tag.j0 k a0 ((bt a0 (ji8)) == 45)) else (none)) else (none)) = some r := by first | (rw [hji8] at H; exact H) | (simp only [hji8] at H ⊢; exact H)
   have hji8w : (IntKind.i64.wrap ((a0.size : Int) - 1)) = ji8 := (i64_w _).trans hji8
   by_cases c9 : 0 ≤ (ji8)
   ·rw [if_pos c9] at H
    have c9b0 := decide_eq_true c9
    clear c9
    by_cases c10 : (ji8) < (a0.size : Int)
    ·rw [if_pos c10] at H
     have c10b0 := decide_eq_true c10
     clear c10
     have H' := Ad.mk H
     clear H
     have p6 : 0 ≤ (0 : Int) := (by omega)
     have q6 : 0 < a0.size := (by have : (0 : Int) < (a0.size : Int) := of_decide_eq_true a1_; omega)
     have hx6 : ∀ h : 0 < a0.size, ((a0[0]'h).toNat : Int) = bt a0 0 := bt_at a0 0
     clear p6
     have qi6 : (0 < (a0.size : Int)) = True := eq_true (of_decide_eq_true a1_)
     replace q6 := eq_true q6
     have p11 : 0 ≤ ((ji8) : Int) := of_decide_eq_true a1_
     have q11 : (ji8) < (a0.size : Int) := of_decide_eq_true a1_
     have hx11 := bt_at a0 (ji8)
     replace p11 := eq_true p11
     replace q11 := eq_true q11
     go_wp2
     go_meet
     case rel => exact ⟨_, (((bt a0 (ji8)) == 45)), (by first | rfl | (simp; done) | (simp only [← hji8] <;> (first | rfl | simp)) | (simp [*]; done)), H', ⟨z12_⟩, z1_⟩
    rw [if_neg c10] at H
    exact absurd H (by simp)
   rw [if_neg c9] at H
   exact absurd H (by simp)
  rw [if_neg c5] at H
  exact absurd H (by simp)
 case rest =>
  clear HC2
  obtain ⟨kq, x26_1, rfl, HA, HJ1, ⟨mc1, rfl⟩⟩ := hcut
  cases kq with
  | zero => exact absurd HA.out (by simp [g2_tag.j0])
  | succ kj1 =>
   have H := HA.out
   clear HA
   simp only [g2_tag.j0] at H
   by_cases c12 : x26_1 = true
   ·subst c12
    rw [if_pos rfl] at H
    obtain rfl := Option.some.inj H
    go_wp2
    go_ret
    exact ⟨e1_, z1_⟩
   replace c12 := Bool.eq_false_iff.mpr c12
   subst c12
   rw [if_neg (show ¬ (false = true) by decide)] at H
   have H' := Ad.mk H
   clear H
   go_wp2
   go_loopg [3, 4] kj1 (fun kq v3 v4 w' => ∃ (x3_2 : Bool) (x4_2 : Int), v3 = .bool x3_2 ∧ v4 = .int .i64 x4_2 ∧ Ad (g2_tag.l0 kq a0 x3_2 x4_2 = some r) ∧ Ad (kq ≤ kj1) ∧ Drawn0 w w')
   case atStart => exact ⟨(true), (0), e1_, e1_, H', ⟨Nat.le_refl _⟩, z1_⟩
   case round =>
    clear H'
    obtain ⟨x3_2, x4_2, rfl, rfl, HA, HK2, ⟨m2, rfl⟩⟩ := hrel
    cases gk with
    | zero => exact absurd HA.out (by simp [g2_tag.l0])
    | succ k2 =>
     have H := HA.out
     clear HA
     simp only [g2_tag.l0] at H
     by_cases c13 : x4_2 < (a0.size : Int)
     ·rw [if_pos c13] at H
      have c13b0 := decide_eq_true c13
      clear c13
      have HC14 := Ad.mk H
      clear H
      go_upto_region 7 with (fail)
      go_cut [5] (fun v5 wc => ∃ (kq : Nat) (x5_13 : Bool), v5 = .bool x5_13 ∧ Ad (g2_tag.j2 kq a0 x3_2 x4_2 x5_13 = some r) ∧ Ad (kq ≤ k2) ∧ Drawn0 w wc)
      case first =>
       have H := HC14.out
       clear HC14
       by_cases c15 : 0 ≤ x4_2
       ·rw [if_pos c15] at H
        have c15b0 := decide_eq_true c15
        clear c15
        (first | rw [c15b0] | (simp only [i64_w, i32_w]; rw [c15b0]) | skip)
        by_cases c17 : (bt a0 x4_2) ≥ 97
        ·rw [if_pos c17] at H
         have c17b0 : decide (97 ≤ (bt a0 x4_2)) = true := decide_eq_true c17
         clear c17
         have H' := Ad.mk H
         clear H
         have p16 : 0 ≤ (x4_2 : Int) := of_decide_eq_true a1_
         have q16 : x4_2 < (a0.size : Int) := of_decide_eq_true a1_
         have hx16 := bt_at a0 x4_2
         replace p16 := eq_true p16
         replace q16 := eq_true q16
         have p18 : 0 ≤ (x4_2 : Int) := of_decide_eq_true a1_
         have q18 : x4_2 < (a0.size : Int) := of_decide_eq_true a1_
         have hx18 := bt_at a0 x4_2
         replace p18 := eq_true p18
         replace q18 := eq_true q18
         go_wp2
         go_meet
         case rel => exact ⟨_, (decide ((bt a0 x4_2) ≤ 122)), e1_, H', ⟨by have := HJ1.out; have := HK2.out; first | omega | exact Nat.le_refl _⟩, z1_⟩
        rw [if_neg c17] at H
        have c17b0 : decide (97 ≤ (bt a0 x4_2)) = false := decide_eq_false c17
        clear c17
        have H' := Ad.mk H
        clear H
        have p16 : 0 ≤ (x4_2 : Int) := of_decide_eq_true a1_
        have q16 : x4_2 < (a0.size : Int) := of_decide_eq_true a1_
        have hx16 := bt_at a0 x4_2
        replace p16 := eq_true p16
        replace q16 := eq_true q16
        go_wp2
        go_meet
        case rel => exact ⟨_, (false), e1_, H', ⟨by have := HJ1.out; have := HK2.out; first | omega | exact Nat.le_refl _⟩, z1_⟩
       rw [if_neg c15] at H
       exact absurd H (by simp)
      case rest =>
       clear HC14
       try clear c3
       try clear c3b0
       try clear c3b1
       try clear c4
       try clear c4b0
       try clear c4b1
       try clear c5
       try clear c5b0
       try clear c5b1
       try clear p6
       try clear q6
       try clear hx6
       try clear qi6
       try clear c7
       try clear c7b0
       try clear c7b1
       try clear c9
       try clear c9b0
       try clear c10
       try clear c10b0
       try clear p11
       try clear q11
       try clear hx11
       try clear c12
       try clear c13
       try clear c13b0
       try clear p11
       try clear p6
       try clear q11
       try clear q6
       obtain ⟨kq, x5_13, rfl, HA, HJ13, ⟨mc13, rfl⟩⟩ := hcut
       cases kq with
       | zero => exact absurd HA.out (by simp [g2_tag.j2])
       | succ kj13 =>
        have H := HA.out
        clear HA
        simp only [g2_tag.j2] at H
        by_cases c19 : 0 ≤ x4_2
        ·rw [if_pos c19] at H
         have c19b0 := decide_eq_true c19
         clear c19
         by_cases c20 : x4_2 < (a0.size : Int)
         ·rw [if_pos c20] at H
          have c20b0 := decide_eq_true c20
          clear c20
          by_cases c22 : (bt a0 x4_2) = 45
          ·rw [if_pos c22] at H
           have c22b0 := beq_iff_eq.mpr c22
           have c22b1 := bne_eq_false_iff_eq.mpr c22
           clear c22
           obtain ⟨ji23, hji23⟩ : ∃ j_ : Int, (wrap64 (x4_2 - 1)) = j_ := ⟨_, rfl⟩
           replace H : (if 0 ≤ (ji23) then (if (ji23) < (a0.size : Int) then (if (bt a0 (ji23)) = 45 then (some false) else (g2_tag.l0 kj13 a0 false (wrap64 (x4_2 + 1)))) else (none)) else (none)) = some r := by first | (rw [hji23] at H; exact H) | (simp only [hji23] at H ⊢; exact H)
           have hji23w : (IntKind.i64.wrap (x4_2 - 1)) = ji23 := (i64_w _).trans hji23
           by_cases c24 : 0 ≤ (ji23)
           ·rw [if_pos c24] at H
            have c24b0 := decide_eq_true c24
            clear c24
            by_cases c25 : (ji23) < (a0.size : Int)
            ·rw [if_pos c25] at H
             have c25b0 := decide_eq_true c25
             clear c25
             by_cases c27 : (bt a0 (ji23)) = 45
             ·rw [if_pos c27] at H
              have c27b0 := beq_iff_eq.mpr c27
              have c27b1 := bne_eq_false_iff_eq.mpr c27
              clear c27
              obtain rfl := Option.some.inj H
              have p21 : 0 ≤ (x4_2 : Int) := of_decide_eq_true a1_
              have q21 : x4_2 < (a0.size : Int) := of_decide_eq_true a1_
              have hx21 := bt_at a0 x4_2
              replace p21 := eq_true p21
              replace q21 := eq_true q21
              have p26 : 0 ≤ ((ji23) : Int) := of_decide_eq_true a1_
              have q26 : (ji23) < (a0.size : Int) := of_decide_eq_true a1_
              have hx26 := bt_at a0 (ji23)
              replace p26 := eq_true p26
              replace q26 := eq_true q26
              go_wp2
              go_ret
              exact ⟨by first | rfl | (simp; done) | (simp only [← hji23] <;> (first | rfl | simp)) | (simp [*]; done), z1_⟩
             rw [if_neg c27] at H
             have c27b0 := beq_eq_false_iff_ne.mpr c27
             have c27b1 := bne_iff_ne.mpr c27
             have H' := Ad.mk H
             clear H
             have p21 : 0 ≤ (x4_2 : Int) := of_decide_eq_true a1_
             have q21 : x4_2 < (a0.size : Int) := of_decide_eq_true a1_
             have hx21 := bt_at a0 x4_2
             replace p21 := eq_true p21
             replace q21 := eq_true q21
             have p26 : 0 ≤ ((ji23) : Int) := of_decide_eq_true a1_
             have q26 : (ji23) < (a0.size : Int) := of_decide_eq_true a1_
             have hx26 := bt_at a0 (ji23)
             replace p26 := eq_true p26
             replace q26 := eq_true q26
             go_wp2
             go_roundg kj13
             case measure => have := HJ1.out; have := HK2.out; have := HJ13.out; omega
             case rel => exact ⟨(false), (wrap64 (x4_2 + 1)), e1_, e1_, H', ⟨z64_⟩, z1_⟩
            rw [if_neg c25] at H
            exact absurd H (by simp)
           rw [if_neg c24] at H
           exact absurd H (by simp)
          rw [if_neg c22] at H
          have c22b0 := beq_eq_false_iff_ne.mpr c22
          have c22b1 := bne_iff_ne.mpr c22
          by_cases c28 : x5_13 = true
          ·subst c28
           rw [if_pos rfl] at H
           have H' := Ad.mk H
           clear H
           have p21 : 0 ≤ (x4_2 : Int) := of_decide_eq_true a1_
           have q21 : x4_2 < (a0.size : Int) := of_decide_eq_true a1_
           have hx21 := bt_at a0 x4_2
           replace p21 := eq_true p21
           replace q21 := eq_true q21
           go_wp2
           go_roundg kj13
           case measure => have := HJ1.out; have := HK2.out; have := HJ13.out; omega
           case rel => exact ⟨(x3_2), (wrap64 (x4_2 + 1)), e1_, e1_, H', ⟨z64_⟩, z1_⟩
          replace c28 := Bool.eq_false_iff.mpr c28
          subst c28
          rw [if_neg (show ¬ (false = true) by decide)] at H
          by_cases c29 : x3_2 = true
          ·subst c29
           rw [if_pos rfl] at H
           obtain rfl := Option.some.inj H
           have p21 : 0 ≤ (x4_2 : Int) := of_decide_eq_true a1_
           have q21 : x4_2 < (a0.size : Int) := of_decide_eq_true a1_
           have hx21 := bt_at a0 x4_2
           replace p21 := eq_true p21
           replace q21 := eq_true q21
           go_wp2
           go_ret
           exact ⟨e1_, z1_⟩
          replace c29 := Bool.eq_false_iff.mpr c29
          subst c29
          rw [if_neg (show ¬ (false = true) by decide)] at H
          obtain ⟨t242, A31, H⟩ := bi_ H
          by_cases c32 : t242 = true
          ·subst c32
           rw [if_pos rfl] at H
           have H' := Ad.mk H
           clear H
           have p21 : 0 ≤ (x4_2 : Int) := of_decide_eq_true a1_
           have q21 : x4_2 < (a0.size : Int) := of_decide_eq_true a1_
           have hx21 := bt_at a0 x4_2
           replace p21 := eq_true p21
           replace q21 := eq_true q21
           have p30 : 0 ≤ (x4_2 : Int) := of_decide_eq_true a1_
           have q30 : x4_2 < (a0.size : Int) := of_decide_eq_true a1_
           have hx30 := bt_at a0 x4_2
           replace p30 := eq_true p30
           replace q30 := eq_true q30
           go_wp2_with (first | (go_at_call 29; (with_reducible refine (g2_Digit.calls (bt a0 x4_2) true _ A31.out).mono ?_); rintro e w' ⟨rfl, ⟨nd, rfl⟩⟩))
           go_roundg kj13
           case measure => have := HJ1.out; have := HK2.out; have := HJ13.out; omega
           case rel => exact ⟨(false), (wrap64 (x4_2 + 1)), e1_, e1_, H', ⟨z64_⟩, z1_⟩
          replace c32 := Bool.eq_false_iff.mpr c32
          subst c32
          rw [if_neg (show ¬ (false = true) by decide)] at H
          obtain rfl := Option.some.inj H
          have p21 : 0 ≤ (x4_2 : Int) := of_decide_eq_true a1_
          have q21 : x4_2 < (a0.size : Int) := of_decide_eq_true a1_
          have hx21 := bt_at a0 x4_2
          replace p21 := eq_true p21
          replace q21 := eq_true q21
          have p30 : 0 ≤ (x4_2 : Int) := of_decide_eq_true a1_
          have q30 : x4_2 < (a0.size : Int) := of_decide_eq_true a1_
          have hx30 := bt_at a0 x4_2
          replace p30 := eq_true p30
          replace q30 := eq_true q30
          go_wp2_with (first | (go_at_call 29; (with_reducible refine (g2_Digit.calls (bt a0 x4_2) false _ A31.out).mono ?_); rintro e w' ⟨rfl, ⟨nd, rfl⟩⟩))
          go_ret
          exact ⟨e1_, z1_⟩
         rw [if_neg c20] at H
         exact absurd H (by simp)
        rw [if_neg c19] at H
        exact absurd H (by simp)
     rw [if_neg c13] at H
     have c13b0 := decide_eq_false c13
     clear c13
     obtain rfl := Option.some.inj H
     go_wp2
     go_ret
     exact ⟨e1_, z1_⟩
end Go.Proofs.YtpbphelaeleikaaGreatDoor.PLt

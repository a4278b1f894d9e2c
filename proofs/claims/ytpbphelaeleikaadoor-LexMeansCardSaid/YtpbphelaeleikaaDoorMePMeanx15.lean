import Derived.Test.YtpbphelaeleikaaDoorMePMeanx0
import Derived.Test.YtpbphelaeleikaaDoorMePMeanx14
namespace Go.Proofs.YtpbphelaeleikaaDoor.PMean
open Go.RowKit Go.Proofs.YtpbphelaeleikaaDoorW.PrintWords Go.Proofs.YtpbphelaeleikaaDoorW.PrintLast Go.Proofs.YtpbphelaeleikaaDoorW.PrintMore
attribute [local go_sem] max2_int min2_int max_two min_two max_three min_three max_four min_four
set_option linter.unusedVariables false
set_option linter.unusedSimpArgs false
set_option maxHeartbeats 8000000
set_option maxRecDepth 100000
def rhizomeref01_Valid.f (k : Nat) (a0 : ByteArray) : Option (Bool) := (rhizomeref01_Runes.f k a0).bind fun bt331 => (some (bt331.2 == (a0.size : Int)))
theorem rhizomeref01_Valid.calls (k : Nat) (a0 : ByteArray) (r : Bool) (w : World) (h : rhizomeref01_Valid.f k a0 = some r) :
  Calls Tryd.prog 17 #[.string a0] w fun e w' => e = .returned (.bool r) ∧ Below w.heap.size w w' := by
 have HB := Aside0.mk (Below.refl w.heap.size w)
 have H := h
 clear h
 unfold rhizomeref01_Valid.f at H
 obtain ⟨⟨t331, t332⟩, A2, H⟩ := bi_ H
 try dsimp only at H
 obtain rfl := Option.some.inj H
 go_enter Tryd.func17, Tryd.ntmps17
 go_wp2_with (first | ((with_reducible refine gate_callee (f := 29) rfl ?_); refine goesL_ (some 7) rfl rfl Tryd.func29 k1_ rfl #[.string a0] rfl g1_ ?_; (with_reducible refine (rhizomeref01_Runes.calls k a0 t331 t332 _ A2.out).mono ?_); rintro e w3 ⟨v333, rfl, ho0, hb⟩; refine ⟨_, rfl, ?_⟩; have HO334 := Aside0.mk (Kd.R_lower ho0 (below_size b1_)); replace HB := Aside0.mk (below_step b1_ hb); (try clear hb); (try clear hb2); (try clear hk); (try clear hi); (try clear ho0)))
 go_ret
 exact ⟨e2_, b1_⟩
def rhizomeref02_in.l0 : Nat → Int → ByteArray → Int → Option (Bool)
 | 0, _, _, _ => none
 | k + 1, x0, x1, x5 => if x5 < (x1.size : Int) then (if 0 ≤ x5 then (if (bt x1 x5) = x0 then (some true) else (rhizomeref02_in.l0 k x0 x1 (wrap64 (x5 + 1)))) else (none)) else (some false)
def rhizomeref02_in.f (k : Nat) (a0 : Int) (a1 : ByteArray) : Option (Bool) := rhizomeref02_in.l0 k a0 a1 0
theorem rhizomeref02_in.calls (k : Nat) (a0 : Int) (a1 : ByteArray) (r : Bool) (w : World) (h : rhizomeref02_in.f k a0 a1 = some r) :
  Calls Tryd.prog 30 #[.int .u8 a0, .string a1] w fun e w' => e = .returned (.bool r) ∧ Drawn0 w w' := by
 have H := h
 clear h
 unfold rhizomeref02_in.f at H
 have H' := Aside0.mk H
 clear H
 go_enter Tryd.func30, Tryd.ntmps30
 go_wp2
 go_loopg [5] k (fun kq v5 w' => ∃ (x5_1 : Int), v5 = .int .i64 x5_1 ∧ Aside0 (rhizomeref02_in.l0 kq a0 a1 x5_1 = some r) ∧ Aside0 (kq ≤ k) ∧ Drawn0 w w')
 case atStart => exact ⟨(0), e1_, H', ⟨Nat.le_refl _⟩, z4_⟩
 case round =>
  clear H'
  try clear p2
  obtain ⟨x5_1, rfl, HA, HK1, ⟨m1, rfl⟩⟩ := hrel
  cases gk with
  | zero => exact absurd HA.out (by simp [rhizomeref02_in.l0])
  | succ k1 =>
   have H := HA.out
   clear HA
   simp only [rhizomeref02_in.l0] at H
   by_cases c3 : x5_1 < (a1.size : Int)
   ·rw [if_pos c3] at H
    have c3b0 := decide_eq_true c3
    clear c3
    by_cases c4 : 0 ≤ x5_1
    ·rw [if_pos c4] at H
     have c4b0 := decide_eq_true c4
     clear c4
     by_cases c6 : (bt a1 x5_1) = a0
     ·rw [if_pos c6] at H
      have c6b0 := beq_iff_eq.mpr c6
      have c6b1 := bne_eq_false_iff_eq.mpr c6
      clear c6
      obtain rfl := Option.some.inj H
      have p5 : 0 ≤ (x5_1 : Int) := of_decide_eq_true a1_
      have q5 : x5_1 < (a1.size : Int) := of_decide_eq_true a1_
      have hx5 := bt_at a1 x5_1
      replace p5 := eq_true p5
      replace q5 := eq_true q5
      go_wp2
      go_ret
      exact ⟨e1_, z4_⟩
     rw [if_neg c6] at H
     have c6b0 := beq_eq_false_iff_ne.mpr c6
     have c6b1 := bne_iff_ne.mpr c6
     have H' := Aside0.mk H
     clear H
     have p5 : 0 ≤ (x5_1 : Int) := of_decide_eq_true a1_
     have q5 : x5_1 < (a1.size : Int) := of_decide_eq_true a1_
     have hx5 := bt_at a1 x5_1
     replace p5 := eq_true p5
     replace q5 := eq_true q5
     go_wp2
     go_roundg k1
     case measure => have := HK1.out; omega
     case rel => exact ⟨(wrap64 (x5_1 + 1)), e1_, H', ⟨by have := HK1.out; omega⟩, z4_⟩
    rw [if_neg c4] at H
    exact absurd H (by simp)
   rw [if_neg c3] at H
   have c3b0 := decide_eq_false c3
   clear c3
   obtain rfl := Option.some.inj H
   go_wp2
   go_ret
   exact ⟨e1_, z4_⟩
mutual
def rhizomeref02_IRI.j0 : Nat → ByteArray → Bool → Option (Bool)
 | 0, _, _ => none
 | k + 1, x0, x16 => if x16 = true then (some false) else (rhizomeref02_IRI.l0 k x0 0)
def rhizomeref02_IRI.l0 : Nat → ByteArray → Int → Option (Bool)
 | 0, _, _ => none
 | k + 1, x0, x3 => if x3 < (x0.size : Int) then (if 0 ≤ x3 then (if (bt x0 x3) ≤ 32 then (some false) else ((rhizomeref02_in.f k (bt x0 x3) (⟨#[60, 62, 123, 125, 124, 94]⟩ : ByteArray)).bind fun t336 => (if t336 = true then (some false) else (if (bt x0 x3) = 34 then (some false) else (if (bt x0 x3) = 92 then (some false) else (if (bt x0 x3) = 96 then (some false) else (rhizomeref02_IRI.l0 k x0 (wrap64 (x3 + 1))))))))) else (none)) else (some true)
end
def rhizomeref02_IRI.f (k : Nat) (a0 : ByteArray) : Option (Bool) := if (a0.size : Int) < 1 then (rhizomeref02_IRI.j0 k a0 true) else (if (a0.size : Int) > 1000 then (rhizomeref02_IRI.j0 k a0 true) else ((rhizomeref01_Valid.f k a0).bind fun t335 => (rhizomeref02_IRI.j0 k a0 (!t335))))
theorem rhizomeref02_IRI.calls (k : Nat) (a0 : ByteArray) (r : Bool) (w : World) (h : rhizomeref02_IRI.f k a0 = some r) :
  Calls Tryd.prog 18 #[.string a0] w fun e w' => e = .returned (.bool r) ∧ Below w.heap.size w w' := by
 have HB := Aside0.mk (Below.refl w.heap.size w)
 have H := h
 clear h
 unfold rhizomeref02_IRI.f at H
 have HC2 := Aside0.mk H
 clear H
 go_enter Tryd.func18, Tryd.ntmps18
 go_upto_region 1 with (fail)
 go_cut [16] (fun v16 wc => ∃ (kq : Nat) (x16_1 : Bool), v16 = .bool x16_1 ∧ Aside0 (rhizomeref02_IRI.j0 kq a0 x16_1 = some r) ∧ Aside0 (kq ≤ k) ∧ Aside0 (Below w.heap.size w wc))
 case first =>
  have H := HC2.out
  clear HC2
  by_cases c3 : (a0.size : Int) < 1
  ·rw [if_pos c3] at H
   have c3b0 := decide_eq_true c3
   have c3b1 : decide (a0.size < 1) = true := decide_eq_true (by omega)
   clear c3
   (first | rw [c3b0] | (simp only [i64_w, i32_w]; rw [c3b0]) | skip)
   have H' := Aside0.mk H
   clear H
   go_wp2
   go_meet
   case rel => exact ⟨_, (true), e1_, H', ⟨z12_⟩, ⟨b1_⟩⟩
  rw [if_neg c3] at H
  have c3b0 := decide_eq_false c3
  have c3b1 : decide (a0.size < 1) = false := decide_eq_false (by omega)
  clear c3
  (first | rw [c3b0] | (simp only [i64_w, i32_w]; rw [c3b0]) | skip)
  by_cases c4 : (a0.size : Int) > 1000
  ·rw [if_pos c4] at H
   have c4b0 : decide (1000 < (a0.size : Int)) = true := decide_eq_true c4
   have c4b1 : decide (1000 < a0.size) = true := decide_eq_true (by omega)
   clear c4
   have H' := Aside0.mk H
   clear H
   go_wp2
   go_meet
   case rel => exact ⟨_, (true), e1_, H', ⟨z12_⟩, ⟨b1_⟩⟩
  rw [if_neg c4] at H
  have c4b0 : decide (1000 < (a0.size : Int)) = false := decide_eq_false c4
  have c4b1 : decide (1000 < a0.size) = false := decide_eq_false (by omega)
  clear c4
  obtain ⟨t335, A5, H⟩ := bi_ H
  have H' := Aside0.mk H
  clear H
  go_wp2_with (first | (go_at_call 17; (with_reducible refine (rhizomeref01_Valid.calls k a0 t335 _ A5.out).mono ?_); rintro e w6 ⟨rfl, hb⟩; replace HB := Aside0.mk (below_step b1_ hb); clear hb))
  go_meet
  case rel => exact ⟨_, (!t335), e1_, H', ⟨z12_⟩, ⟨b1_⟩⟩
 case rest =>
  clear HC2
  obtain ⟨kq, x16_1, rfl, HA, HJ1, HB⟩ := hcut
  cases kq with
  | zero => exact absurd HA.out (by simp [rhizomeref02_IRI.j0])
  | succ kj1 =>
   have H := HA.out
   clear HA
   simp only [rhizomeref02_IRI.j0] at H
   by_cases c7 : x16_1 = true
   ·subst c7
    rw [if_pos rfl] at H
    obtain rfl := Option.some.inj H
    go_wp2
    go_ret
    exact ⟨e2_, b1_⟩
   replace c7 := Bool.eq_false_iff.mpr c7
   subst c7
   rw [if_neg (show ¬ (false = true) by decide)] at H
   have H' := Aside0.mk H
   clear H
   go_wp2
   go_loopg [3] kj1 (fun kq v3 w' => ∃ (x3_2 : Int), v3 = .int .i64 x3_2 ∧ Aside0 (rhizomeref02_IRI.l0 kq a0 x3_2 = some r) ∧ Aside0 (kq ≤ kj1) ∧ Aside0 (Below w.heap.size w w'))
   case atStart => exact ⟨(0), e1_, H', ⟨Nat.le_refl _⟩, ⟨b1_⟩⟩
   case round =>
    clear H'
    obtain ⟨x3_2, rfl, HA, HK2, HB⟩ := hrel
    cases gk with
    | zero => exact absurd HA.out (by simp [rhizomeref02_IRI.l0])
    | succ k2 =>
     have H := HA.out
     clear HA
     simp only [rhizomeref02_IRI.l0] at H
     by_cases c8 : x3_2 < (a0.size : Int)
     ·rw [if_pos c8] at H
      have c8b0 := decide_eq_true c8
      clear c8
      by_cases c9 : 0 ≤ x3_2
      ·rw [if_pos c9] at H
       have c9b0 := decide_eq_true c9
       clear c9
       by_cases c11 : (bt a0 x3_2) ≤ 32
       ·rw [if_pos c11] at H
        have c11b0 := decide_eq_true c11
        clear c11
        obtain rfl := Option.some.inj H
        have p10 : 0 ≤ (x3_2 : Int) := of_decide_eq_true a1_
        have q10 : x3_2 < (a0.size : Int) := of_decide_eq_true a1_
        have hx10 := bt_at a0 x3_2
        replace p10 := eq_true p10
        replace q10 := eq_true q10
        go_wp2
        go_ret
        exact ⟨e2_, b1_⟩
       rw [if_neg c11] at H
       have c11b0 := decide_eq_false c11
       clear c11
       obtain ⟨t336, A13, H⟩ := bi_ H
       by_cases c14 : t336 = true
       ·subst c14
        rw [if_pos rfl] at H
        obtain rfl := Option.some.inj H
        have p10 : 0 ≤ (x3_2 : Int) := of_decide_eq_true a1_
        have q10 : x3_2 < (a0.size : Int) := of_decide_eq_true a1_
        have hx10 := bt_at a0 x3_2
        replace p10 := eq_true p10
        replace q10 := eq_true q10
        have p12 : 0 ≤ (x3_2 : Int) := of_decide_eq_true a1_
        have q12 : x3_2 < (a0.size : Int) := of_decide_eq_true a1_
        have hx12 := bt_at a0 x3_2
        replace p12 := eq_true p12
        replace q12 := eq_true q12
        go_wp2_with (first | (go_at_call 30; (with_reducible refine (rhizomeref02_in.calls k2 (bt a0 x3_2) (⟨#[60, 62, 123, 125, 124, 94]⟩ : ByteArray) true _ A13.out).mono ?_); rintro e w' ⟨rfl, ⟨nd, rfl⟩⟩))
        go_ret
        exact ⟨e2_, b1_⟩
       replace c14 := Bool.eq_false_iff.mpr c14
       subst c14
       rw [if_neg (show ¬ (false = true) by decide)] at H
       by_cases c16 : (bt a0 x3_2) = 34
       ·rw [if_pos c16] at H
        have c16b0 := beq_iff_eq.mpr c16
        have c16b1 := bne_eq_false_iff_eq.mpr c16
        clear c16
        obtain rfl := Option.some.inj H
        have p10 : 0 ≤ (x3_2 : Int) := of_decide_eq_true a1_
        have q10 : x3_2 < (a0.size : Int) := of_decide_eq_true a1_
        have hx10 := bt_at a0 x3_2
        replace p10 := eq_true p10
        replace q10 := eq_true q10
        have p12 : 0 ≤ (x3_2 : Int) := of_decide_eq_true a1_
        have q12 : x3_2 < (a0.size : Int) := of_decide_eq_true a1_
        have hx12 := bt_at a0 x3_2
        replace p12 := eq_true p12
        replace q12 := eq_true q12
        go_wp2_with (first | (go_at_call 30; (with_reducible refine (rhizomeref02_in.calls k2 (bt a0 x3_2) (⟨#[60, 62, 123, 125, 124, 94]⟩ : ByteArray) false _ A13.out).mono ?_); rintro e w' ⟨rfl, ⟨nd, rfl⟩⟩; have p15 : 0 ≤ (x3_2 : Int) := of_decide_eq_true a1_; have q15 : x3_2 < (a0.size : Int) := of_decide_eq_true a1_; have hx15 := bt_at a0 x3_2; replace p15 := eq_true p15; replace q15 := eq_true q15))
        go_ret
        exact ⟨e2_, b1_⟩
       rw [if_neg c16] at H
       have c16b0 := beq_eq_false_iff_ne.mpr c16
       have c16b1 := bne_iff_ne.mpr c16
       by_cases c18 : (bt a0 x3_2) = 92
       ·rw [if_pos c18] at H
        have c18b0 := beq_iff_eq.mpr c18
        have c18b1 := bne_eq_false_iff_eq.mpr c18
        clear c18
        obtain rfl := Option.some.inj H
        have p10 : 0 ≤ (x3_2 : Int) := of_decide_eq_true a1_
        have q10 : x3_2 < (a0.size : Int) := of_decide_eq_true a1_
        have hx10 := bt_at a0 x3_2
        replace p10 := eq_true p10
        replace q10 := eq_true q10
        have p12 : 0 ≤ (x3_2 : Int) := of_decide_eq_true a1_
        have q12 : x3_2 < (a0.size : Int) := of_decide_eq_true a1_
        have hx12 := bt_at a0 x3_2
        replace p12 := eq_true p12
        replace q12 := eq_true q12
        go_wp2_with (first | (go_at_call 30; (with_reducible refine (rhizomeref02_in.calls k2 (bt a0 x3_2) (⟨#[60, 62, 123, 125, 124, 94]⟩ : ByteArray) false _ A13.out).mono ?_); rintro e w' ⟨rfl, ⟨nd, rfl⟩⟩; have p15 : 0 ≤ (x3_2 : Int) := of_decide_eq_true a1_; have q15 : x3_2 < (a0.size : Int) := of_decide_eq_true a1_; have hx15 := bt_at a0 x3_2; replace p15 := eq_true p15; replace q15 := eq_true q15; have p17 : 0 ≤ (x3_2 : Int) := of_decide_eq_true a1_; have q17 : x3_2 < (a0.size : Int) := of_decide_eq_true a1_; have hx17 := bt_at a0 x3_2; replace p17 := eq_true p17; replace q17 := eq_true q17))
        go_ret
        exact ⟨e2_, b1_⟩
       rw [if_neg c18] at H
       have c18b0 := beq_eq_false_iff_ne.mpr c18
       have c18b1 := bne_iff_ne.mpr c18
       by_cases c20 : (bt a0 x3_2) = 96
       ·rw [if_pos c20] at H
        have c20b0 := beq_iff_eq.mpr c20
        have c20b1 := bne_eq_false_iff_eq.mpr c20
        clear c20
        obtain rfl := Option.some.inj H
        have p10 : 0 ≤ (x3_2 : Int) := of_decide_eq_true a1_
        have q10 : x3_2 < (a0.size : Int) := of_decide_eq_true a1_
        have hx10 := bt_at a0 x3_2
        replace p10 := eq_true p10
        replace q10 := eq_true q10
        have p12 : 0 ≤ (x3_2 : Int) := of_decide_eq_true a1_
        have q12 : x3_2 < (a0.size : Int) := of_decide_eq_true a1_
        have hx12 := bt_at a0 x3_2
        replace p12 := eq_true p12
        replace q12 := eq_true q12
        go_wp2_with (first | (go_at_call 30; (with_reducible refine (rhizomeref02_in.calls k2 (bt a0 x3_2) (⟨#[60, 62, 123, 125, 124, 94]⟩ : ByteArray) false _ A13.out).mono ?_); rintro e w' ⟨rfl, ⟨nd, rfl⟩⟩; have p15 : 0 ≤ (x3_2 : Int) := of_decide_eq_true a1_; have q15 : x3_2 < (a0.size : Int) := of_decide_eq_true a1_; have hx15 := bt_at a0 x3_2; replace p15 := eq_true p15; replace q15 := eq_true q15; have p17 : 0 ≤ (x3_2 : Int) := of_decide_eq_true a1_; have q17 : x3_2 < (a0.size : Int) := of_decide_eq_true a1_; have hx17 := bt_at a0 x3_2; replace p17 := eq_true p17; replace q17 := eq_true q17; have p19 : 0 ≤ (x3_2 : Int) := of_decide_eq_true a1_; have q19 : x3_2 < (a0.size : Int) := of_decide_eq_true a1_; have hx19 := bt_at a0 x3_2; replace p19 := eq_true p19; replace q19 := eq_true q19))
        go_ret
        exact ⟨e2_, b1_⟩
       rw [if_neg c20] at H
       have c20b0 := beq_eq_false_iff_ne.mpr c20
       have c20b1 := bne_iff_ne.mpr c20
       have H' := Aside0.mk H
       clear H
       have p10 : 0 ≤ (x3_2 : Int) := of_decide_eq_true a1_
       have q10 : x3_2 < (a0.size : Int) := of_decide_eq_true a1_
       have hx10 := bt_at a0 x3_2
       replace p10 := eq_true p10
       replace q10 := eq_true q10
       have p12 : 0 ≤ (x3_2 : Int) := of_decide_eq_true a1_
       have q12 : x3_2 < (a0.size : Int) := of_decide_eq_true a1_
       have hx12 := bt_at a0 x3_2
       replace p12 := eq_true p12
       replace q12 := eq_true q12
       go_wp2_with (first | (go_at_call 30; (with_reducible refine (rhizomeref02_in.calls k2 (bt a0 x3_2) (⟨#[60, 62, 123, 125, 124, 94]⟩ : ByteArray) false _ A13.out).mono ?_); rintro e w' ⟨rfl, ⟨nd, rfl⟩⟩; have p15 : 0 ≤ (x3_2 : Int) := of_decide_eq_true a1_; have q15 : x3_2 < (a0.size : Int) := of_decide_eq_true a1_; have hx15 := bt_at a0 x3_2; replace p15 := eq_true p15; replace q15 := eq_true q15; have p17 : 0 ≤ (x3_2 : Int) := of_decide_eq_true a1_; have q17 : x3_2 < (a0.size : Int) := of_decide_eq_true a1_; have hx17 := bt_at a0 x3_2; replace p17 := eq_true p17; replace q17 := eq_true q17; have p19 : 0 ≤ (x3_2 : Int) := of_decide_eq_true a1_; have q19 : x3_2 < (a0.size : Int) := of_decide_eq_true a1_; have hx19 := bt_at a0 x3_2; replace p19 := eq_true p19; replace q19 := eq_true q19))
       go_roundg k2
       case measure => have := HJ1.out; have := HK2.out; omega
       case rel => exact ⟨(wrap64 (x3_2 + 1)), e1_, H', ⟨by have := HJ1.out; have := HK2.out; omega⟩, ⟨b1_⟩⟩
      rw [if_neg c9] at H
      exact absurd H (by simp)
     rw [if_neg c8] at H
     have c8b0 := decide_eq_false c8
     clear c8
     obtain rfl := Option.some.inj H
     go_wp2
     go_ret
     exact ⟨e2_, b1_⟩
def rhizomeref02_Letter.f (a0 : Int) : Option (Bool) := if a0 ≥ 65 then (if a0 ≤ 90 then (some true) else (if a0 ≥ 97 then (some (decide (a0 ≤ 122))) else (some false))) else (if a0 ≥ 97 then (some (decide (a0 ≤ 122))) else (some false))
theorem rhizomeref02_Letter.calls (a0 : Int) (r : Bool) (w : World) (h : rhizomeref02_Letter.f a0 = some r) :
  Calls Tryd.prog 31 #[.int .u8 a0] w fun e w' => e = .returned (.bool r) ∧ Drawn0 w w' := by
 have H := h
 clear h
 unfold rhizomeref02_Letter.f at H
 by_cases c2 : a0 ≥ 65
 ·rw [if_pos c2] at H
  have c2b0 : decide (65 ≤ a0) = true := decide_eq_true c2
  clear c2
  by_cases c3 : a0 ≤ 90
  ·rw [if_pos c3] at H
   have c3b0 := decide_eq_true c3
   clear c3
   obtain rfl := Option.some.inj H
   go_enter Tryd.func31, Tryd.ntmps31
   go_wp2
   go_ret
   exact ⟨e1_, z4_⟩
  rw [if_neg c3] at H
  have c3b0 := decide_eq_false c3
  clear c3
  by_cases c4 : a0 ≥ 97
  ·rw [if_pos c4] at H
   have c4b0 : decide (97 ≤ a0) = true := decide_eq_true c4
   clear c4
   obtain rfl := Option.some.inj H
   go_enter Tryd.func31, Tryd.ntmps31
   go_wp2
   go_ret
   exact ⟨e1_, z4_⟩
  rw [if_neg c4] at H
  have c4b0 : decide (97 ≤ a0) = false := decide_eq_false c4
  clear c4
  obtain rfl := Option.some.inj H
  go_enter Tryd.func31, Tryd.ntmps31
  go_wp2
  go_ret
  exact ⟨e1_, z4_⟩
 rw [if_neg c2] at H
 have c2b0 : decide (65 ≤ a0) = false := decide_eq_false c2
 clear c2
 by_cases c5 : a0 ≥ 97
 ·rw [if_pos c5] at H
  have c5b0 : decide (97 ≤ a0) = true := decide_eq_true c5
  clear c5
  obtain rfl := Option.some.inj H
  go_enter Tryd.func31, Tryd.ntmps31
  go_wp2
  go_ret
  exact ⟨e1_, z4_⟩
 rw [if_neg c5] at H
 have c5b0 : decide (97 ≤ a0) = false := decide_eq_false c5
 clear c5
 obtain rfl := Option.some.inj H
 go_enter Tryd.func31, Tryd.ntmps31
 go_wp2
 go_ret
 exact ⟨e1_, z4_⟩
def rhizomeref02_Digit.f (a0 : Int) : Option (Bool) := if a0 ≥ 48 then (some (decide (a0 ≤ 57))) else (some false)
theorem rhizomeref02_Digit.calls (a0 : Int) (r : Bool) (w : World) (h : rhizomeref02_Digit.f a0 = some r) :
  Calls Tryd.prog 32 #[.int .u8 a0] w fun e w' => e = .returned (.bool r) ∧ Drawn0 w w' := by
 have H := h
 clear h
 unfold rhizomeref02_Digit.f at H
 by_cases c2 : a0 ≥ 48
 ·rw [if_pos c2] at H
  have c2b0 : decide (48 ≤ a0) = true := decide_eq_true c2
  clear c2
  obtain rfl := Option.some.inj H
  go_enter Tryd.func32, Tryd.ntmps32
  go_wp2
  go_ret
  exact ⟨e1_, z4_⟩
 rw [if_neg c2] at H
 have c2b0 : decide (48 ≤ a0) = false := decide_eq_false c2
 clear c2
 obtain rfl := Option.some.inj H
 go_enter Tryd.func32, Tryd.ntmps32
 go_wp2
 go_ret
 exact ⟨e1_, z4_⟩
mutual
def rhizomeref02_Word.j0 : Nat → ByteArray → Bool → Option (Bool)
 | 0, _, _ => none
 | k + 1, x0, x20 => if x20 = true then (some false) else (rhizomeref02_Word.l0 k x0 0)
def rhizomeref02_Word.l0 : Nat → ByteArray → Int → Option (Bool)
 | 0, _, _ => none
 | k + 1, x0, x5 => if x5 < (x0.size : Int) then (if 0 ≤ x5 then ((rhizomeref02_Letter.f (bt x0 x5)).bind fun t338 => (if t338 = true then (rhizomeref02_Word.l0 k x0 (wrap64 (x5 + 1))) else ((rhizomeref02_Digit.f (bt x0 x5)).bind fun t339 => (if t339 = true then (rhizomeref02_Word.l0 k x0 (wrap64 (x5 + 1))) else (some false))))) else (none)) else (some true)
end
def rhizomeref02_Word.f (k : Nat) (a0 : ByteArray) (a1 : Int) : Option (Bool) := if (a0.size : Int) < 1 then (rhizomeref02_Word.j0 k a0 true) else (if (a0.size : Int) > a1 then (rhizomeref02_Word.j0 k a0 true) else (if 0 < (a0.size : Int) then ((rhizomeref02_Letter.f (bt a0 0)).bind fun t337 => (rhizomeref02_Word.j0 k a0 (!t337))) else (none)))
theorem rhizomeref02_Word.calls (k : Nat) (a0 : ByteArray) (a1 : Int) (r : Bool) (w : World) (h : rhizomeref02_Word.f k a0 a1 = some r) :
  Calls Tryd.prog 19 #[.string a0, .int .i64 a1] w fun e w' => e = .returned (.bool r) ∧ Drawn0 w w' := by
 have H := h
 clear h
 unfold rhizomeref02_Word.f at H
 have HC3 := Aside0.mk H
 clear H
 go_enter Tryd.func19, Tryd.ntmps19
 go_upto_region 1 with (fail)
 go_cut [20] (fun v20 wc => ∃ (kq : Nat) (x20_2 : Bool), v20 = .bool x20_2 ∧ Aside0 (rhizomeref02_Word.j0 kq a0 x20_2 = some r) ∧ Aside0 (kq ≤ k) ∧ Drawn0 w wc)
 case first =>
  have H := HC3.out
  clear HC3
  by_cases c4 : (a0.size : Int) < 1
  ·rw [if_pos c4] at H
   have c4b0 := decide_eq_true c4
   have c4b1 : decide (a0.size < 1) = true := decide_eq_true (by omega)
   clear c4
   (first | rw [c4b0] | (simp only [i64_w, i32_w]; rw [c4b0]) | skip)
   have H' := Aside0.mk H
   clear H
   go_wp2
   go_meet
   case rel => exact ⟨_, (true), e1_, H', ⟨z12_⟩, z4_⟩
  rw [if_neg c4] at H
  have c4b0 := decide_eq_false c4
  have c4b1 : decide (a0.size < 1) = false := decide_eq_false (by omega)
  clear c4
  (first | rw [c4b0] | (simp only [i64_w, i32_w]; rw [c4b0]) | skip)
  by_cases c5 : (a0.size : Int) > a1
  ·rw [if_pos c5] at H
   have c5b0 : decide (a1 < (a0.size : Int)) = true := decide_eq_true c5
   clear c5
   have H' := Aside0.mk H
   clear H
   go_wp2
   go_meet
   case rel => exact ⟨_, (true), e1_, H', ⟨z12_⟩, z4_⟩
  rw [if_neg c5] at H
  have c5b0 : decide (a1 < (a0.size : Int)) = false := decide_eq_false c5
  clear c5
  by_cases c6 : 0 < (a0.size : Int)
  ·rw [if_pos c6] at H
   have c6b0 := decide_eq_true c6
   have c6b1 : decide (0 < a0.size) = true := decide_eq_true (by omega)
   clear c6
   obtain ⟨t337, A8, H⟩ := bi_ H
   have H' := Aside0.mk H
   clear H
   have p7 : 0 ≤ (0 : Int) := (by omega)
   have q7 : 0 < a0.size := (by have : (0 : Int) < (a0.size : Int) := of_decide_eq_true a1_; omega)
   have hx7 : ∀ h : 0 < a0.size, ((a0[0]'h).toNat : Int) = bt a0 0 := bt_at a0 0
   clear p7
   have qi7 : (0 < (a0.size : Int)) = True := eq_true (of_decide_eq_true a1_)
   replace q7 := eq_true q7
   go_wp2_with (first | (go_at_call 31; (with_reducible refine (rhizomeref02_Letter.calls (bt a0 0) t337 _ A8.out).mono ?_); rintro e w' ⟨rfl, ⟨nd, rfl⟩⟩))
   go_meet
   case rel => exact ⟨_, (!t337), e1_, H', ⟨z12_⟩, z4_⟩
  rw [if_neg c6] at H
  exact absurd H (by simp)
 case rest =>
  clear HC3
  obtain ⟨kq, x20_2, rfl, HA, HJ2, ⟨mc2, rfl⟩⟩ := hcut
  cases kq with
  | zero => exact absurd HA.out (by simp [rhizomeref02_Word.j0])
  | succ kj2 =>
   have H := HA.out
   clear HA
   simp only [rhizomeref02_Word.j0] at H
   by_cases c9 : x20_2 = true
   ·subst c9
    rw [if_pos rfl] at H
    obtain rfl := Option.some.inj H
    go_wp2
    go_ret
    exact ⟨e1_, z4_⟩
   replace c9 := Bool.eq_false_iff.mpr c9
   subst c9
   rw [if_neg (show ¬ (false = true) by decide)] at H
   have H' := Aside0.mk H
   clear H
   go_wp2
   go_loopg [5] kj2 (fun kq v5 w' => ∃ (x5_2 : Int), v5 = .int .i64 x5_2 ∧ Aside0 (rhizomeref02_Word.l0 kq a0 x5_2 = some r) ∧ Aside0 (kq ≤ kj2) ∧ Drawn0 w w')
   case atStart => exact ⟨(0), e1_, H', ⟨Nat.le_refl _⟩, z4_⟩
   case round =>
    clear H'
    obtain ⟨x5_2, rfl, HA, HK2, ⟨m2, rfl⟩⟩ := hrel
    cases gk with
    | zero => exact absurd HA.out (by simp [rhizomeref02_Word.l0])
    | succ k2 =>
     have H := HA.out
     clear HA
     simp only [rhizomeref02_Word.l0] at H
     by_cases c10 : x5_2 < (a0.size : Int)
     ·rw [if_pos c10] at H
      have c10b0 := decide_eq_true c10
      clear c10
      by_cases c11 : 0 ≤ x5_2
      ·rw [if_pos c11] at H
       have c11b0 := decide_eq_true c11
       clear c11
       obtain ⟨t338, A13, H⟩ := bi_ H
       by_cases c14 : t338 = true
       ·subst c14
        rw [if_pos rfl] at H
        have H' := Aside0.mk H
        clear H
        have p12 : 0 ≤ (x5_2 : Int) := of_decide_eq_true a1_
        have q12 : x5_2 < (a0.size : Int) := of_decide_eq_true a1_
        have hx12 := bt_at a0 x5_2
        replace p12 := eq_true p12
        replace q12 := eq_true q12
        go_wp2_with (first | ((with_reducible refine gate_callee (f := 31) rfl ?_); refine goesL_ (some 30) rfl rfl Tryd.func31 k1_ rfl #[.int .u8 (bt a0 x5_2)] rfl g1_ ?_; (with_reducible refine (rhizomeref02_Letter.calls (bt a0 x5_2) true _ A13.out).mono ?_); rintro e w' ⟨rfl, ⟨nd, rfl⟩⟩; refine ⟨_, rfl, ?_⟩))
        go_roundg k2
        case measure => have := HJ2.out; have := HK2.out; omega
        case rel => exact ⟨(wrap64 (x5_2 + 1)), e1_, H', ⟨by have := HJ2.out; have := HK2.out; omega⟩, z4_⟩
       replace c14 := Bool.eq_false_iff.mpr c14
       subst c14
       rw [if_neg (show ¬ (false = true) by decide)] at H
       obtain ⟨t339, A16, H⟩ := bi_ H
       by_cases c17 : t339 = true
       ·subst c17
        rw [if_pos rfl] at H
        have H' := Aside0.mk H
        clear H
        have p12 : 0 ≤ (x5_2 : Int) := of_decide_eq_true a1_
        have q12 : x5_2 < (a0.size : Int) := of_decide_eq_true a1_
        have hx12 := bt_at a0 x5_2
        replace p12 := eq_true p12
        replace q12 := eq_true q12
        go_wp2_with (first | ((with_reducible refine gate_callee (f := 31) rfl ?_); refine goesL_ (some 30) rfl rfl Tryd.func31 k1_ rfl #[.int .u8 (bt a0 x5_2)] rfl g1_ ?_; (with_reducible refine (rhizomeref02_Letter.calls (bt a0 x5_2) false _ A13.out).mono ?_); rintro e w' ⟨rfl, ⟨nd, rfl⟩⟩; refine ⟨_, rfl, ?_⟩; have p15 : 0 ≤ (x5_2 : Int) := of_decide_eq_true a1_; have q15 : x5_2 < (a0.size : Int) := of_decide_eq_true a1_; have hx15 := bt_at a0 x5_2; replace p15 := eq_true p15; replace q15 := eq_true q15) | (go_at_call 32; (with_reducible refine (rhizomeref02_Digit.calls (bt a0 x5_2) true _ A16.out).mono ?_); rintro e w' ⟨rfl, ⟨nd, rfl⟩⟩))
        go_roundg k2
        case measure => have := HJ2.out; have := HK2.out; omega
        case rel => exact ⟨(wrap64 (x5_2 + 1)), e1_, H', ⟨by have := HJ2.out; have := HK2.out; omega⟩, z4_⟩
       replace c17 := Bool.eq_false_iff.mpr c17
       subst c17
       rw [if_neg (show ¬ (false = true) by decide)] at H
       obtain rfl := Option.some.inj H
       have p12 : 0 ≤ (x5_2 : Int) := of_decide_eq_true a1_
       have q12 : x5_2 < (a0.size : Int) := of_decide_eq_true a1_
       have hx12 := bt_at a0 x5_2
       replace p12 := eq_true p12
       replace q12 := eq_true q12
       go_wp2_with (first | ((with_reducible refine gate_callee (f := 31) rfl ?_); refine goesL_ (some 30) rfl rfl Tryd.func31 k1_ rfl #[.int .u8 (bt a0 x5_2)] rfl g1_ ?_; (with_reducible refine (rhizomeref02_Letter.calls (bt a0 x5_2) false _ A13.out).mono ?_); rintro e w' ⟨rfl, ⟨nd, rfl⟩⟩; refine ⟨_, rfl, ?_⟩; have p15 : 0 ≤ (x5_2 : Int) := of_decide_eq_true a1_; have q15 : x5_2 < (a0.size : Int) := of_decide_eq_true a1_; have hx15 := bt_at a0 x5_2; replace p15 := eq_true p15; replace q15 := eq_true q15) | (go_at_call 32; (with_reducible refine (rhizomeref02_Digit.calls (bt a0 x5_2) false _ A16.out).mono ?_); rintro e w' ⟨rfl, ⟨nd, rfl⟩⟩))
       go_ret
       exact ⟨e1_, z4_⟩
      rw [if_neg c11] at H
      exact absurd H (by simp)
     rw [if_neg c10] at H
     have c10b0 := decide_eq_false c10
     clear c10
     obtain rfl := Option.some.inj H
     go_wp2
     go_ret
     exact ⟨e1_, z4_⟩
end Go.Proofs.YtpbphelaeleikaaDoor.PMean

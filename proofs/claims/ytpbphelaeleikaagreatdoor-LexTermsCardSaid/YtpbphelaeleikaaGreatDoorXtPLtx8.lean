import Derived.Test.YtpbphelaeleikaaGreatDoorXtPLtx0
import Derived.Test.YtpbphelaeleikaaGreatDoorXtPLtx7
namespace Go.Proofs.YtpbphelaeleikaaGreatDoor.PLt
open Go.RowKit Go.Proofs.YtpbphelaeleikaaGreatDoorW.PrintWords Go.Proofs.YtpbphelaeleikaaGreatDoorW.PrintLast Go.Proofs.YtpbphelaeleikaaGreatDoorW.PrintMore
attribute [local go_sem] max2_int min2_int max_two min_two max_three min_three max_four min_four
set_option linter.unusedVariables false
set_option linter.unusedSimpArgs false
set_option maxHeartbeats 8000000
set_option maxRecDepth 100000
mutual
def g4_Skip.l0 : Nat → ByteArray → Int → Option (Int)
 | 0, _, _ => none
 | k + 1, x0, x1 => if x1 < (x0.size : Int) then (if 0 ≤ x1 then (if (bt x0 x1) = 35 then (g4_Skip.l1 k x0 x1) else (if (bt x0 x1) = 9 then (g4_Skip.l0 k x0 (wrap64 (x1 + 1))) else (if (bt x0 x1) = 10 then (g4_Skip.l0 k x0 (wrap64 (x1 + 1))) else (if (bt x0 x1) = 13 then (g4_Skip.l0 k x0 (wrap64 (x1 + 1))) else (if (bt x0 x1) = 32 then (g4_Skip.l0 k x0 (wrap64 (x1 + 1))) else (some x1)))))) else (none)) else (some x1)
def g4_Skip.l1 : Nat → ByteArray → Int → Option (Int)
 | 0, _, _ => none
 | k + 1, x0, x1 => if x1 < (x0.size : Int) then (if 0 ≤ x1 then (if (bt x0 x1) = 10 then (g4_Skip.l0 k x0 x1) else (g4_Skip.l1 k x0 (wrap64 (x1 + 1)))) else (none)) else (g4_Skip.l0 k x0 x1)
end
def g4_Skip.f (k : Nat) (a0 : ByteArray) (a1 : Int) : Option (Int) := g4_Skip.l0 k a0 a1
theorem g4_Skip.calls (k : Nat) (a0 : ByteArray) (a1 : Int) (r : Int) (w : World) (h : g4_Skip.f k a0 a1 = some r) :
  Calls Tryz.prog 15 #[.string a0, .int .i64 a1] w fun e w' => e = .returned (.int .i64 r) ∧ Drawn0 w w' := by
 have H := h
 clear h
 unfold g4_Skip.f at H
 have H' := Ad.mk H
 clear H
 go_enter Tryz.func15, Tryz.ntmps15
 go_wp2
 go_loopg [1] k (fun kq v1 w' => ∃ (x1_1 : Int), v1 = .int .i64 x1_1 ∧ Ad (g4_Skip.l0 kq a0 x1_1 = some r) ∧ Ad (kq ≤ k) ∧ Drawn0 w w')
 case atStart => exact ⟨(a1), e1_, H', ⟨Nat.le_refl _⟩, z1_⟩
 case round =>
  clear H'
  try clear c1
  try clear p2
  obtain ⟨x1_1, rfl, HA, HK1, ⟨m1, rfl⟩⟩ := hrel
  cases gk with
  | zero => exact absurd HA.out (by simp [g4_Skip.l0])
  | succ k1 =>
   have H := HA.out
   clear HA
   simp only [g4_Skip.l0] at H
   by_cases c3 : x1_1 < (a0.size : Int)
   ·rw [if_pos c3] at H
    have c3b0 := decide_eq_true c3
    clear c3
    by_cases c4 : 0 ≤ x1_1
    ·rw [if_pos c4] at H
     have c4b0 := decide_eq_true c4
     clear c4
     by_cases c6 : (bt a0 x1_1) = 35
     ·rw [if_pos c6] at H
      have c6b0 := beq_iff_eq.mpr c6
      have c6b1 := bne_eq_false_iff_eq.mpr c6
      clear c6
      have H' := Ad.mk H
      clear H
      have p5 : 0 ≤ (x1_1 : Int) := of_decide_eq_true a1_
      have q5 : x1_1 < (a0.size : Int) := of_decide_eq_true a1_
      have hx5 := bt_at a0 x1_1
      replace p5 := eq_true p5
      replace q5 := eq_true q5
      go_wp2
      go_loopg [1] k1 (fun kq v1 w' => ∃ (x1_2 : Int), v1 = .int .i64 x1_2 ∧ Ad (g4_Skip.l1 kq a0 x1_2 = some r) ∧ Ad (kq ≤ k1) ∧ Drawn0 w w')
      case atStart => exact ⟨(x1_1), e1_, H', ⟨Nat.le_refl _⟩, z1_⟩
      case round =>
       clear H'
       try clear c1
       try clear p2
       try clear c3
       try clear c3b0
       try clear c4
       try clear c4b0
       try clear p5
       try clear q5
       try clear hx5
       try clear c6
       try clear c6b0
       try clear c6b1
       try clear p2
       try clear p5
       try clear q5
       obtain ⟨x1_2, rfl, HA, HK2, ⟨m2, rfl⟩⟩ := hrel
       cases gk with
       | zero => exact absurd HA.out (by simp [g4_Skip.l1])
       | succ k2 =>
        have H := HA.out
        clear HA
        simp only [g4_Skip.l1] at H
        by_cases c7 : x1_2 < (a0.size : Int)
        ·rw [if_pos c7] at H
         have c7b0 := decide_eq_true c7
         clear c7
         by_cases c8 : 0 ≤ x1_2
         ·rw [if_pos c8] at H
          have c8b0 := decide_eq_true c8
          clear c8
          by_cases c10 : (bt a0 x1_2) = 10
          ·rw [if_pos c10] at H
           have c10b0 := beq_iff_eq.mpr c10
           have c10b1 := bne_eq_false_iff_eq.mpr c10
           clear c10
           have H' := Ad.mk H
           clear H
           have p9 : 0 ≤ (x1_2 : Int) := of_decide_eq_true a1_
           have q9 : x1_2 < (a0.size : Int) := of_decide_eq_true a1_
           have hx9 := bt_at a0 x1_2
           replace p9 := eq_true p9
           replace q9 := eq_true q9
           go_wp2
           go_roundg k2
           case measure => have := HK1.out; have := HK2.out; omega
           case rel => exact ⟨(x1_2), e1_, H', ⟨z27_⟩, z1_⟩
          rw [if_neg c10] at H
          have c10b0 := beq_eq_false_iff_ne.mpr c10
          have c10b1 := bne_iff_ne.mpr c10
          have H' := Ad.mk H
          clear H
          have p9 : 0 ≤ (x1_2 : Int) := of_decide_eq_true a1_
          have q9 : x1_2 < (a0.size : Int) := of_decide_eq_true a1_
          have hx9 := bt_at a0 x1_2
          replace p9 := eq_true p9
          replace q9 := eq_true q9
          go_wp2
          go_roundg k2
          case measure => have := HK1.out; have := HK2.out; omega
          case rel => exact ⟨(wrap64 (x1_2 + 1)), e1_, H', ⟨z27_⟩, z1_⟩
         rw [if_neg c8] at H
         exact absurd H (by simp)
        rw [if_neg c7] at H
        have c7b0 := decide_eq_false c7
        clear c7
        have H' := Ad.mk H
        clear H
        go_wp2
        go_roundg k2
        case measure => have := HK1.out; have := HK2.out; omega
        case rel => exact ⟨(x1_2), e1_, H', ⟨z27_⟩, z1_⟩
     rw [if_neg c6] at H
     have c6b0 := beq_eq_false_iff_ne.mpr c6
     have c6b1 := bne_iff_ne.mpr c6
     by_cases c12 : (bt a0 x1_1) = 9
     ·rw [if_pos c12] at H
      have c12b0 := beq_iff_eq.mpr c12
      have c12b1 := bne_eq_false_iff_eq.mpr c12
      clear c12
      have H' := Ad.mk H
      clear H
      have p5 : 0 ≤ (x1_1 : Int) := of_decide_eq_true a1_
      have q5 : x1_1 < (a0.size : Int) := of_decide_eq_true a1_
      have hx5 := bt_at a0 x1_1
      replace p5 := eq_true p5
      replace q5 := eq_true q5
      have p11 : 0 ≤ (x1_1 : Int) := of_decide_eq_true a1_
      have q11 : x1_1 < (a0.size : Int) := of_decide_eq_true a1_
      have hx11 := bt_at a0 x1_1
      replace p11 := eq_true p11
      replace q11 := eq_true q11
      go_wp2
      go_roundg k1
      case measure => have := HK1.out; omega
      case rel => exact ⟨(wrap64 (x1_1 + 1)), e1_, H', ⟨by have := HK1.out; omega⟩, z1_⟩
     rw [if_neg c12] at H
     have c12b0 := beq_eq_false_iff_ne.mpr c12
     have c12b1 := bne_iff_ne.mpr c12
     by_cases c14 : (bt a0 x1_1) = 10
     ·rw [if_pos c14] at H
      have c14b0 := beq_iff_eq.mpr c14
      have c14b1 := bne_eq_false_iff_eq.mpr c14
      clear c14
      have H' := Ad.mk H
      clear H
      have p5 : 0 ≤ (x1_1 : Int) := of_decide_eq_true a1_
      have q5 : x1_1 < (a0.size : Int) := of_decide_eq_true a1_
      have hx5 := bt_at a0 x1_1
      replace p5 := eq_true p5
      replace q5 := eq_true q5
      have p11 : 0 ≤ (x1_1 : Int) := of_decide_eq_true a1_
      have q11 : x1_1 < (a0.size : Int) := of_decide_eq_true a1_
      have hx11 := bt_at a0 x1_1
      replace p11 := eq_true p11
      replace q11 := eq_true q11
      have p13 : 0 ≤ (x1_1 : Int) := of_decide_eq_true a1_
      have q13 : x1_1 < (a0.size : Int) := of_decide_eq_true a1_
      have hx13 := bt_at a0 x1_1
      replace p13 := eq_true p13
      replace q13 := eq_true q13
      go_wp2
      go_roundg k1
      case measure => have := HK1.out; omega
      case rel => exact ⟨(wrap64 (x1_1 + 1)), e1_, H', ⟨by have := HK1.out; omega⟩, z1_⟩
     rw [if_neg c14] at H
     have c14b0 := beq_eq_false_iff_ne.mpr c14
     have c14b1 := bne_iff_ne.mpr c14
     by_cases c16 : (bt a0 x1_1) = 13
     ·rw [if_pos c16] at H
      have c16b0 := beq_iff_eq.mpr c16
      have c16b1 := bne_eq_false_iff_eq.mpr c16
      clear c16
      have H' := Ad.mk H
      clear H
      have p5 : 0 ≤ (x1_1 : Int) := of_decide_eq_true a1_
      have q5 : x1_1 < (a0.size : Int) := of_decide_eq_true a1_
      have hx5 := bt_at a0 x1_1
      replace p5 := eq_true p5
      replace q5 := eq_true q5
      have p11 : 0 ≤ (x1_1 : Int) := of_decide_eq_true a1_
      have q11 : x1_1 < (a0.size : Int) := of_decide_eq_true a1_
      have hx11 := bt_at a0 x1_1
      replace p11 := eq_true p11
      replace q11 := eq_true q11
      have p13 : 0 ≤ (x1_1 : Int) := of_decide_eq_true a1_
      have q13 : x1_1 < (a0.size : Int) := of_decide_eq_true a1_
      have hx13 := bt_at a0 x1_1
      replace p13 := eq_true p13
      replace q13 := eq_true q13
      have p15 : 0 ≤ (x1_1 : Int) := of_decide_eq_true a1_
      have q15 : x1_1 < (a0.size : Int) := of_decide_eq_true a1_
      have hx15 := bt_at a0 x1_1
      replace p15 := eq_true p15
      replace q15 := eq_true q15
      go_wp2
      go_roundg k1
      case measure => have := HK1.out; omega
      case rel => exact ⟨(wrap64 (x1_1 + 1)), e1_, H', ⟨by have := HK1.out; omega⟩, z1_⟩
     rw [if_neg c16] at H
     have c16b0 := beq_eq_false_iff_ne.mpr c16
     have c16b1 := bne_iff_ne.mpr c16
     by_cases c18 : (bt a0 x1_1) = 32
     ·rw [if_pos c18] at H
      have c18b0 := beq_iff_eq.mpr c18
      have c18b1 := bne_eq_false_iff_eq.mpr c18
      clear c18
      have H' := Ad.mk H
      clear H
      have p5 : 0 ≤ (x1_1 : Int) := of_decide_eq_true a1_
      have q5 : x1_1 < (a0.size : Int) := of_decide_eq_true a1_
      have hx5 := bt_at a0 x1_1
      replace p5 := eq_true p5
      replace q5 := eq_true q5
      have p11 : 0 ≤ (x1_1 : Int) := of_decide_eq_true a1_
      have q11 : x1_1 < (a0.size : Int) := of_decide_eq_true a1_
      have hx11 := bt_at a0 x1_1
      replace p11 := eq_true p11
      replace q11 := eq_true q11
      have p13 : 0 ≤ (x1_1 : Int) := of_decide_eq_true a1_
      have q13 : x1_1 < (a0.size : Int) := of_decide_eq_true a1_
      have hx13 := bt_at a0 x1_1
      replace p13 := eq_true p13
      replace q13 := eq_true q13
      have p15 : 0 ≤ (x1_1 : Int) := of_decide_eq_true a1_
      have q15 : x1_1 < (a0.size : Int) := of_decide_eq_true a1_
      have hx15 := bt_at a0 x1_1
      replace p15 := eq_true p15
      replace q15 := eq_true q15
      have p17 : 0 ≤ (x1_1 : Int) := of_decide_eq_true a1_
      have q17 : x1_1 < (a0.size : Int) := of_decide_eq_true a1_
      have hx17 := bt_at a0 x1_1
      replace p17 := eq_true p17
      replace q17 := eq_true q17
      go_wp2
      go_roundg k1
      case measure => have := HK1.out; omega
      case rel => exact ⟨(wrap64 (x1_1 + 1)), e1_, H', ⟨by have := HK1.out; omega⟩, z1_⟩
     rw [if_neg c18] at H
     have c18b0 := beq_eq_false_iff_ne.mpr c18
     have c18b1 := bne_iff_ne.mpr c18
     obtain rfl := Option.some.inj H
     have p5 : 0 ≤ (x1_1 : Int) := of_decide_eq_true a1_
     have q5 : x1_1 < (a0.size : Int) := of_decide_eq_true a1_
     have hx5 := bt_at a0 x1_1
     replace p5 := eq_true p5
     replace q5 := eq_true q5
     have p11 : 0 ≤ (x1_1 : Int) := of_decide_eq_true a1_
     have q11 : x1_1 < (a0.size : Int) := of_decide_eq_true a1_
     have hx11 := bt_at a0 x1_1
     replace p11 := eq_true p11
     replace q11 := eq_true q11
     have p13 : 0 ≤ (x1_1 : Int) := of_decide_eq_true a1_
     have q13 : x1_1 < (a0.size : Int) := of_decide_eq_true a1_
     have hx13 := bt_at a0 x1_1
     replace p13 := eq_true p13
     replace q13 := eq_true q13
     have p15 : 0 ≤ (x1_1 : Int) := of_decide_eq_true a1_
     have q15 : x1_1 < (a0.size : Int) := of_decide_eq_true a1_
     have hx15 := bt_at a0 x1_1
     replace p15 := eq_true p15
     replace q15 := eq_true q15
     have p17 : 0 ≤ (x1_1 : Int) := of_decide_eq_true a1_
     have q17 : x1_1 < (a0.size : Int) := of_decide_eq_true a1_
     have hx17 := bt_at a0 x1_1
     replace p17 := eq_true p17
     replace q17 := eq_true q17
     go_wp2
     go_ret
     exact ⟨e1_, z1_⟩
    rw [if_neg c4] at H
    exact absurd H (by simp)
   rw [if_neg c3] at H
   have c3b0 := decide_eq_false c3
   clear c3
   obtain rfl := Option.some.inj H
   go_wp2
   go_ret
   exact ⟨e1_, z1_⟩
def g1r_Valid.f (k : Nat) (a0 : ByteArray) : Option (Bool) := (g1r_Runes.f k a0).bind fun bt233 => (some (bt233.2 == (a0.size : Int)))
theorem g1r_Valid.calls (k : Nat) (a0 : ByteArray) (r : Bool) (w : World) (h : g1r_Valid.f k a0 = some r) :
  Calls Tryz.prog 35 #[.string a0] w fun e w' => e = .returned (.bool r) ∧ Below w.heap.size w w' := by
 have HB := Ad.mk (Below.refl w.heap.size w)
 have H := h
 clear h
 unfold g1r_Valid.f at H
 obtain ⟨⟨t233, t234⟩, A2, H⟩ := bi_ H
 try dsimp only at H
 obtain rfl := Option.some.inj H
 go_enter Tryz.func35, Tryz.ntmps35
 go_wp2_with (first | ((with_reducible refine gate_callee (f := 14) rfl ?_); refine goesL_ (some 7) rfl rfl Tryz.func14 k1_ rfl #[.string a0] rfl g1_ ?_; (with_reducible refine (g1r_Runes.calls k a0 t233 t234 _ A2.out).mono ?_); rintro e w3 ⟨v235, rfl, ho0, hb⟩; refine ⟨_, rfl, ?_⟩; have HO236 := Ad.mk (Kd.R_lower ho0 (below_size b1_)); replace HB := Ad.mk (below_step b1_ hb); (try clear hb); (try clear hb2); (try clear hk); (try clear hi); (try clear ho0)))
 go_ret
 exact ⟨e2_, b1_⟩
def g2_in.l0 : Nat → Int → ByteArray → Int → Option (Bool)
 | 0, _, _, _ => none
 | k + 1, x0, x1, x5 => if x5 < (x1.size : Int) then (if 0 ≤ x5 then (if (bt x1 x5) = x0 then (some true) else (g2_in.l0 k x0 x1 (wrap64 (x5 + 1)))) else (none)) else (some false)
def g2_in.f (k : Nat) (a0 : Int) (a1 : ByteArray) : Option (Bool) := g2_in.l0 k a0 a1 0
theorem g2_in.calls (k : Nat) (a0 : Int) (a1 : ByteArray) (r : Bool) (w : World) (h : g2_in.f k a0 a1 = some r) :
  Calls Tryz.prog 59 #[.int .u8 a0, .string a1] w fun e w' => e = .returned (.bool r) ∧ Drawn0 w w' := by
 have H := h
 clear h
 unfold g2_in.f at H
 have H' := Ad.mk H
 clear H
 go_enter Tryz.func59, Tryz.ntmps59
 go_wp2
 go_loopg [5] k (fun kq v5 w' => ∃ (x5_1 : Int), v5 = .int .i64 x5_1 ∧ Ad (g2_in.l0 kq a0 a1 x5_1 = some r) ∧ Ad (kq ≤ k) ∧ Drawn0 w w')
 case atStart => exact ⟨(0), e1_, H', ⟨Nat.le_refl _⟩, z1_⟩
 case round =>
  clear H'
  try clear p2
  obtain ⟨x5_1, rfl, HA, HK1, ⟨m1, rfl⟩⟩ := hrel
  cases gk with
  | zero => exact absurd HA.out (by simp [g2_in.l0])
  | succ k1 =>
   have H := HA.out
   clear HA
   simp only [g2_in.l0] at H
   by_cases c3 : x5_1 < (a1.size : Int)
   ·rw [if_pos c3] at H
    have c3b0 := decide_eq_true c3
    clear c3
    by_cases c4 : 0 ≤ x5_1
    ·rw [if_pos c4] at H
     have c4b0 := decide_eq_true c4
     clear c4
     by_cases c6 : (bt a1 x5_1) = a0
     ·rw [if_pos c6] at H
      have c6b0 := beq_iff_eq.mpr c6
      have c6b1 := bne_eq_false_iff_eq.mpr c6
      clear c6
      obtain rfl := Option.some.inj H
      have p5 : 0 ≤ (x5_1 : Int) := of_decide_eq_true a1_
      have q5 : x5_1 < (a1.size : Int) := of_decide_eq_true a1_
      have hx5 := bt_at a1 x5_1
      replace p5 := eq_true p5
      replace q5 := eq_true q5
      go_wp2
      go_ret
      exact ⟨e1_, z1_⟩
     rw [if_neg c6] at H
     have c6b0 := beq_eq_false_iff_ne.mpr c6
     have c6b1 := bne_iff_ne.mpr c6
     have H' := Ad.mk H
     clear H
     have p5 : 0 ≤ (x5_1 : Int) := of_decide_eq_true a1_
     have q5 : x5_1 < (a1.size : Int) := of_decide_eq_true a1_
     have hx5 := bt_at a1 x5_1
     replace p5 := eq_true p5
     replace q5 := eq_true q5
     go_wp2
     go_roundg k1
     case measure => have := HK1.out; omega
     case rel => exact ⟨(wrap64 (x5_1 + 1)), e1_, H', ⟨by have := HK1.out; omega⟩, z1_⟩
    rw [if_neg c4] at H
    exact absurd H (by simp)
   rw [if_neg c3] at H
   have c3b0 := decide_eq_false c3
   clear c3
   obtain rfl := Option.some.inj H
   go_wp2
   go_ret
   exact ⟨e1_, z1_⟩
mutual
def g2_IRI.j0 : Nat → ByteArray → Bool → Option (Bool)
 | 0, _, _ => none
 | k + 1, x0, x16 => if x16 = true then (some false) else (g2_IRI.l0 k x0 0)
def g2_IRI.l0 : Nat → ByteArray → Int → Option (Bool)
 | 0, _, _ => none
 | k + 1, x0, x3 => if x3 < (x0.size : Int) then (if 0 ≤ x3 then (if (bt x0 x3) ≤ 32 then (some false) else ((g2_in.f k (bt x0 x3) (⟨#[60, 62, 123, 125, 124, 94]⟩ : ByteArray)).bind fun t238 => (if t238 = true then (some false) else (if (bt x0 x3) = 34 then (some false) else (if (bt x0 x3) = 92 then (some false) else (if (bt x0 x3) = 96 then (some false) else (g2_IRI.l0 k x0 (wrap64 (x3 + 1))))))))) else (none)) else (some true)
end
def g2_IRI.f (k : Nat) (a0 : ByteArray) : Option (Bool) := if (a0.size : Int) < 1 then (g2_IRI.j0 k a0 true) else (if (a0.size : Int) > 1000 then (g2_IRI.j0 k a0 true) else ((g1r_Valid.f k a0).bind fun t237 => (g2_IRI.j0 k a0 (!t237))))
theorem g2_IRI.calls (k : Nat) (a0 : ByteArray) (r : Bool) (w : World) (h : g2_IRI.f k a0 = some r) :
  Calls Tryz.prog 36 #[.string a0] w fun e w' => e = .returned (.bool r) ∧ Below w.heap.size w w' := by
 have HB := Ad.mk (Below.refl w.heap.size w)
 have H := h
 clear h
 unfold g2_IRI.f at H
 have HC2 := Ad.mk H
 clear H
 go_enter Tryz.func36, Tryz.ntmps36
 go_upto_region 1 with (fail)
 go_cut [16] (fun v16 wc => ∃ (kq : Nat) (x16_1 : Bool), v16 = .bool x16_1 ∧ Ad (g2_IRI.j0 kq a0 x16_1 = some r) ∧ Ad (kq ≤ k) ∧ Ad (Below w.heap.size w wc))
 case first =>
  have H := HC2.out
  clear HC2
  by_cases c3 : (a0.size : Int) < 1
  ·rw [if_pos c3] at H
   have c3b0 := decide_eq_true c3
   have c3b1 : decide (a0.size < 1) = true := decide_eq_true (by omega)
   clear c3
   (first | rw [c3b0] | (simp only [i64_w, i32_w]; rw [c3b0]) | skip)
   have H' := Ad.mk H
   clear H
   go_wp2
   go_meet
   case rel => exact ⟨_, (true), e1_, H', ⟨z12_⟩, ⟨b1_⟩⟩
  rw [if_neg c3] at H
  have c3b0 := decide_eq_false c3
  have c3b1 : decide (a0.size < 1) = false := decide_eq_false (by omega)
  clear c3
  (first | rw [c3b0] | (simp only [i64_w, i32_w]; rw [c3b0]) | skip)
  by_cases c4 : (a0.size : Int) > 1000
  ·rw [if_pos c4] at H
   have c4b0 : decide (1000 < (a0.size : Int)) = true := decide_eq_true c4
   have c4b1 : decide (1000 < a0.size) = true := decide_eq_true (by omega)
   clear c4
   have H' := Ad.mk H
   clear H
   go_wp2
   go_meet
   case rel => exact ⟨_, (true), e1_, H', ⟨z12_⟩, ⟨b1_⟩⟩
  rw [if_neg c4] at H
  have c4b0 : decide (1000 < (a0.size : Int)) = false := decide_eq_false c4
  have c4b1 : decide (1000 < a0.size) = false := decide_eq_false (by omega)
  clear c4
  obtain ⟨t237, A5, H⟩ := bi_ H
  have H' := Ad.mk H
  clear H
  go_wp2_with (first | (go_at_call 35; (with_reducible refine (g1r_Valid.calls k a0 t237 _ A5.out).mono ?_); rintro e w6 ⟨rfl, hb⟩; replace HB := Ad.mk (below_step b1_ hb); clear hb))
  go_meet
  case rel => exact ⟨_, (!t237), e1_, H', ⟨z12_⟩, ⟨b1_⟩⟩
 case rest =>
  clear HC2
  obtain ⟨kq, x16_1, rfl, HA, HJ1, HB⟩ := hcut
  cases kq with
  | zero => exact absurd HA.out (by simp [g2_IRI.j0])
  | succ kj1 =>
   have H := HA.out
   clear HA
   simp only [g2_IRI.j0] at H
   by_cases c7 : x16_1 = true
   ·subst c7
    rw [if_pos rfl] at H
    obtain rfl := Option.some.inj H
    go_wp2
    go_ret
    exact ⟨e2_, b1_⟩
   replace c7 := Bool.eq_false_iff.mpr c7
   subst c7
   rw [if_neg (show ¬ (false = true) by decide)] at H
   have H' := Ad.mk H
   clear H
   go_wp2
   go_loopg [3] kj1 (fun kq v3 w' => ∃ (x3_2 : Int), v3 = .int .i64 x3_2 ∧ Ad (g2_IRI.l0 kq a0 x3_2 = some r) ∧ Ad (kq ≤ kj1) ∧ Ad (Below w.heap.size w w'))
   case atStart => exact ⟨(0), e1_, H', ⟨Nat.le_refl _⟩, ⟨b1_⟩⟩
   case round =>
    clear H'
    obtain ⟨x3_2, rfl, HA, HK2, HB⟩ := hrel
    cases gk with
    | zero => exact absurd HA.out (by simp [g2_IRI.l0])
    | succ k2 =>
     have H := HA.out
     clear HA
     simp only [g2_IRI.l0] at H
     by_cases c8 : x3_2 < (a0.size : Int)
     ·rw [if_pos c8] at H
      have c8b0 := decide_eq_true c8
      clear c8
      by_cases c9 : 0 ≤ x3_2
      ·rw [if_pos c9] at H
       have c9b0 := decide_eq_true c9
       clear c9
       by_cases c11 : (bt a0 x3_2) ≤ 32
       ·rw [if_pos c11] at H
        have c11b0 := decide_eq_true c11
        clear c11
        obtain rfl := Option.some.inj H
        have p10 : 0 ≤ (x3_2 : Int) := of_decide_eq_true a1_
        have q10 : x3_2 < (a0.size : Int) := of_decide_eq_true a1_
        have hx10 := bt_at a0 x3_2
        replace p10 := eq_true p10
        replace q10 := eq_true q10
        go_wp2
        go_ret
        exact ⟨e2_, b1_⟩
       rw [if_neg c11] at H
       have c11b0 := decide_eq_false c11
       clear c11
       obtain ⟨t238, A13, H⟩ := bi_ H
       by_cases c14 : t238 = true
       ·subst c14
        rw [if_pos rfl] at H
        obtain rfl := Option.some.inj H
        have p10 : 0 ≤ (x3_2 : Int) := of_decide_eq_true a1_
        have q10 : x3_2 < (a0.size : Int) := of_decide_eq_true a1_
        have hx10 := bt_at a0 x3_2
        replace p10 := eq_true p10
        replace q10 := eq_true q10
        have p12 : 0 ≤ (x3_2 : Int) := of_decide_eq_true a1_
        have q12 : x3_2 < (a0.size : Int) := of_decide_eq_true a1_
        have hx12 := bt_at a0 x3_2
        replace p12 := eq_true p12
        replace q12 := eq_true q12
        go_wp2_with (first | (go_at_call 59; (with_reducible refine (g2_in.calls k2 (bt a0 x3_2) (⟨#[60, 62, 123, 125, 124, 94]⟩ : ByteArray) true _ A13.out).mono ?_); rintro e w' ⟨rfl, ⟨nd, rfl⟩⟩))
        go_ret
        exact ⟨e2_, b1_⟩
       replace c14 := Bool.eq_false_iff.mpr c14
       subst c14
       rw [if_neg (show ¬ (false = true) by decide)] at H
       by_cases c16 : (bt a0 x3_2) = 34
       ·rw [if_pos c16] at H
        have c16b0 := beq_iff_eq.mpr c16
        have c16b1 := bne_eq_false_iff_eq.mpr c16
        clear c16
        obtain rfl := Option.some.inj H
        have p10 : 0 ≤ (x3_2 : Int) := of_decide_eq_true a1_
        have q10 : x3_2 < (a0.size : Int) := of_decide_eq_true a1_
        have hx10 := bt_at a0 x3_2
        replace p10 := eq_true p10
        replace q10 := eq_true q10
        have p12 : 0 ≤ (x3_2 : Int) := of_decide_eq_true a1_
        have q12 : x3_2 < (a0.size : Int) := of_decide_eq_true a1_
        have hx12 := bt_at a0 x3_2
        replace p12 := eq_true p12
        replace q12 := eq_true q12
        go_wp2_with (first | (go_at_call 59; (with_reducible refine (g2_in.calls k2 (bt a0 x3_2) (⟨#[60, 62, 123, 125, 124, 94]⟩ : ByteArray) false _ A13.out).mono ?_); rintro e w' ⟨rfl, ⟨nd, rfl⟩⟩; have p15 : 0 ≤ (x3_2 : Int) := of_decide_eq_true a1_; have q15 : x3_2 < (a0.size : Int) := of_decide_eq_true a1_; have hx15 := bt_at a0 x3_2; replace p15 := eq_true p15; replace q15 := eq_true q15))
        go_ret
        exact ⟨e2_, b1_⟩
       rw [if_neg c16] at H
       have c16b0 := beq_eq_false_iff_ne.mpr c16
       have c16b1 := bne_iff_ne.mpr c16
       by_cases c18 : (bt a0 x3_2) = 92
       ·rw [if_pos c18] at H
        have c18b0 := beq_iff_eq.mpr c18
        have c18b1 := bne_eq_false_iff_eq.mpr c18
        clear c18
        obtain rfl := Option.some.inj H
        have p10 : 0 ≤ (x3_2 : Int) := of_decide_eq_true a1_
        have q10 : x3_2 < (a0.size : Int) := of_decide_eq_true a1_
        have hx10 := bt_at a0 x3_2
        replace p10 := eq_true p10
        replace q10 := eq_true q10
        have p12 : 0 ≤ (x3_2 : Int) := of_decide_eq_true a1_
        have q12 : x3_2 < (a0.size : Int) := of_decide_eq_true a1_
        have hx12 := bt_at a0 x3_2
        replace p12 := eq_true p12
        replace q12 := eq_true q12
        go_wp2_with (first | (go_at_call 59; (with_reducible refine (g2_in.calls k2 (bt a0 x3_2) (⟨#[60, 62, 123, 125, 124, 94]⟩ : ByteArray) false _ A13.out).mono ?_); rintro e w' ⟨rfl, ⟨nd, rfl⟩⟩; have p15 : 0 ≤ (x3_2 : Int) := of_decide_eq_true a1_; have q15 : x3_2 < (a0.size : Int) := of_decide_eq_true a1_; have hx15 := bt_at a0 x3_2; replace p15 := eq_true p15; replace q15 := eq_true q15; have p17 : 0 ≤ (x3_2 : Int) := of_decide_eq_true a1_; have q17 : x3_2 < (a0.size : Int) := of_decide_eq_true a1_; have hx17 := bt_at a0 x3_2; replace p17 := eq_true p17; replace q17 := eq_true q17))
        go_ret
        exact ⟨e2_, b1_⟩
       rw [if_neg c18] at H
       have c18b0 := beq_eq_false_iff_ne.mpr c18
       have c18b1 := bne_iff_ne.mpr c18
       by_cases c20 : (bt a0 x3_2) = 96
       ·rw [if_pos c20] at H
        have c20b0 := beq_iff_eq.mpr c20
        have c20b1 := bne_eq_false_iff_eq.mpr c20
        clear c20
        obtain rfl := Option.some.inj H
        have p10 : 0 ≤ (x3_2 : Int) := of_decide_eq_true a1_
        have q10 : x3_2 < (a0.size : Int) := of_decide_eq_true a1_
        have hx10 := bt_at a0 x3_2
        replace p10 := eq_true p10
        replace q10 := eq_true q10
        have p12 : 0 ≤ (x3_2 : Int) := of_decide_eq_true a1_
        have q12 : x3_2 < (a0.size : Int) := of_decide_eq_true a1_
        have hx12 := bt_at a0 x3_2
        replace p12 := eq_true p12
        replace q12 := eq_true q12
        go_wp2_with (first | (go_at_call 59; (with_reducible refine (g2_in.calls k2 (bt a0 x3_2) (⟨#[60, 62, 123, 125, 124, 94]⟩ : ByteArray) false _ A13.out).mono ?_); rintro e w' ⟨rfl, ⟨nd, rfl⟩⟩; have p15 : 0 ≤ (x3_2 : Int) := of_decide_eq_true a1_; have q15 : x3_2 < (a0.size : Int) := of_decide_eq_true a1_; have hx15 := bt_at a0 x3_2; replace p15 := eq_true p15; replace q15 := eq_true q15; have p17 : 0 ≤ (x3_2 : Int) := of_decide_eq_true a1_; have q17 : x3_2 < (a0.size : Int) := of_decide_eq_true a1_; have hx17 := bt_at a0 x3_2; replace p17 := eq_true p17; replace q17 := eq_true q17; have p19 : 0 ≤ (x3_2 : Int) := of_decide_eq_true a1_; have q19 : x3_2 < (a0.size : Int) := of_decide_eq_true a1_; have hx19 := bt_at a0 x3_2; replace p19 := eq_true p19; replace q19 := eq_true q19))
        go_ret
        exact ⟨e2_, b1_⟩
       rw [if_neg c20] at H
       have c20b0 := beq_eq_false_iff_ne.mpr c20
       have c20b1 := bne_iff_ne.mpr c20
       have H' := Ad.mk H
       clear H
       have p10 : 0 ≤ (x3_2 : Int) := of_decide_eq_true a1_
       have q10 : x3_2 < (a0.size : Int) := of_decide_eq_true a1_
       have hx10 := bt_at a0 x3_2
       replace p10 := eq_true p10
       replace q10 := eq_true q10
       have p12 : 0 ≤ (x3_2 : Int) := of_decide_eq_true a1_
       have q12 : x3_2 < (a0.size : Int) := of_decide_eq_true a1_
       have hx12 := bt_at a0 x3_2
       replace p12 := eq_true p12
       replace q12 := eq_true q12
       go_wp2_with (first | (go_at_call 59; (with_reducible refine (g2_in.calls k2 (bt a0 x3_2) (⟨#[60, 62, 123, 125, 124, 94]⟩ : ByteArray) false _ A13.out).mono ?_); rintro e w' ⟨rfl, ⟨nd, rfl⟩⟩; have p15 : 0 ≤ (x3_2 : Int) := of_decide_eq_true a1_; have q15 : x3_2 < (a0.size : Int) := of_decide_eq_true a1_; have hx15 := bt_at a0 x3_2; replace p15 := eq_true p15; replace q15 := eq_true q15; have p17 : 0 ≤ (x3_2 : Int) := of_decide_eq_true a1_; have q17 : x3_2 < (a0.size : Int) := of_decide_eq_true a1_; have hx17 := bt_at a0 x3_2; replace p17 := eq_true p17; replace q17 := eq_true q17; have p19 : 0 ≤ (x3_2 : Int) := of_decide_eq_true a1_; have q19 : x3_2 < (a0.size : Int) := of_decide_eq_true a1_; have hx19 := bt_at a0 x3_2; replace p19 := eq_true p19; replace q19 := eq_true q19))
       go_roundg k2
       case measure => have := HJ1.out; have := HK2.out; omega
       case rel => exact ⟨(wrap64 (x3_2 + 1)), e1_, H', ⟨by have := HJ1.out; have := HK2.out; omega⟩, ⟨b1_⟩⟩
      rw [if_neg c9] at H
      exact absurd H (by simp)
     rw [if_neg c8] at H
     have c8b0 := decide_eq_false c8
     clear c8
     obtain rfl := Option.some.inj H
     go_wp2
     go_ret
     exact ⟨e2_, b1_⟩
def g2_Digit.f (a0 : Int) : Option (Bool) := if a0 ≥ 48 then (some (decide (a0 ≤ 57))) else (some false)
theorem g2_Digit.calls (a0 : Int) (r : Bool) (w : World) (h : g2_Digit.f a0 = some r) :
  Calls Tryz.prog 29 #[.int .u8 a0] w fun e w' => e = .returned (.bool r) ∧ Drawn0 w w' := by
 have H := h
 clear h
 unfold g2_Digit.f at H
 by_cases c2 : a0 ≥ 48
 ·rw [if_pos c2] at H
  have c2b0 : decide (48 ≤ a0) = true := decide_eq_true c2
  clear c2
  obtain rfl := Option.some.inj H
  go_enter Tryz.func29, Tryz.ntmps29
  go_wp2
  go_ret
  exact ⟨e1_, z1_⟩
 rw [if_neg c2] at H
 have c2b0 : decide (48 ≤ a0) = false := decide_eq_false c2
 clear c2
 obtain rfl := Option.some.inj H
 go_enter Tryz.func29, Tryz.ntmps29
 go_wp2
 go_ret
 exact ⟨e1_, z1_⟩
def g2_Letter.f (a0 : Int) : Option (Bool) := if a0 ≥ 65 then (if a0 ≤ 90 then (some true) else (if a0 ≥ 97 then (some (decide (a0 ≤ 122))) else (some false))) else (if a0 ≥ 97 then (some (decide (a0 ≤ 122))) else (some false))
theorem g2_Letter.calls (a0 : Int) (r : Bool) (w : World) (h : g2_Letter.f a0 = some r) :
  Calls Tryz.prog 44 #[.int .u8 a0] w fun e w' => e = .returned (.bool r) ∧ Drawn0 w w' := by
 have H := h
 clear h
 unfold g2_Letter.f at H
 by_cases c2 : a0 ≥ 65
 ·rw [if_pos c2] at H
  have c2b0 : decide (65 ≤ a0) = true := decide_eq_true c2
  clear c2
  by_cases c3 : a0 ≤ 90
  ·rw [if_pos c3] at H
   have c3b0 := decide_eq_true c3
   clear c3
   obtain rfl := Option.some.inj H
   go_enter Tryz.func44, Tryz.ntmps44
   go_wp2
   go_ret
   exact ⟨e1_, z1_⟩
  rw [if_neg c3] at H
  have c3b0 := decide_eq_false c3
  clear c3
  by_cases c4 : a0 ≥ 97
  ·rw [if_pos c4] at H
   have c4b0 : decide (97 ≤ a0) = true := decide_eq_true c4
   clear c4
   obtain rfl := Option.some.inj H
   go_enter Tryz.func44, Tryz.ntmps44
   go_wp2
   go_ret
   exact ⟨e1_, z1_⟩
  rw [if_neg c4] at H
  have c4b0 : decide (97 ≤ a0) = false := decide_eq_false c4
  clear c4
  obtain rfl := Option.some.inj H
  go_enter Tryz.func44, Tryz.ntmps44
  go_wp2
  go_ret
  exact ⟨e1_, z1_⟩
 rw [if_neg c2] at H
 have c2b0 : decide (65 ≤ a0) = false := decide_eq_false c2
 clear c2
 by_cases c5 : a0 ≥ 97
 ·rw [if_pos c5] at H
  have c5b0 : decide (97 ≤ a0) = true := decide_eq_true c5
  clear c5
  obtain rfl := Option.some.inj H
  go_enter Tryz.func44, Tryz.ntmps44
  go_wp2
  go_ret
  exact ⟨e1_, z1_⟩
 rw [if_neg c5] at H
 have c5b0 : decide (97 ≤ a0) = false := decide_eq_false c5
 clear c5
 obtain rfl := Option.some.inj H
 go_enter Tryz.func44, Tryz.ntmps44
 go_wp2
 go_ret
 exact ⟨e1_, z1_⟩
end Go.Proofs.YtpbphelaeleikaaGreatDoor.PLt

import Derived.Test.YtpbphelaeleikaaGreatDoorXtPLtx0
import Derived.Test.YtpbphelaeleikaaGreatDoorXtPLtx8
import Derived.Test.YtpbphelaeleikaaGreatDoorXtPLtx10
namespace Go.Proofs.YtpbphelaeleikaaGreatDoor.PLt
open Go.RowKit Go.Proofs.YtpbphelaeleikaaGreatDoorW.PrintWords Go.Proofs.YtpbphelaeleikaaGreatDoorW.PrintLast Go.Proofs.YtpbphelaeleikaaGreatDoorW.PrintMore
attribute [local go_sem] max2_int min2_int max_two min_two max_three min_three max_four min_four
set_option linter.unusedVariables false
set_option linter.unusedSimpArgs false
set_option maxHeartbeats 8000000
set_option maxRecDepth 100000
def g4_may.f (k : Nat) (a0_0 : Int) (a0_1 : ByteArray) (a0_2 : Int) (a0_3 : ByteArray) (a0_4 : ByteArray) (a0_5 : Int) (a1 : Int) : Option (Int × ByteArray × Int × ByteArray × ByteArray × Int × Int) := if a1 < 0 then (some (a0_0, a0_1, a0_2, a0_3, a0_4, a0_5, (-1))) else ((g2_May.f k a0_2 a0_3 a0_4).bind fun t274 => (if t274 = true then (some (a0_0, a0_1, a0_2, a0_3, a0_4, a0_5, a1)) else (some (a0_0, a0_1, a0_2, a0_3, a0_4, a0_5, (-1)))))
theorem g4_may.calls (k : Nat) (a0_0 : Int) (a0_1 : ByteArray) (a0_2 : Int) (a0_3 : ByteArray) (a0_4 : ByteArray) (a0_5 : Int) (a1 : Int) (r1 : Int) (r2 : ByteArray) (r3 : Int) (r4 : ByteArray) (r5 : ByteArray) (r6 : Int) (r7 : Int) (w : World) (h : g4_may.f k a0_0 a0_1 a0_2 a0_3 a0_4 a0_5 a1 = some (r1, r2, r3, r4, r5, r6, r7)) :
  Calls Tryz.prog 26 #[.agg #[.int .i64 a0_0, .string a0_1, .int .i64 a0_2, .string a0_3, .string a0_4, .int .i64 a0_5], .int .i64 a1] w fun e w' => e = .returned (.tuple #[.agg #[.int .i64 r1, .string r2, .int .i64 r3, .string r4, .string r5, .int .i64 r6], .int .i64 r7]) ∧ Below w.heap.size w w' := by
 have hu43 := Tryz.underlying43
 have hu31 := Tryz.underlying31
 have HB := Ad.mk (Below.refl w.heap.size w)
 have H := h
 clear h
 unfold g4_may.f at H
 by_cases c3 : a1 < 0
 ·rw [if_pos c3] at H
  have c3b0 := decide_eq_true c3
  clear c3
  simp only [Option.some.injEq, Prod.mk.injEq] at H
  obtain ⟨rfl, rfl, rfl, rfl, rfl, rfl, rfl⟩ := H
  go_enter Tryz.func26, Tryz.ntmps26
  go_wp2_with (first | ((with_reducible refine gate_dst (N := 2) rfl ?_); refine box_event r1_ (N := 2) r1_ (cs := #[.int .i64 a0_0, .string a0_1, .int .i64 a0_2, .string a0_3, .string a0_4, .int .i64 a0_5]) (t := 43) r2_ ?_; intro gb272 hg w4 hbox hb; have BK272 := Ad.mk (hbox); have GW272 := Ad.mk (bs_ : w.heap.size ≤ gb272); have GE272 := Ad.mk (bs_ : w.heap.size ≤ gb272); replace HB := Ad.mk (below_step b1_ hb); clear hb hbox hg) | ((with_reducible refine gate_dst (N := 4) rfl ?_); refine box_event r1_ (N := 4) r1_ (cs := #[.int .i64 0, .string ⟨#[]⟩, .int .i64 0, .string ⟨#[]⟩, .string ⟨#[]⟩, .int .i64 0]) (t := 43) r2_ ?_; intro gb273 hg w5 hbox hb; have BK273 := Ad.mk (hbox); have GW273 := Ad.mk ((z33_ : w.heap.size ≤ gb273)); have GE273 := Ad.mk ((z33_ : w.heap.size ≤ gb273)); have NB272_273 := Ad.mk ((by have G0 := BK272; exact z58_ : gb272 ≠ gb273)); have NB273_272 := Ad.mk ((by have G0 := BK272; exact z59_ : gb273 ≠ gb272)); replace BK272 := Ad.mk (blk_below (g := gb272) (o := .cells #[.int .i64 a0_0, .string a0_1, .int .i64 a0_2, .string a0_3, .string a0_4, .int .i64 a0_5] 43 (0, 0)) (bd_ BK272.out) hb); replace HB := Ad.mk (below_step (by have GE := GE272; exact b2_) hb); clear hb hbox hg; have hnb6 := NB272_273.out; have hnc6 := NB273_272.out; obtain ⟨⟨hcz7_0, hcz7_1, hcz7_2, hcz7_3, hcz7_4, hcz7_5⟩, hfz7_0, hfz7_1, hfz7_2, hfz7_3, hfz7_4, hfz7_5⟩ := c6_ BK272.out; obtain ⟨⟨hcz8_0, hcz8_1, hcz8_2, hcz8_3, hcz8_4, hcz8_5⟩, hfz8_0, hfz8_1, hfz8_2, hfz8_3, hfz8_4, hfz8_5⟩ := c6_ BK273.out))
  refine bodyPost_ret (results_ct rfl _ _ gb273 43 #[.int .i64 a0_0, .string a0_1, .int .i64 a0_2, .string a0_3, .string a0_4, .int .i64 a0_5] (0, 0) _ rfl (by have G0 := BK273; exact z60_) Tryz.underlying43 rfl k1_) rfl ?_
  exact ⟨e2_, by have G0 := GE272; have G1 := GE273; exact z2_⟩
 rw [if_neg c3] at H
 have c3b0 := decide_eq_false c3
 clear c3
 obtain ⟨t274, A9, H⟩ := bi_ H
 by_cases c10 : t274 = true
 ·subst c10
  rw [if_pos rfl] at H
  simp only [Option.some.injEq, Prod.mk.injEq] at H
  obtain ⟨rfl, rfl, rfl, rfl, rfl, rfl, rfl⟩ := H
  go_enter Tryz.func26, Tryz.ntmps26
  go_wp2_with (first | ((with_reducible refine gate_dst (N := 2) rfl ?_); refine box_event r1_ (N := 2) r1_ (cs := #[.int .i64 a0_0, .string a0_1, .int .i64 a0_2, .string a0_3, .string a0_4, .int .i64 a0_5]) (t := 43) r2_ ?_; intro gb272 hg w11 hbox hb; have BK272 := Ad.mk (hbox); have GW272 := Ad.mk (bs_ : w.heap.size ≤ gb272); have GE272 := Ad.mk (bs_ : w.heap.size ≤ gb272); replace HB := Ad.mk (below_step b1_ hb); clear hb hbox hg) | ((with_reducible refine gate_dst (N := 4) rfl ?_); refine box_event r1_ (N := 4) r1_ (cs := #[.int .i64 0, .string ⟨#[]⟩, .int .i64 0, .string ⟨#[]⟩, .string ⟨#[]⟩, .int .i64 0]) (t := 43) r2_ ?_; intro gb273 hg w12 hbox hb; have BK273 := Ad.mk (hbox); have GW273 := Ad.mk ((z33_ : w.heap.size ≤ gb273)); have GE273 := Ad.mk ((z33_ : w.heap.size ≤ gb273)); have NB272_273 := Ad.mk ((by have G0 := BK272; exact z58_ : gb272 ≠ gb273)); have NB273_272 := Ad.mk ((by have G0 := BK272; exact z59_ : gb273 ≠ gb272)); replace BK272 := Ad.mk (blk_below (g := gb272) (o := .cells #[.int .i64 a0_0, .string a0_1, .int .i64 a0_2, .string a0_3, .string a0_4, .int .i64 a0_5] 43 (0, 0)) (bd_ BK272.out) hb); replace HB := Ad.mk (below_step (by have GE := GE272; exact b2_) hb); clear hb hbox hg; have hnb13 := NB272_273.out; have hnc13 := NB273_272.out; obtain ⟨⟨hcz14_0, hcz14_1, hcz14_2, hcz14_3, hcz14_4, hcz14_5⟩, hfz14_0, hfz14_1, hfz14_2, hfz14_3, hfz14_4, hfz14_5⟩ := c6_ BK272.out) | (go_at_call 21; (with_reducible refine (g2_May.calls k a0_2 a0_3 a0_4 true _ A9.out).mono ?_); rintro e w15 ⟨rfl, hb⟩; replace BK272 := Ad.mk (blk_below (g := gb272) (o := .cells #[.int .i64 a0_0, .string a0_1, .int .i64 a0_2, .string a0_3, .string a0_4, .int .i64 a0_5] 43 (0, 0)) (bd_ BK272.out) hb); replace BK273 := Ad.mk (blk_below (g := gb273) (o := .cells #[.int .i64 0, .string ⟨#[]⟩, .int .i64 0, .string ⟨#[]⟩, .string ⟨#[]⟩, .int .i64 0] 43 (0, 0)) (bd_ BK273.out) hb); replace HB := Ad.mk (below_step (by have G0 := GE272; have G1 := GE273; exact z2_) hb); clear hb; obtain ⟨⟨hcz16_0, hcz16_1, hcz16_2, hcz16_3, hcz16_4, hcz16_5⟩, hfz16_0, hfz16_1, hfz16_2, hfz16_3, hfz16_4, hfz16_5⟩ := c6_ BK272.out; obtain ⟨⟨hcz17_0, hcz17_1, hcz17_2, hcz17_3, hcz17_4, hcz17_5⟩, hfz17_0, hfz17_1, hfz17_2, hfz17_3, hfz17_4, hfz17_5⟩ := c6_ BK273.out))
  refine bodyPost_ret (results_ct rfl _ _ gb273 43 #[.int .i64 a0_0, .string a0_1, .int .i64 a0_2, .string a0_3, .string a0_4, .int .i64 a0_5] (0, 0) _ rfl (by have G0 := BK273; exact z60_) Tryz.underlying43 rfl k1_) rfl ?_
  exact ⟨e2_, by have G0 := GE272; have G1 := GE273; exact z2_⟩
 replace c10 := Bool.eq_false_iff.mpr c10
 subst c10
 rw [if_neg (show ¬ (false = true) by decide)] at H
 simp only [Option.some.injEq, Prod.mk.injEq] at H
 obtain ⟨rfl, rfl, rfl, rfl, rfl, rfl, rfl⟩ := H
 go_enter Tryz.func26, Tryz.ntmps26
 go_wp2_with (first | ((with_reducible refine gate_dst (N := 2) rfl ?_); refine box_event r1_ (N := 2) r1_ (cs := #[.int .i64 a0_0, .string a0_1, .int .i64 a0_2, .string a0_3, .string a0_4, .int .i64 a0_5]) (t := 43) r2_ ?_; intro gb272 hg w18 hbox hb; have BK272 := Ad.mk (hbox); have GW272 := Ad.mk (bs_ : w.heap.size ≤ gb272); have GE272 := Ad.mk (bs_ : w.heap.size ≤ gb272); replace HB := Ad.mk (below_step b1_ hb); clear hb hbox hg) | ((with_reducible refine gate_dst (N := 4) rfl ?_); refine box_event r1_ (N := 4) r1_ (cs := #[.int .i64 0, .string ⟨#[]⟩, .int .i64 0, .string ⟨#[]⟩, .string ⟨#[]⟩, .int .i64 0]) (t := 43) r2_ ?_; intro gb273 hg w19 hbox hb; have BK273 := Ad.mk (hbox); have GW273 := Ad.mk ((z33_ : w.heap.size ≤ gb273)); have GE273 := Ad.mk ((z33_ : w.heap.size ≤ gb273)); have NB272_273 := Ad.mk ((by have G0 := BK272; exact z58_ : gb272 ≠ gb273)); have NB273_272 := Ad.mk ((by have G0 := BK272; exact z59_ : gb273 ≠ gb272)); replace BK272 := Ad.mk (blk_below (g := gb272) (o := .cells #[.int .i64 a0_0, .string a0_1, .int .i64 a0_2, .string a0_3, .string a0_4, .int .i64 a0_5] 43 (0, 0)) (bd_ BK272.out) hb); replace HB := Ad.mk (below_step (by have GE := GE272; exact b2_) hb); clear hb hbox hg; have hnb20 := NB272_273.out; have hnc20 := NB273_272.out; obtain ⟨⟨hcz21_0, hcz21_1, hcz21_2, hcz21_3, hcz21_4, hcz21_5⟩, hfz21_0, hfz21_1, hfz21_2, hfz21_3, hfz21_4, hfz21_5⟩ := c6_ BK272.out) | (go_at_call 21; (with_reducible refine (g2_May.calls k a0_2 a0_3 a0_4 false _ A9.out).mono ?_); rintro e w22 ⟨rfl, hb⟩; replace BK272 := Ad.mk (blk_below (g := gb272) (o := .cells #[.int .i64 a0_0, .string a0_1, .int .i64 a0_2, .string a0_3, .string a0_4, .int .i64 a0_5] 43 (0, 0)) (bd_ BK272.out) hb); replace BK273 := Ad.mk (blk_below (g := gb273) (o := .cells #[.int .i64 0, .string ⟨#[]⟩, .int .i64 0, .string ⟨#[]⟩, .string ⟨#[]⟩, .int .i64 0] 43 (0, 0)) (bd_ BK273.out) hb); replace HB := Ad.mk (below_step (by have G0 := GE272; have G1 := GE273; exact z2_) hb); clear hb; obtain ⟨⟨hcz23_0, hcz23_1, hcz23_2, hcz23_3, hcz23_4, hcz23_5⟩, hfz23_0, hfz23_1, hfz23_2, hfz23_3, hfz23_4, hfz23_5⟩ := c6_ BK272.out; obtain ⟨⟨hcz24_0, hcz24_1, hcz24_2, hcz24_3, hcz24_4, hcz24_5⟩, hfz24_0, hfz24_1, hfz24_2, hfz24_3, hfz24_4, hfz24_5⟩ := c6_ BK273.out))
 refine bodyPost_ret (results_ct rfl _ _ gb273 43 #[.int .i64 a0_0, .string a0_1, .int .i64 a0_2, .string a0_3, .string a0_4, .int .i64 a0_5] (0, 0) _ rfl (by have G0 := BK273; exact z60_) Tryz.underlying43 rfl k1_) rfl ?_
 exact ⟨e2_, by have G0 := GE272; have G1 := GE273; exact z2_⟩
def g4_word.l0 : Nat → ByteArray → Int → Int → Option (Int)
 | 0, _, _, _ => none
 | k + 1, x0, x1, x5 => if x1 < (x0.size : Int) then (if 0 ≤ x1 then ((g2_Letter.f (bt x0 x1)).bind fun t275 => (if t275 = true then (g4_word.l0 k x0 (wrap64 (x1 + 1)) x5) else (if x1 > x5 then ((g2_Digit.f (bt x0 x1)).bind fun t276 => (if t276 = true then (g4_word.l0 k x0 (wrap64 (x1 + 1)) x5) else (some x1))) else (some x1)))) else (none)) else (some x1)
def g4_word.f (k : Nat) (a0 : ByteArray) (a1 : Int) : Option (Int) := g4_word.l0 k a0 a1 a1
theorem g4_word.calls (k : Nat) (a0 : ByteArray) (a1 : Int) (r : Int) (w : World) (h : g4_word.f k a0 a1 = some r) :
  Calls Tryz.prog 28 #[.string a0, .int .i64 a1] w fun e w' => e = .returned (.int .i64 r) ∧ Drawn0 w w' := by
 have H := h
 clear h
 unfold g4_word.f at H
 have H' := Ad.mk H
 clear H
 go_enter Tryz.func28, Tryz.ntmps28
 go_wp2
 go_loopg [1] k (fun kq v1 w' => ∃ (x1_1 : Int), v1 = .int .i64 x1_1 ∧ Ad (g4_word.l0 kq a0 x1_1 a1 = some r) ∧ Ad (kq ≤ k) ∧ Drawn0 w w')
 case atStart => exact ⟨(a1), e1_, H', ⟨Nat.le_refl _⟩, z1_⟩
 case round =>
  clear H'
  try clear c2
  try clear p2
  obtain ⟨x1_1, rfl, HA, HK1, ⟨m1, rfl⟩⟩ := hrel
  cases gk with
  | zero => exact absurd HA.out (by simp [g4_word.l0])
  | succ k1 =>
   have H := HA.out
   clear HA
   simp only [g4_word.l0] at H
   by_cases c3 : x1_1 < (a0.size : Int)
   ·rw [if_pos c3] at H
    have c3b0 := decide_eq_true c3
    clear c3
    by_cases c4 : 0 ≤ x1_1
    ·rw [if_pos c4] at H
     have c4b0 := decide_eq_true c4
     clear c4
     obtain ⟨t275, A6, H⟩ := bi_ H
     by_cases c7 : t275 = true
     ·subst c7
      rw [if_pos rfl] at H
      have H' := Ad.mk H
      clear H
      have p5 : 0 ≤ (x1_1 : Int) := of_decide_eq_true a1_
      have q5 : x1_1 < (a0.size : Int) := of_decide_eq_true a1_
      have hx5 := bt_at a0 x1_1
      replace p5 := eq_true p5
      replace q5 := eq_true q5
      go_wp2_with (first | (go_at_call 44; (with_reducible refine (g2_Letter.calls (bt a0 x1_1) true _ A6.out).mono ?_); rintro e w' ⟨rfl, ⟨nd, rfl⟩⟩))
      go_roundg k1
      case measure => have := HK1.out; omega
      case rel => exact ⟨(wrap64 (x1_1 + 1)), e1_, H', ⟨by have := HK1.out; omega⟩, z1_⟩
     replace c7 := Bool.eq_false_iff.mpr c7
     subst c7
     rw [if_neg (show ¬ (false = true) by decide)] at H
     by_cases c8 : x1_1 > a1
     ·rw [if_pos c8] at H
      have c8b0 : decide (a1 < x1_1) = true := decide_eq_true c8
      clear c8
      obtain ⟨t276, A10, H⟩ := bi_ H
      by_cases c11 : t276 = true
      ·subst c11
       rw [if_pos rfl] at H
       have H' := Ad.mk H
       clear H
       have p5 : 0 ≤ (x1_1 : Int) := of_decide_eq_true a1_
       have q5 : x1_1 < (a0.size : Int) := of_decide_eq_true a1_
       have hx5 := bt_at a0 x1_1
       replace p5 := eq_true p5
       replace q5 := eq_true q5
       go_wp2_with (first | (go_at_call 44; (with_reducible refine (g2_Letter.calls (bt a0 x1_1) false _ A6.out).mono ?_); rintro e w' ⟨rfl, ⟨nd, rfl⟩⟩; have p9 : 0 ≤ (x1_1 : Int) := of_decide_eq_true a1_; have q9 : x1_1 < (a0.size : Int) := of_decide_eq_true a1_; have hx9 := bt_at a0 x1_1; replace p9 := eq_true p9; replace q9 := eq_true q9) | (go_at_call 29; (with_reducible refine (g2_Digit.calls (bt a0 x1_1) true _ A10.out).mono ?_); rintro e w' ⟨rfl, ⟨nd, rfl⟩⟩))
       go_roundg k1
       case measure => have := HK1.out; omega
       case rel => exact ⟨(wrap64 (x1_1 + 1)), e1_, H', ⟨by have := HK1.out; omega⟩, z1_⟩
      replace c11 := Bool.eq_false_iff.mpr c11
      subst c11
      rw [if_neg (show ¬ (false = true) by decide)] at H
      obtain rfl := Option.some.inj H
      have p5 : 0 ≤ (x1_1 : Int) := of_decide_eq_true a1_
      have q5 : x1_1 < (a0.size : Int) := of_decide_eq_true a1_
      have hx5 := bt_at a0 x1_1
      replace p5 := eq_true p5
      replace q5 := eq_true q5
      go_wp2_with (first | (go_at_call 44; (with_reducible refine (g2_Letter.calls (bt a0 x1_1) false _ A6.out).mono ?_); rintro e w' ⟨rfl, ⟨nd, rfl⟩⟩; have p9 : 0 ≤ (x1_1 : Int) := of_decide_eq_true a1_; have q9 : x1_1 < (a0.size : Int) := of_decide_eq_true a1_; have hx9 := bt_at a0 x1_1; replace p9 := eq_true p9; replace q9 := eq_true q9) | (go_at_call 29; (with_reducible refine (g2_Digit.calls (bt a0 x1_1) false _ A10.out).mono ?_); rintro e w' ⟨rfl, ⟨nd, rfl⟩⟩))
      go_ret
      exact ⟨e1_, z1_⟩
     rw [if_neg c8] at H
     have c8b0 : decide (a1 < x1_1) = false := decide_eq_false c8
     clear c8
     obtain rfl := Option.some.inj H
     have p5 : 0 ≤ (x1_1 : Int) := of_decide_eq_true a1_
     have q5 : x1_1 < (a0.size : Int) := of_decide_eq_true a1_
     have hx5 := bt_at a0 x1_1
     replace p5 := eq_true p5
     replace q5 := eq_true q5
     go_wp2_with (first | (go_at_call 44; (with_reducible refine (g2_Letter.calls (bt a0 x1_1) false _ A6.out).mono ?_); rintro e w' ⟨rfl, ⟨nd, rfl⟩⟩))
     go_ret
     exact ⟨e1_, z1_⟩
    rw [if_neg c4] at H
    exact absurd H (by simp)
   rw [if_neg c3] at H
   have c3b0 := decide_eq_false c3
   clear c3
   obtain rfl := Option.some.inj H
   go_wp2
   go_ret
   exact ⟨e1_, z1_⟩
end Go.Proofs.YtpbphelaeleikaaGreatDoor.PLt

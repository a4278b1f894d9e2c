import Derived.Test.YtjnhdamilbcmpaaDoorCuPTmx0
import Derived.Test.YtjnhdamilbcmpaaDoorCuPTmx12
import Derived.Test.YtjnhdamilbcmpaaDoorCuPTmx14
import Derived.Test.YtjnhdamilbcmpaaDoorCuPTmx16
import Derived.Test.YtjnhdamilbcmpaaDoorCuPTmx17
import Derived.Test.YtjnhdamilbcmpaaDoorCuPTmx19
namespace Go.Proofs.YtjnhdamilbcmpaaDoor.PTm
open Go.RowKit Go.Proofs.YtjnhdamilbcmpaaDoorW.PrintWords Go.Proofs.YtjnhdamilbcmpaaDoorW.PrintLast Go.Proofs.YtjnhdamilbcmpaaDoorW.PrintMore
attribute [local go_sem] max2_int min2_int max_two min_two max_three min_three max_four min_four
set_option linter.unusedVariables false
set_option linter.unusedSimpArgs false
set_option maxHeartbeats 8000000
set_option maxRecDepth 100000
mutual
def w5_TripleCuts.j0 : Nat → List (S38) → Int → ByteArray → Bool → Option (Bool)
 | 0, _, _, _, _ => none
 | k + 1, x0, x1, x5, x40 => if x40 = true then ((w5_known.f k).bind fun t459 => (some t459)) else (w5_TripleCuts.l0 k x0 x1 x5 0 0 0)
def w5_TripleCuts.l0 : Nat → List (S38) → Int → ByteArray → Int → Int → Int → Option (Bool)
 | 0, _, _, _, _, _, _ => none
 | k + 1, x0, x1, x5, x7, x8, x9 => if x9 < (x0.length : Int) then (if 0 ≤ x9 then ((g2_TripleText.f k ((rd_T38 x0 x9).f0.f0) ((rd_T38 x0 x9).f0.f1) ((rd_T38 x0 x9).f0.f2) ((rd_T38 x0 x9).f1.f0) ((rd_T38 x0 x9).f1.f1) ((rd_T38 x0 x9).f1.f2) ((rd_T38 x0 x9).f2.f0) ((rd_T38 x0 x9).f2.f1) ((rd_T38 x0 x9).f2.f2)).bind fun t461 => (if (wrap64 ((wrap64 ((wrap64 (x8 + (t461.size : Int))) + 1)) - 1)) ≤ x1 then (w5_TripleCuts.l0 k x0 x1 x5 (wrap64 (x9 + 1)) (wrap64 ((wrap64 (x8 + (t461.size : Int))) + 1)) (wrap64 (x9 + 1))) else (w5_TripleCuts.l0 k x0 x1 x5 x7 (wrap64 ((wrap64 (x8 + (t461.size : Int))) + 1)) (wrap64 (x9 + 1))))) else (none)) else (if 0 ≤ x1 then (if x1 ≤ (x5.size : Int) then ((nt_Parse.f k (x5.extract 0 (x1 : Int).toNat)).bind fun bt462 => (w5_TripleCuts.l1 k x0 x1 x7 bt462.1 bt462.2.2 0 0)) else (none)) else (none))
def w5_TripleCuts.l1 : Nat → List (S38) → Int → Int → List (S38) → Int → Int → Int → Option (Bool)
 | 0, _, _, _, _, _, _, _ => none
 | k + 1, x0, x1, x7, x10, x12, x13, x14 => if x14 < x7 then (if 0 ≤ x14 then (if x14 < (x0.length : Int) then ((g2_TripleText.f k ((rd_T38 x0 x14).f0.f0) ((rd_T38 x0 x14).f0.f1) ((rd_T38 x0 x14).f0.f2) ((rd_T38 x0 x14).f1.f0) ((rd_T38 x0 x14).f1.f1) ((rd_T38 x0 x14).f1.f2) ((rd_T38 x0 x14).f2.f0) ((rd_T38 x0 x14).f2.f1) ((rd_T38 x0 x14).f2.f2)).bind fun t468 => (w5_TripleCuts.l1 k x0 x1 x7 x10 x12 (wrap64 ((wrap64 (x13 + (t468.size : Int))) + 1)) (wrap64 (x14 + 1)))) else (none)) else (none)) else (if x1 ≤ x13 then ((w5_num.f x12).bind fun t469 => (if t469 = 0 then (if 0 ≤ x7 then (if x7 ≤ (x0.length : Int) then ((w5_same.f k x10 (x0.take (x7 : Int).toNat)).bind fun t474 => (if t474 = true then ((w5_known.f k).bind fun t475 => (some t475)) else (none))) else (none)) else (none)) else (none))) else ((w5_num.f x12).bind fun t476 => (if t476 = 4 then (if (x10.length : Int) = 0 then ((w5_known.f k).bind fun t477 => (some t477)) else (none)) else (none))))
end
def w5_TripleCuts.f (k : Nat) (l0 : List (S38)) (a1 : Int) : Option (Bool) := if 0 ≤ (mn (l0.length : Int) 60) then (if (mn (l0.length : Int) 60) ≤ (l0.length : Int) then ((nt_Text.f k (l0.take ((mn (l0.length : Int) 60) : Int).toNat)).bind fun bt455 => ((g2_Much.f l0 60).bind fun t457 => (if t457 = true then (w5_TripleCuts.j0 k l0 a1 bt455.1 true) else ((w5_num.f bt455.2).bind fun t458 => (if t458 = 0 then (if a1 < 0 then (w5_TripleCuts.j0 k l0 a1 bt455.1 true) else (w5_TripleCuts.j0 k l0 a1 bt455.1 (decide (a1 > (bt455.1.size : Int))))) else (w5_TripleCuts.j0 k l0 a1 bt455.1 true)))))) else (none)) else (none)
theorem w5_TripleCuts.calls (k : Nat) (A0 : Option Addr) (c0 : Nat) (l0 : List (S38)) (a1 : Int) (r : Bool) (w : World) (hr0 : Kd.C k38 w A0 l0.length l0) (hc0 : l0.length ≤ c0) (h : w5_TripleCuts.f k l0 a1 = some r) :
  Calls Tryd.prog 4 #[.slice A0 l0.length c0, .int .i64 a1] w fun e w' => e = .returned (.bool r) ∧ Below w.heap.size w w' := by
 have hu38 := Tryd.underlying38
 have HR0 := Ad.mk hr0
 have HC0 := Ad.mk hc0
 clear hr0 hc0
 have HB := Ad.mk (Below.refl w.heap.size w)
 have H := h
 clear h
 unfold w5_TripleCuts.f at H
 obtain ⟨ji3, hji3⟩ : ∃ j_ : Int, (mn (l0.length : Int) 60) = j_ := ⟨_, rfl⟩
 replace H : (if 0 ≤ (ji3) then (if (ji3) ≤ (l0.length : Int) then ((nt_Text.f k (l0.take ((ji3) : Int).toNat)).bind fun bt455 => ((g2_Much.f l0 60).bind fun t457 => (if t457 = true then (w5_TripleCuts.j0 k l0 a1 bt455.1 true) else ((w5_num.f bt455.2).bind fun t458 => (if t458 = 0 then (if a1 < 0 then (w5_TripleCuts.j0 k l0 a1 bt455.1 true) else (w5_TripleCuts.j0 k l0 a1 bt455.1 (decide (a1 > (bt455.1.size : Int))))) else (w5_TripleCuts.j0 k l0 a1 bt455.1 true)))))) else (none)) else (none)) = some r := by first | (rw [hji3] at H; exact H) | (simp only [hji3] at H ⊢; exact H)
 (try (have hji3h : ji3 ≤ 60 := by (rw [← hji3]; unfold mn; (repeat' split) <;> omega)))
 (try (have hji3g : ji3 ≤ 64 := by omega))
 (try (have hji3l : 0 ≤ ji3 := by (rw [← hji3]; unfold mn; (repeat' split) <;> omega)))
 (try (have hji3m : 0 ≤ ji3 := by omega))
 have hji3_ : (if 60 < (l0.length : Int) then 60 else (l0.length : Int)) = ji3 := hji3
 by_cases c4 : 0 ≤ (ji3)
 ·rw [if_pos c4] at H
  have c4b0 := eq_true c4
  have c4b1 := decide_eq_true c4
  clear c4
  by_cases c5 : (ji3) ≤ (l0.length : Int)
  ·rw [if_pos c5] at H
   have c5b0 := eq_true c5
   have c5b1 := decide_eq_true c5
   clear c5
   generalize hy451 : (l0.take ((ji3) : Int).toNat) = y451 at H
   replace hy451 := hy451.symm
   have Ny451 := Ad.mk hy451
   clear hy451
   obtain ⟨⟨t455, t456⟩, A6, H⟩ := bi_ H
   try dsimp only at H
   have HC7 := Ad.mk H
   clear H
   have q8 : ((ji3) : Int) ≤ ((l0.length : Int) : Int) := of_decide_eq_true a1_
   obtain ⟨i08, hi08, _, hsz8, _⟩ := info_parts info38
   have hroom8 : l0.length ≤ c0 := HC0.out
   have hC8 : Kd.C k38 _ A0 l0.length l0 := HR0.out
   have hcut8 := cut_to (P := Tryd.prog) 22 38 .i64 Tryd.underlying22 hi08 A0 l0.length c0 (ji3) (of_decide_eq_true a1_) q8 hroom8
   have hr8 := Kd.C_take (m := ((ji3) : Int).toNat) hC8 (by omega)
   have hy8 : y451.length = ((ji3) : Int).toNat := (by rw [Ny451.out, List.length_take]; omega)
   rw [← Ny451.out] at hr8
   rw [← hy8] at hcut8
   have HR454 := Ad.mk hr8
   have HC454 := Ad.mk (show y451.length ≤ c0 from by omega)
   clear hr8 hC8 hroom8 hi08 hsz8
   have KY8 := Ad.mk hy8
   clear hy8
   replace q8 := eq_true q8
   go_enter Tryd.func4, Tryd.ntmps4
   go_upto_region 2 with (first | ((with_reducible refine gate_callee (f := 7) rfl ?_); refine goesL_ (some 21) rfl rfl Tryd.func7 k1_ rfl #[.slice A0 y451.length c0] rfl g1_ ?_; (with_reducible refine (nt_Text.calls k _ _ y451 t455 t456 _ ?side1 ?side2 A6.out).mono ?_); (case side1 => exact (by repeat (first | exact HR454.out | (with_reducible refine Kd.C_alloc ?_ _) | (with_reducible refine Kd.C_drewN ?_ _) | (with_reducible refine Kd.C_drew ?_)))); (case side2 => exact HC454.out); rintro e w9 ⟨rfl, hb⟩; refine ⟨_, rfl, ?_⟩; replace HB := Ad.mk (below_step b1_ hb); clear hb))
   (try simp only [Act.put, List.setIfInBounds_toArray, List.set_cons_zero, List.set_cons_succ])
   go_cut [40] (fun v40 wc => ∃ (kq : Nat) (x40_6 : Bool), v40 = .bool x40_6 ∧ Ad (w5_TripleCuts.j0 kq l0 a1 t455 x40_6 = some r) ∧ Ad (kq ≤ k) ∧ Ad (Below w.heap.size w wc))
   case first =>
    have H := HC7.out
    clear HC7
    obtain ⟨t457, A10, H⟩ := bi_ H
    by_cases c11 : t457 = true
    ·subst c11
     rw [if_pos rfl] at H
     have H' := Ad.mk H
     clear H
     go_wp2_with (first | ((with_reducible refine gate_callee (f := 6) rfl ?_); refine goesL_ (some 25) rfl rfl Tryd.func6 k1_ rfl #[.slice A0 l0.length c0, .int .i64 60] rfl g1_ ?_; (with_reducible refine (g2_Much.calls _ _ l0 60 true _ ?side1 ?side2 A10.out).mono ?_); (case side1 => exact (by have G0 := HR0; exact z49_)); (case side2 => exact HC0.out); rintro e w' ⟨rfl, ⟨nd, rfl⟩⟩; refine ⟨_, rfl, ?_⟩))
     go_meet
     case rel => exact ⟨_, (true), e1_, H', ⟨z20_⟩, ⟨b1_⟩⟩
    replace c11 := Bool.eq_false_iff.mpr c11
    subst c11
    rw [if_neg (show ¬ (false = true) by decide)] at H
    obtain ⟨t458, A12, H⟩ := bi_ H
    by_cases c13 : t458 = 0
    ·rw [if_pos c13] at H
     have c13b0 := beq_iff_eq.mpr c13
     have c13b1 := bne_eq_false_iff_eq.mpr c13
     clear c13
     (first | rw [c13b0] | (simp only [i64_w, i32_w]; rw [c13b0]) | skip)
     by_cases c14 : a1 < 0
     ·rw [if_pos c14] at H
      have c14b0 := decide_eq_true c14
      clear c14
      have H' := Ad.mk H
      clear H
      go_wp2_with (first | ((with_reducible refine gate_callee (f := 6) rfl ?_); refine goesL_ (some 25) rfl rfl Tryd.func6 k1_ rfl #[.slice A0 l0.length c0, .int .i64 60] rfl g1_ ?_; (with_reducible refine (g2_Much.calls _ _ l0 60 false _ ?side1 ?side2 A10.out).mono ?_); (case side1 => exact (by have G0 := HR0; exact z49_)); (case side2 => exact HC0.out); rintro e w' ⟨rfl, ⟨nd, rfl⟩⟩; refine ⟨_, rfl, ?_⟩) | (go_at_call 8; (with_reducible refine (w5_num.calls t456 t458 _ A12.out).mono ?_); rintro e w' ⟨rfl, ⟨nd, rfl⟩⟩))
      go_meet
      case rel => exact ⟨_, (true), e1_, H', ⟨z20_⟩, ⟨b1_⟩⟩
     rw [if_neg c14] at H
     have c14b0 := decide_eq_false c14
     clear c14
     have H' := Ad.mk H
     clear H
     go_wp2_with (first | ((with_reducible refine gate_callee (f := 6) rfl ?_); refine goesL_ (some 25) rfl rfl Tryd.func6 k1_ rfl #[.slice A0 l0.length c0, .int .i64 60] rfl g1_ ?_; (with_reducible refine (g2_Much.calls _ _ l0 60 false _ ?side1 ?side2 A10.out).mono ?_); (case side1 => exact (by have G0 := HR0; exact z49_)); (case side2 => exact HC0.out); rintro e w' ⟨rfl, ⟨nd, rfl⟩⟩; refine ⟨_, rfl, ?_⟩) | (go_at_call 8; (with_reducible refine (w5_num.calls t456 t458 _ A12.out).mono ?_); rintro e w' ⟨rfl, ⟨nd, rfl⟩⟩))
     go_meet
     case rel => exact ⟨_, (decide (a1 > (t455.size : Int))), e1_, H', ⟨z20_⟩, ⟨b1_⟩⟩
    rw [if_neg c13] at H
    have c13b0 := beq_eq_false_iff_ne.mpr c13
    have c13b1 := bne_iff_ne.mpr c13
    (first | rw [c13b0] | (simp only [i64_w, i32_w]; rw [c13b0]) | skip)
    have H' := Ad.mk H
    clear H
    go_wp2_with (first | ((with_reducible refine gate_callee (f := 6) rfl ?_); refine goesL_ (some 25) rfl rfl Tryd.func6 k1_ rfl #[.slice A0 l0.length c0, .int .i64 60] rfl g1_ ?_; (with_reducible refine (g2_Much.calls _ _ l0 60 false _ ?side1 ?side2 A10.out).mono ?_); (case side1 => exact (by have G0 := HR0; exact z49_)); (case side2 => exact HC0.out); rintro e w' ⟨rfl, ⟨nd, rfl⟩⟩; refine ⟨_, rfl, ?_⟩) | (go_at_call 8; (with_reducible refine (w5_num.calls t456 t458 _ A12.out).mono ?_); rintro e w' ⟨rfl, ⟨nd, rfl⟩⟩))
    go_meet
    case rel => exact ⟨_, (true), e1_, H', ⟨z20_⟩, ⟨b1_⟩⟩
   case rest =>
    clear HC7
    try clear c4
    try clear c4b0
    try clear c4b1
    try clear c5
    try clear c5b0
    try clear c5b1
    try clear q8
    try clear q8
    obtain ⟨kq, x40_6, rfl, HA, HJ6, HB⟩ := hcut
    cases kq with
    | zero => exact absurd HA.out (by simp [w5_TripleCuts.j0])
    | succ kj6 =>
     have H := HA.out
     clear HA
     simp only [w5_TripleCuts.j0] at H
     by_cases c15 : x40_6 = true
     ·subst c15
      rw [if_pos rfl] at H
      obtain ⟨t459, A16, H⟩ := bi_ H
      obtain rfl := Option.some.inj H
      go_wp2_with (first | ((with_reducible refine gate_callee (f := 5) rfl ?_); refine goesL_ (some 41) rfl rfl Tryd.func5 k1_ rfl #[] rfl g1_ ?_; (with_reducible refine (w5_known.calls kj6  t459 _ A16.out).mono ?_); rintro e w17 ⟨rfl, hb⟩; refine ⟨_, rfl, ?_⟩; replace HB := Ad.mk (below_step b1_ hb); clear hb))
      go_ret
      exact ⟨z53_, b1_⟩
     replace c15 := Bool.eq_false_iff.mpr c15
     subst c15
     rw [if_neg (show ¬ (false = true) by decide)] at H
     have H' := Ad.mk H
     clear H
     go_wp2
     go_loopg [7, 8, 9] kj6 (fun kq v7 v8 v9 w' => ∃ (x7_2 : Int) (x8_2 : Int) (x9_2 : Int), v7 = .int .i64 x7_2 ∧ v8 = .int .i64 x8_2 ∧ v9 = .int .i64 x9_2 ∧ Ad (w5_TripleCuts.l0 kq l0 a1 t455 x7_2 x8_2 x9_2 = some r) ∧ Ad (kq ≤ kj6) ∧ Ad (Below w.heap.size w w'))
     case atStart => exact ⟨(0), (0), (0), e1_, e1_, e1_, H', ⟨Nat.le_refl _⟩, ⟨b1_⟩⟩
     case round =>
      clear H'
      try clear c4
      try clear c4b0
      try clear c4b1
      try clear c5
      try clear c5b0
      try clear c5b1
      try clear q8
      try clear q8
      obtain ⟨x7_2, x8_2, x9_2, rfl, rfl, rfl, HA, HK2, HB⟩ := hrel
      cases gk with
      | zero => exact absurd HA.out (by simp [w5_TripleCuts.l0])
      | succ k2 =>
       have H := HA.out
       clear HA
       simp only [w5_TripleCuts.l0] at H
       by_cases c18 : x9_2 < (l0.length : Int)
       ·rw [if_pos c18] at H
        have c18b0 := decide_eq_true c18
        clear c18
        by_cases c19 : 0 ≤ x9_2
        ·rw [if_pos c19] at H
         have c19b0 := decide_eq_true c19
         clear c19
         obtain ⟨t461, A20, H⟩ := bi_ H
         by_cases c21 : (wrap64 ((wrap64 ((wrap64 (x8_2 + (t461.size : Int))) + 1)) - 1)) ≤ a1
         ·rw [if_pos c21] at H
          have c21b0 := decide_eq_true c21
          clear c21
          have H' := Ad.mk H
          clear H
          have p460 : 0 ≤ (x9_2 : Int) := of_decide_eq_true a1_
          have q460 : x9_2 < (l0.length : Int) := of_decide_eq_true a1_
          obtain ⟨ad460, e460, hx460_0, hx460_1, hx460_2, hx460_3, hx460_4, hx460_5, hx460_6, hx460_7, hx460_8⟩ := at_T38 HR0.out x9_2 p460 q460
          cases e460
          replace hx460_0 := (HB.out.cell (World.block_lt_of_cell? w _ hx460_0)).trans hx460_0
          replace hx460_1 := (HB.out.cell (World.block_lt_of_cell? w _ hx460_1)).trans hx460_1
          replace hx460_2 := (HB.out.cell (World.block_lt_of_cell? w _ hx460_2)).trans hx460_2
          replace hx460_3 := (HB.out.cell (World.block_lt_of_cell? w _ hx460_3)).trans hx460_3
          replace hx460_4 := (HB.out.cell (World.block_lt_of_cell? w _ hx460_4)).trans hx460_4
          replace hx460_5 := (HB.out.cell (World.block_lt_of_cell? w _ hx460_5)).trans hx460_5
          replace hx460_6 := (HB.out.cell (World.block_lt_of_cell? w _ hx460_6)).trans hx460_6
          replace hx460_7 := (HB.out.cell (World.block_lt_of_cell? w _ hx460_7)).trans hx460_7
          replace hx460_8 := (HB.out.cell (World.block_lt_of_cell? w _ hx460_8)).trans hx460_8
          replace p460 := eq_true p460
          replace q460 := eq_true q460
          go_wp2_with (first | ((with_reducible refine gate_callee (f := 11) rfl ?_); refine goesL_ (some 53) rfl rfl Tryd.func11 k1_ rfl #[.agg #[.int .i64 ((rd_T38 l0 x9_2).f0.f0), .string ((rd_T38 l0 x9_2).f0.f1), .string ((rd_T38 l0 x9_2).f0.f2), .int .i64 ((rd_T38 l0 x9_2).f1.f0), .string ((rd_T38 l0 x9_2).f1.f1), .string ((rd_T38 l0 x9_2).f1.f2), .int .i64 ((rd_T38 l0 x9_2).f2.f0), .string ((rd_T38 l0 x9_2).f2.f1), .string ((rd_T38 l0 x9_2).f2.f2)]] rfl g1_ ?_; (with_reducible refine (g2_TripleText.calls k2 ((rd_T38 l0 x9_2).f0.f0) ((rd_T38 l0 x9_2).f0.f1) ((rd_T38 l0 x9_2).f0.f2) ((rd_T38 l0 x9_2).f1.f0) ((rd_T38 l0 x9_2).f1.f1) ((rd_T38 l0 x9_2).f1.f2) ((rd_T38 l0 x9_2).f2.f0) ((rd_T38 l0 x9_2).f2.f1) ((rd_T38 l0 x9_2).f2.f2) t461 _ A20.out).mono ?_); rintro e w22 ⟨rfl, hb⟩; refine ⟨_, rfl, ?_⟩; replace HB := Ad.mk (below_step b1_ hb); clear hb))
          go_roundg k2
          case measure => have := HJ6.out; have := HK2.out; omega
          case rel => exact ⟨(wrap64 (x9_2 + 1)), (wrap64 ((wrap64 (x8_2 + (t461.size : Int))) + 1)), (wrap64 (x9_2 + 1)), e1_, e1_, e1_, H', ⟨by have := HJ6.out; have := HK2.out; omega⟩, ⟨b1_⟩⟩
         rw [if_neg c21] at H
         have c21b0 := decide_eq_false c21
         clear c21
         have H' := Ad.mk H
         clear H
         have p460 : 0 ≤ (x9_2 : Int) := of_decide_eq_true a1_
         have q460 : x9_2 < (l0.length : Int) := of_decide_eq_true a1_
         obtain ⟨ad460, e460, hx460_0, hx460_1, hx460_2, hx460_3, hx460_4, hx460_5, hx460_6, hx460_7, hx460_8⟩ := at_T38 HR0.out x9_2 p460 q460
         cases e460
         replace hx460_0 := (HB.out.cell (World.block_lt_of_cell? w _ hx460_0)).trans hx460_0
         replace hx460_1 := (HB.out.cell (World.block_lt_of_cell? w _ hx460_1)).trans hx460_1
         replace hx460_2 := (HB.out.cell (World.block_lt_of_cell? w _ hx460_2)).trans hx460_2
         replace hx460_3 := (HB.out.cell (World.block_lt_of_cell? w _ hx460_3)).trans hx460_3
         replace hx460_4 := (HB.out.cell (World.block_lt_of_cell? w _ hx460_4)).trans hx460_4
         replace hx460_5 := (HB.out.cell (World.block_lt_of_cell? w _ hx460_5)).trans hx460_5
         replace hx460_6 := (HB.out.cell (World.block_lt_of_cell? w _ hx460_6)).trans hx460_6
         replace hx460_7 := (HB.out.cell (World.block_lt_of_cell? w _ hx460_7)).trans hx460_7
         replace hx460_8 := (HB.out.cell (World.block_lt_of_cell? w _ hx460_8)).trans hx460_8
         replace p460 := eq_true p460
         replace q460 := eq_true q460
         go_wp2_with (first | ((with_reducible refine gate_callee (f := 11) rfl ?_); refine goesL_ (some 53) rfl rfl Tryd.func11 k1_ rfl #[.agg #[.int .i64 ((rd_T38 l0 x9_2).f0.f0), .string ((rd_T38 l0 x9_2).f0.f1), .string ((rd_T38 l0 x9_2).f0.f2), .int .i64 ((rd_T38 l0 x9_2).f1.f0), .string ((rd_T38 l0 x9_2).f1.f1), .string ((rd_T38 l0 x9_2).f1.f2), .int .i64 ((rd_T38 l0 x9_2).f2.f0), .string ((rd_T38 l0 x9_2).f2.f1), .string ((rd_T38 l0 x9_2).f2.f2)]] rfl g1_ ?_; (with_reducible refine (g2_TripleText.calls k2 ((rd_T38 l0 x9_2).f0.f0) ((rd_T38 l0 x9_2).f0.f1) ((rd_T38 l0 x9_2).f0.f2) ((rd_T38 l0 x9_2).f1.f0) ((rd_T38 l0 x9_2).f1.f1) ((rd_T38 l0 x9_2).f1.f2) ((rd_T38 l0 x9_2).f2.f0) ((rd_T38 l0 x9_2).f2.f1) ((rd_T38 l0 x9_2).f2.f2) t461 _ A20.out).mono ?_); rintro e w23 ⟨rfl, hb⟩; refine ⟨_, rfl, ?_⟩; replace HB := Ad.mk (below_step b1_ hb); clear hb))
         go_roundg k2
         case measure => have := HJ6.out; have := HK2.out; omega
         case rel => exact ⟨(x7_2), (wrap64 ((wrap64 (x8_2 + (t461.size : Int))) + 1)), (wrap64 (x9_2 + 1)), e1_, e1_, e1_, H', ⟨by have := HJ6.out; have := HK2.out; omega⟩, ⟨b1_⟩⟩
        rw [if_neg c19] at H
        exact absurd H (by simp)
       rw [if_neg c18] at H
       have c18b0 := decide_eq_false c18
       clear c18
       by_cases c24 : 0 ≤ a1
       ·rw [if_pos c24] at H
        have c24b0 := eq_true c24
        have c24b1 := decide_eq_true c24
        clear c24
        by_cases c25 : a1 ≤ (t455.size : Int)
        ·rw [if_pos c25] at H
         have c25b0 := eq_true c25
         have c25b1 := decide_eq_true c25
         clear c25
         obtain ⟨⟨t462, t463, t464⟩, A26, H⟩ := bi_ H
         try dsimp only at H
         have H' := Ad.mk H
         clear H
         go_wp2_with (first | ((with_reducible refine gate_callee (f := 9) rfl ?_); refine goesL_ (some 67) rfl rfl Tryd.func9 k1_ rfl #[.string (t455.extract 0 (a1 : Int).toNat)] rfl g1_ ?_; (with_reducible refine (nt_Parse.calls k2 (t455.extract 0 (a1 : Int).toNat) t462 t463 t464 _ A26.out).mono ?_); rintro e w27 ⟨v465, rfl, ho0, hb⟩; refine ⟨_, rfl, ?_⟩; have HO466 := Ad.mk (Kd.R_lower ho0 (below_size b1_)); replace HB := Ad.mk (below_step b1_ hb); (try clear hb); (try clear hb2); (try clear hk); (try clear hi); (try clear ho0)))
         go_loopg [13, 14] k2 (fun kq v13 v14 w' => ∃ (x13_3 : Int) (x14_3 : Int), v13 = .int .i64 x13_3 ∧ v14 = .int .i64 x14_3 ∧ Ad (w5_TripleCuts.l1 kq l0 a1 x7_2 t462 t464 x13_3 x14_3 = some r) ∧ Ad (kq ≤ k2) ∧ Ad (Kd.R k38 38 w' w.heap.size (fun _ => True) v465 t462) ∧ Ad (Below w.heap.size w w'))
         case atStart => exact ⟨(0), (0), e1_, e1_, H', ⟨Nat.le_refl _⟩, ⟨by have G0 := HO466; exact z1_⟩, ⟨b1_⟩⟩
         case round =>
          clear H'
          try clear c4
          try clear c4b0
          try clear c4b1
          try clear c5
          try clear c5b0
          try clear c5b1
          try clear q8
          try clear q8
          obtain ⟨x13_3, x14_3, rfl, rfl, HA, HK3, HO_10, HB⟩ := hrel
          cases gk with
          | zero => exact absurd HA.out (by simp [w5_TripleCuts.l1])
          | succ k3 =>
           have H := HA.out
           clear HA
           simp only [w5_TripleCuts.l1] at H
           by_cases c28 : x14_3 < x7_2
           ·rw [if_pos c28] at H
            have c28b0 := decide_eq_true c28
            clear c28
            by_cases c29 : 0 ≤ x14_3
            ·rw [if_pos c29] at H
             have c29b0 := decide_eq_true c29
             clear c29
             by_cases c30 : x14_3 < (l0.length : Int)
             ·rw [if_pos c30] at H
              have c30b0 := decide_eq_true c30
              clear c30
              obtain ⟨t468, A31, H⟩ := bi_ H
              have H' := Ad.mk H
              clear H
              have p467 : 0 ≤ (x14_3 : Int) := of_decide_eq_true a1_
              have q467 : x14_3 < (l0.length : Int) := of_decide_eq_true a1_
              obtain ⟨ad467, e467, hx467_0, hx467_1, hx467_2, hx467_3, hx467_4, hx467_5, hx467_6, hx467_7, hx467_8⟩ := at_T38 HR0.out x14_3 p467 q467
              cases e467
              replace hx467_0 := (HB.out.cell (World.block_lt_of_cell? w _ hx467_0)).trans hx467_0
              replace hx467_1 := (HB.out.cell (World.block_lt_of_cell? w _ hx467_1)).trans hx467_1
              replace hx467_2 := (HB.out.cell (World.block_lt_of_cell? w _ hx467_2)).trans hx467_2
              replace hx467_3 := (HB.out.cell (World.block_lt_of_cell? w _ hx467_3)).trans hx467_3
              replace hx467_4 := (HB.out.cell (World.block_lt_of_cell? w _ hx467_4)).trans hx467_4
              replace hx467_5 := (HB.out.cell (World.block_lt_of_cell? w _ hx467_5)).trans hx467_5
              replace hx467_6 := (HB.out.cell (World.block_lt_of_cell? w _ hx467_6)).trans hx467_6
              replace hx467_7 := (HB.out.cell (World.block_lt_of_cell? w _ hx467_7)).trans hx467_7
              replace hx467_8 := (HB.out.cell (World.block_lt_of_cell? w _ hx467_8)).trans hx467_8
              replace p467 := eq_true p467
              replace q467 := eq_true q467
              go_wp2_with (first | ((with_reducible refine gate_callee (f := 11) rfl ?_); refine goesL_ (some 81) rfl rfl Tryd.func11 k1_ rfl #[.agg #[.int .i64 ((rd_T38 l0 x14_3).f0.f0), .string ((rd_T38 l0 x14_3).f0.f1), .string ((rd_T38 l0 x14_3).f0.f2), .int .i64 ((rd_T38 l0 x14_3).f1.f0), .string ((rd_T38 l0 x14_3).f1.f1), .string ((rd_T38 l0 x14_3).f1.f2), .int .i64 ((rd_T38 l0 x14_3).f2.f0), .string ((rd_T38 l0 x14_3).f2.f1), .string ((rd_T38 l0 x14_3).f2.f2)]] rfl g1_ ?_; (with_reducible refine (g2_TripleText.calls k3 ((rd_T38 l0 x14_3).f0.f0) ((rd_T38 l0 x14_3).f0.f1) ((rd_T38 l0 x14_3).f0.f2) ((rd_T38 l0 x14_3).f1.f0) ((rd_T38 l0 x14_3).f1.f1) ((rd_T38 l0 x14_3).f1.f2) ((rd_T38 l0 x14_3).f2.f0) ((rd_T38 l0 x14_3).f2.f1) ((rd_T38 l0 x14_3).f2.f2) t468 _ A31.out).mono ?_); rintro e w32 ⟨rfl, hb⟩; refine ⟨_, rfl, ?_⟩; replace HO_10 := Ad.mk (Kd.R_below (by have G0 := HO_10; exact z1_) hb); replace HB := Ad.mk (below_step b1_ hb); clear hb))
              go_roundg k3
              case measure => have := HJ6.out; have := HK2.out; have := HK3.out; omega
              case rel => exact ⟨(wrap64 ((wrap64 (x13_3 + (t468.size : Int))) + 1)), (wrap64 (x14_3 + 1)), e1_, e1_, H', ⟨by have := HJ6.out; have := HK2.out; have := HK3.out; omega⟩, ⟨by have G0 := HO_10; exact z1_⟩, ⟨b1_⟩⟩
             rw [if_neg c30] at H
             exact absurd H (by simp)
            rw [if_neg c29] at H
            exact absurd H (by simp)
           rw [if_neg c28] at H
           have c28b0 := decide_eq_false c28
           clear c28
           by_cases c33 : a1 ≤ x13_3
           ·rw [if_pos c33] at H
            have c33b0 := decide_eq_true c33
            clear c33
            obtain ⟨t469, A34, H⟩ := bi_ H
            by_cases c35 : t469 = 0
            ·rw [if_pos c35] at H
             have c35b0 := beq_iff_eq.mpr c35
             have c35b1 := bne_eq_false_iff_eq.mpr c35
             clear c35
             by_cases c36 : 0 ≤ x7_2
             ·rw [if_pos c36] at H
              have c36b0 := eq_true c36
              have c36b1 := decide_eq_true c36
              clear c36
              by_cases c37 : x7_2 ≤ (l0.length : Int)
              ·rw [if_pos c37] at H
               have c37b0 := eq_true c37
               have c37b1 := decide_eq_true c37
               clear c37
               generalize hy470 : (l0.take (x7_2 : Int).toNat) = y470 at H
               replace hy470 := hy470.symm
               have Ny470 := Ad.mk hy470
               clear hy470
               obtain ⟨t474, A38, H⟩ := bi_ H
               by_cases c39 : t474 = true
               ·subst c39
                rw [if_pos rfl] at H
                obtain ⟨t475, A40, H⟩ := bi_ H
                obtain rfl := Option.some.inj H
                go_wp2_with (first | ((with_reducible refine gate_callee (f := 8) rfl ?_); refine goesL_ (some 89) rfl rfl Tryd.func8 k1_ rfl #[.int .i64 t464] rfl g1_ ?_; (with_reducible refine (w5_num.calls t464 t469 _ A34.out).mono ?_); rintro e w' ⟨rfl, ⟨nd, rfl⟩⟩; refine ⟨_, rfl, ?_⟩; have q41 : (x7_2 : Int) ≤ ((l0.length : Int) : Int) := of_decide_eq_true a1_; obtain ⟨i041, hi041, _, hsz41, _⟩ := info_parts info38; have hroom41 : l0.length ≤ c0 := HC0.out; have hC41 : Kd.C k38 _ A0 l0.length l0 := HR0.out; have hcut41 := cut_to (P := Tryd.prog) 22 38 .i64 Tryd.underlying22 hi041 A0 l0.length c0 x7_2 (of_decide_eq_true a1_) q41 hroom41; have hr41 := Kd.C_take (m := (x7_2 : Int).toNat) hC41 (by omega); have hy41 : y470.length = (x7_2 : Int).toNat := (by rw [Ny470.out, List.length_take]; omega); rw [← Ny470.out] at hr41; rw [← hy41] at hcut41; have HR473 := Ad.mk hr41; have HC473 := Ad.mk (show y470.length ≤ c0 from by omega); clear hr41 hC41 hroom41 hi041 hsz41; have KY41 := Ad.mk hy41; clear hy41; replace q41 := eq_true q41; obtain ⟨Ao42, co42, eo42⟩ := Kd.R_slice HO_10.out; subst eo42) | (go_at_call 10; (with_reducible refine (w5_same.calls k3 _ _ t462 _ _ y470 true _ ?side1 ?side2 ?side3 ?side4 A38.out).mono ?_); (case side1 => exact (by repeat (first | exact (Kd.R_reads' HO_10.out).2.2 | (with_reducible refine Kd.C_alloc ?_ _) | (with_reducible refine Kd.C_drewN ?_ _) | (with_reducible refine Kd.C_drew ?_)))); (case side2 => exact (Kd.R_reads' HO_10.out).2.1); (case side3 => exact (by repeat (first | exact (Kd.C_below HR473.out b1_) | (with_reducible refine Kd.C_alloc ?_ _) | (with_reducible refine Kd.C_drewN ?_ _) | (with_reducible refine Kd.C_drew ?_)))); (case side4 => exact HC473.out); rintro e w' ⟨rfl, ⟨nd, rfl⟩⟩) | (go_at_call 5; (with_reducible refine (w5_known.calls k3  t475 _ A40.out).mono ?_); rintro e w43 ⟨rfl, hb⟩; replace HO_10 := Ad.mk (Kd.R_below (by have G0 := HO_10; exact z1_) hb); replace HB := Ad.mk (below_step b1_ hb); clear hb))
                go_ret
                exact ⟨z53_, b1_⟩
               replace c39 := Bool.eq_false_iff.mpr c39
               subst c39
               rw [if_neg (show ¬ (false = true) by decide)] at H
               exact absurd H (by simp)
              rw [if_neg c37] at H
              exact absurd H (by simp)
             rw [if_neg c36] at H
             exact absurd H (by simp)
            rw [if_neg c35] at H
            exact absurd H (by simp)
           rw [if_neg c33] at H
           have c33b0 := decide_eq_false c33
           clear c33
           obtain ⟨t476, A44, H⟩ := bi_ H
           by_cases c45 : t476 = 4
           ·rw [if_pos c45] at H
            have c45b0 := beq_iff_eq.mpr c45
            have c45b1 := bne_eq_false_iff_eq.mpr c45
            clear c45
            by_cases c46 : (t462.length : Int) = 0
            ·rw [if_pos c46] at H
             have c46b0 := beq_iff_eq.mpr c46
             have c46b1 := bne_eq_false_iff_eq.mpr c46
             clear c46
             obtain ⟨t477, A47, H⟩ := bi_ H
             obtain rfl := Option.some.inj H
             go_wp2_with (first | ((with_reducible refine gate_callee (f := 8) rfl ?_); refine goesL_ (some 102) rfl rfl Tryd.func8 k1_ rfl #[.int .i64 t464] rfl g1_ ?_; (with_reducible refine (w5_num.calls t464 t476 _ A44.out).mono ?_); rintro e w' ⟨rfl, ⟨nd, rfl⟩⟩; refine ⟨_, rfl, ?_⟩; obtain ⟨Ao48, co48, eo48⟩ := Kd.R_slice HO_10.out; subst eo48) | (go_at_call 5; (with_reducible refine (w5_known.calls k3  t477 _ A47.out).mono ?_); rintro e w49 ⟨rfl, hb⟩; replace HO_10 := Ad.mk (Kd.R_below (by have G0 := HO_10; exact z1_) hb); replace HB := Ad.mk (below_step b1_ hb); clear hb))
             go_ret
             exact ⟨z53_, b1_⟩
            rw [if_neg c46] at H
            exact absurd H (by simp)
           rw [if_neg c45] at H
           exact absurd H (by simp)
        rw [if_neg c25] at H
        exact absurd H (by simp)
       rw [if_neg c24] at H
       exact absurd H (by simp)
  rw [if_neg c5] at H
  exact absurd H (by simp)
 rw [if_neg c4] at H
 exact absurd H (by simp)
end Go.Proofs.YtjnhdamilbcmpaaDoor.PTm

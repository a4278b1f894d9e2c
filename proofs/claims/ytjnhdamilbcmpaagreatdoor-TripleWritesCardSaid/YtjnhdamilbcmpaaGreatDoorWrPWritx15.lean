import Derived.Test.YtjnhdamilbcmpaaGreatDoorWrPWritx0
import Derived.Test.YtjnhdamilbcmpaaGreatDoorWrPWritx13
import Derived.Test.YtjnhdamilbcmpaaGreatDoorWrPWritx14
namespace Go.Proofs.YtjnhdamilbcmpaaGreatDoor.PWrit
open Go.RowKit Go.Proofs.YtjnhdamilbcmpaaGreatDoorW.PrintWords Go.Proofs.YtjnhdamilbcmpaaGreatDoorW.PrintLast Go.Proofs.YtjnhdamilbcmpaaGreatDoorW.PrintMore
attribute [local go_sem] max2_int min2_int max_two min_two max_three min_three max_four min_four
set_option linter.unusedVariables false
set_option linter.unusedSimpArgs false
def rhizomeref02_May.j0 : Nat → Bool → Int → ByteArray → ByteArray → Option (Bool)
 | 0, _, _, _, _ => none
 | k + 1, x3, x332000, x332001, x332002 => if x332000 = 1 then ((rhizomeref02_IRI.f k x332001).bind fun t333 => (if t333 = true then (some (x332002.toList == ([] : List UInt8))) else (some false))) else (if x332000 = 2 then ((rhizomeref02_Word.f k x332001 64).bind fun t334 => (if t334 = true then (some (x332002.toList == ([] : List UInt8))) else (some false))) else (if x332000 = 3 then (if x3 = true then (some (x332002.toList == ([] : List UInt8))) else (some false)) else (if x332000 = 4 then (if x3 = true then ((rhizomeref02_tag.f k x332002).bind fun t335 => (some t335)) else (some false)) else (if x332000 = 5 then (if x3 = true then ((rhizomeref02_IRI.f k x332002).bind fun t336 => (if t336 = true then (some (x332002.toList != ([104, 116, 116, 112, 58, 47, 47, 119, 119, 119, 46, 119, 51, 46, 111, 114, 103, 47, 50, 48, 48, 49, 47, 88, 77, 76, 83, 99, 104, 101, 109, 97, 35, 115, 116, 114, 105, 110, 103] : List UInt8))) else (some false))) else (some false)) else (some false)))))
def rhizomeref02_May.f (k : Nat) (a0_0 : Int) (a0_1 : ByteArray) (a0_2 : ByteArray) : Option (Bool) := if (a0_1.size : Int) ≤ 4000 then ((rhizomeref01_Valid.f k a0_1).bind fun t332 => (rhizomeref02_May.j0 k t332 a0_0 a0_1 a0_2)) else (rhizomeref02_May.j0 k false a0_0 a0_1 a0_2)
set_option maxHeartbeats 8000000 in
set_option maxRecDepth 100000 in
theorem rhizomeref02_May.calls (k : Nat) (a0_0 : Int) (a0_1 : ByteArray) (a0_2 : ByteArray) (r : Bool) (w : World) (h : rhizomeref02_May.f k a0_0 a0_1 a0_2 = some r) :
  Calls Tryz.prog 37 #[.agg #[.int .i64 a0_0, .string a0_1, .string a0_2]] w fun e w' => e = .returned (.bool r) ∧ Below w.heap.size w w' := by
 have hu31 := Tryz.underlying31
 have HB := Aside0.mk (Below.refl w.heap.size w)
 have H : (if (a0_1.size : Int) ≤ 4000 then ((rhizomeref01_Valid.f k a0_1).bind fun t332 => (rhizomeref02_May.j0 k t332 a0_0 a0_1 a0_2)) else (rhizomeref02_May.j0 k false a0_0 a0_1 a0_2)) = some r := h
 clear h
 have HC2 := Aside0.mk H
 clear H
 go_enter Tryz.func37, Tryz.ntmps37
 go_upto_region 1 with (first | ((with_reducible refine gate_dst (N := 1) rfl ?_); refine box_event r1_ (N := 1) r1_ (cs := #[.int .i64 a0_0, .string a0_1, .string a0_2]) (t := 31) r2_ ?_; intro gb331 hg w3 hbox hb; have BK331 := Aside0.mk (hbox); have GW331 := Aside0.mk (bs_ : w.heap.size ≤ gb331); have GE331 := Aside0.mk (bs_ : w.heap.size ≤ gb331); replace HB := Aside0.mk (below_step b1_ hb); clear hb hbox hg))
 (try simp only [Act.put, List.setIfInBounds_toArray, List.set_cons_zero, List.set_cons_succ])
 go_cut [3] (fun v3 wc => ∃ (kq : Nat) (x3_1 : Bool), v3 = .bool x3_1 ∧ Aside0 (rhizomeref02_May.j0 kq x3_1 a0_0 a0_1 a0_2 = some r) ∧ Aside0 (kq ≤ k) ∧ Aside0 (wc.heap[gb331]? = some (.cells #[.int .i64 a0_0, .string a0_1, .string a0_2] 31 (0, 0))) ∧ Aside0 (Below w.heap.size w wc))
 case first =>
  have H := HC2.out
  clear HC2
  by_cases c4 : (a0_1.size : Int) ≤ 4000
  ·rw [if_pos c4] at H
   have c4b0 : decide ((a0_1.size : Int) ≤ 4000) = true := decide_eq_true c4
   have c4b1 : decide (a0_1.size ≤ 4000) = true := decide_eq_true (by omega)
   clear c4
   (first | rw [c4b0] | (simp only [i64_w, i32_w]; rw [c4b0]) | skip)
   replace H := Option.bind_eq_some_iff.mp H
   obtain ⟨t332, A50, H⟩ := H
   replace H : (rhizomeref02_May.j0 k t332 a0_0 a0_1 a0_2) = some r := H
   have A5 := Aside0.mk A50
   clear A50
   have H' := Aside0.mk H
   clear H
   have hcz6_0 := cl_ (.int .i64 a0_0) BK331.out 0
   have hcz6_1 := cl_ (.string a0_1) BK331.out 1
   have hcz6_2 := cl_ (.string a0_2) BK331.out 2
   have hfz6_0 := blk_frozen BK331.out 0
   have hfz6_1 := blk_frozen BK331.out 1
   have hfz6_2 := blk_frozen BK331.out 2
   go_wp2_with (first | (go_at_call 51; (with_reducible refine (rhizomeref01_Valid.calls k a0_1 t332 _ A5.out).mono ?_); rintro e w7 ⟨rfl, hb⟩; replace BK331 := Aside0.mk (blk_below (g := gb331) (o := .cells #[.int .i64 a0_0, .string a0_1, .string a0_2] 31 (0, 0)) (bd_ BK331.out) hb); replace HB := Aside0.mk (below_step z23_ hb); (try clear hb); (try clear hb2); (try clear hk); (try clear hi)))
   go_meet
   case rel => exact ⟨_, (t332), e1_, H', ⟨z10_⟩, ⟨by have G0 := BK331; exact z17_⟩, ⟨by have G0 := GE331; exact z4_⟩⟩
  ·rw [if_neg c4] at H
   have c4b0 : decide ((a0_1.size : Int) ≤ 4000) = false := decide_eq_false c4
   have c4b1 : decide (a0_1.size ≤ 4000) = false := decide_eq_false (by omega)
   clear c4
   (first | rw [c4b0] | (simp only [i64_w, i32_w]; rw [c4b0]) | skip)
   have H' := Aside0.mk H
   clear H
   have hcz8_0 := cl_ (.int .i64 a0_0) BK331.out 0
   have hcz8_1 := cl_ (.string a0_1) BK331.out 1
   have hcz8_2 := cl_ (.string a0_2) BK331.out 2
   have hfz8_0 := blk_frozen BK331.out 0
   have hfz8_1 := blk_frozen BK331.out 1
   have hfz8_2 := blk_frozen BK331.out 2
   go_wp2
   go_meet
   case rel => exact ⟨_, (false), e1_, H', ⟨z10_⟩, ⟨by have G0 := BK331; exact z17_⟩, ⟨by have G0 := GE331; exact z4_⟩⟩
 case rest =>
  clear HC2
  try clear p2
  try clear c3
  try clear c4
  try clear c4b0
  try clear c4b1
  try clear hcz6_0
  try clear hcz6_1
  try clear hcz6_2
  try clear hcz8_0
  try clear hcz8_1
  try clear hcz8_2
  try clear hfz6_0
  try clear hfz6_1
  try clear hfz6_2
  try clear hfz8_0
  try clear hfz8_1
  try clear hfz8_2
  obtain ⟨kq, x3_1, rfl, HA, HJ1, BK331, HB⟩ := hcut
  cases kq with
  | zero => exact absurd HA.out (by simp [rhizomeref02_May.j0])
  | succ kj1 =>
   have H := HA.out
   clear HA
   simp only [rhizomeref02_May.j0] at H
   by_cases c9 : a0_0 = 1
   ·rw [if_pos c9] at H
    have c9b0 : (a0_0 == 1) = true := beq_iff_eq.mpr c9
    have c9b1 : (a0_0 != 1) = false := bne_eq_false_iff_eq.mpr c9
    clear c9
    replace H := Option.bind_eq_some_iff.mp H
    obtain ⟨t333, A100, H⟩ := H
    replace H : (if t333 = true then (some (a0_2.toList == ([] : List UInt8))) else (some false)) = some r := H
    have A10 := Aside0.mk A100
    clear A100
    by_cases c11 : t333 = true
    ·subst c11
     have H1 : (some (a0_2.toList == ([] : List UInt8))) = some r := by rw [if_pos rfl] at H; exact H
     clear H
     have H := H1
     clear H1
     obtain rfl := Option.some.inj H
     have hcz12_0 := cl_ (.int .i64 a0_0) BK331.out 0
     have hcz12_1 := cl_ (.string a0_1) BK331.out 1
     have hcz12_2 := cl_ (.string a0_2) BK331.out 2
     have hfz12_0 := blk_frozen BK331.out 0
     have hfz12_1 := blk_frozen BK331.out 1
     have hfz12_2 := blk_frozen BK331.out 2
     go_wp2_with (first | ((with_reducible refine gate_callee (f := 52) rfl ?_); refine goesL_ (some 19) rfl rfl Tryz.func52 k1_ rfl #[.string a0_1] rfl g1_ ?_; (with_reducible refine (rhizomeref02_IRI.calls kj1 a0_1 true _ A10.out).mono ?_); rintro e w13 ⟨rfl, hb⟩; refine ⟨_, rfl, ?_⟩; replace BK331 := Aside0.mk (blk_below (g := gb331) (o := .cells #[.int .i64 a0_0, .string a0_1, .string a0_2] 31 (0, 0)) (bd_ BK331.out) hb); replace HB := Aside0.mk (below_step z23_ hb); (try clear hb); (try clear hb2); (try clear hk); (try clear hi); have hcz14_0 := cl_ (.int .i64 a0_0) BK331.out 0; have hcz14_1 := cl_ (.string a0_1) BK331.out 1; have hcz14_2 := cl_ (.string a0_2) BK331.out 2; have hfz14_0 := blk_frozen BK331.out 0; have hfz14_1 := blk_frozen BK331.out 1; have hfz14_2 := blk_frozen BK331.out 2))
     go_ret
     exact ⟨e2_, by have G0 := GE331; exact z4_⟩
    ·replace c11 := Bool.eq_false_iff.mpr c11
     subst c11
     have H1 : (some false) = some r := by rw [if_neg (show ¬ (false = true) by decide)] at H; exact H
     clear H
     have H := H1
     clear H1
     obtain rfl := Option.some.inj H
     have hcz15_0 := cl_ (.int .i64 a0_0) BK331.out 0
     have hcz15_1 := cl_ (.string a0_1) BK331.out 1
     have hcz15_2 := cl_ (.string a0_2) BK331.out 2
     have hfz15_0 := blk_frozen BK331.out 0
     have hfz15_1 := blk_frozen BK331.out 1
     have hfz15_2 := blk_frozen BK331.out 2
     go_wp2_with (first | ((with_reducible refine gate_callee (f := 52) rfl ?_); refine goesL_ (some 19) rfl rfl Tryz.func52 k1_ rfl #[.string a0_1] rfl g1_ ?_; (with_reducible refine (rhizomeref02_IRI.calls kj1 a0_1 false _ A10.out).mono ?_); rintro e w16 ⟨rfl, hb⟩; refine ⟨_, rfl, ?_⟩; replace BK331 := Aside0.mk (blk_below (g := gb331) (o := .cells #[.int .i64 a0_0, .string a0_1, .string a0_2] 31 (0, 0)) (bd_ BK331.out) hb); replace HB := Aside0.mk (below_step z23_ hb); (try clear hb); (try clear hb2); (try clear hk); (try clear hi)))
     go_ret
     exact ⟨e2_, by have G0 := GE331; exact z4_⟩
   ·rw [if_neg c9] at H
    have c9b0 : (a0_0 == 1) = false := beq_eq_false_iff_ne.mpr c9
    have c9b1 : (a0_0 != 1) = true := bne_iff_ne.mpr c9
    by_cases c17 : a0_0 = 2
    ·rw [if_pos c17] at H
     have c17b0 : (a0_0 == 2) = true := beq_iff_eq.mpr c17
     have c17b1 : (a0_0 != 2) = false := bne_eq_false_iff_eq.mpr c17
     clear c17
     replace H := Option.bind_eq_some_iff.mp H
     obtain ⟨t334, A180, H⟩ := H
     replace H : (if t334 = true then (some (a0_2.toList == ([] : List UInt8))) else (some false)) = some r := H
     have A18 := Aside0.mk A180
     clear A180
     by_cases c19 : t334 = true
     ·subst c19
      have H1 : (some (a0_2.toList == ([] : List UInt8))) = some r := by rw [if_pos rfl] at H; exact H
      clear H
      have H := H1
      clear H1
      obtain rfl := Option.some.inj H
      have hcz20_0 := cl_ (.int .i64 a0_0) BK331.out 0
      have hcz20_1 := cl_ (.string a0_1) BK331.out 1
      have hcz20_2 := cl_ (.string a0_2) BK331.out 2
      have hfz20_0 := blk_frozen BK331.out 0
      have hfz20_1 := blk_frozen BK331.out 1
      have hfz20_2 := blk_frozen BK331.out 2
      go_wp2_with (first | ((with_reducible refine gate_callee (f := 53) rfl ?_); refine goesL_ (some 29) rfl rfl Tryz.func53 k1_ rfl #[.string a0_1, .int .i64 64] rfl g1_ ?_; (with_reducible refine (rhizomeref02_Word.calls kj1 a0_1 64 true _ A18.out).mono ?_); rintro e w' ⟨rfl, ⟨nd, rfl⟩⟩; refine ⟨_, rfl, ?_⟩))
      go_ret
      exact ⟨e2_, by have G0 := GE331; exact z4_⟩
     ·replace c19 := Bool.eq_false_iff.mpr c19
      subst c19
      have H1 : (some false) = some r := by rw [if_neg (show ¬ (false = true) by decide)] at H; exact H
      clear H
      have H := H1
      clear H1
      obtain rfl := Option.some.inj H
      have hcz21_0 := cl_ (.int .i64 a0_0) BK331.out 0
      have hcz21_1 := cl_ (.string a0_1) BK331.out 1
      have hcz21_2 := cl_ (.string a0_2) BK331.out 2
      have hfz21_0 := blk_frozen BK331.out 0
      have hfz21_1 := blk_frozen BK331.out 1
      have hfz21_2 := blk_frozen BK331.out 2
      go_wp2_with (first | ((with_reducible refine gate_callee (f := 53) rfl ?_); refine goesL_ (some 29) rfl rfl Tryz.func53 k1_ rfl #[.string a0_1, .int .i64 64] rfl g1_ ?_; (with_reducible refine (rhizomeref02_Word.calls kj1 a0_1 64 false _ A18.out).mono ?_); rintro e w' ⟨rfl, ⟨nd, rfl⟩⟩; refine ⟨_, rfl, ?_⟩))
      go_ret
      exact ⟨e2_, by have G0 := GE331; exact z4_⟩
    ·rw [if_neg c17] at H
     have c17b0 : (a0_0 == 2) = false := beq_eq_false_iff_ne.mpr c17
     have c17b1 : (a0_0 != 2) = true := bne_iff_ne.mpr c17
     by_cases c22 : a0_0 = 3
     ·rw [if_pos c22] at H
      have c22b0 : (a0_0 == 3) = true := beq_iff_eq.mpr c22
      have c22b1 : (a0_0 != 3) = false := bne_eq_false_iff_eq.mpr c22
      clear c22
      by_cases c23 : x3_1 = true
      ·subst c23
       have H1 : (some (a0_2.toList == ([] : List UInt8))) = some r := by rw [if_pos rfl] at H; exact H
       clear H
       have H := H1
       clear H1
       obtain rfl := Option.some.inj H
       have hcz24_0 := cl_ (.int .i64 a0_0) BK331.out 0
       have hcz24_1 := cl_ (.string a0_1) BK331.out 1
       have hcz24_2 := cl_ (.string a0_2) BK331.out 2
       have hfz24_0 := blk_frozen BK331.out 0
       have hfz24_1 := blk_frozen BK331.out 1
       have hfz24_2 := blk_frozen BK331.out 2
       go_wp2
       go_ret
       exact ⟨e2_, by have G0 := GE331; exact z4_⟩
      ·replace c23 := Bool.eq_false_iff.mpr c23
       subst c23
       have H1 : (some false) = some r := by rw [if_neg (show ¬ (false = true) by decide)] at H; exact H
       clear H
       have H := H1
       clear H1
       obtain rfl := Option.some.inj H
       have hcz25_0 := cl_ (.int .i64 a0_0) BK331.out 0
       have hcz25_1 := cl_ (.string a0_1) BK331.out 1
       have hcz25_2 := cl_ (.string a0_2) BK331.out 2
       have hfz25_0 := blk_frozen BK331.out 0
       have hfz25_1 := blk_frozen BK331.out 1
       have hfz25_2 := blk_frozen BK331.out 2
       go_wp2
       go_ret
       exact ⟨e2_, by have G0 := GE331; exact z4_⟩
     ·rw [if_neg c22] at H
      have c22b0 : (a0_0 == 3) = false := beq_eq_false_iff_ne.mpr c22
      have c22b1 : (a0_0 != 3) = true := bne_iff_ne.mpr c22
      by_cases c26 : a0_0 = 4
      ·rw [if_pos c26] at H
       have c26b0 : (a0_0 == 4) = true := beq_iff_eq.mpr c26
       have c26b1 : (a0_0 != 4) = false := bne_eq_false_iff_eq.mpr c26
       clear c26
       by_cases c27 : x3_1 = true
       ·subst c27
        have H1 : ((rhizomeref02_tag.f kj1 a0_2).bind fun t335 => (some t335)) = some r := by rw [if_pos rfl] at H; exact H
        clear H
        have H := H1
        clear H1
        replace H := Option.bind_eq_some_iff.mp H
        obtain ⟨t335, A280, H⟩ := H
        replace H : (some t335) = some r := H
        have A28 := Aside0.mk A280
        clear A280
        obtain rfl := Option.some.inj H
        have hcz29_0 := cl_ (.int .i64 a0_0) BK331.out 0
        have hcz29_1 := cl_ (.string a0_1) BK331.out 1
        have hcz29_2 := cl_ (.string a0_2) BK331.out 2
        have hfz29_0 := blk_frozen BK331.out 0
        have hfz29_1 := blk_frozen BK331.out 1
        have hfz29_2 := blk_frozen BK331.out 2
        go_wp2_with (first | (go_at_call 54; (with_reducible refine (rhizomeref02_tag.calls kj1 a0_2 t335 _ A28.out).mono ?_); rintro e w' ⟨rfl, ⟨nd, rfl⟩⟩))
        go_ret
        exact ⟨e2_, by have G0 := GE331; exact z4_⟩
       ·replace c27 := Bool.eq_false_iff.mpr c27
        subst c27
        have H1 : (some false) = some r := by rw [if_neg (show ¬ (false = true) by decide)] at H; exact H
        clear H
        have H := H1
        clear H1
        obtain rfl := Option.some.inj H
        have hcz30_0 := cl_ (.int .i64 a0_0) BK331.out 0
        have hcz30_1 := cl_ (.string a0_1) BK331.out 1
        have hcz30_2 := cl_ (.string a0_2) BK331.out 2
        have hfz30_0 := blk_frozen BK331.out 0
        have hfz30_1 := blk_frozen BK331.out 1
        have hfz30_2 := blk_frozen BK331.out 2
        go_wp2
        go_ret
        exact ⟨e2_, by have G0 := GE331; exact z4_⟩
      ·rw [if_neg c26] at H
       have c26b0 : (a0_0 == 4) = false := beq_eq_false_iff_ne.mpr c26
       have c26b1 : (a0_0 != 4) = true := bne_iff_ne.mpr c26
       by_cases c31 : a0_0 = 5
       ·rw [if_pos c31] at H
        have c31b0 : (a0_0 == 5) = true := beq_iff_eq.mpr c31
        have c31b1 : (a0_0 != 5) = false := bne_eq_false_iff_eq.mpr c31
        clear c31
        by_cases c32 : x3_1 = true
        ·subst c32
         have H1 : ((rhizomeref02_IRI.f kj1 a0_2).bind fun t336 => (if t336 = true then (some (a0_2.toList != ([104, 116, 116, 112, 58, 47, 47, 119, 119, 119, 46, 119, 51, 46, 111, 114, 103, 47, 50, 48, 48, 49, 47, 88, 77, 76, 83, 99, 104, 101, 109, 97, 35, 115, 116, 114, 105, 110, 103] : List UInt8))) else (some false))) = some r := by rw [if_pos rfl] at H; exact H
         clear H
         have H := H1
         clear H1
         replace H := Option.bind_eq_some_iff.mp H
         obtain ⟨t336, A330, H⟩ := H
         replace H : (if t336 = true then (some (a0_2.toList != ([104, 116, 116, 112, 58, 47, 47, 119, 119, 119, 46, 119, 51, 46, 111, 114, 103, 47, 50, 48, 48, 49, 47, 88, 77, 76, 83, 99, 104, 101, 109, 97, 35, 115, 116, 114, 105, 110, 103] : List UInt8))) else (some false)) = some r := H
         have A33 := Aside0.mk A330
         clear A330
         by_cases c34 : t336 = true
         ·subst c34
          have H1 : (some (a0_2.toList != ([104, 116, 116, 112, 58, 47, 47, 119, 119, 119, 46, 119, 51, 46, 111, 114, 103, 47, 50, 48, 48, 49, 47, 88, 77, 76, 83, 99, 104, 101, 109, 97, 35, 115, 116, 114, 105, 110, 103] : List UInt8))) = some r := by rw [if_pos rfl] at H; exact H
          clear H
          have H := H1
          clear H1
          obtain rfl := Option.some.inj H
          have hcz35_0 := cl_ (.int .i64 a0_0) BK331.out 0
          have hcz35_1 := cl_ (.string a0_1) BK331.out 1
          have hcz35_2 := cl_ (.string a0_2) BK331.out 2
          have hfz35_0 := blk_frozen BK331.out 0
          have hfz35_1 := blk_frozen BK331.out 1
          have hfz35_2 := blk_frozen BK331.out 2
          go_wp2_with (first | (go_at_call 52; (with_reducible refine (rhizomeref02_IRI.calls kj1 a0_2 true _ A33.out).mono ?_); rintro e w36 ⟨rfl, hb⟩; replace BK331 := Aside0.mk (blk_below (g := gb331) (o := .cells #[.int .i64 a0_0, .string a0_1, .string a0_2] 31 (0, 0)) (bd_ BK331.out) hb); replace HB := Aside0.mk (below_step z23_ hb); (try clear hb); (try clear hb2); (try clear hk); (try clear hi); have hcz37_0 := cl_ (.int .i64 a0_0) BK331.out 0; have hcz37_1 := cl_ (.string a0_1) BK331.out 1; have hcz37_2 := cl_ (.string a0_2) BK331.out 2; have hfz37_0 := blk_frozen BK331.out 0; have hfz37_1 := blk_frozen BK331.out 1; have hfz37_2 := blk_frozen BK331.out 2))
          go_ret
          exact ⟨e2_, by have G0 := GE331; exact z4_⟩
         ·replace c34 := Bool.eq_false_iff.mpr c34
          subst c34
          have H1 : (some false) = some r := by rw [if_neg (show ¬ (false = true) by decide)] at H; exact H
          clear H
          have H := H1
          clear H1
          obtain rfl := Option.some.inj H
          have hcz38_0 := cl_ (.int .i64 a0_0) BK331.out 0
          have hcz38_1 := cl_ (.string a0_1) BK331.out 1
          have hcz38_2 := cl_ (.string a0_2) BK331.out 2
          have hfz38_0 := blk_frozen BK331.out 0
          have hfz38_1 := blk_frozen BK331.out 1
          have hfz38_2 := blk_frozen BK331.out 2
          go_wp2_with (first | (go_at_call 52; (with_reducible refine (rhizomeref02_IRI.calls kj1 a0_2 false _ A33.out).mono ?_); rintro e w39 ⟨rfl, hb⟩; replace BK331 := Aside0.mk (blk_below (g := gb331) (o := .cells #[.int .i64 a0_0, .string a0_1, .string a0_2] 31 (0, 0)) (bd_ BK331.out) hb); replace HB := Aside0.mk (below_step z23_ hb); (try clear hb); (try clear hb2); (try clear hk); (try clear hi)))
          go_ret
          exact ⟨e2_, by have G0 := GE331; exact z4_⟩
        ·replace c32 := Bool.eq_false_iff.mpr c32
         subst c32
         have H1 : (some false) = some r := by rw [if_neg (show ¬ (false = true) by decide)] at H; exact H
         clear H
         have H := H1
         clear H1
         obtain rfl := Option.some.inj H
         have hcz40_0 := cl_ (.int .i64 a0_0) BK331.out 0
         have hcz40_1 := cl_ (.string a0_1) BK331.out 1
         have hcz40_2 := cl_ (.string a0_2) BK331.out 2
         have hfz40_0 := blk_frozen BK331.out 0
         have hfz40_1 := blk_frozen BK331.out 1
         have hfz40_2 := blk_frozen BK331.out 2
         go_wp2
         go_ret
         exact ⟨e2_, by have G0 := GE331; exact z4_⟩
       ·rw [if_neg c31] at H
        have c31b0 : (a0_0 == 5) = false := beq_eq_false_iff_ne.mpr c31
        have c31b1 : (a0_0 != 5) = true := bne_iff_ne.mpr c31
        obtain rfl := Option.some.inj H
        have hcz41_0 := cl_ (.int .i64 a0_0) BK331.out 0
        have hcz41_1 := cl_ (.string a0_1) BK331.out 1
        have hcz41_2 := cl_ (.string a0_2) BK331.out 2
        have hfz41_0 := blk_frozen BK331.out 0
        have hfz41_1 := blk_frozen BK331.out 1
        have hfz41_2 := blk_frozen BK331.out 2
        go_wp2
        go_ret
        exact ⟨e2_, by have G0 := GE331; exact z4_⟩
def rhizomeref02_MayFollow.f (k : Nat) (a0_0 : Int) (a0_1 : ByteArray) (a0_2 : ByteArray) (a0_3 : Int) (a0_4 : ByteArray) (a0_5 : ByteArray) (a0_6 : Int) (a0_7 : ByteArray) (a0_8 : ByteArray) : Option (Bool) := (rhizomeref02_May.f k a0_0 a0_1 a0_2).bind fun t338 => (if t338 = true then ((rhizomeref02_May.f k a0_3 a0_4 a0_5).bind fun t339 => (if t339 = true then ((rhizomeref02_May.f k a0_6 a0_7 a0_8).bind fun t340 => (some t340)) else (some false))) else (some false))
set_option maxHeartbeats 8000000 in
set_option maxRecDepth 100000 in
theorem rhizomeref02_MayFollow.calls (k : Nat) (a0_0 : Int) (a0_1 : ByteArray) (a0_2 : ByteArray) (a0_3 : Int) (a0_4 : ByteArray) (a0_5 : ByteArray) (a0_6 : Int) (a0_7 : ByteArray) (a0_8 : ByteArray) (r : Bool) (w : World) (h : rhizomeref02_MayFollow.f k a0_0 a0_1 a0_2 a0_3 a0_4 a0_5 a0_6 a0_7 a0_8 = some r) :
  Calls Tryz.prog 38 #[.agg #[.int .i64 a0_0, .string a0_1, .string a0_2, .int .i64 a0_3, .string a0_4, .string a0_5, .int .i64 a0_6, .string a0_7, .string a0_8]] w fun e w' => e = .returned (.bool r) ∧ Below w.heap.size w w' := by
 have hu33 := Tryz.underlying33
 have hu31 := Tryz.underlying31
 have HB := Aside0.mk (Below.refl w.heap.size w)
 have H : ((rhizomeref02_May.f k a0_0 a0_1 a0_2).bind fun t338 => (if t338 = true then ((rhizomeref02_May.f k a0_3 a0_4 a0_5).bind fun t339 => (if t339 = true then ((rhizomeref02_May.f k a0_6 a0_7 a0_8).bind fun t340 => (some t340)) else (some false))) else (some false))) = some r := h
 clear h
 replace H := Option.bind_eq_some_iff.mp H
 obtain ⟨t338, A20, H⟩ := H
 replace H : (if t338 = true then ((rhizomeref02_May.f k a0_3 a0_4 a0_5).bind fun t339 => (if t339 = true then ((rhizomeref02_May.f k a0_6 a0_7 a0_8).bind fun t340 => (some t340)) else (some false))) else (some false)) = some r := H
 have A2 := Aside0.mk A20
 clear A20
 by_cases c3 : t338 = true
 ·subst c3
  have H1 : ((rhizomeref02_May.f k a0_3 a0_4 a0_5).bind fun t339 => (if t339 = true then ((rhizomeref02_May.f k a0_6 a0_7 a0_8).bind fun t340 => (some t340)) else (some false))) = some r := by rw [if_pos rfl] at H; exact H
  clear H
  have H := H1
  clear H1
  replace H := Option.bind_eq_some_iff.mp H
  obtain ⟨t339, A40, H⟩ := H
  replace H : (if t339 = true then ((rhizomeref02_May.f k a0_6 a0_7 a0_8).bind fun t340 => (some t340)) else (some false)) = some r := H
  have A4 := Aside0.mk A40
  clear A40
  by_cases c5 : t339 = true
  ·subst c5
   have H1 : ((rhizomeref02_May.f k a0_6 a0_7 a0_8).bind fun t340 => (some t340)) = some r := by rw [if_pos rfl] at H; exact H
   clear H
   have H := H1
   clear H1
   replace H := Option.bind_eq_some_iff.mp H
   obtain ⟨t340, A60, H⟩ := H
   replace H : (some t340) = some r := H
   have A6 := Aside0.mk A60
   clear A60
   obtain rfl := Option.some.inj H
   go_enter Tryz.func38, Tryz.ntmps38
   go_wp2_with (first | ((with_reducible refine gate_dst (N := 1) rfl ?_); refine box_event r1_ (N := 1) r1_ (cs := #[.int .i64 a0_0, .string a0_1, .string a0_2, .int .i64 a0_3, .string a0_4, .string a0_5, .int .i64 a0_6, .string a0_7, .string a0_8]) (t := 33) r2_ ?_; intro gb337 hg w7 hbox hb; have BK337 := Aside0.mk (hbox); have GW337 := Aside0.mk (bs_ : w.heap.size ≤ gb337); have GE337 := Aside0.mk (bs_ : w.heap.size ≤ gb337); replace HB := Aside0.mk (below_step b1_ hb); clear hb hbox hg; have hcz8_0 := cl_ (.int .i64 a0_0) BK337.out 0; have hcz8_1 := cl_ (.string a0_1) BK337.out 1; have hcz8_2 := cl_ (.string a0_2) BK337.out 2; have hcz8_3 := cl_ (.int .i64 a0_3) BK337.out 3; have hcz8_4 := cl_ (.string a0_4) BK337.out 4; have hcz8_5 := cl_ (.string a0_5) BK337.out 5; have hcz8_6 := cl_ (.int .i64 a0_6) BK337.out 6; have hcz8_7 := cl_ (.string a0_7) BK337.out 7; have hcz8_8 := cl_ (.string a0_8) BK337.out 8; have hfz8_0 := blk_frozen BK337.out 0; have hfz8_1 := blk_frozen BK337.out 1; have hfz8_2 := blk_frozen BK337.out 2; have hfz8_3 := blk_frozen BK337.out 3; have hfz8_4 := blk_frozen BK337.out 4; have hfz8_5 := blk_frozen BK337.out 5; have hfz8_6 := blk_frozen BK337.out 6; have hfz8_7 := blk_frozen BK337.out 7; have hfz8_8 := blk_frozen BK337.out 8) | ((with_reducible refine gate_callee (f := 37) rfl ?_); refine goesL_ (some 5) rfl rfl Tryz.func37 k1_ rfl #[.agg #[.int .i64 a0_0, .string a0_1, .string a0_2]] rfl g1_ ?_; (with_reducible refine (rhizomeref02_May.calls k a0_0 a0_1 a0_2 true _ A2.out).mono ?_); rintro e w9 ⟨rfl, hb⟩; refine ⟨_, rfl, ?_⟩; replace BK337 := Aside0.mk (blk_below (g := gb337) (o := .cells #[.int .i64 a0_0, .string a0_1, .string a0_2, .int .i64 a0_3, .string a0_4, .string a0_5, .int .i64 a0_6, .string a0_7, .string a0_8] 33 (0, 0)) (bd_ BK337.out) hb); replace HB := Aside0.mk (below_step z19_ hb); (try clear hb); (try clear hb2); (try clear hk); (try clear hi); have hcz10_0 := cl_ (.int .i64 a0_0) BK337.out 0; have hcz10_1 := cl_ (.string a0_1) BK337.out 1; have hcz10_2 := cl_ (.string a0_2) BK337.out 2; have hcz10_3 := cl_ (.int .i64 a0_3) BK337.out 3; have hcz10_4 := cl_ (.string a0_4) BK337.out 4; have hcz10_5 := cl_ (.string a0_5) BK337.out 5; have hcz10_6 := cl_ (.int .i64 a0_6) BK337.out 6; have hcz10_7 := cl_ (.string a0_7) BK337.out 7; have hcz10_8 := cl_ (.string a0_8) BK337.out 8; have hfz10_0 := blk_frozen BK337.out 0; have hfz10_1 := blk_frozen BK337.out 1; have hfz10_2 := blk_frozen BK337.out 2; have hfz10_3 := blk_frozen BK337.out 3; have hfz10_4 := blk_frozen BK337.out 4; have hfz10_5 := blk_frozen BK337.out 5; have hfz10_6 := blk_frozen BK337.out 6; have hfz10_7 := blk_frozen BK337.out 7; have hfz10_8 := blk_frozen BK337.out 8) | (go_at_call 37; (with_reducible refine (rhizomeref02_May.calls k a0_3 a0_4 a0_5 true _ A4.out).mono ?_); rintro e w11 ⟨rfl, hb⟩; replace BK337 := Aside0.mk (blk_below (g := gb337) (o := .cells #[.int .i64 a0_0, .string a0_1, .string a0_2, .int .i64 a0_3, .string a0_4, .string a0_5, .int .i64 a0_6, .string a0_7, .string a0_8] 33 (0, 0)) (bd_ BK337.out) hb); replace HB := Aside0.mk (below_step z19_ hb); (try clear hb); (try clear hb2); (try clear hk); (try clear hi); have hcz12_0 := cl_ (.int .i64 a0_0) BK337.out 0; have hcz12_1 := cl_ (.string a0_1) BK337.out 1; have hcz12_2 := cl_ (.string a0_2) BK337.out 2; have hcz12_3 := cl_ (.int .i64 a0_3) BK337.out 3; have hcz12_4 := cl_ (.string a0_4) BK337.out 4; have hcz12_5 := cl_ (.string a0_5) BK337.out 5; have hcz12_6 := cl_ (.int .i64 a0_6) BK337.out 6; have hcz12_7 := cl_ (.string a0_7) BK337.out 7; have hcz12_8 := cl_ (.string a0_8) BK337.out 8; have hfz12_0 := blk_frozen BK337.out 0; have hfz12_1 := blk_frozen BK337.out 1; have hfz12_2 := blk_frozen BK337.out 2; have hfz12_3 := blk_frozen BK337.out 3; have hfz12_4 := blk_frozen BK337.out 4; have hfz12_5 := blk_frozen BK337.out 5; have hfz12_6 := blk_frozen BK337.out 6; have hfz12_7 := blk_frozen BK337.out 7; have hfz12_8 := blk_frozen BK337.out 8) | (go_at_call 37; (with_reducible refine (rhizomeref02_May.calls k a0_6 a0_7 a0_8 t340 _ A6.out).mono ?_); rintro e w13 ⟨rfl, hb⟩; replace BK337 := Aside0.mk (blk_below (g := gb337) (o := .cells #[.int .i64 a0_0, .string a0_1, .string a0_2, .int .i64 a0_3, .string a0_4, .string a0_5, .int .i64 a0_6, .string a0_7, .string a0_8] 33 (0, 0)) (bd_ BK337.out) hb); replace HB := Aside0.mk (below_step z19_ hb); (try clear hb); (try clear hb2); (try clear hk); (try clear hi)))
   go_ret
   exact ⟨e2_, by have G0 := GE337; exact z4_⟩
  ·replace c5 := Bool.eq_false_iff.mpr c5
   subst c5
   have H1 : (some false) = some r := by rw [if_neg (show ¬ (false = true) by decide)] at H; exact H
   clear H
   have H := H1
   clear H1
   obtain rfl := Option.some.inj H
   go_enter Tryz.func38, Tryz.ntmps38
   go_wp2_with (first | ((with_reducible refine gate_dst (N := 1) rfl ?_); refine box_event r1_ (N := 1) r1_ (cs := #[.int .i64 a0_0, .string a0_1, .string a0_2, .int .i64 a0_3, .string a0_4, .string a0_5, .int .i64 a0_6, .string a0_7, .string a0_8]) (t := 33) r2_ ?_; intro gb337 hg w14 hbox hb; have BK337 := Aside0.mk (hbox); have GW337 := Aside0.mk (bs_ : w.heap.size ≤ gb337); have GE337 := Aside0.mk (bs_ : w.heap.size ≤ gb337); replace HB := Aside0.mk (below_step b1_ hb); clear hb hbox hg; have hcz15_0 := cl_ (.int .i64 a0_0) BK337.out 0; have hcz15_1 := cl_ (.string a0_1) BK337.out 1; have hcz15_2 := cl_ (.string a0_2) BK337.out 2; have hcz15_3 := cl_ (.int .i64 a0_3) BK337.out 3; have hcz15_4 := cl_ (.string a0_4) BK337.out 4; have hcz15_5 := cl_ (.string a0_5) BK337.out 5; have hcz15_6 := cl_ (.int .i64 a0_6) BK337.out 6; have hcz15_7 := cl_ (.string a0_7) BK337.out 7; have hcz15_8 := cl_ (.string a0_8) BK337.out 8; have hfz15_0 := blk_frozen BK337.out 0; have hfz15_1 := blk_frozen BK337.out 1; have hfz15_2 := blk_frozen BK337.out 2; have hfz15_3 := blk_frozen BK337.out 3; have hfz15_4 := blk_frozen BK337.out 4; have hfz15_5 := blk_frozen BK337.out 5; have hfz15_6 := blk_frozen BK337.out 6; have hfz15_7 := blk_frozen BK337.out 7; have hfz15_8 := blk_frozen BK337.out 8) | ((with_reducible refine gate_callee (f := 37) rfl ?_); refine goesL_ (some 5) rfl rfl Tryz.func37 k1_ rfl #[.agg #[.int .i64 a0_0, .string a0_1, .string a0_2]] rfl g1_ ?_; (with_reducible refine (rhizomeref02_May.calls k a0_0 a0_1 a0_2 true _ A2.out).mono ?_); rintro e w16 ⟨rfl, hb⟩; refine ⟨_, rfl, ?_⟩; replace BK337 := Aside0.mk (blk_below (g := gb337) (o := .cells #[.int .i64 a0_0, .string a0_1, .string a0_2, .int .i64 a0_3, .string a0_4, .string a0_5, .int .i64 a0_6, .string a0_7, .string a0_8] 33 (0, 0)) (bd_ BK337.out) hb); replace HB := Aside0.mk (below_step z19_ hb); (try clear hb); (try clear hb2); (try clear hk); (try clear hi); have hcz17_0 := cl_ (.int .i64 a0_0) BK337.out 0; have hcz17_1 := cl_ (.string a0_1) BK337.out 1; have hcz17_2 := cl_ (.string a0_2) BK337.out 2; have hcz17_3 := cl_ (.int .i64 a0_3) BK337.out 3; have hcz17_4 := cl_ (.string a0_4) BK337.out 4; have hcz17_5 := cl_ (.string a0_5) BK337.out 5; have hcz17_6 := cl_ (.int .i64 a0_6) BK337.out 6; have hcz17_7 := cl_ (.string a0_7) BK337.out 7; have hcz17_8 := cl_ (.string a0_8) BK337.out 8; have hfz17_0 := blk_frozen BK337.out 0; have hfz17_1 := blk_frozen BK337.out 1; have hfz17_2 := blk_frozen BK337.out 2; have hfz17_3 := blk_frozen BK337.out 3; have hfz17_4 := blk_frozen BK337.out 4; have hfz17_5 := blk_frozen BK337.out 5; have hfz17_6 := blk_frozen BK337.out 6; have hfz17_7 := blk_frozen BK337.out 7; have hfz17_8 := blk_frozen BK337.out 8) | (go_at_call 37; (with_reducible refine (rhizomeref02_May.calls k a0_3 a0_4 a0_5 false _ A4.out).mono ?_); rintro e w18 ⟨rfl, hb⟩; replace BK337 := Aside0.mk (blk_below (g := gb337) (o := .cells #[.int .i64 a0_0, .string a0_1, .string a0_2, .int .i64 a0_3, .string a0_4, .string a0_5, .int .i64 a0_6, .string a0_7, .string a0_8] 33 (0, 0)) (bd_ BK337.out) hb); replace HB := Aside0.mk (below_step z19_ hb); (try clear hb); (try clear hb2); (try clear hk); (try clear hi)))
   go_ret
   exact ⟨e2_, by have G0 := GE337; exact z4_⟩
 ·replace c3 := Bool.eq_false_iff.mpr c3
  subst c3
  have H1 : (some false) = some r := by rw [if_neg (show ¬ (false = true) by decide)] at H; exact H
  clear H
  have H := H1
  clear H1
  obtain rfl := Option.some.inj H
  go_enter Tryz.func38, Tryz.ntmps38
  go_wp2_with (first | ((with_reducible refine gate_dst (N := 1) rfl ?_); refine box_event r1_ (N := 1) r1_ (cs := #[.int .i64 a0_0, .string a0_1, .string a0_2, .int .i64 a0_3, .string a0_4, .string a0_5, .int .i64 a0_6, .string a0_7, .string a0_8]) (t := 33) r2_ ?_; intro gb337 hg w19 hbox hb; have BK337 := Aside0.mk (hbox); have GW337 := Aside0.mk (bs_ : w.heap.size ≤ gb337); have GE337 := Aside0.mk (bs_ : w.heap.size ≤ gb337); replace HB := Aside0.mk (below_step b1_ hb); clear hb hbox hg; have hcz20_0 := cl_ (.int .i64 a0_0) BK337.out 0; have hcz20_1 := cl_ (.string a0_1) BK337.out 1; have hcz20_2 := cl_ (.string a0_2) BK337.out 2; have hcz20_3 := cl_ (.int .i64 a0_3) BK337.out 3; have hcz20_4 := cl_ (.string a0_4) BK337.out 4; have hcz20_5 := cl_ (.string a0_5) BK337.out 5; have hcz20_6 := cl_ (.int .i64 a0_6) BK337.out 6; have hcz20_7 := cl_ (.string a0_7) BK337.out 7; have hcz20_8 := cl_ (.string a0_8) BK337.out 8; have hfz20_0 := blk_frozen BK337.out 0; have hfz20_1 := blk_frozen BK337.out 1; have hfz20_2 := blk_frozen BK337.out 2; have hfz20_3 := blk_frozen BK337.out 3; have hfz20_4 := blk_frozen BK337.out 4; have hfz20_5 := blk_frozen BK337.out 5; have hfz20_6 := blk_frozen BK337.out 6; have hfz20_7 := blk_frozen BK337.out 7; have hfz20_8 := blk_frozen BK337.out 8) | ((with_reducible refine gate_callee (f := 37) rfl ?_); refine goesL_ (some 5) rfl rfl Tryz.func37 k1_ rfl #[.agg #[.int .i64 a0_0, .string a0_1, .string a0_2]] rfl g1_ ?_; (with_reducible refine (rhizomeref02_May.calls k a0_0 a0_1 a0_2 false _ A2.out).mono ?_); rintro e w21 ⟨rfl, hb⟩; refine ⟨_, rfl, ?_⟩; replace BK337 := Aside0.mk (blk_below (g := gb337) (o := .cells #[.int .i64 a0_0, .string a0_1, .string a0_2, .int .i64 a0_3, .string a0_4, .string a0_5, .int .i64 a0_6, .string a0_7, .string a0_8] 33 (0, 0)) (bd_ BK337.out) hb); replace HB := Aside0.mk (below_step z19_ hb); (try clear hb); (try clear hb2); (try clear hk); (try clear hi)))
  go_ret
  exact ⟨e2_, by have G0 := GE337; exact z4_⟩
def rhizomeref02_MayAdd.f (k : Nat) (a0_0 : Int) (a0_1 : ByteArray) (a0_2 : ByteArray) (a0_3 : Int) (a0_4 : ByteArray) (a0_5 : ByteArray) (a0_6 : Int) (a0_7 : ByteArray) (a0_8 : ByteArray) : Option (Bool) := (rhizomeref02_MayFollow.f k a0_0 a0_1 a0_2 a0_3 a0_4 a0_5 a0_6 a0_7 a0_8).bind fun t342 => (if t342 = true then (if a0_0 ≤ 2 then (some (a0_3 == 1)) else (some false)) else (some false))
set_option maxHeartbeats 8000000 in
set_option maxRecDepth 100000 in
theorem rhizomeref02_MayAdd.calls (k : Nat) (a0_0 : Int) (a0_1 : ByteArray) (a0_2 : ByteArray) (a0_3 : Int) (a0_4 : ByteArray) (a0_5 : ByteArray) (a0_6 : Int) (a0_7 : ByteArray) (a0_8 : ByteArray) (r : Bool) (w : World) (h : rhizomeref02_MayAdd.f k a0_0 a0_1 a0_2 a0_3 a0_4 a0_5 a0_6 a0_7 a0_8 = some r) :
  Calls Tryz.prog 22 #[.agg #[.int .i64 a0_0, .string a0_1, .string a0_2, .int .i64 a0_3, .string a0_4, .string a0_5, .int .i64 a0_6, .string a0_7, .string a0_8]] w fun e w' => e = .returned (.bool r) ∧ Below w.heap.size w w' := by
 have hu33 := Tryz.underlying33
 have HB := Aside0.mk (Below.refl w.heap.size w)
 have H : ((rhizomeref02_MayFollow.f k a0_0 a0_1 a0_2 a0_3 a0_4 a0_5 a0_6 a0_7 a0_8).bind fun t342 => (if t342 = true then (if a0_0 ≤ 2 then (some (a0_3 == 1)) else (some false)) else (some false))) = some r := h
 clear h
 replace H := Option.bind_eq_some_iff.mp H
 obtain ⟨t342, A20, H⟩ := H
 replace H : (if t342 = true then (if a0_0 ≤ 2 then (some (a0_3 == 1)) else (some false)) else (some false)) = some r := H
 have A2 := Aside0.mk A20
 clear A20
 by_cases c3 : t342 = true
 ·subst c3
  have H1 : (if a0_0 ≤ 2 then (some (a0_3 == 1)) else (some false)) = some r := by rw [if_pos rfl] at H; exact H
  clear H
  have H := H1
  clear H1
  by_cases c4 : a0_0 ≤ 2
  ·rw [if_pos c4] at H
   have c4b0 : decide (a0_0 ≤ 2) = true := decide_eq_true c4
   clear c4
   obtain rfl := Option.some.inj H
   go_enter Tryz.func22, Tryz.ntmps22
   go_wp2_with (first | ((with_reducible refine gate_dst (N := 1) rfl ?_); refine box_event r1_ (N := 1) r1_ (cs := #[.int .i64 a0_0, .string a0_1, .string a0_2, .int .i64 a0_3, .string a0_4, .string a0_5, .int .i64 a0_6, .string a0_7, .string a0_8]) (t := 33) r2_ ?_; intro gb341 hg w5 hbox hb; have BK341 := Aside0.mk (hbox); have GW341 := Aside0.mk (bs_ : w.heap.size ≤ gb341); have GE341 := Aside0.mk (bs_ : w.heap.size ≤ gb341); replace HB := Aside0.mk (below_step b1_ hb); clear hb hbox hg; have hcz6_0 := cl_ (.int .i64 a0_0) BK341.out 0; have hcz6_1 := cl_ (.string a0_1) BK341.out 1; have hcz6_2 := cl_ (.string a0_2) BK341.out 2; have hcz6_3 := cl_ (.int .i64 a0_3) BK341.out 3; have hcz6_4 := cl_ (.string a0_4) BK341.out 4; have hcz6_5 := cl_ (.string a0_5) BK341.out 5; have hcz6_6 := cl_ (.int .i64 a0_6) BK341.out 6; have hcz6_7 := cl_ (.string a0_7) BK341.out 7; have hcz6_8 := cl_ (.string a0_8) BK341.out 8; have hfz6_0 := blk_frozen BK341.out 0; have hfz6_1 := blk_frozen BK341.out 1; have hfz6_2 := blk_frozen BK341.out 2; have hfz6_3 := blk_frozen BK341.out 3; have hfz6_4 := blk_frozen BK341.out 4; have hfz6_5 := blk_frozen BK341.out 5; have hfz6_6 := blk_frozen BK341.out 6; have hfz6_7 := blk_frozen BK341.out 7; have hfz6_8 := blk_frozen BK341.out 8) | ((with_reducible refine gate_callee (f := 38) rfl ?_); refine goesL_ (some 4) rfl rfl Tryz.func38 k1_ rfl #[.agg #[.int .i64 a0_0, .string a0_1, .string a0_2, .int .i64 a0_3, .string a0_4, .string a0_5, .int .i64 a0_6, .string a0_7, .string a0_8]] rfl g1_ ?_; (with_reducible refine (rhizomeref02_MayFollow.calls k a0_0 a0_1 a0_2 a0_3 a0_4 a0_5 a0_6 a0_7 a0_8 true _ A2.out).mono ?_); rintro e w7 ⟨rfl, hb⟩; refine ⟨_, rfl, ?_⟩; replace BK341 := Aside0.mk (blk_below (g := gb341) (o := .cells #[.int .i64 a0_0, .string a0_1, .string a0_2, .int .i64 a0_3, .string a0_4, .string a0_5, .int .i64 a0_6, .string a0_7, .string a0_8] 33 (0, 0)) (bd_ BK341.out) hb); replace HB := Aside0.mk (below_step (by have GE := GE341; exact b2_) hb); (try clear hb); (try clear hb2); (try clear hk); (try clear hi); have hcz8_0 := cl_ (.int .i64 a0_0) BK341.out 0; have hcz8_1 := cl_ (.string a0_1) BK341.out 1; have hcz8_2 := cl_ (.string a0_2) BK341.out 2; have hcz8_3 := cl_ (.int .i64 a0_3) BK341.out 3; have hcz8_4 := cl_ (.string a0_4) BK341.out 4; have hcz8_5 := cl_ (.string a0_5) BK341.out 5; have hcz8_6 := cl_ (.int .i64 a0_6) BK341.out 6; have hcz8_7 := cl_ (.string a0_7) BK341.out 7; have hcz8_8 := cl_ (.string a0_8) BK341.out 8; have hfz8_0 := blk_frozen BK341.out 0; have hfz8_1 := blk_frozen BK341.out 1; have hfz8_2 := blk_frozen BK341.out 2; have hfz8_3 := blk_frozen BK341.out 3; have hfz8_4 := blk_frozen BK341.out 4; have hfz8_5 := blk_frozen BK341.out 5; have hfz8_6 := blk_frozen BK341.out 6; have hfz8_7 := blk_frozen BK341.out 7; have hfz8_8 := blk_frozen BK341.out 8))
   go_ret
   exact ⟨e2_, by have G0 := GE341; exact z4_⟩
  ·rw [if_neg c4] at H
   have c4b0 : decide (a0_0 ≤ 2) = false := decide_eq_false c4
   clear c4
   obtain rfl := Option.some.inj H
   go_enter Tryz.func22, Tryz.ntmps22
   go_wp2_with (first | ((with_reducible refine gate_dst (N := 1) rfl ?_); refine box_event r1_ (N := 1) r1_ (cs := #[.int .i64 a0_0, .string a0_1, .string a0_2, .int .i64 a0_3, .string a0_4, .string a0_5, .int .i64 a0_6, .string a0_7, .string a0_8]) (t := 33) r2_ ?_; intro gb341 hg w9 hbox hb; have BK341 := Aside0.mk (hbox); have GW341 := Aside0.mk (bs_ : w.heap.size ≤ gb341); have GE341 := Aside0.mk (bs_ : w.heap.size ≤ gb341); replace HB := Aside0.mk (below_step b1_ hb); clear hb hbox hg; have hcz10_0 := cl_ (.int .i64 a0_0) BK341.out 0; have hcz10_1 := cl_ (.string a0_1) BK341.out 1; have hcz10_2 := cl_ (.string a0_2) BK341.out 2; have hcz10_3 := cl_ (.int .i64 a0_3) BK341.out 3; have hcz10_4 := cl_ (.string a0_4) BK341.out 4; have hcz10_5 := cl_ (.string a0_5) BK341.out 5; have hcz10_6 := cl_ (.int .i64 a0_6) BK341.out 6; have hcz10_7 := cl_ (.string a0_7) BK341.out 7; have hcz10_8 := cl_ (.string a0_8) BK341.out 8; have hfz10_0 := blk_frozen BK341.out 0; have hfz10_1 := blk_frozen BK341.out 1; have hfz10_2 := blk_frozen BK341.out 2; have hfz10_3 := blk_frozen BK341.out 3; have hfz10_4 := blk_frozen BK341.out 4; have hfz10_5 := blk_frozen BK341.out 5; have hfz10_6 := blk_frozen BK341.out 6; have hfz10_7 := blk_frozen BK341.out 7; have hfz10_8 := blk_frozen BK341.out 8) | ((with_reducible refine gate_callee (f := 38) rfl ?_); refine goesL_ (some 4) rfl rfl Tryz.func38 k1_ rfl #[.agg #[.int .i64 a0_0, .string a0_1, .string a0_2, .int .i64 a0_3, .string a0_4, .string a0_5, .int .i64 a0_6, .string a0_7, .string a0_8]] rfl g1_ ?_; (with_reducible refine (rhizomeref02_MayFollow.calls k a0_0 a0_1 a0_2 a0_3 a0_4 a0_5 a0_6 a0_7 a0_8 true _ A2.out).mono ?_); rintro e w11 ⟨rfl, hb⟩; refine ⟨_, rfl, ?_⟩; replace BK341 := Aside0.mk (blk_below (g := gb341) (o := .cells #[.int .i64 a0_0, .string a0_1, .string a0_2, .int .i64 a0_3, .string a0_4, .string a0_5, .int .i64 a0_6, .string a0_7, .string a0_8] 33 (0, 0)) (bd_ BK341.out) hb); replace HB := Aside0.mk (below_step (by have GE := GE341; exact b2_) hb); (try clear hb); (try clear hb2); (try clear hk); (try clear hi); have hcz12_0 := cl_ (.int .i64 a0_0) BK341.out 0; have hcz12_1 := cl_ (.string a0_1) BK341.out 1; have hcz12_2 := cl_ (.string a0_2) BK341.out 2; have hcz12_3 := cl_ (.int .i64 a0_3) BK341.out 3; have hcz12_4 := cl_ (.string a0_4) BK341.out 4; have hcz12_5 := cl_ (.string a0_5) BK341.out 5; have hcz12_6 := cl_ (.int .i64 a0_6) BK341.out 6; have hcz12_7 := cl_ (.string a0_7) BK341.out 7; have hcz12_8 := cl_ (.string a0_8) BK341.out 8; have hfz12_0 := blk_frozen BK341.out 0; have hfz12_1 := blk_frozen BK341.out 1; have hfz12_2 := blk_frozen BK341.out 2; have hfz12_3 := blk_frozen BK341.out 3; have hfz12_4 := blk_frozen BK341.out 4; have hfz12_5 := blk_frozen BK341.out 5; have hfz12_6 := blk_frozen BK341.out 6; have hfz12_7 := blk_frozen BK341.out 7; have hfz12_8 := blk_frozen BK341.out 8))
   go_ret
   exact ⟨e2_, by have G0 := GE341; exact z4_⟩
 ·replace c3 := Bool.eq_false_iff.mpr c3
  subst c3
  have H1 : (some false) = some r := by rw [if_neg (show ¬ (false = true) by decide)] at H; exact H
  clear H
  have H := H1
  clear H1
  obtain rfl := Option.some.inj H
  go_enter Tryz.func22, Tryz.ntmps22
  go_wp2_with (first | ((with_reducible refine gate_dst (N := 1) rfl ?_); refine box_event r1_ (N := 1) r1_ (cs := #[.int .i64 a0_0, .string a0_1, .string a0_2, .int .i64 a0_3, .string a0_4, .string a0_5, .int .i64 a0_6, .string a0_7, .string a0_8]) (t := 33) r2_ ?_; intro gb341 hg w13 hbox hb; have BK341 := Aside0.mk (hbox); have GW341 := Aside0.mk (bs_ : w.heap.size ≤ gb341); have GE341 := Aside0.mk (bs_ : w.heap.size ≤ gb341); replace HB := Aside0.mk (below_step b1_ hb); clear hb hbox hg; have hcz14_0 := cl_ (.int .i64 a0_0) BK341.out 0; have hcz14_1 := cl_ (.string a0_1) BK341.out 1; have hcz14_2 := cl_ (.string a0_2) BK341.out 2; have hcz14_3 := cl_ (.int .i64 a0_3) BK341.out 3; have hcz14_4 := cl_ (.string a0_4) BK341.out 4; have hcz14_5 := cl_ (.string a0_5) BK341.out 5; have hcz14_6 := cl_ (.int .i64 a0_6) BK341.out 6; have hcz14_7 := cl_ (.string a0_7) BK341.out 7; have hcz14_8 := cl_ (.string a0_8) BK341.out 8; have hfz14_0 := blk_frozen BK341.out 0; have hfz14_1 := blk_frozen BK341.out 1; have hfz14_2 := blk_frozen BK341.out 2; have hfz14_3 := blk_frozen BK341.out 3; have hfz14_4 := blk_frozen BK341.out 4; have hfz14_5 := blk_frozen BK341.out 5; have hfz14_6 := blk_frozen BK341.out 6; have hfz14_7 := blk_frozen BK341.out 7; have hfz14_8 := blk_frozen BK341.out 8) | ((with_reducible refine gate_callee (f := 38) rfl ?_); refine goesL_ (some 4) rfl rfl Tryz.func38 k1_ rfl #[.agg #[.int .i64 a0_0, .string a0_1, .string a0_2, .int .i64 a0_3, .string a0_4, .string a0_5, .int .i64 a0_6, .string a0_7, .string a0_8]] rfl g1_ ?_; (with_reducible refine (rhizomeref02_MayFollow.calls k a0_0 a0_1 a0_2 a0_3 a0_4 a0_5 a0_6 a0_7 a0_8 false _ A2.out).mono ?_); rintro e w15 ⟨rfl, hb⟩; refine ⟨_, rfl, ?_⟩; replace BK341 := Aside0.mk (blk_below (g := gb341) (o := .cells #[.int .i64 a0_0, .string a0_1, .string a0_2, .int .i64 a0_3, .string a0_4, .string a0_5, .int .i64 a0_6, .string a0_7, .string a0_8] 33 (0, 0)) (bd_ BK341.out) hb); replace HB := Aside0.mk (below_step (by have GE := GE341; exact b2_) hb); (try clear hb); (try clear hb2); (try clear hk); (try clear hi)))
  go_ret
  exact ⟨e2_, by have G0 := GE341; exact z4_⟩
end Go.Proofs.YtjnhdamilbcmpaaGreatDoor.PWrit

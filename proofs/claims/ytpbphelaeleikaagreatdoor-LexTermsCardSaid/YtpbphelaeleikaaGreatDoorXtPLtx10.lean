import Derived.Test.YtpbphelaeleikaaGreatDoorXtPLtx0
import Derived.Test.YtpbphelaeleikaaGreatDoorXtPLtx8
import Derived.Test.YtpbphelaeleikaaGreatDoorXtPLtx9
namespace Go.Proofs.YtpbphelaeleikaaGreatDoor.PLt
open Go.RowKit Go.Proofs.YtpbphelaeleikaaGreatDoorW.PrintWords Go.Proofs.YtpbphelaeleikaaGreatDoorW.PrintLast Go.Proofs.YtpbphelaeleikaaGreatDoorW.PrintMore
attribute [local go_sem] max2_int min2_int max_two min_two max_three min_three max_four min_four
set_option linter.unusedVariables false
set_option linter.unusedSimpArgs false
set_option maxHeartbeats 8000000
set_option maxRecDepth 100000
def g2_May.j0 : Nat → Bool → Int → ByteArray → ByteArray → Option (Bool)
 | 0, _, _, _, _ => none
 | k + 1, x3, x244000, x244001, x244002 => if x244000 = 1 then ((g2_IRI.f k x244001).bind fun t245 => (if t245 = true then (some (x244002.toList == ([] : List UInt8))) else (some false))) else (if x244000 = 2 then ((g2_Word.f k x244001 64).bind fun t246 => (if t246 = true then (some (x244002.toList == ([] : List UInt8))) else (some false))) else (if x244000 = 3 then (if x3 = true then (some (x244002.toList == ([] : List UInt8))) else (some false)) else (if x244000 = 4 then (if x3 = true then ((g2_tag.f k x244002).bind fun t247 => (some t247)) else (some false)) else (if x244000 = 5 then (if x3 = true then ((g2_IRI.f k x244002).bind fun t248 => (if t248 = true then (some (x244002.toList != ([104, 116, 116, 112, 58, 47, 47, 119, 119, 119, 46, 119, 51, 46, 111, 114, 103, 47, 50, 48, 48, 49, 47, 88, 77, 76, 83, 99, 104, 101, 109, 97, 35, 115, 116, 114, 105, 110, 103] : List UInt8))) else (some false))) else (some false)) else (some false)))))
def g2_May.f (k : Nat) (a0_0 : Int) (a0_1 : ByteArray) (a0_2 : ByteArray) : Option (Bool) := if (a0_1.size : Int) ≤ 4000 then ((g1r_Valid.f k a0_1).bind fun t244 => (g2_May.j0 k t244 a0_0 a0_1 a0_2)) else (g2_May.j0 k false a0_0 a0_1 a0_2)
theorem g2_May.calls (k : Nat) (a0_0 : Int) (a0_1 : ByteArray) (a0_2 : ByteArray) (r : Bool) (w : World) (h : g2_May.f k a0_0 a0_1 a0_2 = some r) :
  Calls Tryz.prog 21 #[.agg #[.int .i64 a0_0, .string a0_1, .string a0_2]] w fun e w' => e = .returned (.bool r) ∧ Below w.heap.size w w' := by
 have hu31 := Tryz.underlying31
 have HB := Ad.mk (Below.refl w.heap.size w)
 have H := h
 clear h
 unfold g2_May.f at H
 have HC2 := Ad.mk H
 clear H
 go_enter Tryz.func21, Tryz.ntmps21
 go_upto_region 1 with (first | ((with_reducible refine gate_dst (N := 1) rfl ?_); refine box_event r1_ (N := 1) r1_ (cs := #[.int .i64 a0_0, .string a0_1, .string a0_2]) (t := 31) r2_ ?_; intro gb243 hg w3 hbox hb; have BK243 := Ad.mk (hbox); have GW243 := Ad.mk (bs_ : w.heap.size ≤ gb243); have GE243 := Ad.mk (bs_ : w.heap.size ≤ gb243); replace HB := Ad.mk (below_step b1_ hb); clear hb hbox hg))
 (try simp only [Act.put, List.setIfInBounds_toArray, List.set_cons_zero, List.set_cons_succ])
 go_cut [3] (fun v3 wc => ∃ (kq : Nat) (x3_1 : Bool), v3 = .bool x3_1 ∧ Ad (g2_May.j0 kq x3_1 a0_0 a0_1 a0_2 = some r) ∧ Ad (kq ≤ k) ∧ Ad (wc.heap[gb243]? = some (.cells #[.int .i64 a0_0, .string a0_1, .string a0_2] 31 (0, 0))) ∧ Ad (Below w.heap.size w wc))
 case first =>
  have H := HC2.out
  clear HC2
  by_cases c4 : (a0_1.size : Int) ≤ 4000
  ·rw [if_pos c4] at H
   have c4b0 := decide_eq_true c4
   have c4b1 : decide (a0_1.size ≤ 4000) = true := decide_eq_true (by omega)
   clear c4
   (first | rw [c4b0] | (simp only [i64_w, i32_w]; rw [c4b0]) | skip)
   obtain ⟨t244, A5, H⟩ := bi_ H
   have H' := Ad.mk H
   clear H
   obtain ⟨⟨hcz6_0, hcz6_1, hcz6_2⟩, hfz6_0, hfz6_1, hfz6_2⟩ := c3_ BK243.out
   go_wp2_with (first | (go_at_call 35; (with_reducible refine (g1r_Valid.calls k a0_1 t244 _ A5.out).mono ?_); rintro e w7 ⟨rfl, hb⟩; replace BK243 := Ad.mk (blk_below (g := gb243) (o := .cells #[.int .i64 a0_0, .string a0_1, .string a0_2] 31 (0, 0)) (bd_ BK243.out) hb); replace HB := Ad.mk (below_step z43_ hb); clear hb))
   go_meet
   case rel => exact ⟨_, (t244), e1_, H', ⟨z12_⟩, ⟨by refine bd_ ?_; exact BK243.out⟩, ⟨by have G0 := GE243; exact z7_⟩⟩
  rw [if_neg c4] at H
  have c4b0 := decide_eq_false c4
  have c4b1 : decide (a0_1.size ≤ 4000) = false := decide_eq_false (by omega)
  clear c4
  (first | rw [c4b0] | (simp only [i64_w, i32_w]; rw [c4b0]) | skip)
  have H' := Ad.mk H
  clear H
  obtain ⟨⟨hcz8_0, hcz8_1, hcz8_2⟩, hfz8_0, hfz8_1, hfz8_2⟩ := c3_ BK243.out
  go_wp2
  go_meet
  case rel => exact ⟨_, (false), e1_, H', ⟨z12_⟩, ⟨by refine bd_ ?_; exact BK243.out⟩, ⟨by have G0 := GE243; exact z7_⟩⟩
 case rest =>
  clear HC2
  obtain ⟨kq, x3_1, rfl, HA, HJ1, BK243, HB⟩ := hcut
  cases kq with
  | zero => exact absurd HA.out (by simp [g2_May.j0])
  | succ kj1 =>
   have H := HA.out
   clear HA
   simp only [g2_May.j0] at H
   by_cases c9 : a0_0 = 1
   ·rw [if_pos c9] at H
    have c9b0 := beq_iff_eq.mpr c9
    have c9b1 := bne_eq_false_iff_eq.mpr c9
    clear c9
    obtain ⟨t245, A10, H⟩ := bi_ H
    by_cases c11 : t245 = true
    ·subst c11
     rw [if_pos rfl] at H
     obtain rfl := Option.some.inj H
     obtain ⟨⟨hcz12_0, hcz12_1, hcz12_2⟩, hfz12_0, hfz12_1, hfz12_2⟩ := c3_ BK243.out
     go_wp2_with (first | ((with_reducible refine gate_callee (f := 36) rfl ?_); refine goesL_ (some 19) rfl rfl Tryz.func36 k1_ rfl #[.string a0_1] rfl g1_ ?_; (with_reducible refine (g2_IRI.calls kj1 a0_1 true _ A10.out).mono ?_); rintro e w13 ⟨rfl, hb⟩; refine ⟨_, rfl, ?_⟩; replace BK243 := Ad.mk (blk_below (g := gb243) (o := .cells #[.int .i64 a0_0, .string a0_1, .string a0_2] 31 (0, 0)) (bd_ BK243.out) hb); replace HB := Ad.mk (below_step z43_ hb); clear hb; obtain ⟨⟨hcz14_0, hcz14_1, hcz14_2⟩, hfz14_0, hfz14_1, hfz14_2⟩ := c3_ BK243.out))
     go_ret
     exact ⟨e2_, by have G0 := GE243; exact z7_⟩
    replace c11 := Bool.eq_false_iff.mpr c11
    subst c11
    rw [if_neg (show ¬ (false = true) by decide)] at H
    obtain rfl := Option.some.inj H
    obtain ⟨⟨hcz15_0, hcz15_1, hcz15_2⟩, hfz15_0, hfz15_1, hfz15_2⟩ := c3_ BK243.out
    go_wp2_with (first | ((with_reducible refine gate_callee (f := 36) rfl ?_); refine goesL_ (some 19) rfl rfl Tryz.func36 k1_ rfl #[.string a0_1] rfl g1_ ?_; (with_reducible refine (g2_IRI.calls kj1 a0_1 false _ A10.out).mono ?_); rintro e w16 ⟨rfl, hb⟩; refine ⟨_, rfl, ?_⟩; replace BK243 := Ad.mk (blk_below (g := gb243) (o := .cells #[.int .i64 a0_0, .string a0_1, .string a0_2] 31 (0, 0)) (bd_ BK243.out) hb); replace HB := Ad.mk (below_step z43_ hb); clear hb))
    go_ret
    exact ⟨e2_, by have G0 := GE243; exact z7_⟩
   rw [if_neg c9] at H
   have c9b0 := beq_eq_false_iff_ne.mpr c9
   have c9b1 := bne_iff_ne.mpr c9
   by_cases c17 : a0_0 = 2
   ·rw [if_pos c17] at H
    have c17b0 := beq_iff_eq.mpr c17
    have c17b1 := bne_eq_false_iff_eq.mpr c17
    clear c17
    obtain ⟨t246, A18, H⟩ := bi_ H
    by_cases c19 : t246 = true
    ·subst c19
     rw [if_pos rfl] at H
     obtain rfl := Option.some.inj H
     obtain ⟨⟨hcz20_0, hcz20_1, hcz20_2⟩, hfz20_0, hfz20_1, hfz20_2⟩ := c3_ BK243.out
     go_wp2_with (first | ((with_reducible refine gate_callee (f := 37) rfl ?_); refine goesL_ (some 29) rfl rfl Tryz.func37 k1_ rfl #[.string a0_1, .int .i64 64] rfl g1_ ?_; (with_reducible refine (g2_Word.calls kj1 a0_1 64 true _ A18.out).mono ?_); rintro e w' ⟨rfl, ⟨nd, rfl⟩⟩; refine ⟨_, rfl, ?_⟩))
     go_ret
     exact ⟨e2_, by have G0 := GE243; exact z7_⟩
    replace c19 := Bool.eq_false_iff.mpr c19
    subst c19
    rw [if_neg (show ¬ (false = true) by decide)] at H
    obtain rfl := Option.some.inj H
    obtain ⟨⟨hcz21_0, hcz21_1, hcz21_2⟩, hfz21_0, hfz21_1, hfz21_2⟩ := c3_ BK243.out
    go_wp2_with (first | ((with_reducible refine gate_callee (f := 37) rfl ?_); refine goesL_ (some 29) rfl rfl Tryz.func37 k1_ rfl #[.string a0_1, .int .i64 64] rfl g1_ ?_; (with_reducible refine (g2_Word.calls kj1 a0_1 64 false _ A18.out).mono ?_); rintro e w' ⟨rfl, ⟨nd, rfl⟩⟩; refine ⟨_, rfl, ?_⟩))
    go_ret
    exact ⟨e2_, by have G0 := GE243; exact z7_⟩
   rw [if_neg c17] at H
   have c17b0 := beq_eq_false_iff_ne.mpr c17
   have c17b1 := bne_iff_ne.mpr c17
   by_cases c22 : a0_0 = 3
   ·rw [if_pos c22] at H
    have c22b0 := beq_iff_eq.mpr c22
    have c22b1 := bne_eq_false_iff_eq.mpr c22
    clear c22
    by_cases c23 : x3_1 = true
    ·subst c23
     rw [if_pos rfl] at H
     obtain rfl := Option.some.inj H
     obtain ⟨⟨hcz24_0, hcz24_1, hcz24_2⟩, hfz24_0, hfz24_1, hfz24_2⟩ := c3_ BK243.out
     go_wp2
     go_ret
     exact ⟨e2_, by have G0 := GE243; exact z7_⟩
    replace c23 := Bool.eq_false_iff.mpr c23
    subst c23
    rw [if_neg (show ¬ (false = true) by decide)] at H
    obtain rfl := Option.some.inj H
    obtain ⟨⟨hcz25_0, hcz25_1, hcz25_2⟩, hfz25_0, hfz25_1, hfz25_2⟩ := c3_ BK243.out
    go_wp2
    go_ret
    exact ⟨e2_, by have G0 := GE243; exact z7_⟩
   rw [if_neg c22] at H
   have c22b0 := beq_eq_false_iff_ne.mpr c22
   have c22b1 := bne_iff_ne.mpr c22
   by_cases c26 : a0_0 = 4
   ·rw [if_pos c26] at H
    have c26b0 := beq_iff_eq.mpr c26
    have c26b1 := bne_eq_false_iff_eq.mpr c26
    clear c26
    by_cases c27 : x3_1 = true
    ·subst c27
     rw [if_pos rfl] at H
     obtain ⟨t247, A28, H⟩ := bi_ H
     obtain rfl := Option.some.inj H
     obtain ⟨⟨hcz29_0, hcz29_1, hcz29_2⟩, hfz29_0, hfz29_1, hfz29_2⟩ := c3_ BK243.out
     go_wp2_with (first | (go_at_call 38; (with_reducible refine (g2_tag.calls kj1 a0_2 t247 _ A28.out).mono ?_); rintro e w' ⟨rfl, ⟨nd, rfl⟩⟩))
     go_ret
     exact ⟨e2_, by have G0 := GE243; exact z7_⟩
    replace c27 := Bool.eq_false_iff.mpr c27
    subst c27
    rw [if_neg (show ¬ (false = true) by decide)] at H
    obtain rfl := Option.some.inj H
    obtain ⟨⟨hcz30_0, hcz30_1, hcz30_2⟩, hfz30_0, hfz30_1, hfz30_2⟩ := c3_ BK243.out
    go_wp2
    go_ret
    exact ⟨e2_, by have G0 := GE243; exact z7_⟩
   rw [if_neg c26] at H
   have c26b0 := beq_eq_false_iff_ne.mpr c26
   have c26b1 := bne_iff_ne.mpr c26
   by_cases c31 : a0_0 = 5
   ·rw [if_pos c31] at H
    have c31b0 := beq_iff_eq.mpr c31
    have c31b1 := bne_eq_false_iff_eq.mpr c31
    clear c31
    by_cases c32 : x3_1 = true
    ·subst c32
     rw [if_pos rfl] at H
     obtain ⟨t248, A33, H⟩ := bi_ H
     by_cases c34 : t248 = true
     ·subst c34
      rw [if_pos rfl] at H
      obtain rfl := Option.some.inj H
      obtain ⟨⟨hcz35_0, hcz35_1, hcz35_2⟩, hfz35_0, hfz35_1, hfz35_2⟩ := c3_ BK243.out
      go_wp2_with (first | (go_at_call 36; (with_reducible refine (g2_IRI.calls kj1 a0_2 true _ A33.out).mono ?_); rintro e w36 ⟨rfl, hb⟩; replace BK243 := Ad.mk (blk_below (g := gb243) (o := .cells #[.int .i64 a0_0, .string a0_1, .string a0_2] 31 (0, 0)) (bd_ BK243.out) hb); replace HB := Ad.mk (below_step z43_ hb); clear hb; obtain ⟨⟨hcz37_0, hcz37_1, hcz37_2⟩, hfz37_0, hfz37_1, hfz37_2⟩ := c3_ BK243.out))
      go_ret
      exact ⟨e2_, by have G0 := GE243; exact z7_⟩
     replace c34 := Bool.eq_false_iff.mpr c34
     subst c34
     rw [if_neg (show ¬ (false = true) by decide)] at H
     obtain rfl := Option.some.inj H
     obtain ⟨⟨hcz38_0, hcz38_1, hcz38_2⟩, hfz38_0, hfz38_1, hfz38_2⟩ := c3_ BK243.out
     go_wp2_with (first | (go_at_call 36; (with_reducible refine (g2_IRI.calls kj1 a0_2 false _ A33.out).mono ?_); rintro e w39 ⟨rfl, hb⟩; replace BK243 := Ad.mk (blk_below (g := gb243) (o := .cells #[.int .i64 a0_0, .string a0_1, .string a0_2] 31 (0, 0)) (bd_ BK243.out) hb); replace HB := Ad.mk (below_step z43_ hb); clear hb))
     go_ret
     exact ⟨e2_, by have G0 := GE243; exact z7_⟩
    replace c32 := Bool.eq_false_iff.mpr c32
    subst c32
    rw [if_neg (show ¬ (false = true) by decide)] at H
    obtain rfl := Option.some.inj H
    obtain ⟨⟨hcz40_0, hcz40_1, hcz40_2⟩, hfz40_0, hfz40_1, hfz40_2⟩ := c3_ BK243.out
    go_wp2
    go_ret
    exact ⟨e2_, by have G0 := GE243; exact z7_⟩
   rw [if_neg c31] at H
   have c31b0 := beq_eq_false_iff_ne.mpr c31
   have c31b1 := bne_iff_ne.mpr c31
   obtain rfl := Option.some.inj H
   obtain ⟨⟨hcz41_0, hcz41_1, hcz41_2⟩, hfz41_0, hfz41_1, hfz41_2⟩ := c3_ BK243.out
   go_wp2
   go_ret
   exact ⟨e2_, by have G0 := GE243; exact z7_⟩
def g4_marks.f  : Option (List ByteArray) := some (([(⟨#[94, 94]⟩ : ByteArray), (⟨#[58, 45]⟩ : ByteArray), (⟨#[33, 61]⟩ : ByteArray), (⟨#[61]⟩ : ByteArray), (⟨#[46]⟩ : ByteArray), (⟨#[44]⟩ : ByteArray), (⟨#[40]⟩ : ByteArray), (⟨#[41]⟩ : ByteArray), (⟨#[123]⟩ : ByteArray), (⟨#[125]⟩ : ByteArray)] : List ByteArray))
theorem g4_marks.calls  (r : List ByteArray) (w : World) (h : g4_marks.f  = some r) :
  Calls Tryz.prog 24 #[] w fun e w' => ∃ v0_ : Value, e = .returned (v0_) ∧ Kd.R Kd.string 9 w' w.heap.size (fun _ => True) v0_ r ∧ Below w.heap.size w w' := by
 have HB := Ad.mk (Below.refl w.heap.size w)
 have H := h
 clear h
 unfold g4_marks.f at H
 generalize hy249 : (([(⟨#[94, 94]⟩ : ByteArray), (⟨#[58, 45]⟩ : ByteArray), (⟨#[33, 61]⟩ : ByteArray), (⟨#[61]⟩ : ByteArray), (⟨#[46]⟩ : ByteArray), (⟨#[44]⟩ : ByteArray), (⟨#[40]⟩ : ByteArray), (⟨#[41]⟩ : ByteArray), (⟨#[123]⟩ : ByteArray), (⟨#[125]⟩ : ByteArray)] : List ByteArray)) = y249 at H
 replace hy249 := hy249.symm
 have Ny249 := Ad.mk hy249
 clear hy249
 obtain rfl := Option.some.inj H
 go_enter Tryz.func24, Tryz.ntmps24
 go_wp2_with (first | ((with_reducible refine gate_dst (N := 1) rfl ?_); refine Kd.R_lit Kd.string _ 9 r1_ (N := 1) r1_ (xs := ([(⟨#[94, 94]⟩ : ByteArray), (⟨#[58, 45]⟩ : ByteArray), (⟨#[33, 61]⟩ : ByteArray), (⟨#[61]⟩ : ByteArray), (⟨#[46]⟩ : ByteArray), (⟨#[44]⟩ : ByteArray), (⟨#[40]⟩ : ByteArray), (⟨#[41]⟩ : ByteArray), (⟨#[123]⟩ : ByteArray), (⟨#[125]⟩ : ByteArray)] : List ByteArray)) (inner := [.string ⟨#[94, 94]⟩, .string ⟨#[58, 45]⟩, .string ⟨#[33, 61]⟩, .string ⟨#[61]⟩, .string ⟨#[46]⟩, .string ⟨#[44]⟩, .string ⟨#[40]⟩, .string ⟨#[41]⟩, .string ⟨#[123]⟩, .string ⟨#[125]⟩]) (ok := fun _ => True) (okp := fun _ => True) r2_ ?hp (fun _ hk => hk) trivial (Below.refl _ _) (Nat.le_refl _) (by simp) ?_; (case hp => exact (Reps.one (show Kd.M Kd.string _ _ _ (⟨#[94, 94]⟩ : ByteArray) [.string ⟨#[94, 94]⟩] from rfl) (Reps.one (show Kd.M Kd.string _ _ _ (⟨#[58, 45]⟩ : ByteArray) [.string ⟨#[58, 45]⟩] from rfl) (Reps.one (show Kd.M Kd.string _ _ _ (⟨#[33, 61]⟩ : ByteArray) [.string ⟨#[33, 61]⟩] from rfl) (Reps.one (show Kd.M Kd.string _ _ _ (⟨#[61]⟩ : ByteArray) [.string ⟨#[61]⟩] from rfl) (Reps.one (show Kd.M Kd.string _ _ _ (⟨#[46]⟩ : ByteArray) [.string ⟨#[46]⟩] from rfl) (Reps.one (show Kd.M Kd.string _ _ _ (⟨#[44]⟩ : ByteArray) [.string ⟨#[44]⟩] from rfl) (Reps.one (show Kd.M Kd.string _ _ _ (⟨#[40]⟩ : ByteArray) [.string ⟨#[40]⟩] from rfl) (Reps.one (show Kd.M Kd.string _ _ _ (⟨#[41]⟩ : ByteArray) [.string ⟨#[41]⟩] from rfl) (Reps.one (show Kd.M Kd.string _ _ _ (⟨#[123]⟩ : ByteArray) [.string ⟨#[123]⟩] from rfl) (Reps.one (show Kd.M Kd.string _ _ _ (⟨#[125]⟩ : ByteArray) [.string ⟨#[125]⟩] from rfl) (Reps.none _ _)))))))))))); intro v250 w1 ho2 hb hg_ hnew_; clear hg_ hnew_; (first | rw [← Ny249.out] at ho2 | (simp only [Int.reduceToNat] at ho2; rw [← Ny249.out] at ho2)); have HO251 := Ad.mk (Kd.R_lower ho2 (below_size b1_)); replace HB := Ad.mk (below_step b1_ hb); clear hb ho2))
 go_ret
 exact ⟨_, e2_, by have G0 := HO251; exact z3_, b1_⟩
def g4_ch.f (a0 : ByteArray) (a1 : Int) : Option (Int) := if a1 < (a0.size : Int) then (if 0 ≤ a1 then (some (bt a0 a1)) else (none)) else (some 0)
theorem g4_ch.calls (a0 : ByteArray) (a1 : Int) (r : Int) (w : World) (h : g4_ch.f a0 a1 = some r) :
  Calls Tryz.prog 27 #[.string a0, .int .i64 a1] w fun e w' => e = .returned (.int .u8 r) ∧ Drawn0 w w' := by
 have H := h
 clear h
 unfold g4_ch.f at H
 by_cases c3 : a1 < (a0.size : Int)
 ·rw [if_pos c3] at H
  have c3b0 := decide_eq_true c3
  clear c3
  by_cases c4 : 0 ≤ a1
  ·rw [if_pos c4] at H
   have c4b0 := decide_eq_true c4
   clear c4
   obtain rfl := Option.some.inj H
   have p5 : 0 ≤ (a1 : Int) := of_decide_eq_true a1_
   have q5 : a1 < (a0.size : Int) := of_decide_eq_true a1_
   have hx5 := bt_at a0 a1
   replace p5 := eq_true p5
   replace q5 := eq_true q5
   go_enter Tryz.func27, Tryz.ntmps27
   go_wp2
   go_ret
   exact ⟨e1_, z1_⟩
  rw [if_neg c4] at H
  exact absurd H (by simp)
 rw [if_neg c3] at H
 have c3b0 := decide_eq_false c3
 clear c3
 obtain rfl := Option.some.inj H
 go_enter Tryz.func27, Tryz.ntmps27
 go_wp2
 go_ret
 exact ⟨e1_, z1_⟩
mutual
def g4_hex.j0 : Nat → Int → Bool → Option (Int)
 | 0, _, _ => none
 | k + 1, x0, x8 => if x8 = true then (some (wrap64 ((wrap64 (x0)) - 48))) else (if x0 ≥ 65 then (g4_hex.j1 k x0 (decide (x0 ≤ 70))) else (g4_hex.j1 k x0 false))
def g4_hex.j1 : Nat → Int → Bool → Option (Int)
 | 0, _, _ => none
 | k + 1, x0, x17 => if x17 = true then (some (wrap64 ((wrap64 (x0)) - 55))) else (if x0 ≥ 97 then (if x0 ≤ 102 then (some (wrap64 ((wrap64 (x0)) - 87))) else (some (-1))) else (some (-1)))
end
def g4_hex.f (k : Nat) (a0 : Int) : Option (Int) := if a0 ≥ 48 then (g4_hex.j0 k a0 (decide (a0 ≤ 57))) else (g4_hex.j0 k a0 false)
theorem g4_hex.calls (k : Nat) (a0 : Int) (r : Int) (w : World) (h : g4_hex.f k a0 = some r) :
  Calls Tryz.prog 63 #[.int .u8 a0] w fun e w' => e = .returned (.int .i64 r) ∧ Drawn0 w w' := by
 have H := h
 clear h
 unfold g4_hex.f at H
 have HC2 := Ad.mk H
 clear H
 go_enter Tryz.func63, Tryz.ntmps63
 go_upto_region 1 with (fail)
 go_cut [8] (fun v8 wc => ∃ (kq : Nat) (x8_1 : Bool), v8 = .bool x8_1 ∧ Ad (g4_hex.j0 kq a0 x8_1 = some r) ∧ Ad (kq ≤ k) ∧ Drawn0 w wc)
 case first =>
  have H := HC2.out
  clear HC2
  by_cases c3 : a0 ≥ 48
  ·rw [if_pos c3] at H
   have c3b0 : decide (48 ≤ a0) = true := decide_eq_true c3
   clear c3
   (first | rw [c3b0] | (simp only [i64_w, i32_w]; rw [c3b0]) | skip)
   have H' := Ad.mk H
   clear H
   go_wp2
   go_meet
   case rel => exact ⟨_, (decide (a0 ≤ 57)), e1_, H', ⟨z12_⟩, z1_⟩
  rw [if_neg c3] at H
  have c3b0 : decide (48 ≤ a0) = false := decide_eq_false c3
  clear c3
  (first | rw [c3b0] | (simp only [i64_w, i32_w]; rw [c3b0]) | skip)
  have H' := Ad.mk H
  clear H
  go_wp2
  go_meet
  case rel => exact ⟨_, (false), e1_, H', ⟨z12_⟩, z1_⟩
 case rest =>
  clear HC2
  obtain ⟨kq, x8_1, rfl, HA, HJ1, ⟨mc1, rfl⟩⟩ := hcut
  cases kq with
  | zero => exact absurd HA.out (by simp [g4_hex.j0])
  | succ kj1 =>
   have H := HA.out
   clear HA
   simp only [g4_hex.j0] at H
   by_cases c4 : x8_1 = true
   ·subst c4
    rw [if_pos rfl] at H
    obtain rfl := Option.some.inj H
    go_wp2
    go_ret
    exact ⟨e1_, z1_⟩
   replace c4 := Bool.eq_false_iff.mpr c4
   subst c4
   rw [if_neg (show ¬ (false = true) by decide)] at H
   have HC5 := Ad.mk H
   clear H
   go_upto_region 3 with (fail)
   go_cut [17] (fun v17 wc => ∃ (kq : Nat) (x17_4 : Bool), v17 = .bool x17_4 ∧ Ad (g4_hex.j1 kq a0 x17_4 = some r) ∧ Ad (kq ≤ kj1) ∧ Drawn0 w wc)
   case first =>
    have H := HC5.out
    clear HC5
    by_cases c6 : a0 ≥ 65
    ·rw [if_pos c6] at H
     have c6b0 : decide (65 ≤ a0) = true := decide_eq_true c6
     clear c6
     (first | rw [c6b0] | (simp only [i64_w, i32_w]; rw [c6b0]) | skip)
     have H' := Ad.mk H
     clear H
     go_wp2
     go_meet
     case rel => exact ⟨_, (decide (a0 ≤ 70)), e1_, H', ⟨by have := HJ1.out; first | omega | exact Nat.le_refl _⟩, z1_⟩
    rw [if_neg c6] at H
    have c6b0 : decide (65 ≤ a0) = false := decide_eq_false c6
    clear c6
    (first | rw [c6b0] | (simp only [i64_w, i32_w]; rw [c6b0]) | skip)
    have H' := Ad.mk H
    clear H
    go_wp2
    go_meet
    case rel => exact ⟨_, (false), e1_, H', ⟨by have := HJ1.out; first | omega | exact Nat.le_refl _⟩, z1_⟩
   case rest =>
    clear HC5
    try clear c3
    try clear c3b0
    try clear c4
    obtain ⟨kq, x17_4, rfl, HA, HJ4, ⟨mc4, rfl⟩⟩ := hcut
    cases kq with
    | zero => exact absurd HA.out (by simp [g4_hex.j1])
    | succ kj4 =>
     have H := HA.out
     clear HA
     simp only [g4_hex.j1] at H
     by_cases c7 : x17_4 = true
     ·subst c7
      rw [if_pos rfl] at H
      obtain rfl := Option.some.inj H
      go_wp2
      go_ret
      exact ⟨e1_, z1_⟩
     replace c7 := Bool.eq_false_iff.mpr c7
     subst c7
     rw [if_neg (show ¬ (false = true) by decide)] at H
     by_cases c8 : a0 ≥ 97
     ·rw [if_pos c8] at H
      have c8b0 : decide (97 ≤ a0) = true := decide_eq_true c8
      clear c8
      by_cases c9 : a0 ≤ 102
      ·rw [if_pos c9] at H
       have c9b0 := decide_eq_true c9
       clear c9
       obtain rfl := Option.some.inj H
       go_wp2
       go_ret
       exact ⟨e1_, z1_⟩
      rw [if_neg c9] at H
      have c9b0 := decide_eq_false c9
      clear c9
      obtain rfl := Option.some.inj H
      go_wp2
      go_ret
      exact ⟨e1_, z1_⟩
     rw [if_neg c8] at H
     have c8b0 : decide (97 ≤ a0) = false := decide_eq_false c8
     clear c8
     obtain rfl := Option.some.inj H
     go_wp2
     go_ret
     exact ⟨e1_, z1_⟩
end Go.Proofs.YtpbphelaeleikaaGreatDoor.PLt

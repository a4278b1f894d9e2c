import Derived.Test.YtpbphelaeleikaaDoorMePMeanx0
import Derived.Test.YtpbphelaeleikaaDoorMePMeanx15
import Derived.Test.YtpbphelaeleikaaDoorMePMeanx16
namespace Go.Proofs.YtpbphelaeleikaaDoor.PMean
open Go.RowKit Go.Proofs.YtpbphelaeleikaaDoorW.PrintWords Go.Proofs.YtpbphelaeleikaaDoorW.PrintLast Go.Proofs.YtpbphelaeleikaaDoorW.PrintMore
attribute [local go_sem] max2_int min2_int max_two min_two max_three min_three max_four min_four
set_option linter.unusedVariables false
set_option linter.unusedSimpArgs false
set_option maxHeartbeats 8000000
set_option maxRecDepth 100000
def rhizomeref02_May.j0 : Nat → Bool → Int → ByteArray → ByteArray → Option (Bool)
 | 0, _, _, _, _ => none
 | k + 1, x3, x342000, x342001, x342002 => if x342000 = 1 then ((rhizomeref02_IRI.f k x342001).bind fun t343 => (if t343 = true then (some (x342002.toList == ([] : List UInt8))) else (some false))) else (if x342000 = 2 then ((rhizomeref02_Word.f k x342001 64).bind fun t344 => (if t344 = true then (some (x342002.toList == ([] : List UInt8))) else (some false))) else (if x342000 = 3 then (if x3 = true then (some (x342002.toList == ([] : List UInt8))) else (some false)) else (if x342000 = 4 then (if x3 = true then ((rhizomeref02_tag.f k x342002).bind fun t345 => (some t345)) else (some false)) else (if x342000 = 5 then (if x3 = true then ((rhizomeref02_IRI.f k x342002).bind fun t346 => (if t346 = true then (some (x342002.toList != ([104, 116, 116, 112, 58, 47, 47, 119, 119, 119, 46, 119, 51, 46, 111, 114, 103, 47, 50, 48, 48, 49, 47, 88, 77, 76, 83, 99, 104, 101, 109, 97, 35, 115, 116, 114, 105, 110, 103] : List UInt8))) else (some false))) else (some false)) else (some false)))))
def rhizomeref02_May.f (k : Nat) (a0_0 : Int) (a0_1 : ByteArray) (a0_2 : ByteArray) : Option (Bool) := if (a0_1.size : Int) ≤ 4000 then ((rhizomeref01_Valid.f k a0_1).bind fun t342 => (rhizomeref02_May.j0 k t342 a0_0 a0_1 a0_2)) else (rhizomeref02_May.j0 k false a0_0 a0_1 a0_2)
theorem rhizomeref02_May.calls (k : Nat) (a0_0 : Int) (a0_1 : ByteArray) (a0_2 : ByteArray) (r : Bool) (w : World) (h : rhizomeref02_May.f k a0_0 a0_1 a0_2 = some r) :
  Calls Tryd.prog 9 #[.agg #[.int .i64 a0_0, .string a0_1, .string a0_2]] w fun e w' => e = .returned (.bool r) ∧ Below w.heap.size w w' := by
 have hu31 := Tryd.underlying31
 have HB := Aside0.mk (Below.refl w.heap.size w)
 have H := h
 clear h
 unfold rhizomeref02_May.f at H
 have HC2 := Aside0.mk H
 clear H
 go_enter Tryd.func9, Tryd.ntmps9
 go_upto_region 1 with (first | ((with_reducible refine gate_dst (N := 1) rfl ?_); refine box_event r1_ (N := 1) r1_ (cs := #[.int .i64 a0_0, .string a0_1, .string a0_2]) (t := 31) r2_ ?_; intro gb341 hg w3 hbox hb; have BK341 := Aside0.mk (hbox); have GW341 := Aside0.mk (bs_ : w.heap.size ≤ gb341); have GE341 := Aside0.mk (bs_ : w.heap.size ≤ gb341); replace HB := Aside0.mk (below_step b1_ hb); clear hb hbox hg))
 (try simp only [Act.put, List.setIfInBounds_toArray, List.set_cons_zero, List.set_cons_succ])
 go_cut [3] (fun v3 wc => ∃ (kq : Nat) (x3_1 : Bool), v3 = .bool x3_1 ∧ Aside0 (rhizomeref02_May.j0 kq x3_1 a0_0 a0_1 a0_2 = some r) ∧ Aside0 (kq ≤ k) ∧ Aside0 (wc.heap[gb341]? = some (.cells #[.int .i64 a0_0, .string a0_1, .string a0_2] 31 (0, 0))) ∧ Aside0 (Below w.heap.size w wc))
 case first =>
  have H := HC2.out
  clear HC2
  by_cases c4 : (a0_1.size : Int) ≤ 4000
  ·rw [if_pos c4] at H
   have c4b0 := decide_eq_true c4
   have c4b1 : decide (a0_1.size ≤ 4000) = true := decide_eq_true (by omega)
   clear c4
   (first | rw [c4b0] | (simp only [i64_w, i32_w]; rw [c4b0]) | skip)
   obtain ⟨t342, A5, H⟩ := bi_ H
   have H' := Aside0.mk H
   clear H
   have hcz6_0 := cl_ (.int .i64 a0_0) BK341.out 0
   have hcz6_1 := cl_ (.string a0_1) BK341.out 1
   have hcz6_2 := cl_ (.string a0_2) BK341.out 2
   have hfz6_0 := blk_frozen BK341.out 0
   have hfz6_1 := blk_frozen BK341.out 1
   have hfz6_2 := blk_frozen BK341.out 2
   go_wp2_with (first | (go_at_call 17; (with_reducible refine (rhizomeref01_Valid.calls k a0_1 t342 _ A5.out).mono ?_); rintro e w7 ⟨rfl, hb⟩; replace BK341 := Aside0.mk (blk_below (g := gb341) (o := .cells #[.int .i64 a0_0, .string a0_1, .string a0_2] 31 (0, 0)) (bd_ BK341.out) hb); replace HB := Aside0.mk (below_step z39_ hb); clear hb))
   go_meet
   case rel => exact ⟨_, (t342), e1_, H', ⟨z12_⟩, ⟨by refine bd_ ?_; exact BK341.out⟩, ⟨by have G0 := GE341; exact z10_⟩⟩
  rw [if_neg c4] at H
  have c4b0 := decide_eq_false c4
  have c4b1 : decide (a0_1.size ≤ 4000) = false := decide_eq_false (by omega)
  clear c4
  (first | rw [c4b0] | (simp only [i64_w, i32_w]; rw [c4b0]) | skip)
  have H' := Aside0.mk H
  clear H
  have hcz8_0 := cl_ (.int .i64 a0_0) BK341.out 0
  have hcz8_1 := cl_ (.string a0_1) BK341.out 1
  have hcz8_2 := cl_ (.string a0_2) BK341.out 2
  have hfz8_0 := blk_frozen BK341.out 0
  have hfz8_1 := blk_frozen BK341.out 1
  have hfz8_2 := blk_frozen BK341.out 2
  go_wp2
  go_meet
  case rel => exact ⟨_, (false), e1_, H', ⟨z12_⟩, ⟨by refine bd_ ?_; exact BK341.out⟩, ⟨by have G0 := GE341; exact z10_⟩⟩
 case rest =>
  clear HC2
  obtain ⟨kq, x3_1, rfl, HA, HJ1, BK341, HB⟩ := hcut
  cases kq with
  | zero => exact absurd HA.out (by simp [rhizomeref02_May.j0])
  | succ kj1 =>
   have H := HA.out
   clear HA
   simp only [rhizomeref02_May.j0] at H
   by_cases c9 : a0_0 = 1
   ·rw [if_pos c9] at H
    have c9b0 := beq_iff_eq.mpr c9
    have c9b1 := bne_eq_false_iff_eq.mpr c9
    clear c9
    obtain ⟨t343, A10, H⟩ := bi_ H
    by_cases c11 : t343 = true
    ·subst c11
     rw [if_pos rfl] at H
     obtain rfl := Option.some.inj H
     have hcz12_0 := cl_ (.int .i64 a0_0) BK341.out 0
     have hcz12_1 := cl_ (.string a0_1) BK341.out 1
     have hcz12_2 := cl_ (.string a0_2) BK341.out 2
     have hfz12_0 := blk_frozen BK341.out 0
     have hfz12_1 := blk_frozen BK341.out 1
     have hfz12_2 := blk_frozen BK341.out 2
     go_wp2_with (first | ((with_reducible refine gate_callee (f := 18) rfl ?_); refine goesL_ (some 19) rfl rfl Tryd.func18 k1_ rfl #[.string a0_1] rfl g1_ ?_; (with_reducible refine (rhizomeref02_IRI.calls kj1 a0_1 true _ A10.out).mono ?_); rintro e w13 ⟨rfl, hb⟩; refine ⟨_, rfl, ?_⟩; replace BK341 := Aside0.mk (blk_below (g := gb341) (o := .cells #[.int .i64 a0_0, .string a0_1, .string a0_2] 31 (0, 0)) (bd_ BK341.out) hb); replace HB := Aside0.mk (below_step z39_ hb); clear hb; have hcz14_0 := cl_ (.int .i64 a0_0) BK341.out 0; have hcz14_1 := cl_ (.string a0_1) BK341.out 1; have hcz14_2 := cl_ (.string a0_2) BK341.out 2; have hfz14_0 := blk_frozen BK341.out 0; have hfz14_1 := blk_frozen BK341.out 1; have hfz14_2 := blk_frozen BK341.out 2))
     go_ret
     exact ⟨e2_, by have G0 := GE341; exact z10_⟩
    replace c11 := Bool.eq_false_iff.mpr c11
    subst c11
    rw [if_neg (show ¬ (false = true) by decide)] at H
    obtain rfl := Option.some.inj H
    have hcz15_0 := cl_ (.int .i64 a0_0) BK341.out 0
    have hcz15_1 := cl_ (.string a0_1) BK341.out 1
    have hcz15_2 := cl_ (.string a0_2) BK341.out 2
    have hfz15_0 := blk_frozen BK341.out 0
    have hfz15_1 := blk_frozen BK341.out 1
    have hfz15_2 := blk_frozen BK341.out 2
    go_wp2_with (first | ((with_reducible refine gate_callee (f := 18) rfl ?_); refine goesL_ (some 19) rfl rfl Tryd.func18 k1_ rfl #[.string a0_1] rfl g1_ ?_; (with_reducible refine (rhizomeref02_IRI.calls kj1 a0_1 false _ A10.out).mono ?_); rintro e w16 ⟨rfl, hb⟩; refine ⟨_, rfl, ?_⟩; replace BK341 := Aside0.mk (blk_below (g := gb341) (o := .cells #[.int .i64 a0_0, .string a0_1, .string a0_2] 31 (0, 0)) (bd_ BK341.out) hb); replace HB := Aside0.mk (below_step z39_ hb); clear hb))
    go_ret
    exact ⟨e2_, by have G0 := GE341; exact z10_⟩
   rw [if_neg c9] at H
   have c9b0 := beq_eq_false_iff_ne.mpr c9
   have c9b1 := bne_iff_ne.mpr c9
   by_cases c17 : a0_0 = 2
   ·rw [if_pos c17] at H
    have c17b0 := beq_iff_eq.mpr c17
    have c17b1 := bne_eq_false_iff_eq.mpr c17
    clear c17
    obtain ⟨t344, A18, H⟩ := bi_ H
    by_cases c19 : t344 = true
    ·subst c19
     rw [if_pos rfl] at H
     obtain rfl := Option.some.inj H
     have hcz20_0 := cl_ (.int .i64 a0_0) BK341.out 0
     have hcz20_1 := cl_ (.string a0_1) BK341.out 1
     have hcz20_2 := cl_ (.string a0_2) BK341.out 2
     have hfz20_0 := blk_frozen BK341.out 0
     have hfz20_1 := blk_frozen BK341.out 1
     have hfz20_2 := blk_frozen BK341.out 2
     go_wp2_with (first | ((with_reducible refine gate_callee (f := 19) rfl ?_); refine goesL_ (some 29) rfl rfl Tryd.func19 k1_ rfl #[.string a0_1, .int .i64 64] rfl g1_ ?_; (with_reducible refine (rhizomeref02_Word.calls kj1 a0_1 64 true _ A18.out).mono ?_); rintro e w' ⟨rfl, ⟨nd, rfl⟩⟩; refine ⟨_, rfl, ?_⟩))
     go_ret
     exact ⟨e2_, by have G0 := GE341; exact z10_⟩
    replace c19 := Bool.eq_false_iff.mpr c19
    subst c19
    rw [if_neg (show ¬ (false = true) by decide)] at H
    obtain rfl := Option.some.inj H
    have hcz21_0 := cl_ (.int .i64 a0_0) BK341.out 0
    have hcz21_1 := cl_ (.string a0_1) BK341.out 1
    have hcz21_2 := cl_ (.string a0_2) BK341.out 2
    have hfz21_0 := blk_frozen BK341.out 0
    have hfz21_1 := blk_frozen BK341.out 1
    have hfz21_2 := blk_frozen BK341.out 2
    go_wp2_with (first | ((with_reducible refine gate_callee (f := 19) rfl ?_); refine goesL_ (some 29) rfl rfl Tryd.func19 k1_ rfl #[.string a0_1, .int .i64 64] rfl g1_ ?_; (with_reducible refine (rhizomeref02_Word.calls kj1 a0_1 64 false _ A18.out).mono ?_); rintro e w' ⟨rfl, ⟨nd, rfl⟩⟩; refine ⟨_, rfl, ?_⟩))
    go_ret
    exact ⟨e2_, by have G0 := GE341; exact z10_⟩
   rw [if_neg c17] at H
   have c17b0 := beq_eq_false_iff_ne.mpr c17
   have c17b1 := bne_iff_ne.mpr c17
   by_cases c22 : a0_0 = 3
   ·rw [if_pos c22] at H
    have c22b0 := beq_iff_eq.mpr c22
    have c22b1 := bne_eq_false_iff_eq.mpr c22
    clear c22
    by_cases c23 : x3_1 = true
    ·subst c23
     rw [if_pos rfl] at H
     obtain rfl := Option.some.inj H
     have hcz24_0 := cl_ (.int .i64 a0_0) BK341.out 0
     have hcz24_1 := cl_ (.string a0_1) BK341.out 1
     have hcz24_2 := cl_ (.string a0_2) BK341.out 2
     have hfz24_0 := blk_frozen BK341.out 0
     have hfz24_1 := blk_frozen BK341.out 1
     have hfz24_2 := blk_frozen BK341.out 2
     go_wp2
     go_ret
     exact ⟨e2_, by have G0 := GE341; exact z10_⟩
    replace c23 := Bool.eq_false_iff.mpr c23
    subst c23
    rw [if_neg (show ¬ (false = true) by decide)] at H
    obtain rfl := Option.some.inj H
    have hcz25_0 := cl_ (.int .i64 a0_0) BK341.out 0
    have hcz25_1 := cl_ (.string a0_1) BK341.out 1
    have hcz25_2 := cl_ (.string a0_2) BK341.out 2
    have hfz25_0 := blk_frozen BK341.out 0
    have hfz25_1 := blk_frozen BK341.out 1
    have hfz25_2 := blk_frozen BK341.out 2
    go_wp2
    go_ret
    exact ⟨e2_, by have G0 := GE341; exact z10_⟩
   rw [if_neg c22] at H
   have c22b0 := beq_eq_false_iff_ne.mpr c22
   have c22b1 := bne_iff_ne.mpr c22
   by_cases c26 : a0_0 = 4
   ·rw [if_pos c26] at H
    have c26b0 := beq_iff_eq.mpr c26
    have c26b1 := bne_eq_false_iff_eq.mpr c26
    clear c26
    by_cases c27 : x3_1 = true
    ·subst c27
     rw [if_pos rfl] at H
     obtain ⟨t345, A28, H⟩ := bi_ H
     obtain rfl := Option.some.inj H
     have hcz29_0 := cl_ (.int .i64 a0_0) BK341.out 0
     have hcz29_1 := cl_ (.string a0_1) BK341.out 1
     have hcz29_2 := cl_ (.string a0_2) BK341.out 2
     have hfz29_0 := blk_frozen BK341.out 0
     have hfz29_1 := blk_frozen BK341.out 1
     have hfz29_2 := blk_frozen BK341.out 2
     go_wp2_with (first | (go_at_call 20; (with_reducible refine (rhizomeref02_tag.calls kj1 a0_2 t345 _ A28.out).mono ?_); rintro e w' ⟨rfl, ⟨nd, rfl⟩⟩))
     go_ret
     exact ⟨e2_, by have G0 := GE341; exact z10_⟩
    replace c27 := Bool.eq_false_iff.mpr c27
    subst c27
    rw [if_neg (show ¬ (false = true) by decide)] at H
    obtain rfl := Option.some.inj H
    have hcz30_0 := cl_ (.int .i64 a0_0) BK341.out 0
    have hcz30_1 := cl_ (.string a0_1) BK341.out 1
    have hcz30_2 := cl_ (.string a0_2) BK341.out 2
    have hfz30_0 := blk_frozen BK341.out 0
    have hfz30_1 := blk_frozen BK341.out 1
    have hfz30_2 := blk_frozen BK341.out 2
    go_wp2
    go_ret
    exact ⟨e2_, by have G0 := GE341; exact z10_⟩
   rw [if_neg c26] at H
   have c26b0 := beq_eq_false_iff_ne.mpr c26
   have c26b1 := bne_iff_ne.mpr c26
   by_cases c31 : a0_0 = 5
   ·rw [if_pos c31] at H
    have c31b0 := beq_iff_eq.mpr c31
    have c31b1 := bne_eq_false_iff_eq.mpr c31
    clear c31
    by_cases c32 : x3_1 = true
    ·subst c32
     rw [if_pos rfl] at H
     obtain ⟨t346, A33, H⟩ := bi_ H
     by_cases c34 : t346 = true
     ·subst c34
      rw [if_pos rfl] at H
      obtain rfl := Option.some.inj H
      have hcz35_0 := cl_ (.int .i64 a0_0) BK341.out 0
      have hcz35_1 := cl_ (.string a0_1) BK341.out 1
      have hcz35_2 := cl_ (.string a0_2) BK341.out 2
      have hfz35_0 := blk_frozen BK341.out 0
      have hfz35_1 := blk_frozen BK341.out 1
      have hfz35_2 := blk_frozen BK341.out 2
      go_wp2_with (first | (go_at_call 18; (with_reducible refine (rhizomeref02_IRI.calls kj1 a0_2 true _ A33.out).mono ?_); rintro e w36 ⟨rfl, hb⟩; replace BK341 := Aside0.mk (blk_below (g := gb341) (o := .cells #[.int .i64 a0_0, .string a0_1, .string a0_2] 31 (0, 0)) (bd_ BK341.out) hb); replace HB := Aside0.mk (below_step z39_ hb); clear hb; have hcz37_0 := cl_ (.int .i64 a0_0) BK341.out 0; have hcz37_1 := cl_ (.string a0_1) BK341.out 1; have hcz37_2 := cl_ (.string a0_2) BK341.out 2; have hfz37_0 := blk_frozen BK341.out 0; have hfz37_1 := blk_frozen BK341.out 1; have hfz37_2 := blk_frozen BK341.out 2))
      go_ret
      exact ⟨e2_, by have G0 := GE341; exact z10_⟩
     replace c34 := Bool.eq_false_iff.mpr c34
     subst c34
     rw [if_neg (show ¬ (false = true) by decide)] at H
     obtain rfl := Option.some.inj H
     have hcz38_0 := cl_ (.int .i64 a0_0) BK341.out 0
     have hcz38_1 := cl_ (.string a0_1) BK341.out 1
     have hcz38_2 := cl_ (.string a0_2) BK341.out 2
     have hfz38_0 := blk_frozen BK341.out 0
     have hfz38_1 := blk_frozen BK341.out 1
     have hfz38_2 := blk_frozen BK341.out 2
     go_wp2_with (first | (go_at_call 18; (with_reducible refine (rhizomeref02_IRI.calls kj1 a0_2 false _ A33.out).mono ?_); rintro e w39 ⟨rfl, hb⟩; replace BK341 := Aside0.mk (blk_below (g := gb341) (o := .cells #[.int .i64 a0_0, .string a0_1, .string a0_2] 31 (0, 0)) (bd_ BK341.out) hb); replace HB := Aside0.mk (below_step z39_ hb); clear hb))
     go_ret
     exact ⟨e2_, by have G0 := GE341; exact z10_⟩
    replace c32 := Bool.eq_false_iff.mpr c32
    subst c32
    rw [if_neg (show ¬ (false = true) by decide)] at H
    obtain rfl := Option.some.inj H
    have hcz40_0 := cl_ (.int .i64 a0_0) BK341.out 0
    have hcz40_1 := cl_ (.string a0_1) BK341.out 1
    have hcz40_2 := cl_ (.string a0_2) BK341.out 2
    have hfz40_0 := blk_frozen BK341.out 0
    have hfz40_1 := blk_frozen BK341.out 1
    have hfz40_2 := blk_frozen BK341.out 2
    go_wp2
    go_ret
    exact ⟨e2_, by have G0 := GE341; exact z10_⟩
   rw [if_neg c31] at H
   have c31b0 := beq_eq_false_iff_ne.mpr c31
   have c31b1 := bne_iff_ne.mpr c31
   obtain rfl := Option.some.inj H
   have hcz41_0 := cl_ (.int .i64 a0_0) BK341.out 0
   have hcz41_1 := cl_ (.string a0_1) BK341.out 1
   have hcz41_2 := cl_ (.string a0_2) BK341.out 2
   have hfz41_0 := blk_frozen BK341.out 0
   have hfz41_1 := blk_frozen BK341.out 1
   have hfz41_2 := blk_frozen BK341.out 2
   go_wp2
   go_ret
   exact ⟨e2_, by have G0 := GE341; exact z10_⟩
end Go.Proofs.YtpbphelaeleikaaDoor.PMean

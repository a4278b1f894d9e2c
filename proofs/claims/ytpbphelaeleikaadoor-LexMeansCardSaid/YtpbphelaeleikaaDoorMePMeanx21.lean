import Derived.Test.YtpbphelaeleikaaDoorMePMeanx0
import Derived.Test.YtpbphelaeleikaaDoorMePMeanx1
import Derived.Test.YtpbphelaeleikaaDoorMePMeanx12
import Derived.Test.YtpbphelaeleikaaDoorMePMeanx13
import Derived.Test.YtpbphelaeleikaaDoorMePMeanx17
import Derived.Test.YtpbphelaeleikaaDoorMePMeanx19
import Derived.Test.YtpbphelaeleikaaDoorMePMeanx20
namespace Go.Proofs.YtpbphelaeleikaaDoor.PMean
open Go.RowKit Go.Proofs.YtpbphelaeleikaaDoorW.PrintWords Go.Proofs.YtpbphelaeleikaaDoorW.PrintLast Go.Proofs.YtpbphelaeleikaaDoorW.PrintMore
attribute [local go_sem] max2_int min2_int max_two min_two max_three min_three max_four min_four
set_option linter.unusedVariables false
set_option linter.unusedSimpArgs false
set_option maxHeartbeats 8000000
set_option maxRecDepth 100000
attribute [local go_sem high] eqA31
mutual
def rhizomelaw04_LexMeans.j0 : Nat → ByteArray → ByteArray → Bool → Int → ByteArray → ByteArray → Option (Bool)
 | 0, _, _, _, _, _, _ => none
 | k + 1, x1, x2, x36, x415000, x415001, x415002 => if x36 = true then (some true) else ((rhizomeref02_May.f k x415000 x415001 x415002).bind fun t417 => (if t417 = true then ((rhizomeref02_Text.f k x415000 x415001 x415002).bind fun t418 => ((lex_All.f k t418).bind fun bt419 => ((lex_Read.f k bt419.1 none).bind fun bt424 => ((rhizomelaw04_num.f bt419.2.2).bind fun t430 => ((rhizomelaw04_num.f bt424.2.2.2.2).bind fun t431 => (if (wrap64 (t430 + t431)) = 0 then (if (!(bt424.1 == x415000) || (!(bt424.2.1.toList == x415001.toList) || (!(bt424.2.2.1.toList == x415002.toList)))) = true then (none) else (if bt424.2.2.2.1 = (bt419.1.length : Int) then (rhizomelaw04_LexMeans.j1 k x1 x2) else (none))) else (none))))))) else (rhizomelaw04_LexMeans.j1 k x1 x2)))
def rhizomelaw04_LexMeans.j1 : Nat → ByteArray → ByteArray → Option (Bool)
 | 0, _, _ => none
 | k + 1, x1, x2 => (lex_All.f k x1).bind fun bt432 => ((lex_All.f k x2).bind fun bt437 => ((rhizomelaw04_num.f bt432.2.2).bind fun t442 => ((rhizomelaw04_num.f bt437.2.2).bind fun t443 => (if (wrap64 (t442 + t443)) = 0 then (rhizomelaw04_LexMeans.l0 k x1 x2 bt432.1 bt437.1 0) else (some true)))))
def rhizomelaw04_LexMeans.l0 : Nat → ByteArray → ByteArray → List (S38) → List (S38) → Int → Option (Bool)
 | 0, _, _, _, _, _ => none
 | k + 1, x1, x2, x13, x16, x19 => if x19 < (x16.length : Int) then (if 0 ≤ x19 then (rhizomelaw04_LexMeans.l0 k x1 x2 x13 (x16.set (x19 : Int).toNat (⟨(rd_T38 x16 x19).f0, (rd_T38 x16 x19).f1, (⟨(rd_T38 x16 x19).f2.f0, (rd_T38 x16 x19).f2.f1, (rd_T38 x16 x19).f2.f2⟩ : S31), wrap64 ((wrap64 (((rd_T38 x16 x19).f3) + (x1.size : Int))) + 1)⟩ : S38)) (wrap64 (x19 + 1))) else (none)) else (if x1.size + 1 ≤ 9223372036854775807 then (if (x1 ++ (⟨#[10]⟩ : ByteArray)).size + x2.size ≤ 9223372036854775807 then ((lex_All.f k ((x1 ++ (⟨#[10]⟩ : ByteArray)) ++ x2)).bind fun bt446 => ((rhizomelaw04_num.f bt446.2.2).bind fun t451 => (if t451 = 0 then (if ([] : List (S38)).length + x13.length < 1954687338268 then ((some (([] : List (S38)) ++ x13 : List (S38))).bind fun y452 => (if y452.length + x16.length < 1954687338268 then ((rhizomelaw04_same.f k bt446.1 (y452 ++ x16)).bind fun t458 => (some t458)) else (none))) else (none)) else (none)))) else (none)) else (none))
end
def rhizomelaw04_LexMeans.f (k : Nat) (a0_0 : Int) (a0_1 : ByteArray) (a0_2 : ByteArray) (a1 : ByteArray) (a2 : ByteArray) : Option (Bool) := (rhizomelaw04_known.f k).bind fun t415 => (if t415 = true then ((rhizomeref02_Long.f a0_0 a0_1 a0_2).bind fun t416 => (if t416 = true then (rhizomelaw04_LexMeans.j0 k a1 a2 true a0_0 a0_1 a0_2) else (if (a1.size : Int) > 3000 then (rhizomelaw04_LexMeans.j0 k a1 a2 true a0_0 a0_1 a0_2) else (rhizomelaw04_LexMeans.j0 k a1 a2 (decide ((a2.size : Int) > 3000)) a0_0 a0_1 a0_2)))) else (none))
theorem rhizomelaw04_LexMeans.calls (k : Nat) (a0_0 : Int) (a0_1 : ByteArray) (a0_2 : ByteArray) (a1 : ByteArray) (a2 : ByteArray) (r : Bool) (w : World) (h : rhizomelaw04_LexMeans.f k a0_0 a0_1 a0_2 a1 a2 = some r) :
  Calls Tryd.prog 4 #[.agg #[.int .i64 a0_0, .string a0_1, .string a0_2], .string a1, .string a2] w fun e w' => e = .returned (.bool r) ∧ Below w.heap.size w w' := by
 have hu31 := Tryd.underlying31
 have HB := Aside0.mk (Below.refl w.heap.size w)
 have H := h
 clear h
 unfold rhizomelaw04_LexMeans.f at H
 obtain ⟨t415, A4, H⟩ := bi_ H
 by_cases c5 : t415 = true
 ·subst c5
  rw [if_pos rfl] at H
  have HC6 := Aside0.mk H
  clear H
  go_enter Tryd.func4, Tryd.ntmps4
  go_upto_region 3 with (first | ((with_reducible refine gate_dst (N := 3) rfl ?_); (try (refine gate_guard (by rfl) ?_; dsimp only)); refine box_event r1_ (N := 3) r1_ (cs := #[.int .i64 a0_0, .string a0_1, .string a0_2]) (t := 31) r2_ ?_; intro gb414 hg w7 hbox hb; have BK414 := Aside0.mk (hbox); have GW414 := Aside0.mk (bs_ : w.heap.size ≤ gb414); have GE414 := Aside0.mk (bs_ : w.heap.size ≤ gb414); replace HB := Aside0.mk (below_step b1_ hb); clear hb hbox hg) | ((with_reducible refine gate_callee (f := 7) rfl ?_); refine goesL_ (some 23) rfl rfl Tryd.func7 k1_ rfl #[] rfl g1_ ?_; (with_reducible refine (rhizomelaw04_known.calls k  true _ A4.out).mono ?_); rintro e w8 ⟨rfl, hb⟩; refine ⟨_, rfl, ?_⟩; replace BK414 := Aside0.mk (blk_below (g := gb414) (o := .cells #[.int .i64 a0_0, .string a0_1, .string a0_2] 31 (0, 0)) (bd_ BK414.out) hb); replace HB := Aside0.mk (below_step z13_ hb); clear hb))
  (try simp only [Act.put, List.setIfInBounds_toArray, List.set_cons_zero, List.set_cons_succ])
  go_cut [36] (fun v36 wc => ∃ (kq : Nat) (x36_5 : Bool), v36 = .bool x36_5 ∧ Aside0 (rhizomelaw04_LexMeans.j0 kq a1 a2 x36_5 a0_0 a0_1 a0_2 = some r) ∧ Aside0 (kq ≤ k) ∧ Aside0 (wc.heap[gb414]? = some (.cells #[.int .i64 a0_0, .string a0_1, .string a0_2] 31 (0, 0))) ∧ Aside0 (Below w.heap.size w wc))
  case first =>
   have H := HC6.out
   clear HC6
   obtain ⟨t416, A9, H⟩ := bi_ H
   by_cases c10 : t416 = true
   ·subst c10
    rw [if_pos rfl] at H
    have H' := Aside0.mk H
    clear H
    have hcz11_0 := cl_ (.int .i64 a0_0) BK414.out 0
    have hcz11_1 := cl_ (.string a0_1) BK414.out 1
    have hcz11_2 := cl_ (.string a0_2) BK414.out 2
    have hfz11_0 := blk_frozen BK414.out 0
    have hfz11_1 := blk_frozen BK414.out 1
    have hfz11_2 := blk_frozen BK414.out 2
    go_wp2_with (first | ((with_reducible refine gate_callee (f := 8) rfl ?_); refine goesL_ (some 26) rfl rfl Tryd.func8 k1_ rfl #[.agg #[.int .i64 a0_0, .string a0_1, .string a0_2]] rfl g1_ ?_; (with_reducible refine (rhizomeref02_Long.calls a0_0 a0_1 a0_2 true _ A9.out).mono ?_); rintro e w12 ⟨rfl, hb⟩; refine ⟨_, rfl, ?_⟩; replace BK414 := Aside0.mk (blk_below (g := gb414) (o := .cells #[.int .i64 a0_0, .string a0_1, .string a0_2] 31 (0, 0)) (bd_ BK414.out) hb); replace HB := Aside0.mk (below_step z13_ hb); clear hb))
    go_meet
    case rel => exact ⟨_, (true), e1_, H', ⟨z12_⟩, ⟨by refine bd_ ?_; exact BK414.out⟩, ⟨by have G0 := GE414; exact z10_⟩⟩
   replace c10 := Bool.eq_false_iff.mpr c10
   subst c10
   rw [if_neg (show ¬ (false = true) by decide)] at H
   by_cases c13 : (a1.size : Int) > 3000
   ·rw [if_pos c13] at H
    have c13b0 : decide (3000 < (a1.size : Int)) = true := decide_eq_true c13
    have c13b1 : decide (3000 < a1.size) = true := decide_eq_true (by omega)
    clear c13
    (first | rw [c13b0] | (simp only [i64_w, i32_w]; rw [c13b0]) | skip)
    have H' := Aside0.mk H
    clear H
    have hcz14_0 := cl_ (.int .i64 a0_0) BK414.out 0
    have hcz14_1 := cl_ (.string a0_1) BK414.out 1
    have hcz14_2 := cl_ (.string a0_2) BK414.out 2
    have hfz14_0 := blk_frozen BK414.out 0
    have hfz14_1 := blk_frozen BK414.out 1
    have hfz14_2 := blk_frozen BK414.out 2
    go_wp2_with (first | ((with_reducible refine gate_callee (f := 8) rfl ?_); refine goesL_ (some 26) rfl rfl Tryd.func8 k1_ rfl #[.agg #[.int .i64 a0_0, .string a0_1, .string a0_2]] rfl g1_ ?_; (with_reducible refine (rhizomeref02_Long.calls a0_0 a0_1 a0_2 false _ A9.out).mono ?_); rintro e w15 ⟨rfl, hb⟩; refine ⟨_, rfl, ?_⟩; replace BK414 := Aside0.mk (blk_below (g := gb414) (o := .cells #[.int .i64 a0_0, .string a0_1, .string a0_2] 31 (0, 0)) (bd_ BK414.out) hb); replace HB := Aside0.mk (below_step z13_ hb); clear hb))
    go_meet
    case rel => exact ⟨_, (true), e1_, H', ⟨z12_⟩, ⟨by refine bd_ ?_; exact BK414.out⟩, ⟨by have G0 := GE414; exact z10_⟩⟩
   rw [if_neg c13] at H
   have c13b0 : decide (3000 < (a1.size : Int)) = false := decide_eq_false c13
   have c13b1 : decide (3000 < a1.size) = false := decide_eq_false (by omega)
   clear c13
   (first | rw [c13b0] | (simp only [i64_w, i32_w]; rw [c13b0]) | skip)
   have H' := Aside0.mk H
   clear H
   have hcz16_0 := cl_ (.int .i64 a0_0) BK414.out 0
   have hcz16_1 := cl_ (.string a0_1) BK414.out 1
   have hcz16_2 := cl_ (.string a0_2) BK414.out 2
   have hfz16_0 := blk_frozen BK414.out 0
   have hfz16_1 := blk_frozen BK414.out 1
   have hfz16_2 := blk_frozen BK414.out 2
   go_wp2_with (first | ((with_reducible refine gate_callee (f := 8) rfl ?_); refine goesL_ (some 26) rfl rfl Tryd.func8 k1_ rfl #[.agg #[.int .i64 a0_0, .string a0_1, .string a0_2]] rfl g1_ ?_; (with_reducible refine (rhizomeref02_Long.calls a0_0 a0_1 a0_2 false _ A9.out).mono ?_); rintro e w17 ⟨rfl, hb⟩; refine ⟨_, rfl, ?_⟩; replace BK414 := Aside0.mk (blk_below (g := gb414) (o := .cells #[.int .i64 a0_0, .string a0_1, .string a0_2] 31 (0, 0)) (bd_ BK414.out) hb); replace HB := Aside0.mk (below_step z13_ hb); clear hb))
   go_meet
   case rel => exact ⟨_, (decide ((a2.size : Int) > 3000)), e1_, H', ⟨z12_⟩, ⟨by refine bd_ ?_; exact BK414.out⟩, ⟨by have G0 := GE414; exact z10_⟩⟩
  case rest =>
   clear HC6
   try clear c5
   obtain ⟨kq, x36_5, rfl, HA, HJ5, BK414, HB⟩ := hcut
   cases kq with
   | zero => exact absurd HA.out (by simp [rhizomelaw04_LexMeans.j0])
   | succ kj5 =>
    have H := HA.out
    clear HA
    simp only [rhizomelaw04_LexMeans.j0] at H
    by_cases c18 : x36_5 = true
    ·subst c18
     rw [if_pos rfl] at H
     obtain rfl := Option.some.inj H
     go_wp2
     go_ret
     exact ⟨e2_, by have G0 := GE414; exact z10_⟩
    replace c18 := Bool.eq_false_iff.mpr c18
    subst c18
    rw [if_neg (show ¬ (false = true) by decide)] at H
    obtain ⟨t417, A19, H⟩ := bi_ H
    have HC20 := Aside0.mk H
    clear H
    have hcz21_0 := cl_ (.int .i64 a0_0) BK414.out 0
    have hcz21_1 := cl_ (.string a0_1) BK414.out 1
    have hcz21_2 := cl_ (.string a0_2) BK414.out 2
    have hfz21_0 := blk_frozen BK414.out 0
    have hfz21_1 := blk_frozen BK414.out 1
    have hfz21_2 := blk_frozen BK414.out 2
    go_upto_if 38 with (first | ((with_reducible refine gate_callee (f := 9) rfl ?_); refine goesL_ (some 38) rfl rfl Tryd.func9 k1_ rfl #[.agg #[.int .i64 a0_0, .string a0_1, .string a0_2]] rfl g1_ ?_; (with_reducible refine (rhizomeref02_May.calls kj5 a0_0 a0_1 a0_2 t417 _ A19.out).mono ?_); rintro e w22 ⟨rfl, hb⟩; refine ⟨_, rfl, ?_⟩; replace BK414 := Aside0.mk (blk_below (g := gb414) (o := .cells #[.int .i64 a0_0, .string a0_1, .string a0_2] 31 (0, 0)) (bd_ BK414.out) hb); replace HB := Aside0.mk (below_step z13_ hb); clear hb))
    (try simp only [Act.put, List.setIfInBounds_toArray, List.set_cons_zero, List.set_cons_succ])
    go_cut [] (fun wc => ∃ (kq : Nat), Aside0 (rhizomelaw04_LexMeans.j1 kq a1 a2 = some r) ∧ Aside0 (kq ≤ kj5) ∧ Aside0 (wc.heap[gb414]? = some (.cells #[.int .i64 a0_0, .string a0_1, .string a0_2] 31 (0, 0))) ∧ Aside0 (Below w.heap.size w wc))
    case first =>
     have H := HC20.out
     clear HC20
     by_cases c23 : t417 = true
     ·subst c23
      rw [if_pos rfl] at H
      obtain ⟨t418, A24, H⟩ := bi_ H
      obtain ⟨⟨t419, t420, t421⟩, A25, H⟩ := bi_ H
      try dsimp only at H
      obtain ⟨⟨t424, t425, t426, t427, t428⟩, A26, H⟩ := bi_ H
      try dsimp only at H
      obtain ⟨t430, A27, H⟩ := bi_ H
      obtain ⟨t431, A28, H⟩ := bi_ H
      by_cases c29 : (wrap64 (t430 + t431)) = 0
      ·rw [if_pos c29] at H
       have c29b0 := beq_iff_eq.mpr c29
       have c29b1 := bne_eq_false_iff_eq.mpr c29
       clear c29
       (first | rw [c29b0] | (simp only [i64_w, i32_w]; rw [c29b0]) | skip)
       by_cases c30 : (!(t424 == a0_0) || (!(t425.toList == a0_1.toList) || (!(t426.toList == a0_2.toList)))) = true
       ·rw [if_pos c30] at H
        exact absurd H (by simp)
       rw [if_neg c30] at H
       have c30b0 : (!(t424 == a0_0) || (!(t425.toList == a0_1.toList) || (!(t426.toList == a0_2.toList)))) = false := by simpa using c30
       clear c30
       by_cases c31 : t427 = (t419.length : Int)
       ·rw [if_pos c31] at H
        have c31b0 := beq_iff_eq.mpr c31
        have c31b1 := bne_eq_false_iff_eq.mpr c31
        clear c31
        have H' := Aside0.mk H
        clear H
        have hcz32_0 := cl_ (.int .i64 a0_0) BK414.out 0
        have hcz32_1 := cl_ (.string a0_1) BK414.out 1
        have hcz32_2 := cl_ (.string a0_2) BK414.out 2
        have hfz32_0 := blk_frozen BK414.out 0
        have hfz32_1 := blk_frozen BK414.out 1
        have hfz32_2 := blk_frozen BK414.out 2
        go_wp2_with (first | ((with_reducible refine gate_callee (f := 10) rfl ?_); refine goesL_ (some 41) rfl rfl Tryd.func10 k1_ rfl #[.agg #[.int .i64 a0_0, .string a0_1, .string a0_2]] rfl g1_ ?_; (with_reducible refine (rhizomeref02_Text.calls kj5 a0_0 a0_1 a0_2 t418 _ A24.out).mono ?_); rintro e w33 ⟨rfl, hb⟩; refine ⟨_, rfl, ?_⟩; replace BK414 := Aside0.mk (blk_below (g := gb414) (o := .cells #[.int .i64 a0_0, .string a0_1, .string a0_2] 31 (0, 0)) (bd_ BK414.out) hb); replace HB := Aside0.mk (below_step z13_ hb); clear hb) | ((with_reducible refine gate_callee (f := 5) rfl ?_); refine goesL_ (some 42) rfl rfl Tryd.func5 k1_ rfl #[.string t418] rfl g1_ ?_; (with_reducible refine (lex_All.calls kj5 t418 t419 t420 t421 _ A25.out).mono ?_); rintro e w34 ⟨v422, rfl, ho0, hb⟩; refine ⟨_, rfl, ?_⟩; have HO423 := Aside0.mk (Kd.R_lower ho0 (below_size z13_)); replace BK414 := Aside0.mk (blk_below (g := gb414) (o := .cells #[.int .i64 a0_0, .string a0_1, .string a0_2] 31 (0, 0)) (bd_ BK414.out) hb); replace HB := Aside0.mk (below_step z13_ hb); (try clear hb); (try clear hb2); (try clear hk); (try clear hi); (try clear ho0); obtain ⟨Ao35, co35, eo35⟩ := Kd.R_slice HO423.out; subst eo35) | ((with_reducible refine gate_callee (f := 11) rfl ?_); refine goesL_ (some 48) rfl rfl Tryd.func11 k1_ rfl #[.slice Ao35 t419.length co35, .map none] rfl g1_ ?_; (with_reducible refine (lex_Read.calls kj5 _ _ t419 none t424 t425 t426 t427 t428 _ ?side1 ?side2 A26.out).mono ?_); (case side1 => exact (by have G0 := HO423; exact z50_)); (case side2 => exact (Kd.R_reads' HO423.out).2.1); rintro e w36 ⟨rfl, hb⟩; refine ⟨_, rfl, ?_⟩; replace HO423 := Aside0.mk (Kd.R_below (by have G0 := HO423; exact z1_) hb); replace BK414 := Aside0.mk (blk_below (g := gb414) (o := .cells #[.int .i64 a0_0, .string a0_1, .string a0_2] 31 (0, 0)) (bd_ BK414.out) hb); replace HB := Aside0.mk (below_step z13_ hb); clear hb) | ((with_reducible refine gate_dst (N := 10) rfl ?_); (try (refine gate_guard (by rfl) ?_; dsimp only)); refine box_event r1_ (N := 10) r1_ (cs := #[.int .i64 0, .string ⟨#[]⟩, .string ⟨#[]⟩]) (t := 31) r2_ ?_; intro gb429 hg w37 hbox hb; have BK429 := Aside0.mk (hbox); have GW429 := Aside0.mk ((by rw [hg]; exact (below_size z13_) : w.heap.size ≤ gb429)); have GE429 := Aside0.mk ((by rw [hg]; exact (below_size z13_) : w.heap.size ≤ gb429)); have NB414_429 := Aside0.mk ((by rw [hg]; exact Nat.ne_of_lt (blk_lt (g := gb414) (o := .cells #[.int .i64 a0_0, .string a0_1, .string a0_2] 31 (0, 0)) (bd_ BK414.out)) : gb414 ≠ gb429)); have NB429_414 := Aside0.mk ((by rw [hg]; exact Nat.ne_of_gt (blk_lt (g := gb414) (o := .cells #[.int .i64 a0_0, .string a0_1, .string a0_2] 31 (0, 0)) (bd_ BK414.out)) : gb429 ≠ gb414)); replace HO423 := Aside0.mk (Kd.R_below (by have G0 := HO423; exact z1_) hb); replace BK414 := Aside0.mk (blk_below (g := gb414) (o := .cells #[.int .i64 a0_0, .string a0_1, .string a0_2] 31 (0, 0)) (bd_ BK414.out) hb); replace HB := Aside0.mk (below_step z13_ hb); clear hb hbox hg; have hnb38 := NB429_414.out; have hnc38 := NB414_429.out; have hcz39_0 := cl_ (.int .i64 0) BK429.out 0; have hcz39_1 := cl_ (.string ⟨#[]⟩) BK429.out 1; have hcz39_2 := cl_ (.string ⟨#[]⟩) BK429.out 2; have hfz39_0 := blk_frozen BK429.out 0; have hfz39_1 := blk_frozen BK429.out 1; have hfz39_2 := blk_frozen BK429.out 2) | ((with_reducible refine gate_callee (f := 6) rfl ?_); refine goesL_ (some 53) rfl rfl Tryd.func6 k1_ rfl #[.int .i64 t421] rfl g1_ ?_; (with_reducible refine (rhizomelaw04_num.calls t421 t430 _ A27.out).mono ?_); rintro e w' ⟨rfl, ⟨nd, rfl⟩⟩; refine ⟨_, rfl, ?_⟩) | ((with_reducible refine gate_callee (f := 6) rfl ?_); refine goesL_ (some 55) rfl rfl Tryd.func6 k1_ rfl #[.int .i64 t428] rfl g1_ ?_; (with_reducible refine (rhizomelaw04_num.calls t428 t431 _ A28.out).mono ?_); rintro e w' ⟨rfl, ⟨nd, rfl⟩⟩; refine ⟨_, rfl, ?_⟩; have hcz40_0 := cl_ (.int .i64 a0_0) BK414.out 0; have hcz40_1 := cl_ (.string a0_1) BK414.out 1; have hcz40_2 := cl_ (.string a0_2) BK414.out 2; have hfz40_0 := blk_frozen BK414.out 0; have hfz40_1 := blk_frozen BK414.out 1; have hfz40_2 := blk_frozen BK414.out 2))
        go_meet
        case rel => exact ⟨_, H', ⟨by have := HJ5.out; first | omega | exact Nat.le_refl _⟩, ⟨by have G0 := NB414_429; have G1 := BK414; exact z38_⟩, ⟨by repeat (first | (with_reducible first | exact HB.out | apply below_alloc | apply pw_below_drewN | apply below_drew1 | refine below_set ?_ GE414.out | refine below_set ?_ GE429.out) | exact HB.out)⟩⟩
       rw [if_neg c31] at H
       exact absurd H (by simp)
      rw [if_neg c29] at H
      exact absurd H (by simp)
     replace c23 := Bool.eq_false_iff.mpr c23
     subst c23
     rw [if_neg (show ¬ (false = true) by decide)] at H
     have H' := Aside0.mk H
     clear H
     go_wp2
     go_meet
     case rel => exact ⟨_, H', ⟨by have := HJ5.out; first | omega | exact Nat.le_refl _⟩, ⟨by refine bd_ ?_; exact BK414.out⟩, ⟨by have G0 := GE414; exact z10_⟩⟩
    case rest =>
     clear HC20
     try clear c5
     try clear c10
     try clear c13
     try clear c13b0
     try clear c13b1
     try clear c18
     try clear hcz11_0
     try clear hcz11_1
     try clear hcz11_2
     try clear hcz14_0
     try clear hcz14_1
     try clear hcz14_2
     try clear hcz16_0
     try clear hcz16_1
     try clear hcz16_2
     try clear hcz21_0
     try clear hcz21_1
     try clear hcz21_2
     try clear hfz11_0
     try clear hfz11_1
     try clear hfz11_2
     try clear hfz14_0
     try clear hfz14_1
     try clear hfz14_2
     try clear hfz16_0
     try clear hfz16_1
     try clear hfz16_2
     try clear hfz21_0
     try clear hfz21_1
     try clear hfz21_2
     obtain ⟨kq, HA, HJ19, BK414, HB⟩ := hcut
     cases kq with
     | zero => exact absurd HA.out (by simp [rhizomelaw04_LexMeans.j1])
     | succ kj19 =>
      have H := HA.out
      clear HA
      simp only [rhizomelaw04_LexMeans.j1] at H
      obtain ⟨⟨t432, t433, t434⟩, A41, H⟩ := bi_ H
      try dsimp only at H
      obtain ⟨⟨t437, t438, t439⟩, A42, H⟩ := bi_ H
      try dsimp only at H
      obtain ⟨t442, A43, H⟩ := bi_ H
      obtain ⟨t443, A44, H⟩ := bi_ H
      by_cases c45 : (wrap64 (t442 + t443)) = 0
      ·rw [if_pos c45] at H
       have c45b0 := beq_iff_eq.mpr c45
       have c45b1 := bne_eq_false_iff_eq.mpr c45
       clear c45
       have H' := Aside0.mk H
       clear H
       go_wp2_with (first | ((with_reducible refine gate_callee (f := 5) rfl ?_); refine goesL_ (some 71) rfl rfl Tryd.func5 k1_ rfl #[.string a1] rfl g1_ ?_; (with_reducible refine (lex_All.calls kj19 a1 t432 t433 t434 _ A41.out).mono ?_); rintro e w46 ⟨v435, rfl, ho0, hb⟩; refine ⟨_, rfl, ?_⟩; have HO436 := Aside0.mk (Kd.R_lower ho0 (below_size z13_)); replace BK414 := Aside0.mk (blk_below (g := gb414) (o := .cells #[.int .i64 a0_0, .string a0_1, .string a0_2] 31 (0, 0)) (bd_ BK414.out) hb); replace HB := Aside0.mk (below_step z13_ hb); (try clear hb); (try clear hb2); (try clear hk); (try clear hi); (try clear ho0)) | ((with_reducible refine gate_callee (f := 5) rfl ?_); refine goesL_ (some 77) rfl rfl Tryd.func5 k1_ rfl #[.string a2] rfl g1_ ?_; (with_reducible refine (lex_All.calls kj19 a2 t437 t438 t439 _ A42.out).mono ?_); rintro e w47 ⟨v440, rfl, ho0, hb⟩; refine ⟨_, rfl, ?_⟩; have HO441 := Aside0.mk (Kd.R_lower (Kd.R_new' ho0 (Kd.R_lt (by have G0 := HO436; exact z1_))) (below_size z13_)); replace HO436 := Aside0.mk (Kd.R_elder' (by have G0 := HO436; exact z1_) (Kd.R_base ho0) hb); replace BK414 := Aside0.mk (blk_below (g := gb414) (o := .cells #[.int .i64 a0_0, .string a0_1, .string a0_2] 31 (0, 0)) (bd_ BK414.out) hb); replace HB := Aside0.mk (below_step z13_ hb); (try clear hb); (try clear hb2); (try clear hk); (try clear hi); (try clear ho0)) | ((with_reducible refine gate_callee (f := 6) rfl ?_); refine goesL_ (some 82) rfl rfl Tryd.func6 k1_ rfl #[.int .i64 t434] rfl g1_ ?_; (with_reducible refine (rhizomelaw04_num.calls t434 t442 _ A43.out).mono ?_); rintro e w' ⟨rfl, ⟨nd, rfl⟩⟩; refine ⟨_, rfl, ?_⟩) | ((with_reducible refine gate_callee (f := 6) rfl ?_); refine goesL_ (some 84) rfl rfl Tryd.func6 k1_ rfl #[.int .i64 t439] rfl g1_ ?_; (with_reducible refine (rhizomelaw04_num.calls t439 t443 _ A44.out).mono ?_); rintro e w' ⟨rfl, ⟨nd, rfl⟩⟩; refine ⟨_, rfl, ?_⟩))
       go_loopg [19] kj19 (fun kq v19 w' => ∃ (x16_3 : List (S38)) (x19_3 : Int), v19 = .int .i64 x19_3 ∧ Aside0 (rhizomelaw04_LexMeans.l0 kq a1 a2 t432 x16_3 x19_3 = some r) ∧ Aside0 (kq ≤ kj19) ∧ Aside0 (Kd.R k38 38 w' w.heap.size (fun k_ => some k_ ≠ (v440 : Value).ownBlock) v435 t432) ∧ Aside0 (Kd.R k38 38 w' w.heap.size (fun k_ => some k_ ≠ (v435 : Value).ownBlock) v440 x16_3) ∧ Aside0 (w'.heap[gb414]? = some (.cells #[.int .i64 a0_0, .string a0_1, .string a0_2] 31 (0, 0))) ∧ Aside0 (Below w.heap.size w w'))
       case atStart => exact ⟨(t437), (0), e1_, H', ⟨Nat.le_refl _⟩, ⟨by have G0 := HO436; exact z21_⟩, ⟨by have G0 := HO441; exact z21_⟩, ⟨by refine bd_ ?_; exact BK414.out⟩, ⟨by have G0 := GE414; exact z10_⟩⟩
       case round =>
        clear H'
        try clear c5
        try clear c10
        try clear c13
        try clear c13b0
        try clear c13b1
        try clear c18
        try clear hcz11_0
        try clear hcz11_1
        try clear hcz11_2
        try clear hcz14_0
        try clear hcz14_1
        try clear hcz14_2
        try clear hcz16_0
        try clear hcz16_1
        try clear hcz16_2
        try clear hcz21_0
        try clear hcz21_1
        try clear hcz21_2
        try clear hfz11_0
        try clear hfz11_1
        try clear hfz11_2
        try clear hfz14_0
        try clear hfz14_1
        try clear hfz14_2
        try clear hfz16_0
        try clear hfz16_1
        try clear hfz16_2
        try clear hfz21_0
        try clear hfz21_1
        try clear hfz21_2
        obtain ⟨x16_3, x19_3, rfl, HA, HK3, HO_13, HO_16, BK414, HB⟩ := hrel
        cases gk with
        | zero => exact absurd HA.out (by simp [rhizomelaw04_LexMeans.l0])
        | succ k3 =>
         have H := HA.out
         clear HA
         simp only [rhizomelaw04_LexMeans.l0] at H
         by_cases c48 : x19_3 < (x16_3.length : Int)
         ·rw [if_pos c48] at H
          have c48b0 := decide_eq_true c48
          clear c48
          by_cases c49 : 0 ≤ x19_3
          ·rw [if_pos c49] at H
           have c49b0 := decide_eq_true c49
           clear c49
           obtain ⟨y445, hy445⟩ : ∃ y_ : List (S38), y_ = (x16_3.set (x19_3 : Int).toNat (⟨(rd_T38 x16_3 x19_3).f0, (rd_T38 x16_3 x19_3).f1, (⟨(rd_T38 x16_3 x19_3).f2.f0, (rd_T38 x16_3 x19_3).f2.f1, (rd_T38 x16_3 x19_3).f2.f2⟩ : S31), wrap64 ((wrap64 (((rd_T38 x16_3 x19_3).f3) + (a1.size : Int))) + 1)⟩ : S38)) := ⟨_, rfl⟩
           replace H : (rhizomelaw04_LexMeans.l0 k3 a1 a2 t432 y445 (wrap64 (x19_3 + 1))) = some r := by first | (rw [hy445]; with_reducible exact H) | (have H2_ := (Option.bind_some _ _).symm.trans H; rw [hy445]; with_reducible exact H2_) | (have H2_ := (Option.bind_some _ _).symm.trans H; with_reducible exact H2_) | with_reducible exact H | (rw [hy445]; exact H) | exact H
           have Ny445 := Aside0.mk hy445
           clear hy445
           have H' := Aside0.mk H
           clear H
           obtain ⟨Ao51, co51, eo51⟩ := Kd.R_slice HO_16.out
           subst eo51
           have p444 : 0 ≤ (x19_3 : Int) := of_decide_eq_true a1_
           have q444 : x19_3 < (x16_3.length : Int) := of_decide_eq_true a1_
           obtain ⟨ad444, e444, hx444_0, hx444_1, hx444_2, hx444_3, hx444_4, hx444_5⟩ := at_T38 (Kd.R_reads' HO_16.out).2.2 x19_3 p444 q444
           cases e444
           replace p444 := eq_true p444
           replace q444 := eq_true q444
           have p50 : 0 ≤ (x19_3 : Int) := of_decide_eq_true a1_
           have q50 : (x19_3 : Int) < ((x16_3.length : Int) : Int) := of_decide_eq_true a1_
           obtain ⟨go50, co50, eo50, gb50, gl50, cl50, HG50⟩ := Kd.R_form HO_16.out (by omega)
           (first | cases eo50 | (injection eo50 with ea_ en_ ec_; (first | subst ea_ | (injection ea_ with ea_; subst ea_)); subst ec_; clear en_))
           have GB50 := Aside0.mk gb50
           have GG50 := Aside0.mk HG50
           clear gb50 gl50 HG50
           (first | simp only [add_plain] at hx444_0 | skip)
           (first | simp only [add_plain] at hx444_1 | skip)
           (first | simp only [add_plain] at hx444_2 | skip)
           (first | simp only [add_plain] at hx444_3 | skip)
           (first | simp only [add_plain] at hx444_4 | skip)
           (first | simp only [add_plain] at hx444_5 | skip)
           obtain ⟨ce50, hcl50, hM50, hcc50, hfr50⟩ := Kd.R_elem HO_16.out z38 (x19_3 : Int) p50 q50
           obtain rfl := k38_openM hM50
           have hx50_0 : wr.cell? ⟨go50, (x19_3 : Int).toNat * 6, none⟩ = some (.int .i64 ((rd_T38 x16_3 x19_3).f0)) := hcc50 0 _ rfl
           have hx50_1 : wr.cell? ⟨go50, (x19_3 : Int).toNat * 6 + 1, none⟩ = some (.string ((rd_T38 x16_3 x19_3).f1)) := hcc50 1 _ rfl
           have hx50_2 : wr.cell? ⟨go50, (x19_3 : Int).toNat * 6 + 2, none⟩ = some (.int .i64 ((rd_T38 x16_3 x19_3).f2.f0)) := hcc50 2 _ rfl
           have hx50_3 : wr.cell? ⟨go50, (x19_3 : Int).toNat * 6 + 3, none⟩ = some (.string ((rd_T38 x16_3 x19_3).f2.f1)) := hcc50 3 _ rfl
           have hx50_4 : wr.cell? ⟨go50, (x19_3 : Int).toNat * 6 + 4, none⟩ = some (.string ((rd_T38 x16_3 x19_3).f2.f2)) := hcc50 4 _ rfl
           have hx50_5 : wr.cell? ⟨go50, (x19_3 : Int).toNat * 6 + 5, none⟩ = some (.int .i64 ((rd_T38 x16_3 x19_3).f3)) := hcc50 5 _ rfl
           have hf50_0 : wr.frozen? ⟨go50, (x19_3 : Int).toNat * 6, none⟩ = false := hfr50 0
           have hf50_1 : wr.frozen? ⟨go50, (x19_3 : Int).toNat * 6 + 1, none⟩ = false := hfr50 1
           have hf50_2 : wr.frozen? ⟨go50, (x19_3 : Int).toNat * 6 + 2, none⟩ = false := hfr50 2
           have hf50_3 : wr.frozen? ⟨go50, (x19_3 : Int).toNat * 6 + 3, none⟩ = false := hfr50 3
           have hf50_4 : wr.frozen? ⟨go50, (x19_3 : Int).toNat * 6 + 4, none⟩ = false := hfr50 4
           have hf50_5 : wr.frozen? ⟨go50, (x19_3 : Int).toNat * 6 + 5, none⟩ = false := hfr50 5
           clear hcl50 hcc50 hfr50 hM50
           replace p50 := eq_true p50
           replace q50 := eq_true q50
           have HX52 := Aside0.mk (show Kd.R k38 38 wr w.heap.size (fun k_ => some k_ ≠ (v435 : Value).ownBlock) (.slice (some ⟨go50, 0, none⟩) x16_3.length co51) x16_3 from (by have G0 := HO_16; exact z1_))
           obtain ⟨ce52, hcl52, hM52, hcc52, hfr52⟩ := Kd.R_elem HX52.out z38 (x19_3 : Int) (of_decide_eq_true a1_) (by have h_ : (x19_3 : Int) < ((x16_3.length : Int) : Int) := of_decide_eq_true a1_; first | exact h_ | (have e_ := (Kd.R_reads' HO_16.out).1; omega) | simpa using h_)
           obtain rfl := k38_openM hM52
           have HP52 := Kd.R_seg HX52.out (x19_3 : Int) (of_decide_eq_true a1_) (by have h_ : (x19_3 : Int) < ((x16_3.length : Int) : Int) := of_decide_eq_true a1_; first | exact h_ | (have e_ := (Kd.R_reads' HO_16.out).1; omega) | simpa using h_) (seg := [.int .i64 (wrap64 ((wrap64 (((rd_T38 x16_3 x19_3).f3) + (a1.size : Int))) + 1))]) (j := 5) hcl52 hcc52 (show 6 ≤ 6 from by decide) (x' := (⟨(rd_T38 x16_3 x19_3).f0, (rd_T38 x16_3 x19_3).f1, (⟨(rd_T38 x16_3 x19_3).f2.f0, (rd_T38 x16_3 x19_3).f2.f1, (rd_T38 x16_3 x19_3).f2.f2⟩ : S31), wrap64 ((wrap64 (((rd_T38 x16_3 x19_3).f3) + (a1.size : Int))) + 1)⟩ : S38)) (k38_mkM _ _ _ (⟨(rd_T38 x16_3 x19_3).f0, (rd_T38 x16_3 x19_3).f1, (⟨(rd_T38 x16_3 x19_3).f2.f0, (rd_T38 x16_3 x19_3).f2.f1, (rd_T38 x16_3 x19_3).f2.f2⟩ : S31), wrap64 ((wrap64 (((rd_T38 x16_3 x19_3).f3) + (a1.size : Int))) + 1)⟩ : S38) ) (fun _ hk => hk)
           have hx52_5 := hcc52 5 _ rfl
           (try simp only [show (k38).sz = 6 from rfl, Nat.mul_one, Nat.add_zero] at hx52_5)
           have hf52_5 := hfr52 5
           (try simp only [show (k38).sz = 6 from rfl, Nat.mul_one, Nat.add_zero] at hf52_5)
           clear hcl52 hcc52 hfr52 hM52
           go_wp2_with (first | ((with_reducible refine gate_store (t := 3) (p := 105) rfl ?_); refine store_event (t := 3) (p := 105) (v := ?vo_w53) (w1 := (wr.setCell ⟨go50, (x19_3 : Int).toNat * 6 + 5, none⟩ (.int .i64 (wrap64 ((wrap64 (((rd_T38 x16_3 x19_3).f3) + (a1.size : Int))) + 1))))) ?hg ?ho ?hn ?hr ?_; (case ho => rfl); (case hg => rfl); (case hn => rfl); (case hr => first | (go_simp; done) | (go_simp; rfl)); intro w53 hw; have hg : wr.grownBy w53 (some go50) := (by rw [hw]; exact HP52.2); have hp_ : Kd.R k38 38 w53 w.heap.size (fun k_ => some k_ ≠ (v435 : Value).ownBlock) (.slice (some ⟨go50, 0, none⟩) x16_3.length co51) y445 := (by rw [hw, Ny445.out]; exact HP52.1); clear HP52; replace HO_13 := Aside0.mk (Kd.R_after (v := (.slice (some ⟨go50, 0, none⟩) x16_3.length co51)) (v1 := (.slice (some ⟨go50, 0, none⟩) x16_3.length co51)) (ok := (fun _ => True)) (by (with_reducible repeat (first | apply Kd.R_alloc | apply Kd.R_drewN | apply Kd.R_drew)); exact Kd.R_mono HO_13.out (fun _ hk => ⟨trivial, hk⟩)) hg (.inl rfl)); replace BK414 := Aside0.mk (blk_grown (g := gb414) (o := .cells #[.int .i64 a0_0, .string a0_1, .string a0_2] 31 (0, 0)) (bd_ BK414.out) hg (Kd.R_ne HO_16.out BK414.out (by decide))); replace HO_16 := Aside0.mk (hp_); replace HB := Aside0.mk ((by rw [hw]; exact below_set (HB.out) GB50.out : Below w.heap.size w w53)); clear hg hw hp_))
           go_roundg k3
           case measure => have := HJ5.out; have := HJ19.out; have := HK3.out; omega
           case rel => exact ⟨(y445), (wrap64 (x19_3 + 1)), e1_, H', ⟨by have := HJ5.out; have := HJ19.out; have := HK3.out; omega⟩, ⟨by have G0 := HO_13; exact z21_⟩, ⟨by have G0 := HO_16; exact z1_⟩, ⟨by refine bd_ ?_; exact BK414.out⟩, ⟨by have G0 := GE414; exact z10_⟩⟩
          rw [if_neg c49] at H
          exact absurd H (by simp)
         rw [if_neg c48] at H
         have c48b0 := decide_eq_false c48
         clear c48
         by_cases c54 : a1.size + 1 ≤ 9223372036854775807
         ·rw [if_pos c54] at H
          have c54b0 := eq_true c54
          have c54b1 := decide_eq_true c54
          try have c54b2 : (9223372036854775807 < a1.size + 1) = False := eq_false (Nat.not_lt.2 c54)
          by_cases c55 : (a1 ++ (⟨#[10]⟩ : ByteArray)).size + a2.size ≤ 9223372036854775807
          ·rw [if_pos c55] at H
           have c55b0 := eq_true c55
           have c55b1 := decide_eq_true c55
           try have c55b2 : (9223372036854775807 < (a1 ++ (⟨#[10]⟩ : ByteArray)).size + a2.size) = False := eq_false (Nat.not_lt.2 c55)
           try have c55b3 : (9223372036854775807 < a1.size + 1 + a2.size) = False := eq_false (by have h_ := c55; simp only [ByteArray.size_append] at h_; exact Nat.not_lt.2 h_)
           obtain ⟨⟨t446, t447, t448⟩, A56, H⟩ := bi_ H
           try dsimp only at H
           obtain ⟨t451, A57, H⟩ := bi_ H
           by_cases c58 : t451 = 0
           ·rw [if_pos c58] at H
            have c58b0 := beq_iff_eq.mpr c58
            have c58b1 := bne_eq_false_iff_eq.mpr c58
            clear c58
            by_cases c59 : ([] : List (S38)).length + t432.length < 1954687338268
            ·rw [if_pos c59] at H
             have LMc59 := Aside0.mk c59
             clear c59
             obtain ⟨y452, hy452⟩ : ∃ y_ : List (S38), y_ = (([] : List (S38)) ++ t432) := ⟨_, rfl⟩
             replace H : (if y452.length + x16_3.length < 1954687338268 then ((rhizomelaw04_same.f k3 t446 (y452 ++ x16_3)).bind fun t458 => (some t458)) else (none)) = some r := by first | (rw [hy452]; with_reducible exact H) | (have H2_ := (Option.bind_some _ _).symm.trans H; rw [hy452]; with_reducible exact H2_) | (have H2_ := (Option.bind_some _ _).symm.trans H; with_reducible exact H2_) | with_reducible exact H | (rw [hy452]; exact H) | exact H
             have Ny452 := Aside0.mk hy452
             clear hy452
             by_cases c60 : y452.length + x16_3.length < 1954687338268
             ·rw [if_pos c60] at H
              have LMc60 := Aside0.mk c60
              clear c60
              obtain ⟨y455, hy455⟩ : ∃ y_ : List (S38), y_ = (y452 ++ x16_3) := ⟨_, rfl⟩
              replace H : ((rhizomelaw04_same.f k3 t446 y455).bind fun t458 => (some t458)) = some r := by first | (rw [hy455]; with_reducible exact H) | (have H2_ := (Option.bind_some _ _).symm.trans H; rw [hy455]; with_reducible exact H2_) | (have H2_ := (Option.bind_some _ _).symm.trans H; with_reducible exact H2_) | with_reducible exact H | (rw [hy455]; exact H) | exact H
              have Ny455 := Aside0.mk hy455
              clear hy455
              obtain ⟨t458, A61, H⟩ := bi_ H
              obtain rfl := Option.some.inj H
              obtain ⟨Ao62, co62, eo62⟩ := Kd.R_slice HO_16.out
              subst eo62
              go_wp2_with (first | ((with_reducible refine gate_callee (f := 5) rfl ?_); refine goesL_ (some 111) rfl rfl Tryd.func5 k1_ rfl #[.string ((a1 ++ (⟨#[10]⟩ : ByteArray)) ++ a2)] rfl g1_ ?_; (with_reducible refine (lex_All.calls k3 ((a1 ++ (⟨#[10]⟩ : ByteArray)) ++ a2) t446 t447 t448 _ A56.out).mono ?_); rintro e w63 ⟨v449, rfl, ho0, hb⟩; refine ⟨_, rfl, ?_⟩; have HO450 := Aside0.mk (Kd.R_lower (Kd.R_new' (Kd.R_new' ho0 (Kd.R_lt (by have G0 := HO_13; exact z1_))) (Kd.R_lt (by have G0 := HO_16; exact z1_))) (below_size z13_)); replace HO_13 := Aside0.mk (Kd.R_elder' (by have G0 := HO_13; exact z1_) (Kd.R_base ho0) hb); replace HO_16 := Aside0.mk (Kd.R_elder' (by have G0 := HO_16; exact z1_) (Kd.R_base ho0) hb); replace BK414 := Aside0.mk (blk_below (g := gb414) (o := .cells #[.int .i64 a0_0, .string a0_1, .string a0_2] 31 (0, 0)) (bd_ BK414.out) hb); replace HB := Aside0.mk (below_step z13_ hb); (try clear hb); (try clear hb2); (try clear hk); (try clear hi); (try clear ho0)) | ((with_reducible refine gate_callee (f := 6) rfl ?_); refine goesL_ (some 116) rfl rfl Tryd.func6 k1_ rfl #[.int .i64 t448] rfl g1_ ?_; (with_reducible refine (rhizomelaw04_num.calls t448 t451 _ A57.out).mono ?_); rintro e w' ⟨rfl, ⟨nd, rfl⟩⟩; refine ⟨_, rfl, ?_⟩; obtain ⟨Ao65, co65, eo65⟩ := Kd.R_slice HO_13.out; subst eo65) | ((with_reducible refine gate_builtin (b := .append) (xs := #[(.const (.slice none 0 0)), .tmp 120]) rfl ?_); (try (refine gate_guard (by rfl) ?_; dsimp only)); at_builtin; refine Kd.R_append_rows k38 (w0 := w) w.heap.size rfl (.const (.slice none 0 0)) (.tmp 120) 23 38 (.agg #[(.int .i64 0), (.string ⟨#[]⟩), (.int .i64 0), (.string ⟨#[]⟩), (.string ⟨#[]⟩), (.int .i64 0)]) 72 rfl Tryd.underlying23 info38 rfl (by decide) (by omega) (.slice none 0 0) ([] : List (S38)) t432 _ _ _ (fun k_ => some k_ ≠ (.slice Ao65 t432.length co65 : Value).ownBlock ∧ some k_ ≠ (.slice Ao62 x16_3.length co62 : Value).ownBlock ∧ some k_ ≠ (v449 : Value).ownBlock) (fun _ => False) rfl rfl ?aO ?aR (fun _ _ h => h) (fun _ h => h.elim) ?aF ?aB ?aS ?aL ?_; (case aR => repeat (first | exact (Kd.R_reads' HO_13.out).2.2 | (with_reducible refine Kd.C_alloc ?_ _) | (with_reducible refine Kd.C_drewN ?_ _) | (with_reducible refine Kd.C_drew ?_))); (case aB => exact z13_); (case aF => exact (fun k_ hk => ⟨Kd.fresh' (Kd.R_lt (by have G0 := HO_13; exact z1_)) k_ hk, Kd.fresh' (Kd.R_lt (by have G0 := HO_16; exact z1_)) k_ hk, Kd.fresh' (Kd.R_lt (by have G0 := HO450; exact z1_)) k_ hk⟩)); (case aO => exact ((Kd.R_nil _ _ _ _ (fun k_ => some k_ ≠ (.slice Ao65 t432.length co65 : Value).ownBlock ∧ some k_ ≠ (.slice Ao62 x16_3.length co62 : Value).ownBlock ∧ some k_ ≠ (v449 : Value).ownBlock)))); (case aS => exact (below_size z13_)); (case aL => have := LMc59.out; omega); intro v453 w64 ho hb hg hat; rw [← Ny452.out] at ho; have HO454 := Aside0.mk (ho); replace HO_13 := Aside0.mk (Kd.R_after (Kd.R_apart_nil (by have G0 := HO_13; exact z1_)) hg hat); replace HO_16 := Aside0.mk (Kd.R_after (Kd.R_apart_nil (by have G0 := HO_16; exact z1_)) hg hat); replace BK414 := Aside0.mk (blk_grown (g := gb414) (o := .cells #[.int .i64 a0_0, .string a0_1, .string a0_2] 31 (0, 0)) (bd_ BK414.out) hg (by simp [Value.ownBlock])); replace HO450 := Aside0.mk (Kd.R_after (Kd.R_apart_nil (by have G0 := HO450; exact z1_)) hg hat); replace HB := Aside0.mk (hb); clear ho hb hg hat) | ((with_reducible refine gate_builtin (b := .append) (xs := #[(.tmp 121), .tmp 122]) rfl ?_); (try (refine gate_guard (by rfl) ?_; dsimp only)); at_builtin; refine Kd.R_append_rows k38 (w0 := w) w.heap.size rfl (.tmp 121) (.tmp 122) 23 38 (.agg #[(.int .i64 0), (.string ⟨#[]⟩), (.int .i64 0), (.string ⟨#[]⟩), (.string ⟨#[]⟩), (.int .i64 0)]) 72 rfl Tryd.underlying23 info38 rfl (by decide) (by omega) v453 y452 x16_3 _ _ _ (fun k_ => some k_ ≠ (.slice Ao65 t432.length co65 : Value).ownBlock ∧ some k_ ≠ (.slice Ao62 x16_3.length co62 : Value).ownBlock ∧ some k_ ≠ (v449 : Value).ownBlock) (fun _ => False) rfl rfl ?aO ?aR (fun _ _ h => h) (fun _ h => h.elim) ?aF ?aB ?aS ?aL ?_; (case aR => repeat (first | exact (Kd.R_reads' HO_16.out).2.2 | (with_reducible refine Kd.C_alloc ?_ _) | (with_reducible refine Kd.C_drewN ?_ _) | (with_reducible refine Kd.C_drew ?_))); (case aB => exact z13_); (case aF => exact (fun k_ hk => ⟨Kd.fresh' (Kd.R_lt (by have G0 := HO_13; exact z1_)) k_ hk, Kd.fresh' (Kd.R_lt (by have G0 := HO_16; exact z1_)) k_ hk, Kd.fresh' (Kd.R_lt (by have G0 := HO450; exact z1_)) k_ hk⟩)); (case aO => exact (by have G0 := HO454; exact z1_)); (case aS => exact (below_size z13_)); (case aL => have := LMc60.out; omega); intro v456 w66 ho hb hg hat; rw [← Ny455.out] at ho; have n0_ := Aside0.mk (Kd.R_after (ok := (fun k_ => some k_ ≠ (.slice Ao62 x16_3.length co62 : Value).ownBlock ∧ some k_ ≠ (v449 : Value).ownBlock)) (by have G0 := HO_13; exact z1_) hg hat); have n1_ := Aside0.mk (Kd.R_after (ok := (fun k_ => some k_ ≠ (.slice Ao65 t432.length co65 : Value).ownBlock ∧ some k_ ≠ (v449 : Value).ownBlock)) (by have G0 := HO_16; exact z1_) hg hat); have n2_ := Aside0.mk (blk_grown (g := gb414) (o := .cells #[.int .i64 a0_0, .string a0_1, .string a0_2] 31 (0, 0)) (bd_ BK414.out) hg (Kd.R_ne HO454.out BK414.out (by decide))); have n3_ := Aside0.mk (Kd.R_after (ok := (fun k_ => some k_ ≠ (.slice Ao65 t432.length co65 : Value).ownBlock ∧ some k_ ≠ (.slice Ao62 x16_3.length co62 : Value).ownBlock)) (by (with_reducible repeat (first | apply Kd.R_alloc | apply Kd.R_drewN | apply Kd.R_drew)); exact Kd.R_mono HO450.out (fun _ hk => ⟨⟨hk.1.1.2, hk.1.2⟩, hk.2⟩)) hg hat); have n4_ := Aside0.mk (hb); have n5_ := Aside0.mk (ho); clear HO_13; clear HO_16; clear BK414; clear HO450; clear HB; clear HO454; have HO_13 := n0_; have HO_16 := n1_; have BK414 := n2_; have HO450 := n3_; have HB := n4_; have HO457 := n5_; clear n0_ n1_ n2_ n3_ n4_ n5_; clear ho hb hg hat; obtain ⟨Ao67, co67, eo67⟩ := Kd.R_slice HO450.out; subst eo67; obtain ⟨Ao68, co68, eo68⟩ := Kd.R_slice HO457.out; subst eo68) | (go_at_call 12; (with_reducible refine (rhizomelaw04_same.calls k3 _ _ t446 _ _ y455 t458 _ ?side1 ?side2 ?side3 ?side4 A61.out).mono ?_); (case side1 => exact (by have G0 := HO450; exact z50_)); (case side2 => exact (Kd.R_reads' HO450.out).2.1); (case side3 => exact (by have G0 := HO457; exact z50_)); (case side4 => exact (Kd.R_reads' HO457.out).2.1); rintro e w' ⟨rfl, ⟨nd, rfl⟩⟩))
              go_ret
              exact ⟨e2_, by have G0 := GE414; exact z10_⟩
             rw [if_neg c60] at H
             exact absurd H (by simp)
            rw [if_neg c59] at H
            exact absurd H (by simp)
           rw [if_neg c58] at H
           exact absurd H (by simp)
          rw [if_neg c55] at H
          exact absurd H (by simp)
         rw [if_neg c54] at H
         exact absurd H (by simp)
      rw [if_neg c45] at H
      have c45b0 := beq_eq_false_iff_ne.mpr c45
      have c45b1 := bne_iff_ne.mpr c45
      obtain rfl := Option.some.inj H
      go_wp2_with (first | ((with_reducible refine gate_callee (f := 5) rfl ?_); refine goesL_ (some 71) rfl rfl Tryd.func5 k1_ rfl #[.string a1] rfl g1_ ?_; (with_reducible refine (lex_All.calls kj19 a1 t432 t433 t434 _ A41.out).mono ?_); rintro e w69 ⟨v435, rfl, ho0, hb⟩; refine ⟨_, rfl, ?_⟩; have HO436 := Aside0.mk (Kd.R_lower ho0 (below_size z13_)); replace BK414 := Aside0.mk (blk_below (g := gb414) (o := .cells #[.int .i64 a0_0, .string a0_1, .string a0_2] 31 (0, 0)) (bd_ BK414.out) hb); replace HB := Aside0.mk (below_step z13_ hb); (try clear hb); (try clear hb2); (try clear hk); (try clear hi); (try clear ho0)) | ((with_reducible refine gate_callee (f := 5) rfl ?_); refine goesL_ (some 77) rfl rfl Tryd.func5 k1_ rfl #[.string a2] rfl g1_ ?_; (with_reducible refine (lex_All.calls kj19 a2 t437 t438 t439 _ A42.out).mono ?_); rintro e w70 ⟨v440, rfl, ho0, hb⟩; refine ⟨_, rfl, ?_⟩; have HO441 := Aside0.mk (Kd.R_lower (Kd.R_new' ho0 (Kd.R_lt (by have G0 := HO436; exact z1_))) (below_size z13_)); replace HO436 := Aside0.mk (Kd.R_elder' (by have G0 := HO436; exact z1_) (Kd.R_base ho0) hb); replace BK414 := Aside0.mk (blk_below (g := gb414) (o := .cells #[.int .i64 a0_0, .string a0_1, .string a0_2] 31 (0, 0)) (bd_ BK414.out) hb); replace HB := Aside0.mk (below_step z13_ hb); (try clear hb); (try clear hb2); (try clear hk); (try clear hi); (try clear ho0)) | ((with_reducible refine gate_callee (f := 6) rfl ?_); refine goesL_ (some 82) rfl rfl Tryd.func6 k1_ rfl #[.int .i64 t434] rfl g1_ ?_; (with_reducible refine (rhizomelaw04_num.calls t434 t442 _ A43.out).mono ?_); rintro e w' ⟨rfl, ⟨nd, rfl⟩⟩; refine ⟨_, rfl, ?_⟩) | ((with_reducible refine gate_callee (f := 6) rfl ?_); refine goesL_ (some 84) rfl rfl Tryd.func6 k1_ rfl #[.int .i64 t439] rfl g1_ ?_; (with_reducible refine (rhizomelaw04_num.calls t439 t443 _ A44.out).mono ?_); rintro e w' ⟨rfl, ⟨nd, rfl⟩⟩; refine ⟨_, rfl, ?_⟩))
      go_ret
      exact ⟨e2_, by have G0 := GE414; exact z10_⟩
 replace c5 := Bool.eq_false_iff.mpr c5
 subst c5
 rw [if_neg (show ¬ (false = true) by decide)] at H
 exact absurd H (by simp)
end Go.Proofs.YtpbphelaeleikaaDoor.PMean

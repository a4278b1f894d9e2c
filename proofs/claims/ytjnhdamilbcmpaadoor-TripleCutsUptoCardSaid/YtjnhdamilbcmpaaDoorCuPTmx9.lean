import Derived.Test.YtjnhdamilbcmpaaDoorCuPTmx0
import Derived.Test.YtjnhdamilbcmpaaDoorCuPTmx5
import Derived.Test.YtjnhdamilbcmpaaDoorCuPTmx6
import Derived.Test.YtjnhdamilbcmpaaDoorCuPTmx7
import Derived.Test.YtjnhdamilbcmpaaDoorCuPTmx8
namespace Go.Proofs.YtjnhdamilbcmpaaDoor.PTm
open Go.RowKit Go.Proofs.YtjnhdamilbcmpaaDoorW.PrintWords Go.Proofs.YtjnhdamilbcmpaaDoorW.PrintLast Go.Proofs.YtjnhdamilbcmpaaDoorW.PrintMore
attribute [local go_sem] max2_int min2_int max_two min_two max_three min_three max_four min_four
set_option linter.unusedVariables false
set_option linter.unusedSimpArgs false
set_option maxHeartbeats 8000000
set_option maxRecDepth 100000
def ls_blank.j0 : Nat → Bool → ByteArray → Int → Option (Int × ByteArray × Int × ByteArray × ByteArray × Int × Bool × ByteArray × Int)
 | 0, _, _, _ => none
 | k + 1, x22, x1000, x1001 => if x22 = true then (some (0, (⟨#[]⟩ : ByteArray), 0, (⟨#[]⟩ : ByteArray), (⟨#[]⟩ : ByteArray), 0, false, x1000, x1001)) else ((ls_run.f k x1000 (wrap64 (x1001 + 2)) x1001 64 66).bind fun bt215 => ((term_May.f k 2 bt215.1 (⟨#[]⟩ : ByteArray)).bind fun t219 => (if t219 = true then (some (2, (⟨#[]⟩ : ByteArray), 2, bt215.1, (⟨#[]⟩ : ByteArray), 0, true, bt215.2.1, bt215.2.2)) else ((ls_fail.f bt215.2.1 bt215.2.2 x1001).bind fun bt220 => (some (2, (⟨#[]⟩ : ByteArray), 2, bt215.1, (⟨#[]⟩ : ByteArray), 0, true, bt220.1, bt220.2))))))
def ls_blank.f (k : Nat) (s0_0 : ByteArray) (s0_1 : Int) : Option (Int × ByteArray × Int × ByteArray × ByteArray × Int × Bool × ByteArray × Int) := (ls_ch.f s0_0 s0_1 s0_1).bind fun bt209 => (if bt209.1 = 95 then ((ls_ch.f bt209.2.1 bt209.2.2 (wrap64 (bt209.2.2 + 1))).bind fun bt212 => (ls_blank.j0 k (bt212.1 != 58) bt212.2.1 bt212.2.2)) else (ls_blank.j0 k true bt209.2.1 bt209.2.2))
theorem ls_blank.calls (k : Nat) (g : Nat) (s0_0 : ByteArray) (s0_1 : Int) (r1 : Int) (r2 : ByteArray) (r3 : Int) (r4 : ByteArray) (r5 : ByteArray) (r6 : Int) (r7 : Bool) (r8 : ByteArray) (r9 : Int) (w0 w : World) (hI : IsS65 w0 w g s0_0 s0_1) (hB : Below w0.heap.size w0 w) (h : ls_blank.f k s0_0 s0_1 = some (r1, r2, r3, r4, r5, r6, r7, r8, r9)) :
  Calls Tryd.prog 44 #[.pointer (some ⟨g, 0, none⟩)] w fun e w' => e = .returned (.tuple #[.agg #[.int .i64 r1, .string r2, .int .i64 r3, .string r4, .string r5, .int .i64 r6], .bool r7]) ∧ IsS65 w0 w' g r8 r9 ∧ Below w0.heap.size w0 w' ∧ KeepBut w w' g none := by
 have hu56 := Tryd.underlying56
 have hu36 := Tryd.underlying36
 have HI0 := Ad.mk hI
 have HK := Ad.mk (KeepBut.refl w g none)
 have HL := Ad.mk hB.size
 clear hI
 have HW0 := Ad.mk hB.size
 have HB := Ad.mk hB
 clear hB
 have H := h
 clear h
 unfold ls_blank.f at H
 have HC2 := Ad.mk H
 clear H
 go_enter Tryd.func44, Tryd.ntmps44
 go_upto_region 1 with (first | ((with_reducible refine gate_dst (N := 2) rfl ?_); refine box_event r1_ (N := 2) r1_ (cs := #[.int .i64 0, .string ⟨#[]⟩, .int .i64 0, .string ⟨#[]⟩, .string ⟨#[]⟩, .int .i64 0]) (t := 56) r2_ ?_; intro gb208 hg w3 hbox hb; have BK208 := Ad.mk (hbox); have GW208 := Ad.mk ((z12_ : w.heap.size ≤ gb208)); have GE208 := Ad.mk ((Nat.le_trans HW0.out (z12_ : w.heap.size ≤ gb208) : w0.heap.size ≤ gb208)); have NB0_208 := Ad.mk ((by have G0 := HI0; exact z21_ : g ≠ gb208)); have NB208_0 := Ad.mk ((by have G0 := HI0; exact z22_ : gb208 ≠ g)); replace HK := Ad.mk (KeepBut.trans z3_ (KeepBut.of_below hb g none) (.inl rfl)); replace HB := Ad.mk (below_step (by have G0 := HI0; exact z4_) hb); replace HI0 := Ad.mk (IsS65.below (by have G0 := HI0; exact z2_) hb); clear hb hbox hg))
 (try simp only [Act.put, List.setIfInBounds_toArray, List.set_cons_zero, List.set_cons_succ])
 go_cut [22] (fun v22 wc => ∃ (kq : Nat) (x22_1 : Bool) (x1000_1 : ByteArray) (x1001_1 : Int), v22 = .bool x22_1 ∧ Ad (ls_blank.j0 kq x22_1 x1000_1 x1001_1 = some (r1, r2, r3, r4, r5, r6, r7, r8, r9)) ∧ Ad (kq ≤ k) ∧ Ad (wc.heap[gb208]? = some (.cells #[.int .i64 0, .string ⟨#[]⟩, .int .i64 0, .string ⟨#[]⟩, .string ⟨#[]⟩, .int .i64 0] 56 (0, 0))) ∧ Ad (IsS65 w0 wc g x1000_1 x1001_1) ∧ Ad (KeepBut w wc g none) ∧ Ad (Below w0.heap.size w0 wc))
 case first =>
  have H := HC2.out
  clear HC2
  obtain ⟨⟨t209, t210, t211⟩, A4, H⟩ := bi_ H
  try dsimp only at H
  by_cases c5 : t209 = 95
  ·rw [if_pos c5] at H
   have c5b0 := beq_iff_eq.mpr c5
   have c5b1 := bne_eq_false_iff_eq.mpr c5
   clear c5
   (first | rw [c5b0] | (simp only [i64_w, i32_w]; rw [c5b0]) | skip)
   obtain ⟨⟨t212, t213, t214⟩, A6, H⟩ := bi_ H
   try dsimp only at H
   have H' := Ad.mk H
   clear H
   obtain ⟨HGz7, hgz7⟩ := HI0.out
   have hcz7_0 := cellS65_0 HGz7
   have hcz7_1 := cellS65_1 HGz7
   have hfz7_0 := blk_frozen HGz7 0
   have hfz7_1 := blk_frozen HGz7 1
   clear HGz7 hgz7
   go_wp2_with (first | ((with_reducible refine gate_callee (f := 63) rfl ?_); refine goesL_ (some 11) rfl rfl Tryd.func63 k1_ rfl #[.pointer (some ⟨g, 0, none⟩), .int .i64 s0_1] rfl g1_ ?_; (with_reducible refine (ls_ch.calls g s0_0 s0_1 s0_1 t209 t210 t211 w0 _ ?side1 ?side2 A4.out).mono ?_); (case side1 => exact (by have G0 := HI0; have G1 := NB0_208; exact z7_)); (case side2 => exact (by have G0 := HI0; have G1 := GE208; exact z8_)); rintro e w8 ⟨rfl, hi, hb, hk⟩; refine ⟨_, rfl, ?_⟩; replace BK208 := Ad.mk (KeepBut.blk hk (g' := gb208) (o := .cells #[.int .i64 0, .string ⟨#[]⟩, .int .i64 0, .string ⟨#[]⟩, .string ⟨#[]⟩, .int .i64 0] 56 (0, 0)) (bd_ BK208.out) NB208_0.out (by simp)); replace HK := Ad.mk (KeepBut.trans (by have G0 := GW208; exact z6_) hk (.inl rfl)); replace HB := Ad.mk (hb); replace HI0 := Ad.mk (hi); clear hb hk hi; obtain ⟨HGz9, hgz9⟩ := HI0.out; have hcz9_0 := cellS65_0 HGz9; have hcz9_1 := cellS65_1 HGz9; have hfz9_0 := blk_frozen HGz9 0; have hfz9_1 := blk_frozen HGz9 1; clear HGz9 hgz9) | (go_at_call 63; (with_reducible refine (ls_ch.calls g t210 t211 (wrap64 (t211 + 1)) t212 t213 t214 w0 _ ?side1 ?side2 A6.out).mono ?_); (case side1 => exact (by have G0 := HI0; have G1 := NB0_208; exact z7_)); (case side2 => exact (by have G0 := HI0; have G1 := GE208; exact z8_)); rintro e w10 ⟨rfl, hi, hb, hk⟩; replace BK208 := Ad.mk (KeepBut.blk hk (g' := gb208) (o := .cells #[.int .i64 0, .string ⟨#[]⟩, .int .i64 0, .string ⟨#[]⟩, .string ⟨#[]⟩, .int .i64 0] 56 (0, 0)) (bd_ BK208.out) NB208_0.out (by simp)); replace HK := Ad.mk (KeepBut.trans (by have G0 := GW208; exact z6_) hk (.inl rfl)); replace HB := Ad.mk (hb); replace HI0 := Ad.mk (hi); clear hb hk hi))
   go_meet
   case rel => exact ⟨_, ((t212 != 58)), (t213), (t214), e1_, H', ⟨z20_⟩, ⟨by refine bd_ ?_; exact BK208.out⟩, ⟨by have G0 := HI0; have G1 := NB0_208; exact z7_⟩, ⟨by have G0 := GW208; exact z6_⟩, ⟨by have G0 := HI0; have G1 := GE208; exact z8_⟩⟩
  rw [if_neg c5] at H
  have c5b0 := beq_eq_false_iff_ne.mpr c5
  have c5b1 := bne_iff_ne.mpr c5
  (first | rw [c5b0] | (simp only [i64_w, i32_w]; rw [c5b0]) | skip)
  have H' := Ad.mk H
  clear H
  obtain ⟨HGz11, hgz11⟩ := HI0.out
  have hcz11_0 := cellS65_0 HGz11
  have hcz11_1 := cellS65_1 HGz11
  have hfz11_0 := blk_frozen HGz11 0
  have hfz11_1 := blk_frozen HGz11 1
  clear HGz11 hgz11
  go_wp2_with (first | ((with_reducible refine gate_callee (f := 63) rfl ?_); refine goesL_ (some 11) rfl rfl Tryd.func63 k1_ rfl #[.pointer (some ⟨g, 0, none⟩), .int .i64 s0_1] rfl g1_ ?_; (with_reducible refine (ls_ch.calls g s0_0 s0_1 s0_1 t209 t210 t211 w0 _ ?side1 ?side2 A4.out).mono ?_); (case side1 => exact (by have G0 := HI0; have G1 := NB0_208; exact z7_)); (case side2 => exact (by have G0 := HI0; have G1 := GE208; exact z8_)); rintro e w12 ⟨rfl, hi, hb, hk⟩; refine ⟨_, rfl, ?_⟩; replace BK208 := Ad.mk (KeepBut.blk hk (g' := gb208) (o := .cells #[.int .i64 0, .string ⟨#[]⟩, .int .i64 0, .string ⟨#[]⟩, .string ⟨#[]⟩, .int .i64 0] 56 (0, 0)) (bd_ BK208.out) NB208_0.out (by simp)); replace HK := Ad.mk (KeepBut.trans (by have G0 := GW208; exact z6_) hk (.inl rfl)); replace HB := Ad.mk (hb); replace HI0 := Ad.mk (hi); clear hb hk hi))
  go_meet
  case rel => exact ⟨_, (true), (t210), (t211), e1_, H', ⟨z20_⟩, ⟨by refine bd_ ?_; exact BK208.out⟩, ⟨by have G0 := HI0; have G1 := NB0_208; exact z7_⟩, ⟨by have G0 := GW208; exact z6_⟩, ⟨by have G0 := HI0; have G1 := GE208; exact z8_⟩⟩
 case rest =>
  clear HC2
  obtain ⟨kq, x22_1, x1000_1, x1001_1, rfl, HA, HJ1, BK208, HI0, HK, HB⟩ := hcut
  cases kq with
  | zero => exact absurd HA.out (by simp [ls_blank.j0])
  | succ kj1 =>
   have H := HA.out
   clear HA
   simp only [ls_blank.j0] at H
   by_cases c13 : x22_1 = true
   ·subst c13
    rw [if_pos rfl] at H
    simp only [Option.some.injEq, Prod.mk.injEq] at H
    obtain ⟨rfl, rfl, rfl, rfl, rfl, rfl, rfl, rfl, rfl⟩ := H
    have hnb14 := NB208_0.out
    have hnc14 := NB0_208.out
    obtain ⟨⟨hcz15_0, hcz15_1, hcz15_2, hcz15_3, hcz15_4, hcz15_5⟩, hfz15_0, hfz15_1, hfz15_2, hfz15_3, hfz15_4, hfz15_5⟩ := c6_ BK208.out
    go_wp2
    refine bodyPost_ret (results_ct rfl _ _ gb208 56 #[.int .i64 0, .string ⟨#[]⟩, .int .i64 0, .string ⟨#[]⟩, .string ⟨#[]⟩, .int .i64 0] (0, 0) _ rfl (by have G0 := BK208; exact z32_) Tryd.underlying56 rfl k1_) rfl ?_
    exact ⟨e2_, by have G0 := HI0; have G1 := NB0_208; exact z7_, by have G0 := HI0; have G1 := GE208; exact z8_, by have G0 := GW208; exact z6_⟩
   replace c13 := Bool.eq_false_iff.mpr c13
   subst c13
   rw [if_neg (show ¬ (false = true) by decide)] at H
   obtain ⟨⟨t215, t216, t217⟩, A16, H⟩ := bi_ H
   try dsimp only at H
   obtain ⟨t219, A17, H⟩ := bi_ H
   by_cases c18 : t219 = true
   ·subst c18
    rw [if_pos rfl] at H
    simp only [Option.some.injEq, Prod.mk.injEq] at H
    obtain ⟨rfl, rfl, rfl, rfl, rfl, rfl, rfl, rfl, rfl⟩ := H
    obtain ⟨HGz19, hgz19⟩ := HI0.out
    have hcz19_0 := cellS65_0 HGz19
    have hcz19_1 := cellS65_1 HGz19
    have hfz19_0 := blk_frozen HGz19 0
    have hfz19_1 := blk_frozen HGz19 1
    clear HGz19 hgz19
    go_wp2_with (first | ((with_reducible refine gate_callee (f := 65) rfl ?_); refine goesL_ (some 37) rfl rfl Tryd.func65 k1_ rfl #[.pointer (some ⟨g, 0, none⟩), .int .i64 x1001_1, .int .i64 64, .func (.func 66) #[] #[]] rfl g1_ ?_; (with_reducible refine (ls_run.calls kj1 g x1000_1 (wrap64 (x1001_1 + 2)) x1001_1 64 66 t215 t216 t217 w0 _ ?side1 ?side2 A16.out).mono ?_); (case side1 => exact (by have G0 := HI0; have G1 := NB0_208; exact z7_)); (case side2 => exact (by have G0 := HI0; have G1 := GE208; exact z8_)); rintro e w20 ⟨rfl, hi, hb, hk⟩; refine ⟨_, rfl, ?_⟩; replace BK208 := Ad.mk (KeepBut.blk hk (g' := gb208) (o := .cells #[.int .i64 0, .string ⟨#[]⟩, .int .i64 0, .string ⟨#[]⟩, .string ⟨#[]⟩, .int .i64 0] 56 (0, 0)) (by have G0 := NB208_0; have G1 := BK208; exact z31_) NB208_0.out (by simp)); replace HK := Ad.mk (KeepBut.trans (by have G0 := GW208; exact z6_) hk (.inl rfl)); replace HB := Ad.mk (hb); replace HI0 := Ad.mk (hi); clear hb hk hi) | ((with_reducible refine gate_dst (N := 5) rfl ?_); refine box_event r1_ (N := 5) r1_ (cs := #[.int .i64 0, .string ⟨#[]⟩, .string ⟨#[]⟩]) (t := 36) r2_ ?_; intro gb218 hg w21 hbox hb; have BK218 := Ad.mk (hbox); have GW218 := Ad.mk ((by have G0 := GW208; exact z30_ : w.heap.size ≤ gb218)); have GE218 := Ad.mk ((Nat.le_trans HW0.out (by have G0 := GW208; exact z30_ : w.heap.size ≤ gb218) : w0.heap.size ≤ gb218)); have NB208_218 := Ad.mk ((by have G0 := BK208; exact z61_ : gb208 ≠ gb218)); have NB218_208 := Ad.mk ((by have G0 := BK208; exact z62_ : gb218 ≠ gb208)); have NB0_218 := Ad.mk ((by have G0 := HI0; have G1 := NB0_208; exact z63_ : g ≠ gb218)); have NB218_0 := Ad.mk ((by have G0 := HI0; have G1 := NB0_208; exact z64_ : gb218 ≠ g)); replace BK208 := Ad.mk (blk_below (g := gb208) (o := .cells #[.int .i64 0, .string ⟨#[]⟩, .int .i64 0, .string ⟨#[]⟩, .string ⟨#[]⟩, .int .i64 0] 56 (0, 0)) (bd_ BK208.out) hb); replace HK := Ad.mk (KeepBut.trans (by have G0 := GW208; exact z6_) (KeepBut.of_below hb g none) (.inl rfl)); replace HB := Ad.mk (below_step (by have G0 := HI0; have G1 := GE208; exact z8_) hb); replace HI0 := Ad.mk (IsS65.below (by have G0 := HI0; have G1 := NB0_208; exact z7_) hb); clear hb hbox hg; have hnb22 := NB218_208.out; have hnc22 := NB208_218.out; have hnb23 := NB218_0.out; have hnc23 := NB0_218.out; have hcz24_0 := cl_ (.int .i64 0) BK218.out 0; have hcz24_1 := cl_ (.string ⟨#[]⟩) BK218.out 1; have hcz24_2 := cl_ (.string ⟨#[]⟩) BK218.out 2; have hfz24_0 := blk_frozen BK218.out 0; have hfz24_1 := blk_frozen BK218.out 1; have hfz24_2 := blk_frozen BK218.out 2) | ((with_reducible refine gate_callee (f := 28) rfl ?_); refine goesL_ (some 40) rfl rfl Tryd.func28 k1_ rfl #[.agg #[.int .i64 2, .string t215, .string ⟨#[]⟩]] rfl g1_ ?_; (with_reducible refine (term_May.calls kj1 2 t215 (⟨#[]⟩ : ByteArray) true _ A17.out).mono ?_); rintro e w25 ⟨rfl, hb⟩; refine ⟨_, rfl, ?_⟩; replace BK208 := Ad.mk (blk_below (g := gb208) (o := .cells #[.int .i64 0, .string ⟨#[]⟩, .int .i64 0, .string ⟨#[]⟩, .string ⟨#[]⟩, .int .i64 0] 56 (0, 0)) (by have G0 := NB208_218; have G1 := BK208; exact z45_) hb); replace BK218 := Ad.mk (blk_below (g := gb218) (o := .cells #[.int .i64 2, .string t215, .string ⟨#[]⟩] 36 (0, 0)) (by have G0 := BK218; exact z65_) hb); replace HK := Ad.mk (KeepBut.trans (by have G0 := GW208; have G1 := GW218; exact z25_) (KeepBut.of_below hb g none) (.inl rfl)); replace HB := Ad.mk (below_step (by have G0 := HI0; have G1 := GE208; have G2 := GE218; exact z26_) hb); replace HI0 := Ad.mk (IsS65.below (show IsS65 w0 (((w21.setCell ⟨gb218, 0, none⟩ (.int .i64 2)).setCell ⟨gb218, 1, none⟩ (.string t215)).setCell ⟨gb218, 2, none⟩ (.string ⟨#[]⟩)) g t216 t217 from by have G0 := HI0; have G1 := NB0_208; have G2 := NB0_218; exact z27_) hb); clear hb; have hcz26_0 := cl_ (.int .i64 2) BK218.out 0; have hcz26_1 := cl_ (.string t215) BK218.out 1; have hcz26_2 := cl_ (.string ⟨#[]⟩) BK218.out 2; have hfz26_0 := blk_frozen BK218.out 0; have hfz26_1 := blk_frozen BK218.out 1; have hfz26_2 := blk_frozen BK218.out 2; have hnb27 := NB208_0.out; have hnc27 := NB0_208.out; obtain ⟨⟨hcz28_0, hcz28_1, hcz28_2, hcz28_3, hcz28_4, hcz28_5⟩, hfz28_0, hfz28_1, hfz28_2, hfz28_3, hfz28_4, hfz28_5⟩ := c6_ BK208.out))
    refine bodyPost_ret (results_ct rfl _ _ gb208 56 #[.int .i64 2, .string ⟨#[]⟩, .int .i64 2, .string t215, .string ⟨#[]⟩, .int .i64 0] (0, 0) _ rfl (by have G0 := BK208; exact z66_) Tryd.underlying56 rfl k1_) rfl ?_
    exact ⟨e2_, by have G0 := HI0; have G1 := NB0_208; have G2 := NB0_218; exact z27_, by have G0 := HI0; have G1 := GE208; have G2 := GE218; exact z26_, by have G0 := GW208; have G1 := GW218; exact z25_⟩
   replace c18 := Bool.eq_false_iff.mpr c18
   subst c18
   rw [if_neg (show ¬ (false = true) by decide)] at H
   obtain ⟨⟨t220, t221⟩, A29, H⟩ := bi_ H
   try dsimp only at H
   simp only [Option.some.injEq, Prod.mk.injEq] at H
   obtain ⟨rfl, rfl, rfl, rfl, rfl, rfl, rfl, rfl, rfl⟩ := H
   obtain ⟨HGz30, hgz30⟩ := HI0.out
   have hcz30_0 := cellS65_0 HGz30
   have hcz30_1 := cellS65_1 HGz30
   have hfz30_0 := blk_frozen HGz30 0
   have hfz30_1 := blk_frozen HGz30 1
   clear HGz30 hgz30
   go_wp2_with (first | ((with_reducible refine gate_callee (f := 65) rfl ?_); refine goesL_ (some 37) rfl rfl Tryd.func65 k1_ rfl #[.pointer (some ⟨g, 0, none⟩), .int .i64 x1001_1, .int .i64 64, .func (.func 66) #[] #[]] rfl g1_ ?_; (with_reducible refine (ls_run.calls kj1 g x1000_1 (wrap64 (x1001_1 + 2)) x1001_1 64 66 t215 t216 t217 w0 _ ?side1 ?side2 A16.out).mono ?_); (case side1 => exact (by have G0 := HI0; have G1 := NB0_208; exact z7_)); (case side2 => exact (by have G0 := HI0; have G1 := GE208; exact z8_)); rintro e w31 ⟨rfl, hi, hb, hk⟩; refine ⟨_, rfl, ?_⟩; replace BK208 := Ad.mk (KeepBut.blk hk (g' := gb208) (o := .cells #[.int .i64 0, .string ⟨#[]⟩, .int .i64 0, .string ⟨#[]⟩, .string ⟨#[]⟩, .int .i64 0] 56 (0, 0)) (by have G0 := NB208_0; have G1 := BK208; exact z31_) NB208_0.out (by simp)); replace HK := Ad.mk (KeepBut.trans (by have G0 := GW208; exact z6_) hk (.inl rfl)); replace HB := Ad.mk (hb); replace HI0 := Ad.mk (hi); clear hb hk hi) | ((with_reducible refine gate_dst (N := 5) rfl ?_); refine box_event r1_ (N := 5) r1_ (cs := #[.int .i64 0, .string ⟨#[]⟩, .string ⟨#[]⟩]) (t := 36) r2_ ?_; intro gb218 hg w32 hbox hb; have BK218 := Ad.mk (hbox); have GW218 := Ad.mk ((by have G0 := GW208; exact z30_ : w.heap.size ≤ gb218)); have GE218 := Ad.mk ((Nat.le_trans HW0.out (by have G0 := GW208; exact z30_ : w.heap.size ≤ gb218) : w0.heap.size ≤ gb218)); have NB208_218 := Ad.mk ((by have G0 := BK208; exact z61_ : gb208 ≠ gb218)); have NB218_208 := Ad.mk ((by have G0 := BK208; exact z62_ : gb218 ≠ gb208)); have NB0_218 := Ad.mk ((by have G0 := HI0; have G1 := NB0_208; exact z63_ : g ≠ gb218)); have NB218_0 := Ad.mk ((by have G0 := HI0; have G1 := NB0_208; exact z64_ : gb218 ≠ g)); replace BK208 := Ad.mk (blk_below (g := gb208) (o := .cells #[.int .i64 0, .string ⟨#[]⟩, .int .i64 0, .string ⟨#[]⟩, .string ⟨#[]⟩, .int .i64 0] 56 (0, 0)) (bd_ BK208.out) hb); replace HK := Ad.mk (KeepBut.trans (by have G0 := GW208; exact z6_) (KeepBut.of_below hb g none) (.inl rfl)); replace HB := Ad.mk (below_step (by have G0 := HI0; have G1 := GE208; exact z8_) hb); replace HI0 := Ad.mk (IsS65.below (by have G0 := HI0; have G1 := NB0_208; exact z7_) hb); clear hb hbox hg; have hnb33 := NB218_208.out; have hnc33 := NB208_218.out; have hnb34 := NB218_0.out; have hnc34 := NB0_218.out; have hcz35_0 := cl_ (.int .i64 0) BK218.out 0; have hcz35_1 := cl_ (.string ⟨#[]⟩) BK218.out 1; have hcz35_2 := cl_ (.string ⟨#[]⟩) BK218.out 2; have hfz35_0 := blk_frozen BK218.out 0; have hfz35_1 := blk_frozen BK218.out 1; have hfz35_2 := blk_frozen BK218.out 2) | ((with_reducible refine gate_callee (f := 28) rfl ?_); refine goesL_ (some 40) rfl rfl Tryd.func28 k1_ rfl #[.agg #[.int .i64 2, .string t215, .string ⟨#[]⟩]] rfl g1_ ?_; (with_reducible refine (term_May.calls kj1 2 t215 (⟨#[]⟩ : ByteArray) false _ A17.out).mono ?_); rintro e w36 ⟨rfl, hb⟩; refine ⟨_, rfl, ?_⟩; replace BK208 := Ad.mk (blk_below (g := gb208) (o := .cells #[.int .i64 0, .string ⟨#[]⟩, .int .i64 0, .string ⟨#[]⟩, .string ⟨#[]⟩, .int .i64 0] 56 (0, 0)) (by have G0 := NB208_218; have G1 := BK208; exact z45_) hb); replace BK218 := Ad.mk (blk_below (g := gb218) (o := .cells #[.int .i64 2, .string t215, .string ⟨#[]⟩] 36 (0, 0)) (by have G0 := BK218; exact z65_) hb); replace HK := Ad.mk (KeepBut.trans (by have G0 := GW208; have G1 := GW218; exact z25_) (KeepBut.of_below hb g none) (.inl rfl)); replace HB := Ad.mk (below_step (by have G0 := HI0; have G1 := GE208; have G2 := GE218; exact z26_) hb); replace HI0 := Ad.mk (IsS65.below (show IsS65 w0 (((w32.setCell ⟨gb218, 0, none⟩ (.int .i64 2)).setCell ⟨gb218, 1, none⟩ (.string t215)).setCell ⟨gb218, 2, none⟩ (.string ⟨#[]⟩)) g t216 t217 from by have G0 := HI0; have G1 := NB0_208; have G2 := NB0_218; exact z27_) hb); clear hb) | ((with_reducible refine gate_callee (f := 50) rfl ?_); refine goesL_ (some 44) rfl rfl Tryd.func50 k1_ rfl #[.pointer (some ⟨g, 0, none⟩), .int .i64 x1001_1] rfl g1_ ?_; (with_reducible refine (ls_fail.calls g t216 t217 x1001_1 t220 t221 w0 _ ?side1 ?side2 A29.out).mono ?_); (case side1 => exact (by have G0 := HI0; have G1 := NB0_208; have G2 := NB0_218; exact z27_)); (case side2 => exact (by have G0 := HI0; have G1 := GE208; have G2 := GE218; exact z26_)); rintro e w37 ⟨rfl, hi, hb, hk⟩; refine ⟨_, rfl, ?_⟩; replace BK208 := Ad.mk (KeepBut.blk hk (g' := gb208) (o := .cells #[.int .i64 0, .string ⟨#[]⟩, .int .i64 0, .string ⟨#[]⟩, .string ⟨#[]⟩, .int .i64 0] 56 (0, 0)) (bd_ BK208.out) NB208_0.out (by simp)); replace BK218 := Ad.mk (KeepBut.blk hk (g' := gb218) (o := .cells #[.int .i64 2, .string t215, .string ⟨#[]⟩] 36 (0, 0)) (bd_ BK218.out) NB218_0.out (by simp)); replace HK := Ad.mk (KeepBut.trans (by have G0 := GW208; have G1 := GW218; exact z25_) hk (.inl rfl)); replace HB := Ad.mk (hb); replace HI0 := Ad.mk (hi); clear hb hk hi; have hcz38_0 := cl_ (.int .i64 2) BK218.out 0; have hcz38_1 := cl_ (.string t215) BK218.out 1; have hcz38_2 := cl_ (.string ⟨#[]⟩) BK218.out 2; have hfz38_0 := blk_frozen BK218.out 0; have hfz38_1 := blk_frozen BK218.out 1; have hfz38_2 := blk_frozen BK218.out 2; have hnb39 := NB208_0.out; have hnc39 := NB0_208.out; obtain ⟨⟨hcz40_0, hcz40_1, hcz40_2, hcz40_3, hcz40_4, hcz40_5⟩, hfz40_0, hfz40_1, hfz40_2, hfz40_3, hfz40_4, hfz40_5⟩ := c6_ BK208.out))
   refine bodyPost_ret (results_ct rfl _ _ gb208 56 #[.int .i64 2, .string ⟨#[]⟩, .int .i64 2, .string t215, .string ⟨#[]⟩, .int .i64 0] (0, 0) _ rfl (by have G0 := BK208; exact z66_) Tryd.underlying56 rfl k1_) rfl ?_
   exact ⟨e2_, by have G0 := HI0; have G1 := NB0_208; have G2 := NB0_218; exact z27_, by have G0 := HI0; have G1 := GE208; have G2 := GE218; exact z26_, by have G0 := GW208; have G1 := GW218; exact z25_⟩
def ls_text.f (k : Nat) (s0_0 : ByteArray) (s0_1 : Int) : Option (Int × ByteArray × Int × ByteArray × ByteArray × Int × Bool × ByteArray × Int) := (ls_ch.f s0_0 s0_1 s0_1).bind fun bt223 => (if bt223.1 = 34 then ((ls_quoted.f k bt223.2.1 bt223.2.2 34 true).bind fun bt226 => (some (3, bt226.1, 0, (⟨#[]⟩ : ByteArray), (⟨#[]⟩ : ByteArray), 0, true, bt226.2.1, bt226.2.2))) else (some (0, (⟨#[]⟩ : ByteArray), 0, (⟨#[]⟩ : ByteArray), (⟨#[]⟩ : ByteArray), 0, false, bt223.2.1, bt223.2.2)))
theorem ls_text.calls (k : Nat) (g : Nat) (s0_0 : ByteArray) (s0_1 : Int) (r1 : Int) (r2 : ByteArray) (r3 : Int) (r4 : ByteArray) (r5 : ByteArray) (r6 : Int) (r7 : Bool) (r8 : ByteArray) (r9 : Int) (w0 w : World) (hI : IsS65 w0 w g s0_0 s0_1) (hB : Below w0.heap.size w0 w) (h : ls_text.f k s0_0 s0_1 = some (r1, r2, r3, r4, r5, r6, r7, r8, r9)) :
  Calls Tryd.prog 45 #[.pointer (some ⟨g, 0, none⟩)] w fun e w' => e = .returned (.tuple #[.agg #[.int .i64 r1, .string r2, .int .i64 r3, .string r4, .string r5, .int .i64 r6], .bool r7]) ∧ IsS65 w0 w' g r8 r9 ∧ Below w0.heap.size w0 w' ∧ KeepBut w w' g none := by
 have hu56 := Tryd.underlying56
 have HI0 := Ad.mk hI
 have HK := Ad.mk (KeepBut.refl w g none)
 have HL := Ad.mk hB.size
 clear hI
 have HW0 := Ad.mk hB.size
 have HB := Ad.mk hB
 clear hB
 have H := h
 clear h
 unfold ls_text.f at H
 obtain ⟨⟨t223, t224, t225⟩, A2, H⟩ := bi_ H
 try dsimp only at H
 by_cases c3 : t223 = 34
 ·rw [if_pos c3] at H
  have c3b0 := beq_iff_eq.mpr c3
  have c3b1 := bne_eq_false_iff_eq.mpr c3
  clear c3
  obtain ⟨⟨t226, t227, t228⟩, A4, H⟩ := bi_ H
  try dsimp only at H
  simp only [Option.some.injEq, Prod.mk.injEq] at H
  obtain ⟨rfl, rfl, rfl, rfl, rfl, rfl, rfl, rfl, rfl⟩ := H
  go_enter Tryd.func45, Tryd.ntmps45
  go_wp2_with (first | ((with_reducible refine gate_dst (N := 2) rfl ?_); refine box_event r1_ (N := 2) r1_ (cs := #[.int .i64 0, .string ⟨#[]⟩, .int .i64 0, .string ⟨#[]⟩, .string ⟨#[]⟩, .int .i64 0]) (t := 56) r2_ ?_; intro gb222 hg w5 hbox hb; have BK222 := Ad.mk (hbox); have GW222 := Ad.mk ((z12_ : w.heap.size ≤ gb222)); have GE222 := Ad.mk ((Nat.le_trans HW0.out (z12_ : w.heap.size ≤ gb222) : w0.heap.size ≤ gb222)); have NB0_222 := Ad.mk ((by have G0 := HI0; exact z21_ : g ≠ gb222)); have NB222_0 := Ad.mk ((by have G0 := HI0; exact z22_ : gb222 ≠ g)); replace HK := Ad.mk (KeepBut.trans z3_ (KeepBut.of_below hb g none) (.inl rfl)); replace HB := Ad.mk (below_step (by have G0 := HI0; exact z4_) hb); replace HI0 := Ad.mk (IsS65.below (by have G0 := HI0; exact z2_) hb); clear hb hbox hg; obtain ⟨HGz6, hgz6⟩ := HI0.out; have hcz6_0 := cellS65_0 HGz6; have hcz6_1 := cellS65_1 HGz6; have hfz6_0 := blk_frozen HGz6 0; have hfz6_1 := blk_frozen HGz6 1; clear HGz6 hgz6) | ((with_reducible refine gate_callee (f := 63) rfl ?_); refine goesL_ (some 9) rfl rfl Tryd.func63 k1_ rfl #[.pointer (some ⟨g, 0, none⟩), .int .i64 s0_1] rfl g1_ ?_; (with_reducible refine (ls_ch.calls g s0_0 s0_1 s0_1 t223 t224 t225 w0 _ ?side1 ?side2 A2.out).mono ?_); (case side1 => exact (by have G0 := HI0; have G1 := NB0_222; exact z7_)); (case side2 => exact (by have G0 := HI0; have G1 := GE222; exact z8_)); rintro e w7 ⟨rfl, hi, hb, hk⟩; refine ⟨_, rfl, ?_⟩; replace BK222 := Ad.mk (KeepBut.blk hk (g' := gb222) (o := .cells #[.int .i64 0, .string ⟨#[]⟩, .int .i64 0, .string ⟨#[]⟩, .string ⟨#[]⟩, .int .i64 0] 56 (0, 0)) (bd_ BK222.out) NB222_0.out (by simp)); replace HK := Ad.mk (KeepBut.trans (by have G0 := GW222; exact z6_) hk (.inl rfl)); replace HB := Ad.mk (hb); replace HI0 := Ad.mk (hi); clear hb hk hi) | ((with_reducible refine gate_callee (f := 64) rfl ?_); refine goesL_ (some 13) rfl rfl Tryd.func64 k1_ rfl #[.pointer (some ⟨g, 0, none⟩), .int .u8 34, .bool true] rfl g1_ ?_; (with_reducible refine (ls_quoted.calls k g t224 t225 34 true t226 t227 t228 w0 _ ?side1 ?side2 A4.out).mono ?_); (case side1 => exact (by have G0 := HI0; have G1 := NB0_222; exact z7_)); (case side2 => exact (by have G0 := HI0; have G1 := GE222; exact z8_)); rintro e w8 ⟨rfl, hi, hb, hk⟩; refine ⟨_, rfl, ?_⟩; replace BK222 := Ad.mk (KeepBut.blk hk (g' := gb222) (o := .cells #[.int .i64 0, .string ⟨#[]⟩, .int .i64 0, .string ⟨#[]⟩, .string ⟨#[]⟩, .int .i64 0] 56 (0, 0)) (bd_ BK222.out) NB222_0.out (by simp)); replace HK := Ad.mk (KeepBut.trans (by have G0 := GW222; exact z6_) hk (.inl rfl)); replace HB := Ad.mk (hb); replace HI0 := Ad.mk (hi); clear hb hk hi; have hnb9 := NB222_0.out; have hnc9 := NB0_222.out; obtain ⟨⟨hcz10_0, hcz10_1, hcz10_2, hcz10_3, hcz10_4, hcz10_5⟩, hfz10_0, hfz10_1, hfz10_2, hfz10_3, hfz10_4, hfz10_5⟩ := c6_ BK222.out))
  refine bodyPost_ret (results_ct rfl _ _ gb222 56 #[.int .i64 3, .string t226, .int .i64 0, .string ⟨#[]⟩, .string ⟨#[]⟩, .int .i64 0] (0, 0) _ rfl (by refine bd_ ?_; refine blk_put (cs := #[.int .i64 3, .string t226, .int .i64 0, .string ⟨#[]⟩, .string ⟨#[]⟩, .int .i64 0]) ?_ 5 _ rfl; refine bd_ ?_; refine blk_put (cs := #[.int .i64 3, .string t226, .int .i64 0, .string ⟨#[]⟩, .string ⟨#[]⟩, .int .i64 0]) ?_ 4 _ rfl; refine bd_ ?_; refine blk_put (cs := #[.int .i64 3, .string t226, .int .i64 0, .string ⟨#[]⟩, .string ⟨#[]⟩, .int .i64 0]) ?_ 3 _ rfl; refine bd_ ?_; refine blk_put (cs := #[.int .i64 3, .string t226, .int .i64 0, .string ⟨#[]⟩, .string ⟨#[]⟩, .int .i64 0]) ?_ 2 _ rfl; refine bd_ ?_; refine blk_put (cs := #[.int .i64 3, .string ⟨#[]⟩, .int .i64 0, .string ⟨#[]⟩, .string ⟨#[]⟩, .int .i64 0]) ?_ 1 _ rfl; refine bd_ ?_; refine blk_put (cs := #[.int .i64 0, .string ⟨#[]⟩, .int .i64 0, .string ⟨#[]⟩, .string ⟨#[]⟩, .int .i64 0]) ?_ 0 _ rfl; refine bd_ ?_; exact BK222.out) Tryd.underlying56 rfl k1_) rfl ?_
  exact ⟨e2_, by have G0 := HI0; have G1 := NB0_222; exact z7_, by have G0 := HI0; have G1 := GE222; exact z8_, by have G0 := GW222; exact z6_⟩
 rw [if_neg c3] at H
 have c3b0 := beq_eq_false_iff_ne.mpr c3
 have c3b1 := bne_iff_ne.mpr c3
 simp only [Option.some.injEq, Prod.mk.injEq] at H
 obtain ⟨rfl, rfl, rfl, rfl, rfl, rfl, rfl, rfl, rfl⟩ := H
 go_enter Tryd.func45, Tryd.ntmps45
 go_wp2_with (first | ((with_reducible refine gate_dst (N := 2) rfl ?_); refine box_event r1_ (N := 2) r1_ (cs := #[.int .i64 0, .string ⟨#[]⟩, .int .i64 0, .string ⟨#[]⟩, .string ⟨#[]⟩, .int .i64 0]) (t := 56) r2_ ?_; intro gb222 hg w11 hbox hb; have BK222 := Ad.mk (hbox); have GW222 := Ad.mk ((z12_ : w.heap.size ≤ gb222)); have GE222 := Ad.mk ((Nat.le_trans HW0.out (z12_ : w.heap.size ≤ gb222) : w0.heap.size ≤ gb222)); have NB0_222 := Ad.mk ((by have G0 := HI0; exact z21_ : g ≠ gb222)); have NB222_0 := Ad.mk ((by have G0 := HI0; exact z22_ : gb222 ≠ g)); replace HK := Ad.mk (KeepBut.trans z3_ (KeepBut.of_below hb g none) (.inl rfl)); replace HB := Ad.mk (below_step (by have G0 := HI0; exact z4_) hb); replace HI0 := Ad.mk (IsS65.below (by have G0 := HI0; exact z2_) hb); clear hb hbox hg; obtain ⟨HGz12, hgz12⟩ := HI0.out; have hcz12_0 := cellS65_0 HGz12; have hcz12_1 := cellS65_1 HGz12; have hfz12_0 := blk_frozen HGz12 0; have hfz12_1 := blk_frozen HGz12 1; clear HGz12 hgz12) | ((with_reducible refine gate_callee (f := 63) rfl ?_); refine goesL_ (some 9) rfl rfl Tryd.func63 k1_ rfl #[.pointer (some ⟨g, 0, none⟩), .int .i64 s0_1] rfl g1_ ?_; (with_reducible refine (ls_ch.calls g s0_0 s0_1 s0_1 t223 t224 t225 w0 _ ?side1 ?side2 A2.out).mono ?_); (case side1 => exact (by have G0 := HI0; have G1 := NB0_222; exact z7_)); (case side2 => exact (by have G0 := HI0; have G1 := GE222; exact z8_)); rintro e w13 ⟨rfl, hi, hb, hk⟩; refine ⟨_, rfl, ?_⟩; replace BK222 := Ad.mk (KeepBut.blk hk (g' := gb222) (o := .cells #[.int .i64 0, .string ⟨#[]⟩, .int .i64 0, .string ⟨#[]⟩, .string ⟨#[]⟩, .int .i64 0] 56 (0, 0)) (bd_ BK222.out) NB222_0.out (by simp)); replace HK := Ad.mk (KeepBut.trans (by have G0 := GW222; exact z6_) hk (.inl rfl)); replace HB := Ad.mk (hb); replace HI0 := Ad.mk (hi); clear hb hk hi; have hnb14 := NB222_0.out; have hnc14 := NB0_222.out; obtain ⟨⟨hcz15_0, hcz15_1, hcz15_2, hcz15_3, hcz15_4, hcz15_5⟩, hfz15_0, hfz15_1, hfz15_2, hfz15_3, hfz15_4, hfz15_5⟩ := c6_ BK222.out))
 refine bodyPost_ret (results_ct rfl _ _ gb222 56 #[.int .i64 0, .string ⟨#[]⟩, .int .i64 0, .string ⟨#[]⟩, .string ⟨#[]⟩, .int .i64 0] (0, 0) _ rfl (by have G0 := BK222; exact z32_) Tryd.underlying56 rfl k1_) rfl ?_
 exact ⟨e2_, by have G0 := HI0; have G1 := NB0_222; exact z7_, by have G0 := HI0; have G1 := GE222; exact z8_, by have G0 := GW222; exact z6_⟩
def ls_lang.f (k : Nat) (s0_0 : ByteArray) (s0_1 : Int) : Option (Int × ByteArray × Int × ByteArray × ByteArray × Int × Bool × ByteArray × Int) := (ls_ch.f s0_0 s0_1 s0_1).bind fun bt230 => (if bt230.1 = 64 then ((ls_run.f k bt230.2.1 (wrap64 (bt230.2.2 + 1)) bt230.2.2 35 67).bind fun bt233 => ((term_May.f k 4 (⟨#[]⟩ : ByteArray) bt233.1).bind fun t236 => (if t236 = true then (some (4, bt233.1, 0, (⟨#[]⟩ : ByteArray), (⟨#[]⟩ : ByteArray), 0, true, bt233.2.1, bt233.2.2)) else ((ls_fail.f bt233.2.1 bt233.2.2 bt230.2.2).bind fun bt237 => (some (4, bt233.1, 0, (⟨#[]⟩ : ByteArray), (⟨#[]⟩ : ByteArray), 0, true, bt237.1, bt237.2)))))) else (some (0, (⟨#[]⟩ : ByteArray), 0, (⟨#[]⟩ : ByteArray), (⟨#[]⟩ : ByteArray), 0, false, bt230.2.1, bt230.2.2)))
theorem ls_lang.calls (k : Nat) (g : Nat) (s0_0 : ByteArray) (s0_1 : Int) (r1 : Int) (r2 : ByteArray) (r3 : Int) (r4 : ByteArray) (r5 : ByteArray) (r6 : Int) (r7 : Bool) (r8 : ByteArray) (r9 : Int) (w0 w : World) (hI : IsS65 w0 w g s0_0 s0_1) (hB : Below w0.heap.size w0 w) (h : ls_lang.f k s0_0 s0_1 = some (r1, r2, r3, r4, r5, r6, r7, r8, r9)) :
  Calls Tryd.prog 46 #[.pointer (some ⟨g, 0, none⟩)] w fun e w' => e = .returned (.tuple #[.agg #[.int .i64 r1, .string r2, .int .i64 r3, .string r4, .string r5, .int .i64 r6], .bool r7]) ∧ IsS65 w0 w' g r8 r9 ∧ Below w0.heap.size w0 w' ∧ KeepBut w w' g none := by
 have hu56 := Tryd.underlying56
 have hu36 := Tryd.underlying36
 have HI0 := Ad.mk hI
 have HK := Ad.mk (KeepBut.refl w g none)
 have HL := Ad.mk hB.size
 clear hI
 have HW0 := Ad.mk hB.size
 have HB := Ad.mk hB
 clear hB
 have H := h
 clear h
 unfold ls_lang.f at H
 obtain ⟨⟨t230, t231, t232⟩, A2, H⟩ := bi_ H
 try dsimp only at H
 by_cases c3 : t230 = 64
 ·rw [if_pos c3] at H
  have c3b0 := beq_iff_eq.mpr c3
  have c3b1 := bne_eq_false_iff_eq.mpr c3
  clear c3
  obtain ⟨⟨t233, t234, t235⟩, A4, H⟩ := bi_ H
  try dsimp only at H
  obtain ⟨t236, A5, H⟩ := bi_ H
  by_cases c6 : t236 = true
  ·subst c6
   rw [if_pos rfl] at H
   simp only [Option.some.injEq, Prod.mk.injEq] at H
   obtain ⟨rfl, rfl, rfl, rfl, rfl, rfl, rfl, rfl, rfl⟩ := H
   go_enter Tryd.func46, Tryd.ntmps46
   go_wp2_with (first | ((with_reducible refine gate_dst (N := 2) rfl ?_); refine box_event r1_ (N := 2) r1_ (cs := #[.int .i64 0, .string ⟨#[]⟩, .int .i64 0, .string ⟨#[]⟩, .string ⟨#[]⟩, .int .i64 0]) (t := 56) r2_ ?_; intro gb229 hg w7 hbox hb; have BK229 := Ad.mk (hbox); have GW229 := Ad.mk ((z12_ : w.heap.size ≤ gb229)); have GE229 := Ad.mk ((Nat.le_trans HW0.out (z12_ : w.heap.size ≤ gb229) : w0.heap.size ≤ gb229)); have NB0_229 := Ad.mk ((by have G0 := HI0; exact z21_ : g ≠ gb229)); have NB229_0 := Ad.mk ((by have G0 := HI0; exact z22_ : gb229 ≠ g)); replace HK := Ad.mk (KeepBut.trans z3_ (KeepBut.of_below hb g none) (.inl rfl)); replace HB := Ad.mk (below_step (by have G0 := HI0; exact z4_) hb); replace HI0 := Ad.mk (IsS65.below (by have G0 := HI0; exact z2_) hb); clear hb hbox hg; obtain ⟨HGz8, hgz8⟩ := HI0.out; have hcz8_0 := cellS65_0 HGz8; have hcz8_1 := cellS65_1 HGz8; have hfz8_0 := blk_frozen HGz8 0; have hfz8_1 := blk_frozen HGz8 1; clear HGz8 hgz8) | ((with_reducible refine gate_callee (f := 63) rfl ?_); refine goesL_ (some 11) rfl rfl Tryd.func63 k1_ rfl #[.pointer (some ⟨g, 0, none⟩), .int .i64 s0_1] rfl g1_ ?_; (with_reducible refine (ls_ch.calls g s0_0 s0_1 s0_1 t230 t231 t232 w0 _ ?side1 ?side2 A2.out).mono ?_); (case side1 => exact (by have G0 := HI0; have G1 := NB0_229; exact z7_)); (case side2 => exact (by have G0 := HI0; have G1 := GE229; exact z8_)); rintro e w9 ⟨rfl, hi, hb, hk⟩; refine ⟨_, rfl, ?_⟩; replace BK229 := Ad.mk (KeepBut.blk hk (g' := gb229) (o := .cells #[.int .i64 0, .string ⟨#[]⟩, .int .i64 0, .string ⟨#[]⟩, .string ⟨#[]⟩, .int .i64 0] 56 (0, 0)) (bd_ BK229.out) NB229_0.out (by simp)); replace HK := Ad.mk (KeepBut.trans (by have G0 := GW229; exact z6_) hk (.inl rfl)); replace HB := Ad.mk (hb); replace HI0 := Ad.mk (hi); clear hb hk hi; obtain ⟨HGz10, hgz10⟩ := HI0.out; have hcz10_0 := cellS65_0 HGz10; have hcz10_1 := cellS65_1 HGz10; have hfz10_0 := blk_frozen HGz10 0; have hfz10_1 := blk_frozen HGz10 1; clear HGz10 hgz10) | ((with_reducible refine gate_callee (f := 65) rfl ?_); refine goesL_ (some 27) rfl rfl Tryd.func65 k1_ rfl #[.pointer (some ⟨g, 0, none⟩), .int .i64 t232, .int .i64 35, .func (.func 67) #[] #[]] rfl g1_ ?_; (with_reducible refine (ls_run.calls k g t231 (wrap64 (t232 + 1)) t232 35 67 t233 t234 t235 w0 _ ?side1 ?side2 A4.out).mono ?_); (case side1 => exact (by have G0 := HI0; have G1 := NB0_229; exact z7_)); (case side2 => exact (by have G0 := HI0; have G1 := GE229; exact z8_)); rintro e w11 ⟨rfl, hi, hb, hk⟩; refine ⟨_, rfl, ?_⟩; replace BK229 := Ad.mk (KeepBut.blk hk (g' := gb229) (o := .cells #[.int .i64 0, .string ⟨#[]⟩, .int .i64 0, .string ⟨#[]⟩, .string ⟨#[]⟩, .int .i64 0] 56 (0, 0)) (by have G0 := NB229_0; have G1 := BK229; exact z31_) NB229_0.out (by simp)); replace HK := Ad.mk (KeepBut.trans (by have G0 := GW229; exact z6_) hk (.inl rfl)); replace HB := Ad.mk (hb); replace HI0 := Ad.mk (hi); clear hb hk hi) | ((with_reducible refine gate_callee (f := 28) rfl ?_); refine goesL_ (some 30) rfl rfl Tryd.func28 k1_ rfl #[.agg #[.int .i64 4, .string ⟨#[]⟩, .string t233]] rfl g1_ ?_; (with_reducible refine (term_May.calls k 4 (⟨#[]⟩ : ByteArray) t233 true _ A5.out).mono ?_); rintro e w12 ⟨rfl, hb⟩; refine ⟨_, rfl, ?_⟩; replace BK229 := Ad.mk (blk_below (g := gb229) (o := .cells #[.int .i64 0, .string ⟨#[]⟩, .int .i64 0, .string ⟨#[]⟩, .string ⟨#[]⟩, .int .i64 0] 56 (0, 0)) (bd_ BK229.out) hb); replace HK := Ad.mk (KeepBut.trans (by have G0 := GW229; exact z6_) (KeepBut.of_below hb g none) (.inl rfl)); replace HB := Ad.mk (below_step (by have G0 := HI0; have G1 := GE229; exact z8_) hb); replace HI0 := Ad.mk (IsS65.below (by have G0 := HI0; have G1 := NB0_229; exact z7_) hb); clear hb; have hnb13 := NB229_0.out; have hnc13 := NB0_229.out; obtain ⟨⟨hcz14_0, hcz14_1, hcz14_2, hcz14_3, hcz14_4, hcz14_5⟩, hfz14_0, hfz14_1, hfz14_2, hfz14_3, hfz14_4, hfz14_5⟩ := c6_ BK229.out))
   refine bodyPost_ret (results_ct rfl _ _ gb229 56 #[.int .i64 4, .string t233, .int .i64 0, .string ⟨#[]⟩, .string ⟨#[]⟩, .int .i64 0] (0, 0) _ rfl (by have G0 := BK229; exact z67_) Tryd.underlying56 rfl k1_) rfl ?_
   exact ⟨e2_, by have G0 := HI0; have G1 := NB0_229; exact z7_, by have G0 := HI0; have G1 := GE229; exact z8_, by have G0 := GW229; exact z6_⟩
  replace c6 := Bool.eq_false_iff.mpr c6
  subst c6
  rw [if_neg (show ¬ (false = true) by decide)] at H
  obtain ⟨⟨t237, t238⟩, A15, H⟩ := bi_ H
  try dsimp only at H
  simp only [Option.some.injEq, Prod.mk.injEq] at H
  obtain ⟨rfl, rfl, rfl, rfl, rfl, rfl, rfl, rfl, rfl⟩ := H
  go_enter Tryd.func46, Tryd.ntmps46
  go_wp2_with (first | ((with_reducible refine gate_dst (N := 2) rfl ?_); refine box_event r1_ (N := 2) r1_ (cs := #[.int .i64 0, .string ⟨#[]⟩, .int .i64 0, .string ⟨#[]⟩, .string ⟨#[]⟩, .int .i64 0]) (t := 56) r2_ ?_; intro gb229 hg w16 hbox hb; have BK229 := Ad.mk (hbox); have GW229 := Ad.mk ((z12_ : w.heap.size ≤ gb229)); have GE229 := Ad.mk ((Nat.le_trans HW0.out (z12_ : w.heap.size ≤ gb229) : w0.heap.size ≤ gb229)); have NB0_229 := Ad.mk ((by have G0 := HI0; exact z21_ : g ≠ gb229)); have NB229_0 := Ad.mk ((by have G0 := HI0; exact z22_ : gb229 ≠ g)); replace HK := Ad.mk (KeepBut.trans z3_ (KeepBut.of_below hb g none) (.inl rfl)); replace HB := Ad.mk (below_step (by have G0 := HI0; exact z4_) hb); replace HI0 := Ad.mk (IsS65.below (by have G0 := HI0; exact z2_) hb); clear hb hbox hg; obtain ⟨HGz17, hgz17⟩ := HI0.out; have hcz17_0 := cellS65_0 HGz17; have hcz17_1 := cellS65_1 HGz17; have hfz17_0 := blk_frozen HGz17 0; have hfz17_1 := blk_frozen HGz17 1; clear HGz17 hgz17) | ((with_reducible refine gate_callee (f := 63) rfl ?_); refine goesL_ (some 11) rfl rfl Tryd.func63 k1_ rfl #[.pointer (some ⟨g, 0, none⟩), .int .i64 s0_1] rfl g1_ ?_; (with_reducible refine (ls_ch.calls g s0_0 s0_1 s0_1 t230 t231 t232 w0 _ ?side1 ?side2 A2.out).mono ?_); (case side1 => exact (by have G0 := HI0; have G1 := NB0_229; exact z7_)); (case side2 => exact (by have G0 := HI0; have G1 := GE229; exact z8_)); rintro e w18 ⟨rfl, hi, hb, hk⟩; refine ⟨_, rfl, ?_⟩; replace BK229 := Ad.mk (KeepBut.blk hk (g' := gb229) (o := .cells #[.int .i64 0, .string ⟨#[]⟩, .int .i64 0, .string ⟨#[]⟩, .string ⟨#[]⟩, .int .i64 0] 56 (0, 0)) (bd_ BK229.out) NB229_0.out (by simp)); replace HK := Ad.mk (KeepBut.trans (by have G0 := GW229; exact z6_) hk (.inl rfl)); replace HB := Ad.mk (hb); replace HI0 := Ad.mk (hi); clear hb hk hi; obtain ⟨HGz19, hgz19⟩ := HI0.out; have hcz19_0 := cellS65_0 HGz19; have hcz19_1 := cellS65_1 HGz19; have hfz19_0 := blk_frozen HGz19 0; have hfz19_1 := blk_frozen HGz19 1; clear HGz19 hgz19) | ((with_reducible refine gate_callee (f := 65) rfl ?_); refine goesL_ (some 27) rfl rfl Tryd.func65 k1_ rfl #[.pointer (some ⟨g, 0, none⟩), .int .i64 t232, .int .i64 35, .func (.func 67) #[] #[]] rfl g1_ ?_; (with_reducible refine (ls_run.calls k g t231 (wrap64 (t232 + 1)) t232 35 67 t233 t234 t235 w0 _ ?side1 ?side2 A4.out).mono ?_); (case side1 => exact (by have G0 := HI0; have G1 := NB0_229; exact z7_)); (case side2 => exact (by have G0 := HI0; have G1 := GE229; exact z8_)); rintro e w20 ⟨rfl, hi, hb, hk⟩; refine ⟨_, rfl, ?_⟩; replace BK229 := Ad.mk (KeepBut.blk hk (g' := gb229) (o := .cells #[.int .i64 0, .string ⟨#[]⟩, .int .i64 0, .string ⟨#[]⟩, .string ⟨#[]⟩, .int .i64 0] 56 (0, 0)) (by have G0 := NB229_0; have G1 := BK229; exact z31_) NB229_0.out (by simp)); replace HK := Ad.mk (KeepBut.trans (by have G0 := GW229; exact z6_) hk (.inl rfl)); replace HB := Ad.mk (hb); replace HI0 := Ad.mk (hi); clear hb hk hi) | ((with_reducible refine gate_callee (f := 28) rfl ?_); refine goesL_ (some 30) rfl rfl Tryd.func28 k1_ rfl #[.agg #[.int .i64 4, .string ⟨#[]⟩, .string t233]] rfl g1_ ?_; (with_reducible refine (term_May.calls k 4 (⟨#[]⟩ : ByteArray) t233 false _ A5.out).mono ?_); rintro e w21 ⟨rfl, hb⟩; refine ⟨_, rfl, ?_⟩; replace BK229 := Ad.mk (blk_below (g := gb229) (o := .cells #[.int .i64 0, .string ⟨#[]⟩, .int .i64 0, .string ⟨#[]⟩, .string ⟨#[]⟩, .int .i64 0] 56 (0, 0)) (bd_ BK229.out) hb); replace HK := Ad.mk (KeepBut.trans (by have G0 := GW229; exact z6_) (KeepBut.of_below hb g none) (.inl rfl)); replace HB := Ad.mk (below_step (by have G0 := HI0; have G1 := GE229; exact z8_) hb); replace HI0 := Ad.mk (IsS65.below (by have G0 := HI0; have G1 := NB0_229; exact z7_) hb); clear hb) | ((with_reducible refine gate_callee (f := 50) rfl ?_); refine goesL_ (some 34) rfl rfl Tryd.func50 k1_ rfl #[.pointer (some ⟨g, 0, none⟩), .int .i64 t232] rfl g1_ ?_; (with_reducible refine (ls_fail.calls g t234 t235 t232 t237 t238 w0 _ ?side1 ?side2 A15.out).mono ?_); (case side1 => exact (by have G0 := HI0; have G1 := NB0_229; exact z7_)); (case side2 => exact (by have G0 := HI0; have G1 := GE229; exact z8_)); rintro e w22 ⟨rfl, hi, hb, hk⟩; refine ⟨_, rfl, ?_⟩; replace BK229 := Ad.mk (KeepBut.blk hk (g' := gb229) (o := .cells #[.int .i64 0, .string ⟨#[]⟩, .int .i64 0, .string ⟨#[]⟩, .string ⟨#[]⟩, .int .i64 0] 56 (0, 0)) (bd_ BK229.out) NB229_0.out (by simp)); replace HK := Ad.mk (KeepBut.trans (by have G0 := GW229; exact z6_) hk (.inl rfl)); replace HB := Ad.mk (hb); replace HI0 := Ad.mk (hi); clear hb hk hi; have hnb23 := NB229_0.out; have hnc23 := NB0_229.out; obtain ⟨⟨hcz24_0, hcz24_1, hcz24_2, hcz24_3, hcz24_4, hcz24_5⟩, hfz24_0, hfz24_1, hfz24_2, hfz24_3, hfz24_4, hfz24_5⟩ := c6_ BK229.out))
  refine bodyPost_ret (results_ct rfl _ _ gb229 56 #[.int .i64 4, .string t233, .int .i64 0, .string ⟨#[]⟩, .string ⟨#[]⟩, .int .i64 0] (0, 0) _ rfl (by have G0 := BK229; exact z67_) Tryd.underlying56 rfl k1_) rfl ?_
  exact ⟨e2_, by have G0 := HI0; have G1 := NB0_229; exact z7_, by have G0 := HI0; have G1 := GE229; exact z8_, by have G0 := GW229; exact z6_⟩
 rw [if_neg c3] at H
 have c3b0 := beq_eq_false_iff_ne.mpr c3
 have c3b1 := bne_iff_ne.mpr c3
 simp only [Option.some.injEq, Prod.mk.injEq] at H
 obtain ⟨rfl, rfl, rfl, rfl, rfl, rfl, rfl, rfl, rfl⟩ := H
 go_enter Tryd.func46, Tryd.ntmps46
 go_wp2_with (first | ((with_reducible refine gate_dst (N := 2) rfl ?_); refine box_event r1_ (N := 2) r1_ (cs := #[.int .i64 0, .string ⟨#[]⟩, .int .i64 0, .string ⟨#[]⟩, .string ⟨#[]⟩, .int .i64 0]) (t := 56) r2_ ?_; intro gb229 hg w25 hbox hb; have BK229 := Ad.mk (hbox); have GW229 := Ad.mk ((z12_ : w.heap.size ≤ gb229)); have GE229 := Ad.mk ((Nat.le_trans HW0.out (z12_ : w.heap.size ≤ gb229) : w0.heap.size ≤ gb229)); have NB0_229 := Ad.mk ((by have G0 := HI0; exact z21_ : g ≠ gb229)); have NB229_0 := Ad.mk ((by have G0 := HI0; exact z22_ : gb229 ≠ g)); replace HK := Ad.mk (KeepBut.trans z3_ (KeepBut.of_below hb g none) (.inl rfl)); replace HB := Ad.mk (below_step (by have G0 := HI0; exact z4_) hb); replace HI0 := Ad.mk (IsS65.below (by have G0 := HI0; exact z2_) hb); clear hb hbox hg; obtain ⟨HGz26, hgz26⟩ := HI0.out; have hcz26_0 := cellS65_0 HGz26; have hcz26_1 := cellS65_1 HGz26; have hfz26_0 := blk_frozen HGz26 0; have hfz26_1 := blk_frozen HGz26 1; clear HGz26 hgz26) | ((with_reducible refine gate_callee (f := 63) rfl ?_); refine goesL_ (some 11) rfl rfl Tryd.func63 k1_ rfl #[.pointer (some ⟨g, 0, none⟩), .int .i64 s0_1] rfl g1_ ?_; (with_reducible refine (ls_ch.calls g s0_0 s0_1 s0_1 t230 t231 t232 w0 _ ?side1 ?side2 A2.out).mono ?_); (case side1 => exact (by have G0 := HI0; have G1 := NB0_229; exact z7_)); (case side2 => exact (by have G0 := HI0; have G1 := GE229; exact z8_)); rintro e w27 ⟨rfl, hi, hb, hk⟩; refine ⟨_, rfl, ?_⟩; replace BK229 := Ad.mk (KeepBut.blk hk (g' := gb229) (o := .cells #[.int .i64 0, .string ⟨#[]⟩, .int .i64 0, .string ⟨#[]⟩, .string ⟨#[]⟩, .int .i64 0] 56 (0, 0)) (bd_ BK229.out) NB229_0.out (by simp)); replace HK := Ad.mk (KeepBut.trans (by have G0 := GW229; exact z6_) hk (.inl rfl)); replace HB := Ad.mk (hb); replace HI0 := Ad.mk (hi); clear hb hk hi; have hnb28 := NB229_0.out; have hnc28 := NB0_229.out; obtain ⟨⟨hcz29_0, hcz29_1, hcz29_2, hcz29_3, hcz29_4, hcz29_5⟩, hfz29_0, hfz29_1, hfz29_2, hfz29_3, hfz29_4, hfz29_5⟩ := c6_ BK229.out))
 refine bodyPost_ret (results_ct rfl _ _ gb229 56 #[.int .i64 0, .string ⟨#[]⟩, .int .i64 0, .string ⟨#[]⟩, .string ⟨#[]⟩, .int .i64 0] (0, 0) _ rfl (by have G0 := BK229; exact z32_) Tryd.underlying56 rfl k1_) rfl ?_
 exact ⟨e2_, by have G0 := HI0; have G1 := NB0_229; exact z7_, by have G0 := HI0; have G1 := GE229; exact z8_, by have G0 := GW229; exact z6_⟩
def ls_variable.f (k : Nat) (s0_0 : ByteArray) (s0_1 : Int) : Option (Int × ByteArray × Int × ByteArray × ByteArray × Int × Bool × ByteArray × Int) := (ls_ch.f s0_0 s0_1 s0_1).bind fun bt240 => (if bt240.1 = 63 then ((ls_run.f k bt240.2.1 (wrap64 (bt240.2.2 + 1)) bt240.2.2 32 66).bind fun bt243 => (if bt243.1.toList = ([] : List UInt8) then ((ls_fail.f bt243.2.1 bt243.2.2 bt240.2.2).bind fun bt246 => (some (5, bt243.1, 0, (⟨#[]⟩ : ByteArray), (⟨#[]⟩ : ByteArray), 0, true, bt246.1, bt246.2))) else (some (5, bt243.1, 0, (⟨#[]⟩ : ByteArray), (⟨#[]⟩ : ByteArray), 0, true, bt243.2.1, bt243.2.2)))) else (some (0, (⟨#[]⟩ : ByteArray), 0, (⟨#[]⟩ : ByteArray), (⟨#[]⟩ : ByteArray), 0, false, bt240.2.1, bt240.2.2)))
theorem ls_variable.calls (k : Nat) (g : Nat) (s0_0 : ByteArray) (s0_1 : Int) (r1 : Int) (r2 : ByteArray) (r3 : Int) (r4 : ByteArray) (r5 : ByteArray) (r6 : Int) (r7 : Bool) (r8 : ByteArray) (r9 : Int) (w0 w : World) (hI : IsS65 w0 w g s0_0 s0_1) (hB : Below w0.heap.size w0 w) (h : ls_variable.f k s0_0 s0_1 = some (r1, r2, r3, r4, r5, r6, r7, r8, r9)) :
  Calls Tryd.prog 47 #[.pointer (some ⟨g, 0, none⟩)] w fun e w' => e = .returned (.tuple #[.agg #[.int .i64 r1, .string r2, .int .i64 r3, .string r4, .string r5, .int .i64 r6], .bool r7]) ∧ IsS65 w0 w' g r8 r9 ∧ Below w0.heap.size w0 w' ∧ KeepBut w w' g none := by
 have hu56 := Tryd.underlying56
 have HI0 := Ad.mk hI
 have HK := Ad.mk (KeepBut.refl w g none)
 have HL := Ad.mk hB.size
 clear hI
 have HW0 := Ad.mk hB.size
 have HB := Ad.mk hB
 clear hB
 have H := h
 clear h
 unfold ls_variable.f at H
 obtain ⟨⟨t240, t241, t242⟩, A2, H⟩ := bi_ H
 try dsimp only at H
 by_cases c3 : t240 = 63
 ·rw [if_pos c3] at H
  have c3b0 := beq_iff_eq.mpr c3
  have c3b1 := bne_eq_false_iff_eq.mpr c3
  clear c3
  obtain ⟨⟨t243, t244, t245⟩, A4, H⟩ := bi_ H
  try dsimp only at H
  by_cases c5 : t243.toList = ([] : List UInt8)
  ·rw [if_pos c5] at H
   have c5b0 := beq_iff_eq.mpr c5
   have c5b1 := bne_eq_false_iff_eq.mpr c5
   clear c5
   obtain ⟨⟨t246, t247⟩, A6, H⟩ := bi_ H
   try dsimp only at H
   simp only [Option.some.injEq, Prod.mk.injEq] at H
   obtain ⟨rfl, rfl, rfl, rfl, rfl, rfl, rfl, rfl, rfl⟩ := H
   go_enter Tryd.func47, Tryd.ntmps47
   go_wp2_with (first | ((with_reducible refine gate_dst (N := 2) rfl ?_); refine box_event r1_ (N := 2) r1_ (cs := #[.int .i64 0, .string ⟨#[]⟩, .int .i64 0, .string ⟨#[]⟩, .string ⟨#[]⟩, .int .i64 0]) (t := 56) r2_ ?_; intro gb239 hg w7 hbox hb; have BK239 := Ad.mk (hbox); have GW239 := Ad.mk ((z12_ : w.heap.size ≤ gb239)); have GE239 := Ad.mk ((Nat.le_trans HW0.out (z12_ : w.heap.size ≤ gb239) : w0.heap.size ≤ gb239)); have NB0_239 := Ad.mk ((by have G0 := HI0; exact z21_ : g ≠ gb239)); have NB239_0 := Ad.mk ((by have G0 := HI0; exact z22_ : gb239 ≠ g)); replace HK := Ad.mk (KeepBut.trans z3_ (KeepBut.of_below hb g none) (.inl rfl)); replace HB := Ad.mk (below_step (by have G0 := HI0; exact z4_) hb); replace HI0 := Ad.mk (IsS65.below (by have G0 := HI0; exact z2_) hb); clear hb hbox hg; obtain ⟨HGz8, hgz8⟩ := HI0.out; have hcz8_0 := cellS65_0 HGz8; have hcz8_1 := cellS65_1 HGz8; have hfz8_0 := blk_frozen HGz8 0; have hfz8_1 := blk_frozen HGz8 1; clear HGz8 hgz8) | ((with_reducible refine gate_callee (f := 63) rfl ?_); refine goesL_ (some 11) rfl rfl Tryd.func63 k1_ rfl #[.pointer (some ⟨g, 0, none⟩), .int .i64 s0_1] rfl g1_ ?_; (with_reducible refine (ls_ch.calls g s0_0 s0_1 s0_1 t240 t241 t242 w0 _ ?side1 ?side2 A2.out).mono ?_); (case side1 => exact (by have G0 := HI0; have G1 := NB0_239; exact z7_)); (case side2 => exact (by have G0 := HI0; have G1 := GE239; exact z8_)); rintro e w9 ⟨rfl, hi, hb, hk⟩; refine ⟨_, rfl, ?_⟩; replace BK239 := Ad.mk (KeepBut.blk hk (g' := gb239) (o := .cells #[.int .i64 0, .string ⟨#[]⟩, .int .i64 0, .string ⟨#[]⟩, .string ⟨#[]⟩, .int .i64 0] 56 (0, 0)) (bd_ BK239.out) NB239_0.out (by simp)); replace HK := Ad.mk (KeepBut.trans (by have G0 := GW239; exact z6_) hk (.inl rfl)); replace HB := Ad.mk (hb); replace HI0 := Ad.mk (hi); clear hb hk hi; obtain ⟨HGz10, hgz10⟩ := HI0.out; have hcz10_0 := cellS65_0 HGz10; have hcz10_1 := cellS65_1 HGz10; have hfz10_0 := blk_frozen HGz10 0; have hfz10_1 := blk_frozen HGz10 1; clear HGz10 hgz10) | ((with_reducible refine gate_callee (f := 65) rfl ?_); refine goesL_ (some 27) rfl rfl Tryd.func65 k1_ rfl #[.pointer (some ⟨g, 0, none⟩), .int .i64 t242, .int .i64 32, .func (.func 66) #[] #[]] rfl g1_ ?_; (with_reducible refine (ls_run.calls k g t241 (wrap64 (t242 + 1)) t242 32 66 t243 t244 t245 w0 _ ?side1 ?side2 A4.out).mono ?_); (case side1 => exact (by have G0 := HI0; have G1 := NB0_239; exact z7_)); (case side2 => exact (by have G0 := HI0; have G1 := GE239; exact z8_)); rintro e w11 ⟨rfl, hi, hb, hk⟩; refine ⟨_, rfl, ?_⟩; replace BK239 := Ad.mk (KeepBut.blk hk (g' := gb239) (o := .cells #[.int .i64 0, .string ⟨#[]⟩, .int .i64 0, .string ⟨#[]⟩, .string ⟨#[]⟩, .int .i64 0] 56 (0, 0)) (by have G0 := NB239_0; have G1 := BK239; exact z31_) NB239_0.out (by simp)); replace HK := Ad.mk (KeepBut.trans (by have G0 := GW239; exact z6_) hk (.inl rfl)); replace HB := Ad.mk (hb); replace HI0 := Ad.mk (hi); clear hb hk hi) | ((with_reducible refine gate_callee (f := 50) rfl ?_); refine goesL_ (some 32) rfl rfl Tryd.func50 k1_ rfl #[.pointer (some ⟨g, 0, none⟩), .int .i64 t242] rfl g1_ ?_; (with_reducible refine (ls_fail.calls g t244 t245 t242 t246 t247 w0 _ ?side1 ?side2 A6.out).mono ?_); (case side1 => exact (by have G0 := HI0; have G1 := NB0_239; exact z7_)); (case side2 => exact (by have G0 := HI0; have G1 := GE239; exact z8_)); rintro e w12 ⟨rfl, hi, hb, hk⟩; refine ⟨_, rfl, ?_⟩; replace BK239 := Ad.mk (KeepBut.blk hk (g' := gb239) (o := .cells #[.int .i64 0, .string ⟨#[]⟩, .int .i64 0, .string ⟨#[]⟩, .string ⟨#[]⟩, .int .i64 0] 56 (0, 0)) (bd_ BK239.out) NB239_0.out (by simp)); replace HK := Ad.mk (KeepBut.trans (by have G0 := GW239; exact z6_) hk (.inl rfl)); replace HB := Ad.mk (hb); replace HI0 := Ad.mk (hi); clear hb hk hi; have hnb13 := NB239_0.out; have hnc13 := NB0_239.out; obtain ⟨⟨hcz14_0, hcz14_1, hcz14_2, hcz14_3, hcz14_4, hcz14_5⟩, hfz14_0, hfz14_1, hfz14_2, hfz14_3, hfz14_4, hfz14_5⟩ := c6_ BK239.out))
   refine bodyPost_ret (results_ct rfl _ _ gb239 56 #[.int .i64 5, .string t243, .int .i64 0, .string ⟨#[]⟩, .string ⟨#[]⟩, .int .i64 0] (0, 0) _ rfl (by have G0 := BK239; exact z68_) Tryd.underlying56 rfl k1_) rfl ?_
   exact ⟨e2_, by have G0 := HI0; have G1 := NB0_239; exact z7_, by have G0 := HI0; have G1 := GE239; exact z8_, by have G0 := GW239; exact z6_⟩
  rw [if_neg c5] at H
  have c5b0 := beq_eq_false_iff_ne.mpr c5
  have c5b1 := bne_iff_ne.mpr c5
  simp only [Option.some.injEq, Prod.mk.injEq] at H
  obtain ⟨rfl, rfl, rfl, rfl, rfl, rfl, rfl, rfl, rfl⟩ := H
  go_enter Tryd.func47, Tryd.ntmps47
  go_wp2_with (first | ((with_reducible refine gate_dst (N := 2) rfl ?_); refine box_event r1_ (N := 2) r1_ (cs := #[.int .i64 0, .string ⟨#[]⟩, .int .i64 0, .string ⟨#[]⟩, .string ⟨#[]⟩, .int .i64 0]) (t := 56) r2_ ?_; intro gb239 hg w15 hbox hb; have BK239 := Ad.mk (hbox); have GW239 := Ad.mk ((z12_ : w.heap.size ≤ gb239)); have GE239 := Ad.mk ((Nat.le_trans HW0.out (z12_ : w.heap.size ≤ gb239) : w0.heap.size ≤ gb239)); have NB0_239 := Ad.mk ((by have G0 := HI0; exact z21_ : g ≠ gb239)); have NB239_0 := Ad.mk ((by have G0 := HI0; exact z22_ : gb239 ≠ g)); replace HK := Ad.mk (KeepBut.trans z3_ (KeepBut.of_below hb g none) (.inl rfl)); replace HB := Ad.mk (below_step (by have G0 := HI0; exact z4_) hb); replace HI0 := Ad.mk (IsS65.below (by have G0 := HI0; exact z2_) hb); clear hb hbox hg; obtain ⟨HGz16, hgz16⟩ := HI0.out; have hcz16_0 := cellS65_0 HGz16; have hcz16_1 := cellS65_1 HGz16; have hfz16_0 := blk_frozen HGz16 0; have hfz16_1 := blk_frozen HGz16 1; clear HGz16 hgz16) | ((with_reducible refine gate_callee (f := 63) rfl ?_); refine goesL_ (some 11) rfl rfl Tryd.func63 k1_ rfl #[.pointer (some ⟨g, 0, none⟩), .int .i64 s0_1] rfl g1_ ?_; (with_reducible refine (ls_ch.calls g s0_0 s0_1 s0_1 t240 t241 t242 w0 _ ?side1 ?side2 A2.out).mono ?_); (case side1 => exact (by have G0 := HI0; have G1 := NB0_239; exact z7_)); (case side2 => exact (by have G0 := HI0; have G1 := GE239; exact z8_)); rintro e w17 ⟨rfl, hi, hb, hk⟩; refine ⟨_, rfl, ?_⟩; replace BK239 := Ad.mk (KeepBut.blk hk (g' := gb239) (o := .cells #[.int .i64 0, .string ⟨#[]⟩, .int .i64 0, .string ⟨#[]⟩, .string ⟨#[]⟩, .int .i64 0] 56 (0, 0)) (bd_ BK239.out) NB239_0.out (by simp)); replace HK := Ad.mk (KeepBut.trans (by have G0 := GW239; exact z6_) hk (.inl rfl)); replace HB := Ad.mk (hb); replace HI0 := Ad.mk (hi); clear hb hk hi; obtain ⟨HGz18, hgz18⟩ := HI0.out; have hcz18_0 := cellS65_0 HGz18; have hcz18_1 := cellS65_1 HGz18; have hfz18_0 := blk_frozen HGz18 0; have hfz18_1 := blk_frozen HGz18 1; clear HGz18 hgz18) | ((with_reducible refine gate_callee (f := 65) rfl ?_); refine goesL_ (some 27) rfl rfl Tryd.func65 k1_ rfl #[.pointer (some ⟨g, 0, none⟩), .int .i64 t242, .int .i64 32, .func (.func 66) #[] #[]] rfl g1_ ?_; (with_reducible refine (ls_run.calls k g t241 (wrap64 (t242 + 1)) t242 32 66 t243 t244 t245 w0 _ ?side1 ?side2 A4.out).mono ?_); (case side1 => exact (by have G0 := HI0; have G1 := NB0_239; exact z7_)); (case side2 => exact (by have G0 := HI0; have G1 := GE239; exact z8_)); rintro e w19 ⟨rfl, hi, hb, hk⟩; refine ⟨_, rfl, ?_⟩; replace BK239 := Ad.mk (KeepBut.blk hk (g' := gb239) (o := .cells #[.int .i64 0, .string ⟨#[]⟩, .int .i64 0, .string ⟨#[]⟩, .string ⟨#[]⟩, .int .i64 0] 56 (0, 0)) (by have G0 := NB239_0; have G1 := BK239; exact z31_) NB239_0.out (by simp)); replace HK := Ad.mk (KeepBut.trans (by have G0 := GW239; exact z6_) hk (.inl rfl)); replace HB := Ad.mk (hb); replace HI0 := Ad.mk (hi); clear hb hk hi; have hnb20 := NB239_0.out; have hnc20 := NB0_239.out; obtain ⟨⟨hcz21_0, hcz21_1, hcz21_2, hcz21_3, hcz21_4, hcz21_5⟩, hfz21_0, hfz21_1, hfz21_2, hfz21_3, hfz21_4, hfz21_5⟩ := c6_ BK239.out))
  refine bodyPost_ret (results_ct rfl _ _ gb239 56 #[.int .i64 5, .string t243, .int .i64 0, .string ⟨#[]⟩, .string ⟨#[]⟩, .int .i64 0] (0, 0) _ rfl (by have G0 := BK239; exact z68_) Tryd.underlying56 rfl k1_) rfl ?_
  exact ⟨e2_, by have G0 := HI0; have G1 := NB0_239; exact z7_, by have G0 := HI0; have G1 := GE239; exact z8_, by have G0 := GW239; exact z6_⟩
 rw [if_neg c3] at H
 have c3b0 := beq_eq_false_iff_ne.mpr c3
 have c3b1 := bne_iff_ne.mpr c3
 simp only [Option.some.injEq, Prod.mk.injEq] at H
 obtain ⟨rfl, rfl, rfl, rfl, rfl, rfl, rfl, rfl, rfl⟩ := H
 go_enter Tryd.func47, Tryd.ntmps47
 go_wp2_with (first | ((with_reducible refine gate_dst (N := 2) rfl ?_); refine box_event r1_ (N := 2) r1_ (cs := #[.int .i64 0, .string ⟨#[]⟩, .int .i64 0, .string ⟨#[]⟩, .string ⟨#[]⟩, .int .i64 0]) (t := 56) r2_ ?_; intro gb239 hg w22 hbox hb; have BK239 := Ad.mk (hbox); have GW239 := Ad.mk ((z12_ : w.heap.size ≤ gb239)); have GE239 := Ad.mk ((Nat.le_trans HW0.out (z12_ : w.heap.size ≤ gb239) : w0.heap.size ≤ gb239)); have NB0_239 := Ad.mk ((by have G0 := HI0; exact z21_ : g ≠ gb239)); have NB239_0 := Ad.mk ((by have G0 := HI0; exact z22_ : gb239 ≠ g)); replace HK := Ad.mk (KeepBut.trans z3_ (KeepBut.of_below hb g none) (.inl rfl)); replace HB := Ad.mk (below_step (by have G0 := HI0; exact z4_) hb); replace HI0 := Ad.mk (IsS65.below (by have G0 := HI0; exact z2_) hb); clear hb hbox hg; obtain ⟨HGz23, hgz23⟩ := HI0.out; have hcz23_0 := cellS65_0 HGz23; have hcz23_1 := cellS65_1 HGz23; have hfz23_0 := blk_frozen HGz23 0; have hfz23_1 := blk_frozen HGz23 1; clear HGz23 hgz23) | ((with_reducible refine gate_callee (f := 63) rfl ?_); refine goesL_ (some 11) rfl rfl Tryd.func63 k1_ rfl #[.pointer (some ⟨g, 0, none⟩), .int .i64 s0_1] rfl g1_ ?_; (with_reducible refine (ls_ch.calls g s0_0 s0_1 s0_1 t240 t241 t242 w0 _ ?side1 ?side2 A2.out).mono ?_); (case side1 => exact (by have G0 := HI0; have G1 := NB0_239; exact z7_)); (case side2 => exact (by have G0 := HI0; have G1 := GE239; exact z8_)); rintro e w24 ⟨rfl, hi, hb, hk⟩; refine ⟨_, rfl, ?_⟩; replace BK239 := Ad.mk (KeepBut.blk hk (g' := gb239) (o := .cells #[.int .i64 0, .string ⟨#[]⟩, .int .i64 0, .string ⟨#[]⟩, .string ⟨#[]⟩, .int .i64 0] 56 (0, 0)) (bd_ BK239.out) NB239_0.out (by simp)); replace HK := Ad.mk (KeepBut.trans (by have G0 := GW239; exact z6_) hk (.inl rfl)); replace HB := Ad.mk (hb); replace HI0 := Ad.mk (hi); clear hb hk hi; have hnb25 := NB239_0.out; have hnc25 := NB0_239.out; obtain ⟨⟨hcz26_0, hcz26_1, hcz26_2, hcz26_3, hcz26_4, hcz26_5⟩, hfz26_0, hfz26_1, hfz26_2, hfz26_3, hfz26_4, hfz26_5⟩ := c6_ BK239.out))
 refine bodyPost_ret (results_ct rfl _ _ gb239 56 #[.int .i64 0, .string ⟨#[]⟩, .int .i64 0, .string ⟨#[]⟩, .string ⟨#[]⟩, .int .i64 0] (0, 0) _ rfl (by have G0 := BK239; exact z32_) Tryd.underlying56 rfl k1_) rfl ?_
 exact ⟨e2_, by have G0 := HI0; have G1 := NB0_239; exact z7_, by have G0 := HI0; have G1 := GE239; exact z8_, by have G0 := GW239; exact z6_⟩
def ls_word.j0 : Nat → Int → Bool → ByteArray → Int → Option (Int × ByteArray × Int × ByteArray × ByteArray × Int × Bool × ByteArray × Int)
 | 0, _, _, _, _ => none
 | k + 1, x4, x33, x1000, x1001 => if x33 = true then (some (0, (⟨#[]⟩ : ByteArray), 0, (⟨#[]⟩ : ByteArray), (⟨#[]⟩ : ByteArray), 0, false, x1000, x1001)) else ((ls_run.f k x1000 x1001 x4 32 66).bind fun bt256 => ((ls_ch.f bt256.2.1 bt256.2.2 bt256.2.2).bind fun bt259 => (if bt259.1 = 58 then ((ls_ch.f bt259.2.1 bt259.2.2 (wrap64 (bt259.2.2 + 1))).bind fun bt262 => (if bt262.1 = 45 then (some (6, bt256.1, 0, (⟨#[]⟩ : ByteArray), (⟨#[]⟩ : ByteArray), 0, true, bt262.2.1, bt262.2.2)) else ((ls_run.f k bt262.2.1 (wrap64 (bt262.2.2 + 1)) x4 64 70).bind fun bt265 => (if 0 ≤ x4 then (if x4 ≤ bt265.2.2 then (if bt265.2.2 ≤ (bt265.2.1.size : Int) then (some (7, bt265.2.1.extract (x4 : Int).toNat (bt265.2.2 : Int).toNat, 0, (⟨#[]⟩ : ByteArray), (⟨#[]⟩ : ByteArray), 0, true, bt265.2.1, bt265.2.2)) else (none)) else (none)) else (none))))) else (some (6, bt256.1, 0, (⟨#[]⟩ : ByteArray), (⟨#[]⟩ : ByteArray), 0, true, bt259.2.1, bt259.2.2)))))
def ls_word.f (k : Nat) (s0_0 : ByteArray) (s0_1 : Int) : Option (Int × ByteArray × Int × ByteArray × ByteArray × Int × Bool × ByteArray × Int) := (ls_ch.f s0_0 s0_1 s0_1).bind fun bt249 => ((lex_letter.f bt249.1).bind fun t252 => (if t252 = true then (ls_word.j0 k s0_1 false bt249.2.1 bt249.2.2) else (if bt249.1 = 58 then ((ls_ch.f bt249.2.1 bt249.2.2 (wrap64 (bt249.2.2 + 1))).bind fun bt253 => (ls_word.j0 k s0_1 (bt253.1 == 45) bt253.2.1 bt253.2.2)) else (ls_word.j0 k s0_1 true bt249.2.1 bt249.2.2))))
theorem ls_word.calls (k : Nat) (g : Nat) (s0_0 : ByteArray) (s0_1 : Int) (r1 : Int) (r2 : ByteArray) (r3 : Int) (r4 : ByteArray) (r5 : ByteArray) (r6 : Int) (r7 : Bool) (r8 : ByteArray) (r9 : Int) (w0 w : World) (hI : IsS65 w0 w g s0_0 s0_1) (hB : Below w0.heap.size w0 w) (h : ls_word.f k s0_0 s0_1 = some (r1, r2, r3, r4, r5, r6, r7, r8, r9)) :
  Calls Tryd.prog 48 #[.pointer (some ⟨g, 0, none⟩)] w fun e w' => e = .returned (.tuple #[.agg #[.int .i64 r1, .string r2, .int .i64 r3, .string r4, .string r5, .int .i64 r6], .bool r7]) ∧ IsS65 w0 w' g r8 r9 ∧ Below w0.heap.size w0 w' ∧ KeepBut w w' g none := by
 have hu56 := Tryd.underlying56
 have HI0 := Ad.mk hI
 have HK := Ad.mk (KeepBut.refl w g none)
 have HL := Ad.mk hB.size
 clear hI
 have HW0 := Ad.mk hB.size
 have HB := Ad.mk hB
 clear hB
 have H := h
 clear h
 unfold ls_word.f at H
 obtain ⟨⟨t249, t250, t251⟩, A2, H⟩ := bi_ H
 try dsimp only at H
 have HC3 := Ad.mk H
 clear H
 go_enter Tryd.func48, Tryd.ntmps48
 go_upto_region 3 with (first | ((with_reducible refine gate_dst (N := 2) rfl ?_); refine box_event r1_ (N := 2) r1_ (cs := #[.int .i64 0, .string ⟨#[]⟩, .int .i64 0, .string ⟨#[]⟩, .string ⟨#[]⟩, .int .i64 0]) (t := 56) r2_ ?_; intro gb248 hg w4 hbox hb; have BK248 := Ad.mk (hbox); have GW248 := Ad.mk ((z12_ : w.heap.size ≤ gb248)); have GE248 := Ad.mk ((Nat.le_trans HW0.out (z12_ : w.heap.size ≤ gb248) : w0.heap.size ≤ gb248)); have NB0_248 := Ad.mk ((by have G0 := HI0; exact z21_ : g ≠ gb248)); have NB248_0 := Ad.mk ((by have G0 := HI0; exact z22_ : gb248 ≠ g)); replace HK := Ad.mk (KeepBut.trans z3_ (KeepBut.of_below hb g none) (.inl rfl)); replace HB := Ad.mk (below_step (by have G0 := HI0; exact z4_) hb); replace HI0 := Ad.mk (IsS65.below (by have G0 := HI0; exact z2_) hb); clear hb hbox hg; obtain ⟨HGz5, hgz5⟩ := HI0.out; have hcz5_0 := cellS65_0 HGz5; have hcz5_1 := cellS65_1 HGz5; have hfz5_0 := blk_frozen HGz5 0; have hfz5_1 := blk_frozen HGz5 1; clear HGz5 hgz5) | ((with_reducible refine gate_callee (f := 63) rfl ?_); refine goesL_ (some 16) rfl rfl Tryd.func63 k1_ rfl #[.pointer (some ⟨g, 0, none⟩), .int .i64 s0_1] rfl g1_ ?_; (with_reducible refine (ls_ch.calls g s0_0 s0_1 s0_1 t249 t250 t251 w0 _ ?side1 ?side2 A2.out).mono ?_); (case side1 => exact (by have G0 := HI0; have G1 := NB0_248; exact z7_)); (case side2 => exact (by have G0 := HI0; have G1 := GE248; exact z8_)); rintro e w6 ⟨rfl, hi, hb, hk⟩; refine ⟨_, rfl, ?_⟩; replace BK248 := Ad.mk (KeepBut.blk hk (g' := gb248) (o := .cells #[.int .i64 0, .string ⟨#[]⟩, .int .i64 0, .string ⟨#[]⟩, .string ⟨#[]⟩, .int .i64 0] 56 (0, 0)) (bd_ BK248.out) NB248_0.out (by simp)); replace HK := Ad.mk (KeepBut.trans (by have G0 := GW248; exact z6_) hk (.inl rfl)); replace HB := Ad.mk (hb); replace HI0 := Ad.mk (hi); clear hb hk hi))
 (try simp only [Act.put, List.setIfInBounds_toArray, List.set_cons_zero, List.set_cons_succ])
 go_cut [33] (fun v33 wc => ∃ (kq : Nat) (x33_2 : Bool) (x1000_2 : ByteArray) (x1001_2 : Int), v33 = .bool x33_2 ∧ Ad (ls_word.j0 kq s0_1 x33_2 x1000_2 x1001_2 = some (r1, r2, r3, r4, r5, r6, r7, r8, r9)) ∧ Ad (kq ≤ k) ∧ Ad (wc.heap[gb248]? = some (.cells #[.int .i64 0, .string ⟨#[]⟩, .int .i64 0, .string ⟨#[]⟩, .string ⟨#[]⟩, .int .i64 0] 56 (0, 0))) ∧ Ad (IsS65 w0 wc g x1000_2 x1001_2) ∧ Ad (KeepBut w wc g none) ∧ Ad (Below w0.heap.size w0 wc))
 case first =>
  have H := HC3.out
  clear HC3
  obtain ⟨t252, A7, H⟩ := bi_ H
  by_cases c8 : t252 = true
  ·subst c8
   rw [if_pos rfl] at H
   have H' := Ad.mk H
   clear H
   go_wp2_with (first | ((with_reducible refine gate_callee (f := 69) rfl ?_); refine goesL_ (some 18) rfl rfl Tryd.func69 k1_ rfl #[.int .u8 t249] rfl g1_ ?_; (with_reducible refine (lex_letter.calls t249 true _ A7.out).mono ?_); rintro e w' ⟨rfl, ⟨nd, rfl⟩⟩; refine ⟨_, rfl, ?_⟩))
   go_meet
   case rel => exact ⟨_, (false), (t250), (t251), e1_, H', ⟨z20_⟩, ⟨by refine bd_ ?_; exact BK248.out⟩, ⟨by have G0 := HI0; have G1 := NB0_248; exact z7_⟩, ⟨by have G0 := GW248; exact z6_⟩, ⟨by have G0 := HI0; have G1 := GE248; exact z8_⟩⟩
  replace c8 := Bool.eq_false_iff.mpr c8
  subst c8
  rw [if_neg (show ¬ (false = true) by decide)] at H
  by_cases c9 : t249 = 58
  ·rw [if_pos c9] at H
   have c9b0 := beq_iff_eq.mpr c9
   have c9b1 := bne_eq_false_iff_eq.mpr c9
   clear c9
   (first | rw [c9b0] | (simp only [i64_w, i32_w]; rw [c9b0]) | skip)
   obtain ⟨⟨t253, t254, t255⟩, A10, H⟩ := bi_ H
   try dsimp only at H
   have H' := Ad.mk H
   clear H
   go_wp2_with (first | ((with_reducible refine gate_callee (f := 69) rfl ?_); refine goesL_ (some 18) rfl rfl Tryd.func69 k1_ rfl #[.int .u8 t249] rfl g1_ ?_; (with_reducible refine (lex_letter.calls t249 false _ A7.out).mono ?_); rintro e w' ⟨rfl, ⟨nd, rfl⟩⟩; refine ⟨_, rfl, ?_⟩; obtain ⟨HGz11, hgz11⟩ := HI0.out; have hcz11_0 := cellS65_0 HGz11; have hcz11_1 := cellS65_1 HGz11; have hfz11_0 := blk_frozen HGz11 0; have hfz11_1 := blk_frozen HGz11 1; clear HGz11 hgz11) | (go_at_call 63; (with_reducible refine (ls_ch.calls g t250 t251 (wrap64 (t251 + 1)) t253 t254 t255 w0 _ ?side1 ?side2 A10.out).mono ?_); (case side1 => exact (by have G0 := HI0; have G1 := NB0_248; exact z7_)); (case side2 => exact (by have G0 := HI0; have G1 := GE248; exact z8_)); rintro e w12 ⟨rfl, hi, hb, hk⟩; replace BK248 := Ad.mk (KeepBut.blk hk (g' := gb248) (o := .cells #[.int .i64 0, .string ⟨#[]⟩, .int .i64 0, .string ⟨#[]⟩, .string ⟨#[]⟩, .int .i64 0] 56 (0, 0)) (bd_ BK248.out) NB248_0.out (by simp)); replace HK := Ad.mk (KeepBut.trans (by have G0 := GW248; exact z6_) hk (.inl rfl)); replace HB := Ad.mk (hb); replace HI0 := Ad.mk (hi); clear hb hk hi))
   go_meet
   case rel => exact ⟨_, ((t253 == 45)), (t254), (t255), e1_, H', ⟨z20_⟩, ⟨by refine bd_ ?_; exact BK248.out⟩, ⟨by have G0 := HI0; have G1 := NB0_248; exact z7_⟩, ⟨by have G0 := GW248; exact z6_⟩, ⟨by have G0 := HI0; have G1 := GE248; exact z8_⟩⟩
  rw [if_neg c9] at H
  have c9b0 := beq_eq_false_iff_ne.mpr c9
  have c9b1 := bne_iff_ne.mpr c9
  (first | rw [c9b0] | (simp only [i64_w, i32_w]; rw [c9b0]) | skip)
  have H' := Ad.mk H
  clear H
  go_wp2_with (first | ((with_reducible refine gate_callee (f := 69) rfl ?_); refine goesL_ (some 18) rfl rfl Tryd.func69 k1_ rfl #[.int .u8 t249] rfl g1_ ?_; (with_reducible refine (lex_letter.calls t249 false _ A7.out).mono ?_); rintro e w' ⟨rfl, ⟨nd, rfl⟩⟩; refine ⟨_, rfl, ?_⟩))
  go_meet
  case rel => exact ⟨_, (true), (t250), (t251), e1_, H', ⟨z20_⟩, ⟨by refine bd_ ?_; exact BK248.out⟩, ⟨by have G0 := HI0; have G1 := NB0_248; exact z7_⟩, ⟨by have G0 := GW248; exact z6_⟩, ⟨by have G0 := HI0; have G1 := GE248; exact z8_⟩⟩
 case rest =>
  clear HC3
  try clear hcz5_0
  try clear hcz5_1
  try clear hfz5_0
  try clear hfz5_1
  obtain ⟨kq, x33_2, x1000_2, x1001_2, rfl, HA, HJ2, BK248, HI0, HK, HB⟩ := hcut
  cases kq with
  | zero => exact absurd HA.out (by simp [ls_word.j0])
  | succ kj2 =>
   have H := HA.out
   clear HA
   simp only [ls_word.j0] at H
   by_cases c13 : x33_2 = true
   ·subst c13
    rw [if_pos rfl] at H
    simp only [Option.some.injEq, Prod.mk.injEq] at H
    obtain ⟨rfl, rfl, rfl, rfl, rfl, rfl, rfl, rfl, rfl⟩ := H
    have hnb14 := NB248_0.out
    have hnc14 := NB0_248.out
    obtain ⟨⟨hcz15_0, hcz15_1, hcz15_2, hcz15_3, hcz15_4, hcz15_5⟩, hfz15_0, hfz15_1, hfz15_2, hfz15_3, hfz15_4, hfz15_5⟩ := c6_ BK248.out
    go_wp2
    refine bodyPost_ret (results_ct rfl _ _ gb248 56 #[.int .i64 0, .string ⟨#[]⟩, .int .i64 0, .string ⟨#[]⟩, .string ⟨#[]⟩, .int .i64 0] (0, 0) _ rfl (by have G0 := BK248; exact z32_) Tryd.underlying56 rfl k1_) rfl ?_
    exact ⟨e2_, by have G0 := HI0; have G1 := NB0_248; exact z7_, by have G0 := HI0; have G1 := GE248; exact z8_, by have G0 := GW248; exact z6_⟩
   replace c13 := Bool.eq_false_iff.mpr c13
   subst c13
   rw [if_neg (show ¬ (false = true) by decide)] at H
   obtain ⟨⟨t256, t257, t258⟩, A16, H⟩ := bi_ H
   try dsimp only at H
   obtain ⟨⟨t259, t260, t261⟩, A17, H⟩ := bi_ H
   try dsimp only at H
   by_cases c18 : t259 = 58
   ·rw [if_pos c18] at H
    have c18b0 := beq_iff_eq.mpr c18
    have c18b1 := bne_eq_false_iff_eq.mpr c18
    clear c18
    obtain ⟨⟨t262, t263, t264⟩, A19, H⟩ := bi_ H
    try dsimp only at H
    by_cases c20 : t262 = 45
    ·rw [if_pos c20] at H
     have c20b0 := beq_iff_eq.mpr c20
     have c20b1 := bne_eq_false_iff_eq.mpr c20
     clear c20
     simp only [Option.some.injEq, Prod.mk.injEq] at H
     obtain ⟨rfl, rfl, rfl, rfl, rfl, rfl, rfl, rfl, rfl⟩ := H
     go_wp2_with (first | ((with_reducible refine gate_callee (f := 65) rfl ?_); refine goesL_ (some 37) rfl rfl Tryd.func65 k1_ rfl #[.pointer (some ⟨g, 0, none⟩), .int .i64 s0_1, .int .i64 32, .func (.func 66) #[] #[]] rfl g1_ ?_; (with_reducible refine (ls_run.calls kj2 g x1000_2 x1001_2 s0_1 32 66 t256 t257 t258 w0 _ ?side1 ?side2 A16.out).mono ?_); (case side1 => exact (by have G0 := HI0; have G1 := NB0_248; exact z7_)); (case side2 => exact (by have G0 := HI0; have G1 := GE248; exact z8_)); rintro e w21 ⟨rfl, hi, hb, hk⟩; refine ⟨_, rfl, ?_⟩; replace BK248 := Ad.mk (KeepBut.blk hk (g' := gb248) (o := .cells #[.int .i64 0, .string ⟨#[]⟩, .int .i64 0, .string ⟨#[]⟩, .string ⟨#[]⟩, .int .i64 0] 56 (0, 0)) (bd_ BK248.out) NB248_0.out (by simp)); replace HK := Ad.mk (KeepBut.trans (by have G0 := GW248; exact z6_) hk (.inl rfl)); replace HB := Ad.mk (hb); replace HI0 := Ad.mk (hi); clear hb hk hi; obtain ⟨HGz22, hgz22⟩ := HI0.out; have hcz22_0 := cellS65_0 HGz22; have hcz22_1 := cellS65_1 HGz22; have hfz22_0 := blk_frozen HGz22 0; have hfz22_1 := blk_frozen HGz22 1; clear HGz22 hgz22) | ((with_reducible refine gate_callee (f := 63) rfl ?_); refine goesL_ (some 43) rfl rfl Tryd.func63 k1_ rfl #[.pointer (some ⟨g, 0, none⟩), .int .i64 t258] rfl g1_ ?_; (with_reducible refine (ls_ch.calls g t257 t258 t258 t259 t260 t261 w0 _ ?side1 ?side2 A17.out).mono ?_); (case side1 => exact (by have G0 := HI0; have G1 := NB0_248; exact z7_)); (case side2 => exact (by have G0 := HI0; have G1 := GE248; exact z8_)); rintro e w23 ⟨rfl, hi, hb, hk⟩; refine ⟨_, rfl, ?_⟩; replace BK248 := Ad.mk (KeepBut.blk hk (g' := gb248) (o := .cells #[.int .i64 0, .string ⟨#[]⟩, .int .i64 0, .string ⟨#[]⟩, .string ⟨#[]⟩, .int .i64 0] 56 (0, 0)) (bd_ BK248.out) NB248_0.out (by simp)); replace HK := Ad.mk (KeepBut.trans (by have G0 := GW248; exact z6_) hk (.inl rfl)); replace HB := Ad.mk (hb); replace HI0 := Ad.mk (hi); clear hb hk hi; obtain ⟨HGz24, hgz24⟩ := HI0.out; have hcz24_0 := cellS65_0 HGz24; have hcz24_1 := cellS65_1 HGz24; have hfz24_0 := blk_frozen HGz24 0; have hfz24_1 := blk_frozen HGz24 1; clear HGz24 hgz24) | (go_at_call 63; (with_reducible refine (ls_ch.calls g t260 t261 (wrap64 (t261 + 1)) t262 t263 t264 w0 _ ?side1 ?side2 A19.out).mono ?_); (case side1 => exact (by have G0 := HI0; have G1 := NB0_248; exact z7_)); (case side2 => exact (by have G0 := HI0; have G1 := GE248; exact z8_)); rintro e w25 ⟨rfl, hi, hb, hk⟩; replace BK248 := Ad.mk (KeepBut.blk hk (g' := gb248) (o := .cells #[.int .i64 0, .string ⟨#[]⟩, .int .i64 0, .string ⟨#[]⟩, .string ⟨#[]⟩, .int .i64 0] 56 (0, 0)) (bd_ BK248.out) NB248_0.out (by simp)); replace HK := Ad.mk (KeepBut.trans (by have G0 := GW248; exact z6_) hk (.inl rfl)); replace HB := Ad.mk (hb); replace HI0 := Ad.mk (hi); clear hb hk hi; have hnb26 := NB248_0.out; have hnc26 := NB0_248.out; obtain ⟨⟨hcz27_0, hcz27_1, hcz27_2, hcz27_3, hcz27_4, hcz27_5⟩, hfz27_0, hfz27_1, hfz27_2, hfz27_3, hfz27_4, hfz27_5⟩ := c6_ BK248.out))
     refine bodyPost_ret (results_ct rfl _ _ gb248 56 #[.int .i64 6, .string t256, .int .i64 0, .string ⟨#[]⟩, .string ⟨#[]⟩, .int .i64 0] (0, 0) _ rfl (by have G0 := BK248; exact z69_) Tryd.underlying56 rfl k1_) rfl ?_
     exact ⟨e2_, by have G0 := HI0; have G1 := NB0_248; exact z7_, by have G0 := HI0; have G1 := GE248; exact z8_, by have G0 := GW248; exact z6_⟩
    rw [if_neg c20] at H
    have c20b0 := beq_eq_false_iff_ne.mpr c20
    have c20b1 := bne_iff_ne.mpr c20
    obtain ⟨⟨t265, t266, t267⟩, A28, H⟩ := bi_ H
    try dsimp only at H
    by_cases c29 : 0 ≤ s0_1
    ·rw [if_pos c29] at H
     have c29b0 := eq_true c29
     have c29b1 := decide_eq_true c29
     clear c29
     by_cases c30 : s0_1 ≤ t267
     ·rw [if_pos c30] at H
      have c30b0 := eq_true c30
      have c30b1 := decide_eq_true c30
      clear c30
      by_cases c31 : t267 ≤ (t266.size : Int)
      ·rw [if_pos c31] at H
       have c31b0 := eq_true c31
       have c31b1 := decide_eq_true c31
       clear c31
       simp only [Option.some.injEq, Prod.mk.injEq] at H
       obtain ⟨rfl, rfl, rfl, rfl, rfl, rfl, rfl, rfl, rfl⟩ := H
       go_wp2_with (first | ((with_reducible refine gate_callee (f := 65) rfl ?_); refine goesL_ (some 37) rfl rfl Tryd.func65 k1_ rfl #[.pointer (some ⟨g, 0, none⟩), .int .i64 s0_1, .int .i64 32, .func (.func 66) #[] #[]] rfl g1_ ?_; (with_reducible refine (ls_run.calls kj2 g x1000_2 x1001_2 s0_1 32 66 t256 t257 t258 w0 _ ?side1 ?side2 A16.out).mono ?_); (case side1 => exact (by have G0 := HI0; have G1 := NB0_248; exact z7_)); (case side2 => exact (by have G0 := HI0; have G1 := GE248; exact z8_)); rintro e w32 ⟨rfl, hi, hb, hk⟩; refine ⟨_, rfl, ?_⟩; replace BK248 := Ad.mk (KeepBut.blk hk (g' := gb248) (o := .cells #[.int .i64 0, .string ⟨#[]⟩, .int .i64 0, .string ⟨#[]⟩, .string ⟨#[]⟩, .int .i64 0] 56 (0, 0)) (bd_ BK248.out) NB248_0.out (by simp)); replace HK := Ad.mk (KeepBut.trans (by have G0 := GW248; exact z6_) hk (.inl rfl)); replace HB := Ad.mk (hb); replace HI0 := Ad.mk (hi); clear hb hk hi; obtain ⟨HGz33, hgz33⟩ := HI0.out; have hcz33_0 := cellS65_0 HGz33; have hcz33_1 := cellS65_1 HGz33; have hfz33_0 := blk_frozen HGz33 0; have hfz33_1 := blk_frozen HGz33 1; clear HGz33 hgz33) | ((with_reducible refine gate_callee (f := 63) rfl ?_); refine goesL_ (some 43) rfl rfl Tryd.func63 k1_ rfl #[.pointer (some ⟨g, 0, none⟩), .int .i64 t258] rfl g1_ ?_; (with_reducible refine (ls_ch.calls g t257 t258 t258 t259 t260 t261 w0 _ ?side1 ?side2 A17.out).mono ?_); (case side1 => exact (by have G0 := HI0; have G1 := NB0_248; exact z7_)); (case side2 => exact (by have G0 := HI0; have G1 := GE248; exact z8_)); rintro e w34 ⟨rfl, hi, hb, hk⟩; refine ⟨_, rfl, ?_⟩; replace BK248 := Ad.mk (KeepBut.blk hk (g' := gb248) (o := .cells #[.int .i64 0, .string ⟨#[]⟩, .int .i64 0, .string ⟨#[]⟩, .string ⟨#[]⟩, .int .i64 0] 56 (0, 0)) (bd_ BK248.out) NB248_0.out (by simp)); replace HK := Ad.mk (KeepBut.trans (by have G0 := GW248; exact z6_) hk (.inl rfl)); replace HB := Ad.mk (hb); replace HI0 := Ad.mk (hi); clear hb hk hi; obtain ⟨HGz35, hgz35⟩ := HI0.out; have hcz35_0 := cellS65_0 HGz35; have hcz35_1 := cellS65_1 HGz35; have hfz35_0 := blk_frozen HGz35 0; have hfz35_1 := blk_frozen HGz35 1; clear HGz35 hgz35) | (go_at_call 63; (with_reducible refine (ls_ch.calls g t260 t261 (wrap64 (t261 + 1)) t262 t263 t264 w0 _ ?side1 ?side2 A19.out).mono ?_); (case side1 => exact (by have G0 := HI0; have G1 := NB0_248; exact z7_)); (case side2 => exact (by have G0 := HI0; have G1 := GE248; exact z8_)); rintro e w36 ⟨rfl, hi, hb, hk⟩; replace BK248 := Ad.mk (KeepBut.blk hk (g' := gb248) (o := .cells #[.int .i64 0, .string ⟨#[]⟩, .int .i64 0, .string ⟨#[]⟩, .string ⟨#[]⟩, .int .i64 0] 56 (0, 0)) (bd_ BK248.out) NB248_0.out (by simp)); replace HK := Ad.mk (KeepBut.trans (by have G0 := GW248; exact z6_) hk (.inl rfl)); replace HB := Ad.mk (hb); replace HI0 := Ad.mk (hi); clear hb hk hi; obtain ⟨HGz37, hgz37⟩ := HI0.out; have hcz37_0 := cellS65_0 HGz37; have hcz37_1 := cellS65_1 HGz37; have hfz37_0 := blk_frozen HGz37 0; have hfz37_1 := blk_frozen HGz37 1; clear HGz37 hgz37) | ((with_reducible refine gate_callee (f := 65) rfl ?_); refine goesL_ (some 66) rfl rfl Tryd.func65 k1_ rfl #[.pointer (some ⟨g, 0, none⟩), .int .i64 s0_1, .int .i64 64, .func (.func 70) #[] #[]] rfl g1_ ?_; (with_reducible refine (ls_run.calls kj2 g t263 (wrap64 (t264 + 1)) s0_1 64 70 t265 t266 t267 w0 _ ?side1 ?side2 A28.out).mono ?_); (case side1 => exact (by have G0 := HI0; have G1 := NB0_248; exact z7_)); (case side2 => exact (by have G0 := HI0; have G1 := GE248; exact z8_)); rintro e w38 ⟨rfl, hi, hb, hk⟩; refine ⟨_, rfl, ?_⟩; replace BK248 := Ad.mk (KeepBut.blk hk (g' := gb248) (o := .cells #[.int .i64 0, .string ⟨#[]⟩, .int .i64 0, .string ⟨#[]⟩, .string ⟨#[]⟩, .int .i64 0] 56 (0, 0)) (by have G0 := NB248_0; have G1 := BK248; exact z31_) NB248_0.out (by simp)); replace HK := Ad.mk (KeepBut.trans (by have G0 := GW248; exact z6_) hk (.inl rfl)); replace HB := Ad.mk (hb); replace HI0 := Ad.mk (hi); clear hb hk hi; obtain ⟨HGz39, hgz39⟩ := HI0.out; have hcz39_0 := cellS65_0 HGz39; have hcz39_1 := cellS65_1 HGz39; have hfz39_0 := blk_frozen HGz39 0; have hfz39_1 := blk_frozen HGz39 1; clear HGz39 hgz39; have hnb40 := NB248_0.out; have hnc40 := NB0_248.out; obtain ⟨⟨hcz41_0, hcz41_1, hcz41_2, hcz41_3, hcz41_4, hcz41_5⟩, hfz41_0, hfz41_1, hfz41_2, hfz41_3, hfz41_4, hfz41_5⟩ := c6_ BK248.out))
       go_region
       all_goals (go_wp2; refine bodyPost_ret (results_ct rfl _ _ gb248 56 #[.int .i64 7, .string (t266.extract (s0_1 : Int).toNat (t267 : Int).toNat), .int .i64 0, .string ⟨#[]⟩, .string ⟨#[]⟩, .int .i64 0] (0, 0) _ rfl (by refine bd_ ?_; refine blk_put (cs := #[.int .i64 7, .string (t266.extract (s0_1 : Int).toNat (t267 : Int).toNat), .int .i64 0, .string ⟨#[]⟩, .string ⟨#[]⟩, .int .i64 0]) ?_ 5 _ rfl; refine bd_ ?_; refine blk_put (cs := #[.int .i64 7, .string (t266.extract (s0_1 : Int).toNat (t267 : Int).toNat), .int .i64 0, .string ⟨#[]⟩, .string ⟨#[]⟩, .int .i64 0]) ?_ 4 _ rfl; refine bd_ ?_; refine blk_put (cs := #[.int .i64 7, .string (t266.extract (s0_1 : Int).toNat (t267 : Int).toNat), .int .i64 0, .string ⟨#[]⟩, .string ⟨#[]⟩, .int .i64 0]) ?_ 3 _ rfl; refine bd_ ?_; refine blk_put (cs := #[.int .i64 7, .string (t266.extract (s0_1 : Int).toNat (t267 : Int).toNat), .int .i64 0, .string ⟨#[]⟩, .string ⟨#[]⟩, .int .i64 0]) ?_ 2 _ rfl; refine bd_ ?_; refine blk_put (cs := #[.int .i64 7, .string ⟨#[]⟩, .int .i64 0, .string ⟨#[]⟩, .string ⟨#[]⟩, .int .i64 0]) ?_ 1 _ rfl; refine bd_ ?_; refine blk_put (cs := #[.int .i64 0, .string ⟨#[]⟩, .int .i64 0, .string ⟨#[]⟩, .string ⟨#[]⟩, .int .i64 0]) ?_ 0 _ rfl; refine bd_ ?_; exact BK248.out) Tryd.underlying56 rfl k1_) rfl ?_; exact ⟨e2_, by have G0 := HI0; have G1 := NB0_248; exact z7_, by have G0 := HI0; have G1 := GE248; exact z8_, by have G0 := GW248; exact z6_⟩)
      rw [if_neg c31] at H
      exact absurd H (by simp)
     rw [if_neg c30] at H
     exact absurd H (by simp)
    rw [if_neg c29] at H
    exact absurd H (by simp)
   rw [if_neg c18] at H
   have c18b0 := beq_eq_false_iff_ne.mpr c18
   have c18b1 := bne_iff_ne.mpr c18
   simp only [Option.some.injEq, Prod.mk.injEq] at H
   obtain ⟨rfl, rfl, rfl, rfl, rfl, rfl, rfl, rfl, rfl⟩ := H
   go_wp2_with (first | ((with_reducible refine gate_callee (f := 65) rfl ?_); refine goesL_ (some 37) rfl rfl Tryd.func65 k1_ rfl #[.pointer (some ⟨g, 0, none⟩), .int .i64 s0_1, .int .i64 32, .func (.func 66) #[] #[]] rfl g1_ ?_; (with_reducible refine (ls_run.calls kj2 g x1000_2 x1001_2 s0_1 32 66 t256 t257 t258 w0 _ ?side1 ?side2 A16.out).mono ?_); (case side1 => exact (by have G0 := HI0; have G1 := NB0_248; exact z7_)); (case side2 => exact (by have G0 := HI0; have G1 := GE248; exact z8_)); rintro e w42 ⟨rfl, hi, hb, hk⟩; refine ⟨_, rfl, ?_⟩; replace BK248 := Ad.mk (KeepBut.blk hk (g' := gb248) (o := .cells #[.int .i64 0, .string ⟨#[]⟩, .int .i64 0, .string ⟨#[]⟩, .string ⟨#[]⟩, .int .i64 0] 56 (0, 0)) (bd_ BK248.out) NB248_0.out (by simp)); replace HK := Ad.mk (KeepBut.trans (by have G0 := GW248; exact z6_) hk (.inl rfl)); replace HB := Ad.mk (hb); replace HI0 := Ad.mk (hi); clear hb hk hi; obtain ⟨HGz43, hgz43⟩ := HI0.out; have hcz43_0 := cellS65_0 HGz43; have hcz43_1 := cellS65_1 HGz43; have hfz43_0 := blk_frozen HGz43 0; have hfz43_1 := blk_frozen HGz43 1; clear HGz43 hgz43) | ((with_reducible refine gate_callee (f := 63) rfl ?_); refine goesL_ (some 43) rfl rfl Tryd.func63 k1_ rfl #[.pointer (some ⟨g, 0, none⟩), .int .i64 t258] rfl g1_ ?_; (with_reducible refine (ls_ch.calls g t257 t258 t258 t259 t260 t261 w0 _ ?side1 ?side2 A17.out).mono ?_); (case side1 => exact (by have G0 := HI0; have G1 := NB0_248; exact z7_)); (case side2 => exact (by have G0 := HI0; have G1 := GE248; exact z8_)); rintro e w44 ⟨rfl, hi, hb, hk⟩; refine ⟨_, rfl, ?_⟩; replace BK248 := Ad.mk (KeepBut.blk hk (g' := gb248) (o := .cells #[.int .i64 0, .string ⟨#[]⟩, .int .i64 0, .string ⟨#[]⟩, .string ⟨#[]⟩, .int .i64 0] 56 (0, 0)) (bd_ BK248.out) NB248_0.out (by simp)); replace HK := Ad.mk (KeepBut.trans (by have G0 := GW248; exact z6_) hk (.inl rfl)); replace HB := Ad.mk (hb); replace HI0 := Ad.mk (hi); clear hb hk hi; have hnb45 := NB248_0.out; have hnc45 := NB0_248.out; obtain ⟨⟨hcz46_0, hcz46_1, hcz46_2, hcz46_3, hcz46_4, hcz46_5⟩, hfz46_0, hfz46_1, hfz46_2, hfz46_3, hfz46_4, hfz46_5⟩ := c6_ BK248.out))
   refine bodyPost_ret (results_ct rfl _ _ gb248 56 #[.int .i64 6, .string t256, .int .i64 0, .string ⟨#[]⟩, .string ⟨#[]⟩, .int .i64 0] (0, 0) _ rfl (by have G0 := BK248; exact z69_) Tryd.underlying56 rfl k1_) rfl ?_
   exact ⟨e2_, by have G0 := HI0; have G1 := NB0_248; exact z7_, by have G0 := HI0; have G1 := GE248; exact z8_, by have G0 := GW248; exact z6_⟩
def stringslite_HasPrefix.f (a0 : ByteArray) (a1 : ByteArray) : Option (Bool) := if (a0.size : Int) ≥ (a1.size : Int) then (if 0 ≤ (a1.size : Int) then (if (a1.size : Int) ≤ (a0.size : Int) then (some ((a0.extract 0 ((a1.size : Int) : Int).toNat).toList == a1.toList)) else (none)) else (none)) else (some false)
theorem stringslite_HasPrefix.calls (a0 : ByteArray) (a1 : ByteArray) (r : Bool) (w : World) (h : stringslite_HasPrefix.f a0 a1 = some r) :
  Calls Tryd.prog 79 #[.string a0, .string a1] w fun e w' => e = .returned (.bool r) ∧ Drawn0 w w' := by
 have H := h
 clear h
 unfold stringslite_HasPrefix.f at H
 by_cases c3 : (a0.size : Int) ≥ (a1.size : Int)
 ·rw [if_pos c3] at H
  have c3b0 : decide ((a1.size : Int) ≤ (a0.size : Int)) = true := decide_eq_true c3
  have c3b1 : decide (a1.size ≤ a0.size) = true := decide_eq_true (Int.ofNat_le.mp c3)
  clear c3
  by_cases c4 : 0 ≤ (a1.size : Int)
  ·rw [if_pos c4] at H
   have c4b0 := eq_true c4
   have c4b1 := decide_eq_true c4
   clear c4
   by_cases c5 : (a1.size : Int) ≤ (a0.size : Int)
   ·rw [if_pos c5] at H
    have c5b0 := eq_true c5
    have c5b1 := decide_eq_true c5
    clear c5
    obtain rfl := Option.some.inj H
    go_enter Tryd.func79, Tryd.ntmps79
    go_wp2
    go_ret
    exact ⟨e1_, z5_⟩
   rw [if_neg c5] at H
   exact absurd H (by simp)
  rw [if_neg c4] at H
  exact absurd H (by simp)
 rw [if_neg c3] at H
 have c3b0 : decide ((a1.size : Int) ≤ (a0.size : Int)) = false := decide_eq_false c3
 have c3b1 : decide (a1.size ≤ a0.size) = false := decide_eq_false (fun h => c3 (Int.ofNat_le.mpr h))
 clear c3
 obtain rfl := Option.some.inj H
 go_enter Tryd.func79, Tryd.ntmps79
 go_wp2
 go_ret
 exact ⟨e1_, z5_⟩
def strings_HasPrefix.f (a0 : ByteArray) (a1 : ByteArray) : Option (Bool) := (stringslite_HasPrefix.f a0 a1).bind fun t268 => (some t268)
theorem strings_HasPrefix.calls (a0 : ByteArray) (a1 : ByteArray) (r : Bool) (w : World) (h : strings_HasPrefix.f a0 a1 = some r) :
  Calls Tryd.prog 71 #[.string a0, .string a1] w fun e w' => e = .returned (.bool r) ∧ Drawn0 w w' := by
 have H := h
 clear h
 unfold strings_HasPrefix.f at H
 obtain ⟨t268, A3, H⟩ := bi_ H
 obtain rfl := Option.some.inj H
 go_enter Tryd.func71, Tryd.ntmps71
 go_wp2_with (first | ((with_reducible refine gate_callee (f := 79) rfl ?_); refine goesL_ (some 7) rfl rfl Tryd.func79 k1_ rfl #[.string a0, .string a1] rfl g1_ ?_; (with_reducible refine (stringslite_HasPrefix.calls a0 a1 t268 _ A3.out).mono ?_); rintro e w' ⟨rfl, ⟨nd, rfl⟩⟩; refine ⟨_, rfl, ?_⟩))
 go_ret
 exact ⟨e1_, z5_⟩
end Go.Proofs.YtjnhdamilbcmpaaDoor.PTm

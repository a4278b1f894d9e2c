import Derived.Test.YtpbphelaeleikaaGreatDoorXtPLtx0
import Derived.Test.YtpbphelaeleikaaGreatDoorXtPLtx3
import Derived.Test.YtpbphelaeleikaaGreatDoorXtPLtx4
namespace Go.Proofs.YtpbphelaeleikaaGreatDoor.PLt
open Go.RowKit Go.Proofs.YtpbphelaeleikaaGreatDoorW.PrintWords Go.Proofs.YtpbphelaeleikaaGreatDoorW.PrintLast Go.Proofs.YtpbphelaeleikaaGreatDoorW.PrintMore
attribute [local go_sem] max2_int min2_int max_two min_two max_three min_three max_four min_four
set_option linter.unusedVariables false
set_option linter.unusedSimpArgs false
set_option maxHeartbeats 8000000
set_option maxRecDepth 100000
def ls_iri.f (k : Nat) (s0_0 : ByteArray) (s0_1 : Int) : Option (Int × ByteArray × Int × ByteArray × ByteArray × Int × Bool × ByteArray × Int) := (ls_ch.f s0_0 s0_1 s0_1).bind fun bt141 => (if bt141.1 = 60 then ((ls_quoted.f k bt141.2.1 bt141.2.2 62 false).bind fun bt144 => ((term_May.f k 1 bt144.1 (⟨#[]⟩ : ByteArray)).bind fun t148 => (if t148 = true then (some (1, (⟨#[]⟩ : ByteArray), 1, bt144.1, (⟨#[]⟩ : ByteArray), 0, true, bt144.2.1, bt144.2.2)) else ((ls_fail.f bt144.2.1 bt144.2.2 bt141.2.2).bind fun bt149 => (some (1, (⟨#[]⟩ : ByteArray), 1, bt144.1, (⟨#[]⟩ : ByteArray), 0, true, bt149.1, bt149.2)))))) else (some (0, (⟨#[]⟩ : ByteArray), 0, (⟨#[]⟩ : ByteArray), (⟨#[]⟩ : ByteArray), 0, false, bt141.2.1, bt141.2.2)))
theorem ls_iri.calls (k : Nat) (g : Nat) (s0_0 : ByteArray) (s0_1 : Int) (r1 : Int) (r2 : ByteArray) (r3 : Int) (r4 : ByteArray) (r5 : ByteArray) (r6 : Int) (r7 : Bool) (r8 : ByteArray) (r9 : Int) (w0 w : World) (hI : IsS73 w0 w g s0_0 s0_1) (hB : Below w0.heap.size w0 w) (h : ls_iri.f k s0_0 s0_1 = some (r1, r2, r3, r4, r5, r6, r7, r8, r9)) :
  Calls Tryz.prog 69 #[.pointer (some ⟨g, 0, none⟩)] w fun e w' => e = .returned (.tuple #[.agg #[.int .i64 r1, .string r2, .int .i64 r3, .string r4, .string r5, .int .i64 r6], .bool r7]) ∧ IsS73 w0 w' g r8 r9 ∧ Below w0.heap.size w0 w' ∧ KeepBut w w' g none := by
 have hu43 := Tryz.underlying43
 have hu31 := Tryz.underlying31
 have HI0 := Ad.mk hI
 have HK := Ad.mk (KeepBut.refl w g none)
 have HL := Ad.mk hB.size
 clear hI
 have HW0 := Ad.mk hB.size
 have HB := Ad.mk hB
 clear hB
 have H := h
 clear h
 unfold ls_iri.f at H
 obtain ⟨⟨t141, t142, t143⟩, A2, H⟩ := bi_ H
 try dsimp only at H
 by_cases c3 : t141 = 60
 ·rw [if_pos c3] at H
  have c3b0 := beq_iff_eq.mpr c3
  have c3b1 := bne_eq_false_iff_eq.mpr c3
  clear c3
  obtain ⟨⟨t144, t145, t146⟩, A4, H⟩ := bi_ H
  try dsimp only at H
  obtain ⟨t148, A5, H⟩ := bi_ H
  by_cases c6 : t148 = true
  ·subst c6
   rw [if_pos rfl] at H
   simp only [Option.some.injEq, Prod.mk.injEq] at H
   obtain ⟨rfl, rfl, rfl, rfl, rfl, rfl, rfl, rfl, rfl⟩ := H
   go_enter Tryz.func69, Tryz.ntmps69
   go_wp2_with (first | ((with_reducible refine gate_dst (N := 2) rfl ?_); refine box_event r1_ (N := 2) r1_ (cs := #[.int .i64 0, .string ⟨#[]⟩, .int .i64 0, .string ⟨#[]⟩, .string ⟨#[]⟩, .int .i64 0]) (t := 43) r2_ ?_; intro gb140 hg w7 hbox hb; have BK140 := Ad.mk (hbox); have GW140 := Ad.mk ((z11_ : w.heap.size ≤ gb140)); have GE140 := Ad.mk ((Nat.le_trans HW0.out (z11_ : w.heap.size ≤ gb140) : w0.heap.size ≤ gb140)); have NB0_140 := Ad.mk ((by have G0 := HI0; exact z15_ : g ≠ gb140)); have NB140_0 := Ad.mk ((by have G0 := HI0; exact z16_ : gb140 ≠ g)); replace HK := Ad.mk (KeepBut.trans z9_ (KeepBut.of_below hb g none) (.inl rfl)); replace HB := Ad.mk (below_step (by have G0 := HI0; exact z10_) hb); replace HI0 := Ad.mk (IsS73.below (by have G0 := HI0; exact z8_) hb); clear hb hbox hg; obtain ⟨HGz8, hgz8⟩ := HI0.out; have hcz8_0 := cellS73_0 HGz8; have hcz8_1 := cellS73_1 HGz8; have hfz8_0 := blk_frozen HGz8 0; have hfz8_1 := blk_frozen HGz8 1; clear HGz8 hgz8) | ((with_reducible refine gate_callee (f := 84) rfl ?_); refine goesL_ (some 11) rfl rfl Tryz.func84 k1_ rfl #[.pointer (some ⟨g, 0, none⟩), .int .i64 s0_1] rfl g1_ ?_; (with_reducible refine (ls_ch.calls g s0_0 s0_1 s0_1 t141 t142 t143 w0 _ ?side1 ?side2 A2.out).mono ?_); (case side1 => exact (by have G0 := HI0; have G1 := NB0_140; exact z5_)); (case side2 => exact (by have G0 := HI0; have G1 := GE140; exact z6_)); rintro e w9 ⟨rfl, hi, hb, hk⟩; refine ⟨_, rfl, ?_⟩; replace BK140 := Ad.mk (KeepBut.blk hk (g' := gb140) (o := .cells #[.int .i64 0, .string ⟨#[]⟩, .int .i64 0, .string ⟨#[]⟩, .string ⟨#[]⟩, .int .i64 0] 43 (0, 0)) (bd_ BK140.out) NB140_0.out (by simp)); replace HK := Ad.mk (KeepBut.trans (by have G0 := GW140; exact z4_) hk (.inl rfl)); replace HB := Ad.mk (hb); replace HI0 := Ad.mk (hi); clear hb hk hi; obtain ⟨HGz10, hgz10⟩ := HI0.out; have hcz10_0 := cellS73_0 HGz10; have hcz10_1 := cellS73_1 HGz10; have hfz10_0 := blk_frozen HGz10 0; have hfz10_1 := blk_frozen HGz10 1; clear HGz10 hgz10) | ((with_reducible refine gate_callee (f := 85) rfl ?_); refine goesL_ (some 19) rfl rfl Tryz.func85 k1_ rfl #[.pointer (some ⟨g, 0, none⟩), .int .u8 62, .bool false] rfl g1_ ?_; (with_reducible refine (ls_quoted.calls k g t142 t143 62 false t144 t145 t146 w0 _ ?side1 ?side2 A4.out).mono ?_); (case side1 => exact (by have G0 := HI0; have G1 := NB0_140; exact z5_)); (case side2 => exact (by have G0 := HI0; have G1 := GE140; exact z6_)); rintro e w11 ⟨rfl, hi, hb, hk⟩; refine ⟨_, rfl, ?_⟩; replace BK140 := Ad.mk (KeepBut.blk hk (g' := gb140) (o := .cells #[.int .i64 0, .string ⟨#[]⟩, .int .i64 0, .string ⟨#[]⟩, .string ⟨#[]⟩, .int .i64 0] 43 (0, 0)) (bd_ BK140.out) NB140_0.out (by simp)); replace HK := Ad.mk (KeepBut.trans (by have G0 := GW140; exact z4_) hk (.inl rfl)); replace HB := Ad.mk (hb); replace HI0 := Ad.mk (hi); clear hb hk hi) | ((with_reducible refine gate_dst (N := 5) rfl ?_); refine box_event r1_ (N := 5) r1_ (cs := #[.int .i64 0, .string ⟨#[]⟩, .string ⟨#[]⟩]) (t := 31) r2_ ?_; intro gb147 hg w12 hbox hb; have BK147 := Ad.mk (hbox); have GW147 := Ad.mk ((by have G0 := GW140; exact z50_ : w.heap.size ≤ gb147)); have GE147 := Ad.mk ((Nat.le_trans HW0.out (by have G0 := GW140; exact z50_ : w.heap.size ≤ gb147) : w0.heap.size ≤ gb147)); have NB140_147 := Ad.mk ((by have G0 := BK140; exact z73_ : gb140 ≠ gb147)); have NB147_140 := Ad.mk ((by have G0 := BK140; exact z74_ : gb147 ≠ gb140)); have NB0_147 := Ad.mk ((by have G0 := HI0; have G1 := NB0_140; exact z75_ : g ≠ gb147)); have NB147_0 := Ad.mk ((by have G0 := HI0; have G1 := NB0_140; exact z76_ : gb147 ≠ g)); replace BK140 := Ad.mk (blk_below (g := gb140) (o := .cells #[.int .i64 0, .string ⟨#[]⟩, .int .i64 0, .string ⟨#[]⟩, .string ⟨#[]⟩, .int .i64 0] 43 (0, 0)) (bd_ BK140.out) hb); replace HK := Ad.mk (KeepBut.trans (by have G0 := GW140; exact z4_) (KeepBut.of_below hb g none) (.inl rfl)); replace HB := Ad.mk (below_step (by have G0 := HI0; have G1 := GE140; exact z6_) hb); replace HI0 := Ad.mk (IsS73.below (by have G0 := HI0; have G1 := NB0_140; exact z5_) hb); clear hb hbox hg; have hnb13 := NB147_140.out; have hnc13 := NB140_147.out; have hnb14 := NB147_0.out; have hnc14 := NB0_147.out; obtain ⟨⟨hcz15_0, hcz15_1, hcz15_2⟩, hfz15_0, hfz15_1, hfz15_2⟩ := c3_ BK147.out) | ((with_reducible refine gate_callee (f := 19) rfl ?_); refine goesL_ (some 22) rfl rfl Tryz.func19 k1_ rfl #[.agg #[.int .i64 1, .string t144, .string ⟨#[]⟩]] rfl g1_ ?_; (with_reducible refine (term_May.calls k 1 t144 (⟨#[]⟩ : ByteArray) true _ A5.out).mono ?_); rintro e w16 ⟨rfl, hb⟩; refine ⟨_, rfl, ?_⟩; replace BK140 := Ad.mk (blk_below (g := gb140) (o := .cells #[.int .i64 0, .string ⟨#[]⟩, .int .i64 0, .string ⟨#[]⟩, .string ⟨#[]⟩, .int .i64 0] 43 (0, 0)) (by have G0 := NB140_147; have G1 := BK140; exact z13_) hb); replace BK147 := Ad.mk (blk_below (g := gb147) (o := .cells #[.int .i64 1, .string t144, .string ⟨#[]⟩] 31 (0, 0)) (by have G0 := BK147; exact z77_) hb); replace HK := Ad.mk (KeepBut.trans (by have G0 := GW140; have G1 := GW147; exact z44_) (KeepBut.of_below hb g none) (.inl rfl)); replace HB := Ad.mk (below_step (by have G0 := HI0; have G1 := GE140; have G2 := GE147; exact z45_) hb); replace HI0 := Ad.mk (IsS73.below (show IsS73 w0 (((w12.setCell ⟨gb147, 0, none⟩ (.int .i64 1)).setCell ⟨gb147, 1, none⟩ (.string t144)).setCell ⟨gb147, 2, none⟩ (.string ⟨#[]⟩)) g t145 t146 from by have G0 := HI0; have G1 := NB0_140; have G2 := NB0_147; exact z46_) hb); clear hb; obtain ⟨⟨hcz17_0, hcz17_1, hcz17_2⟩, hfz17_0, hfz17_1, hfz17_2⟩ := c3_ BK147.out; have hnb18 := NB140_0.out; have hnc18 := NB0_140.out; obtain ⟨⟨hcz19_0, hcz19_1, hcz19_2, hcz19_3, hcz19_4, hcz19_5⟩, hfz19_0, hfz19_1, hfz19_2, hfz19_3, hfz19_4, hfz19_5⟩ := c6_ BK140.out))
   refine bodyPost_ret (results_ct rfl _ _ gb140 43 #[.int .i64 1, .string ⟨#[]⟩, .int .i64 1, .string t144, .string ⟨#[]⟩, .int .i64 0] (0, 0) _ rfl (by have G0 := BK140; exact z78_) Tryz.underlying43 rfl k1_) rfl ?_
   exact ⟨e2_, by have G0 := HI0; have G1 := NB0_140; have G2 := NB0_147; exact z46_, by have G0 := HI0; have G1 := GE140; have G2 := GE147; exact z45_, by have G0 := GW140; have G1 := GW147; exact z44_⟩
  replace c6 := Bool.eq_false_iff.mpr c6
  subst c6
  rw [if_neg (show ¬ (false = true) by decide)] at H
  obtain ⟨⟨t149, t150⟩, A20, H⟩ := bi_ H
  try dsimp only at H
  simp only [Option.some.injEq, Prod.mk.injEq] at H
  obtain ⟨rfl, rfl, rfl, rfl, rfl, rfl, rfl, rfl, rfl⟩ := H
  go_enter Tryz.func69, Tryz.ntmps69
  go_wp2_with (first | ((with_reducible refine gate_dst (N := 2) rfl ?_); refine box_event r1_ (N := 2) r1_ (cs := #[.int .i64 0, .string ⟨#[]⟩, .int .i64 0, .string ⟨#[]⟩, .string ⟨#[]⟩, .int .i64 0]) (t := 43) r2_ ?_; intro gb140 hg w21 hbox hb; have BK140 := Ad.mk (hbox); have GW140 := Ad.mk ((z11_ : w.heap.size ≤ gb140)); have GE140 := Ad.mk ((Nat.le_trans HW0.out (z11_ : w.heap.size ≤ gb140) : w0.heap.size ≤ gb140)); have NB0_140 := Ad.mk ((by have G0 := HI0; exact z15_ : g ≠ gb140)); have NB140_0 := Ad.mk ((by have G0 := HI0; exact z16_ : gb140 ≠ g)); replace HK := Ad.mk (KeepBut.trans z9_ (KeepBut.of_below hb g none) (.inl rfl)); replace HB := Ad.mk (below_step (by have G0 := HI0; exact z10_) hb); replace HI0 := Ad.mk (IsS73.below (by have G0 := HI0; exact z8_) hb); clear hb hbox hg; obtain ⟨HGz22, hgz22⟩ := HI0.out; have hcz22_0 := cellS73_0 HGz22; have hcz22_1 := cellS73_1 HGz22; have hfz22_0 := blk_frozen HGz22 0; have hfz22_1 := blk_frozen HGz22 1; clear HGz22 hgz22) | ((with_reducible refine gate_callee (f := 84) rfl ?_); refine goesL_ (some 11) rfl rfl Tryz.func84 k1_ rfl #[.pointer (some ⟨g, 0, none⟩), .int .i64 s0_1] rfl g1_ ?_; (with_reducible refine (ls_ch.calls g s0_0 s0_1 s0_1 t141 t142 t143 w0 _ ?side1 ?side2 A2.out).mono ?_); (case side1 => exact (by have G0 := HI0; have G1 := NB0_140; exact z5_)); (case side2 => exact (by have G0 := HI0; have G1 := GE140; exact z6_)); rintro e w23 ⟨rfl, hi, hb, hk⟩; refine ⟨_, rfl, ?_⟩; replace BK140 := Ad.mk (KeepBut.blk hk (g' := gb140) (o := .cells #[.int .i64 0, .string ⟨#[]⟩, .int .i64 0, .string ⟨#[]⟩, .string ⟨#[]⟩, .int .i64 0] 43 (0, 0)) (bd_ BK140.out) NB140_0.out (by simp)); replace HK := Ad.mk (KeepBut.trans (by have G0 := GW140; exact z4_) hk (.inl rfl)); replace HB := Ad.mk (hb); replace HI0 := Ad.mk (hi); clear hb hk hi; obtain ⟨HGz24, hgz24⟩ := HI0.out; have hcz24_0 := cellS73_0 HGz24; have hcz24_1 := cellS73_1 HGz24; have hfz24_0 := blk_frozen HGz24 0; have hfz24_1 := blk_frozen HGz24 1; clear HGz24 hgz24) | ((with_reducible refine gate_callee (f := 85) rfl ?_); refine goesL_ (some 19) rfl rfl Tryz.func85 k1_ rfl #[.pointer (some ⟨g, 0, none⟩), .int .u8 62, .bool false] rfl g1_ ?_; (with_reducible refine (ls_quoted.calls k g t142 t143 62 false t144 t145 t146 w0 _ ?side1 ?side2 A4.out).mono ?_); (case side1 => exact (by have G0 := HI0; have G1 := NB0_140; exact z5_)); (case side2 => exact (by have G0 := HI0; have G1 := GE140; exact z6_)); rintro e w25 ⟨rfl, hi, hb, hk⟩; refine ⟨_, rfl, ?_⟩; replace BK140 := Ad.mk (KeepBut.blk hk (g' := gb140) (o := .cells #[.int .i64 0, .string ⟨#[]⟩, .int .i64 0, .string ⟨#[]⟩, .string ⟨#[]⟩, .int .i64 0] 43 (0, 0)) (bd_ BK140.out) NB140_0.out (by simp)); replace HK := Ad.mk (KeepBut.trans (by have G0 := GW140; exact z4_) hk (.inl rfl)); replace HB := Ad.mk (hb); replace HI0 := Ad.mk (hi); clear hb hk hi) | ((with_reducible refine gate_dst (N := 5) rfl ?_); refine box_event r1_ (N := 5) r1_ (cs := #[.int .i64 0, .string ⟨#[]⟩, .string ⟨#[]⟩]) (t := 31) r2_ ?_; intro gb147 hg w26 hbox hb; have BK147 := Ad.mk (hbox); have GW147 := Ad.mk ((by have G0 := GW140; exact z50_ : w.heap.size ≤ gb147)); have GE147 := Ad.mk ((Nat.le_trans HW0.out (by have G0 := GW140; exact z50_ : w.heap.size ≤ gb147) : w0.heap.size ≤ gb147)); have NB140_147 := Ad.mk ((by have G0 := BK140; exact z73_ : gb140 ≠ gb147)); have NB147_140 := Ad.mk ((by have G0 := BK140; exact z74_ : gb147 ≠ gb140)); have NB0_147 := Ad.mk ((by have G0 := HI0; have G1 := NB0_140; exact z75_ : g ≠ gb147)); have NB147_0 := Ad.mk ((by have G0 := HI0; have G1 := NB0_140; exact z76_ : gb147 ≠ g)); replace BK140 := Ad.mk (blk_below (g := gb140) (o := .cells #[.int .i64 0, .string ⟨#[]⟩, .int .i64 0, .string ⟨#[]⟩, .string ⟨#[]⟩, .int .i64 0] 43 (0, 0)) (bd_ BK140.out) hb); replace HK := Ad.mk (KeepBut.trans (by have G0 := GW140; exact z4_) (KeepBut.of_below hb g none) (.inl rfl)); replace HB := Ad.mk (below_step (by have G0 := HI0; have G1 := GE140; exact z6_) hb); replace HI0 := Ad.mk (IsS73.below (by have G0 := HI0; have G1 := NB0_140; exact z5_) hb); clear hb hbox hg; have hnb27 := NB147_140.out; have hnc27 := NB140_147.out; have hnb28 := NB147_0.out; have hnc28 := NB0_147.out; obtain ⟨⟨hcz29_0, hcz29_1, hcz29_2⟩, hfz29_0, hfz29_1, hfz29_2⟩ := c3_ BK147.out) | ((with_reducible refine gate_callee (f := 19) rfl ?_); refine goesL_ (some 22) rfl rfl Tryz.func19 k1_ rfl #[.agg #[.int .i64 1, .string t144, .string ⟨#[]⟩]] rfl g1_ ?_; (with_reducible refine (term_May.calls k 1 t144 (⟨#[]⟩ : ByteArray) false _ A5.out).mono ?_); rintro e w30 ⟨rfl, hb⟩; refine ⟨_, rfl, ?_⟩; replace BK140 := Ad.mk (blk_below (g := gb140) (o := .cells #[.int .i64 0, .string ⟨#[]⟩, .int .i64 0, .string ⟨#[]⟩, .string ⟨#[]⟩, .int .i64 0] 43 (0, 0)) (by have G0 := NB140_147; have G1 := BK140; exact z13_) hb); replace BK147 := Ad.mk (blk_below (g := gb147) (o := .cells #[.int .i64 1, .string t144, .string ⟨#[]⟩] 31 (0, 0)) (by have G0 := BK147; exact z77_) hb); replace HK := Ad.mk (KeepBut.trans (by have G0 := GW140; have G1 := GW147; exact z44_) (KeepBut.of_below hb g none) (.inl rfl)); replace HB := Ad.mk (below_step (by have G0 := HI0; have G1 := GE140; have G2 := GE147; exact z45_) hb); replace HI0 := Ad.mk (IsS73.below (show IsS73 w0 (((w26.setCell ⟨gb147, 0, none⟩ (.int .i64 1)).setCell ⟨gb147, 1, none⟩ (.string t144)).setCell ⟨gb147, 2, none⟩ (.string ⟨#[]⟩)) g t145 t146 from by have G0 := HI0; have G1 := NB0_140; have G2 := NB0_147; exact z46_) hb); clear hb) | ((with_reducible refine gate_callee (f := 76) rfl ?_); refine goesL_ (some 26) rfl rfl Tryz.func76 k1_ rfl #[.pointer (some ⟨g, 0, none⟩), .int .i64 t143] rfl g1_ ?_; (with_reducible refine (ls_fail.calls g t145 t146 t143 t149 t150 w0 _ ?side1 ?side2 A20.out).mono ?_); (case side1 => exact (by have G0 := HI0; have G1 := NB0_140; have G2 := NB0_147; exact z46_)); (case side2 => exact (by have G0 := HI0; have G1 := GE140; have G2 := GE147; exact z45_)); rintro e w31 ⟨rfl, hi, hb, hk⟩; refine ⟨_, rfl, ?_⟩; replace BK140 := Ad.mk (KeepBut.blk hk (g' := gb140) (o := .cells #[.int .i64 0, .string ⟨#[]⟩, .int .i64 0, .string ⟨#[]⟩, .string ⟨#[]⟩, .int .i64 0] 43 (0, 0)) (bd_ BK140.out) NB140_0.out (by simp)); replace BK147 := Ad.mk (KeepBut.blk hk (g' := gb147) (o := .cells #[.int .i64 1, .string t144, .string ⟨#[]⟩] 31 (0, 0)) (bd_ BK147.out) NB147_0.out (by simp)); replace HK := Ad.mk (KeepBut.trans (by have G0 := GW140; have G1 := GW147; exact z44_) hk (.inl rfl)); replace HB := Ad.mk (hb); replace HI0 := Ad.mk (hi); clear hb hk hi; obtain ⟨⟨hcz32_0, hcz32_1, hcz32_2⟩, hfz32_0, hfz32_1, hfz32_2⟩ := c3_ BK147.out; have hnb33 := NB140_0.out; have hnc33 := NB0_140.out; obtain ⟨⟨hcz34_0, hcz34_1, hcz34_2, hcz34_3, hcz34_4, hcz34_5⟩, hfz34_0, hfz34_1, hfz34_2, hfz34_3, hfz34_4, hfz34_5⟩ := c6_ BK140.out))
  refine bodyPost_ret (results_ct rfl _ _ gb140 43 #[.int .i64 1, .string ⟨#[]⟩, .int .i64 1, .string t144, .string ⟨#[]⟩, .int .i64 0] (0, 0) _ rfl (by have G0 := BK140; exact z78_) Tryz.underlying43 rfl k1_) rfl ?_
  exact ⟨e2_, by have G0 := HI0; have G1 := NB0_140; have G2 := NB0_147; exact z46_, by have G0 := HI0; have G1 := GE140; have G2 := GE147; exact z45_, by have G0 := GW140; have G1 := GW147; exact z44_⟩
 rw [if_neg c3] at H
 have c3b0 := beq_eq_false_iff_ne.mpr c3
 have c3b1 := bne_iff_ne.mpr c3
 simp only [Option.some.injEq, Prod.mk.injEq] at H
 obtain ⟨rfl, rfl, rfl, rfl, rfl, rfl, rfl, rfl, rfl⟩ := H
 go_enter Tryz.func69, Tryz.ntmps69
 go_wp2_with (first | ((with_reducible refine gate_dst (N := 2) rfl ?_); refine box_event r1_ (N := 2) r1_ (cs := #[.int .i64 0, .string ⟨#[]⟩, .int .i64 0, .string ⟨#[]⟩, .string ⟨#[]⟩, .int .i64 0]) (t := 43) r2_ ?_; intro gb140 hg w35 hbox hb; have BK140 := Ad.mk (hbox); have GW140 := Ad.mk ((z11_ : w.heap.size ≤ gb140)); have GE140 := Ad.mk ((Nat.le_trans HW0.out (z11_ : w.heap.size ≤ gb140) : w0.heap.size ≤ gb140)); have NB0_140 := Ad.mk ((by have G0 := HI0; exact z15_ : g ≠ gb140)); have NB140_0 := Ad.mk ((by have G0 := HI0; exact z16_ : gb140 ≠ g)); replace HK := Ad.mk (KeepBut.trans z9_ (KeepBut.of_below hb g none) (.inl rfl)); replace HB := Ad.mk (below_step (by have G0 := HI0; exact z10_) hb); replace HI0 := Ad.mk (IsS73.below (by have G0 := HI0; exact z8_) hb); clear hb hbox hg; obtain ⟨HGz36, hgz36⟩ := HI0.out; have hcz36_0 := cellS73_0 HGz36; have hcz36_1 := cellS73_1 HGz36; have hfz36_0 := blk_frozen HGz36 0; have hfz36_1 := blk_frozen HGz36 1; clear HGz36 hgz36) | ((with_reducible refine gate_callee (f := 84) rfl ?_); refine goesL_ (some 11) rfl rfl Tryz.func84 k1_ rfl #[.pointer (some ⟨g, 0, none⟩), .int .i64 s0_1] rfl g1_ ?_; (with_reducible refine (ls_ch.calls g s0_0 s0_1 s0_1 t141 t142 t143 w0 _ ?side1 ?side2 A2.out).mono ?_); (case side1 => exact (by have G0 := HI0; have G1 := NB0_140; exact z5_)); (case side2 => exact (by have G0 := HI0; have G1 := GE140; exact z6_)); rintro e w37 ⟨rfl, hi, hb, hk⟩; refine ⟨_, rfl, ?_⟩; replace BK140 := Ad.mk (KeepBut.blk hk (g' := gb140) (o := .cells #[.int .i64 0, .string ⟨#[]⟩, .int .i64 0, .string ⟨#[]⟩, .string ⟨#[]⟩, .int .i64 0] 43 (0, 0)) (bd_ BK140.out) NB140_0.out (by simp)); replace HK := Ad.mk (KeepBut.trans (by have G0 := GW140; exact z4_) hk (.inl rfl)); replace HB := Ad.mk (hb); replace HI0 := Ad.mk (hi); clear hb hk hi; have hnb38 := NB140_0.out; have hnc38 := NB0_140.out; obtain ⟨⟨hcz39_0, hcz39_1, hcz39_2, hcz39_3, hcz39_4, hcz39_5⟩, hfz39_0, hfz39_1, hfz39_2, hfz39_3, hfz39_4, hfz39_5⟩ := c6_ BK140.out))
 refine bodyPost_ret (results_ct rfl _ _ gb140 43 #[.int .i64 0, .string ⟨#[]⟩, .int .i64 0, .string ⟨#[]⟩, .string ⟨#[]⟩, .int .i64 0] (0, 0) _ rfl (by have G0 := BK140; exact z31_) Tryz.underlying43 rfl k1_) rfl ?_
 exact ⟨e2_, by have G0 := HI0; have G1 := NB0_140; exact z5_, by have G0 := HI0; have G1 := GE140; exact z6_, by have G0 := GW140; exact z4_⟩
def ls_blank.f (s0_0 : ByteArray) (s0_1 : Int) : Option (Int × ByteArray × Int × ByteArray × ByteArray × Int × Bool × ByteArray × Int) := (ls_ch.f s0_0 s0_1 s0_1).bind fun bt152 => (if bt152.1 = 95 then (none) else (some (0, (⟨#[]⟩ : ByteArray), 0, (⟨#[]⟩ : ByteArray), (⟨#[]⟩ : ByteArray), 0, false, bt152.2.1, bt152.2.2)))
theorem ls_blank.calls (g : Nat) (s0_0 : ByteArray) (s0_1 : Int) (r1 : Int) (r2 : ByteArray) (r3 : Int) (r4 : ByteArray) (r5 : ByteArray) (r6 : Int) (r7 : Bool) (r8 : ByteArray) (r9 : Int) (w0 w : World) (hI : IsS73 w0 w g s0_0 s0_1) (hB : Below w0.heap.size w0 w) (h : ls_blank.f s0_0 s0_1 = some (r1, r2, r3, r4, r5, r6, r7, r8, r9)) :
  Calls Tryz.prog 70 #[.pointer (some ⟨g, 0, none⟩)] w fun e w' => e = .returned (.tuple #[.agg #[.int .i64 r1, .string r2, .int .i64 r3, .string r4, .string r5, .int .i64 r6], .bool r7]) ∧ IsS73 w0 w' g r8 r9 ∧ Below w0.heap.size w0 w' ∧ KeepBut w w' g none := by
 have hu43 := Tryz.underlying43
 have hu31 := Tryz.underlying31
 have HI0 := Ad.mk hI
 have HK := Ad.mk (KeepBut.refl w g none)
 have HL := Ad.mk hB.size
 clear hI
 have HW0 := Ad.mk hB.size
 have HB := Ad.mk hB
 clear hB
 have H := h
 clear h
 unfold ls_blank.f at H
 obtain ⟨⟨t152, t153, t154⟩, A2, H⟩ := bi_ H
 try dsimp only at H
 by_cases c3 : t152 = 95
 ·rw [if_pos c3] at H
  exact absurd H (by simp)
 rw [if_neg c3] at H
 have c3b0 := beq_eq_false_iff_ne.mpr c3
 have c3b1 := bne_iff_ne.mpr c3
 simp only [Option.some.injEq, Prod.mk.injEq] at H
 obtain ⟨rfl, rfl, rfl, rfl, rfl, rfl, rfl, rfl, rfl⟩ := H
 go_enter Tryz.func70, Tryz.ntmps70
 go_wp2_with (first | ((with_reducible refine gate_dst (N := 2) rfl ?_); refine box_event r1_ (N := 2) r1_ (cs := #[.int .i64 0, .string ⟨#[]⟩, .int .i64 0, .string ⟨#[]⟩, .string ⟨#[]⟩, .int .i64 0]) (t := 43) r2_ ?_; intro gb151 hg w4 hbox hb; have BK151 := Ad.mk (hbox); have GW151 := Ad.mk ((z11_ : w.heap.size ≤ gb151)); have GE151 := Ad.mk ((Nat.le_trans HW0.out (z11_ : w.heap.size ≤ gb151) : w0.heap.size ≤ gb151)); have NB0_151 := Ad.mk ((by have G0 := HI0; exact z15_ : g ≠ gb151)); have NB151_0 := Ad.mk ((by have G0 := HI0; exact z16_ : gb151 ≠ g)); replace HK := Ad.mk (KeepBut.trans z9_ (KeepBut.of_below hb g none) (.inl rfl)); replace HB := Ad.mk (below_step (by have G0 := HI0; exact z10_) hb); replace HI0 := Ad.mk (IsS73.below (by have G0 := HI0; exact z8_) hb); clear hb hbox hg; obtain ⟨HGz5, hgz5⟩ := HI0.out; have hcz5_0 := cellS73_0 HGz5; have hcz5_1 := cellS73_1 HGz5; have hfz5_0 := blk_frozen HGz5 0; have hfz5_1 := blk_frozen HGz5 1; clear HGz5 hgz5) | ((with_reducible refine gate_callee (f := 84) rfl ?_); refine goesL_ (some 11) rfl rfl Tryz.func84 k1_ rfl #[.pointer (some ⟨g, 0, none⟩), .int .i64 s0_1] rfl g1_ ?_; (with_reducible refine (ls_ch.calls g s0_0 s0_1 s0_1 t152 t153 t154 w0 _ ?side1 ?side2 A2.out).mono ?_); (case side1 => exact (by have G0 := HI0; have G1 := NB0_151; exact z5_)); (case side2 => exact (by have G0 := HI0; have G1 := GE151; exact z6_)); rintro e w6 ⟨rfl, hi, hb, hk⟩; refine ⟨_, rfl, ?_⟩; replace BK151 := Ad.mk (KeepBut.blk hk (g' := gb151) (o := .cells #[.int .i64 0, .string ⟨#[]⟩, .int .i64 0, .string ⟨#[]⟩, .string ⟨#[]⟩, .int .i64 0] 43 (0, 0)) (bd_ BK151.out) NB151_0.out (by simp)); replace HK := Ad.mk (KeepBut.trans (by have G0 := GW151; exact z4_) hk (.inl rfl)); replace HB := Ad.mk (hb); replace HI0 := Ad.mk (hi); clear hb hk hi; have hnb7 := NB151_0.out; have hnc7 := NB0_151.out; obtain ⟨⟨hcz8_0, hcz8_1, hcz8_2, hcz8_3, hcz8_4, hcz8_5⟩, hfz8_0, hfz8_1, hfz8_2, hfz8_3, hfz8_4, hfz8_5⟩ := c6_ BK151.out))
 refine bodyPost_ret (results_ct rfl _ _ gb151 43 #[.int .i64 0, .string ⟨#[]⟩, .int .i64 0, .string ⟨#[]⟩, .string ⟨#[]⟩, .int .i64 0] (0, 0) _ rfl (by have G0 := BK151; exact z31_) Tryz.underlying43 rfl k1_) rfl ?_
 exact ⟨e2_, by have G0 := HI0; have G1 := NB0_151; exact z5_, by have G0 := HI0; have G1 := GE151; exact z6_, by have G0 := GW151; exact z4_⟩
def ls_text.f (k : Nat) (s0_0 : ByteArray) (s0_1 : Int) : Option (Int × ByteArray × Int × ByteArray × ByteArray × Int × Bool × ByteArray × Int) := (ls_ch.f s0_0 s0_1 s0_1).bind fun bt156 => (if bt156.1 = 34 then ((ls_quoted.f k bt156.2.1 bt156.2.2 34 true).bind fun bt159 => (some (3, bt159.1, 0, (⟨#[]⟩ : ByteArray), (⟨#[]⟩ : ByteArray), 0, true, bt159.2.1, bt159.2.2))) else (some (0, (⟨#[]⟩ : ByteArray), 0, (⟨#[]⟩ : ByteArray), (⟨#[]⟩ : ByteArray), 0, false, bt156.2.1, bt156.2.2)))
theorem ls_text.calls (k : Nat) (g : Nat) (s0_0 : ByteArray) (s0_1 : Int) (r1 : Int) (r2 : ByteArray) (r3 : Int) (r4 : ByteArray) (r5 : ByteArray) (r6 : Int) (r7 : Bool) (r8 : ByteArray) (r9 : Int) (w0 w : World) (hI : IsS73 w0 w g s0_0 s0_1) (hB : Below w0.heap.size w0 w) (h : ls_text.f k s0_0 s0_1 = some (r1, r2, r3, r4, r5, r6, r7, r8, r9)) :
  Calls Tryz.prog 71 #[.pointer (some ⟨g, 0, none⟩)] w fun e w' => e = .returned (.tuple #[.agg #[.int .i64 r1, .string r2, .int .i64 r3, .string r4, .string r5, .int .i64 r6], .bool r7]) ∧ IsS73 w0 w' g r8 r9 ∧ Below w0.heap.size w0 w' ∧ KeepBut w w' g none := by
 have hu43 := Tryz.underlying43
 have HI0 := Ad.mk hI
 have HK := Ad.mk (KeepBut.refl w g none)
 have HL := Ad.mk hB.size
 clear hI
 have HW0 := Ad.mk hB.size
 have HB := Ad.mk hB
 clear hB
 have H := h
 clear h
 unfold ls_text.f at H
 obtain ⟨⟨t156, t157, t158⟩, A2, H⟩ := bi_ H
 try dsimp only at H
 by_cases c3 : t156 = 34
 ·rw [if_pos c3] at H
  have c3b0 := beq_iff_eq.mpr c3
  have c3b1 := bne_eq_false_iff_eq.mpr c3
  clear c3
  obtain ⟨⟨t159, t160, t161⟩, A4, H⟩ := bi_ H
  try dsimp only at H
  simp only [Option.some.injEq, Prod.mk.injEq] at H
  obtain ⟨rfl, rfl, rfl, rfl, rfl, rfl, rfl, rfl, rfl⟩ := H
  go_enter Tryz.func71, Tryz.ntmps71
  go_wp2_with (first | ((with_reducible refine gate_dst (N := 2) rfl ?_); refine box_event r1_ (N := 2) r1_ (cs := #[.int .i64 0, .string ⟨#[]⟩, .int .i64 0, .string ⟨#[]⟩, .string ⟨#[]⟩, .int .i64 0]) (t := 43) r2_ ?_; intro gb155 hg w5 hbox hb; have BK155 := Ad.mk (hbox); have GW155 := Ad.mk ((z11_ : w.heap.size ≤ gb155)); have GE155 := Ad.mk ((Nat.le_trans HW0.out (z11_ : w.heap.size ≤ gb155) : w0.heap.size ≤ gb155)); have NB0_155 := Ad.mk ((by have G0 := HI0; exact z15_ : g ≠ gb155)); have NB155_0 := Ad.mk ((by have G0 := HI0; exact z16_ : gb155 ≠ g)); replace HK := Ad.mk (KeepBut.trans z9_ (KeepBut.of_below hb g none) (.inl rfl)); replace HB := Ad.mk (below_step (by have G0 := HI0; exact z10_) hb); replace HI0 := Ad.mk (IsS73.below (by have G0 := HI0; exact z8_) hb); clear hb hbox hg; obtain ⟨HGz6, hgz6⟩ := HI0.out; have hcz6_0 := cellS73_0 HGz6; have hcz6_1 := cellS73_1 HGz6; have hfz6_0 := blk_frozen HGz6 0; have hfz6_1 := blk_frozen HGz6 1; clear HGz6 hgz6) | ((with_reducible refine gate_callee (f := 84) rfl ?_); refine goesL_ (some 9) rfl rfl Tryz.func84 k1_ rfl #[.pointer (some ⟨g, 0, none⟩), .int .i64 s0_1] rfl g1_ ?_; (with_reducible refine (ls_ch.calls g s0_0 s0_1 s0_1 t156 t157 t158 w0 _ ?side1 ?side2 A2.out).mono ?_); (case side1 => exact (by have G0 := HI0; have G1 := NB0_155; exact z5_)); (case side2 => exact (by have G0 := HI0; have G1 := GE155; exact z6_)); rintro e w7 ⟨rfl, hi, hb, hk⟩; refine ⟨_, rfl, ?_⟩; replace BK155 := Ad.mk (KeepBut.blk hk (g' := gb155) (o := .cells #[.int .i64 0, .string ⟨#[]⟩, .int .i64 0, .string ⟨#[]⟩, .string ⟨#[]⟩, .int .i64 0] 43 (0, 0)) (bd_ BK155.out) NB155_0.out (by simp)); replace HK := Ad.mk (KeepBut.trans (by have G0 := GW155; exact z4_) hk (.inl rfl)); replace HB := Ad.mk (hb); replace HI0 := Ad.mk (hi); clear hb hk hi) | ((with_reducible refine gate_callee (f := 85) rfl ?_); refine goesL_ (some 13) rfl rfl Tryz.func85 k1_ rfl #[.pointer (some ⟨g, 0, none⟩), .int .u8 34, .bool true] rfl g1_ ?_; (with_reducible refine (ls_quoted.calls k g t157 t158 34 true t159 t160 t161 w0 _ ?side1 ?side2 A4.out).mono ?_); (case side1 => exact (by have G0 := HI0; have G1 := NB0_155; exact z5_)); (case side2 => exact (by have G0 := HI0; have G1 := GE155; exact z6_)); rintro e w8 ⟨rfl, hi, hb, hk⟩; refine ⟨_, rfl, ?_⟩; replace BK155 := Ad.mk (KeepBut.blk hk (g' := gb155) (o := .cells #[.int .i64 0, .string ⟨#[]⟩, .int .i64 0, .string ⟨#[]⟩, .string ⟨#[]⟩, .int .i64 0] 43 (0, 0)) (bd_ BK155.out) NB155_0.out (by simp)); replace HK := Ad.mk (KeepBut.trans (by have G0 := GW155; exact z4_) hk (.inl rfl)); replace HB := Ad.mk (hb); replace HI0 := Ad.mk (hi); clear hb hk hi; have hnb9 := NB155_0.out; have hnc9 := NB0_155.out; obtain ⟨⟨hcz10_0, hcz10_1, hcz10_2, hcz10_3, hcz10_4, hcz10_5⟩, hfz10_0, hfz10_1, hfz10_2, hfz10_3, hfz10_4, hfz10_5⟩ := c6_ BK155.out))
  refine bodyPost_ret (results_ct rfl _ _ gb155 43 #[.int .i64 3, .string t159, .int .i64 0, .string ⟨#[]⟩, .string ⟨#[]⟩, .int .i64 0] (0, 0) _ rfl (by refine bd_ ?_; refine blk_put (cs := #[.int .i64 3, .string t159, .int .i64 0, .string ⟨#[]⟩, .string ⟨#[]⟩, .int .i64 0]) ?_ 5 _ rfl; refine bd_ ?_; refine blk_put (cs := #[.int .i64 3, .string t159, .int .i64 0, .string ⟨#[]⟩, .string ⟨#[]⟩, .int .i64 0]) ?_ 4 _ rfl; refine bd_ ?_; refine blk_put (cs := #[.int .i64 3, .string t159, .int .i64 0, .string ⟨#[]⟩, .string ⟨#[]⟩, .int .i64 0]) ?_ 3 _ rfl; refine bd_ ?_; refine blk_put (cs := #[.int .i64 3, .string t159, .int .i64 0, .string ⟨#[]⟩, .string ⟨#[]⟩, .int .i64 0]) ?_ 2 _ rfl; refine bd_ ?_; refine blk_put (cs := #[.int .i64 3, .string ⟨#[]⟩, .int .i64 0, .string ⟨#[]⟩, .string ⟨#[]⟩, .int .i64 0]) ?_ 1 _ rfl; refine bd_ ?_; refine blk_put (cs := #[.int .i64 0, .string ⟨#[]⟩, .int .i64 0, .string ⟨#[]⟩, .string ⟨#[]⟩, .int .i64 0]) ?_ 0 _ rfl; refine bd_ ?_; exact BK155.out) Tryz.underlying43 rfl k1_) rfl ?_
  exact ⟨e2_, by have G0 := HI0; have G1 := NB0_155; exact z5_, by have G0 := HI0; have G1 := GE155; exact z6_, by have G0 := GW155; exact z4_⟩
 rw [if_neg c3] at H
 have c3b0 := beq_eq_false_iff_ne.mpr c3
 have c3b1 := bne_iff_ne.mpr c3
 simp only [Option.some.injEq, Prod.mk.injEq] at H
 obtain ⟨rfl, rfl, rfl, rfl, rfl, rfl, rfl, rfl, rfl⟩ := H
 go_enter Tryz.func71, Tryz.ntmps71
 go_wp2_with (first | ((with_reducible refine gate_dst (N := 2) rfl ?_); refine box_event r1_ (N := 2) r1_ (cs := #[.int .i64 0, .string ⟨#[]⟩, .int .i64 0, .string ⟨#[]⟩, .string ⟨#[]⟩, .int .i64 0]) (t := 43) r2_ ?_; intro gb155 hg w11 hbox hb; have BK155 := Ad.mk (hbox); have GW155 := Ad.mk ((z11_ : w.heap.size ≤ gb155)); have GE155 := Ad.mk ((Nat.le_trans HW0.out (z11_ : w.heap.size ≤ gb155) : w0.heap.size ≤ gb155)); have NB0_155 := Ad.mk ((by have G0 := HI0; exact z15_ : g ≠ gb155)); have NB155_0 := Ad.mk ((by have G0 := HI0; exact z16_ : gb155 ≠ g)); replace HK := Ad.mk (KeepBut.trans z9_ (KeepBut.of_below hb g none) (.inl rfl)); replace HB := Ad.mk (below_step (by have G0 := HI0; exact z10_) hb); replace HI0 := Ad.mk (IsS73.below (by have G0 := HI0; exact z8_) hb); clear hb hbox hg; obtain ⟨HGz12, hgz12⟩ := HI0.out; have hcz12_0 := cellS73_0 HGz12; have hcz12_1 := cellS73_1 HGz12; have hfz12_0 := blk_frozen HGz12 0; have hfz12_1 := blk_frozen HGz12 1; clear HGz12 hgz12) | ((with_reducible refine gate_callee (f := 84) rfl ?_); refine goesL_ (some 9) rfl rfl Tryz.func84 k1_ rfl #[.pointer (some ⟨g, 0, none⟩), .int .i64 s0_1] rfl g1_ ?_; (with_reducible refine (ls_ch.calls g s0_0 s0_1 s0_1 t156 t157 t158 w0 _ ?side1 ?side2 A2.out).mono ?_); (case side1 => exact (by have G0 := HI0; have G1 := NB0_155; exact z5_)); (case side2 => exact (by have G0 := HI0; have G1 := GE155; exact z6_)); rintro e w13 ⟨rfl, hi, hb, hk⟩; refine ⟨_, rfl, ?_⟩; replace BK155 := Ad.mk (KeepBut.blk hk (g' := gb155) (o := .cells #[.int .i64 0, .string ⟨#[]⟩, .int .i64 0, .string ⟨#[]⟩, .string ⟨#[]⟩, .int .i64 0] 43 (0, 0)) (bd_ BK155.out) NB155_0.out (by simp)); replace HK := Ad.mk (KeepBut.trans (by have G0 := GW155; exact z4_) hk (.inl rfl)); replace HB := Ad.mk (hb); replace HI0 := Ad.mk (hi); clear hb hk hi; have hnb14 := NB155_0.out; have hnc14 := NB0_155.out; obtain ⟨⟨hcz15_0, hcz15_1, hcz15_2, hcz15_3, hcz15_4, hcz15_5⟩, hfz15_0, hfz15_1, hfz15_2, hfz15_3, hfz15_4, hfz15_5⟩ := c6_ BK155.out))
 refine bodyPost_ret (results_ct rfl _ _ gb155 43 #[.int .i64 0, .string ⟨#[]⟩, .int .i64 0, .string ⟨#[]⟩, .string ⟨#[]⟩, .int .i64 0] (0, 0) _ rfl (by have G0 := BK155; exact z31_) Tryz.underlying43 rfl k1_) rfl ?_
 exact ⟨e2_, by have G0 := HI0; have G1 := NB0_155; exact z5_, by have G0 := HI0; have G1 := GE155; exact z6_, by have G0 := GW155; exact z4_⟩
def ls_lang.f (k : Nat) (s0_0 : ByteArray) (s0_1 : Int) : Option (Int × ByteArray × Int × ByteArray × ByteArray × Int × Bool × ByteArray × Int) := (ls_ch.f s0_0 s0_1 s0_1).bind fun bt163 => (if bt163.1 = 64 then ((ls_run.f k bt163.2.1 (wrap64 (bt163.2.2 + 1)) bt163.2.2 35 88).bind fun bt166 => ((term_May.f k 4 (⟨#[]⟩ : ByteArray) bt166.1).bind fun t169 => (if t169 = true then (some (4, bt166.1, 0, (⟨#[]⟩ : ByteArray), (⟨#[]⟩ : ByteArray), 0, true, bt166.2.1, bt166.2.2)) else ((ls_fail.f bt166.2.1 bt166.2.2 bt163.2.2).bind fun bt170 => (some (4, bt166.1, 0, (⟨#[]⟩ : ByteArray), (⟨#[]⟩ : ByteArray), 0, true, bt170.1, bt170.2)))))) else (some (0, (⟨#[]⟩ : ByteArray), 0, (⟨#[]⟩ : ByteArray), (⟨#[]⟩ : ByteArray), 0, false, bt163.2.1, bt163.2.2)))
theorem ls_lang.calls (k : Nat) (g : Nat) (s0_0 : ByteArray) (s0_1 : Int) (r1 : Int) (r2 : ByteArray) (r3 : Int) (r4 : ByteArray) (r5 : ByteArray) (r6 : Int) (r7 : Bool) (r8 : ByteArray) (r9 : Int) (w0 w : World) (hI : IsS73 w0 w g s0_0 s0_1) (hB : Below w0.heap.size w0 w) (h : ls_lang.f k s0_0 s0_1 = some (r1, r2, r3, r4, r5, r6, r7, r8, r9)) :
  Calls Tryz.prog 72 #[.pointer (some ⟨g, 0, none⟩)] w fun e w' => e = .returned (.tuple #[.agg #[.int .i64 r1, .string r2, .int .i64 r3, .string r4, .string r5, .int .i64 r6], .bool r7]) ∧ IsS73 w0 w' g r8 r9 ∧ Below w0.heap.size w0 w' ∧ KeepBut w w' g none := by
 have hu43 := Tryz.underlying43
 have hu31 := Tryz.underlying31
 have HI0 := Ad.mk hI
 have HK := Ad.mk (KeepBut.refl w g none)
 have HL := Ad.mk hB.size
 clear hI
 have HW0 := Ad.mk hB.size
 have HB := Ad.mk hB
 clear hB
 have H := h
 clear h
 unfold ls_lang.f at H
 obtain ⟨⟨t163, t164, t165⟩, A2, H⟩ := bi_ H
 try dsimp only at H
 by_cases c3 : t163 = 64
 ·rw [if_pos c3] at H
  have c3b0 := beq_iff_eq.mpr c3
  have c3b1 := bne_eq_false_iff_eq.mpr c3
  clear c3
  obtain ⟨⟨t166, t167, t168⟩, A4, H⟩ := bi_ H
  try dsimp only at H
  obtain ⟨t169, A5, H⟩ := bi_ H
  by_cases c6 : t169 = true
  ·subst c6
   rw [if_pos rfl] at H
   simp only [Option.some.injEq, Prod.mk.injEq] at H
   obtain ⟨rfl, rfl, rfl, rfl, rfl, rfl, rfl, rfl, rfl⟩ := H
   go_enter Tryz.func72, Tryz.ntmps72
   go_wp2_with (first | ((with_reducible refine gate_dst (N := 2) rfl ?_); refine box_event r1_ (N := 2) r1_ (cs := #[.int .i64 0, .string ⟨#[]⟩, .int .i64 0, .string ⟨#[]⟩, .string ⟨#[]⟩, .int .i64 0]) (t := 43) r2_ ?_; intro gb162 hg w7 hbox hb; have BK162 := Ad.mk (hbox); have GW162 := Ad.mk ((z11_ : w.heap.size ≤ gb162)); have GE162 := Ad.mk ((Nat.le_trans HW0.out (z11_ : w.heap.size ≤ gb162) : w0.heap.size ≤ gb162)); have NB0_162 := Ad.mk ((by have G0 := HI0; exact z15_ : g ≠ gb162)); have NB162_0 := Ad.mk ((by have G0 := HI0; exact z16_ : gb162 ≠ g)); replace HK := Ad.mk (KeepBut.trans z9_ (KeepBut.of_below hb g none) (.inl rfl)); replace HB := Ad.mk (below_step (by have G0 := HI0; exact z10_) hb); replace HI0 := Ad.mk (IsS73.below (by have G0 := HI0; exact z8_) hb); clear hb hbox hg; obtain ⟨HGz8, hgz8⟩ := HI0.out; have hcz8_0 := cellS73_0 HGz8; have hcz8_1 := cellS73_1 HGz8; have hfz8_0 := blk_frozen HGz8 0; have hfz8_1 := blk_frozen HGz8 1; clear HGz8 hgz8) | ((with_reducible refine gate_callee (f := 84) rfl ?_); refine goesL_ (some 11) rfl rfl Tryz.func84 k1_ rfl #[.pointer (some ⟨g, 0, none⟩), .int .i64 s0_1] rfl g1_ ?_; (with_reducible refine (ls_ch.calls g s0_0 s0_1 s0_1 t163 t164 t165 w0 _ ?side1 ?side2 A2.out).mono ?_); (case side1 => exact (by have G0 := HI0; have G1 := NB0_162; exact z5_)); (case side2 => exact (by have G0 := HI0; have G1 := GE162; exact z6_)); rintro e w9 ⟨rfl, hi, hb, hk⟩; refine ⟨_, rfl, ?_⟩; replace BK162 := Ad.mk (KeepBut.blk hk (g' := gb162) (o := .cells #[.int .i64 0, .string ⟨#[]⟩, .int .i64 0, .string ⟨#[]⟩, .string ⟨#[]⟩, .int .i64 0] 43 (0, 0)) (bd_ BK162.out) NB162_0.out (by simp)); replace HK := Ad.mk (KeepBut.trans (by have G0 := GW162; exact z4_) hk (.inl rfl)); replace HB := Ad.mk (hb); replace HI0 := Ad.mk (hi); clear hb hk hi; obtain ⟨HGz10, hgz10⟩ := HI0.out; have hcz10_0 := cellS73_0 HGz10; have hcz10_1 := cellS73_1 HGz10; have hfz10_0 := blk_frozen HGz10 0; have hfz10_1 := blk_frozen HGz10 1; clear HGz10 hgz10) | ((with_reducible refine gate_callee (f := 86) rfl ?_); refine goesL_ (some 27) rfl rfl Tryz.func86 k1_ rfl #[.pointer (some ⟨g, 0, none⟩), .int .i64 t165, .int .i64 35, .func (.func 88) #[] #[]] rfl g1_ ?_; (with_reducible refine (ls_run.calls k g t164 (wrap64 (t165 + 1)) t165 35 88 t166 t167 t168 w0 _ ?side1 ?side2 A4.out).mono ?_); (case side1 => exact (by have G0 := HI0; have G1 := NB0_162; exact z5_)); (case side2 => exact (by have G0 := HI0; have G1 := GE162; exact z6_)); rintro e w11 ⟨rfl, hi, hb, hk⟩; refine ⟨_, rfl, ?_⟩; replace BK162 := Ad.mk (KeepBut.blk hk (g' := gb162) (o := .cells #[.int .i64 0, .string ⟨#[]⟩, .int .i64 0, .string ⟨#[]⟩, .string ⟨#[]⟩, .int .i64 0] 43 (0, 0)) (by refine bd_ ?_; refine blk_far ?_ NB162_0.out _; refine bd_ ?_; exact BK162.out) NB162_0.out (by simp)); replace HK := Ad.mk (KeepBut.trans (by have G0 := GW162; exact z4_) hk (.inl rfl)); replace HB := Ad.mk (hb); replace HI0 := Ad.mk (hi); clear hb hk hi) | ((with_reducible refine gate_callee (f := 19) rfl ?_); refine goesL_ (some 30) rfl rfl Tryz.func19 k1_ rfl #[.agg #[.int .i64 4, .string ⟨#[]⟩, .string t166]] rfl g1_ ?_; (with_reducible refine (term_May.calls k 4 (⟨#[]⟩ : ByteArray) t166 true _ A5.out).mono ?_); rintro e w12 ⟨rfl, hb⟩; refine ⟨_, rfl, ?_⟩; replace BK162 := Ad.mk (blk_below (g := gb162) (o := .cells #[.int .i64 0, .string ⟨#[]⟩, .int .i64 0, .string ⟨#[]⟩, .string ⟨#[]⟩, .int .i64 0] 43 (0, 0)) (bd_ BK162.out) hb); replace HK := Ad.mk (KeepBut.trans (by have G0 := GW162; exact z4_) (KeepBut.of_below hb g none) (.inl rfl)); replace HB := Ad.mk (below_step (by have G0 := HI0; have G1 := GE162; exact z6_) hb); replace HI0 := Ad.mk (IsS73.below (by have G0 := HI0; have G1 := NB0_162; exact z5_) hb); clear hb; have hnb13 := NB162_0.out; have hnc13 := NB0_162.out; obtain ⟨⟨hcz14_0, hcz14_1, hcz14_2, hcz14_3, hcz14_4, hcz14_5⟩, hfz14_0, hfz14_1, hfz14_2, hfz14_3, hfz14_4, hfz14_5⟩ := c6_ BK162.out))
   refine bodyPost_ret (results_ct rfl _ _ gb162 43 #[.int .i64 4, .string t166, .int .i64 0, .string ⟨#[]⟩, .string ⟨#[]⟩, .int .i64 0] (0, 0) _ rfl (by have G0 := BK162; exact z79_) Tryz.underlying43 rfl k1_) rfl ?_
   exact ⟨e2_, by have G0 := HI0; have G1 := NB0_162; exact z5_, by have G0 := HI0; have G1 := GE162; exact z6_, by have G0 := GW162; exact z4_⟩
  replace c6 := Bool.eq_false_iff.mpr c6
  subst c6
  rw [if_neg (show ¬ (false = true) by decide)] at H
  obtain ⟨⟨t170, t171⟩, A15, H⟩ := bi_ H
  try dsimp only at H
  simp only [Option.some.injEq, Prod.mk.injEq] at H
  obtain ⟨rfl, rfl, rfl, rfl, rfl, rfl, rfl, rfl, rfl⟩ := H
  go_enter Tryz.func72, Tryz.ntmps72
  go_wp2_with (first | ((with_reducible refine gate_dst (N := 2) rfl ?_); refine box_event r1_ (N := 2) r1_ (cs := #[.int .i64 0, .string ⟨#[]⟩, .int .i64 0, .string ⟨#[]⟩, .string ⟨#[]⟩, .int .i64 0]) (t := 43) r2_ ?_; intro gb162 hg w16 hbox hb; have BK162 := Ad.mk (hbox); have GW162 := Ad.mk ((z11_ : w.heap.size ≤ gb162)); have GE162 := Ad.mk ((Nat.le_trans HW0.out (z11_ : w.heap.size ≤ gb162) : w0.heap.size ≤ gb162)); have NB0_162 := Ad.mk ((by have G0 := HI0; exact z15_ : g ≠ gb162)); have NB162_0 := Ad.mk ((by have G0 := HI0; exact z16_ : gb162 ≠ g)); replace HK := Ad.mk (KeepBut.trans z9_ (KeepBut.of_below hb g none) (.inl rfl)); replace HB := Ad.mk (below_step (by have G0 := HI0; exact z10_) hb); replace HI0 := Ad.mk (IsS73.below (by have G0 := HI0; exact z8_) hb); clear hb hbox hg; obtain ⟨HGz17, hgz17⟩ := HI0.out; have hcz17_0 := cellS73_0 HGz17; have hcz17_1 := cellS73_1 HGz17; have hfz17_0 := blk_frozen HGz17 0; have hfz17_1 := blk_frozen HGz17 1; clear HGz17 hgz17) | ((with_reducible refine gate_callee (f := 84) rfl ?_); refine goesL_ (some 11) rfl rfl Tryz.func84 k1_ rfl #[.pointer (some ⟨g, 0, none⟩), .int .i64 s0_1] rfl g1_ ?_; (with_reducible refine (ls_ch.calls g s0_0 s0_1 s0_1 t163 t164 t165 w0 _ ?side1 ?side2 A2.out).mono ?_); (case side1 => exact (by have G0 := HI0; have G1 := NB0_162; exact z5_)); (case side2 => exact (by have G0 := HI0; have G1 := GE162; exact z6_)); rintro e w18 ⟨rfl, hi, hb, hk⟩; refine ⟨_, rfl, ?_⟩; replace BK162 := Ad.mk (KeepBut.blk hk (g' := gb162) (o := .cells #[.int .i64 0, .string ⟨#[]⟩, .int .i64 0, .string ⟨#[]⟩, .string ⟨#[]⟩, .int .i64 0] 43 (0, 0)) (bd_ BK162.out) NB162_0.out (by simp)); replace HK := Ad.mk (KeepBut.trans (by have G0 := GW162; exact z4_) hk (.inl rfl)); replace HB := Ad.mk (hb); replace HI0 := Ad.mk (hi); clear hb hk hi; obtain ⟨HGz19, hgz19⟩ := HI0.out; have hcz19_0 := cellS73_0 HGz19; have hcz19_1 := cellS73_1 HGz19; have hfz19_0 := blk_frozen HGz19 0; have hfz19_1 := blk_frozen HGz19 1; clear HGz19 hgz19) | ((with_reducible refine gate_callee (f := 86) rfl ?_); refine goesL_ (some 27) rfl rfl Tryz.func86 k1_ rfl #[.pointer (some ⟨g, 0, none⟩), .int .i64 t165, .int .i64 35, .func (.func 88) #[] #[]] rfl g1_ ?_; (with_reducible refine (ls_run.calls k g t164 (wrap64 (t165 + 1)) t165 35 88 t166 t167 t168 w0 _ ?side1 ?side2 A4.out).mono ?_); (case side1 => exact (by have G0 := HI0; have G1 := NB0_162; exact z5_)); (case side2 => exact (by have G0 := HI0; have G1 := GE162; exact z6_)); rintro e w20 ⟨rfl, hi, hb, hk⟩; refine ⟨_, rfl, ?_⟩; replace BK162 := Ad.mk (KeepBut.blk hk (g' := gb162) (o := .cells #[.int .i64 0, .string ⟨#[]⟩, .int .i64 0, .string ⟨#[]⟩, .string ⟨#[]⟩, .int .i64 0] 43 (0, 0)) (by refine bd_ ?_; refine blk_far ?_ NB162_0.out _; refine bd_ ?_; exact BK162.out) NB162_0.out (by simp)); replace HK := Ad.mk (KeepBut.trans (by have G0 := GW162; exact z4_) hk (.inl rfl)); replace HB := Ad.mk (hb); replace HI0 := Ad.mk (hi); clear hb hk hi) | ((with_reducible refine gate_callee (f := 19) rfl ?_); refine goesL_ (some 30) rfl rfl Tryz.func19 k1_ rfl #[.agg #[.int .i64 4, .string ⟨#[]⟩, .string t166]] rfl g1_ ?_; (with_reducible refine (term_May.calls k 4 (⟨#[]⟩ : ByteArray) t166 false _ A5.out).mono ?_); rintro e w21 ⟨rfl, hb⟩; refine ⟨_, rfl, ?_⟩; replace BK162 := Ad.mk (blk_below (g := gb162) (o := .cells #[.int .i64 0, .string ⟨#[]⟩, .int .i64 0, .string ⟨#[]⟩, .string ⟨#[]⟩, .int .i64 0] 43 (0, 0)) (bd_ BK162.out) hb); replace HK := Ad.mk (KeepBut.trans (by have G0 := GW162; exact z4_) (KeepBut.of_below hb g none) (.inl rfl)); replace HB := Ad.mk (below_step (by have G0 := HI0; have G1 := GE162; exact z6_) hb); replace HI0 := Ad.mk (IsS73.below (by have G0 := HI0; have G1 := NB0_162; exact z5_) hb); clear hb) | ((with_reducible refine gate_callee (f := 76) rfl ?_); refine goesL_ (some 34) rfl rfl Tryz.func76 k1_ rfl #[.pointer (some ⟨g, 0, none⟩), .int .i64 t165] rfl g1_ ?_; (with_reducible refine (ls_fail.calls g t167 t168 t165 t170 t171 w0 _ ?side1 ?side2 A15.out).mono ?_); (case side1 => exact (by have G0 := HI0; have G1 := NB0_162; exact z5_)); (case side2 => exact (by have G0 := HI0; have G1 := GE162; exact z6_)); rintro e w22 ⟨rfl, hi, hb, hk⟩; refine ⟨_, rfl, ?_⟩; replace BK162 := Ad.mk (KeepBut.blk hk (g' := gb162) (o := .cells #[.int .i64 0, .string ⟨#[]⟩, .int .i64 0, .string ⟨#[]⟩, .string ⟨#[]⟩, .int .i64 0] 43 (0, 0)) (bd_ BK162.out) NB162_0.out (by simp)); replace HK := Ad.mk (KeepBut.trans (by have G0 := GW162; exact z4_) hk (.inl rfl)); replace HB := Ad.mk (hb); replace HI0 := Ad.mk (hi); clear hb hk hi; have hnb23 := NB162_0.out; have hnc23 := NB0_162.out; obtain ⟨⟨hcz24_0, hcz24_1, hcz24_2, hcz24_3, hcz24_4, hcz24_5⟩, hfz24_0, hfz24_1, hfz24_2, hfz24_3, hfz24_4, hfz24_5⟩ := c6_ BK162.out))
  refine bodyPost_ret (results_ct rfl _ _ gb162 43 #[.int .i64 4, .string t166, .int .i64 0, .string ⟨#[]⟩, .string ⟨#[]⟩, .int .i64 0] (0, 0) _ rfl (by have G0 := BK162; exact z79_) Tryz.underlying43 rfl k1_) rfl ?_
  exact ⟨e2_, by have G0 := HI0; have G1 := NB0_162; exact z5_, by have G0 := HI0; have G1 := GE162; exact z6_, by have G0 := GW162; exact z4_⟩
 rw [if_neg c3] at H
 have c3b0 := beq_eq_false_iff_ne.mpr c3
 have c3b1 := bne_iff_ne.mpr c3
 simp only [Option.some.injEq, Prod.mk.injEq] at H
 obtain ⟨rfl, rfl, rfl, rfl, rfl, rfl, rfl, rfl, rfl⟩ := H
 go_enter Tryz.func72, Tryz.ntmps72
 go_wp2_with (first | ((with_reducible refine gate_dst (N := 2) rfl ?_); refine box_event r1_ (N := 2) r1_ (cs := #[.int .i64 0, .string ⟨#[]⟩, .int .i64 0, .string ⟨#[]⟩, .string ⟨#[]⟩, .int .i64 0]) (t := 43) r2_ ?_; intro gb162 hg w25 hbox hb; have BK162 := Ad.mk (hbox); have GW162 := Ad.mk ((z11_ : w.heap.size ≤ gb162)); have GE162 := Ad.mk ((Nat.le_trans HW0.out (z11_ : w.heap.size ≤ gb162) : w0.heap.size ≤ gb162)); have NB0_162 := Ad.mk ((by have G0 := HI0; exact z15_ : g ≠ gb162)); have NB162_0 := Ad.mk ((by have G0 := HI0; exact z16_ : gb162 ≠ g)); replace HK := Ad.mk (KeepBut.trans z9_ (KeepBut.of_below hb g none) (.inl rfl)); replace HB := Ad.mk (below_step (by have G0 := HI0; exact z10_) hb); replace HI0 := Ad.mk (IsS73.below (by have G0 := HI0; exact z8_) hb); clear hb hbox hg; obtain ⟨HGz26, hgz26⟩ := HI0.out; have hcz26_0 := cellS73_0 HGz26; have hcz26_1 := cellS73_1 HGz26; have hfz26_0 := blk_frozen HGz26 0; have hfz26_1 := blk_frozen HGz26 1; clear HGz26 hgz26) | ((with_reducible refine gate_callee (f := 84) rfl ?_); refine goesL_ (some 11) rfl rfl Tryz.func84 k1_ rfl #[.pointer (some ⟨g, 0, none⟩), .int .i64 s0_1] rfl g1_ ?_; (with_reducible refine (ls_ch.calls g s0_0 s0_1 s0_1 t163 t164 t165 w0 _ ?side1 ?side2 A2.out).mono ?_); (case side1 => exact (by have G0 := HI0; have G1 := NB0_162; exact z5_)); (case side2 => exact (by have G0 := HI0; have G1 := GE162; exact z6_)); rintro e w27 ⟨rfl, hi, hb, hk⟩; refine ⟨_, rfl, ?_⟩; replace BK162 := Ad.mk (KeepBut.blk hk (g' := gb162) (o := .cells #[.int .i64 0, .string ⟨#[]⟩, .int .i64 0, .string ⟨#[]⟩, .string ⟨#[]⟩, .int .i64 0] 43 (0, 0)) (bd_ BK162.out) NB162_0.out (by simp)); replace HK := Ad.mk (KeepBut.trans (by have G0 := GW162; exact z4_) hk (.inl rfl)); replace HB := Ad.mk (hb); replace HI0 := Ad.mk (hi); clear hb hk hi; have hnb28 := NB162_0.out; have hnc28 := NB0_162.out; obtain ⟨⟨hcz29_0, hcz29_1, hcz29_2, hcz29_3, hcz29_4, hcz29_5⟩, hfz29_0, hfz29_1, hfz29_2, hfz29_3, hfz29_4, hfz29_5⟩ := c6_ BK162.out))
 refine bodyPost_ret (results_ct rfl _ _ gb162 43 #[.int .i64 0, .string ⟨#[]⟩, .int .i64 0, .string ⟨#[]⟩, .string ⟨#[]⟩, .int .i64 0] (0, 0) _ rfl (by have G0 := BK162; exact z31_) Tryz.underlying43 rfl k1_) rfl ?_
 exact ⟨e2_, by have G0 := HI0; have G1 := NB0_162; exact z5_, by have G0 := HI0; have G1 := GE162; exact z6_, by have G0 := GW162; exact z4_⟩
def ls_variable.f (k : Nat) (s0_0 : ByteArray) (s0_1 : Int) : Option (Int × ByteArray × Int × ByteArray × ByteArray × Int × Bool × ByteArray × Int) := (ls_ch.f s0_0 s0_1 s0_1).bind fun bt173 => (if bt173.1 = 63 then ((ls_run.f k bt173.2.1 (wrap64 (bt173.2.2 + 1)) bt173.2.2 32 87).bind fun bt176 => (if bt176.1.toList = ([] : List UInt8) then ((ls_fail.f bt176.2.1 bt176.2.2 bt173.2.2).bind fun bt179 => (some (5, bt176.1, 0, (⟨#[]⟩ : ByteArray), (⟨#[]⟩ : ByteArray), 0, true, bt179.1, bt179.2))) else (some (5, bt176.1, 0, (⟨#[]⟩ : ByteArray), (⟨#[]⟩ : ByteArray), 0, true, bt176.2.1, bt176.2.2)))) else (some (0, (⟨#[]⟩ : ByteArray), 0, (⟨#[]⟩ : ByteArray), (⟨#[]⟩ : ByteArray), 0, false, bt173.2.1, bt173.2.2)))
theorem ls_variable.calls (k : Nat) (g : Nat) (s0_0 : ByteArray) (s0_1 : Int) (r1 : Int) (r2 : ByteArray) (r3 : Int) (r4 : ByteArray) (r5 : ByteArray) (r6 : Int) (r7 : Bool) (r8 : ByteArray) (r9 : Int) (w0 w : World) (hI : IsS73 w0 w g s0_0 s0_1) (hB : Below w0.heap.size w0 w) (h : ls_variable.f k s0_0 s0_1 = some (r1, r2, r3, r4, r5, r6, r7, r8, r9)) :
  Calls Tryz.prog 73 #[.pointer (some ⟨g, 0, none⟩)] w fun e w' => e = .returned (.tuple #[.agg #[.int .i64 r1, .string r2, .int .i64 r3, .string r4, .string r5, .int .i64 r6], .bool r7]) ∧ IsS73 w0 w' g r8 r9 ∧ Below w0.heap.size w0 w' ∧ KeepBut w w' g none := by
 have hu43 := Tryz.underlying43
 have HI0 := Ad.mk hI
 have HK := Ad.mk (KeepBut.refl w g none)
 have HL := Ad.mk hB.size
 clear hI
 have HW0 := Ad.mk hB.size
 have HB := Ad.mk hB
 clear hB
 have H := h
 clear h
 unfold ls_variable.f at H
 obtain ⟨⟨t173, t174, t175⟩, A2, H⟩ := bi_ H
 try dsimp only at H
 by_cases c3 : t173 = 63
 ·rw [if_pos c3] at H
  have c3b0 := beq_iff_eq.mpr c3
  have c3b1 := bne_eq_false_iff_eq.mpr c3
  clear c3
  obtain ⟨⟨t176, t177, t178⟩, A4, H⟩ := bi_ H
  try dsimp only at H
  by_cases c5 : t176.toList = ([] : List UInt8)
  ·rw [if_pos c5] at H
   have c5b0 := beq_iff_eq.mpr c5
   have c5b1 := bne_eq_false_iff_eq.mpr c5
   clear c5
   obtain ⟨⟨t179, t180⟩, A6, H⟩ := bi_ H
   try dsimp only at H
   simp only [Option.some.injEq, Prod.mk.injEq] at H
   obtain ⟨rfl, rfl, rfl, rfl, rfl, rfl, rfl, rfl, rfl⟩ := H
   go_enter Tryz.func73, Tryz.ntmps73
   go_wp2_with (first | ((with_reducible refine gate_dst (N := 2) rfl ?_); refine box_event r1_ (N := 2) r1_ (cs := #[.int .i64 0, .string ⟨#[]⟩, .int .i64 0, .string ⟨#[]⟩, .string ⟨#[]⟩, .int .i64 0]) (t := 43) r2_ ?_; intro gb172 hg w7 hbox hb; have BK172 := Ad.mk (hbox); have GW172 := Ad.mk ((z11_ : w.heap.size ≤ gb172)); have GE172 := Ad.mk ((Nat.le_trans HW0.out (z11_ : w.heap.size ≤ gb172) : w0.heap.size ≤ gb172)); have NB0_172 := Ad.mk ((by have G0 := HI0; exact z15_ : g ≠ gb172)); have NB172_0 := Ad.mk ((by have G0 := HI0; exact z16_ : gb172 ≠ g)); replace HK := Ad.mk (KeepBut.trans z9_ (KeepBut.of_below hb g none) (.inl rfl)); replace HB := Ad.mk (below_step (by have G0 := HI0; exact z10_) hb); replace HI0 := Ad.mk (IsS73.below (by have G0 := HI0; exact z8_) hb); clear hb hbox hg; obtain ⟨HGz8, hgz8⟩ := HI0.out; have hcz8_0 := cellS73_0 HGz8; have hcz8_1 := cellS73_1 HGz8; have hfz8_0 := blk_frozen HGz8 0; have hfz8_1 := blk_frozen HGz8 1; clear HGz8 hgz8) | ((with_reducible refine gate_callee (f := 84) rfl ?_); refine goesL_ (some 11) rfl rfl Tryz.func84 k1_ rfl #[.pointer (some ⟨g, 0, none⟩), .int .i64 s0_1] rfl g1_ ?_; (with_reducible refine (ls_ch.calls g s0_0 s0_1 s0_1 t173 t174 t175 w0 _ ?side1 ?side2 A2.out).mono ?_); (case side1 => exact (by have G0 := HI0; have G1 := NB0_172; exact z5_)); (case side2 => exact (by have G0 := HI0; have G1 := GE172; exact z6_)); rintro e w9 ⟨rfl, hi, hb, hk⟩; refine ⟨_, rfl, ?_⟩; replace BK172 := Ad.mk (KeepBut.blk hk (g' := gb172) (o := .cells #[.int .i64 0, .string ⟨#[]⟩, .int .i64 0, .string ⟨#[]⟩, .string ⟨#[]⟩, .int .i64 0] 43 (0, 0)) (bd_ BK172.out) NB172_0.out (by simp)); replace HK := Ad.mk (KeepBut.trans (by have G0 := GW172; exact z4_) hk (.inl rfl)); replace HB := Ad.mk (hb); replace HI0 := Ad.mk (hi); clear hb hk hi; obtain ⟨HGz10, hgz10⟩ := HI0.out; have hcz10_0 := cellS73_0 HGz10; have hcz10_1 := cellS73_1 HGz10; have hfz10_0 := blk_frozen HGz10 0; have hfz10_1 := blk_frozen HGz10 1; clear HGz10 hgz10) | ((with_reducible refine gate_callee (f := 86) rfl ?_); refine goesL_ (some 27) rfl rfl Tryz.func86 k1_ rfl #[.pointer (some ⟨g, 0, none⟩), .int .i64 t175, .int .i64 32, .func (.func 87) #[] #[]] rfl g1_ ?_; (with_reducible refine (ls_run.calls k g t174 (wrap64 (t175 + 1)) t175 32 87 t176 t177 t178 w0 _ ?side1 ?side2 A4.out).mono ?_); (case side1 => exact (by have G0 := HI0; have G1 := NB0_172; exact z5_)); (case side2 => exact (by have G0 := HI0; have G1 := GE172; exact z6_)); rintro e w11 ⟨rfl, hi, hb, hk⟩; refine ⟨_, rfl, ?_⟩; replace BK172 := Ad.mk (KeepBut.blk hk (g' := gb172) (o := .cells #[.int .i64 0, .string ⟨#[]⟩, .int .i64 0, .string ⟨#[]⟩, .string ⟨#[]⟩, .int .i64 0] 43 (0, 0)) (by refine bd_ ?_; refine blk_far ?_ NB172_0.out _; refine bd_ ?_; exact BK172.out) NB172_0.out (by simp)); replace HK := Ad.mk (KeepBut.trans (by have G0 := GW172; exact z4_) hk (.inl rfl)); replace HB := Ad.mk (hb); replace HI0 := Ad.mk (hi); clear hb hk hi) | ((with_reducible refine gate_callee (f := 76) rfl ?_); refine goesL_ (some 32) rfl rfl Tryz.func76 k1_ rfl #[.pointer (some ⟨g, 0, none⟩), .int .i64 t175] rfl g1_ ?_; (with_reducible refine (ls_fail.calls g t177 t178 t175 t179 t180 w0 _ ?side1 ?side2 A6.out).mono ?_); (case side1 => exact (by have G0 := HI0; have G1 := NB0_172; exact z5_)); (case side2 => exact (by have G0 := HI0; have G1 := GE172; exact z6_)); rintro e w12 ⟨rfl, hi, hb, hk⟩; refine ⟨_, rfl, ?_⟩; replace BK172 := Ad.mk (KeepBut.blk hk (g' := gb172) (o := .cells #[.int .i64 0, .string ⟨#[]⟩, .int .i64 0, .string ⟨#[]⟩, .string ⟨#[]⟩, .int .i64 0] 43 (0, 0)) (bd_ BK172.out) NB172_0.out (by simp)); replace HK := Ad.mk (KeepBut.trans (by have G0 := GW172; exact z4_) hk (.inl rfl)); replace HB := Ad.mk (hb); replace HI0 := Ad.mk (hi); clear hb hk hi; have hnb13 := NB172_0.out; have hnc13 := NB0_172.out; obtain ⟨⟨hcz14_0, hcz14_1, hcz14_2, hcz14_3, hcz14_4, hcz14_5⟩, hfz14_0, hfz14_1, hfz14_2, hfz14_3, hfz14_4, hfz14_5⟩ := c6_ BK172.out))
   refine bodyPost_ret (results_ct rfl _ _ gb172 43 #[.int .i64 5, .string t176, .int .i64 0, .string ⟨#[]⟩, .string ⟨#[]⟩, .int .i64 0] (0, 0) _ rfl (by have G0 := BK172; exact z80_) Tryz.underlying43 rfl k1_) rfl ?_
   exact ⟨e2_, by have G0 := HI0; have G1 := NB0_172; exact z5_, by have G0 := HI0; have G1 := GE172; exact z6_, by have G0 := GW172; exact z4_⟩
  rw [if_neg c5] at H
  have c5b0 := beq_eq_false_iff_ne.mpr c5
  have c5b1 := bne_iff_ne.mpr c5
  simp only [Option.some.injEq, Prod.mk.injEq] at H
  obtain ⟨rfl, rfl, rfl, rfl, rfl, rfl, rfl, rfl, rfl⟩ := H
  go_enter Tryz.func73, Tryz.ntmps73
  go_wp2_with (first | ((with_reducible refine gate_dst (N := 2) rfl ?_); refine box_event r1_ (N := 2) r1_ (cs := #[.int .i64 0, .string ⟨#[]⟩, .int .i64 0, .string ⟨#[]⟩, .string ⟨#[]⟩, .int .i64 0]) (t := 43) r2_ ?_; intro gb172 hg w15 hbox hb; have BK172 := Ad.mk (hbox); have GW172 := Ad.mk ((z11_ : w.heap.size ≤ gb172)); have GE172 := Ad.mk ((Nat.le_trans HW0.out (z11_ : w.heap.size ≤ gb172) : w0.heap.size ≤ gb172)); have NB0_172 := Ad.mk ((by have G0 := HI0; exact z15_ : g ≠ gb172)); have NB172_0 := Ad.mk ((by have G0 := HI0; exact z16_ : gb172 ≠ g)); replace HK := Ad.mk (KeepBut.trans z9_ (KeepBut.of_below hb g none) (.inl rfl)); replace HB := Ad.mk (below_step (by have G0 := HI0; exact z10_) hb); replace HI0 := Ad.mk (IsS73.below (by have G0 := HI0; exact z8_) hb); clear hb hbox hg; obtain ⟨HGz16, hgz16⟩ := HI0.out; have hcz16_0 := cellS73_0 HGz16; have hcz16_1 := cellS73_1 HGz16; have hfz16_0 := blk_frozen HGz16 0; have hfz16_1 := blk_frozen HGz16 1; clear HGz16 hgz16) | ((with_reducible refine gate_callee (f := 84) rfl ?_); refine goesL_ (some 11) rfl rfl Tryz.func84 k1_ rfl #[.pointer (some ⟨g, 0, none⟩), .int .i64 s0_1] rfl g1_ ?_; (with_reducible refine (ls_ch.calls g s0_0 s0_1 s0_1 t173 t174 t175 w0 _ ?side1 ?side2 A2.out).mono ?_); (case side1 => exact (by have G0 := HI0; have G1 := NB0_172; exact z5_)); (case side2 => exact (by have G0 := HI0; have G1 := GE172; exact z6_)); rintro e w17 ⟨rfl, hi, hb, hk⟩; refine ⟨_, rfl, ?_⟩; replace BK172 := Ad.mk (KeepBut.blk hk (g' := gb172) (o := .cells #[.int .i64 0, .string ⟨#[]⟩, .int .i64 0, .string ⟨#[]⟩, .string ⟨#[]⟩, .int .i64 0] 43 (0, 0)) (bd_ BK172.out) NB172_0.out (by simp)); replace HK := Ad.mk (KeepBut.trans (by have G0 := GW172; exact z4_) hk (.inl rfl)); replace HB := Ad.mk (hb); replace HI0 := Ad.mk (hi); clear hb hk hi; obtain ⟨HGz18, hgz18⟩ := HI0.out; have hcz18_0 := cellS73_0 HGz18; have hcz18_1 := cellS73_1 HGz18; have hfz18_0 := blk_frozen HGz18 0; have hfz18_1 := blk_frozen HGz18 1; clear HGz18 hgz18) | ((with_reducible refine gate_callee (f := 86) rfl ?_); refine goesL_ (some 27) rfl rfl Tryz.func86 k1_ rfl #[.pointer (some ⟨g, 0, none⟩), .int .i64 t175, .int .i64 32, .func (.func 87) #[] #[]] rfl g1_ ?_; (with_reducible refine (ls_run.calls k g t174 (wrap64 (t175 + 1)) t175 32 87 t176 t177 t178 w0 _ ?side1 ?side2 A4.out).mono ?_); (case side1 => exact (by have G0 := HI0; have G1 := NB0_172; exact z5_)); (case side2 => exact (by have G0 := HI0; have G1 := GE172; exact z6_)); rintro e w19 ⟨rfl, hi, hb, hk⟩; refine ⟨_, rfl, ?_⟩; replace BK172 := Ad.mk (KeepBut.blk hk (g' := gb172) (o := .cells #[.int .i64 0, .string ⟨#[]⟩, .int .i64 0, .string ⟨#[]⟩, .string ⟨#[]⟩, .int .i64 0] 43 (0, 0)) (by refine bd_ ?_; refine blk_far ?_ NB172_0.out _; refine bd_ ?_; exact BK172.out) NB172_0.out (by simp)); replace HK := Ad.mk (KeepBut.trans (by have G0 := GW172; exact z4_) hk (.inl rfl)); replace HB := Ad.mk (hb); replace HI0 := Ad.mk (hi); clear hb hk hi; have hnb20 := NB172_0.out; have hnc20 := NB0_172.out; obtain ⟨⟨hcz21_0, hcz21_1, hcz21_2, hcz21_3, hcz21_4, hcz21_5⟩, hfz21_0, hfz21_1, hfz21_2, hfz21_3, hfz21_4, hfz21_5⟩ := c6_ BK172.out))
  refine bodyPost_ret (results_ct rfl _ _ gb172 43 #[.int .i64 5, .string t176, .int .i64 0, .string ⟨#[]⟩, .string ⟨#[]⟩, .int .i64 0] (0, 0) _ rfl (by have G0 := BK172; exact z80_) Tryz.underlying43 rfl k1_) rfl ?_
  exact ⟨e2_, by have G0 := HI0; have G1 := NB0_172; exact z5_, by have G0 := HI0; have G1 := GE172; exact z6_, by have G0 := GW172; exact z4_⟩
 rw [if_neg c3] at H
 have c3b0 := beq_eq_false_iff_ne.mpr c3
 have c3b1 := bne_iff_ne.mpr c3
 simp only [Option.some.injEq, Prod.mk.injEq] at H
 obtain ⟨rfl, rfl, rfl, rfl, rfl, rfl, rfl, rfl, rfl⟩ := H
 go_enter Tryz.func73, Tryz.ntmps73
 go_wp2_with (first | ((with_reducible refine gate_dst (N := 2) rfl ?_); refine box_event r1_ (N := 2) r1_ (cs := #[.int .i64 0, .string ⟨#[]⟩, .int .i64 0, .string ⟨#[]⟩, .string ⟨#[]⟩, .int .i64 0]) (t := 43) r2_ ?_; intro gb172 hg w22 hbox hb; have BK172 := Ad.mk (hbox); have GW172 := Ad.mk ((z11_ : w.heap.size ≤ gb172)); have GE172 := Ad.mk ((Nat.le_trans HW0.out (z11_ : w.heap.size ≤ gb172) : w0.heap.size ≤ gb172)); have NB0_172 := Ad.mk ((by have G0 := HI0; exact z15_ : g ≠ gb172)); have NB172_0 := Ad.mk ((by have G0 := HI0; exact z16_ : gb172 ≠ g)); replace HK := Ad.mk (KeepBut.trans z9_ (KeepBut.of_below hb g none) (.inl rfl)); replace HB := Ad.mk (below_step (by have G0 := HI0; exact z10_) hb); replace HI0 := Ad.mk (IsS73.below (by have G0 := HI0; exact z8_) hb); clear hb hbox hg; obtain ⟨HGz23, hgz23⟩ := HI0.out; have hcz23_0 := cellS73_0 HGz23; have hcz23_1 := cellS73_1 HGz23; have hfz23_0 := blk_frozen HGz23 0; have hfz23_1 := blk_frozen HGz23 1; clear HGz23 hgz23) | ((with_reducible refine gate_callee (f := 84) rfl ?_); refine goesL_ (some 11) rfl rfl Tryz.func84 k1_ rfl #[.pointer (some ⟨g, 0, none⟩), .int .i64 s0_1] rfl g1_ ?_; (with_reducible refine (ls_ch.calls g s0_0 s0_1 s0_1 t173 t174 t175 w0 _ ?side1 ?side2 A2.out).mono ?_); (case side1 => exact (by have G0 := HI0; have G1 := NB0_172; exact z5_)); (case side2 => exact (by have G0 := HI0; have G1 := GE172; exact z6_)); rintro e w24 ⟨rfl, hi, hb, hk⟩; refine ⟨_, rfl, ?_⟩; replace BK172 := Ad.mk (KeepBut.blk hk (g' := gb172) (o := .cells #[.int .i64 0, .string ⟨#[]⟩, .int .i64 0, .string ⟨#[]⟩, .string ⟨#[]⟩, .int .i64 0] 43 (0, 0)) (bd_ BK172.out) NB172_0.out (by simp)); replace HK := Ad.mk (KeepBut.trans (by have G0 := GW172; exact z4_) hk (.inl rfl)); replace HB := Ad.mk (hb); replace HI0 := Ad.mk (hi); clear hb hk hi; have hnb25 := NB172_0.out; have hnc25 := NB0_172.out; obtain ⟨⟨hcz26_0, hcz26_1, hcz26_2, hcz26_3, hcz26_4, hcz26_5⟩, hfz26_0, hfz26_1, hfz26_2, hfz26_3, hfz26_4, hfz26_5⟩ := c6_ BK172.out))
 refine bodyPost_ret (results_ct rfl _ _ gb172 43 #[.int .i64 0, .string ⟨#[]⟩, .int .i64 0, .string ⟨#[]⟩, .string ⟨#[]⟩, .int .i64 0] (0, 0) _ rfl (by have G0 := BK172; exact z31_) Tryz.underlying43 rfl k1_) rfl ?_
 exact ⟨e2_, by have G0 := HI0; have G1 := NB0_172; exact z5_, by have G0 := HI0; have G1 := GE172; exact z6_, by have G0 := GW172; exact z4_⟩
def ls_word.j0 : Nat → Int → Bool → ByteArray → Int → Option (Int × ByteArray × Int × ByteArray × ByteArray × Int × Bool × ByteArray × Int)
 | 0, _, _, _, _ => none
 | k + 1, x4, x33, x1000, x1001 => if x33 = true then (some (0, (⟨#[]⟩ : ByteArray), 0, (⟨#[]⟩ : ByteArray), (⟨#[]⟩ : ByteArray), 0, false, x1000, x1001)) else ((ls_run.f k x1000 x1001 x4 32 87).bind fun bt189 => ((ls_ch.f bt189.2.1 bt189.2.2 bt189.2.2).bind fun bt192 => (if bt192.1 = 58 then ((ls_ch.f bt192.2.1 bt192.2.2 (wrap64 (bt192.2.2 + 1))).bind fun bt195 => (if bt195.1 = 45 then (some (6, bt189.1, 0, (⟨#[]⟩ : ByteArray), (⟨#[]⟩ : ByteArray), 0, true, bt195.2.1, bt195.2.2)) else ((ls_run.f k bt195.2.1 (wrap64 (bt195.2.2 + 1)) x4 64 91).bind fun bt198 => (if 0 ≤ x4 then (if x4 ≤ bt198.2.2 then (if bt198.2.2 ≤ (bt198.2.1.size : Int) then (some (7, bt198.2.1.extract (x4 : Int).toNat (bt198.2.2 : Int).toNat, 0, (⟨#[]⟩ : ByteArray), (⟨#[]⟩ : ByteArray), 0, true, bt198.2.1, bt198.2.2)) else (none)) else (none)) else (none))))) else (some (6, bt189.1, 0, (⟨#[]⟩ : ByteArray), (⟨#[]⟩ : ByteArray), 0, true, bt192.2.1, bt192.2.2)))))
def ls_word.f (k : Nat) (s0_0 : ByteArray) (s0_1 : Int) : Option (Int × ByteArray × Int × ByteArray × ByteArray × Int × Bool × ByteArray × Int) := (ls_ch.f s0_0 s0_1 s0_1).bind fun bt182 => ((lex_letter.f bt182.1).bind fun t185 => (if t185 = true then (ls_word.j0 k s0_1 false bt182.2.1 bt182.2.2) else (if bt182.1 = 58 then ((ls_ch.f bt182.2.1 bt182.2.2 (wrap64 (bt182.2.2 + 1))).bind fun bt186 => (ls_word.j0 k s0_1 (bt186.1 == 45) bt186.2.1 bt186.2.2)) else (ls_word.j0 k s0_1 true bt182.2.1 bt182.2.2))))
theorem ls_word.calls (k : Nat) (g : Nat) (s0_0 : ByteArray) (s0_1 : Int) (r1 : Int) (r2 : ByteArray) (r3 : Int) (r4 : ByteArray) (r5 : ByteArray) (r6 : Int) (r7 : Bool) (r8 : ByteArray) (r9 : Int) (w0 w : World) (hI : IsS73 w0 w g s0_0 s0_1) (hB : Below w0.heap.size w0 w) (h : ls_word.f k s0_0 s0_1 = some (r1, r2, r3, r4, r5, r6, r7, r8, r9)) :
  Calls Tryz.prog 74 #[.pointer (some ⟨g, 0, none⟩)] w fun e w' => e = .returned (.tuple #[.agg #[.int .i64 r1, .string r2, .int .i64 r3, .string r4, .string r5, .int .i64 r6], .bool r7]) ∧ IsS73 w0 w' g r8 r9 ∧ Below w0.heap.size w0 w' ∧ KeepBut w w' g none := by
 have hu43 := Tryz.underlying43
 have HI0 := Ad.mk hI
 have HK := Ad.mk (KeepBut.refl w g none)
 have HL := Ad.mk hB.size
 clear hI
 have HW0 := Ad.mk hB.size
 have HB := Ad.mk hB
 clear hB
 have H := h
 clear h
 unfold ls_word.f at H
 obtain ⟨⟨t182, t183, t184⟩, A2, H⟩ := bi_ H
 try dsimp only at H
 have HC3 := Ad.mk H
 clear H
 go_enter Tryz.func74, Tryz.ntmps74
 go_upto_region 3 with (first | ((with_reducible refine gate_dst (N := 2) rfl ?_); refine box_event r1_ (N := 2) r1_ (cs := #[.int .i64 0, .string ⟨#[]⟩, .int .i64 0, .string ⟨#[]⟩, .string ⟨#[]⟩, .int .i64 0]) (t := 43) r2_ ?_; intro gb181 hg w4 hbox hb; have BK181 := Ad.mk (hbox); have GW181 := Ad.mk ((z11_ : w.heap.size ≤ gb181)); have GE181 := Ad.mk ((Nat.le_trans HW0.out (z11_ : w.heap.size ≤ gb181) : w0.heap.size ≤ gb181)); have NB0_181 := Ad.mk ((by have G0 := HI0; exact z15_ : g ≠ gb181)); have NB181_0 := Ad.mk ((by have G0 := HI0; exact z16_ : gb181 ≠ g)); replace HK := Ad.mk (KeepBut.trans z9_ (KeepBut.of_below hb g none) (.inl rfl)); replace HB := Ad.mk (below_step (by have G0 := HI0; exact z10_) hb); replace HI0 := Ad.mk (IsS73.below (by have G0 := HI0; exact z8_) hb); clear hb hbox hg; obtain ⟨HGz5, hgz5⟩ := HI0.out; have hcz5_0 := cellS73_0 HGz5; have hcz5_1 := cellS73_1 HGz5; have hfz5_0 := blk_frozen HGz5 0; have hfz5_1 := blk_frozen HGz5 1; clear HGz5 hgz5) | ((with_reducible refine gate_callee (f := 84) rfl ?_); refine goesL_ (some 16) rfl rfl Tryz.func84 k1_ rfl #[.pointer (some ⟨g, 0, none⟩), .int .i64 s0_1] rfl g1_ ?_; (with_reducible refine (ls_ch.calls g s0_0 s0_1 s0_1 t182 t183 t184 w0 _ ?side1 ?side2 A2.out).mono ?_); (case side1 => exact (by have G0 := HI0; have G1 := NB0_181; exact z5_)); (case side2 => exact (by have G0 := HI0; have G1 := GE181; exact z6_)); rintro e w6 ⟨rfl, hi, hb, hk⟩; refine ⟨_, rfl, ?_⟩; replace BK181 := Ad.mk (KeepBut.blk hk (g' := gb181) (o := .cells #[.int .i64 0, .string ⟨#[]⟩, .int .i64 0, .string ⟨#[]⟩, .string ⟨#[]⟩, .int .i64 0] 43 (0, 0)) (bd_ BK181.out) NB181_0.out (by simp)); replace HK := Ad.mk (KeepBut.trans (by have G0 := GW181; exact z4_) hk (.inl rfl)); replace HB := Ad.mk (hb); replace HI0 := Ad.mk (hi); clear hb hk hi))
 (try simp only [Act.put, List.setIfInBounds_toArray, List.set_cons_zero, List.set_cons_succ])
 go_cut [33] (fun v33 wc => ∃ (kq : Nat) (x33_2 : Bool) (x1000_2 : ByteArray) (x1001_2 : Int), v33 = .bool x33_2 ∧ Ad (ls_word.j0 kq s0_1 x33_2 x1000_2 x1001_2 = some (r1, r2, r3, r4, r5, r6, r7, r8, r9)) ∧ Ad (kq ≤ k) ∧ Ad (wc.heap[gb181]? = some (.cells #[.int .i64 0, .string ⟨#[]⟩, .int .i64 0, .string ⟨#[]⟩, .string ⟨#[]⟩, .int .i64 0] 43 (0, 0))) ∧ Ad (IsS73 w0 wc g x1000_2 x1001_2) ∧ Ad (KeepBut w wc g none) ∧ Ad (Below w0.heap.size w0 wc))
 case first =>
  have H := HC3.out
  clear HC3
  obtain ⟨t185, A7, H⟩ := bi_ H
  by_cases c8 : t185 = true
  ·subst c8
   rw [if_pos rfl] at H
   have H' := Ad.mk H
   clear H
   go_wp2_with (first | ((with_reducible refine gate_callee (f := 90) rfl ?_); refine goesL_ (some 18) rfl rfl Tryz.func90 k1_ rfl #[.int .u8 t182] rfl g1_ ?_; (with_reducible refine (lex_letter.calls t182 true _ A7.out).mono ?_); rintro e w' ⟨rfl, ⟨nd, rfl⟩⟩; refine ⟨_, rfl, ?_⟩))
   go_meet
   case rel => exact ⟨_, (false), (t183), (t184), e1_, H', ⟨z12_⟩, ⟨by refine bd_ ?_; exact BK181.out⟩, ⟨by have G0 := HI0; have G1 := NB0_181; exact z5_⟩, ⟨by have G0 := GW181; exact z4_⟩, ⟨by have G0 := HI0; have G1 := GE181; exact z6_⟩⟩
  replace c8 := Bool.eq_false_iff.mpr c8
  subst c8
  rw [if_neg (show ¬ (false = true) by decide)] at H
  by_cases c9 : t182 = 58
  ·rw [if_pos c9] at H
   have c9b0 := beq_iff_eq.mpr c9
   have c9b1 := bne_eq_false_iff_eq.mpr c9
   clear c9
   (first | rw [c9b0] | (simp only [i64_w, i32_w]; rw [c9b0]) | skip)
   obtain ⟨⟨t186, t187, t188⟩, A10, H⟩ := bi_ H
   try dsimp only at H
   have H' := Ad.mk H
   clear H
   go_wp2_with (first | ((with_reducible refine gate_callee (f := 90) rfl ?_); refine goesL_ (some 18) rfl rfl Tryz.func90 k1_ rfl #[.int .u8 t182] rfl g1_ ?_; (with_reducible refine (lex_letter.calls t182 false _ A7.out).mono ?_); rintro e w' ⟨rfl, ⟨nd, rfl⟩⟩; refine ⟨_, rfl, ?_⟩; obtain ⟨HGz11, hgz11⟩ := HI0.out; have hcz11_0 := cellS73_0 HGz11; have hcz11_1 := cellS73_1 HGz11; have hfz11_0 := blk_frozen HGz11 0; have hfz11_1 := blk_frozen HGz11 1; clear HGz11 hgz11) | (go_at_call 84; (with_reducible refine (ls_ch.calls g t183 t184 (wrap64 (t184 + 1)) t186 t187 t188 w0 _ ?side1 ?side2 A10.out).mono ?_); (case side1 => exact (by have G0 := HI0; have G1 := NB0_181; exact z5_)); (case side2 => exact (by have G0 := HI0; have G1 := GE181; exact z6_)); rintro e w12 ⟨rfl, hi, hb, hk⟩; replace BK181 := Ad.mk (KeepBut.blk hk (g' := gb181) (o := .cells #[.int .i64 0, .string ⟨#[]⟩, .int .i64 0, .string ⟨#[]⟩, .string ⟨#[]⟩, .int .i64 0] 43 (0, 0)) (bd_ BK181.out) NB181_0.out (by simp)); replace HK := Ad.mk (KeepBut.trans (by have G0 := GW181; exact z4_) hk (.inl rfl)); replace HB := Ad.mk (hb); replace HI0 := Ad.mk (hi); clear hb hk hi))
   go_meet
   case rel => exact ⟨_, ((t186 == 45)), (t187), (t188), e1_, H', ⟨z12_⟩, ⟨by refine bd_ ?_; exact BK181.out⟩, ⟨by have G0 := HI0; have G1 := NB0_181; exact z5_⟩, ⟨by have G0 := GW181; exact z4_⟩, ⟨by have G0 := HI0; have G1 := GE181; exact z6_⟩⟩
  rw [if_neg c9] at H
  have c9b0 := beq_eq_false_iff_ne.mpr c9
  have c9b1 := bne_iff_ne.mpr c9
  (first | rw [c9b0] | (simp only [i64_w, i32_w]; rw [c9b0]) | skip)
  have H' := Ad.mk H
  clear H
  go_wp2_with (first | ((with_reducible refine gate_callee (f := 90) rfl ?_); refine goesL_ (some 18) rfl rfl Tryz.func90 k1_ rfl #[.int .u8 t182] rfl g1_ ?_; (with_reducible refine (lex_letter.calls t182 false _ A7.out).mono ?_); rintro e w' ⟨rfl, ⟨nd, rfl⟩⟩; refine ⟨_, rfl, ?_⟩))
  go_meet
  case rel => exact ⟨_, (true), (t183), (t184), e1_, H', ⟨z12_⟩, ⟨by refine bd_ ?_; exact BK181.out⟩, ⟨by have G0 := HI0; have G1 := NB0_181; exact z5_⟩, ⟨by have G0 := GW181; exact z4_⟩, ⟨by have G0 := HI0; have G1 := GE181; exact z6_⟩⟩
 case rest =>
  clear HC3
  try clear hcz5_0
  try clear hcz5_1
  try clear hfz5_0
  try clear hfz5_1
  obtain ⟨kq, x33_2, x1000_2, x1001_2, rfl, HA, HJ2, BK181, HI0, HK, HB⟩ := hcut
  cases kq with
  | zero => exact absurd HA.out (by simp [ls_word.j0])
  | succ kj2 =>
   have H := HA.out
   clear HA
   simp only [ls_word.j0] at H
   by_cases c13 : x33_2 = true
   ·subst c13
    rw [if_pos rfl] at H
    simp only [Option.some.injEq, Prod.mk.injEq] at H
    obtain ⟨rfl, rfl, rfl, rfl, rfl, rfl, rfl, rfl, rfl⟩ := H
    have hnb14 := NB181_0.out
    have hnc14 := NB0_181.out
    obtain ⟨⟨hcz15_0, hcz15_1, hcz15_2, hcz15_3, hcz15_4, hcz15_5⟩, hfz15_0, hfz15_1, hfz15_2, hfz15_3, hfz15_4, hfz15_5⟩ := c6_ BK181.out
    go_wp2
    refine bodyPost_ret (results_ct rfl _ _ gb181 43 #[.int .i64 0, .string ⟨#[]⟩, .int .i64 0, .string ⟨#[]⟩, .string ⟨#[]⟩, .int .i64 0] (0, 0) _ rfl (by have G0 := BK181; exact z31_) Tryz.underlying43 rfl k1_) rfl ?_
    exact ⟨e2_, by have G0 := HI0; have G1 := NB0_181; exact z5_, by have G0 := HI0; have G1 := GE181; exact z6_, by have G0 := GW181; exact z4_⟩
   replace c13 := Bool.eq_false_iff.mpr c13
   subst c13
   rw [if_neg (show ¬ (false = true) by decide)] at H
   obtain ⟨⟨t189, t190, t191⟩, A16, H⟩ := bi_ H
   try dsimp only at H
   obtain ⟨⟨t192, t193, t194⟩, A17, H⟩ := bi_ H
   try dsimp only at H
   by_cases c18 : t192 = 58
   ·rw [if_pos c18] at H
    have c18b0 := beq_iff_eq.mpr c18
    have c18b1 := bne_eq_false_iff_eq.mpr c18
    clear c18
    obtain ⟨⟨t195, t196, t197⟩, A19, H⟩ := bi_ H
    try dsimp only at H
    by_cases c20 : t195 = 45
    ·rw [if_pos c20] at H
     have c20b0 := beq_iff_eq.mpr c20
     have c20b1 := bne_eq_false_iff_eq.mpr c20
     clear c20
     simp only [Option.some.injEq, Prod.mk.injEq] at H
     obtain ⟨rfl, rfl, rfl, rfl, rfl, rfl, rfl, rfl, rfl⟩ := H
     go_wp2_with (first | ((with_reducible refine gate_callee (f := 86) rfl ?_); refine goesL_ (some 37) rfl rfl Tryz.func86 k1_ rfl #[.pointer (some ⟨g, 0, none⟩), .int .i64 s0_1, .int .i64 32, .func (.func 87) #[] #[]] rfl g1_ ?_; (with_reducible refine (ls_run.calls kj2 g x1000_2 x1001_2 s0_1 32 87 t189 t190 t191 w0 _ ?side1 ?side2 A16.out).mono ?_); (case side1 => exact (by have G0 := HI0; have G1 := NB0_181; exact z5_)); (case side2 => exact (by have G0 := HI0; have G1 := GE181; exact z6_)); rintro e w21 ⟨rfl, hi, hb, hk⟩; refine ⟨_, rfl, ?_⟩; replace BK181 := Ad.mk (KeepBut.blk hk (g' := gb181) (o := .cells #[.int .i64 0, .string ⟨#[]⟩, .int .i64 0, .string ⟨#[]⟩, .string ⟨#[]⟩, .int .i64 0] 43 (0, 0)) (bd_ BK181.out) NB181_0.out (by simp)); replace HK := Ad.mk (KeepBut.trans (by have G0 := GW181; exact z4_) hk (.inl rfl)); replace HB := Ad.mk (hb); replace HI0 := Ad.mk (hi); clear hb hk hi; obtain ⟨HGz22, hgz22⟩ := HI0.out; have hcz22_0 := cellS73_0 HGz22; have hcz22_1 := cellS73_1 HGz22; have hfz22_0 := blk_frozen HGz22 0; have hfz22_1 := blk_frozen HGz22 1; clear HGz22 hgz22) | ((with_reducible refine gate_callee (f := 84) rfl ?_); refine goesL_ (some 43) rfl rfl Tryz.func84 k1_ rfl #[.pointer (some ⟨g, 0, none⟩), .int .i64 t191] rfl g1_ ?_; (with_reducible refine (ls_ch.calls g t190 t191 t191 t192 t193 t194 w0 _ ?side1 ?side2 A17.out).mono ?_); (case side1 => exact (by have G0 := HI0; have G1 := NB0_181; exact z5_)); (case side2 => exact (by have G0 := HI0; have G1 := GE181; exact z6_)); rintro e w23 ⟨rfl, hi, hb, hk⟩; refine ⟨_, rfl, ?_⟩; replace BK181 := Ad.mk (KeepBut.blk hk (g' := gb181) (o := .cells #[.int .i64 0, .string ⟨#[]⟩, .int .i64 0, .string ⟨#[]⟩, .string ⟨#[]⟩, .int .i64 0] 43 (0, 0)) (bd_ BK181.out) NB181_0.out (by simp)); replace HK := Ad.mk (KeepBut.trans (by have G0 := GW181; exact z4_) hk (.inl rfl)); replace HB := Ad.mk (hb); replace HI0 := Ad.mk (hi); clear hb hk hi; obtain ⟨HGz24, hgz24⟩ := HI0.out; have hcz24_0 := cellS73_0 HGz24; have hcz24_1 := cellS73_1 HGz24; have hfz24_0 := blk_frozen HGz24 0; have hfz24_1 := blk_frozen HGz24 1; clear HGz24 hgz24) | (go_at_call 84; (with_reducible refine (ls_ch.calls g t193 t194 (wrap64 (t194 + 1)) t195 t196 t197 w0 _ ?side1 ?side2 A19.out).mono ?_); (case side1 => exact (by have G0 := HI0; have G1 := NB0_181; exact z5_)); (case side2 => exact (by have G0 := HI0; have G1 := GE181; exact z6_)); rintro e w25 ⟨rfl, hi, hb, hk⟩; replace BK181 := Ad.mk (KeepBut.blk hk (g' := gb181) (o := .cells #[.int .i64 0, .string ⟨#[]⟩, .int .i64 0, .string ⟨#[]⟩, .string ⟨#[]⟩, .int .i64 0] 43 (0, 0)) (bd_ BK181.out) NB181_0.out (by simp)); replace HK := Ad.mk (KeepBut.trans (by have G0 := GW181; exact z4_) hk (.inl rfl)); replace HB := Ad.mk (hb); replace HI0 := Ad.mk (hi); clear hb hk hi; have hnb26 := NB181_0.out; have hnc26 := NB0_181.out; obtain ⟨⟨hcz27_0, hcz27_1, hcz27_2, hcz27_3, hcz27_4, hcz27_5⟩, hfz27_0, hfz27_1, hfz27_2, hfz27_3, hfz27_4, hfz27_5⟩ := c6_ BK181.out))
     refine bodyPost_ret (results_ct rfl _ _ gb181 43 #[.int .i64 6, .string t189, .int .i64 0, .string ⟨#[]⟩, .string ⟨#[]⟩, .int .i64 0] (0, 0) _ rfl (by have G0 := BK181; exact z81_) Tryz.underlying43 rfl k1_) rfl ?_
     exact ⟨e2_, by have G0 := HI0; have G1 := NB0_181; exact z5_, by have G0 := HI0; have G1 := GE181; exact z6_, by have G0 := GW181; exact z4_⟩
    rw [if_neg c20] at H
    have c20b0 := beq_eq_false_iff_ne.mpr c20
    have c20b1 := bne_iff_ne.mpr c20
    obtain ⟨⟨t198, t199, t200⟩, A28, H⟩ := bi_ H
    try dsimp only at H
    by_cases c29 : 0 ≤ s0_1
    ·rw [if_pos c29] at H
     have c29b0 := eq_true c29
     have c29b1 := decide_eq_true c29
     clear c29
     by_cases c30 : s0_1 ≤ t200
     ·rw [if_pos c30] at H
      have c30b0 := eq_true c30
      have c30b1 := decide_eq_true c30
      clear c30
      by_cases c31 : t200 ≤ (t199.size : Int)
      ·rw [if_pos c31] at H
       have c31b0 := eq_true c31
       have c31b1 := decide_eq_true c31
       clear c31
       simp only [Option.some.injEq, Prod.mk.injEq] at H
       obtain ⟨rfl, rfl, rfl, rfl, rfl, rfl, rfl, rfl, rfl⟩ := H
       go_wp2_with (first | ((with_reducible refine gate_callee (f := 86) rfl ?_); refine goesL_ (some 37) rfl rfl Tryz.func86 k1_ rfl #[.pointer (some ⟨g, 0, none⟩), .int .i64 s0_1, .int .i64 32, .func (.func 87) #[] #[]] rfl g1_ ?_; (with_reducible refine (ls_run.calls kj2 g x1000_2 x1001_2 s0_1 32 87 t189 t190 t191 w0 _ ?side1 ?side2 A16.out).mono ?_); (case side1 => exact (by have G0 := HI0; have G1 := NB0_181; exact z5_)); (case side2 => exact (by have G0 := HI0; have G1 := GE181; exact z6_)); rintro e w32 ⟨rfl, hi, hb, hk⟩; refine ⟨_, rfl, ?_⟩; replace BK181 := Ad.mk (KeepBut.blk hk (g' := gb181) (o := .cells #[.int .i64 0, .string ⟨#[]⟩, .int .i64 0, .string ⟨#[]⟩, .string ⟨#[]⟩, .int .i64 0] 43 (0, 0)) (bd_ BK181.out) NB181_0.out (by simp)); replace HK := Ad.mk (KeepBut.trans (by have G0 := GW181; exact z4_) hk (.inl rfl)); replace HB := Ad.mk (hb); replace HI0 := Ad.mk (hi); clear hb hk hi; obtain ⟨HGz33, hgz33⟩ := HI0.out; have hcz33_0 := cellS73_0 HGz33; have hcz33_1 := cellS73_1 HGz33; have hfz33_0 := blk_frozen HGz33 0; have hfz33_1 := blk_frozen HGz33 1; clear HGz33 hgz33) | ((with_reducible refine gate_callee (f := 84) rfl ?_); refine goesL_ (some 43) rfl rfl Tryz.func84 k1_ rfl #[.pointer (some ⟨g, 0, none⟩), .int .i64 t191] rfl g1_ ?_; (with_reducible refine (ls_ch.calls g t190 t191 t191 t192 t193 t194 w0 _ ?side1 ?side2 A17.out).mono ?_); (case side1 => exact (by have G0 := HI0; have G1 := NB0_181; exact z5_)); (case side2 => exact (by have G0 := HI0; have G1 := GE181; exact z6_)); rintro e w34 ⟨rfl, hi, hb, hk⟩; refine ⟨_, rfl, ?_⟩; replace BK181 := Ad.mk (KeepBut.blk hk (g' := gb181) (o := .cells #[.int .i64 0, .string ⟨#[]⟩, .int .i64 0, .string ⟨#[]⟩, .string ⟨#[]⟩, .int .i64 0] 43 (0, 0)) (bd_ BK181.out) NB181_0.out (by simp)); replace HK := Ad.mk (KeepBut.trans (by have G0 := GW181; exact z4_) hk (.inl rfl)); replace HB := Ad.mk (hb); replace HI0 := Ad.mk (hi); clear hb hk hi; obtain ⟨HGz35, hgz35⟩ := HI0.out; have hcz35_0 := cellS73_0 HGz35; have hcz35_1 := cellS73_1 HGz35; have hfz35_0 := blk_frozen HGz35 0; have hfz35_1 := blk_frozen HGz35 1; clear HGz35 hgz35) | (go_at_call 84; (with_reducible refine (ls_ch.calls g t193 t194 (wrap64 (t194 + 1)) t195 t196 t197 w0 _ ?side1 ?side2 A19.out).mono ?_); (case side1 => exact (by have G0 := HI0; have G1 := NB0_181; exact z5_)); (case side2 => exact (by have G0 := HI0; have G1 := GE181; exact z6_)); rintro e w36 ⟨rfl, hi, hb, hk⟩; replace BK181 := Ad.mk (KeepBut.blk hk (g' := gb181) (o := .cells #[.int .i64 0, .string ⟨#[]⟩, .int .i64 0, .string ⟨#[]⟩, .string ⟨#[]⟩, .int .i64 0] 43 (0, 0)) (bd_ BK181.out) NB181_0.out (by simp)); replace HK := Ad.mk (KeepBut.trans (by have G0 := GW181; exact z4_) hk (.inl rfl)); replace HB := Ad.mk (hb); replace HI0 := Ad.mk (hi); clear hb hk hi; obtain ⟨HGz37, hgz37⟩ := HI0.out; have hcz37_0 := cellS73_0 HGz37; have hcz37_1 := cellS73_1 HGz37; have hfz37_0 := blk_frozen HGz37 0; have hfz37_1 := blk_frozen HGz37 1; clear HGz37 hgz37) | ((with_reducible refine gate_callee (f := 86) rfl ?_); refine goesL_ (some 66) rfl rfl Tryz.func86 k1_ rfl #[.pointer (some ⟨g, 0, none⟩), .int .i64 s0_1, .int .i64 64, .func (.func 91) #[] #[]] rfl g1_ ?_; (with_reducible refine (ls_run.calls kj2 g t196 (wrap64 (t197 + 1)) s0_1 64 91 t198 t199 t200 w0 _ ?side1 ?side2 A28.out).mono ?_); (case side1 => exact (by have G0 := HI0; have G1 := NB0_181; exact z5_)); (case side2 => exact (by have G0 := HI0; have G1 := GE181; exact z6_)); rintro e w38 ⟨rfl, hi, hb, hk⟩; refine ⟨_, rfl, ?_⟩; replace BK181 := Ad.mk (KeepBut.blk hk (g' := gb181) (o := .cells #[.int .i64 0, .string ⟨#[]⟩, .int .i64 0, .string ⟨#[]⟩, .string ⟨#[]⟩, .int .i64 0] 43 (0, 0)) (by refine bd_ ?_; refine blk_far ?_ NB181_0.out _; refine bd_ ?_; exact BK181.out) NB181_0.out (by simp)); replace HK := Ad.mk (KeepBut.trans (by have G0 := GW181; exact z4_) hk (.inl rfl)); replace HB := Ad.mk (hb); replace HI0 := Ad.mk (hi); clear hb hk hi; obtain ⟨HGz39, hgz39⟩ := HI0.out; have hcz39_0 := cellS73_0 HGz39; have hcz39_1 := cellS73_1 HGz39; have hfz39_0 := blk_frozen HGz39 0; have hfz39_1 := blk_frozen HGz39 1; clear HGz39 hgz39; have hnb40 := NB181_0.out; have hnc40 := NB0_181.out; obtain ⟨⟨hcz41_0, hcz41_1, hcz41_2, hcz41_3, hcz41_4, hcz41_5⟩, hfz41_0, hfz41_1, hfz41_2, hfz41_3, hfz41_4, hfz41_5⟩ := c6_ BK181.out))
       go_region
       all_goals (go_wp2; refine bodyPost_ret (results_ct rfl _ _ gb181 43 #[.int .i64 7, .string (t199.extract (s0_1 : Int).toNat (t200 : Int).toNat), .int .i64 0, .string ⟨#[]⟩, .string ⟨#[]⟩, .int .i64 0] (0, 0) _ rfl (by refine bd_ ?_; refine blk_put (cs := #[.int .i64 7, .string (t199.extract (s0_1 : Int).toNat (t200 : Int).toNat), .int .i64 0, .string ⟨#[]⟩, .string ⟨#[]⟩, .int .i64 0]) ?_ 5 _ rfl; refine bd_ ?_; refine blk_put (cs := #[.int .i64 7, .string (t199.extract (s0_1 : Int).toNat (t200 : Int).toNat), .int .i64 0, .string ⟨#[]⟩, .string ⟨#[]⟩, .int .i64 0]) ?_ 4 _ rfl; refine bd_ ?_; refine blk_put (cs := #[.int .i64 7, .string (t199.extract (s0_1 : Int).toNat (t200 : Int).toNat), .int .i64 0, .string ⟨#[]⟩, .string ⟨#[]⟩, .int .i64 0]) ?_ 3 _ rfl; refine bd_ ?_; refine blk_put (cs := #[.int .i64 7, .string (t199.extract (s0_1 : Int).toNat (t200 : Int).toNat), .int .i64 0, .string ⟨#[]⟩, .string ⟨#[]⟩, .int .i64 0]) ?_ 2 _ rfl; refine bd_ ?_; refine blk_put (cs := #[.int .i64 7, .string ⟨#[]⟩, .int .i64 0, .string ⟨#[]⟩, .string ⟨#[]⟩, .int .i64 0]) ?_ 1 _ rfl; refine bd_ ?_; refine blk_put (cs := #[.int .i64 0, .string ⟨#[]⟩, .int .i64 0, .string ⟨#[]⟩, .string ⟨#[]⟩, .int .i64 0]) ?_ 0 _ rfl; refine bd_ ?_; exact BK181.out) Tryz.underlying43 rfl k1_) rfl ?_; exact ⟨e2_, by have G0 := HI0; have G1 := NB0_181; exact z5_, by have G0 := HI0; have G1 := GE181; exact z6_, by have G0 := GW181; exact z4_⟩)
      rw [if_neg c31] at H
      exact absurd H (by simp)
     rw [if_neg c30] at H
     exact absurd H (by simp)
    rw [if_neg c29] at H
    exact absurd H (by simp)
   rw [if_neg c18] at H
   have c18b0 := beq_eq_false_iff_ne.mpr c18
   have c18b1 := bne_iff_ne.mpr c18
   simp only [Option.some.injEq, Prod.mk.injEq] at H
   obtain ⟨rfl, rfl, rfl, rfl, rfl, rfl, rfl, rfl, rfl⟩ := H
   go_wp2_with (first | ((with_reducible refine gate_callee (f := 86) rfl ?_); refine goesL_ (some 37) rfl rfl Tryz.func86 k1_ rfl #[.pointer (some ⟨g, 0, none⟩), .int .i64 s0_1, .int .i64 32, .func (.func 87) #[] #[]] rfl g1_ ?_; (with_reducible refine (ls_run.calls kj2 g x1000_2 x1001_2 s0_1 32 87 t189 t190 t191 w0 _ ?side1 ?side2 A16.out).mono ?_); (case side1 => exact (by have G0 := HI0; have G1 := NB0_181; exact z5_)); (case side2 => exact (by have G0 := HI0; have G1 := GE181; exact z6_)); rintro e w42 ⟨rfl, hi, hb, hk⟩; refine ⟨_, rfl, ?_⟩; replace BK181 := Ad.mk (KeepBut.blk hk (g' := gb181) (o := .cells #[.int .i64 0, .string ⟨#[]⟩, .int .i64 0, .string ⟨#[]⟩, .string ⟨#[]⟩, .int .i64 0] 43 (0, 0)) (bd_ BK181.out) NB181_0.out (by simp)); replace HK := Ad.mk (KeepBut.trans (by have G0 := GW181; exact z4_) hk (.inl rfl)); replace HB := Ad.mk (hb); replace HI0 := Ad.mk (hi); clear hb hk hi; obtain ⟨HGz43, hgz43⟩ := HI0.out; have hcz43_0 := cellS73_0 HGz43; have hcz43_1 := cellS73_1 HGz43; have hfz43_0 := blk_frozen HGz43 0; have hfz43_1 := blk_frozen HGz43 1; clear HGz43 hgz43) | ((with_reducible refine gate_callee (f := 84) rfl ?_); refine goesL_ (some 43) rfl rfl Tryz.func84 k1_ rfl #[.pointer (some ⟨g, 0, none⟩), .int .i64 t191] rfl g1_ ?_; (with_reducible refine (ls_ch.calls g t190 t191 t191 t192 t193 t194 w0 _ ?side1 ?side2 A17.out).mono ?_); (case side1 => exact (by have G0 := HI0; have G1 := NB0_181; exact z5_)); (case side2 => exact (by have G0 := HI0; have G1 := GE181; exact z6_)); rintro e w44 ⟨rfl, hi, hb, hk⟩; refine ⟨_, rfl, ?_⟩; replace BK181 := Ad.mk (KeepBut.blk hk (g' := gb181) (o := .cells #[.int .i64 0, .string ⟨#[]⟩, .int .i64 0, .string ⟨#[]⟩, .string ⟨#[]⟩, .int .i64 0] 43 (0, 0)) (bd_ BK181.out) NB181_0.out (by simp)); replace HK := Ad.mk (KeepBut.trans (by have G0 := GW181; exact z4_) hk (.inl rfl)); replace HB := Ad.mk (hb); replace HI0 := Ad.mk (hi); clear hb hk hi; have hnb45 := NB181_0.out; have hnc45 := NB0_181.out; obtain ⟨⟨hcz46_0, hcz46_1, hcz46_2, hcz46_3, hcz46_4, hcz46_5⟩, hfz46_0, hfz46_1, hfz46_2, hfz46_3, hfz46_4, hfz46_5⟩ := c6_ BK181.out))
   refine bodyPost_ret (results_ct rfl _ _ gb181 43 #[.int .i64 6, .string t189, .int .i64 0, .string ⟨#[]⟩, .string ⟨#[]⟩, .int .i64 0] (0, 0) _ rfl (by have G0 := BK181; exact z81_) Tryz.underlying43 rfl k1_) rfl ?_
   exact ⟨e2_, by have G0 := HI0; have G1 := NB0_181; exact z5_, by have G0 := HI0; have G1 := GE181; exact z6_, by have G0 := GW181; exact z4_⟩
def stringslite_HasPrefix.f (a0 : ByteArray) (a1 : ByteArray) : Option (Bool) := if (a0.size : Int) ≥ (a1.size : Int) then (if 0 ≤ (a1.size : Int) then (if (a1.size : Int) ≤ (a0.size : Int) then (some ((a0.extract 0 ((a1.size : Int) : Int).toNat).toList == a1.toList)) else (none)) else (none)) else (some false)
theorem stringslite_HasPrefix.calls (a0 : ByteArray) (a1 : ByteArray) (r : Bool) (w : World) (h : stringslite_HasPrefix.f a0 a1 = some r) :
  Calls Tryz.prog 99 #[.string a0, .string a1] w fun e w' => e = .returned (.bool r) ∧ Drawn0 w w' := by
 have H := h
 clear h
 unfold stringslite_HasPrefix.f at H
 by_cases c3 : (a0.size : Int) ≥ (a1.size : Int)
 ·rw [if_pos c3] at H
  have c3b0 : decide ((a1.size : Int) ≤ (a0.size : Int)) = true := decide_eq_true c3
  have c3b1 : decide (a1.size ≤ a0.size) = true := decide_eq_true (Int.ofNat_le.mp c3)
  clear c3
  by_cases c4 : 0 ≤ (a1.size : Int)
  ·rw [if_pos c4] at H
   have c4b0 := eq_true c4
   have c4b1 := decide_eq_true c4
   clear c4
   by_cases c5 : (a1.size : Int) ≤ (a0.size : Int)
   ·rw [if_pos c5] at H
    have c5b0 := eq_true c5
    have c5b1 := decide_eq_true c5
    clear c5
    obtain rfl := Option.some.inj H
    go_enter Tryz.func99, Tryz.ntmps99
    go_wp2
    go_ret
    exact ⟨e1_, z1_⟩
   rw [if_neg c5] at H
   exact absurd H (by simp)
  rw [if_neg c4] at H
  exact absurd H (by simp)
 rw [if_neg c3] at H
 have c3b0 : decide ((a1.size : Int) ≤ (a0.size : Int)) = false := decide_eq_false c3
 have c3b1 : decide (a1.size ≤ a0.size) = false := decide_eq_false (fun h => c3 (Int.ofNat_le.mpr h))
 clear c3
 obtain rfl := Option.some.inj H
 go_enter Tryz.func99, Tryz.ntmps99
 go_wp2
 go_ret
 exact ⟨e1_, z1_⟩
def strings_HasPrefix.f (a0 : ByteArray) (a1 : ByteArray) : Option (Bool) := (stringslite_HasPrefix.f a0 a1).bind fun t201 => (some t201)
theorem strings_HasPrefix.calls (a0 : ByteArray) (a1 : ByteArray) (r : Bool) (w : World) (h : strings_HasPrefix.f a0 a1 = some r) :
  Calls Tryz.prog 92 #[.string a0, .string a1] w fun e w' => e = .returned (.bool r) ∧ Drawn0 w w' := by
 have H := h
 clear h
 unfold strings_HasPrefix.f at H
 obtain ⟨t201, A3, H⟩ := bi_ H
 obtain rfl := Option.some.inj H
 go_enter Tryz.func92, Tryz.ntmps92
 go_wp2_with (first | ((with_reducible refine gate_callee (f := 99) rfl ?_); refine goesL_ (some 7) rfl rfl Tryz.func99 k1_ rfl #[.string a0, .string a1] rfl g1_ ?_; (with_reducible refine (stringslite_HasPrefix.calls a0 a1 t201 _ A3.out).mono ?_); rintro e w' ⟨rfl, ⟨nd, rfl⟩⟩; refine ⟨_, rfl, ?_⟩))
 go_ret
 exact ⟨e1_, z1_⟩
def ls_mark.l0 : Nat → List ByteArray → Int → Int → ByteArray → Int → Option (Int × ByteArray × Int × ByteArray × ByteArray × Int × Bool × ByteArray × Int)
 | 0, _, _, _, _, _ => none
 | k + 1, x6, x7, x8, x1000, x1001 => if x8 < x7 then (if 0 ≤ x8 then (if x8 < (x6.length : Int) then (if 0 ≤ x1001 then (if x1001 ≤ (x1000.size : Int) then ((strings_HasPrefix.f (x1000.extract (x1001 : Int).toNat x1000.size) (rdOf ByteArray.empty x6 x8)).bind fun t207 => (if t207 = true then (some (8, rdOf ByteArray.empty x6 x8, 0, (⟨#[]⟩ : ByteArray), (⟨#[]⟩ : ByteArray), 0, true, x1000, wrap64 (x1001 + ((rdOf ByteArray.empty x6 x8).size : Int)))) else (ls_mark.l0 k x6 x7 (wrap64 (x8 + 1)) x1000 x1001))) else (none)) else (none)) else (none)) else (none)) else (some (0, (⟨#[]⟩ : ByteArray), 0, (⟨#[]⟩ : ByteArray), (⟨#[]⟩ : ByteArray), 0, false, x1000, x1001))
def ls_mark.f (k : Nat) (s0_0 : ByteArray) (s0_1 : Int) : Option (Int × ByteArray × Int × ByteArray × ByteArray × Int × Bool × ByteArray × Int) := (some (([(⟨#[94, 94]⟩ : ByteArray), (⟨#[58, 45]⟩ : ByteArray), (⟨#[33, 61]⟩ : ByteArray), (⟨#[61]⟩ : ByteArray), (⟨#[46]⟩ : ByteArray), (⟨#[44]⟩ : ByteArray), (⟨#[40]⟩ : ByteArray), (⟨#[41]⟩ : ByteArray), (⟨#[123]⟩ : ByteArray), (⟨#[125]⟩ : ByteArray)] : List ByteArray) : List ByteArray)).bind fun y203 => (ls_mark.l0 k y203 (y203.length : Int) 0 s0_0 s0_1)
theorem ls_mark.calls (k : Nat) (g : Nat) (s0_0 : ByteArray) (s0_1 : Int) (r1 : Int) (r2 : ByteArray) (r3 : Int) (r4 : ByteArray) (r5 : ByteArray) (r6 : Int) (r7 : Bool) (r8 : ByteArray) (r9 : Int) (w0 w : World) (hI : IsS73 w0 w g s0_0 s0_1) (hB : Below w0.heap.size w0 w) (h : ls_mark.f k s0_0 s0_1 = some (r1, r2, r3, r4, r5, r6, r7, r8, r9)) :
  Calls Tryz.prog 75 #[.pointer (some ⟨g, 0, none⟩)] w fun e w' => e = .returned (.tuple #[.agg #[.int .i64 r1, .string r2, .int .i64 r3, .string r4, .string r5, .int .i64 r6], .bool r7]) ∧ IsS73 w0 w' g r8 r9 ∧ Below w0.heap.size w0 w' ∧ KeepBut w w' g none := by
 have hu43 := Tryz.underlying43
 have HI0 := Ad.mk hI
 have HK := Ad.mk (KeepBut.refl w g none)
 have HL := Ad.mk hB.size
 clear hI
 have HW0 := Ad.mk hB.size
 have HB := Ad.mk hB
 clear hB
 have H := h
 clear h
 unfold ls_mark.f at H
 replace H := yb_ H
 obtain ⟨y203, hy203, H⟩ := H
 have Ny203 := Ad.mk hy203
 clear hy203
 have H' := Ad.mk H
 clear H
 go_enter Tryz.func75, Tryz.ntmps75
 go_wp2_with (first | ((with_reducible refine gate_dst (N := 2) rfl ?_); refine box_event r1_ (N := 2) r1_ (cs := #[.int .i64 0, .string ⟨#[]⟩, .int .i64 0, .string ⟨#[]⟩, .string ⟨#[]⟩, .int .i64 0]) (t := 43) r2_ ?_; intro gb202 hg w2 hbox hb; have BK202 := Ad.mk (hbox); have GW202 := Ad.mk ((z11_ : w.heap.size ≤ gb202)); have GE202 := Ad.mk ((Nat.le_trans HW0.out (z11_ : w.heap.size ≤ gb202) : w0.heap.size ≤ gb202)); have NB0_202 := Ad.mk ((by have G0 := HI0; exact z15_ : g ≠ gb202)); have NB202_0 := Ad.mk ((by have G0 := HI0; exact z16_ : gb202 ≠ g)); replace HK := Ad.mk (KeepBut.trans z9_ (KeepBut.of_below hb g none) (.inl rfl)); replace HB := Ad.mk (below_step (by have G0 := HI0; exact z10_) hb); replace HI0 := Ad.mk (IsS73.below (by have G0 := HI0; exact z8_) hb); clear hb hbox hg) | ((with_reducible refine gate_dst (N := 6) rfl ?_); refine Kd.R_lit Kd.string _ 9 r1_ (N := 6) r1_ (xs := ([(⟨#[94, 94]⟩ : ByteArray), (⟨#[58, 45]⟩ : ByteArray), (⟨#[33, 61]⟩ : ByteArray), (⟨#[61]⟩ : ByteArray), (⟨#[46]⟩ : ByteArray), (⟨#[44]⟩ : ByteArray), (⟨#[40]⟩ : ByteArray), (⟨#[41]⟩ : ByteArray), (⟨#[123]⟩ : ByteArray), (⟨#[125]⟩ : ByteArray)] : List ByteArray)) (inner := [.string ⟨#[94, 94]⟩, .string ⟨#[58, 45]⟩, .string ⟨#[33, 61]⟩, .string ⟨#[61]⟩, .string ⟨#[46]⟩, .string ⟨#[44]⟩, .string ⟨#[40]⟩, .string ⟨#[41]⟩, .string ⟨#[123]⟩, .string ⟨#[125]⟩]) (ok := fun _ => True) (okp := fun _ => True) r2_ ?hp (fun _ hk => hk) trivial (Below.refl _ _) (Nat.le_refl _) (by simp) ?_; (case hp => exact (Reps.one (show Kd.M Kd.string _ _ _ (⟨#[94, 94]⟩ : ByteArray) [.string ⟨#[94, 94]⟩] from rfl) (Reps.one (show Kd.M Kd.string _ _ _ (⟨#[58, 45]⟩ : ByteArray) [.string ⟨#[58, 45]⟩] from rfl) (Reps.one (show Kd.M Kd.string _ _ _ (⟨#[33, 61]⟩ : ByteArray) [.string ⟨#[33, 61]⟩] from rfl) (Reps.one (show Kd.M Kd.string _ _ _ (⟨#[61]⟩ : ByteArray) [.string ⟨#[61]⟩] from rfl) (Reps.one (show Kd.M Kd.string _ _ _ (⟨#[46]⟩ : ByteArray) [.string ⟨#[46]⟩] from rfl) (Reps.one (show Kd.M Kd.string _ _ _ (⟨#[44]⟩ : ByteArray) [.string ⟨#[44]⟩] from rfl) (Reps.one (show Kd.M Kd.string _ _ _ (⟨#[40]⟩ : ByteArray) [.string ⟨#[40]⟩] from rfl) (Reps.one (show Kd.M Kd.string _ _ _ (⟨#[41]⟩ : ByteArray) [.string ⟨#[41]⟩] from rfl) (Reps.one (show Kd.M Kd.string _ _ _ (⟨#[123]⟩ : ByteArray) [.string ⟨#[123]⟩] from rfl) (Reps.one (show Kd.M Kd.string _ _ _ (⟨#[125]⟩ : ByteArray) [.string ⟨#[125]⟩] from rfl) (Reps.none _ _)))))))))))); intro v204 w3 ho4 hb hg_ hnew_; clear hg_ hnew_; (first | rw [← Ny203.out] at ho4 | (simp only [Int.reduceToNat] at ho4; rw [← Ny203.out] at ho4)); have HO205 := Ad.mk (Kd.R_lower ho4 (keep_size (w := w) (g := g) (row := none) (by have G0 := GW202; exact z4_))); replace BK202 := Ad.mk (blk_below (g := gb202) (o := .cells #[.int .i64 0, .string ⟨#[]⟩, .int .i64 0, .string ⟨#[]⟩, .string ⟨#[]⟩, .int .i64 0] 43 (0, 0)) (bd_ BK202.out) hb); replace HK := Ad.mk (KeepBut.trans (by have G0 := GW202; exact z4_) (KeepBut.of_below hb g none) (.inl rfl)); replace HB := Ad.mk (below_step (by have G0 := HI0; have G1 := GE202; exact z6_) hb); replace HI0 := Ad.mk (IsS73.below (by have G0 := HI0; have G1 := NB0_202; exact z5_) hb); clear hb ho4; obtain ⟨Ao5, co5, eo5⟩ := Kd.R_slice HO205.out; subst eo5))
 repeat (go_quiet (first | ((with_reducible refine gate_dst (N := 2) rfl ?_); refine box_event r1_ (N := 2) r1_ (cs := #[.int .i64 0, .string ⟨#[]⟩, .int .i64 0, .string ⟨#[]⟩, .string ⟨#[]⟩, .int .i64 0]) (t := 43) r2_ ?_; intro gb202 hg w2 hbox hb; have BK202 := Ad.mk (hbox); have GW202 := Ad.mk ((z11_ : w.heap.size ≤ gb202)); have GE202 := Ad.mk ((Nat.le_trans HW0.out (z11_ : w.heap.size ≤ gb202) : w0.heap.size ≤ gb202)); have NB0_202 := Ad.mk ((by have G0 := HI0; exact z15_ : g ≠ gb202)); have NB202_0 := Ad.mk ((by have G0 := HI0; exact z16_ : gb202 ≠ g)); replace HK := Ad.mk (KeepBut.trans z9_ (KeepBut.of_below hb g none) (.inl rfl)); replace HB := Ad.mk (below_step (by have G0 := HI0; exact z10_) hb); replace HI0 := Ad.mk (IsS73.below (by have G0 := HI0; exact z8_) hb); clear hb hbox hg) | ((with_reducible refine gate_dst (N := 6) rfl ?_); refine Kd.R_lit Kd.string _ 9 r1_ (N := 6) r1_ (xs := ([(⟨#[94, 94]⟩ : ByteArray), (⟨#[58, 45]⟩ : ByteArray), (⟨#[33, 61]⟩ : ByteArray), (⟨#[61]⟩ : ByteArray), (⟨#[46]⟩ : ByteArray), (⟨#[44]⟩ : ByteArray), (⟨#[40]⟩ : ByteArray), (⟨#[41]⟩ : ByteArray), (⟨#[123]⟩ : ByteArray), (⟨#[125]⟩ : ByteArray)] : List ByteArray)) (inner := [.string ⟨#[94, 94]⟩, .string ⟨#[58, 45]⟩, .string ⟨#[33, 61]⟩, .string ⟨#[61]⟩, .string ⟨#[46]⟩, .string ⟨#[44]⟩, .string ⟨#[40]⟩, .string ⟨#[41]⟩, .string ⟨#[123]⟩, .string ⟨#[125]⟩]) (ok := fun _ => True) (okp := fun _ => True) r2_ ?hp (fun _ hk => hk) trivial (Below.refl _ _) (Nat.le_refl _) (by simp) ?_; (case hp => exact (Reps.one (show Kd.M Kd.string _ _ _ (⟨#[94, 94]⟩ : ByteArray) [.string ⟨#[94, 94]⟩] from rfl) (Reps.one (show Kd.M Kd.string _ _ _ (⟨#[58, 45]⟩ : ByteArray) [.string ⟨#[58, 45]⟩] from rfl) (Reps.one (show Kd.M Kd.string _ _ _ (⟨#[33, 61]⟩ : ByteArray) [.string ⟨#[33, 61]⟩] from rfl) (Reps.one (show Kd.M Kd.string _ _ _ (⟨#[61]⟩ : ByteArray) [.string ⟨#[61]⟩] from rfl) (Reps.one (show Kd.M Kd.string _ _ _ (⟨#[46]⟩ : ByteArray) [.string ⟨#[46]⟩] from rfl) (Reps.one (show Kd.M Kd.string _ _ _ (⟨#[44]⟩ : ByteArray) [.string ⟨#[44]⟩] from rfl) (Reps.one (show Kd.M Kd.string _ _ _ (⟨#[40]⟩ : ByteArray) [.string ⟨#[40]⟩] from rfl) (Reps.one (show Kd.M Kd.string _ _ _ (⟨#[41]⟩ : ByteArray) [.string ⟨#[41]⟩] from rfl) (Reps.one (show Kd.M Kd.string _ _ _ (⟨#[123]⟩ : ByteArray) [.string ⟨#[123]⟩] from rfl) (Reps.one (show Kd.M Kd.string _ _ _ (⟨#[125]⟩ : ByteArray) [.string ⟨#[125]⟩] from rfl) (Reps.none _ _)))))))))))); intro v204 w3 ho4 hb hg_ hnew_; clear hg_ hnew_; (first | rw [← Ny203.out] at ho4 | (simp only [Int.reduceToNat] at ho4; rw [← Ny203.out] at ho4)); have HO205 := Ad.mk (Kd.R_lower ho4 (keep_size (w := w) (g := g) (row := none) (by have G0 := GW202; exact z4_))); replace BK202 := Ad.mk (blk_below (g := gb202) (o := .cells #[.int .i64 0, .string ⟨#[]⟩, .int .i64 0, .string ⟨#[]⟩, .string ⟨#[]⟩, .int .i64 0] 43 (0, 0)) (bd_ BK202.out) hb); replace HK := Ad.mk (KeepBut.trans (by have G0 := GW202; exact z4_) (KeepBut.of_below hb g none) (.inl rfl)); replace HB := Ad.mk (below_step (by have G0 := HI0; have G1 := GE202; exact z6_) hb); replace HI0 := Ad.mk (IsS73.below (by have G0 := HI0; have G1 := NB0_202; exact z5_) hb); clear hb ho4; obtain ⟨Ao5, co5, eo5⟩ := Kd.R_slice HO205.out; subst eo5)); try go_wp2_with (first | ((with_reducible refine gate_dst (N := 2) rfl ?_); refine box_event r1_ (N := 2) r1_ (cs := #[.int .i64 0, .string ⟨#[]⟩, .int .i64 0, .string ⟨#[]⟩, .string ⟨#[]⟩, .int .i64 0]) (t := 43) r2_ ?_; intro gb202 hg w2 hbox hb; have BK202 := Ad.mk (hbox); have GW202 := Ad.mk ((z11_ : w.heap.size ≤ gb202)); have GE202 := Ad.mk ((Nat.le_trans HW0.out (z11_ : w.heap.size ≤ gb202) : w0.heap.size ≤ gb202)); have NB0_202 := Ad.mk ((by have G0 := HI0; exact z15_ : g ≠ gb202)); have NB202_0 := Ad.mk ((by have G0 := HI0; exact z16_ : gb202 ≠ g)); replace HK := Ad.mk (KeepBut.trans z9_ (KeepBut.of_below hb g none) (.inl rfl)); replace HB := Ad.mk (below_step (by have G0 := HI0; exact z10_) hb); replace HI0 := Ad.mk (IsS73.below (by have G0 := HI0; exact z8_) hb); clear hb hbox hg) | ((with_reducible refine gate_dst (N := 6) rfl ?_); refine Kd.R_lit Kd.string _ 9 r1_ (N := 6) r1_ (xs := ([(⟨#[94, 94]⟩ : ByteArray), (⟨#[58, 45]⟩ : ByteArray), (⟨#[33, 61]⟩ : ByteArray), (⟨#[61]⟩ : ByteArray), (⟨#[46]⟩ : ByteArray), (⟨#[44]⟩ : ByteArray), (⟨#[40]⟩ : ByteArray), (⟨#[41]⟩ : ByteArray), (⟨#[123]⟩ : ByteArray), (⟨#[125]⟩ : ByteArray)] : List ByteArray)) (inner := [.string ⟨#[94, 94]⟩, .string ⟨#[58, 45]⟩, .string ⟨#[33, 61]⟩, .string ⟨#[61]⟩, .string ⟨#[46]⟩, .string ⟨#[44]⟩, .string ⟨#[40]⟩, .string ⟨#[41]⟩, .string ⟨#[123]⟩, .string ⟨#[125]⟩]) (ok := fun _ => True) (okp := fun _ => True) r2_ ?hp (fun _ hk => hk) trivial (Below.refl _ _) (Nat.le_refl _) (by simp) ?_; (case hp => exact (Reps.one (show Kd.M Kd.string _ _ _ (⟨#[94, 94]⟩ : ByteArray) [.string ⟨#[94, 94]⟩] from rfl) (Reps.one (show Kd.M Kd.string _ _ _ (⟨#[58, 45]⟩ : ByteArray) [.string ⟨#[58, 45]⟩] from rfl) (Reps.one (show Kd.M Kd.string _ _ _ (⟨#[33, 61]⟩ : ByteArray) [.string ⟨#[33, 61]⟩] from rfl) (Reps.one (show Kd.M Kd.string _ _ _ (⟨#[61]⟩ : ByteArray) [.string ⟨#[61]⟩] from rfl) (Reps.one (show Kd.M Kd.string _ _ _ (⟨#[46]⟩ : ByteArray) [.string ⟨#[46]⟩] from rfl) (Reps.one (show Kd.M Kd.string _ _ _ (⟨#[44]⟩ : ByteArray) [.string ⟨#[44]⟩] from rfl) (Reps.one (show Kd.M Kd.string _ _ _ (⟨#[40]⟩ : ByteArray) [.string ⟨#[40]⟩] from rfl) (Reps.one (show Kd.M Kd.string _ _ _ (⟨#[41]⟩ : ByteArray) [.string ⟨#[41]⟩] from rfl) (Reps.one (show Kd.M Kd.string _ _ _ (⟨#[123]⟩ : ByteArray) [.string ⟨#[123]⟩] from rfl) (Reps.one (show Kd.M Kd.string _ _ _ (⟨#[125]⟩ : ByteArray) [.string ⟨#[125]⟩] from rfl) (Reps.none _ _)))))))))))); intro v204 w3 ho4 hb hg_ hnew_; clear hg_ hnew_; (first | rw [← Ny203.out] at ho4 | (simp only [Int.reduceToNat] at ho4; rw [← Ny203.out] at ho4)); have HO205 := Ad.mk (Kd.R_lower ho4 (keep_size (w := w) (g := g) (row := none) (by have G0 := GW202; exact z4_))); replace BK202 := Ad.mk (blk_below (g := gb202) (o := .cells #[.int .i64 0, .string ⟨#[]⟩, .int .i64 0, .string ⟨#[]⟩, .string ⟨#[]⟩, .int .i64 0] 43 (0, 0)) (bd_ BK202.out) hb); replace HK := Ad.mk (KeepBut.trans (by have G0 := GW202; exact z4_) (KeepBut.of_below hb g none) (.inl rfl)); replace HB := Ad.mk (below_step (by have G0 := HI0; have G1 := GE202; exact z6_) hb); replace HI0 := Ad.mk (IsS73.below (by have G0 := HI0; have G1 := NB0_202; exact z5_) hb); clear hb ho4; obtain ⟨Ao5, co5, eo5⟩ := Kd.R_slice HO205.out; subst eo5)))
 go_loopg [8] k (fun kq v8 w' => ∃ (x8_1 : Int) (x1001_1 : Int) (x203000_1 : Int) (x203001_1 : ByteArray) (x203002_1 : Int) (x203003_1 : ByteArray) (x203004_1 : ByteArray) (x203005_1 : Int), v8 = .int .i64 x8_1 ∧ Ad (ls_mark.l0 kq y203 (y203.length : Int) x8_1 s0_0 x1001_1 = some (r1, r2, r3, r4, r5, r6, r7, r8, r9)) ∧ Ad (kq ≤ k) ∧ Ad (Kd.R Kd.string 9 w' w.heap.size (fun _ => True) (.slice Ao5 y203.length co5) y203) ∧ Ad (w'.heap[gb202]? = some (.cells #[.int .i64 x203000_1, .string x203001_1, .int .i64 x203002_1, .string x203003_1, .string x203004_1, .int .i64 x203005_1] 43 (0, 0))) ∧ Ad (IsS73 w0 w' g s0_0 x1001_1) ∧ Ad (KeepBut w w' g none) ∧ Ad (Below w0.heap.size w0 w'))
 case atStart => exact ⟨(0), (s0_1), (0), ((⟨#[]⟩ : ByteArray)), (0), ((⟨#[]⟩ : ByteArray)), ((⟨#[]⟩ : ByteArray)), (0), e1_, H', ⟨Nat.le_refl _⟩, ⟨by have G0 := HO205; exact z3_⟩, ⟨by refine bd_ ?_; exact BK202.out⟩, ⟨by have G0 := HI0; have G1 := NB0_202; exact z5_⟩, ⟨by have G0 := GW202; exact z4_⟩, ⟨by have G0 := HI0; have G1 := GE202; exact z6_⟩⟩
 case round =>
  clear H'
  try clear p2
  obtain ⟨x8_1, x1001_1, x203000_1, x203001_1, x203002_1, x203003_1, x203004_1, x203005_1, rfl, HA, HK1, HO_6, BK202, HI0, HK, HB⟩ := hrel
  cases gk with
  | zero => exact absurd HA.out (by simp [ls_mark.l0])
  | succ k1 =>
   have H := HA.out
   clear HA
   simp only [ls_mark.l0] at H
   by_cases c6 : x8_1 < (y203.length : Int)
   ·rw [if_pos c6] at H
    have c6b0 := decide_eq_true c6
    clear c6
    by_cases c7 : 0 ≤ x8_1
    ·rw [if_pos c7] at H
     have c7b0 := decide_eq_true c7
     clear c7
     by_cases c8 : x8_1 < (y203.length : Int)
     ·rw [if_pos c8] at H
      have c8b0 := decide_eq_true c8
      clear c8
      by_cases c9 : 0 ≤ x1001_1
      ·rw [if_pos c9] at H
       have c9b0 := eq_true c9
       have c9b1 := decide_eq_true c9
       clear c9
       by_cases c10 : x1001_1 ≤ (s0_0.size : Int)
       ·rw [if_pos c10] at H
        have c10b0 := eq_true c10
        have c10b1 := decide_eq_true c10
        clear c10
        obtain ⟨t207, A11, H⟩ := bi_ H
        by_cases c12 : t207 = true
        ·subst c12
         rw [if_pos rfl] at H
         simp only [Option.some.injEq, Prod.mk.injEq] at H
         obtain ⟨rfl, rfl, rfl, rfl, rfl, rfl, rfl, rfl, rfl⟩ := H
         have p206 : 0 ≤ (x8_1 : Int) := of_decide_eq_true a1_
         have q206 : x8_1 < (y203.length : Int) := of_decide_eq_true a1_
         obtain ⟨ad206, e206, hx206_0⟩ := Kd.at_string (Kd.R_reads' HO_6.out).2.2 x8_1 p206 q206
         cases e206
         replace p206 := eq_true p206
         replace q206 := eq_true q206
         obtain ⟨HGz13, hgz13⟩ := HI0.out
         have hcz13_0 := cellS73_0 HGz13
         have hcz13_1 := cellS73_1 HGz13
         have hfz13_0 := blk_frozen HGz13 0
         have hfz13_1 := blk_frozen HGz13 1
         clear HGz13 hgz13
         go_wp2_with (first | (go_at_call 92; (with_reducible refine (strings_HasPrefix.calls (s0_0.extract (x1001_1 : Int).toNat s0_0.size) (rdOf ByteArray.empty y203 x8_1) true _ A11.out).mono ?_); rintro e w' ⟨rfl, ⟨nd, rfl⟩⟩; (try first | exact ⟨rfl, _, World.drewN_drewN _ _ _⟩ | exact ⟨rfl, _, Eq.trans (World.drewN_drewN _ _ _) (congrArg (World.drewN _) (Nat.add_assoc _ _ _))⟩); have hnb14 := NB202_0.out; have hnc14 := NB0_202.out; obtain ⟨⟨hcz15_0, hcz15_1, hcz15_2, hcz15_3, hcz15_4, hcz15_5⟩, hfz15_0, hfz15_1, hfz15_2, hfz15_3, hfz15_4, hfz15_5⟩ := c6_ BK202.out))
         repeat (go_quiet (first | (go_at_call 92; (with_reducible refine (strings_HasPrefix.calls (s0_0.extract (x1001_1 : Int).toNat s0_0.size) (rdOf ByteArray.empty y203 x8_1) true _ A11.out).mono ?_); rintro e w' ⟨rfl, ⟨nd, rfl⟩⟩; (try first | exact ⟨rfl, _, World.drewN_drewN _ _ _⟩ | exact ⟨rfl, _, Eq.trans (World.drewN_drewN _ _ _) (congrArg (World.drewN _) (Nat.add_assoc _ _ _))⟩); have hnb14 := NB202_0.out; have hnc14 := NB0_202.out; obtain ⟨⟨hcz15_0, hcz15_1, hcz15_2, hcz15_3, hcz15_4, hcz15_5⟩, hfz15_0, hfz15_1, hfz15_2, hfz15_3, hfz15_4, hfz15_5⟩ := c6_ BK202.out)); try go_wp2_with (first | (go_at_call 92; (with_reducible refine (strings_HasPrefix.calls (s0_0.extract (x1001_1 : Int).toNat s0_0.size) (rdOf ByteArray.empty y203 x8_1) true _ A11.out).mono ?_); rintro e w' ⟨rfl, ⟨nd, rfl⟩⟩; (try first | exact ⟨rfl, _, World.drewN_drewN _ _ _⟩ | exact ⟨rfl, _, Eq.trans (World.drewN_drewN _ _ _) (congrArg (World.drewN _) (Nat.add_assoc _ _ _))⟩); have hnb14 := NB202_0.out; have hnc14 := NB0_202.out; obtain ⟨⟨hcz15_0, hcz15_1, hcz15_2, hcz15_3, hcz15_4, hcz15_5⟩, hfz15_0, hfz15_1, hfz15_2, hfz15_3, hfz15_4, hfz15_5⟩ := c6_ BK202.out)))
         refine bodyPost_ret (results_ct rfl _ _ gb202 43 #[.int .i64 8, .string (rdOf ByteArray.empty y203 x8_1), .int .i64 0, .string ⟨#[]⟩, .string ⟨#[]⟩, .int .i64 0] (0, 0) _ rfl (by refine bd_ ?_; refine blk_put (cs := #[.int .i64 8, .string (rdOf ByteArray.empty y203 x8_1), .int .i64 0, .string ⟨#[]⟩, .string ⟨#[]⟩, .int .i64 x203005_1]) ?_ 5 _ rfl; refine bd_ ?_; refine blk_put (cs := #[.int .i64 8, .string (rdOf ByteArray.empty y203 x8_1), .int .i64 0, .string ⟨#[]⟩, .string x203004_1, .int .i64 x203005_1]) ?_ 4 _ rfl; refine bd_ ?_; refine blk_put (cs := #[.int .i64 8, .string (rdOf ByteArray.empty y203 x8_1), .int .i64 0, .string x203003_1, .string x203004_1, .int .i64 x203005_1]) ?_ 3 _ rfl; refine bd_ ?_; refine blk_put (cs := #[.int .i64 8, .string (rdOf ByteArray.empty y203 x8_1), .int .i64 x203002_1, .string x203003_1, .string x203004_1, .int .i64 x203005_1]) ?_ 2 _ rfl; refine bd_ ?_; refine blk_put (cs := #[.int .i64 8, .string x203001_1, .int .i64 x203002_1, .string x203003_1, .string x203004_1, .int .i64 x203005_1]) ?_ 1 _ rfl; refine bd_ ?_; refine blk_put (cs := #[.int .i64 x203000_1, .string x203001_1, .int .i64 x203002_1, .string x203003_1, .string x203004_1, .int .i64 x203005_1]) ?_ 0 _ rfl; refine bd_ ?_; refine blk_far ?_ NB202_0.out _; refine bd_ ?_; exact BK202.out) Tryz.underlying43 rfl k1_) rfl ?_
         exact ⟨e2_, by have G0 := HI0; have G1 := NB0_202; exact z5_, by have G0 := HI0; have G1 := GE202; exact z6_, by have G0 := GW202; exact z4_⟩
        replace c12 := Bool.eq_false_iff.mpr c12
        subst c12
        rw [if_neg (show ¬ (false = true) by decide)] at H
        have H' := Ad.mk H
        clear H
        have p206 : 0 ≤ (x8_1 : Int) := of_decide_eq_true a1_
        have q206 : x8_1 < (y203.length : Int) := of_decide_eq_true a1_
        obtain ⟨ad206, e206, hx206_0⟩ := Kd.at_string (Kd.R_reads' HO_6.out).2.2 x8_1 p206 q206
        cases e206
        replace p206 := eq_true p206
        replace q206 := eq_true q206
        obtain ⟨HGz16, hgz16⟩ := HI0.out
        have hcz16_0 := cellS73_0 HGz16
        have hcz16_1 := cellS73_1 HGz16
        have hfz16_0 := blk_frozen HGz16 0
        have hfz16_1 := blk_frozen HGz16 1
        clear HGz16 hgz16
        go_wp2_with (first | (go_at_call 92; (with_reducible refine (strings_HasPrefix.calls (s0_0.extract (x1001_1 : Int).toNat s0_0.size) (rdOf ByteArray.empty y203 x8_1) false _ A11.out).mono ?_); rintro e w' ⟨rfl, ⟨nd, rfl⟩⟩; (try first | exact ⟨rfl, _, World.drewN_drewN _ _ _⟩ | exact ⟨rfl, _, Eq.trans (World.drewN_drewN _ _ _) (congrArg (World.drewN _) (Nat.add_assoc _ _ _))⟩)))
        repeat (go_quiet (first | (go_at_call 92; (with_reducible refine (strings_HasPrefix.calls (s0_0.extract (x1001_1 : Int).toNat s0_0.size) (rdOf ByteArray.empty y203 x8_1) false _ A11.out).mono ?_); rintro e w' ⟨rfl, ⟨nd, rfl⟩⟩; (try first | exact ⟨rfl, _, World.drewN_drewN _ _ _⟩ | exact ⟨rfl, _, Eq.trans (World.drewN_drewN _ _ _) (congrArg (World.drewN _) (Nat.add_assoc _ _ _))⟩))); try go_wp2_with (first | (go_at_call 92; (with_reducible refine (strings_HasPrefix.calls (s0_0.extract (x1001_1 : Int).toNat s0_0.size) (rdOf ByteArray.empty y203 x8_1) false _ A11.out).mono ?_); rintro e w' ⟨rfl, ⟨nd, rfl⟩⟩; (try first | exact ⟨rfl, _, World.drewN_drewN _ _ _⟩ | exact ⟨rfl, _, Eq.trans (World.drewN_drewN _ _ _) (congrArg (World.drewN _) (Nat.add_assoc _ _ _))⟩))))
        go_roundg k1
        case measure => have := HK1.out; omega
        case rel => exact ⟨(wrap64 (x8_1 + 1)), (x1001_1), (x203000_1), (x203001_1), (x203002_1), (x203003_1), (x203004_1), (x203005_1), e1_, H', ⟨by have := HK1.out; omega⟩, ⟨by have G0 := HO_6; exact z3_⟩, ⟨by refine bd_ ?_; exact BK202.out⟩, ⟨by have G0 := HI0; have G1 := NB0_202; exact z5_⟩, ⟨by have G0 := GW202; exact z4_⟩, ⟨by have G0 := HI0; have G1 := GE202; exact z6_⟩⟩
       rw [if_neg c10] at H
       exact absurd H (by simp)
      rw [if_neg c9] at H
      exact absurd H (by simp)
     rw [if_neg c8] at H
     exact absurd H (by simp)
    rw [if_neg c7] at H
    exact absurd H (by simp)
   rw [if_neg c6] at H
   have c6b0 := decide_eq_false c6
   clear c6
   simp only [Option.some.injEq, Prod.mk.injEq] at H
   obtain ⟨rfl, rfl, rfl, rfl, rfl, rfl, rfl, rfl, rfl⟩ := H
   have hnb17 := NB202_0.out
   have hnc17 := NB0_202.out
   obtain ⟨⟨hcz18_0, hcz18_1, hcz18_2, hcz18_3, hcz18_4, hcz18_5⟩, hfz18_0, hfz18_1, hfz18_2, hfz18_3, hfz18_4, hfz18_5⟩ := c6_ BK202.out
   go_wp2
   repeat (go_quiet (fail); try go_wp2)
   refine bodyPost_ret (results_ct rfl _ _ gb202 43 #[.int .i64 0, .string ⟨#[]⟩, .int .i64 0, .string ⟨#[]⟩, .string ⟨#[]⟩, .int .i64 0] (0, 0) _ rfl (by refine bd_ ?_; refine blk_put (cs := #[.int .i64 0, .string ⟨#[]⟩, .int .i64 0, .string ⟨#[]⟩, .string ⟨#[]⟩, .int .i64 x203005_1]) ?_ 5 _ rfl; refine bd_ ?_; refine blk_put (cs := #[.int .i64 0, .string ⟨#[]⟩, .int .i64 0, .string ⟨#[]⟩, .string x203004_1, .int .i64 x203005_1]) ?_ 4 _ rfl; refine bd_ ?_; refine blk_put (cs := #[.int .i64 0, .string ⟨#[]⟩, .int .i64 0, .string x203003_1, .string x203004_1, .int .i64 x203005_1]) ?_ 3 _ rfl; refine bd_ ?_; refine blk_put (cs := #[.int .i64 0, .string ⟨#[]⟩, .int .i64 x203002_1, .string x203003_1, .string x203004_1, .int .i64 x203005_1]) ?_ 2 _ rfl; refine bd_ ?_; refine blk_put (cs := #[.int .i64 0, .string x203001_1, .int .i64 x203002_1, .string x203003_1, .string x203004_1, .int .i64 x203005_1]) ?_ 1 _ rfl; refine bd_ ?_; refine blk_put (cs := #[.int .i64 x203000_1, .string x203001_1, .int .i64 x203002_1, .string x203003_1, .string x203004_1, .int .i64 x203005_1]) ?_ 0 _ rfl; refine bd_ ?_; exact BK202.out) Tryz.underlying43 rfl k1_) rfl ?_
   exact ⟨e2_, by have G0 := HI0; have G1 := NB0_202; exact z5_, by have G0 := HI0; have G1 := GE202; exact z6_, by have G0 := GW202; exact z4_⟩
end Go.Proofs.YtpbphelaeleikaaGreatDoor.PLt

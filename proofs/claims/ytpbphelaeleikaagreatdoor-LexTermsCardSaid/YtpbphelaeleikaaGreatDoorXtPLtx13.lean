import Derived.Test.YtpbphelaeleikaaGreatDoorXtPLtx0
import Derived.Test.YtpbphelaeleikaaGreatDoorXtPLtx8
import Derived.Test.YtpbphelaeleikaaGreatDoorXtPLtx10
import Derived.Test.YtpbphelaeleikaaGreatDoorXtPLtx12
namespace Go.Proofs.YtpbphelaeleikaaGreatDoor.PLt
open Go.RowKit Go.Proofs.YtpbphelaeleikaaGreatDoorW.PrintWords Go.Proofs.YtpbphelaeleikaaGreatDoorW.PrintLast Go.Proofs.YtpbphelaeleikaaGreatDoorW.PrintMore
attribute [local go_sem] max2_int min2_int max_two min_two max_three min_three max_four min_four
set_option linter.unusedVariables false
set_option linter.unusedSimpArgs false
set_option maxHeartbeats 8000000
set_option maxRecDepth 100000
mutual
def g4_named.j0 : Nat → ByteArray → Int → Int → Bool → Int → ByteArray → Int → ByteArray → ByteArray → Int → Option (Int × ByteArray × Int × ByteArray × ByteArray × Int × Int)
 | 0, _, _, _, _, _, _, _, _, _, _ => none
 | k + 1, x0, x1, x8, x27, x278000, x278001, x278002, x278003, x278004, x278005 => if x27 = true then (some (x278000, x278001, x278002, x278003, x278004, x278005, (-1))) else ((g4_ch.f x0 x8).bind fun t280 => (if t280 = 58 then ((g4_ch.f x0 (wrap64 (x8 + 1))).bind fun t281 => (g4_named.j1 k x0 x1 x8 (t281 == 45) x278000 x278001 x278002 x278003 x278004 x278005)) else (g4_named.j1 k x0 x1 x8 true x278000 x278001 x278002 x278003 x278004 x278005)))
def g4_named.j1 : Nat → ByteArray → Int → Int → Bool → Int → ByteArray → Int → ByteArray → ByteArray → Int → Option (Int × ByteArray × Int × ByteArray × ByteArray × Int × Int)
 | 0, _, _, _, _, _, _, _, _, _, _ => none
 | k + 1, x0, x1, x8, x39, x278000, x278001, x278002, x278003, x278004, x278005 => if x39 = true then (if 0 ≤ x1 then (if x1 ≤ x8 then (if x8 ≤ (x0.size : Int) then (some (6, x0.extract (x1 : Int).toNat (x8 : Int).toNat, x278002, x278003, x278004, x278005, x8)) else (none)) else (none)) else (none)) else (g4_named.l0 k x0 x1 (wrap64 (x8 + 1)) (wrap64 (x8 + 1)) x278000 x278001 x278002 x278003 x278004 x278005)
def g4_named.l0 : Nat → ByteArray → Int → Int → Int → Int → ByteArray → Int → ByteArray → ByteArray → Int → Option (Int × ByteArray × Int × ByteArray × ByteArray × Int × Int)
 | 0, _, _, _, _, _, _, _, _, _, _ => none
 | k + 1, x0, x1, x8, x9, x278000, x278001, x278002, x278003, x278004, x278005 => if x8 < (x0.size : Int) then (if 0 ≤ x8 then ((g2_Letter.f (bt x0 x8)).bind fun t282 => (if t282 = true then (g4_named.l0 k x0 x1 (wrap64 (x8 + 1)) x9 x278000 x278001 x278002 x278003 x278004 x278005) else ((g2_Digit.f (bt x0 x8)).bind fun t283 => (if t283 = true then (g4_named.l0 k x0 x1 (wrap64 (x8 + 1)) x9 x278000 x278001 x278002 x278003 x278004 x278005) else (if (bt x0 x8) = 45 then (g4_named.l0 k x0 x1 (wrap64 (x8 + 1)) x9 x278000 x278001 x278002 x278003 x278004 x278005) else (if (bt x0 x8) = 95 then (g4_named.l0 k x0 x1 (wrap64 (x8 + 1)) x9 x278000 x278001 x278002 x278003 x278004 x278005) else (if x8 > (wrap64 (x9 + 64)) then (some (x278000, x278001, x278002, x278003, x278004, x278005, (-1))) else (if 0 ≤ x1 then (if x1 ≤ x8 then (if x8 ≤ (x0.size : Int) then (some (7, x0.extract (x1 : Int).toNat (x8 : Int).toNat, x278002, x278003, x278004, x278005, x8)) else (none)) else (none)) else (none))))))))) else (none)) else (if x8 > (wrap64 (x9 + 64)) then (some (x278000, x278001, x278002, x278003, x278004, x278005, (-1))) else (if 0 ≤ x1 then (if x1 ≤ x8 then (if x8 ≤ (x0.size : Int) then (some (7, x0.extract (x1 : Int).toNat (x8 : Int).toNat, x278002, x278003, x278004, x278005, x8)) else (none)) else (none)) else (none)))
end
def g4_named.f (k : Nat) (a0 : ByteArray) (a1 : Int) (a2_0 : Int) (a2_1 : ByteArray) (a2_2 : Int) (a2_3 : ByteArray) (a2_4 : ByteArray) (a2_5 : Int) : Option (Int × ByteArray × Int × ByteArray × ByteArray × Int × Int) := (g4_word.f k a0 a1).bind fun t279 => (if t279 = a1 then (if 0 ≤ a1 then (if a1 < (a0.size : Int) then (if (bt a0 a1) = 58 then (g4_named.j0 k a0 a1 t279 (decide (t279 > (wrap64 (a1 + 32)))) a2_0 a2_1 a2_2 a2_3 a2_4 a2_5) else (g4_named.j0 k a0 a1 t279 true a2_0 a2_1 a2_2 a2_3 a2_4 a2_5)) else (none)) else (none)) else (g4_named.j0 k a0 a1 t279 (decide (t279 > (wrap64 (a1 + 32)))) a2_0 a2_1 a2_2 a2_3 a2_4 a2_5))
def g4_named.T5 : Bool × List (List Nat × List Nat) := (true, [([], []), ([], []), ([], []), ([0, 1, 2], [0, 1, 2]), ([], []), ([4], [4]), ([0, 1, 2, 3, 4, 5], []), ([6, 3, 5, 0, 1, 2, 3, 4, 5], [3, 6])])
def g4_named.B5 : List Nat := [0, 0, 0, 7, 0, 16, 63, 127]
theorem g4_named.tab5 : rtab .any (opsOf Tryz.f30 5) = g4_named.T5 := by kernel_rfl
theorem g4_named.bits5 : waitsOk g4_named.T5.2 g4_named.B5 = true := by kernel_rfl
def g4_named.T13 : Bool × List (List Nat × List Nat) := (true, [([], []), ([], []), ([], []), ([0, 1, 2], [0, 1, 2]), ([], []), ([4], [4]), ([0, 1, 2, 3, 4, 5], []), ([6, 3, 5, 0, 1, 2, 3, 4, 5], [3, 6])])
def g4_named.B13 : List Nat := [0, 0, 0, 7, 0, 16, 63, 127]
theorem g4_named.tab13 : rtab .any (opsOf Tryz.f30 13) = g4_named.T13 := by kernel_rfl
theorem g4_named.bits13 : waitsOk g4_named.T13.2 g4_named.B13 = true := by kernel_rfl
theorem g4_named.calls (k : Nat) (a0 : ByteArray) (a1 : Int) (a2_0 : Int) (a2_1 : ByteArray) (a2_2 : Int) (a2_3 : ByteArray) (a2_4 : ByteArray) (a2_5 : Int) (r1 : Int) (r2 : ByteArray) (r3 : Int) (r4 : ByteArray) (r5 : ByteArray) (r6 : Int) (r7 : Int) (w : World) (h : g4_named.f k a0 a1 a2_0 a2_1 a2_2 a2_3 a2_4 a2_5 = some (r1, r2, r3, r4, r5, r6, r7)) :
  Calls Tryz.prog 30 #[.string a0, .int .i64 a1, .agg #[.int .i64 a2_0, .string a2_1, .int .i64 a2_2, .string a2_3, .string a2_4, .int .i64 a2_5]] w fun e w' => e = .returned (.tuple #[.agg #[.int .i64 r1, .string r2, .int .i64 r3, .string r4, .string r5, .int .i64 r6], .int .i64 r7]) ∧ Below w.heap.size w w' := by
 have hu43 := Tryz.underlying43
 have HB := Ad.mk (Below.refl w.heap.size w)
 have H := h
 clear h
 unfold g4_named.f at H
 obtain ⟨t279, A4, H⟩ := bi_ H
 have HC5 := Ad.mk H
 clear H
 go_enter Tryz.func30, Tryz.ntmps30
 go_upto_region 2 with (first | ((with_reducible refine gate_dst (N := 5) rfl ?_); refine box_event r1_ (N := 5) r1_ (cs := #[.int .i64 a2_0, .string a2_1, .int .i64 a2_2, .string a2_3, .string a2_4, .int .i64 a2_5]) (t := 43) r2_ ?_; intro gb277 hg w6 hbox hb; have BK277 := Ad.mk (hbox); have GW277 := Ad.mk (bs_ : w.heap.size ≤ gb277); have GE277 := Ad.mk (bs_ : w.heap.size ≤ gb277); replace HB := Ad.mk (below_step b1_ hb); clear hb hbox hg) | ((with_reducible refine gate_dst (N := 6) rfl ?_); refine box_event r1_ (N := 6) r1_ (cs := #[.int .i64 0, .string ⟨#[]⟩, .int .i64 0, .string ⟨#[]⟩, .string ⟨#[]⟩, .int .i64 0]) (t := 43) r2_ ?_; intro gb278 hg w7 hbox hb; have BK278 := Ad.mk (hbox); have GW278 := Ad.mk ((by rw [hg]; exact (below_size (by have GE := GE277; exact b2_)) : w.heap.size ≤ gb278)); have GE278 := Ad.mk ((by rw [hg]; exact (below_size (by have GE := GE277; exact b2_)) : w.heap.size ≤ gb278)); have NB277_278 := Ad.mk ((by rw [hg]; exact Nat.ne_of_lt (blk_lt (g := gb277) (o := .cells #[.int .i64 a2_0, .string a2_1, .int .i64 a2_2, .string a2_3, .string a2_4, .int .i64 a2_5] 43 (0, 0)) (bd_ BK277.out)) : gb277 ≠ gb278)); have NB278_277 := Ad.mk ((by rw [hg]; exact Nat.ne_of_gt (blk_lt (g := gb277) (o := .cells #[.int .i64 a2_0, .string a2_1, .int .i64 a2_2, .string a2_3, .string a2_4, .int .i64 a2_5] 43 (0, 0)) (bd_ BK277.out)) : gb278 ≠ gb277)); replace BK277 := Ad.mk (blk_below (g := gb277) (o := .cells #[.int .i64 a2_0, .string a2_1, .int .i64 a2_2, .string a2_3, .string a2_4, .int .i64 a2_5] 43 (0, 0)) (bd_ BK277.out) hb); replace HB := Ad.mk (below_step (by have GE := GE277; exact b2_) hb); clear hb hbox hg) | ((with_reducible refine gate_callee (f := 28) rfl ?_); refine goesL_ (some 12) rfl rfl Tryz.func28 k1_ rfl #[.string a0, .int .i64 a1] rfl g1_ ?_; (with_reducible refine (g4_word.calls k a0 a1 t279 _ A4.out).mono ?_); rintro e w' ⟨rfl, ⟨nd, rfl⟩⟩; refine ⟨_, rfl, ?_⟩))
 (try simp only [Act.put, List.setIfInBounds_toArray, List.set_cons_zero, List.set_cons_succ])
 go_cut [27] (fun v27 wc => ∃ (kq : Nat) (x27_4 : Bool), v27 = .bool x27_4 ∧ Ad (g4_named.j0 kq a0 a1 t279 x27_4 a2_0 a2_1 a2_2 a2_3 a2_4 a2_5 = some (r1, r2, r3, r4, r5, r6, r7)) ∧ Ad (kq ≤ k) ∧ Ad (wc.heap[gb277]? = some (.cells #[.int .i64 a2_0, .string a2_1, .int .i64 a2_2, .string a2_3, .string a2_4, .int .i64 a2_5] 43 (0, 0))) ∧ Ad (wc.heap[gb278]? = some (.cells #[.int .i64 0, .string ⟨#[]⟩, .int .i64 0, .string ⟨#[]⟩, .string ⟨#[]⟩, .int .i64 0] 43 (0, 0))) ∧ Ad (Below w.heap.size w wc))
 case first =>
  have H := HC5.out
  clear HC5
  by_cases c8 : t279 = a1
  ·rw [if_pos c8] at H
   have c8b0 := beq_iff_eq.mpr c8
   have c8b1 := bne_eq_false_iff_eq.mpr c8
   clear c8
   (first | rw [c8b0] | (simp only [i64_w, i32_w]; rw [c8b0]) | skip)
   by_cases c9 : 0 ≤ a1
   ·rw [if_pos c9] at H
    have c9b0 := decide_eq_true c9
    clear c9
    by_cases c10 : a1 < (a0.size : Int)
    ·rw [if_pos c10] at H
     have c10b0 := decide_eq_true c10
     clear c10
     by_cases c12 : (bt a0 a1) = 58
     ·rw [if_pos c12] at H
      have c12b0 := beq_iff_eq.mpr c12
      have c12b1 := bne_eq_false_iff_eq.mpr c12
      clear c12
      have H' := Ad.mk H
      clear H
      have p11 : 0 ≤ (a1 : Int) := of_decide_eq_true a1_
      have q11 : a1 < (a0.size : Int) := of_decide_eq_true a1_
      have hx11 := bt_at a0 a1
      replace p11 := eq_true p11
      replace q11 := eq_true q11
      go_wp2
      go_meet
      case rel => exact ⟨_, (decide (t279 > (wrap64 (a1 + 32)))), e1_, H', ⟨z12_⟩, ⟨by refine bd_ ?_; exact BK277.out⟩, ⟨by refine bd_ ?_; exact BK278.out⟩, ⟨by have G0 := GE277; have G1 := GE278; exact z2_⟩⟩
     rw [if_neg c12] at H
     have c12b0 := beq_eq_false_iff_ne.mpr c12
     have c12b1 := bne_iff_ne.mpr c12
     have H' := Ad.mk H
     clear H
     have p11 : 0 ≤ (a1 : Int) := of_decide_eq_true a1_
     have q11 : a1 < (a0.size : Int) := of_decide_eq_true a1_
     have hx11 := bt_at a0 a1
     replace p11 := eq_true p11
     replace q11 := eq_true q11
     go_wp2
     go_meet
     case rel => exact ⟨_, (true), e1_, H', ⟨z12_⟩, ⟨by refine bd_ ?_; exact BK277.out⟩, ⟨by refine bd_ ?_; exact BK278.out⟩, ⟨by have G0 := GE277; have G1 := GE278; exact z2_⟩⟩
    rw [if_neg c10] at H
    exact absurd H (by simp)
   rw [if_neg c9] at H
   exact absurd H (by simp)
  rw [if_neg c8] at H
  have c8b0 := beq_eq_false_iff_ne.mpr c8
  have c8b1 := bne_iff_ne.mpr c8
  (first | rw [c8b0] | (simp only [i64_w, i32_w]; rw [c8b0]) | skip)
  have H' := Ad.mk H
  clear H
  go_wp2
  go_meet
  case rel => exact ⟨_, (decide (t279 > (wrap64 (a1 + 32)))), e1_, H', ⟨z12_⟩, ⟨by refine bd_ ?_; exact BK277.out⟩, ⟨by refine bd_ ?_; exact BK278.out⟩, ⟨by have G0 := GE277; have G1 := GE278; exact z2_⟩⟩
 case rest =>
  clear HC5
  obtain ⟨kq, x27_4, rfl, HA, HJ4, BK277, BK278, HB⟩ := hcut
  cases kq with
  | zero => exact absurd HA.out (by simp [g4_named.j0])
  | succ kj4 =>
   have H := HA.out
   clear HA
   simp only [g4_named.j0] at H
   by_cases c13 : x27_4 = true
   ·subst c13
    rw [if_pos rfl] at H
    simp only [Option.some.injEq, Prod.mk.injEq] at H
    obtain ⟨rfl, rfl, rfl, rfl, rfl, rfl, rfl⟩ := H
    have hnb14 := NB277_278.out
    have hnc14 := NB278_277.out
    obtain ⟨⟨hcz15_0, hcz15_1, hcz15_2, hcz15_3, hcz15_4, hcz15_5⟩, hfz15_0, hfz15_1, hfz15_2, hfz15_3, hfz15_4, hfz15_5⟩ := c6_ BK277.out
    obtain ⟨⟨hcz16_0, hcz16_1, hcz16_2, hcz16_3, hcz16_4, hcz16_5⟩, hfz16_0, hfz16_1, hfz16_2, hfz16_3, hfz16_4, hfz16_5⟩ := c6_ BK278.out
    go_wp2
    refine bodyPost_ret (results_ct rfl _ _ gb278 43 #[.int .i64 a2_0, .string a2_1, .int .i64 a2_2, .string a2_3, .string a2_4, .int .i64 a2_5] (0, 0) _ rfl (by have G0 := BK278; exact z66_) Tryz.underlying43 rfl k1_) rfl ?_
    exact ⟨e2_, by have G0 := GE277; have G1 := GE278; exact z2_⟩
   replace c13 := Bool.eq_false_iff.mpr c13
   subst c13
   rw [if_neg (show ¬ (false = true) by decide)] at H
   have HC17 := Ad.mk H
   clear H
   go_upto_region 4 with (fail)
   go_cut [39] (fun v39 wc => ∃ (kq : Nat) (x39_16 : Bool), v39 = .bool x39_16 ∧ Ad (g4_named.j1 kq a0 a1 t279 x39_16 a2_0 a2_1 a2_2 a2_3 a2_4 a2_5 = some (r1, r2, r3, r4, r5, r6, r7)) ∧ Ad (kq ≤ kj4) ∧ Ad (wc.heap[gb277]? = some (.cells #[.int .i64 a2_0, .string a2_1, .int .i64 a2_2, .string a2_3, .string a2_4, .int .i64 a2_5] 43 (0, 0))) ∧ Ad (wc.heap[gb278]? = some (.cells #[.int .i64 0, .string ⟨#[]⟩, .int .i64 0, .string ⟨#[]⟩, .string ⟨#[]⟩, .int .i64 0] 43 (0, 0))) ∧ Ad (Below w.heap.size w wc))
   case first =>
    have H := HC17.out
    clear HC17
    obtain ⟨t280, A18, H⟩ := bi_ H
    by_cases c19 : t280 = 58
    ·rw [if_pos c19] at H
     have c19b0 := beq_iff_eq.mpr c19
     have c19b1 := bne_eq_false_iff_eq.mpr c19
     clear c19
     (first | rw [c19b0] | (simp only [i64_w, i32_w]; rw [c19b0]) | skip)
     obtain ⟨t281, A20, H⟩ := bi_ H
     have H' := Ad.mk H
     clear H
     go_wp2_with (first | ((with_reducible refine gate_callee (f := 27) rfl ?_); refine goesL_ (some 31) rfl rfl Tryz.func27 k1_ rfl #[.string a0, .int .i64 t279] rfl g1_ ?_; (with_reducible refine (g4_ch.calls a0 t279 t280 _ A18.out).mono ?_); rintro e w' ⟨rfl, ⟨nd, rfl⟩⟩; refine ⟨_, rfl, ?_⟩) | (go_at_call 27; (with_reducible refine (g4_ch.calls a0 (wrap64 (t279 + 1)) t281 _ A20.out).mono ?_); rintro e w' ⟨rfl, ⟨nd, rfl⟩⟩))
     go_meet
     case rel => exact ⟨_, ((t281 == 45)), e1_, H', ⟨z54_⟩, ⟨by refine bd_ ?_; exact BK277.out⟩, ⟨by refine bd_ ?_; exact BK278.out⟩, ⟨by have G0 := GE277; have G1 := GE278; exact z2_⟩⟩
    rw [if_neg c19] at H
    have c19b0 := beq_eq_false_iff_ne.mpr c19
    have c19b1 := bne_iff_ne.mpr c19
    (first | rw [c19b0] | (simp only [i64_w, i32_w]; rw [c19b0]) | skip)
    have H' := Ad.mk H
    clear H
    go_wp2_with (first | ((with_reducible refine gate_callee (f := 27) rfl ?_); refine goesL_ (some 31) rfl rfl Tryz.func27 k1_ rfl #[.string a0, .int .i64 t279] rfl g1_ ?_; (with_reducible refine (g4_ch.calls a0 t279 t280 _ A18.out).mono ?_); rintro e w' ⟨rfl, ⟨nd, rfl⟩⟩; refine ⟨_, rfl, ?_⟩))
    go_meet
    case rel => exact ⟨_, (true), e1_, H', ⟨z54_⟩, ⟨by refine bd_ ?_; exact BK277.out⟩, ⟨by refine bd_ ?_; exact BK278.out⟩, ⟨by have G0 := GE277; have G1 := GE278; exact z2_⟩⟩
   case rest =>
    clear HC17
    try clear c8
    try clear c8b0
    try clear c8b1
    try clear c9
    try clear c9b0
    try clear c10
    try clear c10b0
    try clear p11
    try clear q11
    try clear hx11
    try clear c12
    try clear c12b0
    try clear c12b1
    try clear c13
    try clear hcz15_0
    try clear hcz15_1
    try clear hcz15_2
    try clear hcz15_3
    try clear hcz15_4
    try clear hcz15_5
    try clear hcz16_0
    try clear hcz16_1
    try clear hcz16_2
    try clear hcz16_3
    try clear hcz16_4
    try clear hcz16_5
    try clear hfz15_0
    try clear hfz15_1
    try clear hfz15_2
    try clear hfz15_3
    try clear hfz15_4
    try clear hfz15_5
    try clear hfz16_0
    try clear hfz16_1
    try clear hfz16_2
    try clear hfz16_3
    try clear hfz16_4
    try clear hfz16_5
    try clear p11
    try clear q11
    obtain ⟨kq, x39_16, rfl, HA, HJ16, BK277, BK278, HB⟩ := hcut
    cases kq with
    | zero => exact absurd HA.out (by simp [g4_named.j1])
    | succ kj16 =>
     have H := HA.out
     clear HA
     simp only [g4_named.j1] at H
     by_cases c21 : x39_16 = true
     ·subst c21
      rw [if_pos rfl] at H
      by_cases c22 : 0 ≤ a1
      ·rw [if_pos c22] at H
       have c22b0 := eq_true c22
       have c22b1 := decide_eq_true c22
       clear c22
       by_cases c23 : a1 ≤ t279
       ·rw [if_pos c23] at H
        have c23b0 := eq_true c23
        have c23b1 := decide_eq_true c23
        clear c23
        by_cases c24 : t279 ≤ (a0.size : Int)
        ·rw [if_pos c24] at H
         have c24b0 := eq_true c24
         have c24b1 := decide_eq_true c24
         clear c24
         simp only [Option.some.injEq, Prod.mk.injEq] at H
         obtain ⟨rfl, rfl, rfl, rfl, rfl, rfl, rfl⟩ := H
         try go_wp2
         have n0_ := Ad.mk (blk_drew BK277.out)
         have n1_ := Ad.mk (blk_drew BK278.out)
         have n2_ := Ad.mk (below_drew1 HB.out)
         clear BK277
         clear BK278
         clear HB
         have BK277 := n0_
         have BK278 := n1_
         have HB := n2_
         clear n0_ n1_ n2_
         refine start_ (n := 8) (S := fun w' => True) (ds := []) #[false, false, false, false, false, false, false, false] k1_ rfl rfl trivial (fun hHeld => ?_); refine with_tabW g4_named.tab5 g4_named.bits5 (fun HT_ HW_ => ?_)
         generalize wc.drew = w25 at BK277 BK278 HB hHeld ⊢
         refine pure_ (i := 0) (N := some 40) #[true, false, false, false, false, false, false, false] rfl rfl (any_of HT_.out k1_) (fun _ _ _ h => h) (Or.inl ⟨by rfl, py_⟩) pa_ ?_
         refine pure_ (i := 1) (N := some 41) #[true, true, false, false, false, false, false, false] rfl rfl (any_of HT_.out k1_) (fun _ _ _ h => h) (Or.inl ⟨by rfl, py_⟩) pa_ ?_
         refine pure_ (i := 2) (N := some 42) #[true, true, true, false, false, false, false, false] rfl rfl (any_of HT_.out k1_) (fun _ _ _ h => h) (Or.inl ⟨by rfl, py_⟩) pa_ ?_
         refine pure_ (i := 3) (N := some 43) #[true, true, true, true, false, false, false, false] rfl rfl (any_of HT_.out k1_) (fun _ _ _ h => h) (Or.inl ⟨by rfl, py_⟩) pa_ ?_
         refine pure_ (i := 4) (N := some 44) #[true, true, true, true, true, false, false, false] rfl rfl (any_of HT_.out k1_) (fun _ _ _ h => h) (Or.inl ⟨by rfl, py_⟩) pa_ ?_
         refine one_ (i := 5) (N := none) #[true, true, true, true, true, true, false, false] rfl rfl (one_of HT_.out k1_) (by decide) (fun K hK => ?_)
         have hs26 : w25.cell? ⟨gb277, 0, none⟩ = some (.int .i64 a2_0) := (blk_cell BK277.out 0).trans rfl
         have hfs26 := blk_frozen BK277.out 0
         have hns26_1 := NB278_277.out
         have hms26_1 := NB277_278.out
         refine skip_ (w1 := ?_) (by rfl) rfl ?_ ?_
         rotate_left
         ·go_simp
          rfl
         refine hK.out _ _ trivial (fun hHeld => ?_)
         clear hK K
         refine pure_ (i := 6) (N := some 45) #[true, true, true, true, true, true, true, false] rfl rfl (any_of HT_.out k1_) (fun _ _ _ h => h) (Or.inl ⟨by rfl, py_⟩) pa_ ?_
         refine one_ (i := 7) (N := none) #[true, true, true, true, true, true, true, true] rfl rfl (one_of HT_.out k1_) (by decide) (fun K hK => ?_)
         have hs27 : w25.cell? ⟨gb277, 1, none⟩ = some (.string a2_1) := (blk_cell BK277.out 1).trans rfl
         have hfs27 := blk_frozen BK277.out 1
         have hns27_1 := NB278_277.out
         have hms27_1 := NB277_278.out
         refine skip_ (w1 := ?_) (by rfl) rfl ?_ ?_
         rotate_left
         ·go_simp
          rfl
         refine hK.out _ _ trivial (fun hHeld => ?_)
         clear hK K
         refine done_ (done_of HT_.out k1_) ?_
         have hnb28 := NB277_278.out
         have hnc28 := NB278_277.out
         obtain ⟨⟨hcz29_0, hcz29_1, hcz29_2, hcz29_3, hcz29_4, hcz29_5⟩, hfz29_0, hfz29_1, hfz29_2, hfz29_3, hfz29_4, hfz29_5⟩ := c6_ BK277.out
         obtain ⟨⟨hcz30_0, hcz30_1, hcz30_2, hcz30_3, hcz30_4, hcz30_5⟩, hfz30_0, hfz30_1, hfz30_2, hfz30_3, hfz30_4, hfz30_5⟩ := c6_ BK278.out
         try go_wp2
         refine bodyPost_ret (results_ct rfl _ _ gb278 43 #[.int .i64 6, .string (a0.extract (a1 : Int).toNat (t279 : Int).toNat), .int .i64 a2_2, .string a2_3, .string a2_4, .int .i64 a2_5] (0, 0) _ rfl (by refine bd_ ?_; refine blk_put (cs := #[.int .i64 6, .string (a0.extract (a1 : Int).toNat (t279 : Int).toNat), .int .i64 a2_2, .string a2_3, .string a2_4, .int .i64 0]) ?_ 5 _ rfl; refine bd_ ?_; refine blk_put (cs := #[.int .i64 6, .string (a0.extract (a1 : Int).toNat (t279 : Int).toNat), .int .i64 a2_2, .string a2_3, .string ⟨#[]⟩, .int .i64 0]) ?_ 4 _ rfl; refine bd_ ?_; refine blk_put (cs := #[.int .i64 6, .string (a0.extract (a1 : Int).toNat (t279 : Int).toNat), .int .i64 a2_2, .string ⟨#[]⟩, .string ⟨#[]⟩, .int .i64 0]) ?_ 3 _ rfl; refine bd_ ?_; refine blk_put (cs := #[.int .i64 6, .string (a0.extract (a1 : Int).toNat (t279 : Int).toNat), .int .i64 0, .string ⟨#[]⟩, .string ⟨#[]⟩, .int .i64 0]) ?_ 2 _ rfl; refine bd_ ?_; refine blk_put (cs := #[.int .i64 6, .string ⟨#[]⟩, .int .i64 0, .string ⟨#[]⟩, .string ⟨#[]⟩, .int .i64 0]) ?_ 1 _ rfl; refine bd_ ?_; refine blk_put (cs := #[.int .i64 0, .string ⟨#[]⟩, .int .i64 0, .string ⟨#[]⟩, .string ⟨#[]⟩, .int .i64 0]) ?_ 0 _ rfl; refine bd_ ?_; refine blk_far ?_ NB278_277.out _; refine bd_ ?_; refine blk_far ?_ NB278_277.out _; refine bd_ ?_; exact BK278.out) Tryz.underlying43 rfl k1_) rfl ?_
         exact ⟨e2_, by have G0 := GE277; have G1 := GE278; exact z2_⟩
        rw [if_neg c24] at H
        exact absurd H (by simp)
       rw [if_neg c23] at H
       exact absurd H (by simp)
      rw [if_neg c22] at H
      exact absurd H (by simp)
     replace c21 := Bool.eq_false_iff.mpr c21
     subst c21
     rw [if_neg (show ¬ (false = true) by decide)] at H
     have H' := Ad.mk H
     clear H
     go_wp2
     go_loopg [8] kj16 (fun kq v8 w' => ∃ (x8_3 : Int), v8 = .int .i64 x8_3 ∧ Ad (g4_named.l0 kq a0 a1 x8_3 (wrap64 (t279 + 1)) a2_0 a2_1 a2_2 a2_3 a2_4 a2_5 = some (r1, r2, r3, r4, r5, r6, r7)) ∧ Ad (kq ≤ kj16) ∧ Ad (w'.heap[gb277]? = some (.cells #[.int .i64 a2_0, .string a2_1, .int .i64 a2_2, .string a2_3, .string a2_4, .int .i64 a2_5] 43 (0, 0))) ∧ Ad (w'.heap[gb278]? = some (.cells #[.int .i64 0, .string ⟨#[]⟩, .int .i64 0, .string ⟨#[]⟩, .string ⟨#[]⟩, .int .i64 0] 43 (0, 0))) ∧ Ad (Below w.heap.size w w'))
     case atStart => exact ⟨(wrap64 (t279 + 1)), e1_, H', ⟨Nat.le_refl _⟩, ⟨by refine bd_ ?_; exact BK277.out⟩, ⟨by refine bd_ ?_; exact BK278.out⟩, ⟨by have G0 := GE277; have G1 := GE278; exact z2_⟩⟩
     case round =>
      clear H'
      try clear c8
      try clear c8b0
      try clear c8b1
      try clear c9
      try clear c9b0
      try clear c10
      try clear c10b0
      try clear p11
      try clear q11
      try clear hx11
      try clear c12
      try clear c12b0
      try clear c12b1
      try clear c13
      try clear hcz15_0
      try clear hcz15_1
      try clear hcz15_2
      try clear hcz15_3
      try clear hcz15_4
      try clear hcz15_5
      try clear hcz16_0
      try clear hcz16_1
      try clear hcz16_2
      try clear hcz16_3
      try clear hcz16_4
      try clear hcz16_5
      try clear hfz15_0
      try clear hfz15_1
      try clear hfz15_2
      try clear hfz15_3
      try clear hfz15_4
      try clear hfz15_5
      try clear hfz16_0
      try clear hfz16_1
      try clear hfz16_2
      try clear hfz16_3
      try clear hfz16_4
      try clear hfz16_5
      try clear p11
      try clear q11
      obtain ⟨x8_3, rfl, HA, HK3, BK277, BK278, HB⟩ := hrel
      cases gk with
      | zero => exact absurd HA.out (by simp [g4_named.l0])
      | succ k3 =>
       have H := HA.out
       clear HA
       simp only [g4_named.l0] at H
       by_cases c31 : x8_3 < (a0.size : Int)
       ·rw [if_pos c31] at H
        have c31b0 := decide_eq_true c31
        clear c31
        by_cases c32 : 0 ≤ x8_3
        ·rw [if_pos c32] at H
         have c32b0 := decide_eq_true c32
         clear c32
         obtain ⟨t282, A34, H⟩ := bi_ H
         by_cases c35 : t282 = true
         ·subst c35
          rw [if_pos rfl] at H
          have H' := Ad.mk H
          clear H
          have p33 : 0 ≤ (x8_3 : Int) := of_decide_eq_true a1_
          have q33 : x8_3 < (a0.size : Int) := of_decide_eq_true a1_
          have hx33 := bt_at a0 x8_3
          replace p33 := eq_true p33
          replace q33 := eq_true q33
          go_wp2_with (first | (go_at_call 44; (with_reducible refine (g2_Letter.calls (bt a0 x8_3) true _ A34.out).mono ?_); rintro e w' ⟨rfl, ⟨nd, rfl⟩⟩))
          go_roundg k3
          case measure => have := HJ4.out; have := HJ16.out; have := HK3.out; omega
          case rel => exact ⟨(wrap64 (x8_3 + 1)), e1_, H', ⟨z55_⟩, ⟨by refine bd_ ?_; exact BK277.out⟩, ⟨by refine bd_ ?_; exact BK278.out⟩, ⟨by have G0 := GE277; have G1 := GE278; exact z2_⟩⟩
         replace c35 := Bool.eq_false_iff.mpr c35
         subst c35
         rw [if_neg (show ¬ (false = true) by decide)] at H
         obtain ⟨t283, A37, H⟩ := bi_ H
         by_cases c38 : t283 = true
         ·subst c38
          rw [if_pos rfl] at H
          have H' := Ad.mk H
          clear H
          have p33 : 0 ≤ (x8_3 : Int) := of_decide_eq_true a1_
          have q33 : x8_3 < (a0.size : Int) := of_decide_eq_true a1_
          have hx33 := bt_at a0 x8_3
          replace p33 := eq_true p33
          replace q33 := eq_true q33
          go_wp2_with (first | (go_at_call 44; (with_reducible refine (g2_Letter.calls (bt a0 x8_3) false _ A34.out).mono ?_); rintro e w' ⟨rfl, ⟨nd, rfl⟩⟩; have p36 : 0 ≤ (x8_3 : Int) := of_decide_eq_true a1_; have q36 : x8_3 < (a0.size : Int) := of_decide_eq_true a1_; have hx36 := bt_at a0 x8_3; replace p36 := eq_true p36; replace q36 := eq_true q36) | (go_at_call 29; (with_reducible refine (g2_Digit.calls (bt a0 x8_3) true _ A37.out).mono ?_); rintro e w' ⟨rfl, ⟨nd, rfl⟩⟩))
          go_roundg k3
          case measure => have := HJ4.out; have := HJ16.out; have := HK3.out; omega
          case rel => exact ⟨(wrap64 (x8_3 + 1)), e1_, H', ⟨z55_⟩, ⟨by refine bd_ ?_; exact BK277.out⟩, ⟨by refine bd_ ?_; exact BK278.out⟩, ⟨by have G0 := GE277; have G1 := GE278; exact z2_⟩⟩
         replace c38 := Bool.eq_false_iff.mpr c38
         subst c38
         rw [if_neg (show ¬ (false = true) by decide)] at H
         by_cases c40 : (bt a0 x8_3) = 45
         ·rw [if_pos c40] at H
          have c40b0 := beq_iff_eq.mpr c40
          have c40b1 := bne_eq_false_iff_eq.mpr c40
          clear c40
          have H' := Ad.mk H
          clear H
          have p33 : 0 ≤ (x8_3 : Int) := of_decide_eq_true a1_
          have q33 : x8_3 < (a0.size : Int) := of_decide_eq_true a1_
          have hx33 := bt_at a0 x8_3
          replace p33 := eq_true p33
          replace q33 := eq_true q33
          go_wp2_with (first | (go_at_call 44; (with_reducible refine (g2_Letter.calls (bt a0 x8_3) false _ A34.out).mono ?_); rintro e w' ⟨rfl, ⟨nd, rfl⟩⟩; have p36 : 0 ≤ (x8_3 : Int) := of_decide_eq_true a1_; have q36 : x8_3 < (a0.size : Int) := of_decide_eq_true a1_; have hx36 := bt_at a0 x8_3; replace p36 := eq_true p36; replace q36 := eq_true q36) | (go_at_call 29; (with_reducible refine (g2_Digit.calls (bt a0 x8_3) false _ A37.out).mono ?_); rintro e w' ⟨rfl, ⟨nd, rfl⟩⟩; have p39 : 0 ≤ (x8_3 : Int) := of_decide_eq_true a1_; have q39 : x8_3 < (a0.size : Int) := of_decide_eq_true a1_; have hx39 := bt_at a0 x8_3; replace p39 := eq_true p39; replace q39 := eq_true q39))
          go_roundg k3
          case measure => have := HJ4.out; have := HJ16.out; have := HK3.out; omega
          case rel => exact ⟨(wrap64 (x8_3 + 1)), e1_, H', ⟨z55_⟩, ⟨by refine bd_ ?_; exact BK277.out⟩, ⟨by refine bd_ ?_; exact BK278.out⟩, ⟨by have G0 := GE277; have G1 := GE278; exact z2_⟩⟩
         rw [if_neg c40] at H
         have c40b0 := beq_eq_false_iff_ne.mpr c40
         have c40b1 := bne_iff_ne.mpr c40
         by_cases c42 : (bt a0 x8_3) = 95
         ·rw [if_pos c42] at H
          have c42b0 := beq_iff_eq.mpr c42
          have c42b1 := bne_eq_false_iff_eq.mpr c42
          clear c42
          have H' := Ad.mk H
          clear H
          have p33 : 0 ≤ (x8_3 : Int) := of_decide_eq_true a1_
          have q33 : x8_3 < (a0.size : Int) := of_decide_eq_true a1_
          have hx33 := bt_at a0 x8_3
          replace p33 := eq_true p33
          replace q33 := eq_true q33
          go_wp2_with (first | (go_at_call 44; (with_reducible refine (g2_Letter.calls (bt a0 x8_3) false _ A34.out).mono ?_); rintro e w' ⟨rfl, ⟨nd, rfl⟩⟩; have p36 : 0 ≤ (x8_3 : Int) := of_decide_eq_true a1_; have q36 : x8_3 < (a0.size : Int) := of_decide_eq_true a1_; have hx36 := bt_at a0 x8_3; replace p36 := eq_true p36; replace q36 := eq_true q36) | (go_at_call 29; (with_reducible refine (g2_Digit.calls (bt a0 x8_3) false _ A37.out).mono ?_); rintro e w' ⟨rfl, ⟨nd, rfl⟩⟩; have p39 : 0 ≤ (x8_3 : Int) := of_decide_eq_true a1_; have q39 : x8_3 < (a0.size : Int) := of_decide_eq_true a1_; have hx39 := bt_at a0 x8_3; replace p39 := eq_true p39; replace q39 := eq_true q39; have p41 : 0 ≤ (x8_3 : Int) := of_decide_eq_true a1_; have q41 : x8_3 < (a0.size : Int) := of_decide_eq_true a1_; have hx41 := bt_at a0 x8_3; replace p41 := eq_true p41; replace q41 := eq_true q41))
          go_roundg k3
          case measure => have := HJ4.out; have := HJ16.out; have := HK3.out; omega
          case rel => exact ⟨(wrap64 (x8_3 + 1)), e1_, H', ⟨z55_⟩, ⟨by refine bd_ ?_; exact BK277.out⟩, ⟨by refine bd_ ?_; exact BK278.out⟩, ⟨by have G0 := GE277; have G1 := GE278; exact z2_⟩⟩
         rw [if_neg c42] at H
         have c42b0 := beq_eq_false_iff_ne.mpr c42
         have c42b1 := bne_iff_ne.mpr c42
         by_cases c43 : x8_3 > (wrap64 ((wrap64 (t279 + 1)) + 64))
         ·rw [if_pos c43] at H
          have c43b0 : decide ((wrap64 ((wrap64 (t279 + 1)) + 64)) < x8_3) = true := decide_eq_true c43
          clear c43
          simp only [Option.some.injEq, Prod.mk.injEq] at H
          obtain ⟨rfl, rfl, rfl, rfl, rfl, rfl, rfl⟩ := H
          have p33 : 0 ≤ (x8_3 : Int) := of_decide_eq_true a1_
          have q33 : x8_3 < (a0.size : Int) := of_decide_eq_true a1_
          have hx33 := bt_at a0 x8_3
          replace p33 := eq_true p33
          replace q33 := eq_true q33
          go_wp2_with (first | (go_at_call 44; (with_reducible refine (g2_Letter.calls (bt a0 x8_3) false _ A34.out).mono ?_); rintro e w' ⟨rfl, ⟨nd, rfl⟩⟩; (try (rw [drewN_self wr]; generalize hq_ : World.drewN wr _ = wr; have n0_ : Ad (wr.heap[gb277]? = some (.cells #[.int .i64 a2_0, .string a2_1, .int .i64 a2_2, .string a2_3, .string a2_4, .int .i64 a2_5] 43 (0, 0))) := ⟨by rw [← hq_]; exact (bd_ BK277.out)⟩; have n1_ : Ad (wr.heap[gb278]? = some (.cells #[.int .i64 0, .string ⟨#[]⟩, .int .i64 0, .string ⟨#[]⟩, .string ⟨#[]⟩, .int .i64 0] 43 (0, 0))) := ⟨by rw [← hq_]; exact (bd_ BK278.out)⟩; have n2_ : Ad (Below w.heap.size w wr) := ⟨by have G0 := GE277; have G1 := GE278; exact z28_⟩; clear BK277 BK278 HB hq_; have BK277 := n0_; have BK278 := n1_; have HB := n2_; clear n0_ n1_ n2_)); have p36 : 0 ≤ (x8_3 : Int) := of_decide_eq_true a1_; have q36 : x8_3 < (a0.size : Int) := of_decide_eq_true a1_; have hx36 := bt_at a0 x8_3; replace p36 := eq_true p36; replace q36 := eq_true q36) | (go_at_call 29; (with_reducible refine (g2_Digit.calls (bt a0 x8_3) false _ A37.out).mono ?_); rintro e w' ⟨rfl, ⟨nd, rfl⟩⟩; (try (rw [drewN_self wr]; generalize hq_ : World.drewN wr _ = wr; have n0_ : Ad (wr.heap[gb277]? = some (.cells #[.int .i64 a2_0, .string a2_1, .int .i64 a2_2, .string a2_3, .string a2_4, .int .i64 a2_5] 43 (0, 0))) := ⟨by rw [← hq_]; exact (bd_ BK277.out)⟩; have n1_ : Ad (wr.heap[gb278]? = some (.cells #[.int .i64 0, .string ⟨#[]⟩, .int .i64 0, .string ⟨#[]⟩, .string ⟨#[]⟩, .int .i64 0] 43 (0, 0))) := ⟨by rw [← hq_]; exact (bd_ BK278.out)⟩; have n2_ : Ad (Below w.heap.size w wr) := ⟨by have G0 := GE277; have G1 := GE278; exact z28_⟩; clear BK277 BK278 HB hq_; have BK277 := n0_; have BK278 := n1_; have HB := n2_; clear n0_ n1_ n2_)); have p39 : 0 ≤ (x8_3 : Int) := of_decide_eq_true a1_; have q39 : x8_3 < (a0.size : Int) := of_decide_eq_true a1_; have hx39 := bt_at a0 x8_3; replace p39 := eq_true p39; replace q39 := eq_true q39; have p41 : 0 ≤ (x8_3 : Int) := of_decide_eq_true a1_; have q41 : x8_3 < (a0.size : Int) := of_decide_eq_true a1_; have hx41 := bt_at a0 x8_3; replace p41 := eq_true p41; replace q41 := eq_true q41; have hnb44 := NB277_278.out; have hnc44 := NB278_277.out; obtain ⟨⟨hcz45_0, hcz45_1, hcz45_2, hcz45_3, hcz45_4, hcz45_5⟩, hfz45_0, hfz45_1, hfz45_2, hfz45_3, hfz45_4, hfz45_5⟩ := c6_ BK277.out; obtain ⟨⟨hcz46_0, hcz46_1, hcz46_2, hcz46_3, hcz46_4, hcz46_5⟩, hfz46_0, hfz46_1, hfz46_2, hfz46_3, hfz46_4, hfz46_5⟩ := c6_ BK278.out))
          refine bodyPost_ret (results_ct rfl _ _ gb278 43 #[.int .i64 a2_0, .string a2_1, .int .i64 a2_2, .string a2_3, .string a2_4, .int .i64 a2_5] (0, 0) _ rfl (by have G0 := BK278; exact z66_) Tryz.underlying43 rfl k1_) rfl ?_
          exact ⟨e2_, by have G0 := GE277; have G1 := GE278; exact z2_⟩
         rw [if_neg c43] at H
         have c43b0 : decide ((wrap64 ((wrap64 (t279 + 1)) + 64)) < x8_3) = false := decide_eq_false c43
         clear c43
         by_cases c47 : 0 ≤ a1
         ·rw [if_pos c47] at H
          have c47b0 := eq_true c47
          have c47b1 := decide_eq_true c47
          clear c47
          by_cases c48 : a1 ≤ x8_3
          ·rw [if_pos c48] at H
           have c48b0 := eq_true c48
           have c48b1 := decide_eq_true c48
           clear c48
           by_cases c49 : x8_3 ≤ (a0.size : Int)
           ·rw [if_pos c49] at H
            have c49b0 := eq_true c49
            have c49b1 := decide_eq_true c49
            clear c49
            simp only [Option.some.injEq, Prod.mk.injEq] at H
            obtain ⟨rfl, rfl, rfl, rfl, rfl, rfl, rfl⟩ := H
            have p33 : 0 ≤ (x8_3 : Int) := of_decide_eq_true a1_
            have q33 : x8_3 < (a0.size : Int) := of_decide_eq_true a1_
            have hx33 := bt_at a0 x8_3
            replace p33 := eq_true p33
            replace q33 := eq_true q33
            try go_wp2_with (first | (go_at_call 44; (with_reducible refine (g2_Letter.calls (bt a0 x8_3) false _ A34.out).mono ?_); rintro e w' ⟨rfl, ⟨nd, rfl⟩⟩; (try (rw [drewN_self wr]; generalize hq_ : World.drewN wr _ = wr; have n0_ : Ad (wr.heap[gb277]? = some (.cells #[.int .i64 a2_0, .string a2_1, .int .i64 a2_2, .string a2_3, .string a2_4, .int .i64 a2_5] 43 (0, 0))) := ⟨by rw [← hq_]; exact (bd_ BK277.out)⟩; have n1_ : Ad (wr.heap[gb278]? = some (.cells #[.int .i64 0, .string ⟨#[]⟩, .int .i64 0, .string ⟨#[]⟩, .string ⟨#[]⟩, .int .i64 0] 43 (0, 0))) := ⟨by rw [← hq_]; exact (bd_ BK278.out)⟩; have n2_ : Ad (Below w.heap.size w wr) := ⟨by have G0 := GE277; have G1 := GE278; exact z28_⟩; clear BK277 BK278 HB hq_; have BK277 := n0_; have BK278 := n1_; have HB := n2_; clear n0_ n1_ n2_)); have p36 : 0 ≤ (x8_3 : Int) := of_decide_eq_true a1_; have q36 : x8_3 < (a0.size : Int) := of_decide_eq_true a1_; have hx36 := bt_at a0 x8_3; replace p36 := eq_true p36; replace q36 := eq_true q36) | (go_at_call 29; (with_reducible refine (g2_Digit.calls (bt a0 x8_3) false _ A37.out).mono ?_); rintro e w' ⟨rfl, ⟨nd, rfl⟩⟩; (try (rw [drewN_self wr]; generalize hq_ : World.drewN wr _ = wr; have n0_ : Ad (wr.heap[gb277]? = some (.cells #[.int .i64 a2_0, .string a2_1, .int .i64 a2_2, .string a2_3, .string a2_4, .int .i64 a2_5] 43 (0, 0))) := ⟨by rw [← hq_]; exact (bd_ BK277.out)⟩; have n1_ : Ad (wr.heap[gb278]? = some (.cells #[.int .i64 0, .string ⟨#[]⟩, .int .i64 0, .string ⟨#[]⟩, .string ⟨#[]⟩, .int .i64 0] 43 (0, 0))) := ⟨by rw [← hq_]; exact (bd_ BK278.out)⟩; have n2_ : Ad (Below w.heap.size w wr) := ⟨by have G0 := GE277; have G1 := GE278; exact z28_⟩; clear BK277 BK278 HB hq_; have BK277 := n0_; have BK278 := n1_; have HB := n2_; clear n0_ n1_ n2_)); have p39 : 0 ≤ (x8_3 : Int) := of_decide_eq_true a1_; have q39 : x8_3 < (a0.size : Int) := of_decide_eq_true a1_; have hx39 := bt_at a0 x8_3; replace p39 := eq_true p39; replace q39 := eq_true q39; have p41 : 0 ≤ (x8_3 : Int) := of_decide_eq_true a1_; have q41 : x8_3 < (a0.size : Int) := of_decide_eq_true a1_; have hx41 := bt_at a0 x8_3; replace p41 := eq_true p41; replace q41 := eq_true q41))
            have n0_ := Ad.mk (blk_drew BK277.out)
            have n1_ := Ad.mk (blk_drew BK278.out)
            have n2_ := Ad.mk (below_drew1 HB.out)
            clear BK277
            clear BK278
            clear HB
            have BK277 := n0_
            have BK278 := n1_
            have HB := n2_
            clear n0_ n1_ n2_
            refine start_ (n := 8) (S := fun w' => True) (ds := []) #[false, false, false, false, false, false, false, false] k1_ rfl rfl trivial (fun hHeld => ?_); refine with_tabW g4_named.tab13 g4_named.bits13 (fun HT_ HW_ => ?_)
            generalize wr.drew = w50 at BK277 BK278 HB hHeld ⊢
            refine pure_ (i := 0) (N := some 86) #[true, false, false, false, false, false, false, false] rfl rfl (any_of HT_.out k1_) (fun _ _ _ h => h) (Or.inl ⟨by rfl, py_⟩) pa_ ?_
            refine pure_ (i := 1) (N := some 87) #[true, true, false, false, false, false, false, false] rfl rfl (any_of HT_.out k1_) (fun _ _ _ h => h) (Or.inl ⟨by rfl, py_⟩) pa_ ?_
            refine pure_ (i := 2) (N := some 88) #[true, true, true, false, false, false, false, false] rfl rfl (any_of HT_.out k1_) (fun _ _ _ h => h) (Or.inl ⟨by rfl, py_⟩) pa_ ?_
            refine pure_ (i := 3) (N := some 89) #[true, true, true, true, false, false, false, false] rfl rfl (any_of HT_.out k1_) (fun _ _ _ h => h) (Or.inl ⟨by rfl, py_⟩) pa_ ?_
            refine pure_ (i := 4) (N := some 90) #[true, true, true, true, true, false, false, false] rfl rfl (any_of HT_.out k1_) (fun _ _ _ h => h) (Or.inl ⟨by rfl, py_⟩) pa_ ?_
            refine one_ (i := 5) (N := none) #[true, true, true, true, true, true, false, false] rfl rfl (one_of HT_.out k1_) (by decide) (fun K hK => ?_)
            have hs51 : w50.cell? ⟨gb277, 0, none⟩ = some (.int .i64 a2_0) := (blk_cell BK277.out 0).trans rfl
            have hfs51 := blk_frozen BK277.out 0
            have hns51_1 := NB278_277.out
            have hms51_1 := NB277_278.out
            refine skip_ (w1 := ?_) (by rfl) rfl ?_ ?_
            rotate_left
            ·go_simp
             rfl
            refine hK.out _ _ trivial (fun hHeld => ?_)
            clear hK K
            refine pure_ (i := 6) (N := some 91) #[true, true, true, true, true, true, true, false] rfl rfl (any_of HT_.out k1_) (fun _ _ _ h => h) (Or.inl ⟨by rfl, py_⟩) pa_ ?_
            refine one_ (i := 7) (N := none) #[true, true, true, true, true, true, true, true] rfl rfl (one_of HT_.out k1_) (by decide) (fun K hK => ?_)
            have hs52 : w50.cell? ⟨gb277, 1, none⟩ = some (.string a2_1) := (blk_cell BK277.out 1).trans rfl
            have hfs52 := blk_frozen BK277.out 1
            have hns52_1 := NB278_277.out
            have hms52_1 := NB277_278.out
            refine skip_ (w1 := ?_) (by rfl) rfl ?_ ?_
            rotate_left
            ·go_simp
             rfl
            refine hK.out _ _ trivial (fun hHeld => ?_)
            clear hK K
            refine done_ (done_of HT_.out k1_) ?_
            have hnb53 := NB277_278.out
            have hnc53 := NB278_277.out
            obtain ⟨⟨hcz54_0, hcz54_1, hcz54_2, hcz54_3, hcz54_4, hcz54_5⟩, hfz54_0, hfz54_1, hfz54_2, hfz54_3, hfz54_4, hfz54_5⟩ := c6_ BK277.out
            obtain ⟨⟨hcz55_0, hcz55_1, hcz55_2, hcz55_3, hcz55_4, hcz55_5⟩, hfz55_0, hfz55_1, hfz55_2, hfz55_3, hfz55_4, hfz55_5⟩ := c6_ BK278.out
            try go_wp2
            refine bodyPost_ret (results_ct rfl _ _ gb278 43 #[.int .i64 7, .string (a0.extract (a1 : Int).toNat (x8_3 : Int).toNat), .int .i64 a2_2, .string a2_3, .string a2_4, .int .i64 a2_5] (0, 0) _ rfl (by have G0 := NB278_277; have G1 := BK278; exact z88_) Tryz.underlying43 rfl k1_) rfl ?_
            exact ⟨e2_, by have G0 := GE277; have G1 := GE278; exact z2_⟩
           rw [if_neg c49] at H
           exact absurd H (by simp)
          rw [if_neg c48] at H
          exact absurd H (by simp)
         rw [if_neg c47] at H
         exact absurd H (by simp)
        rw [if_neg c32] at H
        exact absurd H (by simp)
       rw [if_neg c31] at H
       have c31b0 := decide_eq_false c31
       clear c31
       by_cases c56 : x8_3 > (wrap64 ((wrap64 (t279 + 1)) + 64))
       ·rw [if_pos c56] at H
        have c56b0 : decide ((wrap64 ((wrap64 (t279 + 1)) + 64)) < x8_3) = true := decide_eq_true c56
        clear c56
        simp only [Option.some.injEq, Prod.mk.injEq] at H
        obtain ⟨rfl, rfl, rfl, rfl, rfl, rfl, rfl⟩ := H
        have hnb57 := NB277_278.out
        have hnc57 := NB278_277.out
        obtain ⟨⟨hcz58_0, hcz58_1, hcz58_2, hcz58_3, hcz58_4, hcz58_5⟩, hfz58_0, hfz58_1, hfz58_2, hfz58_3, hfz58_4, hfz58_5⟩ := c6_ BK277.out
        obtain ⟨⟨hcz59_0, hcz59_1, hcz59_2, hcz59_3, hcz59_4, hcz59_5⟩, hfz59_0, hfz59_1, hfz59_2, hfz59_3, hfz59_4, hfz59_5⟩ := c6_ BK278.out
        go_wp2
        refine bodyPost_ret (results_ct rfl _ _ gb278 43 #[.int .i64 a2_0, .string a2_1, .int .i64 a2_2, .string a2_3, .string a2_4, .int .i64 a2_5] (0, 0) _ rfl (by have G0 := BK278; exact z66_) Tryz.underlying43 rfl k1_) rfl ?_
        exact ⟨e2_, by have G0 := GE277; have G1 := GE278; exact z2_⟩
       rw [if_neg c56] at H
       have c56b0 : decide ((wrap64 ((wrap64 (t279 + 1)) + 64)) < x8_3) = false := decide_eq_false c56
       clear c56
       by_cases c60 : 0 ≤ a1
       ·rw [if_pos c60] at H
        have c60b0 := eq_true c60
        have c60b1 := decide_eq_true c60
        clear c60
        by_cases c61 : a1 ≤ x8_3
        ·rw [if_pos c61] at H
         have c61b0 := eq_true c61
         have c61b1 := decide_eq_true c61
         clear c61
         by_cases c62 : x8_3 ≤ (a0.size : Int)
         ·rw [if_pos c62] at H
          have c62b0 := eq_true c62
          have c62b1 := decide_eq_true c62
          clear c62
          simp only [Option.some.injEq, Prod.mk.injEq] at H
          obtain ⟨rfl, rfl, rfl, rfl, rfl, rfl, rfl⟩ := H
          try go_wp2
          have n0_ := Ad.mk (blk_drew BK277.out)
          have n1_ := Ad.mk (blk_drew BK278.out)
          have n2_ := Ad.mk (below_drew1 HB.out)
          clear BK277
          clear BK278
          clear HB
          have BK277 := n0_
          have BK278 := n1_
          have HB := n2_
          clear n0_ n1_ n2_
          refine start_ (n := 8) (S := fun w' => True) (ds := []) #[false, false, false, false, false, false, false, false] k1_ rfl rfl trivial (fun hHeld => ?_); refine with_tabW g4_named.tab13 g4_named.bits13 (fun HT_ HW_ => ?_)
          generalize wr.drew = w63 at BK277 BK278 HB hHeld ⊢
          refine pure_ (i := 0) (N := some 86) #[true, false, false, false, false, false, false, false] rfl rfl (any_of HT_.out k1_) (fun _ _ _ h => h) (Or.inl ⟨by rfl, py_⟩) pa_ ?_
          refine pure_ (i := 1) (N := some 87) #[true, true, false, false, false, false, false, false] rfl rfl (any_of HT_.out k1_) (fun _ _ _ h => h) (Or.inl ⟨by rfl, py_⟩) pa_ ?_
          refine pure_ (i := 2) (N := some 88) #[true, true, true, false, false, false, false, false] rfl rfl (any_of HT_.out k1_) (fun _ _ _ h => h) (Or.inl ⟨by rfl, py_⟩) pa_ ?_
          refine pure_ (i := 3) (N := some 89) #[true, true, true, true, false, false, false, false] rfl rfl (any_of HT_.out k1_) (fun _ _ _ h => h) (Or.inl ⟨by rfl, py_⟩) pa_ ?_
          refine pure_ (i := 4) (N := some 90) #[true, true, true, true, true, false, false, false] rfl rfl (any_of HT_.out k1_) (fun _ _ _ h => h) (Or.inl ⟨by rfl, py_⟩) pa_ ?_
          refine one_ (i := 5) (N := none) #[true, true, true, true, true, true, false, false] rfl rfl (one_of HT_.out k1_) (by decide) (fun K hK => ?_)
          have hs64 : w63.cell? ⟨gb277, 0, none⟩ = some (.int .i64 a2_0) := (blk_cell BK277.out 0).trans rfl
          have hfs64 := blk_frozen BK277.out 0
          have hns64_1 := NB278_277.out
          have hms64_1 := NB277_278.out
          refine skip_ (w1 := ?_) (by rfl) rfl ?_ ?_
          rotate_left
          ·go_simp
           rfl
          refine hK.out _ _ trivial (fun hHeld => ?_)
          clear hK K
          refine pure_ (i := 6) (N := some 91) #[true, true, true, true, true, true, true, false] rfl rfl (any_of HT_.out k1_) (fun _ _ _ h => h) (Or.inl ⟨by rfl, py_⟩) pa_ ?_
          refine one_ (i := 7) (N := none) #[true, true, true, true, true, true, true, true] rfl rfl (one_of HT_.out k1_) (by decide) (fun K hK => ?_)
          have hs65 : w63.cell? ⟨gb277, 1, none⟩ = some (.string a2_1) := (blk_cell BK277.out 1).trans rfl
          have hfs65 := blk_frozen BK277.out 1
          have hns65_1 := NB278_277.out
          have hms65_1 := NB277_278.out
          refine skip_ (w1 := ?_) (by rfl) rfl ?_ ?_
          rotate_left
          ·go_simp
           rfl
          refine hK.out _ _ trivial (fun hHeld => ?_)
          clear hK K
          refine done_ (done_of HT_.out k1_) ?_
          have hnb66 := NB277_278.out
          have hnc66 := NB278_277.out
          obtain ⟨⟨hcz67_0, hcz67_1, hcz67_2, hcz67_3, hcz67_4, hcz67_5⟩, hfz67_0, hfz67_1, hfz67_2, hfz67_3, hfz67_4, hfz67_5⟩ := c6_ BK277.out
          obtain ⟨⟨hcz68_0, hcz68_1, hcz68_2, hcz68_3, hcz68_4, hcz68_5⟩, hfz68_0, hfz68_1, hfz68_2, hfz68_3, hfz68_4, hfz68_5⟩ := c6_ BK278.out
          try go_wp2
          refine bodyPost_ret (results_ct rfl _ _ gb278 43 #[.int .i64 7, .string (a0.extract (a1 : Int).toNat (x8_3 : Int).toNat), .int .i64 a2_2, .string a2_3, .string a2_4, .int .i64 a2_5] (0, 0) _ rfl (by have G0 := NB278_277; have G1 := BK278; exact z88_) Tryz.underlying43 rfl k1_) rfl ?_
          exact ⟨e2_, by have G0 := GE277; have G1 := GE278; exact z2_⟩
         rw [if_neg c62] at H
         exact absurd H (by simp)
        rw [if_neg c61] at H
        exact absurd H (by simp)
       rw [if_neg c60] at H
       exact absurd H (by simp)
end Go.Proofs.YtpbphelaeleikaaGreatDoor.PLt

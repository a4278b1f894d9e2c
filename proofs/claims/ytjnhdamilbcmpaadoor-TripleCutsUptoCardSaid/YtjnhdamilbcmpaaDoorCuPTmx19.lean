import Derived.Test.YtjnhdamilbcmpaaDoorCuPTmx0
import Derived.Test.YtjnhdamilbcmpaaDoorCuPTmx18
namespace Go.Proofs.YtjnhdamilbcmpaaDoor.PTm
open Go.RowKit Go.Proofs.YtjnhdamilbcmpaaDoorW.PrintWords Go.Proofs.YtjnhdamilbcmpaaDoorW.PrintLast Go.Proofs.YtjnhdamilbcmpaaDoorW.PrintMore
attribute [local go_sem] max2_int min2_int max_two min_two max_three min_three max_four min_four
set_option linter.unusedVariables false
set_option linter.unusedSimpArgs false
set_option maxHeartbeats 8000000
set_option maxRecDepth 100000
def g2_Text.f (k : Nat) (a0_0 : Int) (a0_1 : ByteArray) (a0_2 : ByteArray) : Option (ByteArray) := if a0_0 = 1 then (if 1 + a0_1.size ≤ 9223372036854775807 then (if ((⟨#[60]⟩ : ByteArray) ++ a0_1).size + 1 ≤ 9223372036854775807 then (some (((⟨#[60]⟩ : ByteArray) ++ a0_1) ++ (⟨#[62]⟩ : ByteArray))) else (none)) else (none)) else (if a0_0 = 2 then (if 2 + a0_1.size ≤ 9223372036854775807 then (some ((⟨#[95, 58]⟩ : ByteArray) ++ a0_1)) else (none)) else (if a0_0 = 4 then ((g2_written.f k a0_1).bind fun t444 => (if t444.size + 1 ≤ 9223372036854775807 then (if (t444 ++ (⟨#[64]⟩ : ByteArray)).size + a0_2.size ≤ 9223372036854775807 then (some ((t444 ++ (⟨#[64]⟩ : ByteArray)) ++ a0_2)) else (none)) else (none))) else (if a0_0 = 5 then ((g2_written.f k a0_1).bind fun t445 => (if t445.size + 3 ≤ 9223372036854775807 then (if (t445 ++ (⟨#[94, 94, 60]⟩ : ByteArray)).size + a0_2.size ≤ 9223372036854775807 then (if ((t445 ++ (⟨#[94, 94, 60]⟩ : ByteArray)) ++ a0_2).size + 1 ≤ 9223372036854775807 then (some (((t445 ++ (⟨#[94, 94, 60]⟩ : ByteArray)) ++ a0_2) ++ (⟨#[62]⟩ : ByteArray))) else (none)) else (none)) else (none))) else ((g2_written.f k a0_1).bind fun t446 => (some t446)))))
def g2_Text.T7 : Bool × List (List Nat × List Nat) := (true, [([], []), ([0], [0]), ([1], [1]), ([2], [2]), ([], []), ([4], [4]), ([3, 5], [3, 5]), ([6, 2, 0, 1, 2, 3, 4, 5, 6], [6])])
def g2_Text.B7 : List Nat := [0, 1, 3, 7, 0, 16, 63, 127]
theorem g2_Text.tab7 : rtab .any (opsOf Tryd.f21 7) = g2_Text.T7 := by kernel_rfl
theorem g2_Text.bits7 : waitsOk g2_Text.T7.2 g2_Text.B7 = true := by kernel_rfl
def g2_Text.T9 : Bool × List (List Nat × List Nat) := (true, [([], []), ([0], [0]), ([1], [1]), ([2], [2]), ([], []), ([4], [4]), ([3, 5], [3, 5]), ([6], [6]), ([7, 2, 0, 1, 2, 3, 4, 5, 6, 7], [7])])
def g2_Text.B9 : List Nat := [0, 1, 3, 7, 0, 16, 63, 127, 255]
theorem g2_Text.tab9 : rtab .any (opsOf Tryd.f21 9) = g2_Text.T9 := by kernel_rfl
theorem g2_Text.bits9 : waitsOk g2_Text.T9.2 g2_Text.B9 = true := by kernel_rfl
theorem g2_Text.calls (k : Nat) (a0_0 : Int) (a0_1 : ByteArray) (a0_2 : ByteArray) (r : ByteArray) (w : World) (h : g2_Text.f k a0_0 a0_1 a0_2 = some r) :
  Calls Tryd.prog 21 #[.agg #[.int .i64 a0_0, .string a0_1, .string a0_2]] w fun e w' => e = .returned (.string r) ∧ Below w.heap.size w w' := by
 have hu36 := Tryd.underlying36
 have HB := Ad.mk (Below.refl w.heap.size w)
 have H := h
 clear h
 unfold g2_Text.f at H
 by_cases c2 : a0_0 = 1
 ·rw [if_pos c2] at H
  have c2b0 := beq_iff_eq.mpr c2
  have c2b1 := bne_eq_false_iff_eq.mpr c2
  clear c2
  by_cases c3 : 1 + a0_1.size ≤ 9223372036854775807
  ·rw [if_pos c3] at H
   have c3b0 := eq_true c3
   have c3b1 := decide_eq_true c3
   try have c3b2 : (9223372036854775807 < 1 + a0_1.size) = False := eq_false (Nat.not_lt.2 c3)
   by_cases c4 : ((⟨#[60]⟩ : ByteArray) ++ a0_1).size + 1 ≤ 9223372036854775807
   ·rw [if_pos c4] at H
    have c4b0 := eq_true c4
    have c4b1 := decide_eq_true c4
    try have c4b2 : (9223372036854775807 < ((⟨#[60]⟩ : ByteArray) ++ a0_1).size + 1) = False := eq_false (Nat.not_lt.2 c4)
    try have c4b3 : (9223372036854775807 < 1 + a0_1.size + 1) = False := eq_false (by have h_ := c4; simp only [ByteArray.size_append] at h_; exact Nat.not_lt.2 h_)
    obtain rfl := Option.some.inj H
    go_enter Tryd.func21, Tryd.ntmps21
    go_wp2_with (first | ((with_reducible refine gate_dst (N := 1) rfl ?_); refine box_event r1_ (N := 1) r1_ (cs := #[.int .i64 a0_0, .string a0_1, .string a0_2]) (t := 36) r2_ ?_; intro gb443 hg w5 hbox hb; have BK443 := Ad.mk (hbox); have GW443 := Ad.mk (bs_ : w.heap.size ≤ gb443); have GE443 := Ad.mk (bs_ : w.heap.size ≤ gb443); replace HB := Ad.mk (below_step b1_ hb); clear hb hbox hg; have hcz6_0 := cl_ (.int .i64 a0_0) BK443.out 0; have hcz6_1 := cl_ (.string a0_1) BK443.out 1; have hcz6_2 := cl_ (.string a0_2) BK443.out 2; have hfz6_0 := blk_frozen BK443.out 0; have hfz6_1 := blk_frozen BK443.out 1; have hfz6_2 := blk_frozen BK443.out 2))
    go_ret
    exact ⟨e2_, by have G0 := GE443; exact z11_⟩
   rw [if_neg c4] at H
   exact absurd H (by simp)
  rw [if_neg c3] at H
  exact absurd H (by simp)
 rw [if_neg c2] at H
 have c2b0 := beq_eq_false_iff_ne.mpr c2
 have c2b1 := bne_iff_ne.mpr c2
 by_cases c7 : a0_0 = 2
 ·rw [if_pos c7] at H
  have c7b0 := beq_iff_eq.mpr c7
  have c7b1 := bne_eq_false_iff_eq.mpr c7
  clear c7
  by_cases c8 : 2 + a0_1.size ≤ 9223372036854775807
  ·rw [if_pos c8] at H
   have c8b0 := eq_true c8
   have c8b1 := decide_eq_true c8
   try have c8b2 : (9223372036854775807 < 2 + a0_1.size) = False := eq_false (Nat.not_lt.2 c8)
   obtain rfl := Option.some.inj H
   go_enter Tryd.func21, Tryd.ntmps21
   go_wp2_with (first | ((with_reducible refine gate_dst (N := 1) rfl ?_); refine box_event r1_ (N := 1) r1_ (cs := #[.int .i64 a0_0, .string a0_1, .string a0_2]) (t := 36) r2_ ?_; intro gb443 hg w9 hbox hb; have BK443 := Ad.mk (hbox); have GW443 := Ad.mk (bs_ : w.heap.size ≤ gb443); have GE443 := Ad.mk (bs_ : w.heap.size ≤ gb443); replace HB := Ad.mk (below_step b1_ hb); clear hb hbox hg; have hcz10_0 := cl_ (.int .i64 a0_0) BK443.out 0; have hcz10_1 := cl_ (.string a0_1) BK443.out 1; have hcz10_2 := cl_ (.string a0_2) BK443.out 2; have hfz10_0 := blk_frozen BK443.out 0; have hfz10_1 := blk_frozen BK443.out 1; have hfz10_2 := blk_frozen BK443.out 2))
   go_ret
   exact ⟨e2_, by have G0 := GE443; exact z11_⟩
  rw [if_neg c8] at H
  exact absurd H (by simp)
 rw [if_neg c7] at H
 have c7b0 := beq_eq_false_iff_ne.mpr c7
 have c7b1 := bne_iff_ne.mpr c7
 by_cases c11 : a0_0 = 4
 ·rw [if_pos c11] at H
  have c11b0 := beq_iff_eq.mpr c11
  have c11b1 := bne_eq_false_iff_eq.mpr c11
  clear c11
  obtain ⟨t444, A12, H⟩ := bi_ H
  by_cases c13 : t444.size + 1 ≤ 9223372036854775807
  ·rw [if_pos c13] at H
   have c13b0 := eq_true c13
   have c13b1 := decide_eq_true c13
   try have c13b2 : (9223372036854775807 < t444.size + 1) = False := eq_false (Nat.not_lt.2 c13)
   by_cases c14 : (t444 ++ (⟨#[64]⟩ : ByteArray)).size + a0_2.size ≤ 9223372036854775807
   ·rw [if_pos c14] at H
    have c14b0 := eq_true c14
    have c14b1 := decide_eq_true c14
    try have c14b2 : (9223372036854775807 < (t444 ++ (⟨#[64]⟩ : ByteArray)).size + a0_2.size) = False := eq_false (Nat.not_lt.2 c14)
    try have c14b3 : (9223372036854775807 < t444.size + 1 + a0_2.size) = False := eq_false (by have h_ := c14; simp only [ByteArray.size_append] at h_; exact Nat.not_lt.2 h_)
    obtain rfl := Option.some.inj H
    go_enter Tryd.func21, Tryd.ntmps21
    try go_wp2_with (first | ((with_reducible refine gate_dst (N := 1) rfl ?_); refine box_event r1_ (N := 1) r1_ (cs := #[.int .i64 a0_0, .string a0_1, .string a0_2]) (t := 36) r2_ ?_; intro gb443 hg w15 hbox hb; have BK443 := Ad.mk (hbox); have GW443 := Ad.mk (bs_ : w.heap.size ≤ gb443); have GE443 := Ad.mk (bs_ : w.heap.size ≤ gb443); replace HB := Ad.mk (below_step b1_ hb); clear hb hbox hg; have hcz16_0 := cl_ (.int .i64 a0_0) BK443.out 0; have hcz16_1 := cl_ (.string a0_1) BK443.out 1; have hcz16_2 := cl_ (.string a0_2) BK443.out 2; have hfz16_0 := blk_frozen BK443.out 0; have hfz16_1 := blk_frozen BK443.out 1; have hfz16_2 := blk_frozen BK443.out 2))
    have n0_ := Ad.mk (blk_drew BK443.out)
    have n1_ := Ad.mk (below_drew1 HB.out)
    clear BK443
    clear HB
    have BK443 := n0_
    have HB := n1_
    clear n0_ n1_
    refine start_ (n := 8) (S := fun w' => w'.cell? ⟨gb443, 0, none⟩ = some (.int .i64 a0_0) ∧ w'.cell? ⟨gb443, 1, none⟩ = some (.string a0_1) ∧ w'.cell? ⟨gb443, 2, none⟩ = some (.string a0_2)) (ds := []) #[false, false, false, false, false, false, false, false] k1_ rfl rfl ⟨(blk_cell BK443.out 0).trans rfl, (blk_cell BK443.out 1).trans rfl, (blk_cell BK443.out 2).trans rfl⟩ (fun hHeld => ?_); refine with_tabW g2_Text.tab7 g2_Text.bits7 (fun HT_ HW_ => ?_)
    generalize w15.drew = w17 at BK443 HB hHeld ⊢
    refine pure_ (i := 0) (N := some 18) #[true, false, false, false, false, false, false, false] rfl rfl (any_of HT_.out k1_) (fun _ _ _ h => h) (Or.inl ⟨by rfl, py_⟩) pa_ ?_
    refine pure_ (i := 4) (N := some 22) #[true, false, false, false, true, false, false, false] rfl rfl (any_of HT_.out k1_) (fun _ _ _ h => h) (Or.inl ⟨by rfl, py_⟩) pa_ ?_
    refine take_ (i := 1) (N := some 19) (v := ?_) (a' := ?_) #[true, true, false, false, true, false, false, false] rfl rfl (take_ofW HT_.out HW_.out k1_) (fun _ _ _ h => h) (Or.inl ⟨by rfl, ?_⟩) hHeld ?_ ?_
    rotate_left
    ·rintro w' ⟨s0, s1, s2⟩
     go_simp
     with_reducible rfl
    rotate_left
    ·simp only [Act.put, List.setIfInBounds_toArray, List.set_cons_zero, List.set_cons_succ, i64_w, i32_w]
     rfl
    refine take_ (i := 5) (N := some 23) (v := ?_) (a' := ?_) #[true, true, false, false, true, true, false, false] rfl rfl (take_ofW HT_.out HW_.out k1_) (fun _ _ _ h => h) (Or.inl ⟨by rfl, ?_⟩) hHeld ?_ ?_
    rotate_left
    ·rintro w' ⟨s0, s1, s2⟩
     go_simp
     with_reducible rfl
    rotate_left
    ·simp only [Act.put, List.setIfInBounds_toArray, List.set_cons_zero, List.set_cons_succ, i64_w, i32_w]
     rfl
    refine one_ (i := 2) (N := some 20) #[true, true, true, false, true, true, false, false] rfl rfl (one_of HT_.out k1_) (by decide) (fun K hK => ?_)
    refine goes_ Tryd.func29 k1_ rfl #[.string a0_1] (by rfl) rfl rfl g1_ ?_
    with_reducible refine (g2_written.calls k a0_1 t444 _ A12.out).mono ?_
    rintro e w18 ⟨rfl, hb⟩
    refine ⟨_, rfl, ?_⟩
    have n0_ := Ad.mk (blk_below (g := gb443) (o := .cells #[.int .i64 a0_0, .string a0_1, .string a0_2] 36 (0, 0)) (bd_ BK443.out) hb)
    have n1_ := Ad.mk (below_step (by have GE := GE443; exact b2_) hb)
    clear BK443
    clear HB
    have BK443 := n0_
    have HB := n1_
    clear n0_ n1_
    (try clear hb)
    (try clear hb2)
    (try clear hk)
    (try clear hi)
    refine hK.out _ _ ⟨(blk_cell BK443.out 0).trans rfl, (blk_cell BK443.out 1).trans rfl, (blk_cell BK443.out 2).trans rfl⟩ (fun hHeld => ?_)
    clear hK K
    refine norm_ (a' := ?_) ?_ ?_
    rotate_left
    ·show Act.put _ (some 20) _ = _
     simp only [Act.put, List.setIfInBounds_toArray, List.set_cons_zero, List.set_cons_succ, i64_w, i32_w]
     rfl
    refine pure_ (i := 3) (N := some 21) #[true, true, true, true, true, true, false, false] rfl rfl (any_of HT_.out k1_) (fun _ _ _ h => h) (Or.inl ⟨by rfl, py_⟩) pa_ ?_
    refine pure_ (i := 6) (N := some 24) #[true, true, true, true, true, true, true, false] rfl rfl (any_of HT_.out k1_) (fun _ _ _ h => h) (Or.inl ⟨by rfl, py_⟩) pa_ ?_
    refine pure_ (i := 7) (N := some 2) #[true, true, true, true, true, true, true, true] rfl rfl (any_of HT_.out k1_) (fun _ _ _ h => h) (Or.inl ⟨by rfl, py_⟩) pa_ ?_
    refine done_ (done_of HT_.out k1_) ?_
    try go_wp2
    go_ret
    exact ⟨e2_, by have G0 := GE443; exact z11_⟩
   rw [if_neg c14] at H
   exact absurd H (by simp)
  rw [if_neg c13] at H
  exact absurd H (by simp)
 rw [if_neg c11] at H
 have c11b0 := beq_eq_false_iff_ne.mpr c11
 have c11b1 := bne_iff_ne.mpr c11
 by_cases c19 : a0_0 = 5
 ·rw [if_pos c19] at H
  have c19b0 := beq_iff_eq.mpr c19
  have c19b1 := bne_eq_false_iff_eq.mpr c19
  clear c19
  obtain ⟨t445, A20, H⟩ := bi_ H
  by_cases c21 : t445.size + 3 ≤ 9223372036854775807
  ·rw [if_pos c21] at H
   have c21b0 := eq_true c21
   have c21b1 := decide_eq_true c21
   try have c21b2 : (9223372036854775807 < t445.size + 3) = False := eq_false (Nat.not_lt.2 c21)
   by_cases c22 : (t445 ++ (⟨#[94, 94, 60]⟩ : ByteArray)).size + a0_2.size ≤ 9223372036854775807
   ·rw [if_pos c22] at H
    have c22b0 := eq_true c22
    have c22b1 := decide_eq_true c22
    try have c22b2 : (9223372036854775807 < (t445 ++ (⟨#[94, 94, 60]⟩ : ByteArray)).size + a0_2.size) = False := eq_false (Nat.not_lt.2 c22)
    try have c22b3 : (9223372036854775807 < t445.size + 3 + a0_2.size) = False := eq_false (by have h_ := c22; simp only [ByteArray.size_append] at h_; exact Nat.not_lt.2 h_)
    by_cases c23 : ((t445 ++ (⟨#[94, 94, 60]⟩ : ByteArray)) ++ a0_2).size + 1 ≤ 9223372036854775807
    ·rw [if_pos c23] at H
     have c23b0 := eq_true c23
     have c23b1 := decide_eq_true c23
     try have c23b2 : (9223372036854775807 < ((t445 ++ (⟨#[94, 94, 60]⟩ : ByteArray)) ++ a0_2).size + 1) = False := eq_false (Nat.not_lt.2 c23)
     try have c23b3 : (9223372036854775807 < t445.size + 3 + a0_2.size + 1) = False := eq_false (by have h_ := c23; simp only [ByteArray.size_append] at h_; exact Nat.not_lt.2 h_)
     obtain rfl := Option.some.inj H
     go_enter Tryd.func21, Tryd.ntmps21
     try go_wp2_with (first | ((with_reducible refine gate_dst (N := 1) rfl ?_); refine box_event r1_ (N := 1) r1_ (cs := #[.int .i64 a0_0, .string a0_1, .string a0_2]) (t := 36) r2_ ?_; intro gb443 hg w24 hbox hb; have BK443 := Ad.mk (hbox); have GW443 := Ad.mk (bs_ : w.heap.size ≤ gb443); have GE443 := Ad.mk (bs_ : w.heap.size ≤ gb443); replace HB := Ad.mk (below_step b1_ hb); clear hb hbox hg; have hcz25_0 := cl_ (.int .i64 a0_0) BK443.out 0; have hcz25_1 := cl_ (.string a0_1) BK443.out 1; have hcz25_2 := cl_ (.string a0_2) BK443.out 2; have hfz25_0 := blk_frozen BK443.out 0; have hfz25_1 := blk_frozen BK443.out 1; have hfz25_2 := blk_frozen BK443.out 2))
     have n0_ := Ad.mk (blk_drew BK443.out)
     have n1_ := Ad.mk (below_drew1 HB.out)
     clear BK443
     clear HB
     have BK443 := n0_
     have HB := n1_
     clear n0_ n1_
     refine start_ (n := 9) (S := fun w' => w'.cell? ⟨gb443, 0, none⟩ = some (.int .i64 a0_0) ∧ w'.cell? ⟨gb443, 1, none⟩ = some (.string a0_1) ∧ w'.cell? ⟨gb443, 2, none⟩ = some (.string a0_2)) (ds := []) #[false, false, false, false, false, false, false, false, false] k1_ rfl rfl ⟨(blk_cell BK443.out 0).trans rfl, (blk_cell BK443.out 1).trans rfl, (blk_cell BK443.out 2).trans rfl⟩ (fun hHeld => ?_); refine with_tabW g2_Text.tab9 g2_Text.bits9 (fun HT_ HW_ => ?_)
     generalize w24.drew = w26 at BK443 HB hHeld ⊢
     refine pure_ (i := 0) (N := some 27) #[true, false, false, false, false, false, false, false, false] rfl rfl (any_of HT_.out k1_) (fun _ _ _ h => h) (Or.inl ⟨by rfl, py_⟩) pa_ ?_
     refine pure_ (i := 4) (N := some 31) #[true, false, false, false, true, false, false, false, false] rfl rfl (any_of HT_.out k1_) (fun _ _ _ h => h) (Or.inl ⟨by rfl, py_⟩) pa_ ?_
     refine take_ (i := 1) (N := some 28) (v := ?_) (a' := ?_) #[true, true, false, false, true, false, false, false, false] rfl rfl (take_ofW HT_.out HW_.out k1_) (fun _ _ _ h => h) (Or.inl ⟨by rfl, ?_⟩) hHeld ?_ ?_
     rotate_left
     ·rintro w' ⟨s0, s1, s2⟩
      go_simp
      with_reducible rfl
     rotate_left
     ·simp only [Act.put, List.setIfInBounds_toArray, List.set_cons_zero, List.set_cons_succ, i64_w, i32_w]
      rfl
     refine take_ (i := 5) (N := some 32) (v := ?_) (a' := ?_) #[true, true, false, false, true, true, false, false, false] rfl rfl (take_ofW HT_.out HW_.out k1_) (fun _ _ _ h => h) (Or.inl ⟨by rfl, ?_⟩) hHeld ?_ ?_
     rotate_left
     ·rintro w' ⟨s0, s1, s2⟩
      go_simp
      with_reducible rfl
     rotate_left
     ·simp only [Act.put, List.setIfInBounds_toArray, List.set_cons_zero, List.set_cons_succ, i64_w, i32_w]
      rfl
     refine one_ (i := 2) (N := some 29) #[true, true, true, false, true, true, false, false, false] rfl rfl (one_of HT_.out k1_) (by decide) (fun K hK => ?_)
     refine goes_ Tryd.func29 k1_ rfl #[.string a0_1] (by rfl) rfl rfl g1_ ?_
     with_reducible refine (g2_written.calls k a0_1 t445 _ A20.out).mono ?_
     rintro e w27 ⟨rfl, hb⟩
     refine ⟨_, rfl, ?_⟩
     have n0_ := Ad.mk (blk_below (g := gb443) (o := .cells #[.int .i64 a0_0, .string a0_1, .string a0_2] 36 (0, 0)) (bd_ BK443.out) hb)
     have n1_ := Ad.mk (below_step (by have GE := GE443; exact b2_) hb)
     clear BK443
     clear HB
     have BK443 := n0_
     have HB := n1_
     clear n0_ n1_
     (try clear hb)
     (try clear hb2)
     (try clear hk)
     (try clear hi)
     refine hK.out _ _ ⟨(blk_cell BK443.out 0).trans rfl, (blk_cell BK443.out 1).trans rfl, (blk_cell BK443.out 2).trans rfl⟩ (fun hHeld => ?_)
     clear hK K
     refine norm_ (a' := ?_) ?_ ?_
     rotate_left
     ·show Act.put _ (some 29) _ = _
      simp only [Act.put, List.setIfInBounds_toArray, List.set_cons_zero, List.set_cons_succ, i64_w, i32_w]
      rfl
     refine pure_ (i := 3) (N := some 30) #[true, true, true, true, true, true, false, false, false] rfl rfl (any_of HT_.out k1_) (fun _ _ _ h => h) (Or.inl ⟨by rfl, py_⟩) pa_ ?_
     refine pure_ (i := 6) (N := some 33) #[true, true, true, true, true, true, true, false, false] rfl rfl (any_of HT_.out k1_) (fun _ _ _ h => h) (Or.inl ⟨by rfl, py_⟩) pa_ ?_
     refine pure_ (i := 7) (N := some 34) #[true, true, true, true, true, true, true, true, false] rfl rfl (any_of HT_.out k1_) (fun _ _ _ h => h) (Or.inl ⟨by rfl, py_⟩) pa_ ?_
     refine pure_ (i := 8) (N := some 2) #[true, true, true, true, true, true, true, true, true] rfl rfl (any_of HT_.out k1_) (fun _ _ _ h => h) (Or.inl ⟨by rfl, py_⟩) pa_ ?_
     refine done_ (done_of HT_.out k1_) ?_
     try go_wp2
     go_ret
     exact ⟨e2_, by have G0 := GE443; exact z11_⟩
    rw [if_neg c23] at H
    exact absurd H (by simp)
   rw [if_neg c22] at H
   exact absurd H (by simp)
  rw [if_neg c21] at H
  exact absurd H (by simp)
 rw [if_neg c19] at H
 have c19b0 := beq_eq_false_iff_ne.mpr c19
 have c19b1 := bne_iff_ne.mpr c19
 obtain ⟨t446, A28, H⟩ := bi_ H
 obtain rfl := Option.some.inj H
 go_enter Tryd.func21, Tryd.ntmps21
 go_wp2_with (first | ((with_reducible refine gate_dst (N := 1) rfl ?_); refine box_event r1_ (N := 1) r1_ (cs := #[.int .i64 a0_0, .string a0_1, .string a0_2]) (t := 36) r2_ ?_; intro gb443 hg w29 hbox hb; have BK443 := Ad.mk (hbox); have GW443 := Ad.mk (bs_ : w.heap.size ≤ gb443); have GE443 := Ad.mk (bs_ : w.heap.size ≤ gb443); replace HB := Ad.mk (below_step b1_ hb); clear hb hbox hg; have hcz30_0 := cl_ (.int .i64 a0_0) BK443.out 0; have hcz30_1 := cl_ (.string a0_1) BK443.out 1; have hcz30_2 := cl_ (.string a0_2) BK443.out 2; have hfz30_0 := blk_frozen BK443.out 0; have hfz30_1 := blk_frozen BK443.out 1; have hfz30_2 := blk_frozen BK443.out 2) | ((with_reducible refine gate_callee (f := 29) rfl ?_); refine goesL_ (some 37) rfl rfl Tryd.func29 k1_ rfl #[.string a0_1] rfl g1_ ?_; (with_reducible refine (g2_written.calls k a0_1 t446 _ A28.out).mono ?_); rintro e w31 ⟨rfl, hb⟩; refine ⟨_, rfl, ?_⟩; replace BK443 := Ad.mk (blk_below (g := gb443) (o := .cells #[.int .i64 a0_0, .string a0_1, .string a0_2] 36 (0, 0)) (bd_ BK443.out) hb); replace HB := Ad.mk (below_step (by have GE := GE443; exact b2_) hb); clear hb))
 go_ret
 exact ⟨e2_, by have G0 := GE443; exact z11_⟩
def g2_TripleText.f (k : Nat) (a0_0 : Int) (a0_1 : ByteArray) (a0_2 : ByteArray) (a0_3 : Int) (a0_4 : ByteArray) (a0_5 : ByteArray) (a0_6 : Int) (a0_7 : ByteArray) (a0_8 : ByteArray) : Option (ByteArray) := (g2_Text.f k a0_0 a0_1 a0_2).bind fun t448 => (if t448.size + 1 ≤ 9223372036854775807 then ((g2_Text.f k a0_3 a0_4 a0_5).bind fun t449 => (if (t448 ++ (⟨#[32]⟩ : ByteArray)).size + t449.size ≤ 9223372036854775807 then (if ((t448 ++ (⟨#[32]⟩ : ByteArray)) ++ t449).size + 1 ≤ 9223372036854775807 then ((g2_Text.f k a0_6 a0_7 a0_8).bind fun t450 => (if (((t448 ++ (⟨#[32]⟩ : ByteArray)) ++ t449) ++ (⟨#[32]⟩ : ByteArray)).size + t450.size ≤ 9223372036854775807 then (if ((((t448 ++ (⟨#[32]⟩ : ByteArray)) ++ t449) ++ (⟨#[32]⟩ : ByteArray)) ++ t450).size + 2 ≤ 9223372036854775807 then (some (((((t448 ++ (⟨#[32]⟩ : ByteArray)) ++ t449) ++ (⟨#[32]⟩ : ByteArray)) ++ t450) ++ (⟨#[32, 46]⟩ : ByteArray))) else (none)) else (none))) else (none)) else (none))) else (none))
def g2_TripleText.T1 : Bool × List (List Nat × List Nat) := (true, [([], []), ([0], [0]), ([1], [1]), ([2], [2]), ([], []), ([4], [4]), ([5, 2], [5]), ([3, 6], [3, 6]), ([7], [7]), ([], []), ([9], [9]), ([10, 6], [10]), ([8, 11], [8, 11]), ([12], [12]), ([13, 11, 0, 1, 2, 3, 4, 5, 6, 7, 8, 9, 10, 11, 12, 13], [13])])
def g2_TripleText.B1 : List Nat := [0, 1, 3, 7, 0, 16, 55, 127, 255, 0, 512, 1655, 4095, 8191, 16383]
theorem g2_TripleText.tab1 : rtab .any (opsOf Tryd.f11 1) = g2_TripleText.T1 := by kernel_rfl
theorem g2_TripleText.bits1 : waitsOk g2_TripleText.T1.2 g2_TripleText.B1 = true := by kernel_rfl
theorem g2_TripleText.calls (k : Nat) (a0_0 : Int) (a0_1 : ByteArray) (a0_2 : ByteArray) (a0_3 : Int) (a0_4 : ByteArray) (a0_5 : ByteArray) (a0_6 : Int) (a0_7 : ByteArray) (a0_8 : ByteArray) (r : ByteArray) (w : World) (h : g2_TripleText.f k a0_0 a0_1 a0_2 a0_3 a0_4 a0_5 a0_6 a0_7 a0_8 = some r) :
  Calls Tryd.prog 11 #[.agg #[.int .i64 a0_0, .string a0_1, .string a0_2, .int .i64 a0_3, .string a0_4, .string a0_5, .int .i64 a0_6, .string a0_7, .string a0_8]] w fun e w' => e = .returned (.string r) ∧ Below w.heap.size w w' := by
 have hu38 := Tryd.underlying38
 have hu36 := Tryd.underlying36
 have HB := Ad.mk (Below.refl w.heap.size w)
 have H := h
 clear h
 unfold g2_TripleText.f at H
 obtain ⟨t448, A2, H⟩ := bi_ H
 by_cases c3 : t448.size + 1 ≤ 9223372036854775807
 ·rw [if_pos c3] at H
  have c3b0 := eq_true c3
  have c3b1 := decide_eq_true c3
  try have c3b2 : (9223372036854775807 < t448.size + 1) = False := eq_false (Nat.not_lt.2 c3)
  obtain ⟨t449, A4, H⟩ := bi_ H
  by_cases c5 : (t448 ++ (⟨#[32]⟩ : ByteArray)).size + t449.size ≤ 9223372036854775807
  ·rw [if_pos c5] at H
   have c5b0 := eq_true c5
   have c5b1 := decide_eq_true c5
   try have c5b2 : (9223372036854775807 < (t448 ++ (⟨#[32]⟩ : ByteArray)).size + t449.size) = False := eq_false (Nat.not_lt.2 c5)
   try have c5b3 : (9223372036854775807 < t448.size + 1 + t449.size) = False := eq_false (by have h_ := c5; simp only [ByteArray.size_append] at h_; exact Nat.not_lt.2 h_)
   by_cases c6 : ((t448 ++ (⟨#[32]⟩ : ByteArray)) ++ t449).size + 1 ≤ 9223372036854775807
   ·rw [if_pos c6] at H
    have c6b0 := eq_true c6
    have c6b1 := decide_eq_true c6
    try have c6b2 : (9223372036854775807 < ((t448 ++ (⟨#[32]⟩ : ByteArray)) ++ t449).size + 1) = False := eq_false (Nat.not_lt.2 c6)
    try have c6b3 : (9223372036854775807 < t448.size + 1 + t449.size + 1) = False := eq_false (by have h_ := c6; simp only [ByteArray.size_append] at h_; exact Nat.not_lt.2 h_)
    obtain ⟨t450, A7, H⟩ := bi_ H
    by_cases c8 : (((t448 ++ (⟨#[32]⟩ : ByteArray)) ++ t449) ++ (⟨#[32]⟩ : ByteArray)).size + t450.size ≤ 9223372036854775807
    ·rw [if_pos c8] at H
     have c8b0 := eq_true c8
     have c8b1 := decide_eq_true c8
     try have c8b2 : (9223372036854775807 < (((t448 ++ (⟨#[32]⟩ : ByteArray)) ++ t449) ++ (⟨#[32]⟩ : ByteArray)).size + t450.size) = False := eq_false (Nat.not_lt.2 c8)
     try have c8b3 : (9223372036854775807 < t448.size + 1 + t449.size + 1 + t450.size) = False := eq_false (by have h_ := c8; simp only [ByteArray.size_append] at h_; exact Nat.not_lt.2 h_)
     by_cases c9 : ((((t448 ++ (⟨#[32]⟩ : ByteArray)) ++ t449) ++ (⟨#[32]⟩ : ByteArray)) ++ t450).size + 2 ≤ 9223372036854775807
     ·rw [if_pos c9] at H
      have c9b0 := eq_true c9
      have c9b1 := decide_eq_true c9
      try have c9b2 : (9223372036854775807 < ((((t448 ++ (⟨#[32]⟩ : ByteArray)) ++ t449) ++ (⟨#[32]⟩ : ByteArray)) ++ t450).size + 2) = False := eq_false (Nat.not_lt.2 c9)
      try have c9b3 : (9223372036854775807 < t448.size + 1 + t449.size + 1 + t450.size + 2) = False := eq_false (by have h_ := c9; simp only [ByteArray.size_append] at h_; exact Nat.not_lt.2 h_)
      obtain rfl := Option.some.inj H
      go_enter Tryd.func11, Tryd.ntmps11
      try go_wp2_with (first | ((with_reducible refine gate_dst (N := 1) rfl ?_); refine box_event r1_ (N := 1) r1_ (cs := #[.int .i64 a0_0, .string a0_1, .string a0_2, .int .i64 a0_3, .string a0_4, .string a0_5, .int .i64 a0_6, .string a0_7, .string a0_8]) (t := 38) r2_ ?_; intro gb447 hg w10 hbox hb; have BK447 := Ad.mk (hbox); have GW447 := Ad.mk (bs_ : w.heap.size ≤ gb447); have GE447 := Ad.mk (bs_ : w.heap.size ≤ gb447); replace HB := Ad.mk (below_step b1_ hb); clear hb hbox hg))
      have n0_ := Ad.mk (blk_drew BK447.out)
      have n1_ := Ad.mk (below_drew1 HB.out)
      clear BK447
      clear HB
      have BK447 := n0_
      have HB := n1_
      clear n0_ n1_
      refine start_ (n := 15) (S := fun w' => w'.cell? ⟨gb447, 0, none⟩ = some (.int .i64 a0_0) ∧ w'.cell? ⟨gb447, 1, none⟩ = some (.string a0_1) ∧ w'.cell? ⟨gb447, 2, none⟩ = some (.string a0_2) ∧ w'.cell? ⟨gb447, 3, none⟩ = some (.int .i64 a0_3) ∧ w'.cell? ⟨gb447, 4, none⟩ = some (.string a0_4) ∧ w'.cell? ⟨gb447, 5, none⟩ = some (.string a0_5) ∧ w'.cell? ⟨gb447, 6, none⟩ = some (.int .i64 a0_6) ∧ w'.cell? ⟨gb447, 7, none⟩ = some (.string a0_7) ∧ w'.cell? ⟨gb447, 8, none⟩ = some (.string a0_8)) (ds := []) #[false, false, false, false, false, false, false, false, false, false, false, false, false, false, false] k1_ rfl rfl ⟨(blk_cell BK447.out 0).trans rfl, (blk_cell BK447.out 1).trans rfl, (blk_cell BK447.out 2).trans rfl, (blk_cell BK447.out 3).trans rfl, (blk_cell BK447.out 4).trans rfl, (blk_cell BK447.out 5).trans rfl, (blk_cell BK447.out 6).trans rfl, (blk_cell BK447.out 7).trans rfl, (blk_cell BK447.out 8).trans rfl⟩ (fun hHeld => ?_); refine with_tabW g2_TripleText.tab1 g2_TripleText.bits1 (fun HT_ HW_ => ?_)
      generalize w10.drew = w11 at BK447 HB hHeld ⊢
      refine pure_ (i := 0) (N := some 3) #[true, false, false, false, false, false, false, false, false, false, false, false, false, false, false] rfl rfl (any_of HT_.out k1_) (fun _ _ _ h => h) (Or.inl ⟨by rfl, py_⟩) pa_ ?_
      refine pure_ (i := 4) (N := some 7) #[true, false, false, false, true, false, false, false, false, false, false, false, false, false, false] rfl rfl (any_of HT_.out k1_) (fun _ _ _ h => h) (Or.inl ⟨by rfl, py_⟩) pa_ ?_
      refine pure_ (i := 9) (N := some 12) #[true, false, false, false, true, false, false, false, false, true, false, false, false, false, false] rfl rfl (any_of HT_.out k1_) (fun _ _ _ h => h) (Or.inl ⟨by rfl, py_⟩) pa_ ?_
      refine take_ (i := 1) (N := some 4) (v := ?_) (a' := ?_) #[true, true, false, false, true, false, false, false, false, true, false, false, false, false, false] rfl rfl (take_ofW HT_.out HW_.out k1_) (fun _ _ _ h => h) (Or.inl ⟨by rfl, ?_⟩) hHeld ?_ ?_
      rotate_left
      ·rintro w' ⟨s0, s1, s2, s3, s4, s5, s6, s7, s8⟩
       go_simp
       with_reducible rfl
      rotate_left
      ·simp only [Act.put, List.setIfInBounds_toArray, List.set_cons_zero, List.set_cons_succ, i64_w, i32_w]
       rfl
      refine take_ (i := 5) (N := some 8) (v := ?_) (a' := ?_) #[true, true, false, false, true, true, false, false, false, true, false, false, false, false, false] rfl rfl (take_ofW HT_.out HW_.out k1_) (fun _ _ _ h => h) (Or.inl ⟨by rfl, ?_⟩) hHeld ?_ ?_
      rotate_left
      ·rintro w' ⟨s0, s1, s2, s3, s4, s5, s6, s7, s8⟩
       go_simp
       with_reducible rfl
      rotate_left
      ·simp only [Act.put, List.setIfInBounds_toArray, List.set_cons_zero, List.set_cons_succ, i64_w, i32_w]
       rfl
      refine take_ (i := 10) (N := some 13) (v := ?_) (a' := ?_) #[true, true, false, false, true, true, false, false, false, true, true, false, false, false, false] rfl rfl (take_ofW HT_.out HW_.out k1_) (fun _ _ _ h => h) (Or.inl ⟨by rfl, ?_⟩) hHeld ?_ ?_
      rotate_left
      ·rintro w' ⟨s0, s1, s2, s3, s4, s5, s6, s7, s8⟩
       go_simp
       with_reducible rfl
      rotate_left
      ·simp only [Act.put, List.setIfInBounds_toArray, List.set_cons_zero, List.set_cons_succ, i64_w, i32_w]
       rfl
      refine one_ (i := 2) (N := some 5) #[true, true, true, false, true, true, false, false, false, true, true, false, false, false, false] rfl rfl (one_of HT_.out k1_) (by decide) (fun K hK => ?_)
      refine goes_ Tryd.func21 k1_ rfl #[.agg #[.int .i64 a0_0, .string a0_1, .string a0_2]] (by rfl) rfl rfl g1_ ?_
      with_reducible refine (g2_Text.calls k a0_0 a0_1 a0_2 t448 _ A2.out).mono ?_
      rintro e w12 ⟨rfl, hb⟩
      refine ⟨_, rfl, ?_⟩
      have n0_ := Ad.mk (blk_below (g := gb447) (o := .cells #[.int .i64 a0_0, .string a0_1, .string a0_2, .int .i64 a0_3, .string a0_4, .string a0_5, .int .i64 a0_6, .string a0_7, .string a0_8] 38 (0, 0)) (bd_ BK447.out) hb)
      have n1_ := Ad.mk (below_step (by have GE := GE447; exact b2_) hb)
      clear BK447
      clear HB
      have BK447 := n0_
      have HB := n1_
      clear n0_ n1_
      (try clear hb)
      (try clear hb2)
      (try clear hk)
      (try clear hi)
      refine hK.out _ _ ⟨(blk_cell BK447.out 0).trans rfl, (blk_cell BK447.out 1).trans rfl, (blk_cell BK447.out 2).trans rfl, (blk_cell BK447.out 3).trans rfl, (blk_cell BK447.out 4).trans rfl, (blk_cell BK447.out 5).trans rfl, (blk_cell BK447.out 6).trans rfl, (blk_cell BK447.out 7).trans rfl, (blk_cell BK447.out 8).trans rfl⟩ (fun hHeld => ?_)
      clear hK K
      refine norm_ (a' := ?_) ?_ ?_
      rotate_left
      ·show Act.put _ (some 5) _ = _
       simp only [Act.put, List.setIfInBounds_toArray, List.set_cons_zero, List.set_cons_succ, i64_w, i32_w]
       rfl
      refine pure_ (i := 3) (N := some 6) #[true, true, true, true, true, true, false, false, false, true, true, false, false, false, false] rfl rfl (any_of HT_.out k1_) (fun _ _ _ h => h) (Or.inl ⟨by rfl, py_⟩) pa_ ?_
      refine one_ (i := 6) (N := some 9) #[true, true, true, true, true, true, true, false, false, true, true, false, false, false, false] rfl rfl (one_of HT_.out k1_) (by decide) (fun K hK => ?_)
      refine goes_ Tryd.func21 k1_ rfl #[.agg #[.int .i64 a0_3, .string a0_4, .string a0_5]] (by rfl) rfl rfl g1_ ?_
      with_reducible refine (g2_Text.calls k a0_3 a0_4 a0_5 t449 _ A4.out).mono ?_
      rintro e w13 ⟨rfl, hb⟩
      refine ⟨_, rfl, ?_⟩
      have n0_ := Ad.mk (blk_below (g := gb447) (o := .cells #[.int .i64 a0_0, .string a0_1, .string a0_2, .int .i64 a0_3, .string a0_4, .string a0_5, .int .i64 a0_6, .string a0_7, .string a0_8] 38 (0, 0)) (bd_ BK447.out) hb)
      have n1_ := Ad.mk (below_step (by have GE := GE447; exact b2_) hb)
      clear BK447
      clear HB
      have BK447 := n0_
      have HB := n1_
      clear n0_ n1_
      (try clear hb)
      (try clear hb2)
      (try clear hk)
      (try clear hi)
      refine hK.out _ _ ⟨(blk_cell BK447.out 0).trans rfl, (blk_cell BK447.out 1).trans rfl, (blk_cell BK447.out 2).trans rfl, (blk_cell BK447.out 3).trans rfl, (blk_cell BK447.out 4).trans rfl, (blk_cell BK447.out 5).trans rfl, (blk_cell BK447.out 6).trans rfl, (blk_cell BK447.out 7).trans rfl, (blk_cell BK447.out 8).trans rfl⟩ (fun hHeld => ?_)
      clear hK K
      refine norm_ (a' := ?_) ?_ ?_
      rotate_left
      ·show Act.put _ (some 9) _ = _
       simp only [Act.put, List.setIfInBounds_toArray, List.set_cons_zero, List.set_cons_succ, i64_w, i32_w]
       rfl
      refine pure_ (i := 7) (N := some 10) #[true, true, true, true, true, true, true, true, false, true, true, false, false, false, false] rfl rfl (any_of HT_.out k1_) (fun _ _ _ h => h) (Or.inl ⟨by rfl, py_⟩) pa_ ?_
      refine pure_ (i := 8) (N := some 11) #[true, true, true, true, true, true, true, true, true, true, true, false, false, false, false] rfl rfl (any_of HT_.out k1_) (fun _ _ _ h => h) (Or.inl ⟨by rfl, py_⟩) pa_ ?_
      refine one_ (i := 11) (N := some 14) #[true, true, true, true, true, true, true, true, true, true, true, true, false, false, false] rfl rfl (one_of HT_.out k1_) (by decide) (fun K hK => ?_)
      refine goes_ Tryd.func21 k1_ rfl #[.agg #[.int .i64 a0_6, .string a0_7, .string a0_8]] (by rfl) rfl rfl g1_ ?_
      with_reducible refine (g2_Text.calls k a0_6 a0_7 a0_8 t450 _ A7.out).mono ?_
      rintro e w14 ⟨rfl, hb⟩
      refine ⟨_, rfl, ?_⟩
      have n0_ := Ad.mk (blk_below (g := gb447) (o := .cells #[.int .i64 a0_0, .string a0_1, .string a0_2, .int .i64 a0_3, .string a0_4, .string a0_5, .int .i64 a0_6, .string a0_7, .string a0_8] 38 (0, 0)) (bd_ BK447.out) hb)
      have n1_ := Ad.mk (below_step (by have GE := GE447; exact b2_) hb)
      clear BK447
      clear HB
      have BK447 := n0_
      have HB := n1_
      clear n0_ n1_
      (try clear hb)
      (try clear hb2)
      (try clear hk)
      (try clear hi)
      refine hK.out _ _ ⟨(blk_cell BK447.out 0).trans rfl, (blk_cell BK447.out 1).trans rfl, (blk_cell BK447.out 2).trans rfl, (blk_cell BK447.out 3).trans rfl, (blk_cell BK447.out 4).trans rfl, (blk_cell BK447.out 5).trans rfl, (blk_cell BK447.out 6).trans rfl, (blk_cell BK447.out 7).trans rfl, (blk_cell BK447.out 8).trans rfl⟩ (fun hHeld => ?_)
      clear hK K
      refine norm_ (a' := ?_) ?_ ?_
      rotate_left
      ·show Act.put _ (some 14) _ = _
       simp only [Act.put, List.setIfInBounds_toArray, List.set_cons_zero, List.set_cons_succ, i64_w, i32_w]
       rfl
      refine pure_ (i := 12) (N := some 15) #[true, true, true, true, true, true, true, true, true, true, true, true, true, false, false] rfl rfl (any_of HT_.out k1_) (fun _ _ _ h => h) (Or.inl ⟨by rfl, py_⟩) pa_ ?_
      refine pure_ (i := 13) (N := some 16) #[true, true, true, true, true, true, true, true, true, true, true, true, true, true, false] rfl rfl (any_of HT_.out k1_) (fun _ _ _ h => h) (Or.inl ⟨by rfl, py_⟩) pa_ ?_
      refine pure_ (i := 14) (N := some 2) #[true, true, true, true, true, true, true, true, true, true, true, true, true, true, true] rfl rfl (any_of HT_.out k1_) (fun _ _ _ h => h) (Or.inl ⟨by rfl, py_⟩) pa_ ?_
      refine done_ (done_of HT_.out k1_) ?_
      try go_wp2
      go_ret
      exact ⟨e2_, by have G0 := GE447; exact z11_⟩
     rw [if_neg c9] at H
     exact absurd H (by simp)
    rw [if_neg c8] at H
    exact absurd H (by simp)
   rw [if_neg c6] at H
   exact absurd H (by simp)
  rw [if_neg c5] at H
  exact absurd H (by simp)
 rw [if_neg c3] at H
 exact absurd H (by simp)
end Go.Proofs.YtjnhdamilbcmpaaDoor.PTm

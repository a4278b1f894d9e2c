import Derived.Test.YtjnhdamilbcmpaaDoorCuPTmx0
import Derived.Test.YtjnhdamilbcmpaaDoorCuPTmx11
import Derived.Test.YtjnhdamilbcmpaaDoorCuPTmx12
import Derived.Test.YtjnhdamilbcmpaaDoorCuPTmx15
namespace Go.Proofs.YtjnhdamilbcmpaaDoor.PTm
open Go.RowKit Go.Proofs.YtjnhdamilbcmpaaDoorW.PrintWords Go.Proofs.YtjnhdamilbcmpaaDoorW.PrintLast Go.Proofs.YtjnhdamilbcmpaaDoorW.PrintMore
attribute [local go_sem] max2_int min2_int max_two min_two max_three min_three max_four min_four
set_option linter.unusedVariables false
set_option linter.unusedSimpArgs false
set_option maxHeartbeats 8000000
set_option maxRecDepth 100000
def term_text.f (k : Nat) (a0_0 : Int) (a0_1 : ByteArray) (a0_2 : ByteArray) : Option (ByteArray) := if a0_0 = 1 then (if 1 + a0_1.size ≤ 9223372036854775807 then (if ((⟨#[60]⟩ : ByteArray) ++ a0_1).size + 1 ≤ 9223372036854775807 then (some (((⟨#[60]⟩ : ByteArray) ++ a0_1) ++ (⟨#[62]⟩ : ByteArray))) else (none)) else (none)) else (if a0_0 = 2 then (if 2 + a0_1.size ≤ 9223372036854775807 then (some ((⟨#[95, 58]⟩ : ByteArray) ++ a0_1)) else (none)) else (if a0_0 = 4 then ((term_written.f k a0_1).bind fun t327 => (if t327.size + 1 ≤ 9223372036854775807 then (if (t327 ++ (⟨#[64]⟩ : ByteArray)).size + a0_2.size ≤ 9223372036854775807 then (some ((t327 ++ (⟨#[64]⟩ : ByteArray)) ++ a0_2)) else (none)) else (none))) else (if a0_0 = 5 then ((term_written.f k a0_1).bind fun t328 => (if t328.size + 3 ≤ 9223372036854775807 then (if (t328 ++ (⟨#[94, 94, 60]⟩ : ByteArray)).size + a0_2.size ≤ 9223372036854775807 then (if ((t328 ++ (⟨#[94, 94, 60]⟩ : ByteArray)) ++ a0_2).size + 1 ≤ 9223372036854775807 then (some (((t328 ++ (⟨#[94, 94, 60]⟩ : ByteArray)) ++ a0_2) ++ (⟨#[62]⟩ : ByteArray))) else (none)) else (none)) else (none))) else ((term_written.f k a0_1).bind fun t329 => (some t329)))))
def term_text.T7 : Bool × List (List Nat × List Nat) := (true, [([], []), ([0], [0]), ([1], [1]), ([2], [2]), ([], []), ([4], [4]), ([3, 5], [3, 5]), ([6, 2, 0, 1, 2, 3, 4, 5, 6], [6])])
def term_text.B7 : List Nat := [0, 1, 3, 7, 0, 16, 63, 127]
theorem term_text.tab7 : rtab .any (opsOf Tryd.f23 7) = term_text.T7 := by kernel_rfl
theorem term_text.bits7 : waitsOk term_text.T7.2 term_text.B7 = true := by kernel_rfl
def term_text.T9 : Bool × List (List Nat × List Nat) := (true, [([], []), ([0], [0]), ([1], [1]), ([2], [2]), ([], []), ([4], [4]), ([3, 5], [3, 5]), ([6], [6]), ([7, 2, 0, 1, 2, 3, 4, 5, 6, 7], [7])])
def term_text.B9 : List Nat := [0, 1, 3, 7, 0, 16, 63, 127, 255]
theorem term_text.tab9 : rtab .any (opsOf Tryd.f23 9) = term_text.T9 := by kernel_rfl
theorem term_text.bits9 : waitsOk term_text.T9.2 term_text.B9 = true := by kernel_rfl
theorem term_text.calls (k : Nat) (a0_0 : Int) (a0_1 : ByteArray) (a0_2 : ByteArray) (r : ByteArray) (w : World) (h : term_text.f k a0_0 a0_1 a0_2 = some r) :
  Calls Tryd.prog 23 #[.agg #[.int .i64 a0_0, .string a0_1, .string a0_2]] w fun e w' => e = .returned (.string r) ∧ Below w.heap.size w w' := by
 have hu36 := Tryd.underlying36
 have HB := Ad.mk (Below.refl w.heap.size w)
 have H := h
 clear h
 unfold term_text.f at H
 by_cases c2 : a0_0 = 1
 ·rw [if_pos c2] at H
  have c2b0 := beq_iff_eq.mpr c2
  have c2b1 := bne_eq_false_iff_eq.mpr c2
  clear c2
  by_cases c3 : 1 + a0_1.size ≤ 9223372036854775807
  ·rw [if_pos c3] at H
   have c3b0 := eq_true c3
   have c3b1 := decide_eq_true c3
   try have c3b2 : (9223372036854775807 < 1 + a0_1.size) = False := eq_false (Nat.not_lt.2 c3)
   by_cases c4 : ((⟨#[60]⟩ : ByteArray) ++ a0_1).size + 1 ≤ 9223372036854775807
   ·rw [if_pos c4] at H
    have c4b0 := eq_true c4
    have c4b1 := decide_eq_true c4
    try have c4b2 : (9223372036854775807 < ((⟨#[60]⟩ : ByteArray) ++ a0_1).size + 1) = False := eq_false (Nat.not_lt.2 c4)
    try have c4b3 : (9223372036854775807 < 1 + a0_1.size + 1) = False := eq_false (by have h_ := c4; simp only [ByteArray.size_append] at h_; exact Nat.not_lt.2 h_)
    obtain rfl := Option.some.inj H
    go_enter Tryd.func23, Tryd.ntmps23
    go_wp2_with (first | ((with_reducible refine gate_dst (N := 1) rfl ?_); refine box_event r1_ (N := 1) r1_ (cs := #[.int .i64 a0_0, .string a0_1, .string a0_2]) (t := 36) r2_ ?_; intro gb326 hg w5 hbox hb; have BK326 := Ad.mk (hbox); have GW326 := Ad.mk (bs_ : w.heap.size ≤ gb326); have GE326 := Ad.mk (bs_ : w.heap.size ≤ gb326); replace HB := Ad.mk (below_step b1_ hb); clear hb hbox hg; have hcz6_0 := cl_ (.int .i64 a0_0) BK326.out 0; have hcz6_1 := cl_ (.string a0_1) BK326.out 1; have hcz6_2 := cl_ (.string a0_2) BK326.out 2; have hfz6_0 := blk_frozen BK326.out 0; have hfz6_1 := blk_frozen BK326.out 1; have hfz6_2 := blk_frozen BK326.out 2))
    go_ret
    exact ⟨e2_, by have G0 := GE326; exact z11_⟩
   rw [if_neg c4] at H
   exact absurd H (by simp)
  rw [if_neg c3] at H
  exact absurd H (by simp)
 rw [if_neg c2] at H
 have c2b0 := beq_eq_false_iff_ne.mpr c2
 have c2b1 := bne_iff_ne.mpr c2
 by_cases c7 : a0_0 = 2
 ·rw [if_pos c7] at H
  have c7b0 := beq_iff_eq.mpr c7
  have c7b1 := bne_eq_false_iff_eq.mpr c7
  clear c7
  by_cases c8 : 2 + a0_1.size ≤ 9223372036854775807
  ·rw [if_pos c8] at H
   have c8b0 := eq_true c8
   have c8b1 := decide_eq_true c8
   try have c8b2 : (9223372036854775807 < 2 + a0_1.size) = False := eq_false (Nat.not_lt.2 c8)
   obtain rfl := Option.some.inj H
   go_enter Tryd.func23, Tryd.ntmps23
   go_wp2_with (first | ((with_reducible refine gate_dst (N := 1) rfl ?_); refine box_event r1_ (N := 1) r1_ (cs := #[.int .i64 a0_0, .string a0_1, .string a0_2]) (t := 36) r2_ ?_; intro gb326 hg w9 hbox hb; have BK326 := Ad.mk (hbox); have GW326 := Ad.mk (bs_ : w.heap.size ≤ gb326); have GE326 := Ad.mk (bs_ : w.heap.size ≤ gb326); replace HB := Ad.mk (below_step b1_ hb); clear hb hbox hg; have hcz10_0 := cl_ (.int .i64 a0_0) BK326.out 0; have hcz10_1 := cl_ (.string a0_1) BK326.out 1; have hcz10_2 := cl_ (.string a0_2) BK326.out 2; have hfz10_0 := blk_frozen BK326.out 0; have hfz10_1 := blk_frozen BK326.out 1; have hfz10_2 := blk_frozen BK326.out 2))
   go_ret
   exact ⟨e2_, by have G0 := GE326; exact z11_⟩
  rw [if_neg c8] at H
  exact absurd H (by simp)
 rw [if_neg c7] at H
 have c7b0 := beq_eq_false_iff_ne.mpr c7
 have c7b1 := bne_iff_ne.mpr c7
 by_cases c11 : a0_0 = 4
 ·rw [if_pos c11] at H
  have c11b0 := beq_iff_eq.mpr c11
  have c11b1 := bne_eq_false_iff_eq.mpr c11
  clear c11
  obtain ⟨t327, A12, H⟩ := bi_ H
  by_cases c13 : t327.size + 1 ≤ 9223372036854775807
  ·rw [if_pos c13] at H
   have c13b0 := eq_true c13
   have c13b1 := decide_eq_true c13
   try have c13b2 : (9223372036854775807 < t327.size + 1) = False := eq_false (Nat.not_lt.2 c13)
   by_cases c14 : (t327 ++ (⟨#[64]⟩ : ByteArray)).size + a0_2.size ≤ 9223372036854775807
   ·rw [if_pos c14] at H
    have c14b0 := eq_true c14
    have c14b1 := decide_eq_true c14
    try have c14b2 : (9223372036854775807 < (t327 ++ (⟨#[64]⟩ : ByteArray)).size + a0_2.size) = False := eq_false (Nat.not_lt.2 c14)
    try have c14b3 : (9223372036854775807 < t327.size + 1 + a0_2.size) = False := eq_false (by have h_ := c14; simp only [ByteArray.size_append] at h_; exact Nat.not_lt.2 h_)
    obtain rfl := Option.some.inj H
    go_enter Tryd.func23, Tryd.ntmps23
    try go_wp2_with (first | ((with_reducible refine gate_dst (N := 1) rfl ?_); refine box_event r1_ (N := 1) r1_ (cs := #[.int .i64 a0_0, .string a0_1, .string a0_2]) (t := 36) r2_ ?_; intro gb326 hg w15 hbox hb; have BK326 := Ad.mk (hbox); have GW326 := Ad.mk (bs_ : w.heap.size ≤ gb326); have GE326 := Ad.mk (bs_ : w.heap.size ≤ gb326); replace HB := Ad.mk (below_step b1_ hb); clear hb hbox hg; have hcz16_0 := cl_ (.int .i64 a0_0) BK326.out 0; have hcz16_1 := cl_ (.string a0_1) BK326.out 1; have hcz16_2 := cl_ (.string a0_2) BK326.out 2; have hfz16_0 := blk_frozen BK326.out 0; have hfz16_1 := blk_frozen BK326.out 1; have hfz16_2 := blk_frozen BK326.out 2))
    have n0_ := Ad.mk (blk_drew BK326.out)
    have n1_ := Ad.mk (below_drew1 HB.out)
    clear BK326
    clear HB
    have BK326 := n0_
    have HB := n1_
    clear n0_ n1_
    refine start_ (n := 8) (S := fun w' => w'.cell? ⟨gb326, 0, none⟩ = some (.int .i64 a0_0) ∧ w'.cell? ⟨gb326, 1, none⟩ = some (.string a0_1) ∧ w'.cell? ⟨gb326, 2, none⟩ = some (.string a0_2)) (ds := []) #[false, false, false, false, false, false, false, false] k1_ rfl rfl ⟨(blk_cell BK326.out 0).trans rfl, (blk_cell BK326.out 1).trans rfl, (blk_cell BK326.out 2).trans rfl⟩ (fun hHeld => ?_); refine with_tabW term_text.tab7 term_text.bits7 (fun HT_ HW_ => ?_)
    generalize w15.drew = w17 at BK326 HB hHeld ⊢
    refine pure_ (i := 0) (N := some 18) #[true, false, false, false, false, false, false, false] rfl rfl (any_of HT_.out k1_) (fun _ _ _ h => h) (Or.inl ⟨by rfl, py_⟩) pa_ ?_
    refine pure_ (i := 4) (N := some 22) #[true, false, false, false, true, false, false, false] rfl rfl (any_of HT_.out k1_) (fun _ _ _ h => h) (Or.inl ⟨by rfl, py_⟩) pa_ ?_
    refine take_ (i := 1) (N := some 19) (v := ?_) (a' := ?_) #[true, true, false, false, true, false, false, false] rfl rfl (take_ofW HT_.out HW_.out k1_) (fun _ _ _ h => h) (Or.inl ⟨by rfl, ?_⟩) hHeld ?_ ?_
    rotate_left
    ·rintro w' ⟨s0, s1, s2⟩
     go_simp
     with_reducible rfl
    rotate_left
    ·simp only [Act.put, List.setIfInBounds_toArray, List.set_cons_zero, List.set_cons_succ, i64_w, i32_w]
     rfl
    refine take_ (i := 5) (N := some 23) (v := ?_) (a' := ?_) #[true, true, false, false, true, true, false, false] rfl rfl (take_ofW HT_.out HW_.out k1_) (fun _ _ _ h => h) (Or.inl ⟨by rfl, ?_⟩) hHeld ?_ ?_
    rotate_left
    ·rintro w' ⟨s0, s1, s2⟩
     go_simp
     with_reducible rfl
    rotate_left
    ·simp only [Act.put, List.setIfInBounds_toArray, List.set_cons_zero, List.set_cons_succ, i64_w, i32_w]
     rfl
    refine one_ (i := 2) (N := some 20) #[true, true, true, false, true, true, false, false] rfl rfl (one_of HT_.out k1_) (by decide) (fun K hK => ?_)
    refine goes_ Tryd.func30 k1_ rfl #[.string a0_1] (by rfl) rfl rfl g1_ ?_
    with_reducible refine (term_written.calls k a0_1 t327 _ A12.out).mono ?_
    rintro e w18 ⟨rfl, hb⟩
    refine ⟨_, rfl, ?_⟩
    have n0_ := Ad.mk (blk_below (g := gb326) (o := .cells #[.int .i64 a0_0, .string a0_1, .string a0_2] 36 (0, 0)) (bd_ BK326.out) hb)
    have n1_ := Ad.mk (below_step (by have GE := GE326; exact b2_) hb)
    clear BK326
    clear HB
    have BK326 := n0_
    have HB := n1_
    clear n0_ n1_
    (try clear hb)
    (try clear hb2)
    (try clear hk)
    (try clear hi)
    refine hK.out _ _ ⟨(blk_cell BK326.out 0).trans rfl, (blk_cell BK326.out 1).trans rfl, (blk_cell BK326.out 2).trans rfl⟩ (fun hHeld => ?_)
    clear hK K
    refine norm_ (a' := ?_) ?_ ?_
    rotate_left
    ·show Act.put _ (some 20) _ = _
     simp only [Act.put, List.setIfInBounds_toArray, List.set_cons_zero, List.set_cons_succ, i64_w, i32_w]
     rfl
    refine pure_ (i := 3) (N := some 21) #[true, true, true, true, true, true, false, false] rfl rfl (any_of HT_.out k1_) (fun _ _ _ h => h) (Or.inl ⟨by rfl, py_⟩) pa_ ?_
    refine pure_ (i := 6) (N := some 24) #[true, true, true, true, true, true, true, false] rfl rfl (any_of HT_.out k1_) (fun _ _ _ h => h) (Or.inl ⟨by rfl, py_⟩) pa_ ?_
    refine pure_ (i := 7) (N := some 2) #[true, true, true, true, true, true, true, true] rfl rfl (any_of HT_.out k1_) (fun _ _ _ h => h) (Or.inl ⟨by rfl, py_⟩) pa_ ?_
    refine done_ (done_of HT_.out k1_) ?_
    try go_wp2
    go_ret
    exact ⟨e2_, by have G0 := GE326; exact z11_⟩
   rw [if_neg c14] at H
   exact absurd H (by simp)
  rw [if_neg c13] at H
  exact absurd H (by simp)
 rw [if_neg c11] at H
 have c11b0 := beq_eq_false_iff_ne.mpr c11
 have c11b1 := bne_iff_ne.mpr c11
 by_cases c19 : a0_0 = 5
 ·rw [if_pos c19] at H
  have c19b0 := beq_iff_eq.mpr c19
  have c19b1 := bne_eq_false_iff_eq.mpr c19
  clear c19
  obtain ⟨t328, A20, H⟩ := bi_ H
  by_cases c21 : t328.size + 3 ≤ 9223372036854775807
  ·rw [if_pos c21] at H
   have c21b0 := eq_true c21
   have c21b1 := decide_eq_true c21
   try have c21b2 : (9223372036854775807 < t328.size + 3) = False := eq_false (Nat.not_lt.2 c21)
   by_cases c22 : (t328 ++ (⟨#[94, 94, 60]⟩ : ByteArray)).size + a0_2.size ≤ 9223372036854775807
   ·rw [if_pos c22] at H
    have c22b0 := eq_true c22
    have c22b1 := decide_eq_true c22
    try have c22b2 : (9223372036854775807 < (t328 ++ (⟨#[94, 94, 60]⟩ : ByteArray)).size + a0_2.size) = False := eq_false (Nat.not_lt.2 c22)
    try have c22b3 : (9223372036854775807 < t328.size + 3 + a0_2.size) = False := eq_false (by have h_ := c22; simp only [ByteArray.size_append] at h_; exact Nat.not_lt.2 h_)
    by_cases c23 : ((t328 ++ (⟨#[94, 94, 60]⟩ : ByteArray)) ++ a0_2).size + 1 ≤ 9223372036854775807
    ·rw [if_pos c23] at H
     have c23b0 := eq_true c23
     have c23b1 := decide_eq_true c23
     try have c23b2 : (9223372036854775807 < ((t328 ++ (⟨#[94, 94, 60]⟩ : ByteArray)) ++ a0_2).size + 1) = False := eq_false (Nat.not_lt.2 c23)
     try have c23b3 : (9223372036854775807 < t328.size + 3 + a0_2.size + 1) = False := eq_false (by have h_ := c23; simp only [ByteArray.size_append] at h_; exact Nat.not_lt.2 h_)
     obtain rfl := Option.some.inj H
     go_enter Tryd.func23, Tryd.ntmps23
     try go_wp2_with (first | ((with_reducible refine gate_dst (N := 1) rfl ?_); refine box_event r1_ (N := 1) r1_ (cs := #[.int .i64 a0_0, .string a0_1, .string a0_2]) (t := 36) r2_ ?_; intro gb326 hg w24 hbox hb; have BK326 := Ad.mk (hbox); have GW326 := Ad.mk (bs_ : w.heap.size ≤ gb326); have GE326 := Ad.mk (bs_ : w.heap.size ≤ gb326); replace HB := Ad.mk (below_step b1_ hb); clear hb hbox hg; have hcz25_0 := cl_ (.int .i64 a0_0) BK326.out 0; have hcz25_1 := cl_ (.string a0_1) BK326.out 1; have hcz25_2 := cl_ (.string a0_2) BK326.out 2; have hfz25_0 := blk_frozen BK326.out 0; have hfz25_1 := blk_frozen BK326.out 1; have hfz25_2 := blk_frozen BK326.out 2))
     have n0_ := Ad.mk (blk_drew BK326.out)
     have n1_ := Ad.mk (below_drew1 HB.out)
     clear BK326
     clear HB
     have BK326 := n0_
     have HB := n1_
     clear n0_ n1_
     refine start_ (n := 9) (S := fun w' => w'.cell? ⟨gb326, 0, none⟩ = some (.int .i64 a0_0) ∧ w'.cell? ⟨gb326, 1, none⟩ = some (.string a0_1) ∧ w'.cell? ⟨gb326, 2, none⟩ = some (.string a0_2)) (ds := []) #[false, false, false, false, false, false, false, false, false] k1_ rfl rfl ⟨(blk_cell BK326.out 0).trans rfl, (blk_cell BK326.out 1).trans rfl, (blk_cell BK326.out 2).trans rfl⟩ (fun hHeld => ?_); refine with_tabW term_text.tab9 term_text.bits9 (fun HT_ HW_ => ?_)
     generalize w24.drew = w26 at BK326 HB hHeld ⊢
     refine pure_ (i := 0) (N := some 27) #[true, false, false, false, false, false, false, false, false] rfl rfl (any_of HT_.out k1_) (fun _ _ _ h => h) (Or.inl ⟨by rfl, py_⟩) pa_ ?_
     refine pure_ (i := 4) (N := some 31) #[true, false, false, false, true, false, false, false, false] rfl rfl (any_of HT_.out k1_) (fun _ _ _ h => h) (Or.inl ⟨by rfl, py_⟩) pa_ ?_
     refine take_ (i := 1) (N := some 28) (v := ?_) (a' := ?_) #[true, true, false, false, true, false, false, false, false] rfl rfl (take_ofW HT_.out HW_.out k1_) (fun _ _ _ h => h) (Or.inl ⟨by rfl, ?_⟩) hHeld ?_ ?_
     rotate_left
     ·rintro w' ⟨s0, s1, s2⟩
      go_simp
      with_reducible rfl
     rotate_left
     ·simp only [Act.put, List.setIfInBounds_toArray, List.set_cons_zero, List.set_cons_succ, i64_w, i32_w]
      rfl
     refine take_ (i := 5) (N := some 32) (v := ?_) (a' := ?_) #[true, true, false, false, true, true, false, false, false] rfl rfl (take_ofW HT_.out HW_.out k1_) (fun _ _ _ h => h) (Or.inl ⟨by rfl, ?_⟩) hHeld ?_ ?_
     rotate_left
     ·rintro w' ⟨s0, s1, s2⟩
      go_simp
      with_reducible rfl
     rotate_left
     ·simp only [Act.put, List.setIfInBounds_toArray, List.set_cons_zero, List.set_cons_succ, i64_w, i32_w]
      rfl
     refine one_ (i := 2) (N := some 29) #[true, true, true, false, true, true, false, false, false] rfl rfl (one_of HT_.out k1_) (by decide) (fun K hK => ?_)
     refine goes_ Tryd.func30 k1_ rfl #[.string a0_1] (by rfl) rfl rfl g1_ ?_
     with_reducible refine (term_written.calls k a0_1 t328 _ A20.out).mono ?_
     rintro e w27 ⟨rfl, hb⟩
     refine ⟨_, rfl, ?_⟩
     have n0_ := Ad.mk (blk_below (g := gb326) (o := .cells #[.int .i64 a0_0, .string a0_1, .string a0_2] 36 (0, 0)) (bd_ BK326.out) hb)
     have n1_ := Ad.mk (below_step (by have GE := GE326; exact b2_) hb)
     clear BK326
     clear HB
     have BK326 := n0_
     have HB := n1_
     clear n0_ n1_
     (try clear hb)
     (try clear hb2)
     (try clear hk)
     (try clear hi)
     refine hK.out _ _ ⟨(blk_cell BK326.out 0).trans rfl, (blk_cell BK326.out 1).trans rfl, (blk_cell BK326.out 2).trans rfl⟩ (fun hHeld => ?_)
     clear hK K
     refine norm_ (a' := ?_) ?_ ?_
     rotate_left
     ·show Act.put _ (some 29) _ = _
      simp only [Act.put, List.setIfInBounds_toArray, List.set_cons_zero, List.set_cons_succ, i64_w, i32_w]
      rfl
     refine pure_ (i := 3) (N := some 30) #[true, true, true, true, true, true, false, false, false] rfl rfl (any_of HT_.out k1_) (fun _ _ _ h => h) (Or.inl ⟨by rfl, py_⟩) pa_ ?_
     refine pure_ (i := 6) (N := some 33) #[true, true, true, true, true, true, true, false, false] rfl rfl (any_of HT_.out k1_) (fun _ _ _ h => h) (Or.inl ⟨by rfl, py_⟩) pa_ ?_
     refine pure_ (i := 7) (N := some 34) #[true, true, true, true, true, true, true, true, false] rfl rfl (any_of HT_.out k1_) (fun _ _ _ h => h) (Or.inl ⟨by rfl, py_⟩) pa_ ?_
     refine pure_ (i := 8) (N := some 2) #[true, true, true, true, true, true, true, true, true] rfl rfl (any_of HT_.out k1_) (fun _ _ _ h => h) (Or.inl ⟨by rfl, py_⟩) pa_ ?_
     refine done_ (done_of HT_.out k1_) ?_
     try go_wp2
     go_ret
     exact ⟨e2_, by have G0 := GE326; exact z11_⟩
    rw [if_neg c23] at H
    exact absurd H (by simp)
   rw [if_neg c22] at H
   exact absurd H (by simp)
  rw [if_neg c21] at H
  exact absurd H (by simp)
 rw [if_neg c19] at H
 have c19b0 := beq_eq_false_iff_ne.mpr c19
 have c19b1 := bne_iff_ne.mpr c19
 obtain ⟨t329, A28, H⟩ := bi_ H
 obtain rfl := Option.some.inj H
 go_enter Tryd.func23, Tryd.ntmps23
 go_wp2_with (first | ((with_reducible refine gate_dst (N := 1) rfl ?_); refine box_event r1_ (N := 1) r1_ (cs := #[.int .i64 a0_0, .string a0_1, .string a0_2]) (t := 36) r2_ ?_; intro gb326 hg w29 hbox hb; have BK326 := Ad.mk (hbox); have GW326 := Ad.mk (bs_ : w.heap.size ≤ gb326); have GE326 := Ad.mk (bs_ : w.heap.size ≤ gb326); replace HB := Ad.mk (below_step b1_ hb); clear hb hbox hg; have hcz30_0 := cl_ (.int .i64 a0_0) BK326.out 0; have hcz30_1 := cl_ (.string a0_1) BK326.out 1; have hcz30_2 := cl_ (.string a0_2) BK326.out 2; have hfz30_0 := blk_frozen BK326.out 0; have hfz30_1 := blk_frozen BK326.out 1; have hfz30_2 := blk_frozen BK326.out 2) | ((with_reducible refine gate_callee (f := 30) rfl ?_); refine goesL_ (some 37) rfl rfl Tryd.func30 k1_ rfl #[.string a0_1] rfl g1_ ?_; (with_reducible refine (term_written.calls k a0_1 t329 _ A28.out).mono ?_); rintro e w31 ⟨rfl, hb⟩; refine ⟨_, rfl, ?_⟩; replace BK326 := Ad.mk (blk_below (g := gb326) (o := .cells #[.int .i64 a0_0, .string a0_1, .string a0_2] 36 (0, 0)) (bd_ BK326.out) hb); replace HB := Ad.mk (below_step (by have GE := GE326; exact b2_) hb); clear hb))
 go_ret
 exact ⟨e2_, by have G0 := GE326; exact z11_⟩
def term_TripleText.f (k : Nat) (a0_0 : Int) (a0_1 : ByteArray) (a0_2 : ByteArray) (a0_3 : Int) (a0_4 : ByteArray) (a0_5 : ByteArray) (a0_6 : Int) (a0_7 : ByteArray) (a0_8 : ByteArray) : Option (ByteArray × Int) := (term_MayFollow.f k a0_0 a0_1 a0_2 a0_3 a0_4 a0_5 a0_6 a0_7 a0_8).bind fun t331 => (if t331 = true then ((term_text.f k a0_0 a0_1 a0_2).bind fun t332 => (if t332.size + 1 ≤ 9223372036854775807 then ((term_text.f k a0_3 a0_4 a0_5).bind fun t333 => (if (t332 ++ (⟨#[32]⟩ : ByteArray)).size + t333.size ≤ 9223372036854775807 then (if ((t332 ++ (⟨#[32]⟩ : ByteArray)) ++ t333).size + 1 ≤ 9223372036854775807 then ((term_text.f k a0_6 a0_7 a0_8).bind fun t334 => (if (((t332 ++ (⟨#[32]⟩ : ByteArray)) ++ t333) ++ (⟨#[32]⟩ : ByteArray)).size + t334.size ≤ 9223372036854775807 then (if ((((t332 ++ (⟨#[32]⟩ : ByteArray)) ++ t333) ++ (⟨#[32]⟩ : ByteArray)) ++ t334).size + 2 ≤ 9223372036854775807 then (some (((((t332 ++ (⟨#[32]⟩ : ByteArray)) ++ t333) ++ (⟨#[32]⟩ : ByteArray)) ++ t334) ++ (⟨#[32, 46]⟩ : ByteArray), 0)) else (none)) else (none))) else (none)) else (none))) else (none))) else (some ((⟨#[]⟩ : ByteArray), 2)))
def term_TripleText.T3 : Bool × List (List Nat × List Nat) := (true, [([], []), ([0], [0]), ([1], [1]), ([2], [2]), ([], []), ([4], [4]), ([5, 2], [5]), ([3, 6], [3, 6]), ([7], [7]), ([], []), ([9], [9]), ([10, 6], [10]), ([8, 11], [8, 11]), ([12], [12]), ([13, 11, 0, 1, 2, 3, 4, 5, 6, 7, 8, 9, 10, 11, 12, 13], [13]), ([14, 0, 1, 2, 3, 4, 5, 6, 7, 8, 9, 10, 11, 12, 13, 14], [])])
def term_TripleText.B3 : List Nat := [0, 1, 3, 7, 0, 16, 55, 127, 255, 0, 512, 1655, 4095, 8191, 16383, 32767]
theorem term_TripleText.tab3 : rtab .any (opsOf Tryd.f13 3) = term_TripleText.T3 := by kernel_rfl
theorem term_TripleText.bits3 : waitsOk term_TripleText.T3.2 term_TripleText.B3 = true := by kernel_rfl
theorem term_TripleText.calls (k : Nat) (a0_0 : Int) (a0_1 : ByteArray) (a0_2 : ByteArray) (a0_3 : Int) (a0_4 : ByteArray) (a0_5 : ByteArray) (a0_6 : Int) (a0_7 : ByteArray) (a0_8 : ByteArray) (r1 : ByteArray) (r2 : Int) (w : World) (h : term_TripleText.f k a0_0 a0_1 a0_2 a0_3 a0_4 a0_5 a0_6 a0_7 a0_8 = some (r1, r2)) :
  Calls Tryd.prog 13 #[.agg #[.int .i64 a0_0, .string a0_1, .string a0_2, .int .i64 a0_3, .string a0_4, .string a0_5, .int .i64 a0_6, .string a0_7, .string a0_8]] w fun e w' => e = .returned (.tuple #[.string r1, .int .i64 r2]) ∧ Below w.heap.size w w' := by
 have hu38 := Tryd.underlying38
 have hu36 := Tryd.underlying36
 have HB := Ad.mk (Below.refl w.heap.size w)
 have H := h
 clear h
 unfold term_TripleText.f at H
 obtain ⟨t331, A2, H⟩ := bi_ H
 by_cases c3 : t331 = true
 ·subst c3
  rw [if_pos rfl] at H
  obtain ⟨t332, A4, H⟩ := bi_ H
  by_cases c5 : t332.size + 1 ≤ 9223372036854775807
  ·rw [if_pos c5] at H
   have c5b0 := eq_true c5
   have c5b1 := decide_eq_true c5
   try have c5b2 : (9223372036854775807 < t332.size + 1) = False := eq_false (Nat.not_lt.2 c5)
   obtain ⟨t333, A6, H⟩ := bi_ H
   by_cases c7 : (t332 ++ (⟨#[32]⟩ : ByteArray)).size + t333.size ≤ 9223372036854775807
   ·rw [if_pos c7] at H
    have c7b0 := eq_true c7
    have c7b1 := decide_eq_true c7
    try have c7b2 : (9223372036854775807 < (t332 ++ (⟨#[32]⟩ : ByteArray)).size + t333.size) = False := eq_false (Nat.not_lt.2 c7)
    try have c7b3 : (9223372036854775807 < t332.size + 1 + t333.size) = False := eq_false (by have h_ := c7; simp only [ByteArray.size_append] at h_; exact Nat.not_lt.2 h_)
    by_cases c8 : ((t332 ++ (⟨#[32]⟩ : ByteArray)) ++ t333).size + 1 ≤ 9223372036854775807
    ·rw [if_pos c8] at H
     have c8b0 := eq_true c8
     have c8b1 := decide_eq_true c8
     try have c8b2 : (9223372036854775807 < ((t332 ++ (⟨#[32]⟩ : ByteArray)) ++ t333).size + 1) = False := eq_false (Nat.not_lt.2 c8)
     try have c8b3 : (9223372036854775807 < t332.size + 1 + t333.size + 1) = False := eq_false (by have h_ := c8; simp only [ByteArray.size_append] at h_; exact Nat.not_lt.2 h_)
     obtain ⟨t334, A9, H⟩ := bi_ H
     by_cases c10 : (((t332 ++ (⟨#[32]⟩ : ByteArray)) ++ t333) ++ (⟨#[32]⟩ : ByteArray)).size + t334.size ≤ 9223372036854775807
     ·rw [if_pos c10] at H
      have c10b0 := eq_true c10
      have c10b1 := decide_eq_true c10
      try have c10b2 : (9223372036854775807 < (((t332 ++ (⟨#[32]⟩ : ByteArray)) ++ t333) ++ (⟨#[32]⟩ : ByteArray)).size + t334.size) = False := eq_false (Nat.not_lt.2 c10)
      try have c10b3 : (9223372036854775807 < t332.size + 1 + t333.size + 1 + t334.size) = False := eq_false (by have h_ := c10; simp only [ByteArray.size_append] at h_; exact Nat.not_lt.2 h_)
      by_cases c11 : ((((t332 ++ (⟨#[32]⟩ : ByteArray)) ++ t333) ++ (⟨#[32]⟩ : ByteArray)) ++ t334).size + 2 ≤ 9223372036854775807
      ·rw [if_pos c11] at H
       have c11b0 := eq_true c11
       have c11b1 := decide_eq_true c11
       try have c11b2 : (9223372036854775807 < ((((t332 ++ (⟨#[32]⟩ : ByteArray)) ++ t333) ++ (⟨#[32]⟩ : ByteArray)) ++ t334).size + 2) = False := eq_false (Nat.not_lt.2 c11)
       try have c11b3 : (9223372036854775807 < t332.size + 1 + t333.size + 1 + t334.size + 2) = False := eq_false (by have h_ := c11; simp only [ByteArray.size_append] at h_; exact Nat.not_lt.2 h_)
       simp only [Option.some.injEq, Prod.mk.injEq] at H
       obtain ⟨rfl, rfl⟩ := H
       go_enter Tryd.func13, Tryd.ntmps13
       try go_wp2_with (first | ((with_reducible refine gate_dst (N := 1) rfl ?_); refine box_event r1_ (N := 1) r1_ (cs := #[.int .i64 a0_0, .string a0_1, .string a0_2, .int .i64 a0_3, .string a0_4, .string a0_5, .int .i64 a0_6, .string a0_7, .string a0_8]) (t := 38) r2_ ?_; intro gb330 hg w12 hbox hb; have BK330 := Ad.mk (hbox); have GW330 := Ad.mk (bs_ : w.heap.size ≤ gb330); have GE330 := Ad.mk (bs_ : w.heap.size ≤ gb330); replace HB := Ad.mk (below_step b1_ hb); clear hb hbox hg; have hcz13_0 := cl_ (.int .i64 a0_0) BK330.out 0; have hcz13_1 := cl_ (.string a0_1) BK330.out 1; have hcz13_2 := cl_ (.string a0_2) BK330.out 2; have hcz13_3 := cl_ (.int .i64 a0_3) BK330.out 3; have hcz13_4 := cl_ (.string a0_4) BK330.out 4; have hcz13_5 := cl_ (.string a0_5) BK330.out 5; have hcz13_6 := cl_ (.int .i64 a0_6) BK330.out 6; have hcz13_7 := cl_ (.string a0_7) BK330.out 7; have hcz13_8 := cl_ (.string a0_8) BK330.out 8; have hfz13_0 := blk_frozen BK330.out 0; have hfz13_1 := blk_frozen BK330.out 1; have hfz13_2 := blk_frozen BK330.out 2; have hfz13_3 := blk_frozen BK330.out 3; have hfz13_4 := blk_frozen BK330.out 4; have hfz13_5 := blk_frozen BK330.out 5; have hfz13_6 := blk_frozen BK330.out 6; have hfz13_7 := blk_frozen BK330.out 7; have hfz13_8 := blk_frozen BK330.out 8) | ((with_reducible refine gate_callee (f := 22) rfl ?_); refine goesL_ (some 5) rfl rfl Tryd.func22 k1_ rfl #[.agg #[.int .i64 a0_0, .string a0_1, .string a0_2, .int .i64 a0_3, .string a0_4, .string a0_5, .int .i64 a0_6, .string a0_7, .string a0_8]] rfl g1_ ?_; (with_reducible refine (term_MayFollow.calls k a0_0 a0_1 a0_2 a0_3 a0_4 a0_5 a0_6 a0_7 a0_8 true _ A2.out).mono ?_); rintro e w14 ⟨rfl, hb⟩; refine ⟨_, rfl, ?_⟩; replace BK330 := Ad.mk (blk_below (g := gb330) (o := .cells #[.int .i64 a0_0, .string a0_1, .string a0_2, .int .i64 a0_3, .string a0_4, .string a0_5, .int .i64 a0_6, .string a0_7, .string a0_8] 38 (0, 0)) (bd_ BK330.out) hb); replace HB := Ad.mk (below_step z43_ hb); clear hb))
       have n0_ := Ad.mk (blk_drew BK330.out)
       have n1_ := Ad.mk (below_drew1 HB.out)
       clear BK330
       clear HB
       have BK330 := n0_
       have HB := n1_
       clear n0_ n1_
       refine start_ (n := 16) (S := fun w' => w'.cell? ⟨gb330, 0, none⟩ = some (.int .i64 a0_0) ∧ w'.cell? ⟨gb330, 1, none⟩ = some (.string a0_1) ∧ w'.cell? ⟨gb330, 2, none⟩ = some (.string a0_2) ∧ w'.cell? ⟨gb330, 3, none⟩ = some (.int .i64 a0_3) ∧ w'.cell? ⟨gb330, 4, none⟩ = some (.string a0_4) ∧ w'.cell? ⟨gb330, 5, none⟩ = some (.string a0_5) ∧ w'.cell? ⟨gb330, 6, none⟩ = some (.int .i64 a0_6) ∧ w'.cell? ⟨gb330, 7, none⟩ = some (.string a0_7) ∧ w'.cell? ⟨gb330, 8, none⟩ = some (.string a0_8)) (ds := []) #[false, false, false, false, false, false, false, false, false, false, false, false, false, false, false, false] k1_ rfl rfl ⟨(blk_cell BK330.out 0).trans rfl, (blk_cell BK330.out 1).trans rfl, (blk_cell BK330.out 2).trans rfl, (blk_cell BK330.out 3).trans rfl, (blk_cell BK330.out 4).trans rfl, (blk_cell BK330.out 5).trans rfl, (blk_cell BK330.out 6).trans rfl, (blk_cell BK330.out 7).trans rfl, (blk_cell BK330.out 8).trans rfl⟩ (fun hHeld => ?_); refine with_tabW term_TripleText.tab3 term_TripleText.bits3 (fun HT_ HW_ => ?_)
       generalize w14.drew = w15 at BK330 HB hHeld ⊢
       refine pure_ (i := 0) (N := some 7) #[true, false, false, false, false, false, false, false, false, false, false, false, false, false, false, false] rfl rfl (any_of HT_.out k1_) (fun _ _ _ h => h) (Or.inl ⟨by rfl, py_⟩) pa_ ?_
       refine pure_ (i := 4) (N := some 11) #[true, false, false, false, true, false, false, false, false, false, false, false, false, false, false, false] rfl rfl (any_of HT_.out k1_) (fun _ _ _ h => h) (Or.inl ⟨by rfl, py_⟩) pa_ ?_
       refine pure_ (i := 9) (N := some 16) #[true, false, false, false, true, false, false, false, false, true, false, false, false, false, false, false] rfl rfl (any_of HT_.out k1_) (fun _ _ _ h => h) (Or.inl ⟨by rfl, py_⟩) pa_ ?_
       refine take_ (i := 1) (N := some 8) (v := ?_) (a' := ?_) #[true, true, false, false, true, false, false, false, false, true, false, false, false, false, false, false] rfl rfl (take_ofW HT_.out HW_.out k1_) (fun _ _ _ h => h) (Or.inl ⟨by rfl, ?_⟩) hHeld ?_ ?_
       rotate_left
       ·rintro w' ⟨s0, s1, s2, s3, s4, s5, s6, s7, s8⟩
        go_simp
        with_reducible rfl
       rotate_left
       ·simp only [Act.put, List.setIfInBounds_toArray, List.set_cons_zero, List.set_cons_succ, i64_w, i32_w]
        rfl
       refine take_ (i := 5) (N := some 12) (v := ?_) (a' := ?_) #[true, true, false, false, true, true, false, false, false, true, false, false, false, false, false, false] rfl rfl (take_ofW HT_.out HW_.out k1_) (fun _ _ _ h => h) (Or.inl ⟨by rfl, ?_⟩) hHeld ?_ ?_
       rotate_left
       ·rintro w' ⟨s0, s1, s2, s3, s4, s5, s6, s7, s8⟩
        go_simp
        with_reducible rfl
       rotate_left
       ·simp only [Act.put, List.setIfInBounds_toArray, List.set_cons_zero, List.set_cons_succ, i64_w, i32_w]
        rfl
       refine take_ (i := 10) (N := some 17) (v := ?_) (a' := ?_) #[true, true, false, false, true, true, false, false, false, true, true, false, false, false, false, false] rfl rfl (take_ofW HT_.out HW_.out k1_) (fun _ _ _ h => h) (Or.inl ⟨by rfl, ?_⟩) hHeld ?_ ?_
       rotate_left
       ·rintro w' ⟨s0, s1, s2, s3, s4, s5, s6, s7, s8⟩
        go_simp
        with_reducible rfl
       rotate_left
       ·simp only [Act.put, List.setIfInBounds_toArray, List.set_cons_zero, List.set_cons_succ, i64_w, i32_w]
        rfl
       refine one_ (i := 2) (N := some 9) #[true, true, true, false, true, true, false, false, false, true, true, false, false, false, false, false] rfl rfl (one_of HT_.out k1_) (by decide) (fun K hK => ?_)
       refine goes_ Tryd.func23 k1_ rfl #[.agg #[.int .i64 a0_0, .string a0_1, .string a0_2]] (by rfl) rfl rfl g1_ ?_
       with_reducible refine (term_text.calls k a0_0 a0_1 a0_2 t332 _ A4.out).mono ?_
       rintro e w16 ⟨rfl, hb⟩
       refine ⟨_, rfl, ?_⟩
       have n0_ := Ad.mk (blk_below (g := gb330) (o := .cells #[.int .i64 a0_0, .string a0_1, .string a0_2, .int .i64 a0_3, .string a0_4, .string a0_5, .int .i64 a0_6, .string a0_7, .string a0_8] 38 (0, 0)) (bd_ BK330.out) hb)
       have n1_ := Ad.mk (below_step z43_ hb)
       clear BK330
       clear HB
       have BK330 := n0_
       have HB := n1_
       clear n0_ n1_
       (try clear hb)
       (try clear hb2)
       (try clear hk)
       (try clear hi)
       refine hK.out _ _ ⟨(blk_cell BK330.out 0).trans rfl, (blk_cell BK330.out 1).trans rfl, (blk_cell BK330.out 2).trans rfl, (blk_cell BK330.out 3).trans rfl, (blk_cell BK330.out 4).trans rfl, (blk_cell BK330.out 5).trans rfl, (blk_cell BK330.out 6).trans rfl, (blk_cell BK330.out 7).trans rfl, (blk_cell BK330.out 8).trans rfl⟩ (fun hHeld => ?_)
       clear hK K
       refine norm_ (a' := ?_) ?_ ?_
       rotate_left
       ·show Act.put _ (some 9) _ = _
        simp only [Act.put, List.setIfInBounds_toArray, List.set_cons_zero, List.set_cons_succ, i64_w, i32_w]
        rfl
       refine pure_ (i := 3) (N := some 10) #[true, true, true, true, true, true, false, false, false, true, true, false, false, false, false, false] rfl rfl (any_of HT_.out k1_) (fun _ _ _ h => h) (Or.inl ⟨by rfl, py_⟩) pa_ ?_
       refine one_ (i := 6) (N := some 13) #[true, true, true, true, true, true, true, false, false, true, true, false, false, false, false, false] rfl rfl (one_of HT_.out k1_) (by decide) (fun K hK => ?_)
       refine goes_ Tryd.func23 k1_ rfl #[.agg #[.int .i64 a0_3, .string a0_4, .string a0_5]] (by rfl) rfl rfl g1_ ?_
       with_reducible refine (term_text.calls k a0_3 a0_4 a0_5 t333 _ A6.out).mono ?_
       rintro e w17 ⟨rfl, hb⟩
       refine ⟨_, rfl, ?_⟩
       have n0_ := Ad.mk (blk_below (g := gb330) (o := .cells #[.int .i64 a0_0, .string a0_1, .string a0_2, .int .i64 a0_3, .string a0_4, .string a0_5, .int .i64 a0_6, .string a0_7, .string a0_8] 38 (0, 0)) (bd_ BK330.out) hb)
       have n1_ := Ad.mk (below_step z43_ hb)
       clear BK330
       clear HB
       have BK330 := n0_
       have HB := n1_
       clear n0_ n1_
       (try clear hb)
       (try clear hb2)
       (try clear hk)
       (try clear hi)
       refine hK.out _ _ ⟨(blk_cell BK330.out 0).trans rfl, (blk_cell BK330.out 1).trans rfl, (blk_cell BK330.out 2).trans rfl, (blk_cell BK330.out 3).trans rfl, (blk_cell BK330.out 4).trans rfl, (blk_cell BK330.out 5).trans rfl, (blk_cell BK330.out 6).trans rfl, (blk_cell BK330.out 7).trans rfl, (blk_cell BK330.out 8).trans rfl⟩ (fun hHeld => ?_)
       clear hK K
       refine norm_ (a' := ?_) ?_ ?_
       rotate_left
       ·show Act.put _ (some 13) _ = _
        simp only [Act.put, List.setIfInBounds_toArray, List.set_cons_zero, List.set_cons_succ, i64_w, i32_w]
        rfl
       refine pure_ (i := 7) (N := some 14) #[true, true, true, true, true, true, true, true, false, true, true, false, false, false, false, false] rfl rfl (any_of HT_.out k1_) (fun _ _ _ h => h) (Or.inl ⟨by rfl, py_⟩) pa_ ?_
       refine pure_ (i := 8) (N := some 15) #[true, true, true, true, true, true, true, true, true, true, true, false, false, false, false, false] rfl rfl (any_of HT_.out k1_) (fun _ _ _ h => h) (Or.inl ⟨by rfl, py_⟩) pa_ ?_
       refine one_ (i := 11) (N := some 18) #[true, true, true, true, true, true, true, true, true, true, true, true, false, false, false, false] rfl rfl (one_of HT_.out k1_) (by decide) (fun K hK => ?_)
       refine goes_ Tryd.func23 k1_ rfl #[.agg #[.int .i64 a0_6, .string a0_7, .string a0_8]] (by rfl) rfl rfl g1_ ?_
       with_reducible refine (term_text.calls k a0_6 a0_7 a0_8 t334 _ A9.out).mono ?_
       rintro e w18 ⟨rfl, hb⟩
       refine ⟨_, rfl, ?_⟩
       have n0_ := Ad.mk (blk_below (g := gb330) (o := .cells #[.int .i64 a0_0, .string a0_1, .string a0_2, .int .i64 a0_3, .string a0_4, .string a0_5, .int .i64 a0_6, .string a0_7, .string a0_8] 38 (0, 0)) (bd_ BK330.out) hb)
       have n1_ := Ad.mk (below_step z43_ hb)
       clear BK330
       clear HB
       have BK330 := n0_
       have HB := n1_
       clear n0_ n1_
       (try clear hb)
       (try clear hb2)
       (try clear hk)
       (try clear hi)
       refine hK.out _ _ ⟨(blk_cell BK330.out 0).trans rfl, (blk_cell BK330.out 1).trans rfl, (blk_cell BK330.out 2).trans rfl, (blk_cell BK330.out 3).trans rfl, (blk_cell BK330.out 4).trans rfl, (blk_cell BK330.out 5).trans rfl, (blk_cell BK330.out 6).trans rfl, (blk_cell BK330.out 7).trans rfl, (blk_cell BK330.out 8).trans rfl⟩ (fun hHeld => ?_)
       clear hK K
       refine norm_ (a' := ?_) ?_ ?_
       rotate_left
       ·show Act.put _ (some 18) _ = _
        simp only [Act.put, List.setIfInBounds_toArray, List.set_cons_zero, List.set_cons_succ, i64_w, i32_w]
        rfl
       refine pure_ (i := 12) (N := some 19) #[true, true, true, true, true, true, true, true, true, true, true, true, true, false, false, false] rfl rfl (any_of HT_.out k1_) (fun _ _ _ h => h) (Or.inl ⟨by rfl, py_⟩) pa_ ?_
       refine pure_ (i := 13) (N := some 20) #[true, true, true, true, true, true, true, true, true, true, true, true, true, true, false, false] rfl rfl (any_of HT_.out k1_) (fun _ _ _ h => h) (Or.inl ⟨by rfl, py_⟩) pa_ ?_
       refine pure_ (i := 14) (N := some 2) #[true, true, true, true, true, true, true, true, true, true, true, true, true, true, true, false] rfl rfl (any_of HT_.out k1_) (fun _ _ _ h => h) (Or.inl ⟨by rfl, py_⟩) pa_ ?_
       refine pure_ (i := 15) (N := some 3) #[true, true, true, true, true, true, true, true, true, true, true, true, true, true, true, true] rfl rfl (any_of HT_.out k1_) (fun _ _ _ h => h) (Or.inl ⟨by rfl, py_⟩) pa_ ?_
       refine done_ (done_of HT_.out k1_) ?_
       try go_wp2
       go_ret2
       exact ⟨e2_, by have G0 := GE330; exact z11_⟩
      rw [if_neg c11] at H
      exact absurd H (by simp)
     rw [if_neg c10] at H
     exact absurd H (by simp)
    rw [if_neg c8] at H
    exact absurd H (by simp)
   rw [if_neg c7] at H
   exact absurd H (by simp)
  rw [if_neg c5] at H
  exact absurd H (by simp)
 replace c3 := Bool.eq_false_iff.mpr c3
 subst c3
 rw [if_neg (show ¬ (false = true) by decide)] at H
 simp only [Option.some.injEq, Prod.mk.injEq] at H
 obtain ⟨rfl, rfl⟩ := H
 go_enter Tryd.func13, Tryd.ntmps13
 go_wp2_with (first | ((with_reducible refine gate_dst (N := 1) rfl ?_); refine box_event r1_ (N := 1) r1_ (cs := #[.int .i64 a0_0, .string a0_1, .string a0_2, .int .i64 a0_3, .string a0_4, .string a0_5, .int .i64 a0_6, .string a0_7, .string a0_8]) (t := 38) r2_ ?_; intro gb330 hg w19 hbox hb; have BK330 := Ad.mk (hbox); have GW330 := Ad.mk (bs_ : w.heap.size ≤ gb330); have GE330 := Ad.mk (bs_ : w.heap.size ≤ gb330); replace HB := Ad.mk (below_step b1_ hb); clear hb hbox hg; have hcz20_0 := cl_ (.int .i64 a0_0) BK330.out 0; have hcz20_1 := cl_ (.string a0_1) BK330.out 1; have hcz20_2 := cl_ (.string a0_2) BK330.out 2; have hcz20_3 := cl_ (.int .i64 a0_3) BK330.out 3; have hcz20_4 := cl_ (.string a0_4) BK330.out 4; have hcz20_5 := cl_ (.string a0_5) BK330.out 5; have hcz20_6 := cl_ (.int .i64 a0_6) BK330.out 6; have hcz20_7 := cl_ (.string a0_7) BK330.out 7; have hcz20_8 := cl_ (.string a0_8) BK330.out 8; have hfz20_0 := blk_frozen BK330.out 0; have hfz20_1 := blk_frozen BK330.out 1; have hfz20_2 := blk_frozen BK330.out 2; have hfz20_3 := blk_frozen BK330.out 3; have hfz20_4 := blk_frozen BK330.out 4; have hfz20_5 := blk_frozen BK330.out 5; have hfz20_6 := blk_frozen BK330.out 6; have hfz20_7 := blk_frozen BK330.out 7; have hfz20_8 := blk_frozen BK330.out 8) | ((with_reducible refine gate_callee (f := 22) rfl ?_); refine goesL_ (some 5) rfl rfl Tryd.func22 k1_ rfl #[.agg #[.int .i64 a0_0, .string a0_1, .string a0_2, .int .i64 a0_3, .string a0_4, .string a0_5, .int .i64 a0_6, .string a0_7, .string a0_8]] rfl g1_ ?_; (with_reducible refine (term_MayFollow.calls k a0_0 a0_1 a0_2 a0_3 a0_4 a0_5 a0_6 a0_7 a0_8 false _ A2.out).mono ?_); rintro e w21 ⟨rfl, hb⟩; refine ⟨_, rfl, ?_⟩; replace BK330 := Ad.mk (blk_below (g := gb330) (o := .cells #[.int .i64 a0_0, .string a0_1, .string a0_2, .int .i64 a0_3, .string a0_4, .string a0_5, .int .i64 a0_6, .string a0_7, .string a0_8] 38 (0, 0)) (bd_ BK330.out) hb); replace HB := Ad.mk (below_step z43_ hb); clear hb))
 go_ret2
 exact ⟨e2_, by have G0 := GE330; exact z11_⟩
section
set_option maxHeartbeats 1000000 in
set_option maxRecDepth 100000 in
theorem bld_check_used (b : Nat) (w : World) (h0 : w.cell? ⟨b, 0, none⟩ = some (.pointer (some ⟨b, 0, none⟩))) :
  Calls Tryd.prog 24 #[.pointer (some ⟨b, 0, none⟩)] w fun e w' => e = .returned (.tuple #[]) ∧ w' = w := by
 obtain ⟨j, hj, _⟩ := Option.map_eq_some_iff.1 (show (Tryd.prog.info? 42).map (·.size) = some 2 by kernel_rfl)
 go_enter Tryd.func24, Tryd.ntmps24
 go_wp2
 try rw [Lib.run_neq_ptr_same w _ Tryd.underlying39 hj]
 try go_wp2
 go_end0
 exact ⟨rfl, rfl⟩
set_option maxHeartbeats 1000000 in
set_option maxRecDepth 100000 in
theorem bld_check_fresh (b : Nat) (w : World) (h0 : w.cell? ⟨b, 0, none⟩ = some (.pointer none)) (hsh : w.shape? b = some (42, 2)) (hfz : w.frozen? ⟨b, 0, none⟩ = false) :
  Calls Tryd.prog 24 #[.pointer (some ⟨b, 0, none⟩)] w fun e w' => e = .returned (.tuple #[]) ∧ w' = w.setCell ⟨b, 0, none⟩ (.pointer (some ⟨b, 0, none⟩)) := by
 obtain ⟨j, hj, hjs⟩ := Option.map_eq_some_iff.1 (show (Tryd.prog.info? 42).map (·.size) = some 2 by kernel_rfl)
 have hlies : liesAt Tryd.prog Tryd.prog.depth 42 (2 / Tryd.prog.cellsOf 42) 0 42 1 = true := by kernel_rfl
 go_enter Tryd.func24, Tryd.ntmps24
 go_wp2
 rw [Lib.run_to_unsafe w ⟨b, 0, none⟩ Tryd.underlying39 Tryd.underlying72 hj (by rw [hjs]; decide) hsh (Nat.zero_lt_succ 1)]
 simp only [Result.andThen]
 rw [Oper.upon_value]
 go_wp2
 rw [run_callFunc_extern Tryd.func31 k1_ k1_ k1_ (e := Extern.AbiNoEscape.same) k1_]
 rw [Lib.run_noEscape]
 simp only [Result.andThen]
 rw [Oper.upon_value]
 go_wp2
 rw [Lib.run_from_unsafe w ⟨b, 0, none⟩ Tryd.underlying72 Tryd.underlying39 hj hsh hlies]
 simp only [Result.andThen]
 rw [Oper.upon_value]
 go_wp2
 go_end0
 exact ⟨rfl, rfl⟩
theorem bld_check (B b : Nat) (bs : List Value) (w : World) (h : Lib.IsBuilder 42 5 B b bs w) :
  Calls Tryd.prog 24 #[.pointer (some ⟨b, 0, none⟩)] w fun e w' => e = .returned (.tuple #[]) ∧ (Lib.BuilderAt 42 5 B b (.pointer (some ⟨b, 0, none⟩)) bs w' ∧ Below B w w') := by
 rcases h with h | h
 ·refine (bld_check_fresh b w h.cell0 h.shape h.frozen0).mono ?_
  rintro e w' ⟨rfl, rfl⟩
  exact ⟨rfl, h.used _, (Below.refl B w).setCell (p := ⟨b, 0, none⟩) h.1 _⟩
 refine (bld_check_used b w h.cell0).mono ?_
 rintro e w' ⟨rfl, rfl⟩
 exact ⟨rfl, h, Below.refl B _⟩
set_option maxHeartbeats 2000000 in
set_option maxRecDepth 100000 in
theorem bld_WriteString (B b : Nat) (bs : List Value) (s : ByteArray) (w : World) (h : Lib.IsBuilder 42 5 B b bs w) (hlen : bs.length + s.size ≤ 140737488355328) (hBw : B ≤ w.heap.size) :
  Calls Tryd.prog 15 #[.pointer (some ⟨b, 0, none⟩), .string s] w fun e w' => e = .returned (.tuple #[.int .i64 s.size, .nilIface]) ∧ (Lib.BuilderAt 42 5 B b (.pointer (some ⟨b, 0, none⟩)) (bs ++ Lib.strCells s) w' ∧ Below B w w') := by
 obtain ⟨i0, hi, hz0, hz1, hz2⟩ := info_parts (show (Tryd.prog.info? 5).map (fun i => (i.zero, i.size, i.bytes)) = some (some (.int .u8 0), 1, 1) by kernel_rfl)
 go_enter Tryd.func15, Tryd.ntmps15
 go_wp2_with (go_at_call 24; refine (bld_check B b bs _ h).mono ?_)
 rintro e w1 ⟨rfl, h1, hb1⟩
 obtain ⟨hB, v, hbk, hown, hne⟩ := h1
 have c0 : w1.cell? ⟨b, 0, none⟩ = some (.pointer (some ⟨b, 0, none⟩)) := by rw [Lib.cell_of_heap hbk]; rfl
 have c1 : w1.cell? ⟨b, 1, none⟩ = some v := by rw [Lib.cell_of_heap hbk]; rfl
 go_wp2_with (at_builtin; refine Lib.wpList_append_own_string _ rfl _ _ 40 9 rfl B 5 i0 Tryd.underlying40 Tryd.underlying9 hi hz0 hz1 hz2 _ _ _ rfl hown s rfl ?c3 ?c4 ?c5 ?_)
 case c3 => unfold maxLen; omega
 case c4 => omega
 case c5 => have := hb1.size; omega
 intro v' w2 hown' hgrow _
 have hlt : b < w1.heap.size := by
  rcases Nat.lt_or_ge b w1.heap.size with h' | h'
  ·exact h'
  simp [Array.getElem?_eq_none h'] at hbk
 have hb2 : w2.heap[b]? = some (.cells #[.pointer (some ⟨b, 0, none⟩), v] 42 (0, 0)) := by
  rw [hgrow.block b hlt (fun e => hne e.symm)]
  exact hbk
 have d0 : w2.cell? ⟨b, 0, none⟩ = some (.pointer (some ⟨b, 0, none⟩)) := by rw [Lib.cell_of_heap hb2]; rfl
 have d1 : w2.cell? ⟨b, 1, none⟩ = some v := by rw [Lib.cell_of_heap hb2]; rfl
 have f1 : w2.frozen? ⟨b, 1, none⟩ = false := Lib.frozen_of_heap hb2 1
 obtain ⟨ao, n', cap, rfl⟩ : ∃ ao n' cap, v' = .slice ao n' cap := by
  rcases hown'.2 with ⟨hv, _⟩ | ⟨g, cap, cur, hv, _⟩
  ·exact ⟨_, _, _, hv⟩
  exact ⟨_, _, _, hv⟩
 go_wp2
 go_ret2
 refine ⟨rfl, ?_, ?_⟩
 ·exact Lib.BuilderAt.put (T := 42) (e := 5) hB hb2 (bs' := bs ++ Lib.strCells s) (by simpa [Lib.strCells_length] using hown') (by decide)
 exact (hb1.grown hgrow (by have := hb1.size; omega) (fun k hk => (hown.lt k hk).1)).setCell (p := ⟨b, 1, none⟩) hB _
end
theorem isBuilder_below {T e : TypeId} {B b : Nat} {bs : List Value} {w w1 : World} (h : Lib.IsBuilder T e B b bs w) (hb : Below w.heap.size w w1) : Lib.IsBuilder T e B b bs w1 := by
 have key : ∀ p, Lib.BuilderAt T e B b p bs w → Lib.BuilderAt T e B b p bs w1 := by
  rintro p ⟨hB, v, hv, ho, hne⟩
  exact ⟨hB, v, blk_below hv hb, own_move ho (fun k hk => hb.block k (own_lt ho k hk)), hne⟩
 exact h.imp (key _) (key _)
def nt_Text.l0 : Nat → List S38 → List UInt8 → Int → Option (ByteArray × Int)
 | 0, _, _, _ => none
 | k + 1, l, bs, i => if i < (l.length : Int) then (if 0 ≤ i then ((term_MayAdd.f k ((rd_T38 l i).f0.f0) ((rd_T38 l i).f0.f1) ((rd_T38 l i).f0.f2) ((rd_T38 l i).f1.f0) ((rd_T38 l i).f1.f1) ((rd_T38 l i).f1.f2) ((rd_T38 l i).f2.f0) ((rd_T38 l i).f2.f1) ((rd_T38 l i).f2.f2)).bind fun m => if m = true then ((term_TripleText.f k ((rd_T38 l i).f0.f0) ((rd_T38 l i).f0.f1) ((rd_T38 l i).f0.f2) ((rd_T38 l i).f1.f0) ((rd_T38 l i).f1.f1) ((rd_T38 l i).f1.f2) ((rd_T38 l i).f2.f0) ((rd_T38 l i).f2.f1) ((rd_T38 l i).f2.f2)).bind fun (t, _) => if (bs.length : Int) ≤ 1048576 then (if t.size + 1 ≤ 140737487300000 then nt_Text.l0 k l (bs ++ (t ++ (⟨#[10]⟩ : ByteArray)).data.toList) (wrap64 (i + 1)) else none) else nt_Text.l0 k l bs (wrap64 (i + 1))) else some ((⟨#[]⟩ : ByteArray), 2)) else none) else (if (bs.length : Int) > 1048576 then some ((⟨#[]⟩ : ByteArray), 3) else some ((⟨bs.toArray⟩ : ByteArray), 0))
def nt_Text.f (k : Nat) (l : List S38) : Option (ByteArray × Int) := nt_Text.l0 k l [] 0
structure TX (w W : World) (g gy : Nat) (bs : List UInt8) (cs : Array Value) : Prop where
 below : Below w.heap.size w W
 y : W.heap[gy]? = some (.cells cs 38 (0, 0))
 yw : w.heap.size ≤ gy
 bld : ∃ W0, Lib.IsBuilder 42 5 w.heap.size g (Lib.byteCells bs) W0 ∧ Below W0.heap.size W0 W ∧ W0.heap.size ≤ gy
theorem TX.new {w W0 W : World} {g gy : Nat} {bs : List UInt8} {cs : Array Value} (hB : Below w.heap.size w W0) (hb : Lib.IsBuilder 42 5 w.heap.size g (Lib.byteCells bs) W0) (hg : gy = W0.heap.size) (hy : W.heap[gy]? = some (.cells cs 38 (0, 0))) (h : Below W0.heap.size W0 W) : TX w W g gy bs cs :=
 ⟨below_then hB hB.size h, hy, by rw [hg]; exact hB.size, W0, hb, h, Nat.le_of_eq hg.symm⟩
theorem TX.upy {w W W' : World} {g gy : Nat} {bs : List UInt8} {cs cs' : Array Value} (h : TX w W g gy bs cs) (hu : Upd W W' gy) (hn : W'.heap[gy]? = some (.cells cs' 38 (0, 0))) : TX w W' g gy bs cs' := by
 obtain ⟨h1, h2, h3, W0, h4, h5, h6⟩ := h
 exact ⟨h1.trans (hu.below h3), hn, h3, W0, h4, h5.trans (hu.below h6), h6⟩
theorem TX.lower {w W W' : World} {g gy : Nat} {bs : List UInt8} {cs : Array Value} (h : TX w W g gy bs cs) (hb : Below W.heap.size W W') : TX w W' g gy bs cs := by
 obtain ⟨h1, h2, h3, W0, h4, h5, h6⟩ := h
 exact ⟨below_then h1 h1.size hb, blk_below h2 hb, h3, W0, h4, below_then h5 h5.size hb, h6⟩
theorem TX.is {w W : World} {g gy : Nat} {bs : List UInt8} {cs : Array Value} (h : TX w W g gy bs cs) : Lib.IsBuilder 42 5 w.heap.size g (Lib.byteCells bs) W := by
 obtain ⟨h1, h2, h3, W0, h4, h5, h6⟩ := h
 exact isBuilder_below h4 h5
theorem bld_new {T e : TypeId} {w W : World} {g : Nat} (hg : g = w.heap.size) (hbox : W.heap[g]? = some (.cells #[.pointer none, .slice none 0 0] T (0, 0))) : Lib.IsBuilder T e w.heap.size g (Lib.byteCells []) W :=
 .inl ⟨Nat.le_of_eq hg.symm, _, hbox, ⟨by simp [Lib.byteCells], .inl ⟨rfl, rfl⟩⟩, by simp [Value.ownBlock]⟩
theorem byteCells_str (bs : List UInt8) (s : ByteArray) : Lib.byteCells (bs ++ s.data.toList) = Lib.byteCells bs ++ Lib.strCells s := by
 simp [Lib.byteCells, Lib.strCells]
theorem bld_Len (B b : Nat) (bs : List UInt8) (w : World) (h : Lib.IsBuilder 42 5 B b (Lib.byteCells bs) w) :
  Calls Tryd.prog 14 #[.pointer (some ⟨b, 0, none⟩)] w fun e w' => e = .returned (.int .i64 bs.length) ∧ w' = w := by
 refine (Tryd.Builder_Len B b _ w h).mono ?_
 rintro e w' ⟨rfl, rfl⟩
 exact ⟨by rw [Lib.byteCells_length], rfl⟩
set_option maxHeartbeats 4000000 in
set_option maxRecDepth 100000 in
theorem nt_Text.calls (k : Nat) (A0 : Option Addr) (c0 : Nat) (l0 : List (S38)) (r1 : ByteArray) (r2 : Int) (w : World) (hr0 : Kd.C k38 w A0 l0.length l0) (hc0 : l0.length ≤ c0) (h : nt_Text.f k l0 = some (r1, r2)) :
  Calls Tryd.prog 7 #[.slice A0 l0.length c0] w fun e w' => e = .returned (.tuple #[.string r1, .int .i64 r2]) ∧ Below w.heap.size w w' := by
 have hu33 := Tryd.underlying38
 have HR0 := Ad.mk hr0
 have HC0 := Ad.mk hc0
 clear hr0 hc0
 have H' := Ad.mk (show nt_Text.l0 k l0 [] 0 = some (r1, r2) from h)
 clear h
 go_enter Tryd.func7, Tryd.ntmps7
 go_wp2_with (first | ((with_reducible refine gate_dst (N := 4) rfl ?_); refine box_event r1_ (N := 4) r1_ (cs := #[.pointer none, .slice none 0 0]) (t := 42) r2_ ?_; intro g hg w1 hbox hb; have HB := Ad.mk (show Below w.heap.size w w1 ∧ Lib.IsBuilder 42 5 w.heap.size g (Lib.byteCells []) w1 from ⟨hb, bld_new hg hbox⟩); clear hg hbox hb))
 go_loopg [11] k (fun kq v11 w' => ∃ (bs : List UInt8) (i : Int), v11 = .int .i64 i ∧ Ad (nt_Text.l0 kq l0 bs i = some (r1, r2)) ∧ Ad (kq ≤ k) ∧ Ad (Below w.heap.size w w') ∧ Ad (Lib.IsBuilder 42 5 w.heap.size g (Lib.byteCells bs) w'))
 case atStart => exact ⟨[], 0, rfl, H', ⟨Nat.le_refl _⟩, ⟨HB.out.1⟩, ⟨HB.out.2⟩⟩
 case round =>
  clear H' HB
  obtain ⟨bs, i, rfl, HA, HK1, HB, HI⟩ := hrel
  cases gk with
  | zero => exact absurd HA.out (by simp [nt_Text.l0])
  | succ k1 =>
   have H := HA.out
   clear HA
   simp only [nt_Text.l0] at H
   by_cases c1 : i < (l0.length : Int)
   ·rw [if_pos c1] at H
    have c1b : decide (i < (l0.length : Int)) = true := decide_eq_true c1
    by_cases c2 : 0 ≤ i
    ·rw [if_pos c2] at H
     have c2b : decide (0 ≤ i) = true := decide_eq_true c2
     obtain ⟨m, A0, H⟩ := Option.bind_eq_some_iff.mp H
     have AM := Ad.mk A0
     clear A0
     obtain ⟨ad, e, hx0, hx1, hx2, hx3, hx4, hx5, hx6, hx7, hx8⟩ := at_T38 (Kd.C_below HR0.out HB.out) i c2 c1
     cases e
     cases m with
     | false =>
      rw [if_neg (by decide)] at H
      simp only [Option.some.injEq, Prod.mk.injEq] at H
      obtain ⟨rfl, rfl⟩ := H
      go_wp2_with (first | ((with_reducible refine gate_dst (N := 6) rfl ?_); refine box_event r1_ (N := 6) r1_ (cs := #[.int .i64 0, .string ⟨#[]⟩, .string ⟨#[]⟩, .int .i64 0, .string ⟨#[]⟩, .string ⟨#[]⟩, .int .i64 0, .string ⟨#[]⟩, .string ⟨#[]⟩]) (t := 38) r2_ ?_; intro gy hgy w2 hy hb; have HX := Ad.mk (TX.new HB.out HI.out hgy hy hb); clear hgy hy hb HB HI; clear hx0 hx1 hx2 hx3 hx4 hx5 hx6 hx7 hx8) | ((with_reducible refine gate_store (t := 38) (p := 6) rfl ?_); refine store_seg (gy := gy) (j := 0) (T := 38) (TB := 38) (cs := #[.int .i64 0, .string ⟨#[]⟩, .string ⟨#[]⟩, .int .i64 0, .string ⟨#[]⟩, .string ⟨#[]⟩, .int .i64 0, .string ⟨#[]⟩, .string ⟨#[]⟩]) (new := #[.int .i64 ((rd_T38 l0 i).f0.f0), .string ((rd_T38 l0 i).f0.f1), .string ((rd_T38 l0 i).f0.f2), .int .i64 ((rd_T38 l0 i).f1.f0), .string ((rd_T38 l0 i).f1.f1), .string ((rd_T38 l0 i).f1.f2), .int .i64 ((rd_T38 l0 i).f2.f0), .string ((rd_T38 l0 i).f2.f1), .string ((rd_T38 l0 i).f2.f2)]) (u := .agg #[.int .i64 ((rd_T38 l0 i).f0.f0), .string ((rd_T38 l0 i).f0.f1), .string ((rd_T38 l0 i).f0.f2), .int .i64 ((rd_T38 l0 i).f1.f0), .string ((rd_T38 l0 i).f1.f1), .string ((rd_T38 l0 i).f1.f2), .int .i64 ((rd_T38 l0 i).f2.f0), .string ((rd_T38 l0 i).f2.f1), .string ((rd_T38 l0 i).f2.f2)]) (seg := [.int .i64 ((rd_T38 l0 i).f0.f0), .string ((rd_T38 l0 i).f0.f1), .string ((rd_T38 l0 i).f0.f2), .int .i64 ((rd_T38 l0 i).f1.f0), .string ((rd_T38 l0 i).f1.f1), .string ((rd_T38 l0 i).f1.f2), .int .i64 ((rd_T38 l0 i).f2.f0), .string ((rd_T38 l0 i).f2.f1), .string ((rd_T38 l0 i).f2.f2)]) rfl (p := .tmp 6) (x := .tmp 14) rfl rfl r1_ r1_ r1_ HX.out.y k1_ s1_ h1_ rfl ?_; intro w3 hz hup; have HY := Ad.mk (HX.out.upy hup hz); clear HX hz hup; have hy0 := (blk_cell HY.out.y 0).trans (show _ = some (.int .i64 ((rd_T38 l0 i).f0.f0)) from rfl); have hy1 := (blk_cell HY.out.y 1).trans (show _ = some (.string ((rd_T38 l0 i).f0.f1)) from rfl); have hy2 := (blk_cell HY.out.y 2).trans (show _ = some (.string ((rd_T38 l0 i).f0.f2)) from rfl); have hy3 := (blk_cell HY.out.y 3).trans (show _ = some (.int .i64 ((rd_T38 l0 i).f1.f0)) from rfl); have hy4 := (blk_cell HY.out.y 4).trans (show _ = some (.string ((rd_T38 l0 i).f1.f1)) from rfl); have hy5 := (blk_cell HY.out.y 5).trans (show _ = some (.string ((rd_T38 l0 i).f1.f2)) from rfl); have hy6 := (blk_cell HY.out.y 6).trans (show _ = some (.int .i64 ((rd_T38 l0 i).f2.f0)) from rfl); have hy7 := (blk_cell HY.out.y 7).trans (show _ = some (.string ((rd_T38 l0 i).f2.f1)) from rfl); have hy8 := (blk_cell HY.out.y 8).trans (show _ = some (.string ((rd_T38 l0 i).f2.f2)) from rfl)) | (go_at_call 12; refine (term_MayAdd.calls k1 ((rd_T38 l0 i).f0.f0) ((rd_T38 l0 i).f0.f1) ((rd_T38 l0 i).f0.f2) ((rd_T38 l0 i).f1.f0) ((rd_T38 l0 i).f1.f1) ((rd_T38 l0 i).f1.f2) ((rd_T38 l0 i).f2.f0) ((rd_T38 l0 i).f2.f1) ((rd_T38 l0 i).f2.f2) false _ AM.out).mono ?_; rintro e w4 ⟨rfl, hb⟩; have HY1 := Ad.mk (HY.out.lower hb); clear HY hb; clear hy0 hy1 hy2 hy3 hy4 hy5 hy6 hy7 hy8; have hz0 := (blk_cell HY1.out.y 0).trans (show _ = some (.int .i64 ((rd_T38 l0 i).f0.f0)) from rfl); have hz1 := (blk_cell HY1.out.y 1).trans (show _ = some (.string ((rd_T38 l0 i).f0.f1)) from rfl); have hz2 := (blk_cell HY1.out.y 2).trans (show _ = some (.string ((rd_T38 l0 i).f0.f2)) from rfl); have hz3 := (blk_cell HY1.out.y 3).trans (show _ = some (.int .i64 ((rd_T38 l0 i).f1.f0)) from rfl); have hz4 := (blk_cell HY1.out.y 4).trans (show _ = some (.string ((rd_T38 l0 i).f1.f1)) from rfl); have hz5 := (blk_cell HY1.out.y 5).trans (show _ = some (.string ((rd_T38 l0 i).f1.f2)) from rfl); have hz6 := (blk_cell HY1.out.y 6).trans (show _ = some (.int .i64 ((rd_T38 l0 i).f2.f0)) from rfl); have hz7 := (blk_cell HY1.out.y 7).trans (show _ = some (.string ((rd_T38 l0 i).f2.f1)) from rfl); have hz8 := (blk_cell HY1.out.y 8).trans (show _ = some (.string ((rd_T38 l0 i).f2.f2)) from rfl)))
      go_ret2
      exact ⟨rfl, HY1.out.below⟩
     | true =>
      rw [if_pos rfl] at H
      obtain ⟨⟨t, u⟩, A0, H⟩ := Option.bind_eq_some_iff.mp H
      have AT := Ad.mk A0
      clear A0
      simp only at H
      by_cases c3 : (bs.length : Int) ≤ 1048576
      ·have c3b : decide ((bs.length : Int) ≤ 1048576) = true := decide_eq_true c3
       rw [if_pos c3] at H
       by_cases c4 : t.size + 1 ≤ 140737487300000
       case neg => rw [if_neg c4] at H; cases H
       rw [if_pos c4] at H
       have hsz : (t ++ (⟨#[10]⟩ : ByteArray)).size = t.size + 1 := by rw [ByteArray.size_append]; rfl
       have LB := Ad.mk (show (Lib.byteCells bs).length + (t ++ (⟨#[10]⟩ : ByteArray)).size ≤ 140737488355328 by rw [Lib.byteCells_length, hsz]; omega)
       have hb3 : (9223372036854775807 < (t ++ (⟨#[10]⟩ : ByteArray)).size) = False := eq_false (by rw [hsz]; omega)
       have hb4 : (9223372036854775807 < t.size + 1) = False := eq_false (by omega)
       have H' := Ad.mk H
       clear H c4 c3 hsz
       go_wp2_with (first | ((with_reducible refine gate_dst (N := 6) rfl ?_); refine box_event r1_ (N := 6) r1_ (cs := #[.int .i64 0, .string ⟨#[]⟩, .string ⟨#[]⟩, .int .i64 0, .string ⟨#[]⟩, .string ⟨#[]⟩, .int .i64 0, .string ⟨#[]⟩, .string ⟨#[]⟩]) (t := 38) r2_ ?_; intro gy hgy w2 hy hb; have HX := Ad.mk (TX.new HB.out HI.out hgy hy hb); clear hgy hy hb HB HI; clear hx0 hx1 hx2 hx3 hx4 hx5 hx6 hx7 hx8) | ((with_reducible refine gate_store (t := 38) (p := 6) rfl ?_); refine store_seg (gy := gy) (j := 0) (T := 38) (TB := 38) (cs := #[.int .i64 0, .string ⟨#[]⟩, .string ⟨#[]⟩, .int .i64 0, .string ⟨#[]⟩, .string ⟨#[]⟩, .int .i64 0, .string ⟨#[]⟩, .string ⟨#[]⟩]) (new := #[.int .i64 ((rd_T38 l0 i).f0.f0), .string ((rd_T38 l0 i).f0.f1), .string ((rd_T38 l0 i).f0.f2), .int .i64 ((rd_T38 l0 i).f1.f0), .string ((rd_T38 l0 i).f1.f1), .string ((rd_T38 l0 i).f1.f2), .int .i64 ((rd_T38 l0 i).f2.f0), .string ((rd_T38 l0 i).f2.f1), .string ((rd_T38 l0 i).f2.f2)]) (u := .agg #[.int .i64 ((rd_T38 l0 i).f0.f0), .string ((rd_T38 l0 i).f0.f1), .string ((rd_T38 l0 i).f0.f2), .int .i64 ((rd_T38 l0 i).f1.f0), .string ((rd_T38 l0 i).f1.f1), .string ((rd_T38 l0 i).f1.f2), .int .i64 ((rd_T38 l0 i).f2.f0), .string ((rd_T38 l0 i).f2.f1), .string ((rd_T38 l0 i).f2.f2)]) (seg := [.int .i64 ((rd_T38 l0 i).f0.f0), .string ((rd_T38 l0 i).f0.f1), .string ((rd_T38 l0 i).f0.f2), .int .i64 ((rd_T38 l0 i).f1.f0), .string ((rd_T38 l0 i).f1.f1), .string ((rd_T38 l0 i).f1.f2), .int .i64 ((rd_T38 l0 i).f2.f0), .string ((rd_T38 l0 i).f2.f1), .string ((rd_T38 l0 i).f2.f2)]) rfl (p := .tmp 6) (x := .tmp 14) rfl rfl r1_ r1_ r1_ HX.out.y k1_ s1_ h1_ rfl ?_; intro w3 hz hup; have HY := Ad.mk (HX.out.upy hup hz); clear HX hz hup; have hy0 := (blk_cell HY.out.y 0).trans (show _ = some (.int .i64 ((rd_T38 l0 i).f0.f0)) from rfl); have hy1 := (blk_cell HY.out.y 1).trans (show _ = some (.string ((rd_T38 l0 i).f0.f1)) from rfl); have hy2 := (blk_cell HY.out.y 2).trans (show _ = some (.string ((rd_T38 l0 i).f0.f2)) from rfl); have hy3 := (blk_cell HY.out.y 3).trans (show _ = some (.int .i64 ((rd_T38 l0 i).f1.f0)) from rfl); have hy4 := (blk_cell HY.out.y 4).trans (show _ = some (.string ((rd_T38 l0 i).f1.f1)) from rfl); have hy5 := (blk_cell HY.out.y 5).trans (show _ = some (.string ((rd_T38 l0 i).f1.f2)) from rfl); have hy6 := (blk_cell HY.out.y 6).trans (show _ = some (.int .i64 ((rd_T38 l0 i).f2.f0)) from rfl); have hy7 := (blk_cell HY.out.y 7).trans (show _ = some (.string ((rd_T38 l0 i).f2.f1)) from rfl); have hy8 := (blk_cell HY.out.y 8).trans (show _ = some (.string ((rd_T38 l0 i).f2.f2)) from rfl)) | (go_at_call 12; refine (term_MayAdd.calls k1 ((rd_T38 l0 i).f0.f0) ((rd_T38 l0 i).f0.f1) ((rd_T38 l0 i).f0.f2) ((rd_T38 l0 i).f1.f0) ((rd_T38 l0 i).f1.f1) ((rd_T38 l0 i).f1.f2) ((rd_T38 l0 i).f2.f0) ((rd_T38 l0 i).f2.f1) ((rd_T38 l0 i).f2.f2) true _ AM.out).mono ?_; rintro e w4 ⟨rfl, hb⟩; have HY1 := Ad.mk (HY.out.lower hb); clear HY hb; clear hy0 hy1 hy2 hy3 hy4 hy5 hy6 hy7 hy8; have hz0 := (blk_cell HY1.out.y 0).trans (show _ = some (.int .i64 ((rd_T38 l0 i).f0.f0)) from rfl); have hz1 := (blk_cell HY1.out.y 1).trans (show _ = some (.string ((rd_T38 l0 i).f0.f1)) from rfl); have hz2 := (blk_cell HY1.out.y 2).trans (show _ = some (.string ((rd_T38 l0 i).f0.f2)) from rfl); have hz3 := (blk_cell HY1.out.y 3).trans (show _ = some (.int .i64 ((rd_T38 l0 i).f1.f0)) from rfl); have hz4 := (blk_cell HY1.out.y 4).trans (show _ = some (.string ((rd_T38 l0 i).f1.f1)) from rfl); have hz5 := (blk_cell HY1.out.y 5).trans (show _ = some (.string ((rd_T38 l0 i).f1.f2)) from rfl); have hz6 := (blk_cell HY1.out.y 6).trans (show _ = some (.int .i64 ((rd_T38 l0 i).f2.f0)) from rfl); have hz7 := (blk_cell HY1.out.y 7).trans (show _ = some (.string ((rd_T38 l0 i).f2.f1)) from rfl); have hz8 := (blk_cell HY1.out.y 8).trans (show _ = some (.string ((rd_T38 l0 i).f2.f2)) from rfl)) | (go_at_call 13; refine (term_TripleText.calls k1 ((rd_T38 l0 i).f0.f0) ((rd_T38 l0 i).f0.f1) ((rd_T38 l0 i).f0.f2) ((rd_T38 l0 i).f1.f0) ((rd_T38 l0 i).f1.f1) ((rd_T38 l0 i).f1.f2) ((rd_T38 l0 i).f2.f0) ((rd_T38 l0 i).f2.f1) ((rd_T38 l0 i).f2.f2) t u _ AT.out).mono ?_; rintro e w5 ⟨rfl, hb⟩; have HY2 := Ad.mk (HY1.out.lower hb); clear HY1 hb; clear hz0 hz1 hz2 hz3 hz4 hz5 hz6 hz7 hz8) | (go_at_call 14; refine (bld_Len w.heap.size g bs _ HY2.out.is).mono ?_; rintro e w6 ⟨rfl, rfl⟩) | (go_at_call 15; refine (bld_WriteString w.heap.size g (Lib.byteCells bs) (t ++ (⟨#[10]⟩ : ByteArray)) _ HY2.out.is LB.out HY2.out.below.size).mono ?_; rintro e w7 ⟨rfl, h1, h2⟩; have HZ := Ad.mk (show Lib.IsBuilder 42 5 w.heap.size g (Lib.byteCells (bs ++ (t ++ (⟨#[10]⟩ : ByteArray)).data.toList)) w7 ∧ Below w.heap.size w w7 from ⟨.inr (by rw [byteCells_str]; exact h1), HY2.out.below.trans h2⟩); clear HY2 h1 h2))
       go_roundg k1
       case measure => have := HK1.out; omega
       case rel => exact ⟨_, _, rfl, H', ⟨by have := HK1.out; omega⟩, ⟨HZ.out.2⟩, ⟨HZ.out.1⟩⟩
      have c3b : decide ((bs.length : Int) ≤ 1048576) = false := decide_eq_false c3
      rw [if_neg c3] at H
      have H' := Ad.mk H
      clear H c3
      go_wp2_with (first | ((with_reducible refine gate_dst (N := 6) rfl ?_); refine box_event r1_ (N := 6) r1_ (cs := #[.int .i64 0, .string ⟨#[]⟩, .string ⟨#[]⟩, .int .i64 0, .string ⟨#[]⟩, .string ⟨#[]⟩, .int .i64 0, .string ⟨#[]⟩, .string ⟨#[]⟩]) (t := 38) r2_ ?_; intro gy hgy w2 hy hb; have HX := Ad.mk (TX.new HB.out HI.out hgy hy hb); clear hgy hy hb HB HI; clear hx0 hx1 hx2 hx3 hx4 hx5 hx6 hx7 hx8) | ((with_reducible refine gate_store (t := 38) (p := 6) rfl ?_); refine store_seg (gy := gy) (j := 0) (T := 38) (TB := 38) (cs := #[.int .i64 0, .string ⟨#[]⟩, .string ⟨#[]⟩, .int .i64 0, .string ⟨#[]⟩, .string ⟨#[]⟩, .int .i64 0, .string ⟨#[]⟩, .string ⟨#[]⟩]) (new := #[.int .i64 ((rd_T38 l0 i).f0.f0), .string ((rd_T38 l0 i).f0.f1), .string ((rd_T38 l0 i).f0.f2), .int .i64 ((rd_T38 l0 i).f1.f0), .string ((rd_T38 l0 i).f1.f1), .string ((rd_T38 l0 i).f1.f2), .int .i64 ((rd_T38 l0 i).f2.f0), .string ((rd_T38 l0 i).f2.f1), .string ((rd_T38 l0 i).f2.f2)]) (u := .agg #[.int .i64 ((rd_T38 l0 i).f0.f0), .string ((rd_T38 l0 i).f0.f1), .string ((rd_T38 l0 i).f0.f2), .int .i64 ((rd_T38 l0 i).f1.f0), .string ((rd_T38 l0 i).f1.f1), .string ((rd_T38 l0 i).f1.f2), .int .i64 ((rd_T38 l0 i).f2.f0), .string ((rd_T38 l0 i).f2.f1), .string ((rd_T38 l0 i).f2.f2)]) (seg := [.int .i64 ((rd_T38 l0 i).f0.f0), .string ((rd_T38 l0 i).f0.f1), .string ((rd_T38 l0 i).f0.f2), .int .i64 ((rd_T38 l0 i).f1.f0), .string ((rd_T38 l0 i).f1.f1), .string ((rd_T38 l0 i).f1.f2), .int .i64 ((rd_T38 l0 i).f2.f0), .string ((rd_T38 l0 i).f2.f1), .string ((rd_T38 l0 i).f2.f2)]) rfl (p := .tmp 6) (x := .tmp 14) rfl rfl r1_ r1_ r1_ HX.out.y k1_ s1_ h1_ rfl ?_; intro w3 hz hup; have HY := Ad.mk (HX.out.upy hup hz); clear HX hz hup; have hy0 := (blk_cell HY.out.y 0).trans (show _ = some (.int .i64 ((rd_T38 l0 i).f0.f0)) from rfl); have hy1 := (blk_cell HY.out.y 1).trans (show _ = some (.string ((rd_T38 l0 i).f0.f1)) from rfl); have hy2 := (blk_cell HY.out.y 2).trans (show _ = some (.string ((rd_T38 l0 i).f0.f2)) from rfl); have hy3 := (blk_cell HY.out.y 3).trans (show _ = some (.int .i64 ((rd_T38 l0 i).f1.f0)) from rfl); have hy4 := (blk_cell HY.out.y 4).trans (show _ = some (.string ((rd_T38 l0 i).f1.f1)) from rfl); have hy5 := (blk_cell HY.out.y 5).trans (show _ = some (.string ((rd_T38 l0 i).f1.f2)) from rfl); have hy6 := (blk_cell HY.out.y 6).trans (show _ = some (.int .i64 ((rd_T38 l0 i).f2.f0)) from rfl); have hy7 := (blk_cell HY.out.y 7).trans (show _ = some (.string ((rd_T38 l0 i).f2.f1)) from rfl); have hy8 := (blk_cell HY.out.y 8).trans (show _ = some (.string ((rd_T38 l0 i).f2.f2)) from rfl)) | (go_at_call 12; refine (term_MayAdd.calls k1 ((rd_T38 l0 i).f0.f0) ((rd_T38 l0 i).f0.f1) ((rd_T38 l0 i).f0.f2) ((rd_T38 l0 i).f1.f0) ((rd_T38 l0 i).f1.f1) ((rd_T38 l0 i).f1.f2) ((rd_T38 l0 i).f2.f0) ((rd_T38 l0 i).f2.f1) ((rd_T38 l0 i).f2.f2) true _ AM.out).mono ?_; rintro e w4 ⟨rfl, hb⟩; have HY1 := Ad.mk (HY.out.lower hb); clear HY hb; clear hy0 hy1 hy2 hy3 hy4 hy5 hy6 hy7 hy8; have hz0 := (blk_cell HY1.out.y 0).trans (show _ = some (.int .i64 ((rd_T38 l0 i).f0.f0)) from rfl); have hz1 := (blk_cell HY1.out.y 1).trans (show _ = some (.string ((rd_T38 l0 i).f0.f1)) from rfl); have hz2 := (blk_cell HY1.out.y 2).trans (show _ = some (.string ((rd_T38 l0 i).f0.f2)) from rfl); have hz3 := (blk_cell HY1.out.y 3).trans (show _ = some (.int .i64 ((rd_T38 l0 i).f1.f0)) from rfl); have hz4 := (blk_cell HY1.out.y 4).trans (show _ = some (.string ((rd_T38 l0 i).f1.f1)) from rfl); have hz5 := (blk_cell HY1.out.y 5).trans (show _ = some (.string ((rd_T38 l0 i).f1.f2)) from rfl); have hz6 := (blk_cell HY1.out.y 6).trans (show _ = some (.int .i64 ((rd_T38 l0 i).f2.f0)) from rfl); have hz7 := (blk_cell HY1.out.y 7).trans (show _ = some (.string ((rd_T38 l0 i).f2.f1)) from rfl); have hz8 := (blk_cell HY1.out.y 8).trans (show _ = some (.string ((rd_T38 l0 i).f2.f2)) from rfl)) | (go_at_call 13; refine (term_TripleText.calls k1 ((rd_T38 l0 i).f0.f0) ((rd_T38 l0 i).f0.f1) ((rd_T38 l0 i).f0.f2) ((rd_T38 l0 i).f1.f0) ((rd_T38 l0 i).f1.f1) ((rd_T38 l0 i).f1.f2) ((rd_T38 l0 i).f2.f0) ((rd_T38 l0 i).f2.f1) ((rd_T38 l0 i).f2.f2) t u _ AT.out).mono ?_; rintro e w5 ⟨rfl, hb⟩; have HY2 := Ad.mk (HY1.out.lower hb); clear HY1 hb; clear hz0 hz1 hz2 hz3 hz4 hz5 hz6 hz7 hz8) | (go_at_call 14; refine (bld_Len w.heap.size g bs _ HY2.out.is).mono ?_; rintro e w6 ⟨rfl, rfl⟩))
      go_roundg k1
      case measure => have := HK1.out; omega
      case rel => exact ⟨_, _, rfl, H', ⟨by have := HK1.out; omega⟩, ⟨HY2.out.below⟩, ⟨HY2.out.is⟩⟩
    rw [if_neg c2] at H
    cases H
   rw [if_neg c1] at H
   have c1b : decide (i < (l0.length : Int)) = false := decide_eq_false c1
   by_cases c4 : (bs.length : Int) > 1048576
   ·have c4b : decide ((bs.length : Int) > 1048576) = true := decide_eq_true c4
    rw [if_pos c4] at H
    simp only [Option.some.injEq, Prod.mk.injEq] at H
    obtain ⟨rfl, rfl⟩ := H
    go_wp2_with (first | (go_at_call 14; refine (bld_Len w.heap.size g bs _ HI.out).mono ?_; rintro e w6 ⟨rfl, rfl⟩))
    go_ret2
    exact ⟨rfl, HB.out⟩
   have c4b : decide ((bs.length : Int) > 1048576) = false := decide_eq_false c4
   rw [if_neg c4] at H
   simp only [Option.some.injEq, Prod.mk.injEq] at H
   obtain ⟨rfl, rfl⟩ := H
   go_wp2_with (first | (go_at_call 14; refine (bld_Len w.heap.size g bs _ HI.out).mono ?_; rintro e w6 ⟨rfl, rfl⟩) | (go_at_call 16; refine (Tryd.Builder_String_any w.heap.size g bs _ HI.out HB.out.size).mono ?_; rintro e w8 ⟨rfl, hb⟩))
   go_ret2
   exact ⟨rfl, HB.out.trans hb⟩
end Go.Proofs.YtjnhdamilbcmpaaDoor.PTm

import Derived.Test.YtpbphelaeleikaaDoorMePMeanx0
import Derived.Test.YtpbphelaeleikaaDoorMePMeanx6
import Derived.Test.YtpbphelaeleikaaDoorMePMeanx11
import Derived.Test.YtpbphelaeleikaaDoorMePMeanx18
namespace Go.Proofs.YtpbphelaeleikaaDoor.PMean
open Go.RowKit Go.Proofs.YtpbphelaeleikaaDoorW.PrintWords Go.Proofs.YtpbphelaeleikaaDoorW.PrintLast Go.Proofs.YtpbphelaeleikaaDoorW.PrintMore
attribute [local go_sem] max2_int min2_int max_two min_two max_three min_three max_four min_four
set_option linter.unusedVariables false
set_option linter.unusedSimpArgs false
set_option maxHeartbeats 8000000
set_option maxRecDepth 100000
def rhizomeref02_Text.f (k : Nat) (a0_0 : Int) (a0_1 : ByteArray) (a0_2 : ByteArray) : Option (ByteArray) := if a0_0 = 1 then (if 1 + a0_1.size ≤ 9223372036854775807 then (if ((⟨#[60]⟩ : ByteArray) ++ a0_1).size + 1 ≤ 9223372036854775807 then (some (((⟨#[60]⟩ : ByteArray) ++ a0_1) ++ (⟨#[62]⟩ : ByteArray))) else (none)) else (none)) else (if a0_0 = 2 then (if 2 + a0_1.size ≤ 9223372036854775807 then (some ((⟨#[95, 58]⟩ : ByteArray) ++ a0_1)) else (none)) else (if a0_0 = 4 then ((rhizomeref02_written.f k a0_1).bind fun t405 => (if t405.size + 1 ≤ 9223372036854775807 then (if (t405 ++ (⟨#[64]⟩ : ByteArray)).size + a0_2.size ≤ 9223372036854775807 then (some ((t405 ++ (⟨#[64]⟩ : ByteArray)) ++ a0_2)) else (none)) else (none))) else (if a0_0 = 5 then ((rhizomeref02_written.f k a0_1).bind fun t406 => (if t406.size + 3 ≤ 9223372036854775807 then (if (t406 ++ (⟨#[94, 94, 60]⟩ : ByteArray)).size + a0_2.size ≤ 9223372036854775807 then (if ((t406 ++ (⟨#[94, 94, 60]⟩ : ByteArray)) ++ a0_2).size + 1 ≤ 9223372036854775807 then (some (((t406 ++ (⟨#[94, 94, 60]⟩ : ByteArray)) ++ a0_2) ++ (⟨#[62]⟩ : ByteArray))) else (none)) else (none)) else (none))) else ((rhizomeref02_written.f k a0_1).bind fun t407 => (some t407)))))
def rhizomeref02_Text.T7 : Bool × List (List Nat × List Nat) := (true, [([], []), ([0], [0]), ([1], [1]), ([2], [2]), ([], []), ([4], [4]), ([3, 5], [3, 5]), ([6, 2, 0, 1, 2, 3, 4, 5, 6], [6])])
def rhizomeref02_Text.B7 : List Nat := [0, 1, 3, 7, 0, 16, 63, 127]
theorem rhizomeref02_Text.tab7 : rtab .any (opsOf Tryd.f10 7) = rhizomeref02_Text.T7 := by kernel_rfl
theorem rhizomeref02_Text.bits7 : waitsOk rhizomeref02_Text.T7.2 rhizomeref02_Text.B7 = true := by kernel_rfl
def rhizomeref02_Text.T9 : Bool × List (List Nat × List Nat) := (true, [([], []), ([0], [0]), ([1], [1]), ([2], [2]), ([], []), ([4], [4]), ([3, 5], [3, 5]), ([6], [6]), ([7, 2, 0, 1, 2, 3, 4, 5, 6, 7], [7])])
def rhizomeref02_Text.B9 : List Nat := [0, 1, 3, 7, 0, 16, 63, 127, 255]
theorem rhizomeref02_Text.tab9 : rtab .any (opsOf Tryd.f10 9) = rhizomeref02_Text.T9 := by kernel_rfl
theorem rhizomeref02_Text.bits9 : waitsOk rhizomeref02_Text.T9.2 rhizomeref02_Text.B9 = true := by kernel_rfl
theorem rhizomeref02_Text.calls (k : Nat) (a0_0 : Int) (a0_1 : ByteArray) (a0_2 : ByteArray) (r : ByteArray) (w : World) (h : rhizomeref02_Text.f k a0_0 a0_1 a0_2 = some r) :
  Calls Tryd.prog 10 #[.agg #[.int .i64 a0_0, .string a0_1, .string a0_2]] w fun e w' => e = .returned (.string r) ∧ Below w.heap.size w w' := by
 have hu31 := Tryd.underlying31
 have HB := Aside0.mk (Below.refl w.heap.size w)
 have H := h
 clear h
 unfold rhizomeref02_Text.f at H
 by_cases c2 : a0_0 = 1
 ·rw [if_pos c2] at H
  have c2b0 := beq_iff_eq.mpr c2
  have c2b1 := bne_eq_false_iff_eq.mpr c2
  clear c2
  by_cases c3 : 1 + a0_1.size ≤ 9223372036854775807
  ·rw [if_pos c3] at H
   have c3b0 := eq_true c3
   have c3b1 := decide_eq_true c3
   try have c3b2 : (9223372036854775807 < 1 + a0_1.size) = False := eq_false (Nat.not_lt.2 c3)
   by_cases c4 : ((⟨#[60]⟩ : ByteArray) ++ a0_1).size + 1 ≤ 9223372036854775807
   ·rw [if_pos c4] at H
    have c4b0 := eq_true c4
    have c4b1 := decide_eq_true c4
    try have c4b2 : (9223372036854775807 < ((⟨#[60]⟩ : ByteArray) ++ a0_1).size + 1) = False := eq_false (Nat.not_lt.2 c4)
    try have c4b3 : (9223372036854775807 < 1 + a0_1.size + 1) = False := eq_false (by have h_ := c4; simp only [ByteArray.size_append] at h_; exact Nat.not_lt.2 h_)
    obtain rfl := Option.some.inj H
    go_enter Tryd.func10, Tryd.ntmps10
    go_wp2_with (first | ((with_reducible refine gate_dst (N := 1) rfl ?_); refine box_event r1_ (N := 1) r1_ (cs := #[.int .i64 a0_0, .string a0_1, .string a0_2]) (t := 31) r2_ ?_; intro gb404 hg w5 hbox hb; have BK404 := Aside0.mk (hbox); have GW404 := Aside0.mk (bs_ : w.heap.size ≤ gb404); have GE404 := Aside0.mk (bs_ : w.heap.size ≤ gb404); replace HB := Aside0.mk (below_step b1_ hb); clear hb hbox hg; have hcz6_0 := cl_ (.int .i64 a0_0) BK404.out 0; have hcz6_1 := cl_ (.string a0_1) BK404.out 1; have hcz6_2 := cl_ (.string a0_2) BK404.out 2; have hfz6_0 := blk_frozen BK404.out 0; have hfz6_1 := blk_frozen BK404.out 1; have hfz6_2 := blk_frozen BK404.out 2))
    go_ret
    exact ⟨e2_, by have G0 := GE404; exact z10_⟩
   rw [if_neg c4] at H
   exact absurd H (by simp)
  rw [if_neg c3] at H
  exact absurd H (by simp)
 rw [if_neg c2] at H
 have c2b0 := beq_eq_false_iff_ne.mpr c2
 have c2b1 := bne_iff_ne.mpr c2
 by_cases c7 : a0_0 = 2
 ·rw [if_pos c7] at H
  have c7b0 := beq_iff_eq.mpr c7
  have c7b1 := bne_eq_false_iff_eq.mpr c7
  clear c7
  by_cases c8 : 2 + a0_1.size ≤ 9223372036854775807
  ·rw [if_pos c8] at H
   have c8b0 := eq_true c8
   have c8b1 := decide_eq_true c8
   try have c8b2 : (9223372036854775807 < 2 + a0_1.size) = False := eq_false (Nat.not_lt.2 c8)
   obtain rfl := Option.some.inj H
   go_enter Tryd.func10, Tryd.ntmps10
   go_wp2_with (first | ((with_reducible refine gate_dst (N := 1) rfl ?_); refine box_event r1_ (N := 1) r1_ (cs := #[.int .i64 a0_0, .string a0_1, .string a0_2]) (t := 31) r2_ ?_; intro gb404 hg w9 hbox hb; have BK404 := Aside0.mk (hbox); have GW404 := Aside0.mk (bs_ : w.heap.size ≤ gb404); have GE404 := Aside0.mk (bs_ : w.heap.size ≤ gb404); replace HB := Aside0.mk (below_step b1_ hb); clear hb hbox hg; have hcz10_0 := cl_ (.int .i64 a0_0) BK404.out 0; have hcz10_1 := cl_ (.string a0_1) BK404.out 1; have hcz10_2 := cl_ (.string a0_2) BK404.out 2; have hfz10_0 := blk_frozen BK404.out 0; have hfz10_1 := blk_frozen BK404.out 1; have hfz10_2 := blk_frozen BK404.out 2))
   go_ret
   exact ⟨e2_, by have G0 := GE404; exact z10_⟩
  rw [if_neg c8] at H
  exact absurd H (by simp)
 rw [if_neg c7] at H
 have c7b0 := beq_eq_false_iff_ne.mpr c7
 have c7b1 := bne_iff_ne.mpr c7
 by_cases c11 : a0_0 = 4
 ·rw [if_pos c11] at H
  have c11b0 := beq_iff_eq.mpr c11
  have c11b1 := bne_eq_false_iff_eq.mpr c11
  clear c11
  obtain ⟨t405, A12, H⟩ := bi_ H
  by_cases c13 : t405.size + 1 ≤ 9223372036854775807
  ·rw [if_pos c13] at H
   have c13b0 := eq_true c13
   have c13b1 := decide_eq_true c13
   try have c13b2 : (9223372036854775807 < t405.size + 1) = False := eq_false (Nat.not_lt.2 c13)
   by_cases c14 : (t405 ++ (⟨#[64]⟩ : ByteArray)).size + a0_2.size ≤ 9223372036854775807
   ·rw [if_pos c14] at H
    have c14b0 := eq_true c14
    have c14b1 := decide_eq_true c14
    try have c14b2 : (9223372036854775807 < (t405 ++ (⟨#[64]⟩ : ByteArray)).size + a0_2.size) = False := eq_false (Nat.not_lt.2 c14)
    try have c14b3 : (9223372036854775807 < t405.size + 1 + a0_2.size) = False := eq_false (by have h_ := c14; simp only [ByteArray.size_append] at h_; exact Nat.not_lt.2 h_)
    obtain rfl := Option.some.inj H
    go_enter Tryd.func10, Tryd.ntmps10
    try go_wp2_with (first | ((with_reducible refine gate_dst (N := 1) rfl ?_); refine box_event r1_ (N := 1) r1_ (cs := #[.int .i64 a0_0, .string a0_1, .string a0_2]) (t := 31) r2_ ?_; intro gb404 hg w15 hbox hb; have BK404 := Aside0.mk (hbox); have GW404 := Aside0.mk (bs_ : w.heap.size ≤ gb404); have GE404 := Aside0.mk (bs_ : w.heap.size ≤ gb404); replace HB := Aside0.mk (below_step b1_ hb); clear hb hbox hg; have hcz16_0 := cl_ (.int .i64 a0_0) BK404.out 0; have hcz16_1 := cl_ (.string a0_1) BK404.out 1; have hcz16_2 := cl_ (.string a0_2) BK404.out 2; have hfz16_0 := blk_frozen BK404.out 0; have hfz16_1 := blk_frozen BK404.out 1; have hfz16_2 := blk_frozen BK404.out 2))
    have n0_ := Aside0.mk (blk_drew BK404.out)
    have n1_ := Aside0.mk (below_drew1 HB.out)
    clear BK404
    clear HB
    have BK404 := n0_
    have HB := n1_
    clear n0_ n1_
    refine start_ (n := 8) (S := fun w' => w'.cell? ⟨gb404, 0, none⟩ = some (.int .i64 a0_0) ∧ w'.cell? ⟨gb404, 1, none⟩ = some (.string a0_1) ∧ w'.cell? ⟨gb404, 2, none⟩ = some (.string a0_2)) (ds := []) #[false, false, false, false, false, false, false, false] k1_ rfl rfl ⟨(blk_cell BK404.out 0).trans rfl, (blk_cell BK404.out 1).trans rfl, (blk_cell BK404.out 2).trans rfl⟩ (fun hHeld => ?_); refine with_tabW rhizomeref02_Text.tab7 rhizomeref02_Text.bits7 (fun HT_ HW_ => ?_)
    generalize w15.drew = w17 at BK404 HB hHeld ⊢
    refine pure_ (i := 0) (N := some 18) (v := ?_) (a' := ?_) #[true, false, false, false, false, false, false, false] rfl rfl (any_of HT_.out k1_) (fun _ _ _ h => h) (Or.inl ⟨by rfl, ?_⟩) ?_ ?_
    rotate_left
    ·intro w'
     go_simp
     with_reducible rfl
    rotate_left
    ·simp only [Act.put, List.setIfInBounds_toArray, List.set_cons_zero, List.set_cons_succ, i64_w, i32_w]
     rfl
    refine pure_ (i := 4) (N := some 22) (v := ?_) (a' := ?_) #[true, false, false, false, true, false, false, false] rfl rfl (any_of HT_.out k1_) (fun _ _ _ h => h) (Or.inl ⟨by rfl, ?_⟩) ?_ ?_
    rotate_left
    ·intro w'
     go_simp
     with_reducible rfl
    rotate_left
    ·simp only [Act.put, List.setIfInBounds_toArray, List.set_cons_zero, List.set_cons_succ, i64_w, i32_w]
     rfl
    refine take_ (i := 1) (N := some 19) (v := ?_) (a' := ?_) #[true, true, false, false, true, false, false, false] rfl rfl (take_ofW HT_.out HW_.out k1_) (fun _ _ _ h => h) (Or.inl ⟨by rfl, ?_⟩) hHeld ?_ ?_
    rotate_left
    ·rintro w' ⟨s0, s1, s2⟩
     go_simp
     with_reducible rfl
    rotate_left
    ·simp only [Act.put, List.setIfInBounds_toArray, List.set_cons_zero, List.set_cons_succ, i64_w, i32_w]
     rfl
    refine take_ (i := 5) (N := some 23) (v := ?_) (a' := ?_) #[true, true, false, false, true, true, false, false] rfl rfl (take_ofW HT_.out HW_.out k1_) (fun _ _ _ h => h) (Or.inl ⟨by rfl, ?_⟩) hHeld ?_ ?_
    rotate_left
    ·rintro w' ⟨s0, s1, s2⟩
     go_simp
     with_reducible rfl
    rotate_left
    ·simp only [Act.put, List.setIfInBounds_toArray, List.set_cons_zero, List.set_cons_succ, i64_w, i32_w]
     rfl
    refine one_ (i := 2) (N := some 20) #[true, true, true, false, true, true, false, false] rfl rfl (one_of HT_.out k1_) (by decide) (fun K hK => ?_)
    refine goes_ Tryd.func21 k1_ rfl #[.string a0_1] (by rfl) rfl rfl g1_ ?_
    with_reducible refine (rhizomeref02_written.calls k a0_1 t405 _ A12.out).mono ?_
    rintro e w18 ⟨rfl, hb⟩
    refine ⟨_, rfl, ?_⟩
    have n0_ := Aside0.mk (blk_below (g := gb404) (o := .cells #[.int .i64 a0_0, .string a0_1, .string a0_2] 31 (0, 0)) (bd_ BK404.out) hb)
    have n1_ := Aside0.mk (below_step (by have GE := GE404; exact b2_) hb)
    clear BK404
    clear HB
    have BK404 := n0_
    have HB := n1_
    clear n0_ n1_
    (try clear hb)
    (try clear hb2)
    (try clear hk)
    (try clear hi)
    refine hK.out _ _ ⟨(blk_cell BK404.out 0).trans rfl, (blk_cell BK404.out 1).trans rfl, (blk_cell BK404.out 2).trans rfl⟩ (fun hHeld => ?_)
    clear hK K
    refine norm_ (a' := ?_) ?_ ?_
    rotate_left
    ·show Act.put _ (some 20) _ = _
     simp only [Act.put, List.setIfInBounds_toArray, List.set_cons_zero, List.set_cons_succ, i64_w, i32_w]
     rfl
    refine pure_ (i := 3) (N := some 21) (v := ?_) (a' := ?_) #[true, true, true, true, true, true, false, false] rfl rfl (any_of HT_.out k1_) (fun _ _ _ h => h) (Or.inl ⟨by rfl, ?_⟩) ?_ ?_
    rotate_left
    ·intro w'
     go_simp
     with_reducible rfl
    rotate_left
    ·simp only [Act.put, List.setIfInBounds_toArray, List.set_cons_zero, List.set_cons_succ, i64_w, i32_w]
     rfl
    refine pure_ (i := 6) (N := some 24) (v := ?_) (a' := ?_) #[true, true, true, true, true, true, true, false] rfl rfl (any_of HT_.out k1_) (fun _ _ _ h => h) (Or.inl ⟨by rfl, ?_⟩) ?_ ?_
    rotate_left
    ·intro w'
     go_simp
     with_reducible rfl
    rotate_left
    ·simp only [Act.put, List.setIfInBounds_toArray, List.set_cons_zero, List.set_cons_succ, i64_w, i32_w]
     rfl
    refine pure_ (i := 7) (N := some 2) (v := ?_) (a' := ?_) #[true, true, true, true, true, true, true, true] rfl rfl (any_of HT_.out k1_) (fun _ _ _ h => h) (Or.inl ⟨by rfl, ?_⟩) ?_ ?_
    rotate_left
    ·intro w'
     go_simp
     with_reducible rfl
    rotate_left
    ·simp only [Act.put, List.setIfInBounds_toArray, List.set_cons_zero, List.set_cons_succ, i64_w, i32_w]
     rfl
    refine done_ (done_of HT_.out k1_) ?_
    try go_wp2
    go_ret
    exact ⟨e2_, by have G0 := GE404; exact z10_⟩
   rw [if_neg c14] at H
   exact absurd H (by simp)
  rw [if_neg c13] at H
  exact absurd H (by simp)
 rw [if_neg c11] at H
 have c11b0 := beq_eq_false_iff_ne.mpr c11
 have c11b1 := bne_iff_ne.mpr c11
 by_cases c19 : a0_0 = 5
 ·rw [if_pos c19] at H
  have c19b0 := beq_iff_eq.mpr c19
  have c19b1 := bne_eq_false_iff_eq.mpr c19
  clear c19
  obtain ⟨t406, A20, H⟩ := bi_ H
  by_cases c21 : t406.size + 3 ≤ 9223372036854775807
  ·rw [if_pos c21] at H
   have c21b0 := eq_true c21
   have c21b1 := decide_eq_true c21
   try have c21b2 : (9223372036854775807 < t406.size + 3) = False := eq_false (Nat.not_lt.2 c21)
   by_cases c22 : (t406 ++ (⟨#[94, 94, 60]⟩ : ByteArray)).size + a0_2.size ≤ 9223372036854775807
   ·rw [if_pos c22] at H
    have c22b0 := eq_true c22
    have c22b1 := decide_eq_true c22
    try have c22b2 : (9223372036854775807 < (t406 ++ (⟨#[94, 94, 60]⟩ : ByteArray)).size + a0_2.size) = False := eq_false (Nat.not_lt.2 c22)
    try have c22b3 : (9223372036854775807 < t406.size + 3 + a0_2.size) = False := eq_false (by have h_ := c22; simp only [ByteArray.size_append] at h_; exact Nat.not_lt.2 h_)
    by_cases c23 : ((t406 ++ (⟨#[94, 94, 60]⟩ : ByteArray)) ++ a0_2).size + 1 ≤ 9223372036854775807
    ·rw [if_pos c23] at H
     have c23b0 := eq_true c23
     have c23b1 := decide_eq_true c23
     try have c23b2 : (9223372036854775807 < ((t406 ++ (⟨#[94, 94, 60]⟩ : ByteArray)) ++ a0_2).size + 1) = False := eq_false (Nat.not_lt.2 c23)
     try have c23b3 : (9223372036854775807 < t406.size + 3 + a0_2.size + 1) = False := eq_false (by have h_ := c23; simp only [ByteArray.size_append] at h_; exact Nat.not_lt.2 h_)
     obtain rfl := Option.some.inj H
     go_enter Tryd.func10, Tryd.ntmps10
     try go_wp2_with (first | ((with_reducible refine gate_dst (N := 1) rfl ?_); refine box_event r1_ (N := 1) r1_ (cs := #[.int .i64 a0_0, .string a0_1, .string a0_2]) (t := 31) r2_ ?_; intro gb404 hg w24 hbox hb; have BK404 := Aside0.mk (hbox); have GW404 := Aside0.mk (bs_ : w.heap.size ≤ gb404); have GE404 := Aside0.mk (bs_ : w.heap.size ≤ gb404); replace HB := Aside0.mk (below_step b1_ hb); clear hb hbox hg; have hcz25_0 := cl_ (.int .i64 a0_0) BK404.out 0; have hcz25_1 := cl_ (.string a0_1) BK404.out 1; have hcz25_2 := cl_ (.string a0_2) BK404.out 2; have hfz25_0 := blk_frozen BK404.out 0; have hfz25_1 := blk_frozen BK404.out 1; have hfz25_2 := blk_frozen BK404.out 2))
     have n0_ := Aside0.mk (blk_drew BK404.out)
     have n1_ := Aside0.mk (below_drew1 HB.out)
     clear BK404
     clear HB
     have BK404 := n0_
     have HB := n1_
     clear n0_ n1_
     refine start_ (n := 9) (S := fun w' => w'.cell? ⟨gb404, 0, none⟩ = some (.int .i64 a0_0) ∧ w'.cell? ⟨gb404, 1, none⟩ = some (.string a0_1) ∧ w'.cell? ⟨gb404, 2, none⟩ = some (.string a0_2)) (ds := []) #[false, false, false, false, false, false, false, false, false] k1_ rfl rfl ⟨(blk_cell BK404.out 0).trans rfl, (blk_cell BK404.out 1).trans rfl, (blk_cell BK404.out 2).trans rfl⟩ (fun hHeld => ?_); refine with_tabW rhizomeref02_Text.tab9 rhizomeref02_Text.bits9 (fun HT_ HW_ => ?_)
     generalize w24.drew = w26 at BK404 HB hHeld ⊢
     refine pure_ (i := 0) (N := some 27) (v := ?_) (a' := ?_) #[true, false, false, false, false, false, false, false, false] rfl rfl (any_of HT_.out k1_) (fun _ _ _ h => h) (Or.inl ⟨by rfl, ?_⟩) ?_ ?_
     rotate_left
     ·intro w'
      go_simp
      with_reducible rfl
     rotate_left
     ·simp only [Act.put, List.setIfInBounds_toArray, List.set_cons_zero, List.set_cons_succ, i64_w, i32_w]
      rfl
     refine pure_ (i := 4) (N := some 31) (v := ?_) (a' := ?_) #[true, false, false, false, true, false, false, false, false] rfl rfl (any_of HT_.out k1_) (fun _ _ _ h => h) (Or.inl ⟨by rfl, ?_⟩) ?_ ?_
     rotate_left
     ·intro w'
      go_simp
      with_reducible rfl
     rotate_left
     ·simp only [Act.put, List.setIfInBounds_toArray, List.set_cons_zero, List.set_cons_succ, i64_w, i32_w]
      rfl
     refine take_ (i := 1) (N := some 28) (v := ?_) (a' := ?_) #[true, true, false, false, true, false, false, false, false] rfl rfl (take_ofW HT_.out HW_.out k1_) (fun _ _ _ h => h) (Or.inl ⟨by rfl, ?_⟩) hHeld ?_ ?_
     rotate_left
     ·rintro w' ⟨s0, s1, s2⟩
      go_simp
      with_reducible rfl
     rotate_left
     ·simp only [Act.put, List.setIfInBounds_toArray, List.set_cons_zero, List.set_cons_succ, i64_w, i32_w]
      rfl
     refine take_ (i := 5) (N := some 32) (v := ?_) (a' := ?_) #[true, true, false, false, true, true, false, false, false] rfl rfl (take_ofW HT_.out HW_.out k1_) (fun _ _ _ h => h) (Or.inl ⟨by rfl, ?_⟩) hHeld ?_ ?_
     rotate_left
     ·rintro w' ⟨s0, s1, s2⟩
      go_simp
      with_reducible rfl
     rotate_left
     ·simp only [Act.put, List.setIfInBounds_toArray, List.set_cons_zero, List.set_cons_succ, i64_w, i32_w]
      rfl
     refine one_ (i := 2) (N := some 29) #[true, true, true, false, true, true, false, false, false] rfl rfl (one_of HT_.out k1_) (by decide) (fun K hK => ?_)
     refine goes_ Tryd.func21 k1_ rfl #[.string a0_1] (by rfl) rfl rfl g1_ ?_
     with_reducible refine (rhizomeref02_written.calls k a0_1 t406 _ A20.out).mono ?_
     rintro e w27 ⟨rfl, hb⟩
     refine ⟨_, rfl, ?_⟩
     have n0_ := Aside0.mk (blk_below (g := gb404) (o := .cells #[.int .i64 a0_0, .string a0_1, .string a0_2] 31 (0, 0)) (bd_ BK404.out) hb)
     have n1_ := Aside0.mk (below_step (by have GE := GE404; exact b2_) hb)
     clear BK404
     clear HB
     have BK404 := n0_
     have HB := n1_
     clear n0_ n1_
     (try clear hb)
     (try clear hb2)
     (try clear hk)
     (try clear hi)
     refine hK.out _ _ ⟨(blk_cell BK404.out 0).trans rfl, (blk_cell BK404.out 1).trans rfl, (blk_cell BK404.out 2).trans rfl⟩ (fun hHeld => ?_)
     clear hK K
     refine norm_ (a' := ?_) ?_ ?_
     rotate_left
     ·show Act.put _ (some 29) _ = _
      simp only [Act.put, List.setIfInBounds_toArray, List.set_cons_zero, List.set_cons_succ, i64_w, i32_w]
      rfl
     refine pure_ (i := 3) (N := some 30) (v := ?_) (a' := ?_) #[true, true, true, true, true, true, false, false, false] rfl rfl (any_of HT_.out k1_) (fun _ _ _ h => h) (Or.inl ⟨by rfl, ?_⟩) ?_ ?_
     rotate_left
     ·intro w'
      go_simp
      with_reducible rfl
     rotate_left
     ·simp only [Act.put, List.setIfInBounds_toArray, List.set_cons_zero, List.set_cons_succ, i64_w, i32_w]
      rfl
     refine pure_ (i := 6) (N := some 33) (v := ?_) (a' := ?_) #[true, true, true, true, true, true, true, false, false] rfl rfl (any_of HT_.out k1_) (fun _ _ _ h => h) (Or.inl ⟨by rfl, ?_⟩) ?_ ?_
     rotate_left
     ·intro w'
      go_simp
      with_reducible rfl
     rotate_left
     ·simp only [Act.put, List.setIfInBounds_toArray, List.set_cons_zero, List.set_cons_succ, i64_w, i32_w]
      rfl
     refine pure_ (i := 7) (N := some 34) (v := ?_) (a' := ?_) #[true, true, true, true, true, true, true, true, false] rfl rfl (any_of HT_.out k1_) (fun _ _ _ h => h) (Or.inl ⟨by rfl, ?_⟩) ?_ ?_
     rotate_left
     ·intro w'
      go_simp
      with_reducible rfl
     rotate_left
     ·simp only [Act.put, List.setIfInBounds_toArray, List.set_cons_zero, List.set_cons_succ, i64_w, i32_w]
      rfl
     refine pure_ (i := 8) (N := some 2) (v := ?_) (a' := ?_) #[true, true, true, true, true, true, true, true, true] rfl rfl (any_of HT_.out k1_) (fun _ _ _ h => h) (Or.inl ⟨by rfl, ?_⟩) ?_ ?_
     rotate_left
     ·intro w'
      go_simp
      with_reducible rfl
     rotate_left
     ·simp only [Act.put, List.setIfInBounds_toArray, List.set_cons_zero, List.set_cons_succ, i64_w, i32_w]
      rfl
     refine done_ (done_of HT_.out k1_) ?_
     try go_wp2
     go_ret
     exact ⟨e2_, by have G0 := GE404; exact z10_⟩
    rw [if_neg c23] at H
    exact absurd H (by simp)
   rw [if_neg c22] at H
   exact absurd H (by simp)
  rw [if_neg c21] at H
  exact absurd H (by simp)
 rw [if_neg c19] at H
 have c19b0 := beq_eq_false_iff_ne.mpr c19
 have c19b1 := bne_iff_ne.mpr c19
 obtain ⟨t407, A28, H⟩ := bi_ H
 obtain rfl := Option.some.inj H
 go_enter Tryd.func10, Tryd.ntmps10
 go_wp2_with (first | ((with_reducible refine gate_dst (N := 1) rfl ?_); refine box_event r1_ (N := 1) r1_ (cs := #[.int .i64 a0_0, .string a0_1, .string a0_2]) (t := 31) r2_ ?_; intro gb404 hg w29 hbox hb; have BK404 := Aside0.mk (hbox); have GW404 := Aside0.mk (bs_ : w.heap.size ≤ gb404); have GE404 := Aside0.mk (bs_ : w.heap.size ≤ gb404); replace HB := Aside0.mk (below_step b1_ hb); clear hb hbox hg; have hcz30_0 := cl_ (.int .i64 a0_0) BK404.out 0; have hcz30_1 := cl_ (.string a0_1) BK404.out 1; have hcz30_2 := cl_ (.string a0_2) BK404.out 2; have hfz30_0 := blk_frozen BK404.out 0; have hfz30_1 := blk_frozen BK404.out 1; have hfz30_2 := blk_frozen BK404.out 2) | ((with_reducible refine gate_callee (f := 21) rfl ?_); refine goesL_ (some 37) rfl rfl Tryd.func21 k1_ rfl #[.string a0_1] rfl g1_ ?_; (with_reducible refine (rhizomeref02_written.calls k a0_1 t407 _ A28.out).mono ?_); rintro e w31 ⟨rfl, hb⟩; refine ⟨_, rfl, ?_⟩; replace BK404 := Aside0.mk (blk_below (g := gb404) (o := .cells #[.int .i64 a0_0, .string a0_1, .string a0_2] 31 (0, 0)) (bd_ BK404.out) hb); replace HB := Aside0.mk (below_step (by have GE := GE404; exact b2_) hb); clear hb))
 go_ret
 exact ⟨e2_, by have G0 := GE404; exact z10_⟩
def oneByteX (s : ByteArray) : Option UInt8 := match s with | ⟨⟨[c]⟩⟩ => some c | _ => none
theorem oneByteX_eq {s : ByteArray} {c : UInt8} (h : oneByteX s = some c) : s = ⟨#[c]⟩ := by
 unfold oneByteX at h
 split at h
 ·cases h; rfl
 cases h
def stringslite_Index.f (a0 a1 : ByteArray) : Option Int := (oneByteX a1).map fun c => Lib.indexByte a0.data.toList c
theorem stringslite_Index.calls (a0 a1 : ByteArray) (r : Int) (w : World) (h : stringslite_Index.f a0 a1 = some r) :
  Calls Tryd.prog 77 #[.string a0, .string a1] w fun e w' => e = .returned (.int .i64 r) ∧ Drawn0 w w' := by
 obtain ⟨c, hc, rfl⟩ := Option.map_eq_some_iff.mp h
 rw [oneByteX_eq hc]
 exact (Tryd.stringslite_Index_one a0 c w).mono fun e w' ⟨he, hw⟩ => ⟨he, by rw [hw]; exact Drawn0.refl w⟩
def stringslite_Cut.f (a0 : ByteArray) (a1 : ByteArray) : Option (ByteArray × ByteArray × Bool) := (stringslite_Index.f a0 a1).bind fun t408 => (if t408 ≥ 0 then (if 0 ≤ t408 then (if t408 ≤ (a0.size : Int) then (if 0 ≤ (wrap64 (t408 + (a1.size : Int))) then (if (wrap64 (t408 + (a1.size : Int))) ≤ (a0.size : Int) then (some (a0.extract 0 (t408 : Int).toNat, a0.extract ((wrap64 (t408 + (a1.size : Int))) : Int).toNat a0.size, true)) else (none)) else (none)) else (none)) else (none)) else (some (a0, (⟨#[]⟩ : ByteArray), false)))
theorem stringslite_Cut.calls (a0 : ByteArray) (a1 : ByteArray) (r1 : ByteArray) (r2 : ByteArray) (r3 : Bool) (w : World) (h : stringslite_Cut.f a0 a1 = some (r1, r2, r3)) :
  Calls Tryd.prog 51 #[.string a0, .string a1] w fun e w' => e = .returned (.tuple #[.string r1, .string r2, .bool r3]) ∧ Drawn0 w w' := by
 have H := h
 clear h
 unfold stringslite_Cut.f at H
 obtain ⟨t408, A3, H⟩ := bi_ H
 by_cases c4 : t408 ≥ 0
 ·rw [if_pos c4] at H
  have c4b0 : decide (0 ≤ t408) = true := decide_eq_true c4
  clear c4
  by_cases c5 : 0 ≤ t408
  ·rw [if_pos c5] at H
   have c5b0 := eq_true c5
   have c5b1 := decide_eq_true c5
   clear c5
   by_cases c6 : t408 ≤ (a0.size : Int)
   ·rw [if_pos c6] at H
    have c6b0 := eq_true c6
    have c6b1 := decide_eq_true c6
    clear c6
    obtain ⟨ji7, hji7⟩ : ∃ j_ : Int, (wrap64 (t408 + (a1.size : Int))) = j_ := ⟨_, rfl⟩
    replace H : (if 0 ≤ (ji7) then (if (ji7) ≤ (a0.size : Int) then (some (a0.extract 0 (t408 : Int).toNat, a0.extract ((ji7) : Int).toNat a0.size, true)) else (none)) else (none)) = some (r1, r2, r3) := by first | (rw [hji7] at H; exact H) | (simp only [hji7] at H ⊢; exact H)
    (try rw [hji7] at A3)
    have hji7w : (IntKind.i64.wrap (t408 + (a1.size : Int))) = ji7 := (i64_w _).trans hji7
    by_cases c8 : 0 ≤ (ji7)
    ·rw [if_pos c8] at H
     have c8b0 := eq_true c8
     have c8b1 := decide_eq_true c8
     clear c8
     by_cases c9 : (ji7) ≤ (a0.size : Int)
     ·rw [if_pos c9] at H
      have c9b0 := eq_true c9
      have c9b1 := decide_eq_true c9
      clear c9
      simp only [Option.some.injEq, Prod.mk.injEq] at H
      obtain ⟨rfl, rfl, rfl⟩ := H
      go_enter Tryd.func51, Tryd.ntmps51
      go_wp2_with (first | (go_at_call 77; (with_reducible refine (stringslite_Index.calls a0 a1 t408 _ A3.out).mono ?_); rintro e w' ⟨rfl, ⟨nd, rfl⟩⟩; (try first | exact ⟨rfl, _, World.drewN_drewN _ _ _⟩ | exact ⟨rfl, _, Eq.trans (World.drewN_drewN _ _ _) (congrArg (World.drewN _) (Nat.add_assoc _ _ _))⟩)))
      repeat (go_quiet (first | (go_at_call 77; (with_reducible refine (stringslite_Index.calls a0 a1 t408 _ A3.out).mono ?_); rintro e w' ⟨rfl, ⟨nd, rfl⟩⟩; (try first | exact ⟨rfl, _, World.drewN_drewN _ _ _⟩ | exact ⟨rfl, _, Eq.trans (World.drewN_drewN _ _ _) (congrArg (World.drewN _) (Nat.add_assoc _ _ _))⟩))); try go_wp2_with (first | (go_at_call 77; (with_reducible refine (stringslite_Index.calls a0 a1 t408 _ A3.out).mono ?_); rintro e w' ⟨rfl, ⟨nd, rfl⟩⟩; (try first | exact ⟨rfl, _, World.drewN_drewN _ _ _⟩ | exact ⟨rfl, _, Eq.trans (World.drewN_drewN _ _ _) (congrArg (World.drewN _) (Nat.add_assoc _ _ _))⟩))))
      go_ret3
      exact ⟨by first | rfl | (simp; done) | (simp only [← hji7] <;> (first | rfl | simp)) | (simp [*]; done), z4_⟩
     rw [if_neg c9] at H
     exact absurd H (by simp)
    rw [if_neg c8] at H
    exact absurd H (by simp)
   rw [if_neg c6] at H
   exact absurd H (by simp)
  rw [if_neg c5] at H
  exact absurd H (by simp)
 rw [if_neg c4] at H
 have c4b0 : decide (0 ≤ t408) = false := decide_eq_false c4
 clear c4
 simp only [Option.some.injEq, Prod.mk.injEq] at H
 obtain ⟨rfl, rfl, rfl⟩ := H
 go_enter Tryd.func51, Tryd.ntmps51
 go_wp2_with (first | (go_at_call 77; (with_reducible refine (stringslite_Index.calls a0 a1 t408 _ A3.out).mono ?_); rintro e w' ⟨rfl, ⟨nd, rfl⟩⟩; (try first | exact ⟨rfl, _, World.drewN_drewN _ _ _⟩ | exact ⟨rfl, _, Eq.trans (World.drewN_drewN _ _ _) (congrArg (World.drewN _) (Nat.add_assoc _ _ _))⟩)))
 repeat (go_quiet (first | (go_at_call 77; (with_reducible refine (stringslite_Index.calls a0 a1 t408 _ A3.out).mono ?_); rintro e w' ⟨rfl, ⟨nd, rfl⟩⟩; (try first | exact ⟨rfl, _, World.drewN_drewN _ _ _⟩ | exact ⟨rfl, _, Eq.trans (World.drewN_drewN _ _ _) (congrArg (World.drewN _) (Nat.add_assoc _ _ _))⟩))); try go_wp2_with (first | (go_at_call 77; (with_reducible refine (stringslite_Index.calls a0 a1 t408 _ A3.out).mono ?_); rintro e w' ⟨rfl, ⟨nd, rfl⟩⟩; (try first | exact ⟨rfl, _, World.drewN_drewN _ _ _⟩ | exact ⟨rfl, _, Eq.trans (World.drewN_drewN _ _ _) (congrArg (World.drewN _) (Nat.add_assoc _ _ _))⟩))))
 go_ret3
 exact ⟨e1_, z4_⟩
def strings_Cut.f (a0 : ByteArray) (a1 : ByteArray) : Option (ByteArray × ByteArray × Bool) := (stringslite_Cut.f a0 a1).bind fun bt409 => (some (bt409.1, bt409.2.1, bt409.2.2))
theorem strings_Cut.calls (a0 : ByteArray) (a1 : ByteArray) (r1 : ByteArray) (r2 : ByteArray) (r3 : Bool) (w : World) (h : strings_Cut.f a0 a1 = some (r1, r2, r3)) :
  Calls Tryd.prog 33 #[.string a0, .string a1] w fun e w' => e = .returned (.tuple #[.string r1, .string r2, .bool r3]) ∧ Drawn0 w w' := by
 have H := h
 clear h
 unfold strings_Cut.f at H
 obtain ⟨⟨t409, t410, t411⟩, A3, H⟩ := bi_ H
 try dsimp only at H
 simp only [Option.some.injEq, Prod.mk.injEq] at H
 obtain ⟨rfl, rfl, rfl⟩ := H
 go_enter Tryd.func33, Tryd.ntmps33
 go_wp2_with (first | ((with_reducible refine gate_callee (f := 51) rfl ?_); refine goesL_ (some 9) rfl rfl Tryd.func51 k1_ rfl #[.string a0, .string a1] rfl g1_ ?_; (with_reducible refine (stringslite_Cut.calls a0 a1 t409 t410 t411 _ A3.out).mono ?_); rintro e w' ⟨rfl, ⟨nd, rfl⟩⟩; refine ⟨_, rfl, ?_⟩))
 go_ret3
 exact ⟨e1_, z4_⟩
def MapSS (w : World) (mv : Value) (M : List (ByteArray × ByteArray)) : Prop := (mv = .map none ∧ M = []) ∨ ∃ b c es, mv = .map (some b) ∧ w.heap[b]? = some (.map es c) ∧ es.toList.map (fun e => (e.key, e.val)) = M.map (fun p => (Value.string p.1, Value.string p.2))
def lookM : List (ByteArray × ByteArray) → ByteArray → Option ByteArray
 | [], _ => none
 | p :: M, k => if k == p.1 then some p.2 else lookM M k
theorem MapSS.nil (w : World) : MapSS w (.map none) [] := .inl ⟨rfl, rfl⟩
theorem MapSS.below {w w' : World} {mv : Value} {M : List (ByteArray × ByteArray)} (h : MapSS w mv M) (hb : Below w.heap.size w w') : MapSS w' mv M := by
 rcases h with h | ⟨b, c, es, h1, h2, h3⟩
 ·exact .inl h
 exact .inr ⟨b, c, es, h1, (hb.block b (blk_lt h2)).trans h2, h3⟩
theorem findM (k : ByteArray) : ∀ (es : List MapEntry) (M : List (ByteArray × ByteArray)) (i : Nat), es.map (fun e => (e.key, e.val)) = M.map (fun p => (Value.string p.1, Value.string p.2)) → match lookM M k with | none => Instr.findNow .string (.string k) es i = some none | some v => ∃ j, Instr.findNow .string (.string k) es i = some (some (j, .string v))
 | [], [], _, _ => by simp [lookM, Instr.findNow]
 | e :: es, [], _, h => by simp at h
 | [], p :: M, _, h => by simp at h
 | e :: es, p :: M, i, h => by
  simp only [List.map_cons, List.cons.injEq, Prod.mk.injEq] at h
  obtain ⟨⟨h1, h2⟩, h3⟩ := h
  have ih := findM k es M (i + 1) h3
  unfold lookM
  simp only [Instr.findNow, Instr.sameNow, h1, h2]
  by_cases c : k == p.1
  ·rw [if_pos c, c]; exact ⟨i, rfl⟩
  rw [if_neg c]
  have c' : (k == p.1) = false := by simpa using c
  rw [c']; exact ih
theorem MapSS.look {w : World} {mv : Value} {M : List (ByteArray × ByteArray)} (h : MapSS w mv M) (k : ByteArray) : Sem.run Tryd.prog (Instr.lookup 50 mv (.string k) true) w = .ok (.tuple #[.string ((lookM M k).getD (⟨#[]⟩ : ByteArray)), .bool (lookM M k).isSome]) w := by
 have hck : ∀ e, (Instr.checkKey e 10000 9 (.string k)).run Tryd.prog w = .ok () w := fun e => Go.MapKept.run_checkKey Tryd.underlying9 (by simp [Go.MapKept.IsKey]) e 9999
 rcases h with ⟨rfl, rfl⟩ | ⟨b, c, es, rfl, h2, h3⟩
 ·have hf : Sem.run Tryd.prog (Instr.findKey 9 (.string k) []) w = .ok none w := Go.MapKept.run_findKey Tryd.underlying9 rfl
  simp [Instr.lookup, run_underlying Tryd.underlying50, go_sem, hck, hf, Tryd.zeroValue9, lookM]
 have hz := findM k es.toList M 0 h3
 cases hl : lookM M k with
 | none =>
  rw [hl] at hz
  have hf : Sem.run Tryd.prog (Instr.findKey 9 (.string k) es.toList) w = .ok none w := Go.MapKept.run_findKey Tryd.underlying9 hz
  simp only [Instr.lookup, Sem.run_bind, run_underlying Tryd.underlying50, Result.andThen_ok]
  rw [Go.MapKept.run_getObj_map h2]
  simp [hck, hf, Tryd.zeroValue9]
 | some v =>
  rw [hl] at hz
  obtain ⟨j, hz⟩ := hz
  have hf : Sem.run Tryd.prog (Instr.findKey 9 (.string k) es.toList) w = .ok (some (j, .string v)) w := Go.MapKept.run_findKey Tryd.underlying9 hz
  simp only [Instr.lookup, Sem.run_bind, run_underlying Tryd.underlying50, Result.andThen_ok]
  rw [Go.MapKept.run_getObj_map h2]
  simp [hck, hf]
def lex_resource.f (k : Nat) (a0_0 : Int) (a0_1 : ByteArray) (a0_2 : Int) (a0_3 : ByteArray) (a0_4 : ByteArray) (a0_5 : Int) (M : List (ByteArray × ByteArray)) : Option (Int × ByteArray × ByteArray × Bool) := if a0_0 = 1 then some (a0_2, a0_3, a0_4, true) else (strings_Cut.f a0_1 (⟨#[58]⟩ : ByteArray)).bind fun b => if ((lookM M b.1).getD (⟨#[]⟩ : ByteArray)).size + b.2.1.size ≤ 9223372036854775807 then (if a0_0 = 7 ∧ (lookM M b.1).isSome = true then (term_May.f k 1 ((lookM M b.1).getD (⟨#[]⟩ : ByteArray) ++ b.2.1) (⟨#[]⟩ : ByteArray)).bind fun m => some (1, (lookM M b.1).getD (⟨#[]⟩ : ByteArray) ++ b.2.1, (⟨#[]⟩ : ByteArray), m) else some (1, (lookM M b.1).getD (⟨#[]⟩ : ByteArray) ++ b.2.1, (⟨#[]⟩ : ByteArray), false)) else none
structure RX (w W : World) (g gr : Nat) (cs rs : Array Value) : Prop where
 below : Below w.heap.size w W
 x : W.heap[g]? = some (.cells cs 38 (0, 0))
 r : W.heap[gr]? = some (.cells rs 31 (0, 0))
 gw : w.heap.size ≤ g
 rw' : w.heap.size ≤ gr
 gg : gr ≠ g
theorem RX.lower {w W W' : World} {g gr : Nat} {cs rs : Array Value} (h : RX w W g gr cs rs) (hb : Below W.heap.size W W') : RX w W' g gr cs rs :=
 ⟨below_then h.below h.below.size hb, blk_below h.x hb, blk_below h.r hb, h.gw, h.rw', h.gg⟩
theorem RX.upr {w W W' : World} {g gr : Nat} {cs rs rs' : Array Value} (h : RX w W g gr cs rs) (hu : Upd W W' gr) (hn : W'.heap[gr]? = some (.cells rs' 31 (0, 0))) : RX w W' g gr cs rs' :=
 ⟨h.below.trans (hu.below h.rw'), (hu.other g (Ne.symm h.gg)).trans h.x, hn, h.gw, h.rw', h.gg⟩
theorem RX.far {w W W' : World} {g gr gt : Nat} {cs rs : Array Value} (h : RX w W g gr cs rs) (hu : Upd W W' gt) (ht : w.heap.size ≤ gt) (h1 : gt ≠ g) (h2 : gt ≠ gr) : RX w W' g gr cs rs :=
 ⟨h.below.trans (hu.below ht), (hu.other g (Ne.symm h1)).trans h.x, (hu.other gr (Ne.symm h2)).trans h.r, h.gw, h.rw', h.gg⟩
def lex_resource.T6 : Bool × List (List Nat × List Nat) := (true, [([], []), ([], []), ([1], [1]), ([2], [2]), ([3], [3]), ([4], [4]), ([4, 5], [4, 5]), ([6, 4], [6]), ([7], [7]), ([8, 7, 7], [7, 8]), ([7, 9], [7, 9]), ([0, 9, 0], [0]), ([10, 11, 0, 1, 2, 3, 4, 5, 6, 7, 8, 9, 10, 11], [10])])
def lex_resource.B6 : List Nat := [0, 0, 2, 6, 14, 30, 62, 126, 254, 510, 1022, 1023, 4095]
theorem lex_resource.tab6 : rtab .any (opsOf Tryd.f22 6) = lex_resource.T6 := by kernel_rfl
theorem lex_resource.bits6 : waitsOk lex_resource.T6.2 lex_resource.B6 = true := by kernel_rfl
set_option maxHeartbeats 4000000 in
set_option maxRecDepth 100000 in
theorem lex_resource.calls (k : Nat) (a0_0 : Int) (a0_1 : ByteArray) (a0_2 : Int) (a0_3 : ByteArray) (a0_4 : ByteArray) (a0_5 : Int) (mv : Value) (M : List (ByteArray × ByteArray)) (r1 : Int) (r2 r3 : ByteArray) (r4 : Bool) (w : World) (hm : MapSS w mv M) (h : lex_resource.f k a0_0 a0_1 a0_2 a0_3 a0_4 a0_5 M = some (r1, r2, r3, r4)) :
  Calls Tryd.prog 22 #[.agg #[.int .i64 a0_0, .string a0_1, .int .i64 a0_2, .string a0_3, .string a0_4, .int .i64 a0_5], mv] w fun e w' => e = .returned (.tuple #[.agg #[.int .i64 r1, .string r2, .string r3], .bool r4]) ∧ Below w.heap.size w w' := by
 have HM := Aside0.mk hm
 clear hm
 unfold lex_resource.f at h
 by_cases c1 : a0_0 = 1
 ·rw [if_pos c1] at h
  subst c1
  simp only [Option.some.injEq, Prod.mk.injEq] at h
  obtain ⟨rfl, rfl, rfl, rfl⟩ := h
  go_enter Tryd.func22, Tryd.ntmps22
  go_wp2_with (first | ((with_reducible refine gate_dst (N := 2) rfl ?_); refine box_event r1_ (N := 2) r1_ (cs := #[.int .i64 1, .string a0_1, .int .i64 a0_2, .string a0_3, .string a0_4, .int .i64 a0_5]) (t := 38) r2_ ?_; intro g hg w1 hx hb1; have HX0 := Aside0.mk (show Below w.heap.size w w1 ∧ w1.heap[g]? = some (.cells #[.int .i64 1, .string a0_1, .int .i64 a0_2, .string a0_3, .string a0_4, .int .i64 a0_5] 38 (0, 0)) ∧ g = w.heap.size from ⟨hb1, hx, hg⟩); clear hg hx hb1) | ((with_reducible refine gate_dst (N := 4) rfl ?_); refine box_event r1_ (N := 4) r1_ (cs := #[.int .i64 0, .string ⟨#[]⟩, .string ⟨#[]⟩]) (t := 31) r2_ ?_; intro gr hr w2 hy hb2; have HX := Aside0.mk (RX.mk (below_then HX0.out.1 HX0.out.1.size hb2) (blk_below HX0.out.2.1 hb2) hy (Nat.le_of_eq HX0.out.2.2.symm) (by rw [hr]; exact HX0.out.1.size) (by rw [hr]; exact Ne.symm (Nat.ne_of_lt (blk_lt HX0.out.2.1)))); have hx0 := (blk_cell HX.out.x 0).trans (show _ = some (.int .i64 1) from rfl); have hx1 := (blk_cell HX.out.x 1).trans (show _ = some (.string a0_1) from rfl); have hx2 := (blk_cell HX.out.x 2).trans (show _ = some (.int .i64 a0_2) from rfl); have hx3 := (blk_cell HX.out.x 3).trans (show _ = some (.string a0_3) from rfl); have hx4 := (blk_cell HX.out.x 4).trans (show _ = some (.string a0_4) from rfl); have hx5 := (blk_cell HX.out.x 5).trans (show _ = some (.int .i64 a0_5) from rfl); clear hr hy hb2 HX0) | ((with_reducible refine gate_store (t := 31) (p := 4) rfl ?_); refine store_seg (gy := gr) (j := 0) (T := 31) (TB := 31) (cs := #[.int .i64 0, .string ⟨#[]⟩, .string ⟨#[]⟩]) (new := #[.int .i64 a0_2, .string a0_3, .string a0_4]) (u := .agg #[.int .i64 a0_2, .string a0_3, .string a0_4]) (seg := [.int .i64 a0_2, .string a0_3, .string a0_4]) rfl (p := .tmp 4) (x := .tmp 16) rfl rfl r1_ r1_ r1_ HX.out.r k1_ s1_ h1_ rfl ?_; intro w3 hz hup; have HY := Aside0.mk (HX.out.upr hup hz); clear HX hz hup))
  refine bodyPost_ret (by have hq0 := (blk_cell HY.out.r 0).trans (show _ = some (.int .i64 a0_2) from rfl); have hq1 := (blk_cell HY.out.r 1).trans (show _ = some (.string a0_3) from rfl); have hq2 := (blk_cell HY.out.r 2).trans (show _ = some (.string a0_4) from rfl); simp [results, Tryd.results22, go_sem, hq0, hq1, hq2]; rfl) rfl ?_
  exact ⟨rfl, HY.out.below⟩
 rw [if_neg c1] at h
 obtain ⟨⟨b1, b2, b3⟩, A0, H⟩ := Option.bind_eq_some_iff.mp h
 have AC := Aside0.mk A0
 clear h A0
 simp only at H
 have HLK := Aside0.mk (fun (W : World) (hb : Below w.heap.size w W) => (HM.out.below hb).look b1)
 obtain ⟨bg, hbg⟩ : ∃ x, x = (lookM M b1).getD (⟨#[]⟩ : ByteArray) := ⟨_, rfl⟩
 obtain ⟨ib, hib⟩ : ∃ x, x = (lookM M b1).isSome := ⟨_, rfl⟩
 rw [← hbg, ← hib] at H HLK
 clear hbg hib
 by_cases c2 : bg.size + b2.size ≤ 9223372036854775807
 case neg => rw [if_neg c2] at H; cases H
 rw [if_pos c2] at H
 have hb3 : (9223372036854775807 < bg.size + b2.size) = False := eq_false (by omega)
 have hb4 : (9223372036854775807 < (bg ++ b2).size) = False := eq_false (by rw [ByteArray.size_append]; omega)
 have c1b : (a0_0 == 1) = false := by simpa using c1
 have HH := Aside0.mk H
 clear H c1 c2
 go_enter Tryd.func22, Tryd.ntmps22
 go_wp2_with (first | ((with_reducible refine gate_dst (N := 2) rfl ?_); refine box_event r1_ (N := 2) r1_ (cs := #[.int .i64 a0_0, .string a0_1, .int .i64 a0_2, .string a0_3, .string a0_4, .int .i64 a0_5]) (t := 38) r2_ ?_; intro g hg w1 hx hb1; have HX0 := Aside0.mk (show Below w.heap.size w w1 ∧ w1.heap[g]? = some (.cells #[.int .i64 a0_0, .string a0_1, .int .i64 a0_2, .string a0_3, .string a0_4, .int .i64 a0_5] 38 (0, 0)) ∧ g = w.heap.size from ⟨hb1, hx, hg⟩); clear hg hx hb1) | ((with_reducible refine gate_dst (N := 4) rfl ?_); refine box_event r1_ (N := 4) r1_ (cs := #[.int .i64 0, .string ⟨#[]⟩, .string ⟨#[]⟩]) (t := 31) r2_ ?_; intro gr hr w2 hy hb2; have HX := Aside0.mk (RX.mk (below_then HX0.out.1 HX0.out.1.size hb2) (blk_below HX0.out.2.1 hb2) hy (Nat.le_of_eq HX0.out.2.2.symm) (by rw [hr]; exact HX0.out.1.size) (by rw [hr]; exact Ne.symm (Nat.ne_of_lt (blk_lt HX0.out.2.1)))); have hx0 := (blk_cell HX.out.x 0).trans (show _ = some (.int .i64 a0_0) from rfl); have hx1 := (blk_cell HX.out.x 1).trans (show _ = some (.string a0_1) from rfl); have hx2 := (blk_cell HX.out.x 2).trans (show _ = some (.int .i64 a0_2) from rfl); have hx3 := (blk_cell HX.out.x 3).trans (show _ = some (.string a0_3) from rfl); have hx4 := (blk_cell HX.out.x 4).trans (show _ = some (.string a0_4) from rfl); have hx5 := (blk_cell HX.out.x 5).trans (show _ = some (.int .i64 a0_5) from rfl); clear hr hy hb2 HX0) | (go_at_call 33; refine (strings_Cut.calls a0_1 (⟨#[58]⟩ : ByteArray) b1 b2 b3 _ AC.out).mono ?_; rintro e w3 ⟨rfl, ⟨nd, rfl⟩⟩; have hlk := HLK.out _ (pw_below_drewN HX.out.below nd)) | ((with_reducible refine gate_dst (N := 11) rfl ?_); refine box_event r1_ (N := 11) r1_ (cs := #[.int .i64 0, .string ⟨#[]⟩, .string ⟨#[]⟩]) (t := 31) r2_ ?_; intro gt ht w4 hy hb; have HX2 := Aside0.mk (show RX w w4 g gr #[.int .i64 a0_0, .string a0_1, .int .i64 a0_2, .string a0_3, .string a0_4, .int .i64 a0_5] #[.int .i64 0, .string ⟨#[]⟩, .string ⟨#[]⟩] ∧ w4.heap[gt]? = some (.cells #[.int .i64 0, .string ⟨#[]⟩, .string ⟨#[]⟩] 31 (0, 0)) ∧ w.heap.size ≤ gt ∧ gt ≠ g ∧ gt ≠ gr from ⟨(HX.out.lower (pw_below_drewN (Below.refl _ _) nd)).lower hb, hy, by rw [ht]; exact HX.out.below.size, by rw [ht]; exact Ne.symm (Nat.ne_of_lt (blk_lt HX.out.x)), by rw [ht]; exact Ne.symm (Nat.ne_of_lt (blk_lt HX.out.r))⟩); clear ht hy hb) | ((with_reducible refine gate_store (t := 31) (p := 11) rfl ?_); refine store_seg (gy := gt) (j := 0) (T := 31) (TB := 31) (cs := #[.int .i64 0, .string ⟨#[]⟩, .string ⟨#[]⟩]) (new := #[.int .i64 1, .string (bg ++ b2), .string ⟨#[]⟩]) (u := .agg #[.int .i64 1, .string (bg ++ b2), .string ⟨#[]⟩]) (seg := [.int .i64 1, .string (bg ++ b2), .string ⟨#[]⟩]) rfl (p := .tmp 11) (x := .tmp 33) rfl rfl r1_ r1_ r1_ HX2.out.2.1 k1_ s1_ h1_ rfl ?_; intro w5 hz hup; have HX3 := Aside0.mk (show RX w w5 g gr #[.int .i64 a0_0, .string a0_1, .int .i64 a0_2, .string a0_3, .string a0_4, .int .i64 a0_5] #[.int .i64 0, .string ⟨#[]⟩, .string ⟨#[]⟩] ∧ w5.heap[gt]? = some (.cells #[.int .i64 1, .string (bg ++ b2), .string ⟨#[]⟩] 31 (0, 0)) ∧ w.heap.size ≤ gt from ⟨HX2.out.1.far hup HX2.out.2.2.1 HX2.out.2.2.2.1 HX2.out.2.2.2.2, hz, HX2.out.2.2.1⟩); clear hz hup))
 have hg0 := (blk_cell HX3.out.1.x 0).trans (show _ = some (.int .i64 a0_0) from rfl)
 have ht0 := (blk_cell HX3.out.2.1 0).trans (show _ = some (.int .i64 1) from rfl)
 have ht1 := (blk_cell HX3.out.2.1 1).trans (show _ = some (.string (bg ++ b2)) from rfl)
 have ht2 := (blk_cell HX3.out.2.1 2).trans (show _ = some (.string ⟨#[]⟩) from rfl)
 have hr0 := (blk_cell HX3.out.1.r 0).trans (show _ = some (.int .i64 0) from rfl)
 have hr1 := (blk_cell HX3.out.1.r 1).trans (show _ = some (.string ⟨#[]⟩) from rfl)
 have hr2 := (blk_cell HX3.out.1.r 2).trans (show _ = some (.string ⟨#[]⟩) from rfl)
 have hf0 := blk_frozen HX3.out.1.r 0
 have hf1 := blk_frozen HX3.out.1.r 1
 have hf2 := blk_frozen HX3.out.1.r 2
 have hn := HX3.out.1.gg
 have hn2 := HX2.out.2.2.2.2
 have hn3 := HX2.out.2.2.2.1
 have hn4 := Ne.symm hn
 have hn5 := Ne.symm hn2
 clear HX HX2 AC HLK hlk hx0 hx1 hx2 hx3 hx4 hx5 hb3 hb4 HM
 have H := HH.out
 clear HH
 by_cases c7 : a0_0 = 7
 case neg =>
  rw [if_neg (fun hc => c7 hc.1)] at H
  simp only [Option.some.injEq, Prod.mk.injEq] at H
  obtain ⟨rfl, rfl, rfl, rfl⟩ := H
  have c7b : (a0_0 == 7) = false := beq_eq_false_iff_ne.mpr c7
  have HX5 := Aside0.mk (HX3.out.1.lower (below_drew (Below.refl _ _)))
  refine start_ (n := 13) (S := fun w' => w'.cell? ⟨gt, 0, none⟩ = some (.int .i64 1) ∧ w'.cell? ⟨gt, 1, none⟩ = some (.string (bg ++ b2)) ∧ w'.cell? ⟨gt, 2, none⟩ = some (.string ⟨#[]⟩) ∧ w'.cell? ⟨g, 0, none⟩ = some (.int .i64 a0_0)) (ds := []) #[false, false, false, false, false, false, false, false, false, false, false, false, false] k1_ rfl rfl ⟨ht0, ht1, ht2, hg0⟩ (fun hHeld => ?_)
  refine with_tabW lex_resource.tab6 lex_resource.bits6 (fun HT_ HW_ => ?_)
  clear hg0 ht0 ht1 ht2 hr0 hr1 hr2 hf0 hf1 hf2 HX3
  generalize w5.drew = w6 at HX5 hHeld ⊢
  refine pure_ (i := 1) (N := some 35) (v := ?_) (a' := ?_) #[false, true, false, false, false, false, false, false, false, false, false, false, false] rfl rfl (any_of HT_.out k1_) (fun _ _ _ h => h) (Or.inl ⟨by rfl, ?_⟩) ?_ ?_
  rotate_left
  ·intro w'
   go_simp
   with_reducible rfl
  rotate_left
  ·simp only [Act.put, List.setIfInBounds_toArray, List.set_cons_zero, List.set_cons_succ, i64_w, i32_w]
   rfl
  refine take_ (i := 0) (N := some 34) (v := ?_) (a' := ?_) #[true, true, false, false, false, false, false, false, false, false, false, false, false] rfl rfl (take_ofW HT_.out HW_.out k1_) (fun _ _ _ h => h) (Or.inl ⟨by rfl, ?_⟩) hHeld ?_ ?_
  rotate_left
  ·rintro w' ⟨s0, s1, s2, s3⟩
   go_simp
   with_reducible rfl
  rotate_left
  ·simp only [Act.put, List.setIfInBounds_toArray, List.set_cons_zero, List.set_cons_succ, i64_w, i32_w]
   rfl
  refine take_ (i := 2) (N := some 36) (v := ?_) (a' := ?_) #[true, true, true, false, false, false, false, false, false, false, false, false, false] rfl rfl (take_ofW HT_.out HW_.out k1_) (fun _ _ _ h => h) (Or.inl ⟨by rfl, ?_⟩) hHeld ?_ ?_
  rotate_left
  ·rintro w' ⟨s0, s1, s2, s3⟩
   go_simp
   with_reducible rfl
  rotate_left
  ·simp only [Act.put, List.setIfInBounds_toArray, List.set_cons_zero, List.set_cons_succ, i64_w, i32_w]
   rfl
  refine pure_ (i := 3) (N := some 37) (v := ?_) (a' := ?_) #[true, true, true, true, false, false, false, false, false, false, false, false, false] rfl rfl (any_of HT_.out k1_) (fun _ _ _ h => h) (Or.inl ⟨by rfl, ?_⟩) ?_ ?_
  rotate_left
  ·intro w'
   go_simp
   with_reducible rfl
  rotate_left
  ·simp only [Act.put, List.setIfInBounds_toArray, List.set_cons_zero, List.set_cons_succ, i64_w, i32_w]
   rfl
  refine pure_ (i := 4) (N := some 38) (v := ?_) (a' := ?_) #[true, true, true, true, true, false, false, false, false, false, false, false, false] rfl rfl (any_of HT_.out k1_) (fun _ _ _ h => h) (Or.inl ⟨by rfl, ?_⟩) ?_ ?_
  rotate_left
  ·intro w'
   go_simp
   with_reducible rfl
  rotate_left
  ·simp only [Act.put, List.setIfInBounds_toArray, List.set_cons_zero, List.set_cons_succ, i64_w, i32_w]
   rfl
  refine pure_ (i := 5) (N := some 39) (v := undef) (a' := ?_) #[true, true, true, true, true, true, false, false, false, false, false, false, false] rfl rfl (any_of HT_.out k1_) (fun _ _ _ h => h) (Or.inr ⟨by rfl, rfl⟩) ?_ ?_
  rotate_left
  ·simp only [Act.put, List.setIfInBounds_toArray, List.set_cons_zero, List.set_cons_succ, i64_w, i32_w]
   rfl
  refine pure_ (i := 6) (N := some 40) (v := ?_) (a' := ?_) #[true, true, true, true, true, true, true, false, false, false, false, false, false] rfl rfl (any_of HT_.out k1_) (fun _ _ _ h => h) (Or.inl ⟨by rfl, ?_⟩) ?_ ?_
  rotate_left
  ·intro w'
   go_simp
   with_reducible rfl
  rotate_left
  ·simp only [Act.put, List.setIfInBounds_toArray, List.set_cons_zero, List.set_cons_succ, i64_w, i32_w]
   rfl
  refine pure_ (i := 7) (N := some 41) (v := ?_) (a' := ?_) #[true, true, true, true, true, true, true, true, false, false, false, false, false] rfl rfl (any_of HT_.out k1_) (fun _ _ _ h => h) (Or.inl ⟨by rfl, ?_⟩) ?_ ?_
  rotate_left
  ·intro w'
   go_simp
   with_reducible rfl
  rotate_left
  ·simp only [Act.put, List.setIfInBounds_toArray, List.set_cons_zero, List.set_cons_succ, i64_w, i32_w]
   rfl
  refine pure_ (i := 8) (N := some 42) (v := undef) (a' := ?_) #[true, true, true, true, true, true, true, true, true, false, false, false, false] rfl rfl (any_of HT_.out k1_) (fun _ _ _ h => h) (Or.inr ⟨by rfl, rfl⟩) ?_ ?_
  rotate_left
  ·simp only [Act.put, List.setIfInBounds_toArray, List.set_cons_zero, List.set_cons_succ, i64_w, i32_w]
   rfl
  refine pure_ (i := 9) (N := some 43) (v := undef) (a' := ?_) #[true, true, true, true, true, true, true, true, true, true, false, false, false] rfl rfl (any_of HT_.out k1_) (fun _ _ _ h => h) (Or.inr ⟨by rfl, rfl⟩) ?_ ?_
  rotate_left
  ·simp only [Act.put, List.setIfInBounds_toArray, List.set_cons_zero, List.set_cons_succ, i64_w, i32_w]
   rfl
  refine pure_ (i := 10) (N := some 44) (v := ?_) (a' := ?_) #[true, true, true, true, true, true, true, true, true, true, true, false, false] rfl rfl (any_of HT_.out k1_) (fun _ _ _ h => h) (Or.inl ⟨by rfl, ?_⟩) ?_ ?_
  rotate_left
  ·intro w'
   go_simp
   with_reducible rfl
  rotate_left
  ·simp only [Act.put, List.setIfInBounds_toArray, List.set_cons_zero, List.set_cons_succ, i64_w, i32_w]
   rfl
  refine one_ (i := 11) (N := none) #[true, true, true, true, true, true, true, true, true, true, true, true, false] rfl rfl (one_of HT_.out k1_) (by decide) (fun K hK => ?_)
  have hs0 : w6.cell? ⟨gr, 0, none⟩ = some (.int .i64 0) := (blk_cell HX5.out.r 0).trans rfl
  have hfs0 := blk_frozen HX5.out.r 0
  have hs1 : w6.cell? ⟨gr, 1, none⟩ = some (.string ⟨#[]⟩) := (blk_cell HX5.out.r 1).trans rfl
  have hfs1 := blk_frozen HX5.out.r 1
  have hs2 : w6.cell? ⟨gr, 2, none⟩ = some (.string ⟨#[]⟩) := (blk_cell HX5.out.r 2).trans rfl
  have hfs2 := blk_frozen HX5.out.r 2
  refine skip_ (w1 := ?_) (by rfl) rfl ?_ ?_
  rotate_left
  ·go_simp
   rfl
  refine hK.out _ _ ⟨((cell_far (p := ⟨gr, _, none⟩) hn2 _).trans ((cell_far (p := ⟨gr, _, none⟩) hn2 _).trans ((cell_far (p := ⟨gr, _, none⟩) hn2 _).trans (hHeld.1)))), ((cell_far (p := ⟨gr, _, none⟩) hn2 _).trans ((cell_far (p := ⟨gr, _, none⟩) hn2 _).trans ((cell_far (p := ⟨gr, _, none⟩) hn2 _).trans (hHeld.2.1)))), ((cell_far (p := ⟨gr, _, none⟩) hn2 _).trans ((cell_far (p := ⟨gr, _, none⟩) hn2 _).trans ((cell_far (p := ⟨gr, _, none⟩) hn2 _).trans (hHeld.2.2.1)))), ((cell_far (p := ⟨gr, _, none⟩) hn4 _).trans ((cell_far (p := ⟨gr, _, none⟩) hn4 _).trans ((cell_far (p := ⟨gr, _, none⟩) hn4 _).trans (hHeld.2.2.2))))⟩ (fun hHeld => ?_)
  clear hK K
  refine pure_ (i := 12) (N := some 5) (v := ?_) (a' := ?_) #[true, true, true, true, true, true, true, true, true, true, true, true, true] rfl rfl (any_of HT_.out k1_) (fun _ _ _ h => h) (Or.inl ⟨by rfl, ?_⟩) ?_ ?_
  rotate_left
  ·intro w'
   go_simp
   with_reducible rfl
  rotate_left
  ·simp only [Act.put, List.setIfInBounds_toArray, List.set_cons_zero, List.set_cons_succ, i64_w, i32_w]
   rfl
  refine done_ (done_of HT_.out k1_) ?_
  try go_wp2
  refine bodyPost_ret (results_ct rfl _ _ gr 31 #[.int .i64 1, .string (bg ++ b2), .string ⟨#[]⟩] (0, 0) _ rfl (blk_set (blk_set (blk_set HX5.out.r 0 _) 1 _) 2 _) Tryd.underlying31 rfl k1_) rfl ?_
  exact ⟨rfl, ((HX5.out.below.setCell (p := ⟨gr, 0, none⟩) HX5.out.rw' _).setCell (p := ⟨gr, 1, none⟩) HX5.out.rw' _).setCell (p := ⟨gr, 2, none⟩) HX5.out.rw' _⟩
 subst c7
 cases ib with
 | false =>
  rw [if_neg (by simp)] at H
  simp only [Option.some.injEq, Prod.mk.injEq] at H
  obtain ⟨rfl, rfl, rfl, rfl⟩ := H
  go_region
  all_goals (go_wp2; refine bodyPost_ret (by simp [results, Tryd.results22, go_sem, *]; rfl) rfl ?_; exact ⟨rfl, by repeat (first | exact HX3.out.1.below | refine below_drew1 ?_ | refine pw_below_drewN ?_ _ | refine below_set ?_ HX3.out.1.rw')⟩)
 | true =>
  rw [if_pos ⟨rfl, rfl⟩] at H
  obtain ⟨m, A0, H⟩ := Option.bind_eq_some_iff.mp H
  simp only [Option.some.injEq, Prod.mk.injEq] at H
  obtain ⟨rfl, rfl, rfl, rfl⟩ := H
  have AM := Aside0.mk A0
  clear A0
  go_region_held3 (fun W => W.cell? ⟨g, 0, none⟩ = some (.int .i64 7) ∧ W.cell? ⟨gt, 0, none⟩ = some (.int .i64 1) ∧ W.cell? ⟨gt, 1, none⟩ = some (.string (bg ++ b2)) ∧ W.cell? ⟨gt, 2, none⟩ = some (.string ⟨#[]⟩)) (first | (exact ⟨pw_cell_below hb hg0, pw_cell_below hb ht0, pw_cell_below hb ht1, pw_cell_below hb ht2⟩) | go_keep) (first | (go_at_call 23; refine (term_May.calls k 1 (bg ++ b2) (⟨#[]⟩ : ByteArray) m _ AM.out).mono ?_; rintro e w6 ⟨rfl, hb⟩; have HR6 := blk_below (blk_drew HX3.out.1.r) hb; have hq0 := (blk_cell HR6 0).trans (show _ = some (.int .i64 0) from rfl); have hq1 := (blk_cell HR6 1).trans (show _ = some (.string ⟨#[]⟩) from rfl); have hq2 := (blk_cell HR6 2).trans (show _ = some (.string ⟨#[]⟩) from rfl); have hqf := fun i => blk_frozen HR6 i; have HB6 := below_step (below_drew1 HX3.out.1.below) hb))
  go_wp2
  refine bodyPost_ret (results_ct rfl _ _ gr 31 #[.int .i64 1, .string (bg ++ b2), .string ⟨#[]⟩] (0, 0) _ rfl (blk_set (blk_set (blk_set HR6 0 _) 1 _) 2 _) Tryd.underlying31 rfl k1_) rfl ?_
  exact ⟨rfl, ((HB6.setCell (p := ⟨gr, 0, none⟩) HX3.out.1.rw' _).setCell (p := ⟨gr, 1, none⟩) HX3.out.1.rw' _).setCell (p := ⟨gr, 2, none⟩) HX3.out.1.rw' _⟩
end Go.Proofs.YtpbphelaeleikaaDoor.PMean

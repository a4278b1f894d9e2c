import Derived.Test.YtjnhdamilbcmpaaGreatDoorWrPWritx0
import Derived.Test.YtjnhdamilbcmpaaGreatDoorWrPWritx9
import Derived.Test.YtjnhdamilbcmpaaGreatDoorWrPWritx11
import Derived.Test.YtjnhdamilbcmpaaGreatDoorWrPWritx15
import Derived.Test.YtjnhdamilbcmpaaGreatDoorWrPWritx16
namespace Go.Proofs.YtjnhdamilbcmpaaGreatDoor.PWrit
open Go.RowKit Go.Proofs.YtjnhdamilbcmpaaGreatDoorW.PrintWords Go.Proofs.YtjnhdamilbcmpaaGreatDoorW.PrintLast Go.Proofs.YtjnhdamilbcmpaaGreatDoorW.PrintMore
attribute [local go_sem] max2_int min2_int max_two min_two max_three min_three max_four min_four
set_option linter.unusedVariables false
set_option linter.unusedSimpArgs false
def rhizomeref02_Text.f (k : Nat) (a0_0 : Int) (a0_1 : ByteArray) (a0_2 : ByteArray) : Option (ByteArray) := if a0_0 = 1 then (if 1 + a0_1.size ≤ 9223372036854775807 then (if ((⟨#[60]⟩ : ByteArray) ++ a0_1).size + 1 ≤ 9223372036854775807 then (some (((⟨#[60]⟩ : ByteArray) ++ a0_1) ++ (⟨#[62]⟩ : ByteArray))) else (none)) else (none)) else (if a0_0 = 2 then (if 2 + a0_1.size ≤ 9223372036854775807 then (some ((⟨#[95, 58]⟩ : ByteArray) ++ a0_1)) else (none)) else (if a0_0 = 4 then ((rhizomeref02_written.f k a0_1).bind fun t401 => (if t401.size + 1 ≤ 9223372036854775807 then (if (t401 ++ (⟨#[64]⟩ : ByteArray)).size + a0_2.size ≤ 9223372036854775807 then (some ((t401 ++ (⟨#[64]⟩ : ByteArray)) ++ a0_2)) else (none)) else (none))) else (if a0_0 = 5 then ((rhizomeref02_written.f k a0_1).bind fun t402 => (if t402.size + 3 ≤ 9223372036854775807 then (if (t402 ++ (⟨#[94, 94, 60]⟩ : ByteArray)).size + a0_2.size ≤ 9223372036854775807 then (if ((t402 ++ (⟨#[94, 94, 60]⟩ : ByteArray)) ++ a0_2).size + 1 ≤ 9223372036854775807 then (some (((t402 ++ (⟨#[94, 94, 60]⟩ : ByteArray)) ++ a0_2) ++ (⟨#[62]⟩ : ByteArray))) else (none)) else (none)) else (none))) else ((rhizomeref02_written.f k a0_1).bind fun t403 => (some t403)))))
def rhizomeref02_Text.T7 : Bool × List (List Nat × List Nat) := (true, [([], []), ([0], [0]), ([1], [1]), ([2], [2]), ([], []), ([4], [4]), ([3, 5], [3, 5]), ([6, 2, 0, 1, 2, 3, 4, 5, 6], [6])])
def rhizomeref02_Text.B7 : List Nat := [0, 1, 3, 7, 0, 16, 63, 127]
theorem rhizomeref02_Text.tab7 : rtab .any (opsOf Tryz.f41 7) = rhizomeref02_Text.T7 := by kernel_rfl
theorem rhizomeref02_Text.bits7 : waitsOk rhizomeref02_Text.T7.2 rhizomeref02_Text.B7 = true := by kernel_rfl
def rhizomeref02_Text.T9 : Bool × List (List Nat × List Nat) := (true, [([], []), ([0], [0]), ([1], [1]), ([2], [2]), ([], []), ([4], [4]), ([3, 5], [3, 5]), ([6], [6]), ([7, 2, 0, 1, 2, 3, 4, 5, 6, 7], [7])])
def rhizomeref02_Text.B9 : List Nat := [0, 1, 3, 7, 0, 16, 63, 127, 255]
theorem rhizomeref02_Text.tab9 : rtab .any (opsOf Tryz.f41 9) = rhizomeref02_Text.T9 := by kernel_rfl
theorem rhizomeref02_Text.bits9 : waitsOk rhizomeref02_Text.T9.2 rhizomeref02_Text.B9 = true := by kernel_rfl
set_option maxHeartbeats 8000000 in
set_option maxRecDepth 100000 in
theorem rhizomeref02_Text.calls (k : Nat) (a0_0 : Int) (a0_1 : ByteArray) (a0_2 : ByteArray) (r : ByteArray) (w : World) (h : rhizomeref02_Text.f k a0_0 a0_1 a0_2 = some r) :
  Calls Tryz.prog 41 #[.agg #[.int .i64 a0_0, .string a0_1, .string a0_2]] w fun e w' => e = .returned (.string r) ∧ Below w.heap.size w w' := by
 have hu31 := Tryz.underlying31
 have HB := Aside0.mk (Below.refl w.heap.size w)
 have H : (if a0_0 = 1 then (if 1 + a0_1.size ≤ 9223372036854775807 then (if ((⟨#[60]⟩ : ByteArray) ++ a0_1).size + 1 ≤ 9223372036854775807 then (some (((⟨#[60]⟩ : ByteArray) ++ a0_1) ++ (⟨#[62]⟩ : ByteArray))) else (none)) else (none)) else (if a0_0 = 2 then (if 2 + a0_1.size ≤ 9223372036854775807 then (some ((⟨#[95, 58]⟩ : ByteArray) ++ a0_1)) else (none)) else (if a0_0 = 4 then ((rhizomeref02_written.f k a0_1).bind fun t401 => (if t401.size + 1 ≤ 9223372036854775807 then (if (t401 ++ (⟨#[64]⟩ : ByteArray)).size + a0_2.size ≤ 9223372036854775807 then (some ((t401 ++ (⟨#[64]⟩ : ByteArray)) ++ a0_2)) else (none)) else (none))) else (if a0_0 = 5 then ((rhizomeref02_written.f k a0_1).bind fun t402 => (if t402.size + 3 ≤ 9223372036854775807 then (if (t402 ++ (⟨#[94, 94, 60]⟩ : ByteArray)).size + a0_2.size ≤ 9223372036854775807 then (if ((t402 ++ (⟨#[94, 94, 60]⟩ : ByteArray)) ++ a0_2).size + 1 ≤ 9223372036854775807 then (some (((t402 ++ (⟨#[94, 94, 60]⟩ : ByteArray)) ++ a0_2) ++ (⟨#[62]⟩ : ByteArray))) else (none)) else (none)) else (none))) else ((rhizomeref02_written.f k a0_1).bind fun t403 => (some t403)))))) = some r := h
 clear h
 by_cases c2 : a0_0 = 1
 ·rw [if_pos c2] at H
  have c2b0 : (a0_0 == 1) = true := beq_iff_eq.mpr c2
  have c2b1 : (a0_0 != 1) = false := bne_eq_false_iff_eq.mpr c2
  clear c2
  by_cases c3 : 1 + a0_1.size ≤ 9223372036854775807
  ·rw [if_pos c3] at H
   have c3b0 := eq_true c3
   have c3b1 : decide (1 + a0_1.size ≤ 9223372036854775807) = true := decide_eq_true c3
   try have c3b2 : (9223372036854775807 < 1 + a0_1.size) = False := eq_false (Nat.not_lt.2 c3)
   by_cases c4 : ((⟨#[60]⟩ : ByteArray) ++ a0_1).size + 1 ≤ 9223372036854775807
   ·rw [if_pos c4] at H
    have c4b0 := eq_true c4
    have c4b1 : decide (((⟨#[60]⟩ : ByteArray) ++ a0_1).size + 1 ≤ 9223372036854775807) = true := decide_eq_true c4
    try have c4b2 : (9223372036854775807 < ((⟨#[60]⟩ : ByteArray) ++ a0_1).size + 1) = False := eq_false (Nat.not_lt.2 c4)
    try have c4b3 : (9223372036854775807 < 1 + a0_1.size + 1) = False := eq_false (by have h_ := c4; simp only [ByteArray.size_append] at h_; exact Nat.not_lt.2 h_)
    obtain rfl := Option.some.inj H
    go_enter Tryz.func41, Tryz.ntmps41
    go_wp2_with (first | ((with_reducible refine gate_dst (N := 1) rfl ?_); refine box_event r1_ (N := 1) r1_ (cs := #[.int .i64 a0_0, .string a0_1, .string a0_2]) (t := 31) r2_ ?_; intro gb400 hg w5 hbox hb; have BK400 := Aside0.mk (hbox); have GW400 := Aside0.mk (bs_ : w.heap.size ≤ gb400); have GE400 := Aside0.mk (bs_ : w.heap.size ≤ gb400); replace HB := Aside0.mk (below_step b1_ hb); clear hb hbox hg; have hcz6_0 := cl_ (.int .i64 a0_0) BK400.out 0; have hcz6_1 := cl_ (.string a0_1) BK400.out 1; have hcz6_2 := cl_ (.string a0_2) BK400.out 2; have hfz6_0 := blk_frozen BK400.out 0; have hfz6_1 := blk_frozen BK400.out 1; have hfz6_2 := blk_frozen BK400.out 2))
    go_ret
    exact ⟨e2_, by have G0 := GE400; exact z4_⟩
   ·rw [if_neg c4] at H
    exact absurd H (by simp)
  ·rw [if_neg c3] at H
   exact absurd H (by simp)
 ·rw [if_neg c2] at H
  have c2b0 : (a0_0 == 1) = false := beq_eq_false_iff_ne.mpr c2
  have c2b1 : (a0_0 != 1) = true := bne_iff_ne.mpr c2
  by_cases c7 : a0_0 = 2
  ·rw [if_pos c7] at H
   have c7b0 : (a0_0 == 2) = true := beq_iff_eq.mpr c7
   have c7b1 : (a0_0 != 2) = false := bne_eq_false_iff_eq.mpr c7
   clear c7
   by_cases c8 : 2 + a0_1.size ≤ 9223372036854775807
   ·rw [if_pos c8] at H
    have c8b0 := eq_true c8
    have c8b1 : decide (2 + a0_1.size ≤ 9223372036854775807) = true := decide_eq_true c8
    try have c8b2 : (9223372036854775807 < 2 + a0_1.size) = False := eq_false (Nat.not_lt.2 c8)
    obtain rfl := Option.some.inj H
    go_enter Tryz.func41, Tryz.ntmps41
    go_wp2_with (first | ((with_reducible refine gate_dst (N := 1) rfl ?_); refine box_event r1_ (N := 1) r1_ (cs := #[.int .i64 a0_0, .string a0_1, .string a0_2]) (t := 31) r2_ ?_; intro gb400 hg w9 hbox hb; have BK400 := Aside0.mk (hbox); have GW400 := Aside0.mk (bs_ : w.heap.size ≤ gb400); have GE400 := Aside0.mk (bs_ : w.heap.size ≤ gb400); replace HB := Aside0.mk (below_step b1_ hb); clear hb hbox hg; have hcz10_0 := cl_ (.int .i64 a0_0) BK400.out 0; have hcz10_1 := cl_ (.string a0_1) BK400.out 1; have hcz10_2 := cl_ (.string a0_2) BK400.out 2; have hfz10_0 := blk_frozen BK400.out 0; have hfz10_1 := blk_frozen BK400.out 1; have hfz10_2 := blk_frozen BK400.out 2))
    go_ret
    exact ⟨e2_, by have G0 := GE400; exact z4_⟩
   ·rw [if_neg c8] at H
    exact absurd H (by simp)
  ·rw [if_neg c7] at H
   have c7b0 : (a0_0 == 2) = false := beq_eq_false_iff_ne.mpr c7
   have c7b1 : (a0_0 != 2) = true := bne_iff_ne.mpr c7
   by_cases c11 : a0_0 = 4
   ·rw [if_pos c11] at H
    have c11b0 : (a0_0 == 4) = true := beq_iff_eq.mpr c11
    have c11b1 : (a0_0 != 4) = false := bne_eq_false_iff_eq.mpr c11
    clear c11
    replace H := Option.bind_eq_some_iff.mp H
    obtain ⟨t401, A120, H⟩ := H
    replace H : (if t401.size + 1 ≤ 9223372036854775807 then (if (t401 ++ (⟨#[64]⟩ : ByteArray)).size + a0_2.size ≤ 9223372036854775807 then (some ((t401 ++ (⟨#[64]⟩ : ByteArray)) ++ a0_2)) else (none)) else (none)) = some r := H
    have A12 := Aside0.mk A120
    clear A120
    by_cases c13 : t401.size + 1 ≤ 9223372036854775807
    ·rw [if_pos c13] at H
     have c13b0 := eq_true c13
     have c13b1 : decide (t401.size + 1 ≤ 9223372036854775807) = true := decide_eq_true c13
     try have c13b2 : (9223372036854775807 < t401.size + 1) = False := eq_false (Nat.not_lt.2 c13)
     by_cases c14 : (t401 ++ (⟨#[64]⟩ : ByteArray)).size + a0_2.size ≤ 9223372036854775807
     ·rw [if_pos c14] at H
      have c14b0 := eq_true c14
      have c14b1 : decide ((t401 ++ (⟨#[64]⟩ : ByteArray)).size + a0_2.size ≤ 9223372036854775807) = true := decide_eq_true c14
      try have c14b2 : (9223372036854775807 < (t401 ++ (⟨#[64]⟩ : ByteArray)).size + a0_2.size) = False := eq_false (Nat.not_lt.2 c14)
      try have c14b3 : (9223372036854775807 < t401.size + 1 + a0_2.size) = False := eq_false (by have h_ := c14; simp only [ByteArray.size_append] at h_; exact Nat.not_lt.2 h_)
      obtain rfl := Option.some.inj H
      go_enter Tryz.func41, Tryz.ntmps41
      try go_wp2_with (first | ((with_reducible refine gate_dst (N := 1) rfl ?_); refine box_event r1_ (N := 1) r1_ (cs := #[.int .i64 a0_0, .string a0_1, .string a0_2]) (t := 31) r2_ ?_; intro gb400 hg w15 hbox hb; have BK400 := Aside0.mk (hbox); have GW400 := Aside0.mk (bs_ : w.heap.size ≤ gb400); have GE400 := Aside0.mk (bs_ : w.heap.size ≤ gb400); replace HB := Aside0.mk (below_step b1_ hb); clear hb hbox hg; have hcz16_0 := cl_ (.int .i64 a0_0) BK400.out 0; have hcz16_1 := cl_ (.string a0_1) BK400.out 1; have hcz16_2 := cl_ (.string a0_2) BK400.out 2; have hfz16_0 := blk_frozen BK400.out 0; have hfz16_1 := blk_frozen BK400.out 1; have hfz16_2 := blk_frozen BK400.out 2))
      have n0_ := Aside0.mk (blk_drew BK400.out)
      have n1_ := Aside0.mk (below_drew1 HB.out)
      clear BK400
      clear HB
      have BK400 := n0_
      have HB := n1_
      clear n0_ n1_
      refine start_ (n := 8) (S := fun w' => w'.cell? ⟨gb400, 0, none⟩ = some (.int .i64 a0_0) ∧ w'.cell? ⟨gb400, 1, none⟩ = some (.string a0_1) ∧ w'.cell? ⟨gb400, 2, none⟩ = some (.string a0_2)) (ds := []) #[false, false, false, false, false, false, false, false] k1_ rfl rfl ⟨(blk_cell BK400.out 0).trans rfl, (blk_cell BK400.out 1).trans rfl, (blk_cell BK400.out 2).trans rfl⟩ (fun hHeld => ?_); refine with_tabW rhizomeref02_Text.tab7 rhizomeref02_Text.bits7 (fun HT_ HW_ => ?_)
      generalize w15.drew = w17 at BK400 HB hHeld ⊢
      refine pure_ (i := 0) (N := some 18) (v := ?_) (a' := ?_) #[true, false, false, false, false, false, false, false] rfl rfl (any_of HT_.out k1_) (fun _ _ _ h => h) (Or.inl ⟨by rfl, ?_⟩) ?_ ?_
      rotate_left
      ·intro w'
       go_simp
       with_reducible rfl
      rotate_left
      ·simp only [Act.put, List.setIfInBounds_toArray, List.set_cons_zero, List.set_cons_succ, i64_w, i32_w]
       rfl
      refine pure_ (i := 4) (N := some 22) (v := ?_) (a' := ?_) #[true, false, false, false, true, false, false, false] rfl rfl (any_of HT_.out k1_) (fun _ _ _ h => h) (Or.inl ⟨by rfl, ?_⟩) ?_ ?_
      rotate_left
      ·intro w'
       go_simp
       with_reducible rfl
      rotate_left
      ·simp only [Act.put, List.setIfInBounds_toArray, List.set_cons_zero, List.set_cons_succ, i64_w, i32_w]
       rfl
      refine take_ (i := 1) (N := some 19) (v := ?_) (a' := ?_) #[true, true, false, false, true, false, false, false] rfl rfl (take_ofW HT_.out HW_.out k1_) (fun _ _ _ h => h) (Or.inl ⟨by rfl, ?_⟩) hHeld ?_ ?_
      rotate_left
      ·rintro w' ⟨s0, s1, s2⟩
       go_simp
       with_reducible rfl
      rotate_left
      ·simp only [Act.put, List.setIfInBounds_toArray, List.set_cons_zero, List.set_cons_succ, i64_w, i32_w]
       rfl
      refine take_ (i := 5) (N := some 23) (v := ?_) (a' := ?_) #[true, true, false, false, true, true, false, false] rfl rfl (take_ofW HT_.out HW_.out k1_) (fun _ _ _ h => h) (Or.inl ⟨by rfl, ?_⟩) hHeld ?_ ?_
      rotate_left
      ·rintro w' ⟨s0, s1, s2⟩
       go_simp
       with_reducible rfl
      rotate_left
      ·simp only [Act.put, List.setIfInBounds_toArray, List.set_cons_zero, List.set_cons_succ, i64_w, i32_w]
       rfl
      refine one_ (i := 2) (N := some 20) #[true, true, true, false, true, true, false, false] rfl rfl (one_of HT_.out k1_) (by decide) (fun K hK => ?_)
      refine goes_ Tryz.func57 k1_ rfl #[.string a0_1] (by rfl) rfl rfl g1_ ?_
      with_reducible refine (rhizomeref02_written.calls k a0_1 t401 _ A12.out).mono ?_
      rintro e w18 ⟨rfl, hb⟩
      refine ⟨_, rfl, ?_⟩
      have n0_ := Aside0.mk (blk_below (g := gb400) (o := .cells #[.int .i64 a0_0, .string a0_1, .string a0_2] 31 (0, 0)) (bd_ BK400.out) hb)
      have n1_ := Aside0.mk (below_step (by have GE := GE400; exact b2_) hb)
      clear BK400
      clear HB
      have BK400 := n0_
      have HB := n1_
      clear n0_ n1_
      (try clear hb)
      (try clear hb2)
      (try clear hk)
      (try clear hi)
      refine hK.out _ _ ⟨(blk_cell BK400.out 0).trans rfl, (blk_cell BK400.out 1).trans rfl, (blk_cell BK400.out 2).trans rfl⟩ (fun hHeld => ?_)
      clear hK K
      refine norm_ (a' := ?_) ?_ ?_
      rotate_left
      ·show Act.put _ (some 20) _ = _
       simp only [Act.put, List.setIfInBounds_toArray, List.set_cons_zero, List.set_cons_succ, i64_w, i32_w]
       rfl
      refine pure_ (i := 3) (N := some 21) (v := ?_) (a' := ?_) #[true, true, true, true, true, true, false, false] rfl rfl (any_of HT_.out k1_) (fun _ _ _ h => h) (Or.inl ⟨by rfl, ?_⟩) ?_ ?_
      rotate_left
      ·intro w'
       go_simp
       with_reducible rfl
      rotate_left
      ·simp only [Act.put, List.setIfInBounds_toArray, List.set_cons_zero, List.set_cons_succ, i64_w, i32_w]
       rfl
      refine pure_ (i := 6) (N := some 24) (v := ?_) (a' := ?_) #[true, true, true, true, true, true, true, false] rfl rfl (any_of HT_.out k1_) (fun _ _ _ h => h) (Or.inl ⟨by rfl, ?_⟩) ?_ ?_
      rotate_left
      ·intro w'
       go_simp
       with_reducible rfl
      rotate_left
      ·simp only [Act.put, List.setIfInBounds_toArray, List.set_cons_zero, List.set_cons_succ, i64_w, i32_w]
       rfl
      refine pure_ (i := 7) (N := some 2) (v := ?_) (a' := ?_) #[true, true, true, true, true, true, true, true] rfl rfl (any_of HT_.out k1_) (fun _ _ _ h => h) (Or.inl ⟨by rfl, ?_⟩) ?_ ?_
      rotate_left
      ·intro w'
       go_simp
       with_reducible rfl
      rotate_left
      ·simp only [Act.put, List.setIfInBounds_toArray, List.set_cons_zero, List.set_cons_succ, i64_w, i32_w]
       rfl
      refine done_ (done_of HT_.out k1_) ?_
      try go_wp2
      go_ret
      exact ⟨e2_, by have G0 := GE400; exact z4_⟩
     ·rw [if_neg c14] at H
      exact absurd H (by simp)
    ·rw [if_neg c13] at H
     exact absurd H (by simp)
   ·rw [if_neg c11] at H
    have c11b0 : (a0_0 == 4) = false := beq_eq_false_iff_ne.mpr c11
    have c11b1 : (a0_0 != 4) = true := bne_iff_ne.mpr c11
    by_cases c19 : a0_0 = 5
    ·rw [if_pos c19] at H
     have c19b0 : (a0_0 == 5) = true := beq_iff_eq.mpr c19
     have c19b1 : (a0_0 != 5) = false := bne_eq_false_iff_eq.mpr c19
     clear c19
     replace H := Option.bind_eq_some_iff.mp H
     obtain ⟨t402, A200, H⟩ := H
     replace H : (if t402.size + 3 ≤ 9223372036854775807 then (if (t402 ++ (⟨#[94, 94, 60]⟩ : ByteArray)).size + a0_2.size ≤ 9223372036854775807 then (if ((t402 ++ (⟨#[94, 94, 60]⟩ : ByteArray)) ++ a0_2).size + 1 ≤ 9223372036854775807 then (some (((t402 ++ (⟨#[94, 94, 60]⟩ : ByteArray)) ++ a0_2) ++ (⟨#[62]⟩ : ByteArray))) else (none)) else (none)) else (none)) = some r := H
     have A20 := Aside0.mk A200
     clear A200
     by_cases c21 : t402.size + 3 ≤ 9223372036854775807
     ·rw [if_pos c21] at H
      have c21b0 := eq_true c21
      have c21b1 : decide (t402.size + 3 ≤ 9223372036854775807) = true := decide_eq_true c21
      try have c21b2 : (9223372036854775807 < t402.size + 3) = False := eq_false (Nat.not_lt.2 c21)
      by_cases c22 : (t402 ++ (⟨#[94, 94, 60]⟩ : ByteArray)).size + a0_2.size ≤ 9223372036854775807
      ·rw [if_pos c22] at H
       have c22b0 := eq_true c22
       have c22b1 : decide ((t402 ++ (⟨#[94, 94, 60]⟩ : ByteArray)).size + a0_2.size ≤ 9223372036854775807) = true := decide_eq_true c22
       try have c22b2 : (9223372036854775807 < (t402 ++ (⟨#[94, 94, 60]⟩ : ByteArray)).size + a0_2.size) = False := eq_false (Nat.not_lt.2 c22)
       try have c22b3 : (9223372036854775807 < t402.size + 3 + a0_2.size) = False := eq_false (by have h_ := c22; simp only [ByteArray.size_append] at h_; exact Nat.not_lt.2 h_)
       by_cases c23 : ((t402 ++ (⟨#[94, 94, 60]⟩ : ByteArray)) ++ a0_2).size + 1 ≤ 9223372036854775807
       ·rw [if_pos c23] at H
        have c23b0 := eq_true c23
        have c23b1 : decide (((t402 ++ (⟨#[94, 94, 60]⟩ : ByteArray)) ++ a0_2).size + 1 ≤ 9223372036854775807) = true := decide_eq_true c23
        try have c23b2 : (9223372036854775807 < ((t402 ++ (⟨#[94, 94, 60]⟩ : ByteArray)) ++ a0_2).size + 1) = False := eq_false (Nat.not_lt.2 c23)
        try have c23b3 : (9223372036854775807 < t402.size + 3 + a0_2.size + 1) = False := eq_false (by have h_ := c23; simp only [ByteArray.size_append] at h_; exact Nat.not_lt.2 h_)
        obtain rfl := Option.some.inj H
        go_enter Tryz.func41, Tryz.ntmps41
        try go_wp2_with (first | ((with_reducible refine gate_dst (N := 1) rfl ?_); refine box_event r1_ (N := 1) r1_ (cs := #[.int .i64 a0_0, .string a0_1, .string a0_2]) (t := 31) r2_ ?_; intro gb400 hg w24 hbox hb; have BK400 := Aside0.mk (hbox); have GW400 := Aside0.mk (bs_ : w.heap.size ≤ gb400); have GE400 := Aside0.mk (bs_ : w.heap.size ≤ gb400); replace HB := Aside0.mk (below_step b1_ hb); clear hb hbox hg; have hcz25_0 := cl_ (.int .i64 a0_0) BK400.out 0; have hcz25_1 := cl_ (.string a0_1) BK400.out 1; have hcz25_2 := cl_ (.string a0_2) BK400.out 2; have hfz25_0 := blk_frozen BK400.out 0; have hfz25_1 := blk_frozen BK400.out 1; have hfz25_2 := blk_frozen BK400.out 2))
        have n0_ := Aside0.mk (blk_drew BK400.out)
        have n1_ := Aside0.mk (below_drew1 HB.out)
        clear BK400
        clear HB
        have BK400 := n0_
        have HB := n1_
        clear n0_ n1_
        refine start_ (n := 9) (S := fun w' => w'.cell? ⟨gb400, 0, none⟩ = some (.int .i64 a0_0) ∧ w'.cell? ⟨gb400, 1, none⟩ = some (.string a0_1) ∧ w'.cell? ⟨gb400, 2, none⟩ = some (.string a0_2)) (ds := []) #[false, false, false, false, false, false, false, false, false] k1_ rfl rfl ⟨(blk_cell BK400.out 0).trans rfl, (blk_cell BK400.out 1).trans rfl, (blk_cell BK400.out 2).trans rfl⟩ (fun hHeld => ?_); refine with_tabW rhizomeref02_Text.tab9 rhizomeref02_Text.bits9 (fun HT_ HW_ => ?_)
        generalize w24.drew = w26 at BK400 HB hHeld ⊢
        refine pure_ (i := 0) (N := some 27) (v := ?_) (a' := ?_) #[true, false, false, false, false, false, false, false, false] rfl rfl (any_of HT_.out k1_) (fun _ _ _ h => h) (Or.inl ⟨by rfl, ?_⟩) ?_ ?_
        rotate_left
        ·intro w'
         go_simp
         with_reducible rfl
        rotate_left
        ·simp only [Act.put, List.setIfInBounds_toArray, List.set_cons_zero, List.set_cons_succ, i64_w, i32_w]
         rfl
        refine pure_ (i := 4) (N := some 31) (v := ?_) (a' := ?_) #[true, false, false, false, true, false, false, false, false] rfl rfl (any_of HT_.out k1_) (fun _ _ _ h => h) (Or.inl ⟨by rfl, ?_⟩) ?_ ?_
        rotate_left
        ·intro w'
         go_simp
         with_reducible rfl
        rotate_left
        ·simp only [Act.put, List.setIfInBounds_toArray, List.set_cons_zero, List.set_cons_succ, i64_w, i32_w]
         rfl
        refine take_ (i := 1) (N := some 28) (v := ?_) (a' := ?_) #[true, true, false, false, true, false, false, false, false] rfl rfl (take_ofW HT_.out HW_.out k1_) (fun _ _ _ h => h) (Or.inl ⟨by rfl, ?_⟩) hHeld ?_ ?_
        rotate_left
        ·rintro w' ⟨s0, s1, s2⟩
         go_simp
         with_reducible rfl
        rotate_left
        ·simp only [Act.put, List.setIfInBounds_toArray, List.set_cons_zero, List.set_cons_succ, i64_w, i32_w]
         rfl
        refine take_ (i := 5) (N := some 32) (v := ?_) (a' := ?_) #[true, true, false, false, true, true, false, false, false] rfl rfl (take_ofW HT_.out HW_.out k1_) (fun _ _ _ h => h) (Or.inl ⟨by rfl, ?_⟩) hHeld ?_ ?_
        rotate_left
        ·rintro w' ⟨s0, s1, s2⟩
         go_simp
         with_reducible rfl
        rotate_left
        ·simp only [Act.put, List.setIfInBounds_toArray, List.set_cons_zero, List.set_cons_succ, i64_w, i32_w]
         rfl
        refine one_ (i := 2) (N := some 29) #[true, true, true, false, true, true, false, false, false] rfl rfl (one_of HT_.out k1_) (by decide) (fun K hK => ?_)
        refine goes_ Tryz.func57 k1_ rfl #[.string a0_1] (by rfl) rfl rfl g1_ ?_
        with_reducible refine (rhizomeref02_written.calls k a0_1 t402 _ A20.out).mono ?_
        rintro e w27 ⟨rfl, hb⟩
        refine ⟨_, rfl, ?_⟩
        have n0_ := Aside0.mk (blk_below (g := gb400) (o := .cells #[.int .i64 a0_0, .string a0_1, .string a0_2] 31 (0, 0)) (bd_ BK400.out) hb)
        have n1_ := Aside0.mk (below_step (by have GE := GE400; exact b2_) hb)
        clear BK400
        clear HB
        have BK400 := n0_
        have HB := n1_
        clear n0_ n1_
        (try clear hb)
        (try clear hb2)
        (try clear hk)
        (try clear hi)
        refine hK.out _ _ ⟨(blk_cell BK400.out 0).trans rfl, (blk_cell BK400.out 1).trans rfl, (blk_cell BK400.out 2).trans rfl⟩ (fun hHeld => ?_)
        clear hK K
        refine norm_ (a' := ?_) ?_ ?_
        rotate_left
        ·show Act.put _ (some 29) _ = _
         simp only [Act.put, List.setIfInBounds_toArray, List.set_cons_zero, List.set_cons_succ, i64_w, i32_w]
         rfl
        refine pure_ (i := 3) (N := some 30) (v := ?_) (a' := ?_) #[true, true, true, true, true, true, false, false, false] rfl rfl (any_of HT_.out k1_) (fun _ _ _ h => h) (Or.inl ⟨by rfl, ?_⟩) ?_ ?_
        rotate_left
        ·intro w'
         go_simp
         with_reducible rfl
        rotate_left
        ·simp only [Act.put, List.setIfInBounds_toArray, List.set_cons_zero, List.set_cons_succ, i64_w, i32_w]
         rfl
        refine pure_ (i := 6) (N := some 33) (v := ?_) (a' := ?_) #[true, true, true, true, true, true, true, false, false] rfl rfl (any_of HT_.out k1_) (fun _ _ _ h => h) (Or.inl ⟨by rfl, ?_⟩) ?_ ?_
        rotate_left
        ·intro w'
         go_simp
         with_reducible rfl
        rotate_left
        ·simp only [Act.put, List.setIfInBounds_toArray, List.set_cons_zero, List.set_cons_succ, i64_w, i32_w]
         rfl
        refine pure_ (i := 7) (N := some 34) (v := ?_) (a' := ?_) #[true, true, true, true, true, true, true, true, false] rfl rfl (any_of HT_.out k1_) (fun _ _ _ h => h) (Or.inl ⟨by rfl, ?_⟩) ?_ ?_
        rotate_left
        ·intro w'
         go_simp
         with_reducible rfl
        rotate_left
        ·simp only [Act.put, List.setIfInBounds_toArray, List.set_cons_zero, List.set_cons_succ, i64_w, i32_w]
         rfl
        refine pure_ (i := 8) (N := some 2) (v := ?_) (a' := ?_) #[true, true, true, true, true, true, true, true, true] rfl rfl (any_of HT_.out k1_) (fun _ _ _ h => h) (Or.inl ⟨by rfl, ?_⟩) ?_ ?_
        rotate_left
        ·intro w'
         go_simp
         with_reducible rfl
        rotate_left
        ·simp only [Act.put, List.setIfInBounds_toArray, List.set_cons_zero, List.set_cons_succ, i64_w, i32_w]
         rfl
        refine done_ (done_of HT_.out k1_) ?_
        try go_wp2
        go_ret
        exact ⟨e2_, by have G0 := GE400; exact z4_⟩
       ·rw [if_neg c23] at H
        exact absurd H (by simp)
      ·rw [if_neg c22] at H
       exact absurd H (by simp)
     ·rw [if_neg c21] at H
      exact absurd H (by simp)
    ·rw [if_neg c19] at H
     have c19b0 : (a0_0 == 5) = false := beq_eq_false_iff_ne.mpr c19
     have c19b1 : (a0_0 != 5) = true := bne_iff_ne.mpr c19
     replace H := Option.bind_eq_some_iff.mp H
     obtain ⟨t403, A280, H⟩ := H
     replace H : (some t403) = some r := H
     have A28 := Aside0.mk A280
     clear A280
     obtain rfl := Option.some.inj H
     go_enter Tryz.func41, Tryz.ntmps41
     go_wp2_with (first | ((with_reducible refine gate_dst (N := 1) rfl ?_); refine box_event r1_ (N := 1) r1_ (cs := #[.int .i64 a0_0, .string a0_1, .string a0_2]) (t := 31) r2_ ?_; intro gb400 hg w29 hbox hb; have BK400 := Aside0.mk (hbox); have GW400 := Aside0.mk (bs_ : w.heap.size ≤ gb400); have GE400 := Aside0.mk (bs_ : w.heap.size ≤ gb400); replace HB := Aside0.mk (below_step b1_ hb); clear hb hbox hg; have hcz30_0 := cl_ (.int .i64 a0_0) BK400.out 0; have hcz30_1 := cl_ (.string a0_1) BK400.out 1; have hcz30_2 := cl_ (.string a0_2) BK400.out 2; have hfz30_0 := blk_frozen BK400.out 0; have hfz30_1 := blk_frozen BK400.out 1; have hfz30_2 := blk_frozen BK400.out 2) | ((with_reducible refine gate_callee (f := 57) rfl ?_); refine goesL_ (some 37) rfl rfl Tryz.func57 k1_ rfl #[.string a0_1] rfl g1_ ?_; (with_reducible refine (rhizomeref02_written.calls k a0_1 t403 _ A28.out).mono ?_); rintro e w31 ⟨rfl, hb⟩; refine ⟨_, rfl, ?_⟩; replace BK400 := Aside0.mk (blk_below (g := gb400) (o := .cells #[.int .i64 a0_0, .string a0_1, .string a0_2] 31 (0, 0)) (bd_ BK400.out) hb); replace HB := Aside0.mk (below_step (by have GE := GE400; exact b2_) hb); (try clear hb); (try clear hb2); (try clear hk); (try clear hi)))
     go_ret
     exact ⟨e2_, by have G0 := GE400; exact z4_⟩
def rhizomeref02_TripleText.f (k : Nat) (a0_0 : Int) (a0_1 : ByteArray) (a0_2 : ByteArray) (a0_3 : Int) (a0_4 : ByteArray) (a0_5 : ByteArray) (a0_6 : Int) (a0_7 : ByteArray) (a0_8 : ByteArray) : Option (ByteArray) := (rhizomeref02_Text.f k a0_0 a0_1 a0_2).bind fun t405 => (if t405.size + 1 ≤ 9223372036854775807 then ((rhizomeref02_Text.f k a0_3 a0_4 a0_5).bind fun t406 => (if (t405 ++ (⟨#[32]⟩ : ByteArray)).size + t406.size ≤ 9223372036854775807 then (if ((t405 ++ (⟨#[32]⟩ : ByteArray)) ++ t406).size + 1 ≤ 9223372036854775807 then ((rhizomeref02_Text.f k a0_6 a0_7 a0_8).bind fun t407 => (if (((t405 ++ (⟨#[32]⟩ : ByteArray)) ++ t406) ++ (⟨#[32]⟩ : ByteArray)).size + t407.size ≤ 9223372036854775807 then (if ((((t405 ++ (⟨#[32]⟩ : ByteArray)) ++ t406) ++ (⟨#[32]⟩ : ByteArray)) ++ t407).size + 2 ≤ 9223372036854775807 then (some (((((t405 ++ (⟨#[32]⟩ : ByteArray)) ++ t406) ++ (⟨#[32]⟩ : ByteArray)) ++ t407) ++ (⟨#[32, 46]⟩ : ByteArray))) else (none)) else (none))) else (none)) else (none))) else (none))
def rhizomeref02_TripleText.T1 : Bool × List (List Nat × List Nat) := (true, [([], []), ([0], [0]), ([1], [1]), ([2], [2]), ([], []), ([4], [4]), ([5, 2], [5]), ([3, 6], [3, 6]), ([7], [7]), ([], []), ([9], [9]), ([10, 6], [10]), ([8, 11], [8, 11]), ([12], [12]), ([13, 11, 0, 1, 2, 3, 4, 5, 6, 7, 8, 9, 10, 11, 12, 13], [13])])
def rhizomeref02_TripleText.B1 : List Nat := [0, 1, 3, 7, 0, 16, 55, 127, 255, 0, 512, 1655, 4095, 8191, 16383]
theorem rhizomeref02_TripleText.tab1 : rtab .any (opsOf Tryz.f28 1) = rhizomeref02_TripleText.T1 := by kernel_rfl
theorem rhizomeref02_TripleText.bits1 : waitsOk rhizomeref02_TripleText.T1.2 rhizomeref02_TripleText.B1 = true := by kernel_rfl
set_option maxHeartbeats 8000000 in
set_option maxRecDepth 100000 in
theorem rhizomeref02_TripleText.calls (k : Nat) (a0_0 : Int) (a0_1 : ByteArray) (a0_2 : ByteArray) (a0_3 : Int) (a0_4 : ByteArray) (a0_5 : ByteArray) (a0_6 : Int) (a0_7 : ByteArray) (a0_8 : ByteArray) (r : ByteArray) (w : World) (h : rhizomeref02_TripleText.f k a0_0 a0_1 a0_2 a0_3 a0_4 a0_5 a0_6 a0_7 a0_8 = some r) :
  Calls Tryz.prog 28 #[.agg #[.int .i64 a0_0, .string a0_1, .string a0_2, .int .i64 a0_3, .string a0_4, .string a0_5, .int .i64 a0_6, .string a0_7, .string a0_8]] w fun e w' => e = .returned (.string r) ∧ Below w.heap.size w w' := by
 have hu33 := Tryz.underlying33
 have hu31 := Tryz.underlying31
 have HB := Aside0.mk (Below.refl w.heap.size w)
 have H : ((rhizomeref02_Text.f k a0_0 a0_1 a0_2).bind fun t405 => (if t405.size + 1 ≤ 9223372036854775807 then ((rhizomeref02_Text.f k a0_3 a0_4 a0_5).bind fun t406 => (if (t405 ++ (⟨#[32]⟩ : ByteArray)).size + t406.size ≤ 9223372036854775807 then (if ((t405 ++ (⟨#[32]⟩ : ByteArray)) ++ t406).size + 1 ≤ 9223372036854775807 then ((rhizomeref02_Text.f k a0_6 a0_7 a0_8).bind fun t407 => (if (((t405 ++ (⟨#[32]⟩ : ByteArray)) ++ t406) ++ (⟨#[32]⟩ : ByteArray)).size + t407.size ≤ 9223372036854775807 then (if ((((t405 ++ (⟨#[32]⟩ : ByteArray)) ++ t406) ++ (⟨#[32]⟩ : ByteArray)) ++ t407).size + 2 ≤ 9223372036854775807 then (some (((((t405 ++ (⟨#[32]⟩ : ByteArray)) ++ t406) ++ (⟨#[32]⟩ : ByteArray)) ++ t407) ++ (⟨#[32, 46]⟩ : ByteArray))) else (none)) else (none))) else (none)) else (none))) else (none))) = some r := h
 clear h
 replace H := Option.bind_eq_some_iff.mp H
 obtain ⟨t405, A20, H⟩ := H
 replace H : (if t405.size + 1 ≤ 9223372036854775807 then ((rhizomeref02_Text.f k a0_3 a0_4 a0_5).bind fun t406 => (if (t405 ++ (⟨#[32]⟩ : ByteArray)).size + t406.size ≤ 9223372036854775807 then (if ((t405 ++ (⟨#[32]⟩ : ByteArray)) ++ t406).size + 1 ≤ 9223372036854775807 then ((rhizomeref02_Text.f k a0_6 a0_7 a0_8).bind fun t407 => (if (((t405 ++ (⟨#[32]⟩ : ByteArray)) ++ t406) ++ (⟨#[32]⟩ : ByteArray)).size + t407.size ≤ 9223372036854775807 then (if ((((t405 ++ (⟨#[32]⟩ : ByteArray)) ++ t406) ++ (⟨#[32]⟩ : ByteArray)) ++ t407).size + 2 ≤ 9223372036854775807 then (some (((((t405 ++ (⟨#[32]⟩ : ByteArray)) ++ t406) ++ (⟨#[32]⟩ : ByteArray)) ++ t407) ++ (⟨#[32, 46]⟩ : ByteArray))) else (none)) else (none))) else (none)) else (none))) else (none)) = some r := H
 have A2 := Aside0.mk A20
 clear A20
 by_cases c3 : t405.size + 1 ≤ 9223372036854775807
 ·rw [if_pos c3] at H
  have c3b0 := eq_true c3
  have c3b1 : decide (t405.size + 1 ≤ 9223372036854775807) = true := decide_eq_true c3
  try have c3b2 : (9223372036854775807 < t405.size + 1) = False := eq_false (Nat.not_lt.2 c3)
  replace H := Option.bind_eq_some_iff.mp H
  obtain ⟨t406, A40, H⟩ := H
  replace H : (if (t405 ++ (⟨#[32]⟩ : ByteArray)).size + t406.size ≤ 9223372036854775807 then (if ((t405 ++ (⟨#[32]⟩ : ByteArray)) ++ t406).size + 1 ≤ 9223372036854775807 then ((rhizomeref02_Text.f k a0_6 a0_7 a0_8).bind fun t407 => (if (((t405 ++ (⟨#[32]⟩ : ByteArray)) ++ t406) ++ (⟨#[32]⟩ : ByteArray)).size + t407.size ≤ 9223372036854775807 then (if ((((t405 ++ (⟨#[32]⟩ : ByteArray)) ++ t406) ++ (⟨#[32]⟩ : ByteArray)) ++ t407).size + 2 ≤ 9223372036854775807 then (some (((((t405 ++ (⟨#[32]⟩ : ByteArray)) ++ t406) ++ (⟨#[32]⟩ : ByteArray)) ++ t407) ++ (⟨#[32, 46]⟩ : ByteArray))) else (none)) else (none))) else (none)) else (none)) = some r := H
  have A4 := Aside0.mk A40
  clear A40
  by_cases c5 : (t405 ++ (⟨#[32]⟩ : ByteArray)).size + t406.size ≤ 9223372036854775807
  ·rw [if_pos c5] at H
   have c5b0 := eq_true c5
   have c5b1 : decide ((t405 ++ (⟨#[32]⟩ : ByteArray)).size + t406.size ≤ 9223372036854775807) = true := decide_eq_true c5
   try have c5b2 : (9223372036854775807 < (t405 ++ (⟨#[32]⟩ : ByteArray)).size + t406.size) = False := eq_false (Nat.not_lt.2 c5)
   try have c5b3 : (9223372036854775807 < t405.size + 1 + t406.size) = False := eq_false (by have h_ := c5; simp only [ByteArray.size_append] at h_; exact Nat.not_lt.2 h_)
   by_cases c6 : ((t405 ++ (⟨#[32]⟩ : ByteArray)) ++ t406).size + 1 ≤ 9223372036854775807
   ·rw [if_pos c6] at H
    have c6b0 := eq_true c6
    have c6b1 : decide (((t405 ++ (⟨#[32]⟩ : ByteArray)) ++ t406).size + 1 ≤ 9223372036854775807) = true := decide_eq_true c6
    try have c6b2 : (9223372036854775807 < ((t405 ++ (⟨#[32]⟩ : ByteArray)) ++ t406).size + 1) = False := eq_false (Nat.not_lt.2 c6)
    try have c6b3 : (9223372036854775807 < t405.size + 1 + t406.size + 1) = False := eq_false (by have h_ := c6; simp only [ByteArray.size_append] at h_; exact Nat.not_lt.2 h_)
    replace H := Option.bind_eq_some_iff.mp H
    obtain ⟨t407, A70, H⟩ := H
    replace H : (if (((t405 ++ (⟨#[32]⟩ : ByteArray)) ++ t406) ++ (⟨#[32]⟩ : ByteArray)).size + t407.size ≤ 9223372036854775807 then (if ((((t405 ++ (⟨#[32]⟩ : ByteArray)) ++ t406) ++ (⟨#[32]⟩ : ByteArray)) ++ t407).size + 2 ≤ 9223372036854775807 then (some (((((t405 ++ (⟨#[32]⟩ : ByteArray)) ++ t406) ++ (⟨#[32]⟩ : ByteArray)) ++ t407) ++ (⟨#[32, 46]⟩ : ByteArray))) else (none)) else (none)) = some r := H
    have A7 := Aside0.mk A70
    clear A70
    by_cases c8 : (((t405 ++ (⟨#[32]⟩ : ByteArray)) ++ t406) ++ (⟨#[32]⟩ : ByteArray)).size + t407.size ≤ 9223372036854775807
    ·rw [if_pos c8] at H
     have c8b0 := eq_true c8
     have c8b1 : decide ((((t405 ++ (⟨#[32]⟩ : ByteArray)) ++ t406) ++ (⟨#[32]⟩ : ByteArray)).size + t407.size ≤ 9223372036854775807) = true := decide_eq_true c8
     try have c8b2 : (9223372036854775807 < (((t405 ++ (⟨#[32]⟩ : ByteArray)) ++ t406) ++ (⟨#[32]⟩ : ByteArray)).size + t407.size) = False := eq_false (Nat.not_lt.2 c8)
     try have c8b3 : (9223372036854775807 < t405.size + 1 + t406.size + 1 + t407.size) = False := eq_false (by have h_ := c8; simp only [ByteArray.size_append] at h_; exact Nat.not_lt.2 h_)
     by_cases c9 : ((((t405 ++ (⟨#[32]⟩ : ByteArray)) ++ t406) ++ (⟨#[32]⟩ : ByteArray)) ++ t407).size + 2 ≤ 9223372036854775807
     ·rw [if_pos c9] at H
      have c9b0 := eq_true c9
      have c9b1 : decide (((((t405 ++ (⟨#[32]⟩ : ByteArray)) ++ t406) ++ (⟨#[32]⟩ : ByteArray)) ++ t407).size + 2 ≤ 9223372036854775807) = true := decide_eq_true c9
      try have c9b2 : (9223372036854775807 < ((((t405 ++ (⟨#[32]⟩ : ByteArray)) ++ t406) ++ (⟨#[32]⟩ : ByteArray)) ++ t407).size + 2) = False := eq_false (Nat.not_lt.2 c9)
      try have c9b3 : (9223372036854775807 < t405.size + 1 + t406.size + 1 + t407.size + 2) = False := eq_false (by have h_ := c9; simp only [ByteArray.size_append] at h_; exact Nat.not_lt.2 h_)
      obtain rfl := Option.some.inj H
      go_enter Tryz.func28, Tryz.ntmps28
      try go_wp2_with (first | ((with_reducible refine gate_dst (N := 1) rfl ?_); refine box_event r1_ (N := 1) r1_ (cs := #[.int .i64 a0_0, .string a0_1, .string a0_2, .int .i64 a0_3, .string a0_4, .string a0_5, .int .i64 a0_6, .string a0_7, .string a0_8]) (t := 33) r2_ ?_; intro gb404 hg w10 hbox hb; have BK404 := Aside0.mk (hbox); have GW404 := Aside0.mk (bs_ : w.heap.size ≤ gb404); have GE404 := Aside0.mk (bs_ : w.heap.size ≤ gb404); replace HB := Aside0.mk (below_step b1_ hb); clear hb hbox hg))
      have n0_ := Aside0.mk (blk_drew BK404.out)
      have n1_ := Aside0.mk (below_drew1 HB.out)
      clear BK404
      clear HB
      have BK404 := n0_
      have HB := n1_
      clear n0_ n1_
      refine start_ (n := 15) (S := fun w' => w'.cell? ⟨gb404, 0, none⟩ = some (.int .i64 a0_0) ∧ w'.cell? ⟨gb404, 1, none⟩ = some (.string a0_1) ∧ w'.cell? ⟨gb404, 2, none⟩ = some (.string a0_2) ∧ w'.cell? ⟨gb404, 3, none⟩ = some (.int .i64 a0_3) ∧ w'.cell? ⟨gb404, 4, none⟩ = some (.string a0_4) ∧ w'.cell? ⟨gb404, 5, none⟩ = some (.string a0_5) ∧ w'.cell? ⟨gb404, 6, none⟩ = some (.int .i64 a0_6) ∧ w'.cell? ⟨gb404, 7, none⟩ = some (.string a0_7) ∧ w'.cell? ⟨gb404, 8, none⟩ = some (.string a0_8)) (ds := []) #[false, false, false, false, false, false, false, false, false, false, false, false, false, false, false] k1_ rfl rfl ⟨(blk_cell BK404.out 0).trans rfl, (blk_cell BK404.out 1).trans rfl, (blk_cell BK404.out 2).trans rfl, (blk_cell BK404.out 3).trans rfl, (blk_cell BK404.out 4).trans rfl, (blk_cell BK404.out 5).trans rfl, (blk_cell BK404.out 6).trans rfl, (blk_cell BK404.out 7).trans rfl, (blk_cell BK404.out 8).trans rfl⟩ (fun hHeld => ?_); refine with_tabW rhizomeref02_TripleText.tab1 rhizomeref02_TripleText.bits1 (fun HT_ HW_ => ?_)
      generalize w10.drew = w11 at BK404 HB hHeld ⊢
      refine pure_ (i := 0) (N := some 3) (v := ?_) (a' := ?_) #[true, false, false, false, false, false, false, false, false, false, false, false, false, false, false] rfl rfl (any_of HT_.out k1_) (fun _ _ _ h => h) (Or.inl ⟨by rfl, ?_⟩) ?_ ?_
      rotate_left
      ·intro w'
       go_simp
       with_reducible rfl
      rotate_left
      ·simp only [Act.put, List.setIfInBounds_toArray, List.set_cons_zero, List.set_cons_succ, i64_w, i32_w]
       rfl
      refine pure_ (i := 4) (N := some 7) (v := ?_) (a' := ?_) #[true, false, false, false, true, false, false, false, false, false, false, false, false, false, false] rfl rfl (any_of HT_.out k1_) (fun _ _ _ h => h) (Or.inl ⟨by rfl, ?_⟩) ?_ ?_
      rotate_left
      ·intro w'
       go_simp
       with_reducible rfl
      rotate_left
      ·simp only [Act.put, List.setIfInBounds_toArray, List.set_cons_zero, List.set_cons_succ, i64_w, i32_w]
       rfl
      refine pure_ (i := 9) (N := some 12) (v := ?_) (a' := ?_) #[true, false, false, false, true, false, false, false, false, true, false, false, false, false, false] rfl rfl (any_of HT_.out k1_) (fun _ _ _ h => h) (Or.inl ⟨by rfl, ?_⟩) ?_ ?_
      rotate_left
      ·intro w'
       go_simp
       with_reducible rfl
      rotate_left
      ·simp only [Act.put, List.setIfInBounds_toArray, List.set_cons_zero, List.set_cons_succ, i64_w, i32_w]
       rfl
      refine take_ (i := 1) (N := some 4) (v := ?_) (a' := ?_) #[true, true, false, false, true, false, false, false, false, true, false, false, false, false, false] rfl rfl (take_ofW HT_.out HW_.out k1_) (fun _ _ _ h => h) (Or.inl ⟨by rfl, ?_⟩) hHeld ?_ ?_
      rotate_left
      ·rintro w' ⟨s0, s1, s2, s3, s4, s5, s6, s7, s8⟩
       go_simp
       with_reducible rfl
      rotate_left
      ·simp only [Act.put, List.setIfInBounds_toArray, List.set_cons_zero, List.set_cons_succ, i64_w, i32_w]
       rfl
      refine take_ (i := 5) (N := some 8) (v := ?_) (a' := ?_) #[true, true, false, false, true, true, false, false, false, true, false, false, false, false, false] rfl rfl (take_ofW HT_.out HW_.out k1_) (fun _ _ _ h => h) (Or.inl ⟨by rfl, ?_⟩) hHeld ?_ ?_
      rotate_left
      ·rintro w' ⟨s0, s1, s2, s3, s4, s5, s6, s7, s8⟩
       go_simp
       with_reducible rfl
      rotate_left
      ·simp only [Act.put, List.setIfInBounds_toArray, List.set_cons_zero, List.set_cons_succ, i64_w, i32_w]
       rfl
      refine take_ (i := 10) (N := some 13) (v := ?_) (a' := ?_) #[true, true, false, false, true, true, false, false, false, true, true, false, false, false, false] rfl rfl (take_ofW HT_.out HW_.out k1_) (fun _ _ _ h => h) (Or.inl ⟨by rfl, ?_⟩) hHeld ?_ ?_
      rotate_left
      ·rintro w' ⟨s0, s1, s2, s3, s4, s5, s6, s7, s8⟩
       go_simp
       with_reducible rfl
      rotate_left
      ·simp only [Act.put, List.setIfInBounds_toArray, List.set_cons_zero, List.set_cons_succ, i64_w, i32_w]
       rfl
      refine one_ (i := 2) (N := some 5) #[true, true, true, false, true, true, false, false, false, true, true, false, false, false, false] rfl rfl (one_of HT_.out k1_) (by decide) (fun K hK => ?_)
      refine goes_ Tryz.func41 k1_ rfl #[.agg #[.int .i64 a0_0, .string a0_1, .string a0_2]] (by rfl) rfl rfl g1_ ?_
      with_reducible refine (rhizomeref02_Text.calls k a0_0 a0_1 a0_2 t405 _ A2.out).mono ?_
      rintro e w12 ⟨rfl, hb⟩
      refine ⟨_, rfl, ?_⟩
      have n0_ := Aside0.mk (blk_below (g := gb404) (o := .cells #[.int .i64 a0_0, .string a0_1, .string a0_2, .int .i64 a0_3, .string a0_4, .string a0_5, .int .i64 a0_6, .string a0_7, .string a0_8] 33 (0, 0)) (bd_ BK404.out) hb)
      have n1_ := Aside0.mk (below_step (by have GE := GE404; exact b2_) hb)
      clear BK404
      clear HB
      have BK404 := n0_
      have HB := n1_
      clear n0_ n1_
      (try clear hb)
      (try clear hb2)
      (try clear hk)
      (try clear hi)
      refine hK.out _ _ ⟨(blk_cell BK404.out 0).trans rfl, (blk_cell BK404.out 1).trans rfl, (blk_cell BK404.out 2).trans rfl, (blk_cell BK404.out 3).trans rfl, (blk_cell BK404.out 4).trans rfl, (blk_cell BK404.out 5).trans rfl, (blk_cell BK404.out 6).trans rfl, (blk_cell BK404.out 7).trans rfl, (blk_cell BK404.out 8).trans rfl⟩ (fun hHeld => ?_)
      clear hK K
      refine norm_ (a' := ?_) ?_ ?_
      rotate_left
      ·show Act.put _ (some 5) _ = _
       simp only [Act.put, List.setIfInBounds_toArray, List.set_cons_zero, List.set_cons_succ, i64_w, i32_w]
       rfl
      refine pure_ (i := 3) (N := some 6) (v := ?_) (a' := ?_) #[true, true, true, true, true, true, false, false, false, true, true, false, false, false, false] rfl rfl (any_of HT_.out k1_) (fun _ _ _ h => h) (Or.inl ⟨by rfl, ?_⟩) ?_ ?_
      rotate_left
      ·intro w'
       go_simp
       with_reducible rfl
      rotate_left
      ·simp only [Act.put, List.setIfInBounds_toArray, List.set_cons_zero, List.set_cons_succ, i64_w, i32_w]
       rfl
      refine one_ (i := 6) (N := some 9) #[true, true, true, true, true, true, true, false, false, true, true, false, false, false, false] rfl rfl (one_of HT_.out k1_) (by decide) (fun K hK => ?_)
      refine goes_ Tryz.func41 k1_ rfl #[.agg #[.int .i64 a0_3, .string a0_4, .string a0_5]] (by rfl) rfl rfl g1_ ?_
      with_reducible refine (rhizomeref02_Text.calls k a0_3 a0_4 a0_5 t406 _ A4.out).mono ?_
      rintro e w13 ⟨rfl, hb⟩
      refine ⟨_, rfl, ?_⟩
      have n0_ := Aside0.mk (blk_below (g := gb404) (o := .cells #[.int .i64 a0_0, .string a0_1, .string a0_2, .int .i64 a0_3, .string a0_4, .string a0_5, .int .i64 a0_6, .string a0_7, .string a0_8] 33 (0, 0)) (bd_ BK404.out) hb)
      have n1_ := Aside0.mk (below_step (by have GE := GE404; exact b2_) hb)
      clear BK404
      clear HB
      have BK404 := n0_
      have HB := n1_
      clear n0_ n1_
      (try clear hb)
      (try clear hb2)
      (try clear hk)
      (try clear hi)
      refine hK.out _ _ ⟨(blk_cell BK404.out 0).trans rfl, (blk_cell BK404.out 1).trans rfl, (blk_cell BK404.out 2).trans rfl, (blk_cell BK404.out 3).trans rfl, (blk_cell BK404.out 4).trans rfl, (blk_cell BK404.out 5).trans rfl, (blk_cell BK404.out 6).trans rfl, (blk_cell BK404.out 7).trans rfl, (blk_cell BK404.out 8).trans rfl⟩ (fun hHeld => ?_)
      clear hK K
      refine norm_ (a' := ?_) ?_ ?_
      rotate_left
      ·show Act.put _ (some 9) _ = _
       simp only [Act.put, List.setIfInBounds_toArray, List.set_cons_zero, List.set_cons_succ, i64_w, i32_w]
       rfl
      refine pure_ (i := 7) (N := some 10) (v := ?_) (a' := ?_) #[true, true, true, true, true, true, true, true, false, true, true, false, false, false, false] rfl rfl (any_of HT_.out k1_) (fun _ _ _ h => h) (Or.inl ⟨by rfl, ?_⟩) ?_ ?_
      rotate_left
      ·intro w'
       go_simp
       with_reducible rfl
      rotate_left
      ·simp only [Act.put, List.setIfInBounds_toArray, List.set_cons_zero, List.set_cons_succ, i64_w, i32_w]
       rfl
      refine pure_ (i := 8) (N := some 11) (v := ?_) (a' := ?_) #[true, true, true, true, true, true, true, true, true, true, true, false, false, false, false] rfl rfl (any_of HT_.out k1_) (fun _ _ _ h => h) (Or.inl ⟨by rfl, ?_⟩) ?_ ?_
      rotate_left
      ·intro w'
       go_simp
       with_reducible rfl
      rotate_left
      ·simp only [Act.put, List.setIfInBounds_toArray, List.set_cons_zero, List.set_cons_succ, i64_w, i32_w]
       rfl
      refine one_ (i := 11) (N := some 14) #[true, true, true, true, true, true, true, true, true, true, true, true, false, false, false] rfl rfl (one_of HT_.out k1_) (by decide) (fun K hK => ?_)
      refine goes_ Tryz.func41 k1_ rfl #[.agg #[.int .i64 a0_6, .string a0_7, .string a0_8]] (by rfl) rfl rfl g1_ ?_
      with_reducible refine (rhizomeref02_Text.calls k a0_6 a0_7 a0_8 t407 _ A7.out).mono ?_
      rintro e w14 ⟨rfl, hb⟩
      refine ⟨_, rfl, ?_⟩
      have n0_ := Aside0.mk (blk_below (g := gb404) (o := .cells #[.int .i64 a0_0, .string a0_1, .string a0_2, .int .i64 a0_3, .string a0_4, .string a0_5, .int .i64 a0_6, .string a0_7, .string a0_8] 33 (0, 0)) (bd_ BK404.out) hb)
      have n1_ := Aside0.mk (below_step (by have GE := GE404; exact b2_) hb)
      clear BK404
      clear HB
      have BK404 := n0_
      have HB := n1_
      clear n0_ n1_
      (try clear hb)
      (try clear hb2)
      (try clear hk)
      (try clear hi)
      refine hK.out _ _ ⟨(blk_cell BK404.out 0).trans rfl, (blk_cell BK404.out 1).trans rfl, (blk_cell BK404.out 2).trans rfl, (blk_cell BK404.out 3).trans rfl, (blk_cell BK404.out 4).trans rfl, (blk_cell BK404.out 5).trans rfl, (blk_cell BK404.out 6).trans rfl, (blk_cell BK404.out 7).trans rfl, (blk_cell BK404.out 8).trans rfl⟩ (fun hHeld => ?_)
      clear hK K
      refine norm_ (a' := ?_) ?_ ?_
      rotate_left
      ·show Act.put _ (some 14) _ = _
       simp only [Act.put, List.setIfInBounds_toArray, List.set_cons_zero, List.set_cons_succ, i64_w, i32_w]
       rfl
      refine pure_ (i := 12) (N := some 15) (v := ?_) (a' := ?_) #[true, true, true, true, true, true, true, true, true, true, true, true, true, false, false] rfl rfl (any_of HT_.out k1_) (fun _ _ _ h => h) (Or.inl ⟨by rfl, ?_⟩) ?_ ?_
      rotate_left
      ·intro w'
       go_simp
       with_reducible rfl
      rotate_left
      ·simp only [Act.put, List.setIfInBounds_toArray, List.set_cons_zero, List.set_cons_succ, i64_w, i32_w]
       rfl
      refine pure_ (i := 13) (N := some 16) (v := ?_) (a' := ?_) #[true, true, true, true, true, true, true, true, true, true, true, true, true, true, false] rfl rfl (any_of HT_.out k1_) (fun _ _ _ h => h) (Or.inl ⟨by rfl, ?_⟩) ?_ ?_
      rotate_left
      ·intro w'
       go_simp
       with_reducible rfl
      rotate_left
      ·simp only [Act.put, List.setIfInBounds_toArray, List.set_cons_zero, List.set_cons_succ, i64_w, i32_w]
       rfl
      refine pure_ (i := 14) (N := some 2) (v := ?_) (a' := ?_) #[true, true, true, true, true, true, true, true, true, true, true, true, true, true, true] rfl rfl (any_of HT_.out k1_) (fun _ _ _ h => h) (Or.inl ⟨by rfl, ?_⟩) ?_ ?_
      rotate_left
      ·intro w'
       go_simp
       with_reducible rfl
      rotate_left
      ·simp only [Act.put, List.setIfInBounds_toArray, List.set_cons_zero, List.set_cons_succ, i64_w, i32_w]
       rfl
      refine done_ (done_of HT_.out k1_) ?_
      try go_wp2
      go_ret
      exact ⟨e2_, by have G0 := GE404; exact z4_⟩
     ·rw [if_neg c9] at H
      exact absurd H (by simp)
    ·rw [if_neg c8] at H
     exact absurd H (by simp)
   ·rw [if_neg c6] at H
    exact absurd H (by simp)
  ·rw [if_neg c5] at H
   exact absurd H (by simp)
 ·rw [if_neg c3] at H
  exact absurd H (by simp)
def rhizomeref05_Text.l0 : Nat → List (S33) → List Int → Int → Option (ByteArray × Int)
 | 0, _, _, _ => none
 | k + 1, x0, x4, x5 => if x5 < (x0.length : Int) then (if 0 ≤ x5 then ((rhizomeref02_MayAdd.f k ((rd_T33 x0 x5).f0.f0) ((rd_T33 x0 x5).f0.f1) ((rd_T33 x0 x5).f0.f2) ((rd_T33 x0 x5).f1.f0) ((rd_T33 x0 x5).f1.f1) ((rd_T33 x0 x5).f1.f2) ((rd_T33 x0 x5).f2.f0) ((rd_T33 x0 x5).f2.f1) ((rd_T33 x0 x5).f2.f2)).bind fun t409 => (if t409 = true then ((rhizomeref02_TripleText.f k ((rd_T33 x0 x5).f0.f0) ((rd_T33 x0 x5).f0.f1) ((rd_T33 x0 x5).f0.f2) ((rd_T33 x0 x5).f1.f0) ((rd_T33 x0 x5).f1.f1) ((rd_T33 x0 x5).f1.f2) ((rd_T33 x0 x5).f2.f0) ((rd_T33 x0 x5).f2.f1) ((rd_T33 x0 x5).f2.f2)).bind fun t411 => (if x4.length + t411.size < 140737488355328 then ((some (x4 ++ bytesOf t411 : List Int)).bind fun y412 => (if y412.length < 140737488355328 then (rhizomeref05_Text.l0 k x0 (y412 ++ [10]) (wrap64 (x5 + 1))) else (none))) else (none))) else (some ((⟨#[]⟩ : ByteArray), 2)))) else (none)) else (if (x4.length : Int) > 1048576 then (some ((⟨#[]⟩ : ByteArray), 3)) else (some (strOfNums x4, 0)))
def rhizomeref05_Text.f (k : Nat) (l0 : List (S33)) : Option (ByteArray × Int) := rhizomeref05_Text.l0 k l0 ([] : List Int) 0
set_option maxHeartbeats 8000000 in
set_option maxRecDepth 100000 in
theorem rhizomeref05_Text.calls (k : Nat) (A0 : Option Addr) (c0 : Nat) (l0 : List (S33)) (r1 : ByteArray) (r2 : Int) (w : World) (hr0 : Kd.C k33 w A0 l0.length l0) (hc0 : l0.length ≤ c0) (h : rhizomeref05_Text.f k l0 = some (r1, r2)) :
  Calls Tryz.prog 13 #[.slice A0 l0.length c0] w fun e w' => e = .returned (.tuple #[.string r1, .int .i64 r2]) ∧ Below w.heap.size w w' := by
 have hu33 := Tryz.underlying33
 have HR0 := Aside0.mk hr0
 have HC0 := Aside0.mk hc0
 clear hr0 hc0
 have HB := Aside0.mk (Below.refl w.heap.size w)
 have H : (rhizomeref05_Text.l0 k l0 ([] : List Int) 0) = some (r1, r2) := h
 clear h
 have H' := Aside0.mk H
 clear H
 go_enter Tryz.func13, Tryz.ntmps13
 go_wp2
 go_loopg [4, 5] k (fun kq v4 v5 w' => ∃ (x4_1 : List Int) (x5_1 : Int), v5 = .int .i64 x5_1 ∧ Aside0 (rhizomeref05_Text.l0 kq l0 x4_1 x5_1 = some (r1, r2)) ∧ Aside0 (kq ≤ k) ∧ Aside0 (Kd.R (Kd.int .u8) 5 w' w.heap.size (fun _ => True) v4 x4_1) ∧ Aside0 (Below w.heap.size w w'))
 case atStart => exact ⟨(([] : List Int)), (0), e1_, H', ⟨Nat.le_refl _⟩, ⟨z28_⟩, ⟨b1_⟩⟩
 case round =>
  clear H'
  try clear c1
  obtain ⟨x4_1, x5_1, rfl, HA, HK1, HO_4, HB⟩ := hrel
  cases gk with
  | zero => exact absurd HA.out (by simp [rhizomeref05_Text.l0])
  | succ k1 =>
   have H := HA.out
   clear HA
   simp only [rhizomeref05_Text.l0] at H
   by_cases c2 : x5_1 < (l0.length : Int)
   ·rw [if_pos c2] at H
    have c2b0 : decide (x5_1 < (l0.length : Int)) = true := decide_eq_true c2
    clear c2
    by_cases c3 : 0 ≤ x5_1
    ·rw [if_pos c3] at H
     have c3b0 : decide (0 ≤ x5_1) = true := decide_eq_true c3
     clear c3
     replace H := Option.bind_eq_some_iff.mp H
     obtain ⟨t409, A40, H⟩ := H
     replace H : (if t409 = true then ((rhizomeref02_TripleText.f k1 ((rd_T33 l0 x5_1).f0.f0) ((rd_T33 l0 x5_1).f0.f1) ((rd_T33 l0 x5_1).f0.f2) ((rd_T33 l0 x5_1).f1.f0) ((rd_T33 l0 x5_1).f1.f1) ((rd_T33 l0 x5_1).f1.f2) ((rd_T33 l0 x5_1).f2.f0) ((rd_T33 l0 x5_1).f2.f1) ((rd_T33 l0 x5_1).f2.f2)).bind fun t411 => (if x4_1.length + t411.size < 140737488355328 then ((some (x4_1 ++ bytesOf t411 : List Int)).bind fun y412 => (if y412.length < 140737488355328 then (rhizomeref05_Text.l0 k1 l0 (y412 ++ [10]) (wrap64 (x5_1 + 1))) else (none))) else (none))) else (some ((⟨#[]⟩ : ByteArray), 2))) = some (r1, r2) := H
     have A4 := Aside0.mk A40
     clear A40
     by_cases c5 : t409 = true
     ·subst c5
      have H1 : ((rhizomeref02_TripleText.f k1 ((rd_T33 l0 x5_1).f0.f0) ((rd_T33 l0 x5_1).f0.f1) ((rd_T33 l0 x5_1).f0.f2) ((rd_T33 l0 x5_1).f1.f0) ((rd_T33 l0 x5_1).f1.f1) ((rd_T33 l0 x5_1).f1.f2) ((rd_T33 l0 x5_1).f2.f0) ((rd_T33 l0 x5_1).f2.f1) ((rd_T33 l0 x5_1).f2.f2)).bind fun t411 => (if x4_1.length + t411.size < 140737488355328 then ((some (x4_1 ++ bytesOf t411 : List Int)).bind fun y412 => (if y412.length < 140737488355328 then (rhizomeref05_Text.l0 k1 l0 (y412 ++ [10]) (wrap64 (x5_1 + 1))) else (none))) else (none))) = some (r1, r2) := by rw [if_pos rfl] at H; exact H
      clear H
      have H := H1
      clear H1
      replace H := Option.bind_eq_some_iff.mp H
      obtain ⟨t411, A60, H⟩ := H
      replace H : (if x4_1.length + t411.size < 140737488355328 then ((some (x4_1 ++ bytesOf t411 : List Int)).bind fun y412 => (if y412.length < 140737488355328 then (rhizomeref05_Text.l0 k1 l0 (y412 ++ [10]) (wrap64 (x5_1 + 1))) else (none))) else (none)) = some (r1, r2) := H
      have A6 := Aside0.mk A60
      clear A60
      by_cases c7 : x4_1.length + t411.size < 140737488355328
      ·rw [if_pos c7] at H
       have LMc7 := Aside0.mk c7
       clear c7
       obtain ⟨y412, hy412⟩ : ∃ y_ : List Int, y_ = (x4_1 ++ bytesOf t411) := ⟨_, rfl⟩
       replace H : (if y412.length < 140737488355328 then (rhizomeref05_Text.l0 k1 l0 (y412 ++ [10]) (wrap64 (x5_1 + 1))) else (none)) = some (r1, r2) := by first | (rw [hy412]; with_reducible exact H) | (have H2_ := (Option.bind_some _ _).symm.trans H; rw [hy412]; with_reducible exact H2_) | (have H2_ := (Option.bind_some _ _).symm.trans H; with_reducible exact H2_) | with_reducible exact H | (rw [hy412]; exact H) | exact H
       have Ny412 := Aside0.mk hy412
       clear hy412
       by_cases c8 : y412.length < 140737488355328
       ·rw [if_pos c8] at H
        have LMc8 := Aside0.mk c8
        clear c8
        obtain ⟨y415, hy415⟩ : ∃ y_ : List Int, y_ = (y412 ++ [10]) := ⟨_, rfl⟩
        replace H : (rhizomeref05_Text.l0 k1 l0 y415 (wrap64 (x5_1 + 1))) = some (r1, r2) := by first | (rw [hy415]; with_reducible exact H) | (have H2_ := (Option.bind_some _ _).symm.trans H; rw [hy415]; with_reducible exact H2_) | (have H2_ := (Option.bind_some _ _).symm.trans H; with_reducible exact H2_) | with_reducible exact H | (rw [hy415]; exact H) | exact H
        have Ny415 := Aside0.mk hy415
        clear hy415
        have H' := Aside0.mk H
        clear H
        have p408 : 0 ≤ (x5_1 : Int) := of_decide_eq_true a1_
        have q408 : x5_1 < (l0.length : Int) := of_decide_eq_true a1_
        obtain ⟨ad408, e408, hx408_0, hx408_1, hx408_2, hx408_3, hx408_4, hx408_5, hx408_6, hx408_7, hx408_8⟩ := at_T33 HR0.out x5_1 p408 q408
        cases e408
        replace hx408_0 := (HB.out.cell (World.block_lt_of_cell? w _ hx408_0)).trans hx408_0
        replace hx408_1 := (HB.out.cell (World.block_lt_of_cell? w _ hx408_1)).trans hx408_1
        replace hx408_2 := (HB.out.cell (World.block_lt_of_cell? w _ hx408_2)).trans hx408_2
        replace hx408_3 := (HB.out.cell (World.block_lt_of_cell? w _ hx408_3)).trans hx408_3
        replace hx408_4 := (HB.out.cell (World.block_lt_of_cell? w _ hx408_4)).trans hx408_4
        replace hx408_5 := (HB.out.cell (World.block_lt_of_cell? w _ hx408_5)).trans hx408_5
        replace hx408_6 := (HB.out.cell (World.block_lt_of_cell? w _ hx408_6)).trans hx408_6
        replace hx408_7 := (HB.out.cell (World.block_lt_of_cell? w _ hx408_7)).trans hx408_7
        replace hx408_8 := (HB.out.cell (World.block_lt_of_cell? w _ hx408_8)).trans hx408_8
        replace p408 := eq_true p408
        replace q408 := eq_true q408
        go_wp2_with (first | ((with_reducible refine gate_callee (f := 22) rfl ?_); refine goesL_ (some 16) rfl rfl Tryz.func22 k1_ rfl #[.agg #[.int .i64 ((rd_T33 l0 x5_1).f0.f0), .string ((rd_T33 l0 x5_1).f0.f1), .string ((rd_T33 l0 x5_1).f0.f2), .int .i64 ((rd_T33 l0 x5_1).f1.f0), .string ((rd_T33 l0 x5_1).f1.f1), .string ((rd_T33 l0 x5_1).f1.f2), .int .i64 ((rd_T33 l0 x5_1).f2.f0), .string ((rd_T33 l0 x5_1).f2.f1), .string ((rd_T33 l0 x5_1).f2.f2)]] rfl g1_ ?_; (with_reducible refine (rhizomeref02_MayAdd.calls k1 ((rd_T33 l0 x5_1).f0.f0) ((rd_T33 l0 x5_1).f0.f1) ((rd_T33 l0 x5_1).f0.f2) ((rd_T33 l0 x5_1).f1.f0) ((rd_T33 l0 x5_1).f1.f1) ((rd_T33 l0 x5_1).f1.f2) ((rd_T33 l0 x5_1).f2.f0) ((rd_T33 l0 x5_1).f2.f1) ((rd_T33 l0 x5_1).f2.f2) true _ A4.out).mono ?_); rintro e w9 ⟨rfl, hb⟩; refine ⟨_, rfl, ?_⟩; replace HO_4 := Aside0.mk (Kd.R_below (by have G0 := HO_4; exact z1_) hb); replace HB := Aside0.mk (below_step b1_ hb); (try clear hb); (try clear hb2); (try clear hk); (try clear hi); have p410 : 0 ≤ (x5_1 : Int) := of_decide_eq_true a1_; have q410 : x5_1 < (l0.length : Int) := of_decide_eq_true a1_; obtain ⟨ad410, e410, hx410_0, hx410_1, hx410_2, hx410_3, hx410_4, hx410_5, hx410_6, hx410_7, hx410_8⟩ := at_T33 HR0.out x5_1 p410 q410; obtain rfl : ad408 = ad410 := (by injection e410); replace hx410_0 := (HB.out.cell (World.block_lt_of_cell? w _ hx410_0)).trans hx410_0; replace hx410_1 := (HB.out.cell (World.block_lt_of_cell? w _ hx410_1)).trans hx410_1; replace hx410_2 := (HB.out.cell (World.block_lt_of_cell? w _ hx410_2)).trans hx410_2; replace hx410_3 := (HB.out.cell (World.block_lt_of_cell? w _ hx410_3)).trans hx410_3; replace hx410_4 := (HB.out.cell (World.block_lt_of_cell? w _ hx410_4)).trans hx410_4; replace hx410_5 := (HB.out.cell (World.block_lt_of_cell? w _ hx410_5)).trans hx410_5; replace hx410_6 := (HB.out.cell (World.block_lt_of_cell? w _ hx410_6)).trans hx410_6; replace hx410_7 := (HB.out.cell (World.block_lt_of_cell? w _ hx410_7)).trans hx410_7; replace hx410_8 := (HB.out.cell (World.block_lt_of_cell? w _ hx410_8)).trans hx410_8; replace p410 := eq_true p410; replace q410 := eq_true q410) | ((with_reducible refine gate_callee (f := 28) rfl ?_); refine goesL_ (some 23) rfl rfl Tryz.func28 k1_ rfl #[.agg #[.int .i64 ((rd_T33 l0 x5_1).f0.f0), .string ((rd_T33 l0 x5_1).f0.f1), .string ((rd_T33 l0 x5_1).f0.f2), .int .i64 ((rd_T33 l0 x5_1).f1.f0), .string ((rd_T33 l0 x5_1).f1.f1), .string ((rd_T33 l0 x5_1).f1.f2), .int .i64 ((rd_T33 l0 x5_1).f2.f0), .string ((rd_T33 l0 x5_1).f2.f1), .string ((rd_T33 l0 x5_1).f2.f2)]] rfl g1_ ?_; (with_reducible refine (rhizomeref02_TripleText.calls k1 ((rd_T33 l0 x5_1).f0.f0) ((rd_T33 l0 x5_1).f0.f1) ((rd_T33 l0 x5_1).f0.f2) ((rd_T33 l0 x5_1).f1.f0) ((rd_T33 l0 x5_1).f1.f1) ((rd_T33 l0 x5_1).f1.f2) ((rd_T33 l0 x5_1).f2.f0) ((rd_T33 l0 x5_1).f2.f1) ((rd_T33 l0 x5_1).f2.f2) t411 _ A6.out).mono ?_); rintro e w10 ⟨rfl, hb⟩; refine ⟨_, rfl, ?_⟩; replace HO_4 := Aside0.mk (Kd.R_below (by have G0 := HO_4; exact z1_) hb); replace HB := Aside0.mk (below_step b1_ hb); (try clear hb); (try clear hb2); (try clear hk); (try clear hi)) | (at_builtin; refine print_append_str (w0 := w) w.heap.size rfl (.tmp 18) _ 62 9 5 rfl Tryz.underlying62 Tryz.underlying9 info5 u4 x4_1 t411 rfl rfl ?aO ?aB ?aS ?aL ?_; (case aB => exact b1_); (case aO => exact (Kd.own_of_R (by have G0 := HO_4; exact z1_))); (case aS => exact (below_size b1_)); (case aL => have := LMc7.out; omega); intro v413 w11 ho0 hb hg; have ho := Kd.R_of_own (h1 := fun _ => rfl) (ok := fun _ => True) ho0 (fun _ _ => trivial); clear ho0; have hat := True.intro; rw [← Ny412.out] at ho; change Kd.R (Kd.int .u8) 5 w11 w.heap.size (fun _ => True) v413 y412 at ho; have n0_ := Aside0.mk (hb); have n1_ := Aside0.mk (ho); clear HB; clear HO_4; have HB := n0_; have HO414 := n1_; clear n0_ n1_; clear ho hb hg hat) | ((with_reducible refine gate_builtin (b := .append) (xs := #[(.tmp 24), .tmp 25]) rfl ?_); at_builtin; refine Kd.R_append (Kd.int .u8) (w0 := w) w.heap.size rfl (.tmp 24) (.tmp 25) 62 5 (.int .u8 0) 1 rfl Tryz.underlying62 info5 rfl (by decide) (by omega) v413 y412 10 [.int .u8 10] (fun _ => True) (fun _ => False) rfl rfl ?aP (fun _ hk => hk.elim) ?aF ?aO ?aB ?aS ?aL ?_; (case aP => exact rfl); (case aB => exact b1_); (case aF => exact (fun _ _ => trivial)); (case aO => exact (by have G0 := HO414; exact z1_)); (case aS => exact (below_size b1_)); (case aL => have := LMc8.out; omega); intro v416 w12 ho hb hg hat; rw [← Ny415.out] at ho; have n0_ := Aside0.mk (hb); have n1_ := Aside0.mk (ho); clear HB; clear HO414; have HB := n0_; have HO417 := n1_; clear n0_ n1_; clear ho hb hg hat))
        go_roundg k1
        case measure => have := HK1.out; omega
        case rel => exact ⟨(y415), (wrap64 (x5_1 + 1)), e1_, H', ⟨by have := HK1.out; omega⟩, ⟨by have G0 := HO417; exact z1_⟩, ⟨b1_⟩⟩
       ·rw [if_neg c8] at H
        exact absurd H (by simp)
      ·rw [if_neg c7] at H
       exact absurd H (by simp)
     ·replace c5 := Bool.eq_false_iff.mpr c5
      subst c5
      have H1 : (some ((⟨#[]⟩ : ByteArray), 2)) = some (r1, r2) := by rw [if_neg (show ¬ (false = true) by decide)] at H; exact H
      clear H
      have H := H1
      clear H1
      simp only [Option.some.injEq, Prod.mk.injEq] at H
      obtain ⟨rfl, rfl⟩ := H
      have p408 : 0 ≤ (x5_1 : Int) := of_decide_eq_true a1_
      have q408 : x5_1 < (l0.length : Int) := of_decide_eq_true a1_
      obtain ⟨ad408, e408, hx408_0, hx408_1, hx408_2, hx408_3, hx408_4, hx408_5, hx408_6, hx408_7, hx408_8⟩ := at_T33 HR0.out x5_1 p408 q408
      cases e408
      replace hx408_0 := (HB.out.cell (World.block_lt_of_cell? w _ hx408_0)).trans hx408_0
      replace hx408_1 := (HB.out.cell (World.block_lt_of_cell? w _ hx408_1)).trans hx408_1
      replace hx408_2 := (HB.out.cell (World.block_lt_of_cell? w _ hx408_2)).trans hx408_2
      replace hx408_3 := (HB.out.cell (World.block_lt_of_cell? w _ hx408_3)).trans hx408_3
      replace hx408_4 := (HB.out.cell (World.block_lt_of_cell? w _ hx408_4)).trans hx408_4
      replace hx408_5 := (HB.out.cell (World.block_lt_of_cell? w _ hx408_5)).trans hx408_5
      replace hx408_6 := (HB.out.cell (World.block_lt_of_cell? w _ hx408_6)).trans hx408_6
      replace hx408_7 := (HB.out.cell (World.block_lt_of_cell? w _ hx408_7)).trans hx408_7
      replace hx408_8 := (HB.out.cell (World.block_lt_of_cell? w _ hx408_8)).trans hx408_8
      replace p408 := eq_true p408
      replace q408 := eq_true q408
      go_wp2_with (first | ((with_reducible refine gate_callee (f := 22) rfl ?_); refine goesL_ (some 16) rfl rfl Tryz.func22 k1_ rfl #[.agg #[.int .i64 ((rd_T33 l0 x5_1).f0.f0), .string ((rd_T33 l0 x5_1).f0.f1), .string ((rd_T33 l0 x5_1).f0.f2), .int .i64 ((rd_T33 l0 x5_1).f1.f0), .string ((rd_T33 l0 x5_1).f1.f1), .string ((rd_T33 l0 x5_1).f1.f2), .int .i64 ((rd_T33 l0 x5_1).f2.f0), .string ((rd_T33 l0 x5_1).f2.f1), .string ((rd_T33 l0 x5_1).f2.f2)]] rfl g1_ ?_; (with_reducible refine (rhizomeref02_MayAdd.calls k1 ((rd_T33 l0 x5_1).f0.f0) ((rd_T33 l0 x5_1).f0.f1) ((rd_T33 l0 x5_1).f0.f2) ((rd_T33 l0 x5_1).f1.f0) ((rd_T33 l0 x5_1).f1.f1) ((rd_T33 l0 x5_1).f1.f2) ((rd_T33 l0 x5_1).f2.f0) ((rd_T33 l0 x5_1).f2.f1) ((rd_T33 l0 x5_1).f2.f2) false _ A4.out).mono ?_); rintro e w13 ⟨rfl, hb⟩; refine ⟨_, rfl, ?_⟩; replace HO_4 := Aside0.mk (Kd.R_below (by have G0 := HO_4; exact z1_) hb); replace HB := Aside0.mk (below_step b1_ hb); (try clear hb); (try clear hb2); (try clear hk); (try clear hi)))
      go_ret2
      exact ⟨e2_, b1_⟩
    ·rw [if_neg c3] at H
     exact absurd H (by simp)
   ·rw [if_neg c2] at H
    have c2b0 : decide (x5_1 < (l0.length : Int)) = false := decide_eq_false c2
    clear c2
    by_cases c14 : (x4_1.length : Int) > 1048576
    ·rw [if_pos c14] at H
     have c14b0 : decide (1048576 < (x4_1.length : Int)) = true := decide_eq_true c14
     have c14b1 : decide (1048576 < x4_1.length) = true := decide_eq_true (by omega)
     clear c14
     simp only [Option.some.injEq, Prod.mk.injEq] at H
     obtain ⟨rfl, rfl⟩ := H
     obtain ⟨Ao15, co15, eo15⟩ := Kd.R_slice HO_4.out
     subst eo15
     go_wp2
     go_ret2
     exact ⟨e2_, b1_⟩
    ·rw [if_neg c14] at H
     have c14b0 : decide (1048576 < (x4_1.length : Int)) = false := decide_eq_false c14
     have c14b1 : decide (1048576 < x4_1.length) = false := decide_eq_false (by omega)
     clear c14
     simp only [Option.some.injEq, Prod.mk.injEq] at H
     obtain ⟨rfl, rfl⟩ := H
     obtain ⟨Ao16, co16, eo16⟩ := Kd.R_slice HO_4.out
     subst eo16
     have hcv17 := own_string (P := Tryz.prog) Tryz.underlying62 Tryz.underlying5 Tryz.underlying9 (Kd.own_of_R HO_4.out)
     go_wp2
     go_ret2
     exact ⟨e2_, b1_⟩
def rhizomelaw05_TripleWrites.f (k : Nat) (l0 : List (S33)) : Option (Bool) := (rhizomeref02_Much.f l0 60).bind fun t418 => (if t418 = true then ((rhizomelaw05_known.f k).bind fun t419 => (some t419)) else ((ntriples_Text.f k l0).bind fun bt420 => ((rhizomeref05_Text.f k l0).bind fun bt422 => (if bt420.1.toList = bt422.1.toList then ((rhizomelaw05_num.f bt420.2).bind fun t424 => (if t424 = bt422.2 then ((rhizomelaw05_known.f k).bind fun t425 => (some t425)) else (none))) else (none)))))
set_option maxHeartbeats 8000000 in
set_option maxRecDepth 100000 in
theorem rhizomelaw05_TripleWrites.calls (k : Nat) (A0 : Option Addr) (c0 : Nat) (l0 : List (S33)) (r : Bool) (w : World) (hr0 : Kd.C k33 w A0 l0.length l0) (hc0 : l0.length ≤ c0) (h : rhizomelaw05_TripleWrites.f k l0 = some r) :
  Calls Tryz.prog 4 #[.slice A0 l0.length c0] w fun e w' => e = .returned (.bool r) ∧ Below w.heap.size w w' := by
 have HR0 := Aside0.mk hr0
 have HC0 := Aside0.mk hc0
 clear hr0 hc0
 have HB := Aside0.mk (Below.refl w.heap.size w)
 have H : ((rhizomeref02_Much.f l0 60).bind fun t418 => (if t418 = true then ((rhizomelaw05_known.f k).bind fun t419 => (some t419)) else ((ntriples_Text.f k l0).bind fun bt420 => ((rhizomeref05_Text.f k l0).bind fun bt422 => (if bt420.1.toList = bt422.1.toList then ((rhizomelaw05_num.f bt420.2).bind fun t424 => (if t424 = bt422.2 then ((rhizomelaw05_known.f k).bind fun t425 => (some t425)) else (none))) else (none)))))) = some r := h
 clear h
 replace H := Option.bind_eq_some_iff.mp H
 obtain ⟨t418, A20, H⟩ := H
 replace H : (if t418 = true then ((rhizomelaw05_known.f k).bind fun t419 => (some t419)) else ((ntriples_Text.f k l0).bind fun bt420 => ((rhizomeref05_Text.f k l0).bind fun bt422 => (if bt420.1.toList = bt422.1.toList then ((rhizomelaw05_num.f bt420.2).bind fun t424 => (if t424 = bt422.2 then ((rhizomelaw05_known.f k).bind fun t425 => (some t425)) else (none))) else (none))))) = some r := H
 have A2 := Aside0.mk A20
 clear A20
 by_cases c3 : t418 = true
 ·subst c3
  have H1 : ((rhizomelaw05_known.f k).bind fun t419 => (some t419)) = some r := by rw [if_pos rfl] at H; exact H
  clear H
  have H := H1
  clear H1
  replace H := Option.bind_eq_some_iff.mp H
  obtain ⟨t419, A40, H⟩ := H
  replace H : (some t419) = some r := H
  have A4 := Aside0.mk A40
  clear A40
  obtain rfl := Option.some.inj H
  go_enter Tryz.func4, Tryz.ntmps4
  go_wp2_with (first | ((with_reducible refine gate_callee (f := 11) rfl ?_); refine goesL_ (some 8) rfl rfl Tryz.func11 k1_ rfl #[.slice A0 l0.length c0, .int .i64 60] rfl g1_ ?_; (with_reducible refine (rhizomeref02_Much.calls _ _ l0 60 true _ ?side1 ?side2 A2.out).mono ?_); (case side1 => repeat (first | exact HR0.out | (with_reducible refine Kd.C_alloc ?_ _) | (with_reducible refine Kd.C_drewN ?_ _) | (with_reducible refine Kd.C_drew ?_))); (case side2 => exact HC0.out); rintro e w' ⟨rfl, ⟨nd, rfl⟩⟩; refine ⟨_, rfl, ?_⟩) | ((with_reducible refine gate_callee (f := 5) rfl ?_); refine goesL_ (some 9) rfl rfl Tryz.func5 k1_ rfl #[] rfl g1_ ?_; (with_reducible refine (rhizomelaw05_known.calls k  t419 _ A4.out).mono ?_); rintro e w5 ⟨rfl, hb⟩; refine ⟨_, rfl, ?_⟩; replace HB := Aside0.mk (below_step b1_ hb); (try clear hb); (try clear hb2); (try clear hk); (try clear hi)))
  go_ret
  exact ⟨e2_, b1_⟩
 ·replace c3 := Bool.eq_false_iff.mpr c3
  subst c3
  have H1 : ((ntriples_Text.f k l0).bind fun bt420 => ((rhizomeref05_Text.f k l0).bind fun bt422 => (if bt420.1.toList = bt422.1.toList then ((rhizomelaw05_num.f bt420.2).bind fun t424 => (if t424 = bt422.2 then ((rhizomelaw05_known.f k).bind fun t425 => (some t425)) else (none))) else (none)))) = some r := by rw [if_neg (show ¬ (false = true) by decide)] at H; exact H
  clear H
  have H := H1
  clear H1
  replace H := Option.bind_eq_some_iff.mp H
  obtain ⟨⟨t420, t421⟩, A60, H⟩ := H
  replace H : ((rhizomeref05_Text.f k l0).bind fun bt422 => (if t420.toList = bt422.1.toList then ((rhizomelaw05_num.f t421).bind fun t424 => (if t424 = bt422.2 then ((rhizomelaw05_known.f k).bind fun t425 => (some t425)) else (none))) else (none))) = some r := H
  have A6 := Aside0.mk A60
  clear A60
  replace H := Option.bind_eq_some_iff.mp H
  obtain ⟨⟨t422, t423⟩, A70, H⟩ := H
  replace H : (if t420.toList = t422.toList then ((rhizomelaw05_num.f t421).bind fun t424 => (if t424 = t423 then ((rhizomelaw05_known.f k).bind fun t425 => (some t425)) else (none))) else (none)) = some r := H
  have A7 := Aside0.mk A70
  clear A70
  by_cases c8 : t420.toList = t422.toList
  ·rw [if_pos c8] at H
   have c8b0 : (t420.toList == t422.toList) = true := beq_iff_eq.mpr c8
   have c8b1 : (t420.toList != t422.toList) = false := bne_eq_false_iff_eq.mpr c8
   clear c8
   replace H := Option.bind_eq_some_iff.mp H
   obtain ⟨t424, A90, H⟩ := H
   replace H : (if t424 = t423 then ((rhizomelaw05_known.f k).bind fun t425 => (some t425)) else (none)) = some r := H
   have A9 := Aside0.mk A90
   clear A90
   by_cases c10 : t424 = t423
   ·rw [if_pos c10] at H
    have c10b0 : (t424 == t423) = true := beq_iff_eq.mpr c10
    have c10b1 : (t424 != t423) = false := bne_eq_false_iff_eq.mpr c10
    clear c10
    replace H := Option.bind_eq_some_iff.mp H
    obtain ⟨t425, A110, H⟩ := H
    replace H : (some t425) = some r := H
    have A11 := Aside0.mk A110
    clear A110
    obtain rfl := Option.some.inj H
    go_enter Tryz.func4, Tryz.ntmps4
    go_wp2_with (first | ((with_reducible refine gate_callee (f := 11) rfl ?_); refine goesL_ (some 8) rfl rfl Tryz.func11 k1_ rfl #[.slice A0 l0.length c0, .int .i64 60] rfl g1_ ?_; (with_reducible refine (rhizomeref02_Much.calls _ _ l0 60 false _ ?side1 ?side2 A2.out).mono ?_); (case side1 => repeat (first | exact HR0.out | (with_reducible refine Kd.C_alloc ?_ _) | (with_reducible refine Kd.C_drewN ?_ _) | (with_reducible refine Kd.C_drew ?_))); (case side2 => exact HC0.out); rintro e w' ⟨rfl, ⟨nd, rfl⟩⟩; refine ⟨_, rfl, ?_⟩) | ((with_reducible refine gate_callee (f := 12) rfl ?_); refine goesL_ (some 12) rfl rfl Tryz.func12 k1_ rfl #[.slice A0 l0.length c0] rfl g1_ ?_; (with_reducible refine (ntriples_Text.calls k _ _ l0 t420 t421 _ ?side1 ?side2 A6.out).mono ?_); (case side1 => repeat (first | exact HR0.out | (with_reducible refine Kd.C_alloc ?_ _) | (with_reducible refine Kd.C_drewN ?_ _) | (with_reducible refine Kd.C_drew ?_))); (case side2 => exact HC0.out); rintro e w12 ⟨rfl, hb⟩; refine ⟨_, rfl, ?_⟩; replace HB := Aside0.mk (below_step b1_ hb); (try clear hb); (try clear hb2); (try clear hk); (try clear hi)) | ((with_reducible refine gate_callee (f := 13) rfl ?_); refine goesL_ (some 17) rfl rfl Tryz.func13 k1_ rfl #[.slice A0 l0.length c0] rfl g1_ ?_; (with_reducible refine (rhizomeref05_Text.calls k _ _ l0 t422 t423 _ ?side1 ?side2 A7.out).mono ?_); (case side1 => repeat (first | exact (Kd.C_below HR0.out HB.out) | (with_reducible refine Kd.C_alloc ?_ _) | (with_reducible refine Kd.C_drewN ?_ _) | (with_reducible refine Kd.C_drew ?_))); (case side2 => exact HC0.out); rintro e w13 ⟨rfl, hb⟩; refine ⟨_, rfl, ?_⟩; replace HB := Aside0.mk (below_step b1_ hb); (try clear hb); (try clear hb2); (try clear hk); (try clear hi)) | (go_at_call 10; (with_reducible refine (rhizomelaw05_num.calls t421 t424 _ A9.out).mono ?_); rintro e w' ⟨rfl, ⟨nd, rfl⟩⟩) | (go_at_call 5; (with_reducible refine (rhizomelaw05_known.calls k  t425 _ A11.out).mono ?_); rintro e w14 ⟨rfl, hb⟩; replace HB := Aside0.mk (below_step b1_ hb); (try clear hb); (try clear hb2); (try clear hk); (try clear hi)))
    go_ret
    exact ⟨e2_, b1_⟩
   ·rw [if_neg c10] at H
    exact absurd H (by simp)
  ·rw [if_neg c8] at H
   exact absurd H (by simp)
end Go.Proofs.YtjnhdamilbcmpaaGreatDoor.PWrit

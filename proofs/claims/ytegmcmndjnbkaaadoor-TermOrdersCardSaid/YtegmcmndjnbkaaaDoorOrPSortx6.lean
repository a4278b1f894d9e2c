import Derived.Test.YtegmcmndjnbkaaaDoorOrPSortx0
import Derived.Test.YtegmcmndjnbkaaaDoorOrPSortx4
import Derived.Test.YtegmcmndjnbkaaaDoorOrPSortx5
namespace Go.Proofs.YtegmcmndjnbkaaaDoor.PSort
open Go.RowKit Go.Proofs.YtegmcmndjnbkaaaDoorW.PrintWords Go.Proofs.YtegmcmndjnbkaaaDoorW.PrintLast Go.Proofs.YtegmcmndjnbkaaaDoorW.PrintMore
attribute [local go_sem] max2_int min2_int max_two min_two max_three min_three max_four min_four
set_option linter.unusedVariables false
set_option linter.unusedSimpArgs false
def term_text.f (k : Nat) (a0_0 : Int) (a0_1 : ByteArray) (a0_2 : ByteArray) : Option (ByteArray) := if a0_0 = 1 then (if 1 + a0_1.size ≤ 9223372036854775807 then (if ((⟨#[60]⟩ : ByteArray) ++ a0_1).size + 1 ≤ 9223372036854775807 then (some (((⟨#[60]⟩ : ByteArray) ++ a0_1) ++ (⟨#[62]⟩ : ByteArray))) else (none)) else (none)) else (if a0_0 = 2 then (if 2 + a0_1.size ≤ 9223372036854775807 then (some ((⟨#[95, 58]⟩ : ByteArray) ++ a0_1)) else (none)) else (if a0_0 = 4 then ((term_written.f k a0_1).bind fun t153 => (if t153.size + 1 ≤ 9223372036854775807 then (if (t153 ++ (⟨#[64]⟩ : ByteArray)).size + a0_2.size ≤ 9223372036854775807 then (some ((t153 ++ (⟨#[64]⟩ : ByteArray)) ++ a0_2)) else (none)) else (none))) else (if a0_0 = 5 then ((term_written.f k a0_1).bind fun t154 => (if t154.size + 3 ≤ 9223372036854775807 then (if (t154 ++ (⟨#[94, 94, 60]⟩ : ByteArray)).size + a0_2.size ≤ 9223372036854775807 then (if ((t154 ++ (⟨#[94, 94, 60]⟩ : ByteArray)) ++ a0_2).size + 1 ≤ 9223372036854775807 then (some (((t154 ++ (⟨#[94, 94, 60]⟩ : ByteArray)) ++ a0_2) ++ (⟨#[62]⟩ : ByteArray))) else (none)) else (none)) else (none))) else ((term_written.f k a0_1).bind fun t155 => (some t155)))))
theorem term_text.mono : ∀ a0 a1 a2 k, LeO (term_text.f k a0 a1 a2) (term_text.f (k + 1) a0 a1 a2) := by
  intro a0 a1 a2 k
  unfold term_text.f
  repeat' first
      | (with_reducible exact term_written.mono _ _)
      | (with_reducible exact LeO.refl _)
      | (with_reducible exact LeO.none _)
      | (with_reducible refine LeO.ite ?_ ?_)
      | (with_reducible refine LeO.bind ?_ (fun _ => ?_))
      | exact term_written.mono _ _
      | exact LeO.none _
      | refine LeO.ite ?_ ?_
      | refine LeO.bind ?_ (fun _ => ?_)
def term_text.T7 : Bool × List (List Nat × List Nat) := (true, [([], []), ([0], [0]), ([1], [1]), ([2], [2]), ([], []), ([4], [4]), ([3, 5], [3, 5]), ([6, 2, 0, 1, 2, 3, 4, 5, 6], [6])])
def term_text.B7 : List Nat := [0, 1, 3, 7, 0, 16, 63, 127]
theorem term_text.tab7 : rtab .any (opsOf Tryd.f34 7) = term_text.T7 := by kernel_rfl
theorem term_text.bits7 : waitsOk term_text.T7.2 term_text.B7 = true := by kernel_rfl
def term_text.T9 : Bool × List (List Nat × List Nat) := (true, [([], []), ([0], [0]), ([1], [1]), ([2], [2]), ([], []), ([4], [4]), ([3, 5], [3, 5]), ([6], [6]), ([7, 2, 0, 1, 2, 3, 4, 5, 6, 7], [7])])
def term_text.B9 : List Nat := [0, 1, 3, 7, 0, 16, 63, 127, 255]
theorem term_text.tab9 : rtab .any (opsOf Tryd.f34 9) = term_text.T9 := by kernel_rfl
theorem term_text.bits9 : waitsOk term_text.T9.2 term_text.B9 = true := by kernel_rfl
set_option maxHeartbeats 8000000 in
set_option maxRecDepth 100000 in
theorem term_text.calls (k : Nat) (a0_0 : Int) (a0_1 : ByteArray) (a0_2 : ByteArray) (r : ByteArray) (w : World) (h : term_text.f k a0_0 a0_1 a0_2 = some r) :
    Calls Tryd.prog 34 #[.agg #[.int .i64 a0_0, .string a0_1, .string a0_2]] w fun e w' => e = .returned (.string r) ∧ Below w.heap.size w w' := by
  have hu26 := Tryd.underlying26
  have HB := Aside0.mk (Below.refl w.heap.size w)
  have H : (if a0_0 = 1 then (if 1 + a0_1.size ≤ 9223372036854775807 then (if ((⟨#[60]⟩ : ByteArray) ++ a0_1).size + 1 ≤ 9223372036854775807 then (some (((⟨#[60]⟩ : ByteArray) ++ a0_1) ++ (⟨#[62]⟩ : ByteArray))) else (none)) else (none)) else (if a0_0 = 2 then (if 2 + a0_1.size ≤ 9223372036854775807 then (some ((⟨#[95, 58]⟩ : ByteArray) ++ a0_1)) else (none)) else (if a0_0 = 4 then ((term_written.f k a0_1).bind fun t153 => (if t153.size + 1 ≤ 9223372036854775807 then (if (t153 ++ (⟨#[64]⟩ : ByteArray)).size + a0_2.size ≤ 9223372036854775807 then (some ((t153 ++ (⟨#[64]⟩ : ByteArray)) ++ a0_2)) else (none)) else (none))) else (if a0_0 = 5 then ((term_written.f k a0_1).bind fun t154 => (if t154.size + 3 ≤ 9223372036854775807 then (if (t154 ++ (⟨#[94, 94, 60]⟩ : ByteArray)).size + a0_2.size ≤ 9223372036854775807 then (if ((t154 ++ (⟨#[94, 94, 60]⟩ : ByteArray)) ++ a0_2).size + 1 ≤ 9223372036854775807 then (some (((t154 ++ (⟨#[94, 94, 60]⟩ : ByteArray)) ++ a0_2) ++ (⟨#[62]⟩ : ByteArray))) else (none)) else (none)) else (none))) else ((term_written.f k a0_1).bind fun t155 => (some t155)))))) = some r := h
  clear h
  by_cases c2 : a0_0 = 1
  · rw [if_pos c2] at H
    have c2b0 : (a0_0 == 1) = true := beq_iff_eq.mpr c2
    have c2b1 : (a0_0 != 1) = false := bne_eq_false_iff_eq.mpr c2
    clear c2
    by_cases c3 : 1 + a0_1.size ≤ 9223372036854775807
    · rw [if_pos c3] at H
      have c3b0 := eq_true c3
      have c3b1 : decide (1 + a0_1.size ≤ 9223372036854775807) = true := decide_eq_true c3
      try have c3b2 : (9223372036854775807 < 1 + a0_1.size) = False := eq_false (Nat.not_lt.2 c3)
      by_cases c4 : ((⟨#[60]⟩ : ByteArray) ++ a0_1).size + 1 ≤ 9223372036854775807
      · rw [if_pos c4] at H
        have c4b0 := eq_true c4
        have c4b1 : decide (((⟨#[60]⟩ : ByteArray) ++ a0_1).size + 1 ≤ 9223372036854775807) = true := decide_eq_true c4
        try have c4b2 : (9223372036854775807 < ((⟨#[60]⟩ : ByteArray) ++ a0_1).size + 1) = False := eq_false (Nat.not_lt.2 c4)
        try have c4b3 : (9223372036854775807 < 1 + a0_1.size + 1) = False := eq_false (by have h_ := c4; simp only [ByteArray.size_append] at h_; exact Nat.not_lt.2 h_)
        obtain rfl := Option.some.inj H
        go_enter Tryd.func34, Tryd.ntmps34
        go_wp2_with (first | ((with_reducible refine gate_dst (N := 1) rfl ?_); refine box_event ?hg (N := 1) ?hd (cs := #[.int .i64 a0_0, .string a0_1, .string a0_2]) (t := 26) ?hr ?_; (case hd => rfl); (case hg => rfl); (case hr => first | (go_simp; done) | (go_simp; rfl)); intro gb152 hg w5 hbox hb; have n0_ := Aside0.mk (below_step (by repeat (first | (with_reducible first | exact HB.out | apply below_alloc | apply pw_below_drewN | apply below_drew1) | exact HB.out)) hb); have n1_ := Aside0.mk (hbox); have n2_ := Aside0.mk ((by rw [hg]; exact (below_size (by repeat (first | (with_reducible first | exact HB.out | apply below_alloc | apply pw_below_drewN | apply below_drew1) | exact HB.out))) : w.heap.size ≤ gb152)); have n3_ := Aside0.mk ((by rw [hg]; exact (below_size (by repeat (first | (with_reducible first | exact HB.out | apply below_alloc | apply pw_below_drewN | apply below_drew1) | exact HB.out))) : w.heap.size ≤ gb152)); clear HB; have HB := n0_; have BK152 := n1_; have GW152 := n2_; have GE152 := n3_; clear n0_ n1_ n2_ n3_; clear hb hbox hg; have hcz6_0 : w5.cell? ⟨gb152, 0, none⟩ = some (.int .i64 a0_0) := (blk_cell BK152.out 0).trans rfl; have hcz6_1 : w5.cell? ⟨gb152, 1, none⟩ = some (.string a0_1) := (blk_cell BK152.out 1).trans rfl; have hcz6_2 : w5.cell? ⟨gb152, 2, none⟩ = some (.string a0_2) := (blk_cell BK152.out 2).trans rfl; have hfz6_0 := blk_frozen BK152.out 0; have hfz6_1 := blk_frozen BK152.out 1; have hfz6_2 := blk_frozen BK152.out 2))
        go_ret
        exact ⟨by first | rfl | (simp [errW_none, errW_some] <;> rfl) | (simp [*, errW_none, errW_some] <;> rfl), by repeat (first | (with_reducible first | exact HB.out | apply below_alloc | apply pw_below_drewN | apply below_drew1 | refine below_set ?_ GE152.out) | exact HB.out)⟩
      · rw [if_neg c4] at H
        exact absurd H (by simp)
    · rw [if_neg c3] at H
      exact absurd H (by simp)
  · rw [if_neg c2] at H
    have c2b0 : (a0_0 == 1) = false := beq_eq_false_iff_ne.mpr c2
    have c2b1 : (a0_0 != 1) = true := bne_iff_ne.mpr c2
    by_cases c7 : a0_0 = 2
    · rw [if_pos c7] at H
      have c7b0 : (a0_0 == 2) = true := beq_iff_eq.mpr c7
      have c7b1 : (a0_0 != 2) = false := bne_eq_false_iff_eq.mpr c7
      clear c7
      by_cases c8 : 2 + a0_1.size ≤ 9223372036854775807
      · rw [if_pos c8] at H
        have c8b0 := eq_true c8
        have c8b1 : decide (2 + a0_1.size ≤ 9223372036854775807) = true := decide_eq_true c8
        try have c8b2 : (9223372036854775807 < 2 + a0_1.size) = False := eq_false (Nat.not_lt.2 c8)
        obtain rfl := Option.some.inj H
        go_enter Tryd.func34, Tryd.ntmps34
        go_wp2_with (first | ((with_reducible refine gate_dst (N := 1) rfl ?_); refine box_event ?hg (N := 1) ?hd (cs := #[.int .i64 a0_0, .string a0_1, .string a0_2]) (t := 26) ?hr ?_; (case hd => rfl); (case hg => rfl); (case hr => first | (go_simp; done) | (go_simp; rfl)); intro gb152 hg w9 hbox hb; have n0_ := Aside0.mk (below_step (by repeat (first | (with_reducible first | exact HB.out | apply below_alloc | apply pw_below_drewN | apply below_drew1) | exact HB.out)) hb); have n1_ := Aside0.mk (hbox); have n2_ := Aside0.mk ((by rw [hg]; exact (below_size (by repeat (first | (with_reducible first | exact HB.out | apply below_alloc | apply pw_below_drewN | apply below_drew1) | exact HB.out))) : w.heap.size ≤ gb152)); have n3_ := Aside0.mk ((by rw [hg]; exact (below_size (by repeat (first | (with_reducible first | exact HB.out | apply below_alloc | apply pw_below_drewN | apply below_drew1) | exact HB.out))) : w.heap.size ≤ gb152)); clear HB; have HB := n0_; have BK152 := n1_; have GW152 := n2_; have GE152 := n3_; clear n0_ n1_ n2_ n3_; clear hb hbox hg; have hcz10_0 : w9.cell? ⟨gb152, 0, none⟩ = some (.int .i64 a0_0) := (blk_cell BK152.out 0).trans rfl; have hcz10_1 : w9.cell? ⟨gb152, 1, none⟩ = some (.string a0_1) := (blk_cell BK152.out 1).trans rfl; have hcz10_2 : w9.cell? ⟨gb152, 2, none⟩ = some (.string a0_2) := (blk_cell BK152.out 2).trans rfl; have hfz10_0 := blk_frozen BK152.out 0; have hfz10_1 := blk_frozen BK152.out 1; have hfz10_2 := blk_frozen BK152.out 2))
        go_ret
        exact ⟨by first | rfl | (simp [errW_none, errW_some] <;> rfl) | (simp [*, errW_none, errW_some] <;> rfl), by repeat (first | (with_reducible first | exact HB.out | apply below_alloc | apply pw_below_drewN | apply below_drew1 | refine below_set ?_ GE152.out) | exact HB.out)⟩
      · rw [if_neg c8] at H
        exact absurd H (by simp)
    · rw [if_neg c7] at H
      have c7b0 : (a0_0 == 2) = false := beq_eq_false_iff_ne.mpr c7
      have c7b1 : (a0_0 != 2) = true := bne_iff_ne.mpr c7
      by_cases c11 : a0_0 = 4
      · rw [if_pos c11] at H
        have c11b0 : (a0_0 == 4) = true := beq_iff_eq.mpr c11
        have c11b1 : (a0_0 != 4) = false := bne_eq_false_iff_eq.mpr c11
        clear c11
        replace H := Option.bind_eq_some_iff.mp H
        obtain ⟨t153, A120, H⟩ := H
        replace H : (if t153.size + 1 ≤ 9223372036854775807 then (if (t153 ++ (⟨#[64]⟩ : ByteArray)).size + a0_2.size ≤ 9223372036854775807 then (some ((t153 ++ (⟨#[64]⟩ : ByteArray)) ++ a0_2)) else (none)) else (none)) = some r := H
        have A12 := Aside0.mk A120
        clear A120
        by_cases c13 : t153.size + 1 ≤ 9223372036854775807
        · rw [if_pos c13] at H
          have c13b0 := eq_true c13
          have c13b1 : decide (t153.size + 1 ≤ 9223372036854775807) = true := decide_eq_true c13
          try have c13b2 : (9223372036854775807 < t153.size + 1) = False := eq_false (Nat.not_lt.2 c13)
          by_cases c14 : (t153 ++ (⟨#[64]⟩ : ByteArray)).size + a0_2.size ≤ 9223372036854775807
          · rw [if_pos c14] at H
            have c14b0 := eq_true c14
            have c14b1 : decide ((t153 ++ (⟨#[64]⟩ : ByteArray)).size + a0_2.size ≤ 9223372036854775807) = true := decide_eq_true c14
            try have c14b2 : (9223372036854775807 < (t153 ++ (⟨#[64]⟩ : ByteArray)).size + a0_2.size) = False := eq_false (Nat.not_lt.2 c14)
            try have c14b3 : (9223372036854775807 < t153.size + 1 + a0_2.size) = False := eq_false (by have h_ := c14; simp only [ByteArray.size_append] at h_; exact Nat.not_lt.2 h_)
            obtain rfl := Option.some.inj H
            go_enter Tryd.func34, Tryd.ntmps34
            try go_wp2_with (first | ((with_reducible refine gate_dst (N := 1) rfl ?_); refine box_event ?hg (N := 1) ?hd (cs := #[.int .i64 a0_0, .string a0_1, .string a0_2]) (t := 26) ?hr ?_; (case hd => rfl); (case hg => rfl); (case hr => first | (go_simp; done) | (go_simp; rfl)); intro gb152 hg w15 hbox hb; have n0_ := Aside0.mk (below_step (by repeat (first | (with_reducible first | exact HB.out | apply below_alloc | apply pw_below_drewN | apply below_drew1) | exact HB.out)) hb); have n1_ := Aside0.mk (hbox); have n2_ := Aside0.mk ((by rw [hg]; exact (below_size (by repeat (first | (with_reducible first | exact HB.out | apply below_alloc | apply pw_below_drewN | apply below_drew1) | exact HB.out))) : w.heap.size ≤ gb152)); have n3_ := Aside0.mk ((by rw [hg]; exact (below_size (by repeat (first | (with_reducible first | exact HB.out | apply below_alloc | apply pw_below_drewN | apply below_drew1) | exact HB.out))) : w.heap.size ≤ gb152)); clear HB; have HB := n0_; have BK152 := n1_; have GW152 := n2_; have GE152 := n3_; clear n0_ n1_ n2_ n3_; clear hb hbox hg; have hcz16_0 : w15.cell? ⟨gb152, 0, none⟩ = some (.int .i64 a0_0) := (blk_cell BK152.out 0).trans rfl; have hcz16_1 : w15.cell? ⟨gb152, 1, none⟩ = some (.string a0_1) := (blk_cell BK152.out 1).trans rfl; have hcz16_2 : w15.cell? ⟨gb152, 2, none⟩ = some (.string a0_2) := (blk_cell BK152.out 2).trans rfl; have hfz16_0 := blk_frozen BK152.out 0; have hfz16_1 := blk_frozen BK152.out 1; have hfz16_2 := blk_frozen BK152.out 2))
            have n0_ := Aside0.mk (blk_drew BK152.out)
            have n1_ := Aside0.mk (below_drew1 HB.out)
            clear BK152
            clear HB
            have BK152 := n0_
            have HB := n1_
            clear n0_ n1_
            refine start_ (n := 8) (S := fun w' => w'.cell? ⟨gb152, 0, none⟩ = some (.int .i64 a0_0) ∧ w'.cell? ⟨gb152, 1, none⟩ = some (.string a0_1) ∧ w'.cell? ⟨gb152, 2, none⟩ = some (.string a0_2)) (ds := []) #[false, false, false, false, false, false, false, false] (by kernel_rfl) rfl rfl ⟨(blk_cell BK152.out 0).trans rfl, (blk_cell BK152.out 1).trans rfl, (blk_cell BK152.out 2).trans rfl⟩ (fun hHeld => ?_); refine with_tabW term_text.tab7 term_text.bits7 (fun HT_ HW_ => ?_)
            generalize w15.drew = w17 at BK152 HB hHeld ⊢
            refine pure_ (i := 0) (N := some 18) (v := ?_) (a' := ?_) #[true, false, false, false, false, false, false, false] rfl rfl (any_of HT_.out (by kernel_rfl)) (fun _ _ _ h => h) (Or.inl ⟨by rfl, ?_⟩) ?_ ?_
            rotate_left
            · intro w'
              go_simp
              with_reducible rfl
            rotate_left
            · simp only [Act.put, List.setIfInBounds_toArray, List.set_cons_zero, List.set_cons_succ, i64_w, i32_w]
              rfl
            refine pure_ (i := 4) (N := some 22) (v := ?_) (a' := ?_) #[true, false, false, false, true, false, false, false] rfl rfl (any_of HT_.out (by kernel_rfl)) (fun _ _ _ h => h) (Or.inl ⟨by rfl, ?_⟩) ?_ ?_
            rotate_left
            · intro w'
              go_simp
              with_reducible rfl
            rotate_left
            · simp only [Act.put, List.setIfInBounds_toArray, List.set_cons_zero, List.set_cons_succ, i64_w, i32_w]
              rfl
            refine take_ (i := 1) (N := some 19) (v := ?_) (a' := ?_) #[true, true, false, false, true, false, false, false] rfl rfl (take_ofW HT_.out HW_.out (by kernel_rfl)) (fun _ _ _ h => h) (Or.inl ⟨by rfl, ?_⟩) hHeld ?_ ?_
            rotate_left
            · rintro w' ⟨s0, s1, s2⟩
              go_simp
              with_reducible rfl
            rotate_left
            · simp only [Act.put, List.setIfInBounds_toArray, List.set_cons_zero, List.set_cons_succ, i64_w, i32_w]
              rfl
            refine take_ (i := 5) (N := some 23) (v := ?_) (a' := ?_) #[true, true, false, false, true, true, false, false] rfl rfl (take_ofW HT_.out HW_.out (by kernel_rfl)) (fun _ _ _ h => h) (Or.inl ⟨by rfl, ?_⟩) hHeld ?_ ?_
            rotate_left
            · rintro w' ⟨s0, s1, s2⟩
              go_simp
              with_reducible rfl
            rotate_left
            · simp only [Act.put, List.setIfInBounds_toArray, List.set_cons_zero, List.set_cons_succ, i64_w, i32_w]
              rfl
            refine one_ (i := 2) (N := some 20) #[true, true, true, false, true, true, false, false] rfl rfl (one_of HT_.out (by kernel_rfl)) (by decide) (fun K hK => ?_)
            refine goes_ Tryd.func56 (by kernel_rfl) rfl #[.string a0_1] (by rfl) rfl rfl (by (try simp only [List.map_toArray, List.map_cons, List.map_nil]); first | done | rfl | (simp only [List.length_drop, List.length_take]; rfl)) ?_
            with_reducible refine (term_written.calls k a0_1 t153 _ A12.out).mono ?_
            rintro e w18 ⟨rfl, hb⟩
            refine ⟨_, rfl, ?_⟩
            have n0_ := Aside0.mk (blk_below (g := gb152) (o := .cells #[.int .i64 a0_0, .string a0_1, .string a0_2] 26 (0, 0)) (by (with_reducible repeat (first | refine blk_drewN ?_ _ | refine blk_drew ?_ | refine blk_alloc ?_ _)); exact BK152.out) hb)
            have n1_ := Aside0.mk (below_step (by repeat (first | (with_reducible first | exact HB.out | apply below_alloc | apply pw_below_drewN | apply below_drew1 | refine below_set ?_ GE152.out) | exact HB.out)) hb)
            clear BK152
            clear HB
            have BK152 := n0_
            have HB := n1_
            clear n0_ n1_
            (try clear hb)
            (try clear hb2)
            (try clear hk)
            (try clear hi)
            refine hK.out _ _ ⟨(blk_cell BK152.out 0).trans rfl, (blk_cell BK152.out 1).trans rfl, (blk_cell BK152.out 2).trans rfl⟩ (fun hHeld => ?_)
            clear hK K
            refine norm_ (a' := ?_) ?_ ?_
            rotate_left
            · show Act.put _ (some 20) _ = _
              simp only [Act.put, List.setIfInBounds_toArray, List.set_cons_zero, List.set_cons_succ, i64_w, i32_w]
              rfl
            refine pure_ (i := 3) (N := some 21) (v := ?_) (a' := ?_) #[true, true, true, true, true, true, false, false] rfl rfl (any_of HT_.out (by kernel_rfl)) (fun _ _ _ h => h) (Or.inl ⟨by rfl, ?_⟩) ?_ ?_
            rotate_left
            · intro w'
              go_simp
              with_reducible rfl
            rotate_left
            · simp only [Act.put, List.setIfInBounds_toArray, List.set_cons_zero, List.set_cons_succ, i64_w, i32_w]
              rfl
            refine pure_ (i := 6) (N := some 24) (v := ?_) (a' := ?_) #[true, true, true, true, true, true, true, false] rfl rfl (any_of HT_.out (by kernel_rfl)) (fun _ _ _ h => h) (Or.inl ⟨by rfl, ?_⟩) ?_ ?_
            rotate_left
            · intro w'
              go_simp
              with_reducible rfl
            rotate_left
            · simp only [Act.put, List.setIfInBounds_toArray, List.set_cons_zero, List.set_cons_succ, i64_w, i32_w]
              rfl
            refine pure_ (i := 7) (N := some 2) (v := ?_) (a' := ?_) #[true, true, true, true, true, true, true, true] rfl rfl (any_of HT_.out (by kernel_rfl)) (fun _ _ _ h => h) (Or.inl ⟨by rfl, ?_⟩) ?_ ?_
            rotate_left
            · intro w'
              go_simp
              with_reducible rfl
            rotate_left
            · simp only [Act.put, List.setIfInBounds_toArray, List.set_cons_zero, List.set_cons_succ, i64_w, i32_w]
              rfl
            refine done_ (done_of HT_.out (by kernel_rfl)) ?_
            try go_wp2
            go_ret
            exact ⟨by first | rfl | (simp [errW_none, errW_some] <;> rfl) | (simp [*, errW_none, errW_some] <;> rfl), by repeat (first | (with_reducible first | exact HB.out | apply below_alloc | apply pw_below_drewN | apply below_drew1 | refine below_set ?_ GE152.out) | exact HB.out)⟩
          · rw [if_neg c14] at H
            exact absurd H (by simp)
        · rw [if_neg c13] at H
          exact absurd H (by simp)
      · rw [if_neg c11] at H
        have c11b0 : (a0_0 == 4) = false := beq_eq_false_iff_ne.mpr c11
        have c11b1 : (a0_0 != 4) = true := bne_iff_ne.mpr c11
        by_cases c19 : a0_0 = 5
        · rw [if_pos c19] at H
          have c19b0 : (a0_0 == 5) = true := beq_iff_eq.mpr c19
          have c19b1 : (a0_0 != 5) = false := bne_eq_false_iff_eq.mpr c19
          clear c19
          replace H := Option.bind_eq_some_iff.mp H
          obtain ⟨t154, A200, H⟩ := H
          replace H : (if t154.size + 3 ≤ 9223372036854775807 then (if (t154 ++ (⟨#[94, 94, 60]⟩ : ByteArray)).size + a0_2.size ≤ 9223372036854775807 then (if ((t154 ++ (⟨#[94, 94, 60]⟩ : ByteArray)) ++ a0_2).size + 1 ≤ 9223372036854775807 then (some (((t154 ++ (⟨#[94, 94, 60]⟩ : ByteArray)) ++ a0_2) ++ (⟨#[62]⟩ : ByteArray))) else (none)) else (none)) else (none)) = some r := H
          have A20 := Aside0.mk A200
          clear A200
          by_cases c21 : t154.size + 3 ≤ 9223372036854775807
          · rw [if_pos c21] at H
            have c21b0 := eq_true c21
            have c21b1 : decide (t154.size + 3 ≤ 9223372036854775807) = true := decide_eq_true c21
            try have c21b2 : (9223372036854775807 < t154.size + 3) = False := eq_false (Nat.not_lt.2 c21)
            by_cases c22 : (t154 ++ (⟨#[94, 94, 60]⟩ : ByteArray)).size + a0_2.size ≤ 9223372036854775807
            · rw [if_pos c22] at H
              have c22b0 := eq_true c22
              have c22b1 : decide ((t154 ++ (⟨#[94, 94, 60]⟩ : ByteArray)).size + a0_2.size ≤ 9223372036854775807) = true := decide_eq_true c22
              try have c22b2 : (9223372036854775807 < (t154 ++ (⟨#[94, 94, 60]⟩ : ByteArray)).size + a0_2.size) = False := eq_false (Nat.not_lt.2 c22)
              try have c22b3 : (9223372036854775807 < t154.size + 3 + a0_2.size) = False := eq_false (by have h_ := c22; simp only [ByteArray.size_append] at h_; exact Nat.not_lt.2 h_)
              by_cases c23 : ((t154 ++ (⟨#[94, 94, 60]⟩ : ByteArray)) ++ a0_2).size + 1 ≤ 9223372036854775807
              · rw [if_pos c23] at H
                have c23b0 := eq_true c23
                have c23b1 : decide (((t154 ++ (⟨#[94, 94, 60]⟩ : ByteArray)) ++ a0_2).size + 1 ≤ 9223372036854775807) = true := decide_eq_true c23
                try have c23b2 : (9223372036854775807 < ((t154 ++ (⟨#[94, 94, 60]⟩ : ByteArray)) ++ a0_2).size + 1) = False := eq_false (Nat.not_lt.2 c23)
                try have c23b3 : (9223372036854775807 < t154.size + 3 + a0_2.size + 1) = False := eq_false (by have h_ := c23; simp only [ByteArray.size_append] at h_; exact Nat.not_lt.2 h_)
                obtain rfl := Option.some.inj H
                go_enter Tryd.func34, Tryd.ntmps34
                try go_wp2_with (first | ((with_reducible refine gate_dst (N := 1) rfl ?_); refine box_event ?hg (N := 1) ?hd (cs := #[.int .i64 a0_0, .string a0_1, .string a0_2]) (t := 26) ?hr ?_; (case hd => rfl); (case hg => rfl); (case hr => first | (go_simp; done) | (go_simp; rfl)); intro gb152 hg w24 hbox hb; have n0_ := Aside0.mk (below_step (by repeat (first | (with_reducible first | exact HB.out | apply below_alloc | apply pw_below_drewN | apply below_drew1) | exact HB.out)) hb); have n1_ := Aside0.mk (hbox); have n2_ := Aside0.mk ((by rw [hg]; exact (below_size (by repeat (first | (with_reducible first | exact HB.out | apply below_alloc | apply pw_below_drewN | apply below_drew1) | exact HB.out))) : w.heap.size ≤ gb152)); have n3_ := Aside0.mk ((by rw [hg]; exact (below_size (by repeat (first | (with_reducible first | exact HB.out | apply below_alloc | apply pw_below_drewN | apply below_drew1) | exact HB.out))) : w.heap.size ≤ gb152)); clear HB; have HB := n0_; have BK152 := n1_; have GW152 := n2_; have GE152 := n3_; clear n0_ n1_ n2_ n3_; clear hb hbox hg; have hcz25_0 : w24.cell? ⟨gb152, 0, none⟩ = some (.int .i64 a0_0) := (blk_cell BK152.out 0).trans rfl; have hcz25_1 : w24.cell? ⟨gb152, 1, none⟩ = some (.string a0_1) := (blk_cell BK152.out 1).trans rfl; have hcz25_2 : w24.cell? ⟨gb152, 2, none⟩ = some (.string a0_2) := (blk_cell BK152.out 2).trans rfl; have hfz25_0 := blk_frozen BK152.out 0; have hfz25_1 := blk_frozen BK152.out 1; have hfz25_2 := blk_frozen BK152.out 2))
                have n0_ := Aside0.mk (blk_drew BK152.out)
                have n1_ := Aside0.mk (below_drew1 HB.out)
                clear BK152
                clear HB
                have BK152 := n0_
                have HB := n1_
                clear n0_ n1_
                refine start_ (n := 9) (S := fun w' => w'.cell? ⟨gb152, 0, none⟩ = some (.int .i64 a0_0) ∧ w'.cell? ⟨gb152, 1, none⟩ = some (.string a0_1) ∧ w'.cell? ⟨gb152, 2, none⟩ = some (.string a0_2)) (ds := []) #[false, false, false, false, false, false, false, false, false] (by kernel_rfl) rfl rfl ⟨(blk_cell BK152.out 0).trans rfl, (blk_cell BK152.out 1).trans rfl, (blk_cell BK152.out 2).trans rfl⟩ (fun hHeld => ?_); refine with_tabW term_text.tab9 term_text.bits9 (fun HT_ HW_ => ?_)
                generalize w24.drew = w26 at BK152 HB hHeld ⊢
                refine pure_ (i := 0) (N := some 27) (v := ?_) (a' := ?_) #[true, false, false, false, false, false, false, false, false] rfl rfl (any_of HT_.out (by kernel_rfl)) (fun _ _ _ h => h) (Or.inl ⟨by rfl, ?_⟩) ?_ ?_
                rotate_left
                · intro w'
                  go_simp
                  with_reducible rfl
                rotate_left
                · simp only [Act.put, List.setIfInBounds_toArray, List.set_cons_zero, List.set_cons_succ, i64_w, i32_w]
                  rfl
                refine pure_ (i := 4) (N := some 31) (v := ?_) (a' := ?_) #[true, false, false, false, true, false, false, false, false] rfl rfl (any_of HT_.out (by kernel_rfl)) (fun _ _ _ h => h) (Or.inl ⟨by rfl, ?_⟩) ?_ ?_
                rotate_left
                · intro w'
                  go_simp
                  with_reducible rfl
                rotate_left
                · simp only [Act.put, List.setIfInBounds_toArray, List.set_cons_zero, List.set_cons_succ, i64_w, i32_w]
                  rfl
                refine take_ (i := 1) (N := some 28) (v := ?_) (a' := ?_) #[true, true, false, false, true, false, false, false, false] rfl rfl (take_ofW HT_.out HW_.out (by kernel_rfl)) (fun _ _ _ h => h) (Or.inl ⟨by rfl, ?_⟩) hHeld ?_ ?_
                rotate_left
                · rintro w' ⟨s0, s1, s2⟩
                  go_simp
                  with_reducible rfl
                rotate_left
                · simp only [Act.put, List.setIfInBounds_toArray, List.set_cons_zero, List.set_cons_succ, i64_w, i32_w]
                  rfl
                refine take_ (i := 5) (N := some 32) (v := ?_) (a' := ?_) #[true, true, false, false, true, true, false, false, false] rfl rfl (take_ofW HT_.out HW_.out (by kernel_rfl)) (fun _ _ _ h => h) (Or.inl ⟨by rfl, ?_⟩) hHeld ?_ ?_
                rotate_left
                · rintro w' ⟨s0, s1, s2⟩
                  go_simp
                  with_reducible rfl
                rotate_left
                · simp only [Act.put, List.setIfInBounds_toArray, List.set_cons_zero, List.set_cons_succ, i64_w, i32_w]
                  rfl
                refine one_ (i := 2) (N := some 29) #[true, true, true, false, true, true, false, false, false] rfl rfl (one_of HT_.out (by kernel_rfl)) (by decide) (fun K hK => ?_)
                refine goes_ Tryd.func56 (by kernel_rfl) rfl #[.string a0_1] (by rfl) rfl rfl (by (try simp only [List.map_toArray, List.map_cons, List.map_nil]); first | done | rfl | (simp only [List.length_drop, List.length_take]; rfl)) ?_
                with_reducible refine (term_written.calls k a0_1 t154 _ A20.out).mono ?_
                rintro e w27 ⟨rfl, hb⟩
                refine ⟨_, rfl, ?_⟩
                have n0_ := Aside0.mk (blk_below (g := gb152) (o := .cells #[.int .i64 a0_0, .string a0_1, .string a0_2] 26 (0, 0)) (by (with_reducible repeat (first | refine blk_drewN ?_ _ | refine blk_drew ?_ | refine blk_alloc ?_ _)); exact BK152.out) hb)
                have n1_ := Aside0.mk (below_step (by repeat (first | (with_reducible first | exact HB.out | apply below_alloc | apply pw_below_drewN | apply below_drew1 | refine below_set ?_ GE152.out) | exact HB.out)) hb)
                clear BK152
                clear HB
                have BK152 := n0_
                have HB := n1_
                clear n0_ n1_
                (try clear hb)
                (try clear hb2)
                (try clear hk)
                (try clear hi)
                refine hK.out _ _ ⟨(blk_cell BK152.out 0).trans rfl, (blk_cell BK152.out 1).trans rfl, (blk_cell BK152.out 2).trans rfl⟩ (fun hHeld => ?_)
                clear hK K
                refine norm_ (a' := ?_) ?_ ?_
                rotate_left
                · show Act.put _ (some 29) _ = _
                  simp only [Act.put, List.setIfInBounds_toArray, List.set_cons_zero, List.set_cons_succ, i64_w, i32_w]
                  rfl
                refine pure_ (i := 3) (N := some 30) (v := ?_) (a' := ?_) #[true, true, true, true, true, true, false, false, false] rfl rfl (any_of HT_.out (by kernel_rfl)) (fun _ _ _ h => h) (Or.inl ⟨by rfl, ?_⟩) ?_ ?_
                rotate_left
                · intro w'
                  go_simp
                  with_reducible rfl
                rotate_left
                · simp only [Act.put, List.setIfInBounds_toArray, List.set_cons_zero, List.set_cons_succ, i64_w, i32_w]
                  rfl
                refine pure_ (i := 6) (N := some 33) (v := ?_) (a' := ?_) #[true, true, true, true, true, true, true, false, false] rfl rfl (any_of HT_.out (by kernel_rfl)) (fun _ _ _ h => h) (Or.inl ⟨by rfl, ?_⟩) ?_ ?_
                rotate_left
                · intro w'
                  go_simp
                  with_reducible rfl
                rotate_left
                · simp only [Act.put, List.setIfInBounds_toArray, List.set_cons_zero, List.set_cons_succ, i64_w, i32_w]
                  rfl
                refine pure_ (i := 7) (N := some 34) (v := ?_) (a' := ?_) #[true, true, true, true, true, true, true, true, false] rfl rfl (any_of HT_.out (by kernel_rfl)) (fun _ _ _ h => h) (Or.inl ⟨by rfl, ?_⟩) ?_ ?_
                rotate_left
                · intro w'
                  go_simp
                  with_reducible rfl
                rotate_left
                · simp only [Act.put, List.setIfInBounds_toArray, List.set_cons_zero, List.set_cons_succ, i64_w, i32_w]
                  rfl
                refine pure_ (i := 8) (N := some 2) (v := ?_) (a' := ?_) #[true, true, true, true, true, true, true, true, true] rfl rfl (any_of HT_.out (by kernel_rfl)) (fun _ _ _ h => h) (Or.inl ⟨by rfl, ?_⟩) ?_ ?_
                rotate_left
                · intro w'
                  go_simp
                  with_reducible rfl
                rotate_left
                · simp only [Act.put, List.setIfInBounds_toArray, List.set_cons_zero, List.set_cons_succ, i64_w, i32_w]
                  rfl
                refine done_ (done_of HT_.out (by kernel_rfl)) ?_
                try go_wp2
                go_ret
                exact ⟨by first | rfl | (simp [errW_none, errW_some] <;> rfl) | (simp [*, errW_none, errW_some] <;> rfl), by repeat (first | (with_reducible first | exact HB.out | apply below_alloc | apply pw_below_drewN | apply below_drew1 | refine below_set ?_ GE152.out) | exact HB.out)⟩
              · rw [if_neg c23] at H
                exact absurd H (by simp)
            · rw [if_neg c22] at H
              exact absurd H (by simp)
          · rw [if_neg c21] at H
            exact absurd H (by simp)
        · rw [if_neg c19] at H
          have c19b0 : (a0_0 == 5) = false := beq_eq_false_iff_ne.mpr c19
          have c19b1 : (a0_0 != 5) = true := bne_iff_ne.mpr c19
          replace H := Option.bind_eq_some_iff.mp H
          obtain ⟨t155, A280, H⟩ := H
          replace H : (some t155) = some r := H
          have A28 := Aside0.mk A280
          clear A280
          obtain rfl := Option.some.inj H
          go_enter Tryd.func34, Tryd.ntmps34
          go_wp2_with (first | ((with_reducible refine gate_dst (N := 1) rfl ?_); refine box_event ?hg (N := 1) ?hd (cs := #[.int .i64 a0_0, .string a0_1, .string a0_2]) (t := 26) ?hr ?_; (case hd => rfl); (case hg => rfl); (case hr => first | (go_simp; done) | (go_simp; rfl)); intro gb152 hg w29 hbox hb; have n0_ := Aside0.mk (below_step (by repeat (first | (with_reducible first | exact HB.out | apply below_alloc | apply pw_below_drewN | apply below_drew1) | exact HB.out)) hb); have n1_ := Aside0.mk (hbox); have n2_ := Aside0.mk ((by rw [hg]; exact (below_size (by repeat (first | (with_reducible first | exact HB.out | apply below_alloc | apply pw_below_drewN | apply below_drew1) | exact HB.out))) : w.heap.size ≤ gb152)); have n3_ := Aside0.mk ((by rw [hg]; exact (below_size (by repeat (first | (with_reducible first | exact HB.out | apply below_alloc | apply pw_below_drewN | apply below_drew1) | exact HB.out))) : w.heap.size ≤ gb152)); clear HB; have HB := n0_; have BK152 := n1_; have GW152 := n2_; have GE152 := n3_; clear n0_ n1_ n2_ n3_; clear hb hbox hg; have hcz30_0 : w29.cell? ⟨gb152, 0, none⟩ = some (.int .i64 a0_0) := (blk_cell BK152.out 0).trans rfl; have hcz30_1 : w29.cell? ⟨gb152, 1, none⟩ = some (.string a0_1) := (blk_cell BK152.out 1).trans rfl; have hcz30_2 : w29.cell? ⟨gb152, 2, none⟩ = some (.string a0_2) := (blk_cell BK152.out 2).trans rfl; have hfz30_0 := blk_frozen BK152.out 0; have hfz30_1 := blk_frozen BK152.out 1; have hfz30_2 := blk_frozen BK152.out 2) | ((with_reducible refine gate_callee (f := 56) rfl ?_); refine goesL_ (some 37) rfl rfl Tryd.func56 (by kernel_rfl) rfl #[.string a0_1] rfl (by (try simp only [List.map_toArray, List.map_cons, List.map_nil]); first | done | rfl | (simp only [List.length_drop, List.length_take]; rfl)) ?_; (with_reducible refine (term_written.calls k a0_1 t155 _ A28.out).mono ?_); rintro e w31 ⟨rfl, hb⟩; refine ⟨_, rfl, ?_⟩; have n0_ := Aside0.mk (blk_below (g := gb152) (o := .cells #[.int .i64 a0_0, .string a0_1, .string a0_2] 26 (0, 0)) (by (with_reducible repeat (first | refine blk_drewN ?_ _ | refine blk_drew ?_ | refine blk_alloc ?_ _)); exact BK152.out) hb); have n1_ := Aside0.mk (below_step (by repeat (first | (with_reducible first | exact HB.out | apply below_alloc | apply pw_below_drewN | apply below_drew1 | refine below_set ?_ GE152.out) | exact HB.out)) hb); clear BK152; clear HB; have BK152 := n0_; have HB := n1_; clear n0_ n1_; (try clear hb); (try clear hb2); (try clear hk); (try clear hi)))
          go_ret
          exact ⟨by first | rfl | (simp [errW_none, errW_some] <;> rfl) | (simp [*, errW_none, errW_some] <;> rfl), by repeat (first | (with_reducible first | exact HB.out | apply below_alloc | apply pw_below_drewN | apply below_drew1 | refine below_set ?_ GE152.out) | exact HB.out)⟩
def term_Text.f (k : Nat) (a0_0 : Int) (a0_1 : ByteArray) (a0_2 : ByteArray) : Option (ByteArray × Int) := (term_May.f k a0_0 a0_1 a0_2).bind fun t157 => (if t157 = true then ((term_text.f k a0_0 a0_1 a0_2).bind fun t158 => (some (t158, 0))) else (some ((⟨#[]⟩ : ByteArray), 2)))
theorem term_Text.mono : ∀ a0 a1 a2 k, LeO (term_Text.f k a0 a1 a2) (term_Text.f (k + 1) a0 a1 a2) := by
  intro a0 a1 a2 k
  unfold term_Text.f
  repeat' first
      | (with_reducible exact term_May.mono _ _ _ _)
      | (with_reducible exact term_text.mono _ _ _ _)
      | (with_reducible exact LeO.refl _)
      | (with_reducible exact LeO.none _)
      | (with_reducible refine LeO.ite ?_ ?_)
      | (with_reducible refine LeO.bind ?_ (fun _ => ?_))
      | exact term_May.mono _ _ _ _
      | exact term_text.mono _ _ _ _
      | exact LeO.none _
      | refine LeO.ite ?_ ?_
      | refine LeO.bind ?_ (fun _ => ?_)
set_option maxHeartbeats 8000000 in
set_option maxRecDepth 100000 in
theorem term_Text.calls (k : Nat) (a0_0 : Int) (a0_1 : ByteArray) (a0_2 : ByteArray) (r1 : ByteArray) (r2 : Int) (w : World) (h : term_Text.f k a0_0 a0_1 a0_2 = some (r1, r2)) :
    Calls Tryd.prog 12 #[.agg #[.int .i64 a0_0, .string a0_1, .string a0_2]] w fun e w' => e = .returned (.tuple #[.string r1, .int .i64 r2]) ∧ Below w.heap.size w w' := by
  have hu26 := Tryd.underlying26
  have HB := Aside0.mk (Below.refl w.heap.size w)
  have H : ((term_May.f k a0_0 a0_1 a0_2).bind fun t157 => (if t157 = true then ((term_text.f k a0_0 a0_1 a0_2).bind fun t158 => (some (t158, 0))) else (some ((⟨#[]⟩ : ByteArray), 2)))) = some (r1, r2) := h
  clear h
  replace H := Option.bind_eq_some_iff.mp H
  obtain ⟨t157, A20, H⟩ := H
  replace H : (if t157 = true then ((term_text.f k a0_0 a0_1 a0_2).bind fun t158 => (some (t158, 0))) else (some ((⟨#[]⟩ : ByteArray), 2))) = some (r1, r2) := H
  have A2 := Aside0.mk A20
  clear A20
  by_cases c3 : t157 = true
  · subst c3
    have H1 : ((term_text.f k a0_0 a0_1 a0_2).bind fun t158 => (some (t158, 0))) = some (r1, r2) := by rw [if_pos rfl] at H; exact H
    clear H
    have H := H1
    clear H1
    replace H := Option.bind_eq_some_iff.mp H
    obtain ⟨t158, A40, H⟩ := H
    replace H : (some (t158, 0)) = some (r1, r2) := H
    have A4 := Aside0.mk A40
    clear A40
    simp only [Option.some.injEq, Prod.mk.injEq] at H
    obtain ⟨rfl, rfl⟩ := H
    go_enter Tryd.func12, Tryd.ntmps12
    go_wp2_with (first | ((with_reducible refine gate_dst (N := 1) rfl ?_); refine box_event ?hg (N := 1) ?hd (cs := #[.int .i64 a0_0, .string a0_1, .string a0_2]) (t := 26) ?hr ?_; (case hd => rfl); (case hg => rfl); (case hr => first | (go_simp; done) | (go_simp; rfl)); intro gb156 hg w5 hbox hb; have n0_ := Aside0.mk (below_step (by repeat (first | (with_reducible first | exact HB.out | apply below_alloc | apply pw_below_drewN | apply below_drew1) | exact HB.out)) hb); have n1_ := Aside0.mk (hbox); have n2_ := Aside0.mk ((by rw [hg]; exact (below_size (by repeat (first | (with_reducible first | exact HB.out | apply below_alloc | apply pw_below_drewN | apply below_drew1) | exact HB.out))) : w.heap.size ≤ gb156)); have n3_ := Aside0.mk ((by rw [hg]; exact (below_size (by repeat (first | (with_reducible first | exact HB.out | apply below_alloc | apply pw_below_drewN | apply below_drew1) | exact HB.out))) : w.heap.size ≤ gb156)); clear HB; have HB := n0_; have BK156 := n1_; have GW156 := n2_; have GE156 := n3_; clear n0_ n1_ n2_ n3_; clear hb hbox hg; have hcz6_0 : w5.cell? ⟨gb156, 0, none⟩ = some (.int .i64 a0_0) := (blk_cell BK156.out 0).trans rfl; have hcz6_1 : w5.cell? ⟨gb156, 1, none⟩ = some (.string a0_1) := (blk_cell BK156.out 1).trans rfl; have hcz6_2 : w5.cell? ⟨gb156, 2, none⟩ = some (.string a0_2) := (blk_cell BK156.out 2).trans rfl; have hfz6_0 := blk_frozen BK156.out 0; have hfz6_1 := blk_frozen BK156.out 1; have hfz6_2 := blk_frozen BK156.out 2) | ((with_reducible refine gate_callee (f := 9) rfl ?_); refine goesL_ (some 5) rfl rfl Tryd.func9 (by kernel_rfl) rfl #[.agg #[.int .i64 a0_0, .string a0_1, .string a0_2]] rfl (by (try simp only [List.map_toArray, List.map_cons, List.map_nil]); first | done | rfl | (simp only [List.length_drop, List.length_take]; rfl)) ?_; (with_reducible refine (term_May.calls k a0_0 a0_1 a0_2 true _ A2.out).mono ?_); rintro e w7 ⟨rfl, hb⟩; refine ⟨_, rfl, ?_⟩; have n0_ := Aside0.mk (blk_below (g := gb156) (o := .cells #[.int .i64 a0_0, .string a0_1, .string a0_2] 26 (0, 0)) (by (with_reducible repeat (first | refine blk_drewN ?_ _ | refine blk_drew ?_ | refine blk_alloc ?_ _)); exact BK156.out) hb); have n1_ := Aside0.mk (below_step (by repeat (first | (with_reducible first | exact HB.out | apply below_alloc | apply pw_below_drewN | apply below_drew1 | refine below_set ?_ GE156.out) | exact HB.out)) hb); clear BK156; clear HB; have BK156 := n0_; have HB := n1_; clear n0_ n1_; (try clear hb); (try clear hb2); (try clear hk); (try clear hi); have hcz8_0 : w7.cell? ⟨gb156, 0, none⟩ = some (.int .i64 a0_0) := (blk_cell BK156.out 0).trans rfl; have hcz8_1 : w7.cell? ⟨gb156, 1, none⟩ = some (.string a0_1) := (blk_cell BK156.out 1).trans rfl; have hcz8_2 : w7.cell? ⟨gb156, 2, none⟩ = some (.string a0_2) := (blk_cell BK156.out 2).trans rfl; have hfz8_0 := blk_frozen BK156.out 0; have hfz8_1 := blk_frozen BK156.out 1; have hfz8_2 := blk_frozen BK156.out 2) | ((with_reducible refine gate_callee (f := 34) rfl ?_); refine goesL_ (some 8) rfl rfl Tryd.func34 (by kernel_rfl) rfl #[.agg #[.int .i64 a0_0, .string a0_1, .string a0_2]] rfl (by (try simp only [List.map_toArray, List.map_cons, List.map_nil]); first | done | rfl | (simp only [List.length_drop, List.length_take]; rfl)) ?_; (with_reducible refine (term_text.calls k a0_0 a0_1 a0_2 t158 _ A4.out).mono ?_); rintro e w9 ⟨rfl, hb⟩; refine ⟨_, rfl, ?_⟩; have n0_ := Aside0.mk (blk_below (g := gb156) (o := .cells #[.int .i64 a0_0, .string a0_1, .string a0_2] 26 (0, 0)) (by (with_reducible repeat (first | refine blk_drewN ?_ _ | refine blk_drew ?_ | refine blk_alloc ?_ _)); exact BK156.out) hb); have n1_ := Aside0.mk (below_step (by repeat (first | (with_reducible first | exact HB.out | apply below_alloc | apply pw_below_drewN | apply below_drew1 | refine below_set ?_ GE156.out) | exact HB.out)) hb); clear BK156; clear HB; have BK156 := n0_; have HB := n1_; clear n0_ n1_; (try clear hb); (try clear hb2); (try clear hk); (try clear hi)))
    go_ret2
    exact ⟨by first | rfl | (simp [errW_none, errW_some] <;> rfl) | (simp [*, errW_none, errW_some] <;> rfl), by repeat (first | (with_reducible first | exact HB.out | apply below_alloc | apply pw_below_drewN | apply below_drew1 | refine below_set ?_ GE156.out) | exact HB.out)⟩
  · replace c3 := Bool.eq_false_iff.mpr c3
    subst c3
    have H1 : (some ((⟨#[]⟩ : ByteArray), 2)) = some (r1, r2) := by rw [if_neg (show ¬ (false = true) by decide)] at H; exact H
    clear H
    have H := H1
    clear H1
    simp only [Option.some.injEq, Prod.mk.injEq] at H
    obtain ⟨rfl, rfl⟩ := H
    go_enter Tryd.func12, Tryd.ntmps12
    go_wp2_with (first | ((with_reducible refine gate_dst (N := 1) rfl ?_); refine box_event ?hg (N := 1) ?hd (cs := #[.int .i64 a0_0, .string a0_1, .string a0_2]) (t := 26) ?hr ?_; (case hd => rfl); (case hg => rfl); (case hr => first | (go_simp; done) | (go_simp; rfl)); intro gb156 hg w10 hbox hb; have n0_ := Aside0.mk (below_step (by repeat (first | (with_reducible first | exact HB.out | apply below_alloc | apply pw_below_drewN | apply below_drew1) | exact HB.out)) hb); have n1_ := Aside0.mk (hbox); have n2_ := Aside0.mk ((by rw [hg]; exact (below_size (by repeat (first | (with_reducible first | exact HB.out | apply below_alloc | apply pw_below_drewN | apply below_drew1) | exact HB.out))) : w.heap.size ≤ gb156)); have n3_ := Aside0.mk ((by rw [hg]; exact (below_size (by repeat (first | (with_reducible first | exact HB.out | apply below_alloc | apply pw_below_drewN | apply below_drew1) | exact HB.out))) : w.heap.size ≤ gb156)); clear HB; have HB := n0_; have BK156 := n1_; have GW156 := n2_; have GE156 := n3_; clear n0_ n1_ n2_ n3_; clear hb hbox hg; have hcz11_0 : w10.cell? ⟨gb156, 0, none⟩ = some (.int .i64 a0_0) := (blk_cell BK156.out 0).trans rfl; have hcz11_1 : w10.cell? ⟨gb156, 1, none⟩ = some (.string a0_1) := (blk_cell BK156.out 1).trans rfl; have hcz11_2 : w10.cell? ⟨gb156, 2, none⟩ = some (.string a0_2) := (blk_cell BK156.out 2).trans rfl; have hfz11_0 := blk_frozen BK156.out 0; have hfz11_1 := blk_frozen BK156.out 1; have hfz11_2 := blk_frozen BK156.out 2) | ((with_reducible refine gate_callee (f := 9) rfl ?_); refine goesL_ (some 5) rfl rfl Tryd.func9 (by kernel_rfl) rfl #[.agg #[.int .i64 a0_0, .string a0_1, .string a0_2]] rfl (by (try simp only [List.map_toArray, List.map_cons, List.map_nil]); first | done | rfl | (simp only [List.length_drop, List.length_take]; rfl)) ?_; (with_reducible refine (term_May.calls k a0_0 a0_1 a0_2 false _ A2.out).mono ?_); rintro e w12 ⟨rfl, hb⟩; refine ⟨_, rfl, ?_⟩; have n0_ := Aside0.mk (blk_below (g := gb156) (o := .cells #[.int .i64 a0_0, .string a0_1, .string a0_2] 26 (0, 0)) (by (with_reducible repeat (first | refine blk_drewN ?_ _ | refine blk_drew ?_ | refine blk_alloc ?_ _)); exact BK156.out) hb); have n1_ := Aside0.mk (below_step (by repeat (first | (with_reducible first | exact HB.out | apply below_alloc | apply pw_below_drewN | apply below_drew1 | refine below_set ?_ GE156.out) | exact HB.out)) hb); clear BK156; clear HB; have BK156 := n0_; have HB := n1_; clear n0_ n1_; (try clear hb); (try clear hb2); (try clear hk); (try clear hi)))
    go_ret2
    exact ⟨by first | rfl | (simp [errW_none, errW_some] <;> rfl) | (simp [*, errW_none, errW_some] <;> rfl), by repeat (first | (with_reducible first | exact HB.out | apply below_alloc | apply pw_below_drewN | apply below_drew1 | refine below_set ?_ GE156.out) | exact HB.out)⟩
def rhizomelaw02_num.f (a0 : Int) : Option (Int) := some a0
set_option maxHeartbeats 8000000 in
set_option maxRecDepth 100000 in
theorem rhizomelaw02_num.calls (a0 : Int) (r : Int) (w : World) (h : rhizomelaw02_num.f a0 = some r) :
    Calls Tryd.prog 19 #[.int .i64 a0] w fun e w' => e = .returned (.int .i64 r) ∧ Drawn0 w w' := by
  have H : (some a0) = some r := h
  clear h
  obtain rfl := Option.some.inj H
  go_enter Tryd.func19, Tryd.ntmps19
  go_wp2
  go_ret
  exact ⟨by first | rfl | (simp; done) | (simp [*]; done), by repeat (first | exact Drawn0.refl _ | apply Drawn0.step)⟩
def rhizomelaw02_known.f (k : Nat)  : Option (Bool) := (term_Text.f k 4 (⟨#[97, 34, 98]⟩ : ByteArray) (⟨#[101, 110]⟩ : ByteArray)).bind fun bt159 => ((term_Text.f k 5 (⟨#[49]⟩ : ByteArray) (⟨#[104, 116, 116, 112, 58, 47, 47, 120]⟩ : ByteArray)).bind fun bt161 => (if bt159.1.toList = ([34, 97, 92, 34, 98, 34, 64, 101, 110] : List UInt8) then (if bt161.1.toList = ([34, 49, 34, 94, 94, 60, 104, 116, 116, 112, 58, 47, 47, 120, 62] : List UInt8) then ((rhizomelaw02_num.f bt159.2).bind fun t163 => ((rhizomelaw02_num.f bt161.2).bind fun t164 => (some ((wrap64 (t163 + t164)) == 0)))) else (some false)) else (some false)))
theorem rhizomelaw02_known.mono : ∀ k, LeO (rhizomelaw02_known.f k ) (rhizomelaw02_known.f (k + 1) ) := by
  intro  k
  unfold rhizomelaw02_known.f
  repeat' first
      | (with_reducible exact term_Text.mono _ _ _ _)
      | (with_reducible exact LeO.refl _)
      | (with_reducible exact LeO.none _)
      | (with_reducible refine LeO.ite ?_ ?_)
      | (with_reducible refine LeO.bind ?_ (fun _ => ?_))
      | exact term_Text.mono _ _ _ _
      | exact LeO.none _
      | refine LeO.ite ?_ ?_
      | refine LeO.bind ?_ (fun _ => ?_)
set_option maxHeartbeats 8000000 in
set_option maxRecDepth 100000 in
theorem rhizomelaw02_known.calls (k : Nat)  (r : Bool) (w : World) (h : rhizomelaw02_known.f k  = some r) :
    Calls Tryd.prog 10 #[] w fun e w' => e = .returned (.bool r) ∧ Below w.heap.size w w' := by
  have hu26 := Tryd.underlying26
  have HB := Aside0.mk (Below.refl w.heap.size w)
  have H : ((term_Text.f k 4 (⟨#[97, 34, 98]⟩ : ByteArray) (⟨#[101, 110]⟩ : ByteArray)).bind fun bt159 => ((term_Text.f k 5 (⟨#[49]⟩ : ByteArray) (⟨#[104, 116, 116, 112, 58, 47, 47, 120]⟩ : ByteArray)).bind fun bt161 => (if bt159.1.toList = ([34, 97, 92, 34, 98, 34, 64, 101, 110] : List UInt8) then (if bt161.1.toList = ([34, 49, 34, 94, 94, 60, 104, 116, 116, 112, 58, 47, 47, 120, 62] : List UInt8) then ((rhizomelaw02_num.f bt159.2).bind fun t163 => ((rhizomelaw02_num.f bt161.2).bind fun t164 => (some ((wrap64 (t163 + t164)) == 0)))) else (some false)) else (some false)))) = some r := h
  clear h
  replace H := Option.bind_eq_some_iff.mp H
  obtain ⟨⟨t159, t160⟩, A10, H⟩ := H
  replace H : ((term_Text.f k 5 (⟨#[49]⟩ : ByteArray) (⟨#[104, 116, 116, 112, 58, 47, 47, 120]⟩ : ByteArray)).bind fun bt161 => (if t159.toList = ([34, 97, 92, 34, 98, 34, 64, 101, 110] : List UInt8) then (if bt161.1.toList = ([34, 49, 34, 94, 94, 60, 104, 116, 116, 112, 58, 47, 47, 120, 62] : List UInt8) then ((rhizomelaw02_num.f t160).bind fun t163 => ((rhizomelaw02_num.f bt161.2).bind fun t164 => (some ((wrap64 (t163 + t164)) == 0)))) else (some false)) else (some false))) = some r := H
  have A1 := Aside0.mk A10
  clear A10
  replace H := Option.bind_eq_some_iff.mp H
  obtain ⟨⟨t161, t162⟩, A20, H⟩ := H
  replace H : (if t159.toList = ([34, 97, 92, 34, 98, 34, 64, 101, 110] : List UInt8) then (if t161.toList = ([34, 49, 34, 94, 94, 60, 104, 116, 116, 112, 58, 47, 47, 120, 62] : List UInt8) then ((rhizomelaw02_num.f t160).bind fun t163 => ((rhizomelaw02_num.f t162).bind fun t164 => (some ((wrap64 (t163 + t164)) == 0)))) else (some false)) else (some false)) = some r := H
  have A2 := Aside0.mk A20
  clear A20
  by_cases c3 : t159.toList = ([34, 97, 92, 34, 98, 34, 64, 101, 110] : List UInt8)
  · rw [if_pos c3] at H
    have c3b0 : (t159.toList == ([34, 97, 92, 34, 98, 34, 64, 101, 110] : List UInt8)) = true := beq_iff_eq.mpr c3
    have c3b1 : (t159.toList != ([34, 97, 92, 34, 98, 34, 64, 101, 110] : List UInt8)) = false := bne_eq_false_iff_eq.mpr c3
    clear c3
    by_cases c4 : t161.toList = ([34, 49, 34, 94, 94, 60, 104, 116, 116, 112, 58, 47, 47, 120, 62] : List UInt8)
    · rw [if_pos c4] at H
      have c4b0 : (t161.toList == ([34, 49, 34, 94, 94, 60, 104, 116, 116, 112, 58, 47, 47, 120, 62] : List UInt8)) = true := beq_iff_eq.mpr c4
      have c4b1 : (t161.toList != ([34, 49, 34, 94, 94, 60, 104, 116, 116, 112, 58, 47, 47, 120, 62] : List UInt8)) = false := bne_eq_false_iff_eq.mpr c4
      clear c4
      replace H := Option.bind_eq_some_iff.mp H
      obtain ⟨t163, A50, H⟩ := H
      replace H : ((rhizomelaw02_num.f t162).bind fun t164 => (some ((wrap64 (t163 + t164)) == 0))) = some r := H
      have A5 := Aside0.mk A50
      clear A50
      replace H := Option.bind_eq_some_iff.mp H
      obtain ⟨t164, A60, H⟩ := H
      replace H : (some ((wrap64 (t163 + t164)) == 0)) = some r := H
      have A6 := Aside0.mk A60
      clear A60
      obtain rfl := Option.some.inj H
      go_enter Tryd.func10, Tryd.ntmps10
      go_wp2_with (first | ((with_reducible refine gate_callee (f := 12) rfl ?_); refine goesL_ (some 7) rfl rfl Tryd.func12 (by kernel_rfl) rfl #[.agg #[.int .i64 4, .string (⟨#[97, 34, 98]⟩ : ByteArray), .string (⟨#[101, 110]⟩ : ByteArray)]] rfl (by (try simp only [List.map_toArray, List.map_cons, List.map_nil]); first | done | rfl | (simp only [List.length_drop, List.length_take]; rfl)) ?_; (with_reducible refine (term_Text.calls k 4 (⟨#[97, 34, 98]⟩ : ByteArray) (⟨#[101, 110]⟩ : ByteArray) t159 t160 _ A1.out).mono ?_); rintro e w7 ⟨rfl, hb⟩; refine ⟨_, rfl, ?_⟩; have n0_ := Aside0.mk (below_step (by repeat (first | (with_reducible first | exact HB.out | apply below_alloc | apply pw_below_drewN | apply below_drew1) | exact HB.out)) hb); clear HB; have HB := n0_; clear n0_; (try clear hb); (try clear hb2); (try clear hk); (try clear hi)) | ((with_reducible refine gate_callee (f := 12) rfl ?_); refine goesL_ (some 12) rfl rfl Tryd.func12 (by kernel_rfl) rfl #[.agg #[.int .i64 5, .string (⟨#[49]⟩ : ByteArray), .string (⟨#[104, 116, 116, 112, 58, 47, 47, 120]⟩ : ByteArray)]] rfl (by (try simp only [List.map_toArray, List.map_cons, List.map_nil]); first | done | rfl | (simp only [List.length_drop, List.length_take]; rfl)) ?_; (with_reducible refine (term_Text.calls k 5 (⟨#[49]⟩ : ByteArray) (⟨#[104, 116, 116, 112, 58, 47, 47, 120]⟩ : ByteArray) t161 t162 _ A2.out).mono ?_); rintro e w8 ⟨rfl, hb⟩; refine ⟨_, rfl, ?_⟩; have n0_ := Aside0.mk (below_step (by repeat (first | (with_reducible first | exact HB.out | apply below_alloc | apply pw_below_drewN | apply below_drew1) | exact HB.out)) hb); clear HB; have HB := n0_; clear n0_; (try clear hb); (try clear hb2); (try clear hk); (try clear hi)) | (go_at_call 19; (with_reducible refine (rhizomelaw02_num.calls t160 t163 _ A5.out).mono ?_); rintro e w' ⟨rfl, ⟨nd, rfl⟩⟩) | (go_at_call 19; (with_reducible refine (rhizomelaw02_num.calls t162 t164 _ A6.out).mono ?_); rintro e w' ⟨rfl, ⟨nd, rfl⟩⟩))
      go_ret
      exact ⟨by first | rfl | (simp [errW_none, errW_some] <;> rfl) | (simp [*, errW_none, errW_some] <;> rfl), by repeat (first | (with_reducible first | exact HB.out | apply below_alloc | apply pw_below_drewN | apply below_drew1) | exact HB.out)⟩
    · rw [if_neg c4] at H
      have c4b0 : (t161.toList == ([34, 49, 34, 94, 94, 60, 104, 116, 116, 112, 58, 47, 47, 120, 62] : List UInt8)) = false := beq_eq_false_iff_ne.mpr c4
      have c4b1 : (t161.toList != ([34, 49, 34, 94, 94, 60, 104, 116, 116, 112, 58, 47, 47, 120, 62] : List UInt8)) = true := bne_iff_ne.mpr c4
      obtain rfl := Option.some.inj H
      go_enter Tryd.func10, Tryd.ntmps10
      go_wp2_with (first | ((with_reducible refine gate_callee (f := 12) rfl ?_); refine goesL_ (some 7) rfl rfl Tryd.func12 (by kernel_rfl) rfl #[.agg #[.int .i64 4, .string (⟨#[97, 34, 98]⟩ : ByteArray), .string (⟨#[101, 110]⟩ : ByteArray)]] rfl (by (try simp only [List.map_toArray, List.map_cons, List.map_nil]); first | done | rfl | (simp only [List.length_drop, List.length_take]; rfl)) ?_; (with_reducible refine (term_Text.calls k 4 (⟨#[97, 34, 98]⟩ : ByteArray) (⟨#[101, 110]⟩ : ByteArray) t159 t160 _ A1.out).mono ?_); rintro e w9 ⟨rfl, hb⟩; refine ⟨_, rfl, ?_⟩; have n0_ := Aside0.mk (below_step (by repeat (first | (with_reducible first | exact HB.out | apply below_alloc | apply pw_below_drewN | apply below_drew1) | exact HB.out)) hb); clear HB; have HB := n0_; clear n0_; (try clear hb); (try clear hb2); (try clear hk); (try clear hi)) | ((with_reducible refine gate_callee (f := 12) rfl ?_); refine goesL_ (some 12) rfl rfl Tryd.func12 (by kernel_rfl) rfl #[.agg #[.int .i64 5, .string (⟨#[49]⟩ : ByteArray), .string (⟨#[104, 116, 116, 112, 58, 47, 47, 120]⟩ : ByteArray)]] rfl (by (try simp only [List.map_toArray, List.map_cons, List.map_nil]); first | done | rfl | (simp only [List.length_drop, List.length_take]; rfl)) ?_; (with_reducible refine (term_Text.calls k 5 (⟨#[49]⟩ : ByteArray) (⟨#[104, 116, 116, 112, 58, 47, 47, 120]⟩ : ByteArray) t161 t162 _ A2.out).mono ?_); rintro e w10 ⟨rfl, hb⟩; refine ⟨_, rfl, ?_⟩; have n0_ := Aside0.mk (below_step (by repeat (first | (with_reducible first | exact HB.out | apply below_alloc | apply pw_below_drewN | apply below_drew1) | exact HB.out)) hb); clear HB; have HB := n0_; clear n0_; (try clear hb); (try clear hb2); (try clear hk); (try clear hi)))
      go_ret
      exact ⟨by first | rfl | (simp [errW_none, errW_some] <;> rfl) | (simp [*, errW_none, errW_some] <;> rfl), by repeat (first | (with_reducible first | exact HB.out | apply below_alloc | apply pw_below_drewN | apply below_drew1) | exact HB.out)⟩
  · rw [if_neg c3] at H
    have c3b0 : (t159.toList == ([34, 97, 92, 34, 98, 34, 64, 101, 110] : List UInt8)) = false := beq_eq_false_iff_ne.mpr c3
    have c3b1 : (t159.toList != ([34, 97, 92, 34, 98, 34, 64, 101, 110] : List UInt8)) = true := bne_iff_ne.mpr c3
    obtain rfl := Option.some.inj H
    go_enter Tryd.func10, Tryd.ntmps10
    go_wp2_with (first | ((with_reducible refine gate_callee (f := 12) rfl ?_); refine goesL_ (some 7) rfl rfl Tryd.func12 (by kernel_rfl) rfl #[.agg #[.int .i64 4, .string (⟨#[97, 34, 98]⟩ : ByteArray), .string (⟨#[101, 110]⟩ : ByteArray)]] rfl (by (try simp only [List.map_toArray, List.map_cons, List.map_nil]); first | done | rfl | (simp only [List.length_drop, List.length_take]; rfl)) ?_; (with_reducible refine (term_Text.calls k 4 (⟨#[97, 34, 98]⟩ : ByteArray) (⟨#[101, 110]⟩ : ByteArray) t159 t160 _ A1.out).mono ?_); rintro e w11 ⟨rfl, hb⟩; refine ⟨_, rfl, ?_⟩; have n0_ := Aside0.mk (below_step (by repeat (first | (with_reducible first | exact HB.out | apply below_alloc | apply pw_below_drewN | apply below_drew1) | exact HB.out)) hb); clear HB; have HB := n0_; clear n0_; (try clear hb); (try clear hb2); (try clear hk); (try clear hi)) | ((with_reducible refine gate_callee (f := 12) rfl ?_); refine goesL_ (some 12) rfl rfl Tryd.func12 (by kernel_rfl) rfl #[.agg #[.int .i64 5, .string (⟨#[49]⟩ : ByteArray), .string (⟨#[104, 116, 116, 112, 58, 47, 47, 120]⟩ : ByteArray)]] rfl (by (try simp only [List.map_toArray, List.map_cons, List.map_nil]); first | done | rfl | (simp only [List.length_drop, List.length_take]; rfl)) ?_; (with_reducible refine (term_Text.calls k 5 (⟨#[49]⟩ : ByteArray) (⟨#[104, 116, 116, 112, 58, 47, 47, 120]⟩ : ByteArray) t161 t162 _ A2.out).mono ?_); rintro e w12 ⟨rfl, hb⟩; refine ⟨_, rfl, ?_⟩; have n0_ := Aside0.mk (below_step (by repeat (first | (with_reducible first | exact HB.out | apply below_alloc | apply pw_below_drewN | apply below_drew1) | exact HB.out)) hb); clear HB; have HB := n0_; clear n0_; (try clear hb); (try clear hb2); (try clear hk); (try clear hi)))
    go_ret
    exact ⟨by first | rfl | (simp [errW_none, errW_some] <;> rfl) | (simp [*, errW_none, errW_some] <;> rfl), by repeat (first | (with_reducible first | exact HB.out | apply below_alloc | apply pw_below_drewN | apply below_drew1) | exact HB.out)⟩
def tms (x : S29) : List S26 := [x.f0, x.f1, x.f2]
def muchGo : List S26 → Int → Option Int
  | [], n => some n
  | t :: ts, n => if n + mn t.f1.size 30001 + mn t.f2.size 30001 > 30000 then none else muchGo ts (n + mn t.f1.size 30001 + mn t.f2.size 30001)
def muchB (l : List S29) (most : Int) : Bool := (muchGo ((l.take (most + 1).toNat).flatMap tms) 0).isNone || decide ((l.length : Int) > most)
theorem getD_lt {α : Type} {xs : List α} {j : Nat} (z : α) (w : Nat) (h : j < xs.length) : xs.getD j z = xs[j] := by simp [List.getD_eq_getElem?_getD, List.getElem?_eq_getElem h]
theorem wrap64_small {n : Int} (h0 : 0 ≤ n) (h1 : n ≤ 9223372036854775807) : wrap64 n = n := by unfold wrap64; omega
theorem muchGo_step {t : S26} {ts : List S26} {n m1 m2 : Int} (h1 : mn t.f1.size 30001 = m1) (h2 : mn t.f2.size 30001 = m2) : muchGo (t :: ts) n = if n + m1 + m2 > 30000 then none else muchGo ts (n + m1 + m2) := by subst h1; subst h2; rfl
theorem mn_pos {a b : Int} (h : b < a) : mn a b = b := if_pos h
theorem mn_neg {a b : Int} (h : ¬ b < a) : mn a b = a := if_neg h
def rhizomeref02_Much.f (l0 : List S29) (a1 : Int) : Option Bool := some (muchB l0 a1)
set_option maxRecDepth 100000 in
set_option maxHeartbeats 2000000 in
theorem rhizomeref02_Much.calls (A0 : Option Addr) (c0 : Nat) (l0 : List S29) (a1 : Int) (r : Bool) (w : World) (hr0 : Kd.C k29 w A0 l0.length l0) (hc0 : l0.length ≤ c0) (h : rhizomeref02_Much.f l0 a1 = some r) :
    Calls Tryd.prog 22 #[.slice A0 l0.length c0, .int .i64 a1] w fun e w' => e = .returned (.bool r) ∧ Drawn0 w w' := by
  obtain rfl := Option.some.inj h
  clear h
  have hlen : l0.length ≤ 9223372036854775807 := hr0.2.1
  have HR0 := Aside0.mk hr0
  clear hr0 hc0
  have HH : Aside0 (muchGo ((l0.take (a1 + 1).toNat).flatMap tms) 0 = muchGo (((l0.take (a1 + 1).toNat).drop 0).flatMap tms) 0) := ⟨rfl⟩
  go_enter Tryd.func22, Tryd.ntmps22
  go_wp2
  go_loopg [5, 6] l0.length (fun g s5 s6 wr => ∃ (i n : Int), s5 = .int .i64 n ∧ s6 = .int .i64 i ∧ 0 ≤ i ∧ i ≤ l0.length ∧ g = l0.length - i.toNat ∧ Aside0 (0 ≤ n ∧ n ≤ 30000) ∧ Aside0 (muchGo ((l0.take (a1 + 1).toNat).flatMap tms) 0 = muchGo (((l0.take (a1 + 1).toNat).drop i.toNat).flatMap tms) n) ∧ Aside0 (Drawn0 w wr))
  case atStart => exact ⟨0, 0, rfl, rfl, by omega, by omega, by omega, ⟨by omega⟩, HH, ⟨Drawn0.refl w⟩⟩
  case round =>
    clear HH
    obtain ⟨i, n, rfl, rfl, hi0, hi, rfl, hn, HG, HD⟩ := hrel
    by_cases c1 : i < (l0.length : Int)
    · have c1b : decide (i < (l0.length : Int)) = true := decide_eq_true c1
      by_cases c2 : i ≤ a1
      · have c2b : decide (i ≤ a1) = true := decide_eq_true c2
        have hlt : i.toNat < l0.length := by omega
        have hd : (l0.take (a1 + 1).toNat).drop i.toNat = rd_T29 l0 i :: (l0.take (a1 + 1).toNat).drop (i.toNat + 1) := by
          have h1 : i.toNat < (l0.take (a1 + 1).toNat).length := by simp; omega
          rw [List.drop_eq_getElem_cons h1, show rd_T29 l0 i = l0[i.toNat] from getD_lt _ 0 hlt]
          simp
        rw [hd] at HG
        have HK := HG.out
        clear HG
        simp only [List.flatMap_cons] at HK
        have HI : Aside0 (muchGo ((l0.take (a1 + 1).toNat).flatMap tms) 0 = muchGo ((tms (rd_T29 l0 i)).drop 0 ++ ((l0.take (a1 + 1).toNat).drop (i.toNat + 1)).flatMap tms) n) := ⟨HK⟩
        clear HK hd
        go_wp2
        go_loopg [5, 7] 3 (fun g s5 s7 wr => ∃ (k n : Int), s5 = .int .i64 n ∧ s7 = .int .i64 k ∧ 0 ≤ k ∧ k ≤ 3 ∧ g = 3 - k.toNat ∧ Aside0 (0 ≤ n ∧ n ≤ 30000) ∧ Aside0 (muchGo ((l0.take (a1 + 1).toNat).flatMap tms) 0 = muchGo ((tms (rd_T29 l0 i)).drop k.toNat ++ ((l0.take (a1 + 1).toNat).drop (i.toNat + 1)).flatMap tms) n) ∧ Aside0 (Drawn0 w wr))
        case atStart => exact ⟨0, n, rfl, rfl, by omega, by omega, by omega, hn, HI, HD⟩
        case round =>
          clear HI HD hn
          obtain ⟨k, n, rfl, rfl, hk0, hk, rfl, hn, HI, HD⟩ := hrel
          by_cases c3 : k < 3
          · have c3b : decide (k < 3) = true := decide_eq_true c3
            have p8 : (0 ≤ i) = True := eq_true hi0
            have q8 : (i < (l0.length : Int)) = True := eq_true c1
            obtain ⟨ad, e, hx0, hx1, hx2, hx3, hx4, hx5, hx6, hx7, hx8⟩ := at_T29 HR0.out i hi0 c1
            cases e
            have HB := HD.out.below
            replace hx1 := (HB.cell (World.block_lt_of_cell? w _ hx1)).trans hx1
            replace hx2 := (HB.cell (World.block_lt_of_cell? w _ hx2)).trans hx2
            replace hx4 := (HB.cell (World.block_lt_of_cell? w _ hx4)).trans hx4
            replace hx5 := (HB.cell (World.block_lt_of_cell? w _ hx5)).trans hx5
            replace hx7 := (HB.cell (World.block_lt_of_cell? w _ hx7)).trans hx7
            replace hx8 := (HB.cell (World.block_lt_of_cell? w _ hx8)).trans hx8
            clear hx0 hx3 hx6
            have hk3 : k = 0 ∨ k = 1 ∨ k = 2 := by omega
            rcases hk3 with rfl | rfl | rfl
            · by_cases d1 : (30001 : Int) < ((rd_T29 l0 i).f0.f1.size : Int)
              · have hm1 := mn_pos d1
                have d1b := eq_true d1
                by_cases d2 : (30001 : Int) < ((rd_T29 l0 i).f0.f2.size : Int)
                · have hm2 := mn_pos d2
                  have d2b := eq_true d2
                  obtain ⟨hn0, hn1⟩ := hn.out
                  have hw1 : wrap64 (n + 30001) = n + 30001 := wrap64_small (by omega) (by omega)
                  have hw2 : wrap64 (n + 30001 + 30001) = n + 30001 + 30001 := wrap64_small (by omega) (by omega)
                  have HS : Aside0 (muchGo ((l0.take (a1 + 1).toNat).flatMap tms) 0 = if n + 30001 + 30001 > 30000 then none else muchGo ((tms (rd_T29 l0 i)).drop 1 ++ ((l0.take (a1 + 1).toNat).drop (i.toNat + 1)).flatMap tms) (n + 30001 + 30001)) := ⟨HI.out.trans (muchGo_step hm1 hm2)⟩
                  clear HI hm1 hm2
                  by_cases c4 : 30000 < n + 30001 + 30001
                  · have c4b : decide (30000 < n + 30001 + 30001) = true := decide_eq_true c4
                    have HF := HS.out
                    rw [if_pos c4] at HF
                    have HF2 : muchB l0 a1 = true := by unfold muchB; rw [HF]; rfl
                    clear HS HF c4
                    go_wp2
                    repeat (go_quiet (fail); try go_wp2)
                    go_ret
                    exact ⟨HF2 ▸ rfl, HD.out.step _⟩
                  · exfalso; omega
                · have hm2 := mn_neg d2
                  have d2b := eq_false d2
                  obtain ⟨hn0, hn1⟩ := hn.out
                  have hw1 : wrap64 (n + 30001) = n + 30001 := wrap64_small (by omega) (by omega)
                  have hw2 : wrap64 (n + 30001 + ((rd_T29 l0 i).f0.f2.size : Int)) = n + 30001 + ((rd_T29 l0 i).f0.f2.size : Int) := wrap64_small (by omega) (by omega)
                  have HS : Aside0 (muchGo ((l0.take (a1 + 1).toNat).flatMap tms) 0 = if n + 30001 + ((rd_T29 l0 i).f0.f2.size : Int) > 30000 then none else muchGo ((tms (rd_T29 l0 i)).drop 1 ++ ((l0.take (a1 + 1).toNat).drop (i.toNat + 1)).flatMap tms) (n + 30001 + ((rd_T29 l0 i).f0.f2.size : Int))) := ⟨HI.out.trans (muchGo_step hm1 hm2)⟩
                  clear HI hm1 hm2
                  by_cases c4 : 30000 < n + 30001 + ((rd_T29 l0 i).f0.f2.size : Int)
                  · have c4b : decide (30000 < n + 30001 + ((rd_T29 l0 i).f0.f2.size : Int)) = true := decide_eq_true c4
                    have HF := HS.out
                    rw [if_pos c4] at HF
                    have HF2 : muchB l0 a1 = true := by unfold muchB; rw [HF]; rfl
                    clear HS HF c4
                    go_wp2
                    repeat (go_quiet (fail); try go_wp2)
                    go_ret
                    exact ⟨HF2 ▸ rfl, HD.out.step _⟩
                  · exfalso; omega
              · have hm1 := mn_neg d1
                have d1b := eq_false d1
                by_cases d2 : (30001 : Int) < ((rd_T29 l0 i).f0.f2.size : Int)
                · have hm2 := mn_pos d2
                  have d2b := eq_true d2
                  obtain ⟨hn0, hn1⟩ := hn.out
                  have hw1 : wrap64 (n + ((rd_T29 l0 i).f0.f1.size : Int)) = n + ((rd_T29 l0 i).f0.f1.size : Int) := wrap64_small (by omega) (by omega)
                  have hw2 : wrap64 (n + ((rd_T29 l0 i).f0.f1.size : Int) + 30001) = n + ((rd_T29 l0 i).f0.f1.size : Int) + 30001 := wrap64_small (by omega) (by omega)
                  have HS : Aside0 (muchGo ((l0.take (a1 + 1).toNat).flatMap tms) 0 = if n + ((rd_T29 l0 i).f0.f1.size : Int) + 30001 > 30000 then none else muchGo ((tms (rd_T29 l0 i)).drop 1 ++ ((l0.take (a1 + 1).toNat).drop (i.toNat + 1)).flatMap tms) (n + ((rd_T29 l0 i).f0.f1.size : Int) + 30001)) := ⟨HI.out.trans (muchGo_step hm1 hm2)⟩
                  clear HI hm1 hm2
                  by_cases c4 : 30000 < n + ((rd_T29 l0 i).f0.f1.size : Int) + 30001
                  · have c4b : decide (30000 < n + ((rd_T29 l0 i).f0.f1.size : Int) + 30001) = true := decide_eq_true c4
                    have HF := HS.out
                    rw [if_pos c4] at HF
                    have HF2 : muchB l0 a1 = true := by unfold muchB; rw [HF]; rfl
                    clear HS HF c4
                    go_wp2
                    repeat (go_quiet (fail); try go_wp2)
                    go_ret
                    exact ⟨HF2 ▸ rfl, HD.out.step _⟩
                  · exfalso; omega
                · have hm2 := mn_neg d2
                  have d2b := eq_false d2
                  obtain ⟨hn0, hn1⟩ := hn.out
                  have hw1 : wrap64 (n + ((rd_T29 l0 i).f0.f1.size : Int)) = n + ((rd_T29 l0 i).f0.f1.size : Int) := wrap64_small (by omega) (by omega)
                  have hw2 : wrap64 (n + ((rd_T29 l0 i).f0.f1.size : Int) + ((rd_T29 l0 i).f0.f2.size : Int)) = n + ((rd_T29 l0 i).f0.f1.size : Int) + ((rd_T29 l0 i).f0.f2.size : Int) := wrap64_small (by omega) (by omega)
                  have HS : Aside0 (muchGo ((l0.take (a1 + 1).toNat).flatMap tms) 0 = if n + ((rd_T29 l0 i).f0.f1.size : Int) + ((rd_T29 l0 i).f0.f2.size : Int) > 30000 then none else muchGo ((tms (rd_T29 l0 i)).drop 1 ++ ((l0.take (a1 + 1).toNat).drop (i.toNat + 1)).flatMap tms) (n + ((rd_T29 l0 i).f0.f1.size : Int) + ((rd_T29 l0 i).f0.f2.size : Int))) := ⟨HI.out.trans (muchGo_step hm1 hm2)⟩
                  clear HI hm1 hm2
                  by_cases c4 : 30000 < n + ((rd_T29 l0 i).f0.f1.size : Int) + ((rd_T29 l0 i).f0.f2.size : Int)
                  · have c4b : decide (30000 < n + ((rd_T29 l0 i).f0.f1.size : Int) + ((rd_T29 l0 i).f0.f2.size : Int)) = true := decide_eq_true c4
                    have HF := HS.out
                    rw [if_pos c4] at HF
                    have HF2 : muchB l0 a1 = true := by unfold muchB; rw [HF]; rfl
                    clear HS HF c4
                    go_wp2
                    repeat (go_quiet (fail); try go_wp2)
                    go_ret
                    exact ⟨HF2 ▸ rfl, HD.out.step _⟩
                  · have c4b : decide (30000 < n + ((rd_T29 l0 i).f0.f1.size : Int) + ((rd_T29 l0 i).f0.f2.size : Int)) = false := decide_eq_false c4
                    have HF := Aside0.mk HS.out
                    rw [if_neg c4] at HF
                    clear HS
                    go_wp2
                    repeat (go_quiet (fail); try go_wp2)
                    go_roundg (3 - 1)
                    case measure => omega
                    case rel => exact ⟨1, _, rfl, rfl, by omega, by omega, rfl, ⟨by omega⟩, HF, ⟨HD.out.step _⟩⟩
            · by_cases d1 : (30001 : Int) < ((rd_T29 l0 i).f1.f1.size : Int)
              · have hm1 := mn_pos d1
                have d1b := eq_true d1
                by_cases d2 : (30001 : Int) < ((rd_T29 l0 i).f1.f2.size : Int)
                · have hm2 := mn_pos d2
                  have d2b := eq_true d2
                  obtain ⟨hn0, hn1⟩ := hn.out
                  have hw1 : wrap64 (n + 30001) = n + 30001 := wrap64_small (by omega) (by omega)
                  have hw2 : wrap64 (n + 30001 + 30001) = n + 30001 + 30001 := wrap64_small (by omega) (by omega)
                  have HS : Aside0 (muchGo ((l0.take (a1 + 1).toNat).flatMap tms) 0 = if n + 30001 + 30001 > 30000 then none else muchGo ((tms (rd_T29 l0 i)).drop 2 ++ ((l0.take (a1 + 1).toNat).drop (i.toNat + 1)).flatMap tms) (n + 30001 + 30001)) := ⟨HI.out.trans (muchGo_step hm1 hm2)⟩
                  clear HI hm1 hm2
                  by_cases c4 : 30000 < n + 30001 + 30001
                  · have c4b : decide (30000 < n + 30001 + 30001) = true := decide_eq_true c4
                    have HF := HS.out
                    rw [if_pos c4] at HF
                    have HF2 : muchB l0 a1 = true := by unfold muchB; rw [HF]; rfl
                    clear HS HF c4
                    go_wp2
                    repeat (go_quiet (fail); try go_wp2)
                    go_ret
                    exact ⟨HF2 ▸ rfl, HD.out.step _⟩
                  · exfalso; omega
                · have hm2 := mn_neg d2
                  have d2b := eq_false d2
                  obtain ⟨hn0, hn1⟩ := hn.out
                  have hw1 : wrap64 (n + 30001) = n + 30001 := wrap64_small (by omega) (by omega)
                  have hw2 : wrap64 (n + 30001 + ((rd_T29 l0 i).f1.f2.size : Int)) = n + 30001 + ((rd_T29 l0 i).f1.f2.size : Int) := wrap64_small (by omega) (by omega)
                  have HS : Aside0 (muchGo ((l0.take (a1 + 1).toNat).flatMap tms) 0 = if n + 30001 + ((rd_T29 l0 i).f1.f2.size : Int) > 30000 then none else muchGo ((tms (rd_T29 l0 i)).drop 2 ++ ((l0.take (a1 + 1).toNat).drop (i.toNat + 1)).flatMap tms) (n + 30001 + ((rd_T29 l0 i).f1.f2.size : Int))) := ⟨HI.out.trans (muchGo_step hm1 hm2)⟩
                  clear HI hm1 hm2
                  by_cases c4 : 30000 < n + 30001 + ((rd_T29 l0 i).f1.f2.size : Int)
                  · have c4b : decide (30000 < n + 30001 + ((rd_T29 l0 i).f1.f2.size : Int)) = true := decide_eq_true c4
                    have HF := HS.out
                    rw [if_pos c4] at HF
                    have HF2 : muchB l0 a1 = true := by unfold muchB; rw [HF]; rfl
                    clear HS HF c4
                    go_wp2
                    repeat (go_quiet (fail); try go_wp2)
                    go_ret
                    exact ⟨HF2 ▸ rfl, HD.out.step _⟩
                  · exfalso; omega
              · have hm1 := mn_neg d1
                have d1b := eq_false d1
                by_cases d2 : (30001 : Int) < ((rd_T29 l0 i).f1.f2.size : Int)
                · have hm2 := mn_pos d2
                  have d2b := eq_true d2
                  obtain ⟨hn0, hn1⟩ := hn.out
                  have hw1 : wrap64 (n + ((rd_T29 l0 i).f1.f1.size : Int)) = n + ((rd_T29 l0 i).f1.f1.size : Int) := wrap64_small (by omega) (by omega)
                  have hw2 : wrap64 (n + ((rd_T29 l0 i).f1.f1.size : Int) + 30001) = n + ((rd_T29 l0 i).f1.f1.size : Int) + 30001 := wrap64_small (by omega) (by omega)
                  have HS : Aside0 (muchGo ((l0.take (a1 + 1).toNat).flatMap tms) 0 = if n + ((rd_T29 l0 i).f1.f1.size : Int) + 30001 > 30000 then none else muchGo ((tms (rd_T29 l0 i)).drop 2 ++ ((l0.take (a1 + 1).toNat).drop (i.toNat + 1)).flatMap tms) (n + ((rd_T29 l0 i).f1.f1.size : Int) + 30001)) := ⟨HI.out.trans (muchGo_step hm1 hm2)⟩
                  clear HI hm1 hm2
                  by_cases c4 : 30000 < n + ((rd_T29 l0 i).f1.f1.size : Int) + 30001
                  · have c4b : decide (30000 < n + ((rd_T29 l0 i).f1.f1.size : Int) + 30001) = true := decide_eq_true c4
                    have HF := HS.out
                    rw [if_pos c4] at HF
                    have HF2 : muchB l0 a1 = true := by unfold muchB; rw [HF]; rfl
                    clear HS HF c4
                    go_wp2
                    repeat (go_quiet (fail); try go_wp2)
                    go_ret
                    exact ⟨HF2 ▸ rfl, HD.out.step _⟩
                  · exfalso; omega
                · have hm2 := mn_neg d2
                  have d2b := eq_false d2
                  obtain ⟨hn0, hn1⟩ := hn.out
                  have hw1 : wrap64 (n + ((rd_T29 l0 i).f1.f1.size : Int)) = n + ((rd_T29 l0 i).f1.f1.size : Int) := wrap64_small (by omega) (by omega)
                  have hw2 : wrap64 (n + ((rd_T29 l0 i).f1.f1.size : Int) + ((rd_T29 l0 i).f1.f2.size : Int)) = n + ((rd_T29 l0 i).f1.f1.size : Int) + ((rd_T29 l0 i).f1.f2.size : Int) := wrap64_small (by omega) (by omega)
                  have HS : Aside0 (muchGo ((l0.take (a1 + 1).toNat).flatMap tms) 0 = if n + ((rd_T29 l0 i).f1.f1.size : Int) + ((rd_T29 l0 i).f1.f2.size : Int) > 30000 then none else muchGo ((tms (rd_T29 l0 i)).drop 2 ++ ((l0.take (a1 + 1).toNat).drop (i.toNat + 1)).flatMap tms) (n + ((rd_T29 l0 i).f1.f1.size : Int) + ((rd_T29 l0 i).f1.f2.size : Int))) := ⟨HI.out.trans (muchGo_step hm1 hm2)⟩
                  clear HI hm1 hm2
                  by_cases c4 : 30000 < n + ((rd_T29 l0 i).f1.f1.size : Int) + ((rd_T29 l0 i).f1.f2.size : Int)
                  · have c4b : decide (30000 < n + ((rd_T29 l0 i).f1.f1.size : Int) + ((rd_T29 l0 i).f1.f2.size : Int)) = true := decide_eq_true c4
                    have HF := HS.out
                    rw [if_pos c4] at HF
                    have HF2 : muchB l0 a1 = true := by unfold muchB; rw [HF]; rfl
                    clear HS HF c4
                    go_wp2
                    repeat (go_quiet (fail); try go_wp2)
                    go_ret
                    exact ⟨HF2 ▸ rfl, HD.out.step _⟩
                  · have c4b : decide (30000 < n + ((rd_T29 l0 i).f1.f1.size : Int) + ((rd_T29 l0 i).f1.f2.size : Int)) = false := decide_eq_false c4
                    have HF := Aside0.mk HS.out
                    rw [if_neg c4] at HF
                    clear HS
                    go_wp2
                    repeat (go_quiet (fail); try go_wp2)
                    go_roundg (3 - 2)
                    case measure => omega
                    case rel => exact ⟨2, _, rfl, rfl, by omega, by omega, rfl, ⟨by omega⟩, HF, ⟨HD.out.step _⟩⟩
            · by_cases d1 : (30001 : Int) < ((rd_T29 l0 i).f2.f1.size : Int)
              · have hm1 := mn_pos d1
                have d1b := eq_true d1
                by_cases d2 : (30001 : Int) < ((rd_T29 l0 i).f2.f2.size : Int)
                · have hm2 := mn_pos d2
                  have d2b := eq_true d2
                  obtain ⟨hn0, hn1⟩ := hn.out
                  have hw1 : wrap64 (n + 30001) = n + 30001 := wrap64_small (by omega) (by omega)
                  have hw2 : wrap64 (n + 30001 + 30001) = n + 30001 + 30001 := wrap64_small (by omega) (by omega)
                  have HS : Aside0 (muchGo ((l0.take (a1 + 1).toNat).flatMap tms) 0 = if n + 30001 + 30001 > 30000 then none else muchGo ((tms (rd_T29 l0 i)).drop 3 ++ ((l0.take (a1 + 1).toNat).drop (i.toNat + 1)).flatMap tms) (n + 30001 + 30001)) := ⟨HI.out.trans (muchGo_step hm1 hm2)⟩
                  clear HI hm1 hm2
                  by_cases c4 : 30000 < n + 30001 + 30001
                  · have c4b : decide (30000 < n + 30001 + 30001) = true := decide_eq_true c4
                    have HF := HS.out
                    rw [if_pos c4] at HF
                    have HF2 : muchB l0 a1 = true := by unfold muchB; rw [HF]; rfl
                    clear HS HF c4
                    go_wp2
                    repeat (go_quiet (fail); try go_wp2)
                    go_ret
                    exact ⟨HF2 ▸ rfl, HD.out.step _⟩
                  · exfalso; omega
                · have hm2 := mn_neg d2
                  have d2b := eq_false d2
                  obtain ⟨hn0, hn1⟩ := hn.out
                  have hw1 : wrap64 (n + 30001) = n + 30001 := wrap64_small (by omega) (by omega)
                  have hw2 : wrap64 (n + 30001 + ((rd_T29 l0 i).f2.f2.size : Int)) = n + 30001 + ((rd_T29 l0 i).f2.f2.size : Int) := wrap64_small (by omega) (by omega)
                  have HS : Aside0 (muchGo ((l0.take (a1 + 1).toNat).flatMap tms) 0 = if n + 30001 + ((rd_T29 l0 i).f2.f2.size : Int) > 30000 then none else muchGo ((tms (rd_T29 l0 i)).drop 3 ++ ((l0.take (a1 + 1).toNat).drop (i.toNat + 1)).flatMap tms) (n + 30001 + ((rd_T29 l0 i).f2.f2.size : Int))) := ⟨HI.out.trans (muchGo_step hm1 hm2)⟩
                  clear HI hm1 hm2
                  by_cases c4 : 30000 < n + 30001 + ((rd_T29 l0 i).f2.f2.size : Int)
                  · have c4b : decide (30000 < n + 30001 + ((rd_T29 l0 i).f2.f2.size : Int)) = true := decide_eq_true c4
                    have HF := HS.out
                    rw [if_pos c4] at HF
                    have HF2 : muchB l0 a1 = true := by unfold muchB; rw [HF]; rfl
                    clear HS HF c4
                    go_wp2
                    repeat (go_quiet (fail); try go_wp2)
                    go_ret
                    exact ⟨HF2 ▸ rfl, HD.out.step _⟩
                  · exfalso; omega
              · have hm1 := mn_neg d1
                have d1b := eq_false d1
                by_cases d2 : (30001 : Int) < ((rd_T29 l0 i).f2.f2.size : Int)
                · have hm2 := mn_pos d2
                  have d2b := eq_true d2
                  obtain ⟨hn0, hn1⟩ := hn.out
                  have hw1 : wrap64 (n + ((rd_T29 l0 i).f2.f1.size : Int)) = n + ((rd_T29 l0 i).f2.f1.size : Int) := wrap64_small (by omega) (by omega)
                  have hw2 : wrap64 (n + ((rd_T29 l0 i).f2.f1.size : Int) + 30001) = n + ((rd_T29 l0 i).f2.f1.size : Int) + 30001 := wrap64_small (by omega) (by omega)
                  have HS : Aside0 (muchGo ((l0.take (a1 + 1).toNat).flatMap tms) 0 = if n + ((rd_T29 l0 i).f2.f1.size : Int) + 30001 > 30000 then none else muchGo ((tms (rd_T29 l0 i)).drop 3 ++ ((l0.take (a1 + 1).toNat).drop (i.toNat + 1)).flatMap tms) (n + ((rd_T29 l0 i).f2.f1.size : Int) + 30001)) := ⟨HI.out.trans (muchGo_step hm1 hm2)⟩
                  clear HI hm1 hm2
                  by_cases c4 : 30000 < n + ((rd_T29 l0 i).f2.f1.size : Int) + 30001
                  · have c4b : decide (30000 < n + ((rd_T29 l0 i).f2.f1.size : Int) + 30001) = true := decide_eq_true c4
                    have HF := HS.out
                    rw [if_pos c4] at HF
                    have HF2 : muchB l0 a1 = true := by unfold muchB; rw [HF]; rfl
                    clear HS HF c4
                    go_wp2
                    repeat (go_quiet (fail); try go_wp2)
                    go_ret
                    exact ⟨HF2 ▸ rfl, HD.out.step _⟩
                  · exfalso; omega
                · have hm2 := mn_neg d2
                  have d2b := eq_false d2
                  obtain ⟨hn0, hn1⟩ := hn.out
                  have hw1 : wrap64 (n + ((rd_T29 l0 i).f2.f1.size : Int)) = n + ((rd_T29 l0 i).f2.f1.size : Int) := wrap64_small (by omega) (by omega)
                  have hw2 : wrap64 (n + ((rd_T29 l0 i).f2.f1.size : Int) + ((rd_T29 l0 i).f2.f2.size : Int)) = n + ((rd_T29 l0 i).f2.f1.size : Int) + ((rd_T29 l0 i).f2.f2.size : Int) := wrap64_small (by omega) (by omega)
                  have HS : Aside0 (muchGo ((l0.take (a1 + 1).toNat).flatMap tms) 0 = if n + ((rd_T29 l0 i).f2.f1.size : Int) + ((rd_T29 l0 i).f2.f2.size : Int) > 30000 then none else muchGo ((tms (rd_T29 l0 i)).drop 3 ++ ((l0.take (a1 + 1).toNat).drop (i.toNat + 1)).flatMap tms) (n + ((rd_T29 l0 i).f2.f1.size : Int) + ((rd_T29 l0 i).f2.f2.size : Int))) := ⟨HI.out.trans (muchGo_step hm1 hm2)⟩
                  clear HI hm1 hm2
                  by_cases c4 : 30000 < n + ((rd_T29 l0 i).f2.f1.size : Int) + ((rd_T29 l0 i).f2.f2.size : Int)
                  · have c4b : decide (30000 < n + ((rd_T29 l0 i).f2.f1.size : Int) + ((rd_T29 l0 i).f2.f2.size : Int)) = true := decide_eq_true c4
                    have HF := HS.out
                    rw [if_pos c4] at HF
                    have HF2 : muchB l0 a1 = true := by unfold muchB; rw [HF]; rfl
                    clear HS HF c4
                    go_wp2
                    repeat (go_quiet (fail); try go_wp2)
                    go_ret
                    exact ⟨HF2 ▸ rfl, HD.out.step _⟩
                  · have c4b : decide (30000 < n + ((rd_T29 l0 i).f2.f1.size : Int) + ((rd_T29 l0 i).f2.f2.size : Int)) = false := decide_eq_false c4
                    have HF := Aside0.mk HS.out
                    rw [if_neg c4] at HF
                    clear HS
                    go_wp2
                    repeat (go_quiet (fail); try go_wp2)
                    go_roundg (3 - 3)
                    case measure => omega
                    case rel => exact ⟨3, _, rfl, rfl, by omega, by omega, rfl, ⟨by omega⟩, HF, ⟨HD.out.step _⟩⟩
          · have c3b : decide (k < 3) = false := decide_eq_false c3
            obtain rfl : k = 3 := by omega
            have HG : Aside0 (muchGo ((l0.take (a1 + 1).toNat).flatMap tms) 0 = muchGo (((l0.take (a1 + 1).toNat).drop (i.toNat + 1)).flatMap tms) n) := ⟨HI.out⟩
            clear HI
            have hw1 : wrap64 (i + 1) = i + 1 := wrap64_small (by omega) (by omega)
            go_wp2
            go_roundg (l0.length - (i.toNat + 1))
            case measure => omega
            case rel => exact ⟨i + 1, n, rfl, rfl, by omega, by omega, by omega, hn, by rw [show (i + 1).toNat = i.toNat + 1 by omega]; exact HG, HD⟩
      · have c2b : decide (i ≤ a1) = false := decide_eq_false c2
        have HF : muchB l0 a1 = decide ((l0.length : Int) > a1) := by
          unfold muchB
          rw [HG.out, List.drop_eq_nil_of_le (by simp; omega)]
          rfl
        clear HG
        go_wp2
        go_ret
        exact ⟨rfl, HD.out⟩
    · have c1b : decide (i < (l0.length : Int)) = false := decide_eq_false c1
      have HF : muchB l0 a1 = decide ((l0.length : Int) > a1) := by
        unfold muchB
        rw [HG.out, List.drop_eq_nil_of_le (by simp; omega)]
        rfl
      clear HG
      go_wp2
      go_ret
      exact ⟨by first | rfl | exact HF ▸ rfl, HD.out⟩
end Go.Proofs.YtegmcmndjnbkaaaDoor.PSort

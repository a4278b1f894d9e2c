import Derived.Test.YtjnhdamilbcmpaaDoorCuPTmx0
namespace Go.Proofs.YtjnhdamilbcmpaaDoor.PTm
open Go.RowKit Go.Proofs.YtjnhdamilbcmpaaDoorW.PrintWords Go.Proofs.YtjnhdamilbcmpaaDoorW.PrintLast Go.Proofs.YtjnhdamilbcmpaaDoorW.PrintMore
attribute [local go_sem] max2_int min2_int max_two min_two max_three min_three max_four min_four
set_option linter.unusedVariables false
set_option linter.unusedSimpArgs false
set_option maxHeartbeats 8000000
set_option maxRecDepth 100000
mutual
def g2_written.l0 : Nat → ByteArray → ByteArray → List Int → Int → Option (ByteArray)
 | 0, _, _, _, _ => none
 | k + 1, x0, x3, x4, x5 => if x5 < (x0.size : Int) then (if 0 ≤ x5 then (if (bt x0 x5) = 34 then (g2_written.j1 k x0 x3 x4 x5 (bt x0 x5) true) else (g2_written.j1 k x0 x3 x4 x5 (bt x0 x5) ((bt x0 x5) == 92))) else (none)) else (if x4.length < 140737488355328 then (some (strOfNums (x4 ++ [34]))) else (none))
def g2_written.j1 : Nat → ByteArray → ByteArray → List Int → Int → Int → Bool → Option (ByteArray)
 | 0, _, _, _, _, _, _ => none
 | k + 1, x0, x3, x4, x5, x6, x21 => if x21 = true then ((some (([92, x6] : List Int) : List Int)).bind fun y392 => (if x4.length + y392.length < 140737488355328 then (g2_written.l0 k x0 x3 (x4 ++ y392) (wrap64 (x5 + 1))) else (none))) else (if x6 = 8 then ((some (([92, 98] : List Int) : List Int)).bind fun y398 => (if x4.length + y398.length < 140737488355328 then (g2_written.l0 k x0 x3 (x4 ++ y398) (wrap64 (x5 + 1))) else (none))) else (if x6 = 9 then ((some (([92, 116] : List Int) : List Int)).bind fun y404 => (if x4.length + y404.length < 140737488355328 then (g2_written.l0 k x0 x3 (x4 ++ y404) (wrap64 (x5 + 1))) else (none))) else (if x6 = 10 then ((some (([92, 110] : List Int) : List Int)).bind fun y410 => (if x4.length + y410.length < 140737488355328 then (g2_written.l0 k x0 x3 (x4 ++ y410) (wrap64 (x5 + 1))) else (none))) else (if x6 = 12 then ((some (([92, 102] : List Int) : List Int)).bind fun y416 => (if x4.length + y416.length < 140737488355328 then (g2_written.l0 k x0 x3 (x4 ++ y416) (wrap64 (x5 + 1))) else (none))) else (if x6 = 13 then ((some (([92, 114] : List Int) : List Int)).bind fun y422 => (if x4.length + y422.length < 140737488355328 then (g2_written.l0 k x0 x3 (x4 ++ y422) (wrap64 (x5 + 1))) else (none))) else (if x6 < 32 then (if 0 ≤ ((Int.tdiv x6 16) % 256) then (if ((Int.tdiv x6 16) % 256) < (x3.size : Int) then (if 0 ≤ (Int.tmod x6 16) then (if (Int.tmod x6 16) < (x3.size : Int) then ((some (([92, 117, 48, 48, bt x3 ((Int.tdiv x6 16) % 256), bt x3 (Int.tmod x6 16)] : List Int) : List Int)).bind fun y428 => (if x4.length + y428.length < 140737488355328 then (g2_written.l0 k x0 x3 (x4 ++ y428) (wrap64 (x5 + 1))) else (none))) else (none)) else (none)) else (none)) else (none)) else (if x6 = 127 then (if 0 ≤ ((Int.tdiv x6 16) % 256) then (if ((Int.tdiv x6 16) % 256) < (x3.size : Int) then (if 0 ≤ (Int.tmod x6 16) then (if (Int.tmod x6 16) < (x3.size : Int) then ((some (([92, 117, 48, 48, bt x3 ((Int.tdiv x6 16) % 256), bt x3 (Int.tmod x6 16)] : List Int) : List Int)).bind fun y434 => (if x4.length + y434.length < 140737488355328 then (g2_written.l0 k x0 x3 (x4 ++ y434) (wrap64 (x5 + 1))) else (none))) else (none)) else (none)) else (none)) else (none)) else (if x4.length < 140737488355328 then (g2_written.l0 k x0 x3 (x4 ++ [x6]) (wrap64 (x5 + 1))) else (none)))))))))
end
def g2_written.f (k : Nat) (a0 : ByteArray) : Option (ByteArray) := g2_written.l0 k a0 (⟨#[48, 49, 50, 51, 52, 53, 54, 55, 56, 57, 65, 66, 67, 68, 69, 70]⟩ : ByteArray) (([34] : List Int)) 0
def g2_written.T21 : Bool × List (List Nat × List Nat) := (true, [([], []), ([], []), ([], []), ([2], [2]), ([1, 3], [1, 3]), ([], []), ([], []), ([6], [6]), ([5, 7], [5, 7]), ([4, 8], [4, 8]), ([0, 9], [0, 9]), ([10, 10, 0, 1, 2, 3, 4, 5, 6, 7, 8, 9, 10], [0, 10])])
def g2_written.B21 : List Nat := [0, 0, 0, 4, 14, 0, 0, 64, 224, 510, 1023, 2047]
theorem g2_written.tab21 : rtab .any (opsOf Tryd.f29 21) = g2_written.T21 := by kernel_rfl
theorem g2_written.bits21 : waitsOk g2_written.T21.2 g2_written.B21 = true := by kernel_rfl
theorem g2_written.calls (k : Nat) (a0 : ByteArray) (r : ByteArray) (w : World) (h : g2_written.f k a0 = some r) :
  Calls Tryd.prog 29 #[.string a0] w fun e w' => e = .returned (.string r) ∧ Below w.heap.size w w' := by
 have HB := Ad.mk (Below.refl w.heap.size w)
 have H := h
 clear h
 unfold g2_written.f at H
 generalize hy386 : (([34] : List Int)) = y386 at H
 replace hy386 := hy386.symm
 have Ny386 := Ad.mk hy386
 clear hy386
 have H' := Ad.mk H
 clear H
 go_enter Tryd.func29, Tryd.ntmps29
 go_wp2_with (first | ((with_reducible refine gate_dst (N := 7) rfl ?_); refine Kd.R_lit (Kd.int .u8) _ 5 r1_ (N := 7) r1_ (xs := ([34] : List Int)) (inner := [.int .u8 34]) (ok := fun _ => True) (okp := fun _ => True) r2_ ?hp (fun _ hk => hk) trivial (Below.refl _ _) (Nat.le_refl _) (by simp) ?_; (case hp => exact (Reps.one (show Kd.M (Kd.int .u8) _ _ _ 34 [.int .u8 34] from rfl) (Reps.none _ _))); intro v387 w2 ho3 hb hg_ hnew_; clear hg_ hnew_; (first | rw [← Ny386.out] at ho3 | (simp only [Int.reduceToNat] at ho3; rw [← Ny386.out] at ho3)); have HO388 := Ad.mk (Kd.R_lower ho3 (below_size b1_)); replace HB := Ad.mk (below_step b1_ hb); clear hb ho3))
 go_loopg [4, 5] k (fun kq v4 v5 w' => ∃ (x4_1 : List Int) (x5_1 : Int), v5 = .int .i64 x5_1 ∧ Ad (g2_written.l0 kq a0 (⟨#[48, 49, 50, 51, 52, 53, 54, 55, 56, 57, 65, 66, 67, 68, 69, 70]⟩ : ByteArray) x4_1 x5_1 = some r) ∧ Ad (kq ≤ k) ∧ Ad (Kd.R (Kd.int .u8) 5 w' w.heap.size (fun _ => True) v4 x4_1) ∧ Ad (Below w.heap.size w w'))
 case atStart => exact ⟨(y386), (0), e1_, H', ⟨Nat.le_refl _⟩, ⟨by have G0 := HO388; exact z1_⟩, ⟨b1_⟩⟩
 case round =>
  clear H'
  try clear c2
  try clear p2
  obtain ⟨x4_1, x5_1, rfl, HA, HK1, HO_4, HB⟩ := hrel
  cases gk with
  | zero => exact absurd HA.out (by simp [g2_written.l0])
  | succ k1 =>
   have H := HA.out
   clear HA
   simp only [g2_written.l0] at H
   by_cases c4 : x5_1 < (a0.size : Int)
   ·rw [if_pos c4] at H
    have c4b0 := decide_eq_true c4
    clear c4
    by_cases c5 : 0 ≤ x5_1
    ·rw [if_pos c5] at H
     have c5b0 := decide_eq_true c5
     clear c5
     have HC7 := Ad.mk H
     clear H
     have p6 : 0 ≤ (x5_1 : Int) := of_decide_eq_true a1_
     have q6 : x5_1 < (a0.size : Int) := of_decide_eq_true a1_
     have hx6 := bt_at a0 x5_1
     replace p6 := eq_true p6
     replace q6 := eq_true q6
     go_upto_region 8 with (fail)
     go_cut [21] (fun v21 wc => ∃ (kq : Nat) (x21_6 : Bool), v21 = .bool x21_6 ∧ Ad (g2_written.j1 kq a0 (⟨#[48, 49, 50, 51, 52, 53, 54, 55, 56, 57, 65, 66, 67, 68, 69, 70]⟩ : ByteArray) x4_1 x5_1 (bt a0 x5_1) x21_6 = some r) ∧ Ad (kq ≤ k1) ∧ Ad (Kd.R (Kd.int .u8) 5 wc w.heap.size (fun _ => True) u4 x4_1) ∧ Ad (Below w.heap.size w wc))
     case first =>
      have H := HC7.out
      clear HC7
      by_cases c8 : (bt a0 x5_1) = 34
      ·rw [if_pos c8] at H
       have c8b0 := beq_iff_eq.mpr c8
       have c8b1 := bne_eq_false_iff_eq.mpr c8
       clear c8
       (first | rw [c8b0] | (simp only [i64_w, i32_w]; rw [c8b0]) | skip)
       have H' := Ad.mk H
       clear H
       go_wp2
       go_meet
       case rel => exact ⟨_, (true), e1_, H', ⟨o1_⟩, ⟨by have G0 := HO_4; exact z1_⟩, ⟨b1_⟩⟩
      rw [if_neg c8] at H
      have c8b0 := beq_eq_false_iff_ne.mpr c8
      have c8b1 := bne_iff_ne.mpr c8
      (first | rw [c8b0] | (simp only [i64_w, i32_w]; rw [c8b0]) | skip)
      have H' := Ad.mk H
      clear H
      go_wp2
      go_meet
      case rel => exact ⟨_, (((bt a0 x5_1) == 92)), e1_, H', ⟨o1_⟩, ⟨by have G0 := HO_4; exact z1_⟩, ⟨b1_⟩⟩
     case rest =>
      clear HC7
      try clear c2
      try clear p2
      try clear c4
      try clear c4b0
      try clear c5
      try clear c5b0
      try clear p6
      try clear q6
      try clear hx6
      try clear p2
      try clear p6
      try clear q6
      obtain ⟨kq, x21_6, rfl, HA, HJ6, HO_4, HB⟩ := hcut
      cases kq with
      | zero => exact absurd HA.out (by simp [g2_written.j1])
      | succ kj6 =>
       have H := HA.out
       clear HA
       simp only [g2_written.j1] at H
       by_cases c9 : x21_6 = true
       ·subst c9
        rw [if_pos rfl] at H
        replace H := yb_ H
        obtain ⟨y392, hy392, H⟩ := H
        have Ny392 := Ad.mk hy392
        clear hy392
        by_cases c10 : x4_1.length + y392.length < 140737488355328
        ·rw [if_pos c10] at H
         have LMc10 := Ad.mk c10
         clear c10
         generalize hy395 : (x4_1 ++ y392) = y395 at H
         replace hy395 := hy395.symm
         have Ny395 := Ad.mk hy395
         clear hy395
         have H' := Ad.mk H
         clear H
         go_wp2_with (first | ((with_reducible refine gate_dst (N := 30) rfl ?_); refine Kd.R_lit (Kd.int .u8) _ 5 r1_ (N := 30) r1_ (xs := ([92, (bt a0 x5_1)] : List Int)) (inner := [.int .u8 92, .int .u8 (bt a0 x5_1)]) (ok := fun _ => True) (okp := fun _ => True) r2_ ?hp (fun _ hk => hk) trivial (Below.refl _ _) (Nat.le_refl _) (by simp) ?_; (case hp => exact (Reps.one (show Kd.M (Kd.int .u8) _ _ _ 92 [.int .u8 92] from rfl) (Reps.one (show Kd.M (Kd.int .u8) _ _ _ (bt a0 x5_1) [.int .u8 (bt a0 x5_1)] from rfl) (Reps.none _ _)))); intro v393 w11 ho12 hb hg_ hnew_; clear hg_ hnew_; (first | rw [← Ny392.out] at ho12 | (simp only [Int.reduceToNat] at ho12; rw [← Ny392.out] at ho12)); have HO394 := Ad.mk (Kd.R_lower (Kd.R_new' ho12 (Kd.R_lt (by have G0 := HO_4; exact z1_))) (below_size b1_)); replace HO_4 := Ad.mk (Kd.R_elder' (by have G0 := HO_4; exact z1_) (Kd.R_base ho12) hb); replace HB := Ad.mk (below_step b1_ hb); clear hb ho12; obtain ⟨Ao14, co14, eo14⟩ := Kd.R_slice HO394.out; subst eo14) | ((with_reducible refine gate_builtin (b := .append) (xs := #[(.tmp 28), .tmp 30]) rfl ?_); at_builtin; refine Kd.R_append_rows (Kd.int .u8) (w0 := w) w.heap.size rfl (.tmp 28) (.tmp 30) 40 5 (.int .u8 0) 1 rfl Tryd.underlying40 info5 rfl (by decide) (by omega) u4 x4_1 y392 _ _ _ (fun k_ => some k_ ≠ (.slice Ao14 y392.length co14 : Value).ownBlock) (fun _ => False) rfl rfl ?aO ?aR (fun _ _ h => h) (fun _ h => h.elim) ?aF ?aB ?aS ?aL ?_; (case aR => repeat (first | exact (Kd.R_reads' HO394.out).2.2 | (with_reducible refine Kd.C_alloc ?_ _) | (with_reducible refine Kd.C_drewN ?_ _) | (with_reducible refine Kd.C_drew ?_))); (case aB => exact b1_); (case aF => exact (fun k_ hk => Kd.fresh' (Kd.R_lt (by have G0 := HO394; exact z1_)) k_ hk)); (case aO => exact (by have G0 := HO_4; exact z23_)); (case aS => exact (below_size b1_)); (case aL => have := LMc10.out; omega); intro v396 w13 ho hb hg hat; rw [← Ny395.out] at ho; have n0_ := Ad.mk (Kd.R_after (ok := (fun _ => True)) (by have G0 := HO394; exact z1_) hg hat); have n1_ := Ad.mk (hb); have n2_ := Ad.mk (ho); clear HO394; clear HB; clear HO_4; have HO394 := n0_; have HB := n1_; have HO397 := n2_; clear n0_ n1_ n2_; clear ho hb hg hat))
         go_roundg kj6
         case measure => have := HK1.out; have := HJ6.out; omega
         case rel => exact ⟨(y395), (wrap64 (x5_1 + 1)), e1_, H', ⟨z29_⟩, ⟨by have G0 := HO397; exact z24_⟩, ⟨b1_⟩⟩
        rw [if_neg c10] at H
        exact absurd H (by simp)
       replace c9 := Bool.eq_false_iff.mpr c9
       subst c9
       rw [if_neg (show ¬ (false = true) by decide)] at H
       by_cases c15 : (bt a0 x5_1) = 8
       ·rw [if_pos c15] at H
        have c15b0 := beq_iff_eq.mpr c15
        have c15b1 := bne_eq_false_iff_eq.mpr c15
        clear c15
        replace H := yb_ H
        obtain ⟨y398, hy398, H⟩ := H
        have Ny398 := Ad.mk hy398
        clear hy398
        by_cases c16 : x4_1.length + y398.length < 140737488355328
        ·rw [if_pos c16] at H
         have LMc16 := Ad.mk c16
         clear c16
         generalize hy401 : (x4_1 ++ y398) = y401 at H
         replace hy401 := hy401.symm
         have Ny401 := Ad.mk hy401
         clear hy401
         have H' := Ad.mk H
         clear H
         go_wp2_with (first | ((with_reducible refine gate_dst (N := 36) rfl ?_); refine Kd.R_lit (Kd.int .u8) _ 5 r1_ (N := 36) r1_ (xs := ([92, 98] : List Int)) (inner := [.int .u8 92, .int .u8 98]) (ok := fun _ => True) (okp := fun _ => True) r2_ ?hp (fun _ hk => hk) trivial (Below.refl _ _) (Nat.le_refl _) (by simp) ?_; (case hp => exact (Reps.one (show Kd.M (Kd.int .u8) _ _ _ 92 [.int .u8 92] from rfl) (Reps.one (show Kd.M (Kd.int .u8) _ _ _ 98 [.int .u8 98] from rfl) (Reps.none _ _)))); intro v399 w17 ho18 hb hg_ hnew_; clear hg_ hnew_; (first | rw [← Ny398.out] at ho18 | (simp only [Int.reduceToNat] at ho18; rw [← Ny398.out] at ho18)); have HO400 := Ad.mk (Kd.R_lower (Kd.R_new' ho18 (Kd.R_lt (by have G0 := HO_4; exact z1_))) (below_size b1_)); replace HO_4 := Ad.mk (Kd.R_elder' (by have G0 := HO_4; exact z1_) (Kd.R_base ho18) hb); replace HB := Ad.mk (below_step b1_ hb); clear hb ho18; obtain ⟨Ao20, co20, eo20⟩ := Kd.R_slice HO400.out; subst eo20) | ((with_reducible refine gate_builtin (b := .append) (xs := #[(.tmp 35), .tmp 36]) rfl ?_); at_builtin; refine Kd.R_append_rows (Kd.int .u8) (w0 := w) w.heap.size rfl (.tmp 35) (.tmp 36) 40 5 (.int .u8 0) 1 rfl Tryd.underlying40 info5 rfl (by decide) (by omega) u4 x4_1 y398 _ _ _ (fun k_ => some k_ ≠ (.slice Ao20 y398.length co20 : Value).ownBlock) (fun _ => False) rfl rfl ?aO ?aR (fun _ _ h => h) (fun _ h => h.elim) ?aF ?aB ?aS ?aL ?_; (case aR => repeat (first | exact (Kd.R_reads' HO400.out).2.2 | (with_reducible refine Kd.C_alloc ?_ _) | (with_reducible refine Kd.C_drewN ?_ _) | (with_reducible refine Kd.C_drew ?_))); (case aB => exact b1_); (case aF => exact (fun k_ hk => Kd.fresh' (Kd.R_lt (by have G0 := HO400; exact z1_)) k_ hk)); (case aO => exact (by have G0 := HO_4; exact z23_)); (case aS => exact (below_size b1_)); (case aL => have := LMc16.out; omega); intro v402 w19 ho hb hg hat; rw [← Ny401.out] at ho; have n0_ := Ad.mk (Kd.R_after (ok := (fun _ => True)) (by have G0 := HO400; exact z1_) hg hat); have n1_ := Ad.mk (hb); have n2_ := Ad.mk (ho); clear HO400; clear HB; clear HO_4; have HO400 := n0_; have HB := n1_; have HO403 := n2_; clear n0_ n1_ n2_; clear ho hb hg hat))
         go_roundg kj6
         case measure => have := HK1.out; have := HJ6.out; omega
         case rel => exact ⟨(y401), (wrap64 (x5_1 + 1)), e1_, H', ⟨z29_⟩, ⟨by have G0 := HO403; exact z24_⟩, ⟨b1_⟩⟩
        rw [if_neg c16] at H
        exact absurd H (by simp)
       rw [if_neg c15] at H
       have c15b0 := beq_eq_false_iff_ne.mpr c15
       have c15b1 := bne_iff_ne.mpr c15
       by_cases c21 : (bt a0 x5_1) = 9
       ·rw [if_pos c21] at H
        have c21b0 := beq_iff_eq.mpr c21
        have c21b1 := bne_eq_false_iff_eq.mpr c21
        clear c21
        replace H := yb_ H
        obtain ⟨y404, hy404, H⟩ := H
        have Ny404 := Ad.mk hy404
        clear hy404
        by_cases c22 : x4_1.length + y404.length < 140737488355328
        ·rw [if_pos c22] at H
         have LMc22 := Ad.mk c22
         clear c22
         generalize hy407 : (x4_1 ++ y404) = y407 at H
         replace hy407 := hy407.symm
         have Ny407 := Ad.mk hy407
         clear hy407
         have H' := Ad.mk H
         clear H
         go_wp2_with (first | ((with_reducible refine gate_dst (N := 42) rfl ?_); refine Kd.R_lit (Kd.int .u8) _ 5 r1_ (N := 42) r1_ (xs := ([92, 116] : List Int)) (inner := [.int .u8 92, .int .u8 116]) (ok := fun _ => True) (okp := fun _ => True) r2_ ?hp (fun _ hk => hk) trivial (Below.refl _ _) (Nat.le_refl _) (by simp) ?_; (case hp => exact (Reps.one (show Kd.M (Kd.int .u8) _ _ _ 92 [.int .u8 92] from rfl) (Reps.one (show Kd.M (Kd.int .u8) _ _ _ 116 [.int .u8 116] from rfl) (Reps.none _ _)))); intro v405 w23 ho24 hb hg_ hnew_; clear hg_ hnew_; (first | rw [← Ny404.out] at ho24 | (simp only [Int.reduceToNat] at ho24; rw [← Ny404.out] at ho24)); have HO406 := Ad.mk (Kd.R_lower (Kd.R_new' ho24 (Kd.R_lt (by have G0 := HO_4; exact z1_))) (below_size b1_)); replace HO_4 := Ad.mk (Kd.R_elder' (by have G0 := HO_4; exact z1_) (Kd.R_base ho24) hb); replace HB := Ad.mk (below_step b1_ hb); clear hb ho24; obtain ⟨Ao26, co26, eo26⟩ := Kd.R_slice HO406.out; subst eo26) | ((with_reducible refine gate_builtin (b := .append) (xs := #[(.tmp 41), .tmp 42]) rfl ?_); at_builtin; refine Kd.R_append_rows (Kd.int .u8) (w0 := w) w.heap.size rfl (.tmp 41) (.tmp 42) 40 5 (.int .u8 0) 1 rfl Tryd.underlying40 info5 rfl (by decide) (by omega) u4 x4_1 y404 _ _ _ (fun k_ => some k_ ≠ (.slice Ao26 y404.length co26 : Value).ownBlock) (fun _ => False) rfl rfl ?aO ?aR (fun _ _ h => h) (fun _ h => h.elim) ?aF ?aB ?aS ?aL ?_; (case aR => repeat (first | exact (Kd.R_reads' HO406.out).2.2 | (with_reducible refine Kd.C_alloc ?_ _) | (with_reducible refine Kd.C_drewN ?_ _) | (with_reducible refine Kd.C_drew ?_))); (case aB => exact b1_); (case aF => exact (fun k_ hk => Kd.fresh' (Kd.R_lt (by have G0 := HO406; exact z1_)) k_ hk)); (case aO => exact (by have G0 := HO_4; exact z23_)); (case aS => exact (below_size b1_)); (case aL => have := LMc22.out; omega); intro v408 w25 ho hb hg hat; rw [← Ny407.out] at ho; have n0_ := Ad.mk (Kd.R_after (ok := (fun _ => True)) (by have G0 := HO406; exact z1_) hg hat); have n1_ := Ad.mk (hb); have n2_ := Ad.mk (ho); clear HO406; clear HB; clear HO_4; have HO406 := n0_; have HB := n1_; have HO409 := n2_; clear n0_ n1_ n2_; clear ho hb hg hat))
         go_roundg kj6
         case measure => have := HK1.out; have := HJ6.out; omega
         case rel => exact ⟨(y407), (wrap64 (x5_1 + 1)), e1_, H', ⟨z29_⟩, ⟨by have G0 := HO409; exact z24_⟩, ⟨b1_⟩⟩
        rw [if_neg c22] at H
        exact absurd H (by simp)
       rw [if_neg c21] at H
       have c21b0 := beq_eq_false_iff_ne.mpr c21
       have c21b1 := bne_iff_ne.mpr c21
       by_cases c27 : (bt a0 x5_1) = 10
       ·rw [if_pos c27] at H
        have c27b0 := beq_iff_eq.mpr c27
        have c27b1 := bne_eq_false_iff_eq.mpr c27
        clear c27
        replace H := yb_ H
        obtain ⟨y410, hy410, H⟩ := H
        have Ny410 := Ad.mk hy410
        clear hy410
        by_cases c28 : x4_1.length + y410.length < 140737488355328
        ·rw [if_pos c28] at H
         have LMc28 := Ad.mk c28
         clear c28
         generalize hy413 : (x4_1 ++ y410) = y413 at H
         replace hy413 := hy413.symm
         have Ny413 := Ad.mk hy413
         clear hy413
         have H' := Ad.mk H
         clear H
         go_wp2_with (first | ((with_reducible refine gate_dst (N := 48) rfl ?_); refine Kd.R_lit (Kd.int .u8) _ 5 r1_ (N := 48) r1_ (xs := ([92, 110] : List Int)) (inner := [.int .u8 92, .int .u8 110]) (ok := fun _ => True) (okp := fun _ => True) r2_ ?hp (fun _ hk => hk) trivial (Below.refl _ _) (Nat.le_refl _) (by simp) ?_; (case hp => exact (Reps.one (show Kd.M (Kd.int .u8) _ _ _ 92 [.int .u8 92] from rfl) (Reps.one (show Kd.M (Kd.int .u8) _ _ _ 110 [.int .u8 110] from rfl) (Reps.none _ _)))); intro v411 w29 ho30 hb hg_ hnew_; clear hg_ hnew_; (first | rw [← Ny410.out] at ho30 | (simp only [Int.reduceToNat] at ho30; rw [← Ny410.out] at ho30)); have HO412 := Ad.mk (Kd.R_lower (Kd.R_new' ho30 (Kd.R_lt (by have G0 := HO_4; exact z1_))) (below_size b1_)); replace HO_4 := Ad.mk (Kd.R_elder' (by have G0 := HO_4; exact z1_) (Kd.R_base ho30) hb); replace HB := Ad.mk (below_step b1_ hb); clear hb ho30; obtain ⟨Ao32, co32, eo32⟩ := Kd.R_slice HO412.out; subst eo32) | ((with_reducible refine gate_builtin (b := .append) (xs := #[(.tmp 47), .tmp 48]) rfl ?_); at_builtin; refine Kd.R_append_rows (Kd.int .u8) (w0 := w) w.heap.size rfl (.tmp 47) (.tmp 48) 40 5 (.int .u8 0) 1 rfl Tryd.underlying40 info5 rfl (by decide) (by omega) u4 x4_1 y410 _ _ _ (fun k_ => some k_ ≠ (.slice Ao32 y410.length co32 : Value).ownBlock) (fun _ => False) rfl rfl ?aO ?aR (fun _ _ h => h) (fun _ h => h.elim) ?aF ?aB ?aS ?aL ?_; (case aR => repeat (first | exact (Kd.R_reads' HO412.out).2.2 | (with_reducible refine Kd.C_alloc ?_ _) | (with_reducible refine Kd.C_drewN ?_ _) | (with_reducible refine Kd.C_drew ?_))); (case aB => exact b1_); (case aF => exact (fun k_ hk => Kd.fresh' (Kd.R_lt (by have G0 := HO412; exact z1_)) k_ hk)); (case aO => exact (by have G0 := HO_4; exact z23_)); (case aS => exact (below_size b1_)); (case aL => have := LMc28.out; omega); intro v414 w31 ho hb hg hat; rw [← Ny413.out] at ho; have n0_ := Ad.mk (Kd.R_after (ok := (fun _ => True)) (by have G0 := HO412; exact z1_) hg hat); have n1_ := Ad.mk (hb); have n2_ := Ad.mk (ho); clear HO412; clear HB; clear HO_4; have HO412 := n0_; have HB := n1_; have HO415 := n2_; clear n0_ n1_ n2_; clear ho hb hg hat))
         go_roundg kj6
         case measure => have := HK1.out; have := HJ6.out; omega
         case rel => exact ⟨(y413), (wrap64 (x5_1 + 1)), e1_, H', ⟨z29_⟩, ⟨by have G0 := HO415; exact z24_⟩, ⟨b1_⟩⟩
        rw [if_neg c28] at H
        exact absurd H (by simp)
       rw [if_neg c27] at H
       have c27b0 := beq_eq_false_iff_ne.mpr c27
       have c27b1 := bne_iff_ne.mpr c27
       by_cases c33 : (bt a0 x5_1) = 12
       ·rw [if_pos c33] at H
        have c33b0 := beq_iff_eq.mpr c33
        have c33b1 := bne_eq_false_iff_eq.mpr c33
        clear c33
        replace H := yb_ H
        obtain ⟨y416, hy416, H⟩ := H
        have Ny416 := Ad.mk hy416
        clear hy416
        by_cases c34 : x4_1.length + y416.length < 140737488355328
        ·rw [if_pos c34] at H
         have LMc34 := Ad.mk c34
         clear c34
         generalize hy419 : (x4_1 ++ y416) = y419 at H
         replace hy419 := hy419.symm
         have Ny419 := Ad.mk hy419
         clear hy419
         have H' := Ad.mk H
         clear H
         go_wp2_with (first | ((with_reducible refine gate_dst (N := 54) rfl ?_); refine Kd.R_lit (Kd.int .u8) _ 5 r1_ (N := 54) r1_ (xs := ([92, 102] : List Int)) (inner := [.int .u8 92, .int .u8 102]) (ok := fun _ => True) (okp := fun _ => True) r2_ ?hp (fun _ hk => hk) trivial (Below.refl _ _) (Nat.le_refl _) (by simp) ?_; (case hp => exact (Reps.one (show Kd.M (Kd.int .u8) _ _ _ 92 [.int .u8 92] from rfl) (Reps.one (show Kd.M (Kd.int .u8) _ _ _ 102 [.int .u8 102] from rfl) (Reps.none _ _)))); intro v417 w35 ho36 hb hg_ hnew_; clear hg_ hnew_; (first | rw [← Ny416.out] at ho36 | (simp only [Int.reduceToNat] at ho36; rw [← Ny416.out] at ho36)); have HO418 := Ad.mk (Kd.R_lower (Kd.R_new' ho36 (Kd.R_lt (by have G0 := HO_4; exact z1_))) (below_size b1_)); replace HO_4 := Ad.mk (Kd.R_elder' (by have G0 := HO_4; exact z1_) (Kd.R_base ho36) hb); replace HB := Ad.mk (below_step b1_ hb); clear hb ho36; obtain ⟨Ao38, co38, eo38⟩ := Kd.R_slice HO418.out; subst eo38) | ((with_reducible refine gate_builtin (b := .append) (xs := #[(.tmp 53), .tmp 54]) rfl ?_); at_builtin; refine Kd.R_append_rows (Kd.int .u8) (w0 := w) w.heap.size rfl (.tmp 53) (.tmp 54) 40 5 (.int .u8 0) 1 rfl Tryd.underlying40 info5 rfl (by decide) (by omega) u4 x4_1 y416 _ _ _ (fun k_ => some k_ ≠ (.slice Ao38 y416.length co38 : Value).ownBlock) (fun _ => False) rfl rfl ?aO ?aR (fun _ _ h => h) (fun _ h => h.elim) ?aF ?aB ?aS ?aL ?_; (case aR => repeat (first | exact (Kd.R_reads' HO418.out).2.2 | (with_reducible refine Kd.C_alloc ?_ _) | (with_reducible refine Kd.C_drewN ?_ _) | (with_reducible refine Kd.C_drew ?_))); (case aB => exact b1_); (case aF => exact (fun k_ hk => Kd.fresh' (Kd.R_lt (by have G0 := HO418; exact z1_)) k_ hk)); (case aO => exact (by have G0 := HO_4; exact z23_)); (case aS => exact (below_size b1_)); (case aL => have := LMc34.out; omega); intro v420 w37 ho hb hg hat; rw [← Ny419.out] at ho; have n0_ := Ad.mk (Kd.R_after (ok := (fun _ => True)) (by have G0 := HO418; exact z1_) hg hat); have n1_ := Ad.mk (hb); have n2_ := Ad.mk (ho); clear HO418; clear HB; clear HO_4; have HO418 := n0_; have HB := n1_; have HO421 := n2_; clear n0_ n1_ n2_; clear ho hb hg hat))
         go_roundg kj6
         case measure => have := HK1.out; have := HJ6.out; omega
         case rel => exact ⟨(y419), (wrap64 (x5_1 + 1)), e1_, H', ⟨z29_⟩, ⟨by have G0 := HO421; exact z24_⟩, ⟨b1_⟩⟩
        rw [if_neg c34] at H
        exact absurd H (by simp)
       rw [if_neg c33] at H
       have c33b0 := beq_eq_false_iff_ne.mpr c33
       have c33b1 := bne_iff_ne.mpr c33
       by_cases c39 : (bt a0 x5_1) = 13
       ·rw [if_pos c39] at H
        have c39b0 := beq_iff_eq.mpr c39
        have c39b1 := bne_eq_false_iff_eq.mpr c39
        clear c39
        replace H := yb_ H
        obtain ⟨y422, hy422, H⟩ := H
        have Ny422 := Ad.mk hy422
        clear hy422
        by_cases c40 : x4_1.length + y422.length < 140737488355328
        ·rw [if_pos c40] at H
         have LMc40 := Ad.mk c40
         clear c40
         generalize hy425 : (x4_1 ++ y422) = y425 at H
         replace hy425 := hy425.symm
         have Ny425 := Ad.mk hy425
         clear hy425
         have H' := Ad.mk H
         clear H
         go_wp2_with (first | ((with_reducible refine gate_dst (N := 60) rfl ?_); refine Kd.R_lit (Kd.int .u8) _ 5 r1_ (N := 60) r1_ (xs := ([92, 114] : List Int)) (inner := [.int .u8 92, .int .u8 114]) (ok := fun _ => True) (okp := fun _ => True) r2_ ?hp (fun _ hk => hk) trivial (Below.refl _ _) (Nat.le_refl _) (by simp) ?_; (case hp => exact (Reps.one (show Kd.M (Kd.int .u8) _ _ _ 92 [.int .u8 92] from rfl) (Reps.one (show Kd.M (Kd.int .u8) _ _ _ 114 [.int .u8 114] from rfl) (Reps.none _ _)))); intro v423 w41 ho42 hb hg_ hnew_; clear hg_ hnew_; (first | rw [← Ny422.out] at ho42 | (simp only [Int.reduceToNat] at ho42; rw [← Ny422.out] at ho42)); have HO424 := Ad.mk (Kd.R_lower (Kd.R_new' ho42 (Kd.R_lt (by have G0 := HO_4; exact z1_))) (below_size b1_)); replace HO_4 := Ad.mk (Kd.R_elder' (by have G0 := HO_4; exact z1_) (Kd.R_base ho42) hb); replace HB := Ad.mk (below_step b1_ hb); clear hb ho42; obtain ⟨Ao44, co44, eo44⟩ := Kd.R_slice HO424.out; subst eo44) | ((with_reducible refine gate_builtin (b := .append) (xs := #[(.tmp 59), .tmp 60]) rfl ?_); at_builtin; refine Kd.R_append_rows (Kd.int .u8) (w0 := w) w.heap.size rfl (.tmp 59) (.tmp 60) 40 5 (.int .u8 0) 1 rfl Tryd.underlying40 info5 rfl (by decide) (by omega) u4 x4_1 y422 _ _ _ (fun k_ => some k_ ≠ (.slice Ao44 y422.length co44 : Value).ownBlock) (fun _ => False) rfl rfl ?aO ?aR (fun _ _ h => h) (fun _ h => h.elim) ?aF ?aB ?aS ?aL ?_; (case aR => repeat (first | exact (Kd.R_reads' HO424.out).2.2 | (with_reducible refine Kd.C_alloc ?_ _) | (with_reducible refine Kd.C_drewN ?_ _) | (with_reducible refine Kd.C_drew ?_))); (case aB => exact b1_); (case aF => exact (fun k_ hk => Kd.fresh' (Kd.R_lt (by have G0 := HO424; exact z1_)) k_ hk)); (case aO => exact (by have G0 := HO_4; exact z23_)); (case aS => exact (below_size b1_)); (case aL => have := LMc40.out; omega); intro v426 w43 ho hb hg hat; rw [← Ny425.out] at ho; have n0_ := Ad.mk (Kd.R_after (ok := (fun _ => True)) (by have G0 := HO424; exact z1_) hg hat); have n1_ := Ad.mk (hb); have n2_ := Ad.mk (ho); clear HO424; clear HB; clear HO_4; have HO424 := n0_; have HB := n1_; have HO427 := n2_; clear n0_ n1_ n2_; clear ho hb hg hat))
         go_roundg kj6
         case measure => have := HK1.out; have := HJ6.out; omega
         case rel => exact ⟨(y425), (wrap64 (x5_1 + 1)), e1_, H', ⟨z29_⟩, ⟨by have G0 := HO427; exact z24_⟩, ⟨b1_⟩⟩
        rw [if_neg c40] at H
        exact absurd H (by simp)
       rw [if_neg c39] at H
       have c39b0 := beq_eq_false_iff_ne.mpr c39
       have c39b1 := bne_iff_ne.mpr c39
       by_cases c45 : (bt a0 x5_1) < 32
       ·rw [if_pos c45] at H
        have c45b0 := decide_eq_true c45
        clear c45
        obtain ⟨ji46, hji46⟩ : ∃ j_ : Int, ((Int.tdiv (bt a0 x5_1) 16) % 256) = j_ := ⟨_, rfl⟩
        replace H : (if 0 ≤ (ji46) then (if (ji46) < ((⟨#[48, 49, 50, 51, 52, 53, 54, 55, 56, 57, 65, 66, 67, 68, 69, 70]⟩ : ByteArray).size : Int) then (if 0 ≤ (Int.tmod (bt a0 x5_1) 16) then (if (Int.tmod (bt a0 x5_1) 16) < ((⟨#[48, 49, 50, 51, 52, 53, 54, 55, 56, 57, 65, 66, 67, 68, 69, 70]⟩ : ByteArray).size : Int) then ((some (([92, 117, 48, 48, bt (⟨#[48, 49, 50, 51, 52, 53, 54, 55, 56, 57, 65, 66, 67, 68, 69, 70]⟩ : ByteArray) (ji46), bt (⟨#[48, 49, 50, 51, 52, 53, 54, 55, 56, 57, 65, 66, 67, 68, 69, 70]⟩ : ByteArray) (Int.tmod (bt a0 x5_1) 16)] : List Int) : List Int)).bind fun y428 => (if x4_1.length + y428.length < 140737488355328 then (g2_written.l0 kj6 a0 (⟨#[48, 49, 50, 51, 52, 53, 54, 55, 56, 57, 65, 66, 67, 68, 69, 70]⟩ : ByteArray) (x4_1 ++ y428) (wrap64 (x5_1 + 1))) else (none))) else (none)) else (none)) else (none)) else (none)) = some r := by first | (rw [hji46] at H; exact H) | (simp only [hji46] at H ⊢; exact H)
        have hji46w : (IntKind.u8.wrap (Int.tdiv (bt a0 x5_1) 16)) = ji46 := (show IntKind.u8.wrap (Int.tdiv (bt a0 x5_1) 16) = (Int.tdiv (bt a0 x5_1) 16) % 256 by simp [IntKind.wrap, IntKind.bits, IntKind.signed]).trans hji46
        by_cases c47 : 0 ≤ (ji46)
        ·rw [if_pos c47] at H
         have c47b0 := decide_eq_true c47
         clear c47
         by_cases c48 : (ji46) < ((⟨#[48, 49, 50, 51, 52, 53, 54, 55, 56, 57, 65, 66, 67, 68, 69, 70]⟩ : ByteArray).size : Int)
         ·rw [if_pos c48] at H
          have c48b0 := decide_eq_true c48
          clear c48
          obtain ⟨ji50, hji50⟩ : ∃ j_ : Int, (Int.tmod (bt a0 x5_1) 16) = j_ := ⟨_, rfl⟩
          replace H : (if 0 ≤ (ji50) then (if (ji50) < ((⟨#[48, 49, 50, 51, 52, 53, 54, 55, 56, 57, 65, 66, 67, 68, 69, 70]⟩ : ByteArray).size : Int) then ((some (([92, 117, 48, 48, bt (⟨#[48, 49, 50, 51, 52, 53, 54, 55, 56, 57, 65, 66, 67, 68, 69, 70]⟩ : ByteArray) (ji46), bt (⟨#[48, 49, 50, 51, 52, 53, 54, 55, 56, 57, 65, 66, 67, 68, 69, 70]⟩ : ByteArray) (ji50)] : List Int) : List Int)).bind fun y428 => (if x4_1.length + y428.length < 140737488355328 then (g2_written.l0 kj6 a0 (⟨#[48, 49, 50, 51, 52, 53, 54, 55, 56, 57, 65, 66, 67, 68, 69, 70]⟩ : ByteArray) (x4_1 ++ y428) (wrap64 (x5_1 + 1))) else (none))) else (none)) else (none)) = some r := by first | (rw [hji50] at H; exact H) | (simp only [hji50] at H ⊢; exact H)
          by_cases c51 : 0 ≤ (ji50)
          ·rw [if_pos c51] at H
           have c51b0 := decide_eq_true c51
           clear c51
           by_cases c52 : (ji50) < ((⟨#[48, 49, 50, 51, 52, 53, 54, 55, 56, 57, 65, 66, 67, 68, 69, 70]⟩ : ByteArray).size : Int)
           ·rw [if_pos c52] at H
            have c52b0 := decide_eq_true c52
            clear c52
            replace H := yb_ H
            obtain ⟨y428, hy428, H⟩ := H
            have Ny428 := Ad.mk hy428
            clear hy428
            by_cases c54 : x4_1.length + y428.length < 140737488355328
            ·rw [if_pos c54] at H
             have LMc54 := Ad.mk c54
             clear c54
             generalize hy431 : (x4_1 ++ y428) = y431 at H
             replace hy431 := hy431.symm
             have Ny431 := Ad.mk hy431
             clear hy431
             have H' := Ad.mk H
             clear H
             try go_wp2
             have n0_ := Ad.mk (Kd.R_drew HO_4.out)
             have n1_ := Ad.mk (below_drew1 HB.out)
             clear HO_4
             clear HB
             have HO_4 := n0_
             have HB := n1_
             clear n0_ n1_
             have p49 : 0 ≤ ((ji46) : Int) := of_decide_eq_true a1_
             have q49 : (ji46) < (16 : Int) := of_decide_eq_true a1_
             have hx49 := bt_at (⟨#[48, 49, 50, 51, 52, 53, 54, 55, 56, 57, 65, 66, 67, 68, 69, 70]⟩ : ByteArray) (ji46)
             replace p49 := eq_true p49
             replace q49 := eq_true q49
             have p53 : 0 ≤ ((ji50) : Int) := of_decide_eq_true a1_
             have q53 : (ji50) < (16 : Int) := of_decide_eq_true a1_
             have hx53 := bt_at (⟨#[48, 49, 50, 51, 52, 53, 54, 55, 56, 57, 65, 66, 67, 68, 69, 70]⟩ : ByteArray) (ji50)
             replace p53 := eq_true p53
             replace q53 := eq_true q53
             refine start_ (n := 12) (S := fun w' => True) (ds := []) #[false, false, false, false, false, false, false, false, false, false, false, false] k1_ rfl rfl trivial (fun hHeld => ?_); refine with_tabW g2_written.tab21 g2_written.bits21 (fun HT_ HW_ => ?_)
             generalize wc.drew = w55 at HO_4 HB hHeld ⊢
             refine pure_ (i := 0) (N := some 69) #[true, false, false, false, false, false, false, false, false, false, false, false] rfl rfl (any_of HT_.out k1_) (fun _ _ _ h => h) (Or.inl ⟨by rfl, py_⟩) pa_ ?_
             refine pure_ (i := 1) (N := some 70) #[true, true, false, false, false, false, false, false, false, false, false, false] rfl rfl (any_of HT_.out k1_) (fun _ _ _ h => h) (Or.inl ⟨by rfl, py_⟩) pa_ ?_
             refine pure_ (i := 2) (N := some 71) #[true, true, true, false, false, false, false, false, false, false, false, false] rfl rfl (any_of HT_.out k1_) (fun _ _ _ h => h) (Or.inl ⟨by rfl, py_⟩) pa_ ?_
             refine pure_ (i := 3) (N := some 72) #[true, true, true, true, false, false, false, false, false, false, false, false] rfl rfl (any_of HT_.out k1_) (fun _ _ _ h => h) (Or.inl ⟨by rfl, py_⟩) pa_ ?_
             refine pure_ (i := 5) (N := some 74) #[true, true, true, true, false, true, false, false, false, false, false, false] rfl rfl (any_of HT_.out k1_) (fun _ _ _ h => h) (Or.inl ⟨by rfl, py_⟩) pa_ ?_
             refine pure_ (i := 6) (N := some 75) #[true, true, true, true, false, true, true, false, false, false, false, false] rfl rfl (any_of HT_.out k1_) (fun _ _ _ h => h) (Or.inl ⟨by rfl, py_⟩) pa_ ?_
             refine pure_ (i := 7) (N := some 76) #[true, true, true, true, false, true, true, true, false, false, false, false] rfl rfl (any_of HT_.out k1_) (fun _ _ _ h => h) (Or.inl ⟨by rfl, py_⟩) pa_ ?_
             refine take_ (i := 4) (N := some 73) (v := ?_) (a' := ?_) #[true, true, true, true, true, true, true, true, false, false, false, false] rfl rfl (take_ofW HT_.out HW_.out k1_) (fun _ _ _ h => h) (Or.inl ⟨by rfl, ?_⟩) hHeld ?_ ?_
             rotate_left
             ·intro w' _
              go_simp
              with_reducible rfl
             rotate_left
             ·simp only [Act.put, List.setIfInBounds_toArray, List.set_cons_zero, List.set_cons_succ, i64_w, i32_w]
              rfl
             refine take_ (i := 8) (N := some 77) (v := ?_) (a' := ?_) #[true, true, true, true, true, true, true, true, true, false, false, false] rfl rfl (take_ofW HT_.out HW_.out k1_) (fun _ _ _ h => h) (Or.inl ⟨by rfl, ?_⟩) hHeld ?_ ?_
             rotate_left
             ·intro w' _
              go_simp
              with_reducible rfl
             rotate_left
             ·simp only [Act.put, List.setIfInBounds_toArray, List.set_cons_zero, List.set_cons_succ, i64_w, i32_w]
              rfl
             refine one_ (i := 9) (N := some 78) #[true, true, true, true, true, true, true, true, true, true, false, false] rfl rfl (one_of HT_.out k1_) (by decide) (fun K hK => ?_)
             refine Kd.R_lit_step (Kd.int .u8) _ 5 ?hg (N := 78) ?hd (xs := ([92, 117, 48, 48, bt (⟨#[48, 49, 50, 51, 52, 53, 54, 55, 56, 57, 65, 66, 67, 68, 69, 70]⟩ : ByteArray) (ji46), bt (⟨#[48, 49, 50, 51, 52, 53, 54, 55, 56, 57, 65, 66, 67, 68, 69, 70]⟩ : ByteArray) (ji50)] : List Int)) (inner := [.int .u8 92, .int .u8 117, .int .u8 48, .int .u8 48, .int .u8 (bt (⟨#[48, 49, 50, 51, 52, 53, 54, 55, 56, 57, 65, 66, 67, 68, 69, 70]⟩ : ByteArray) (ji46)), .int .u8 (bt (⟨#[48, 49, 50, 51, 52, 53, 54, 55, 56, 57, 65, 66, 67, 68, 69, 70]⟩ : ByteArray) (ji50))]) (ok := fun _ => True) (okp := fun _ => True) ?hr ?hp (fun _ hk => hk) trivial (Below.refl _ _) (Nat.le_refl _) (by simp) ?_; (case hd => rfl); (case hg => rfl); (case hr => first | (go_simp; done) | (go_simp; rfl)); (case hp => exact (Reps.one (show Kd.M (Kd.int .u8) _ _ _ 92 [.int .u8 92] from rfl) (Reps.one (show Kd.M (Kd.int .u8) _ _ _ 117 [.int .u8 117] from rfl) (Reps.one (show Kd.M (Kd.int .u8) _ _ _ 48 [.int .u8 48] from rfl) (Reps.one (show Kd.M (Kd.int .u8) _ _ _ 48 [.int .u8 48] from rfl) (Reps.one (show Kd.M (Kd.int .u8) _ _ _ (bt (⟨#[48, 49, 50, 51, 52, 53, 54, 55, 56, 57, 65, 66, 67, 68, 69, 70]⟩ : ByteArray) (ji46)) [.int .u8 (bt (⟨#[48, 49, 50, 51, 52, 53, 54, 55, 56, 57, 65, 66, 67, 68, 69, 70]⟩ : ByteArray) (ji46))] from rfl) (Reps.one (show Kd.M (Kd.int .u8) _ _ _ (bt (⟨#[48, 49, 50, 51, 52, 53, 54, 55, 56, 57, 65, 66, 67, 68, 69, 70]⟩ : ByteArray) (ji50)) [.int .u8 (bt (⟨#[48, 49, 50, 51, 52, 53, 54, 55, 56, 57, 65, 66, 67, 68, 69, 70]⟩ : ByteArray) (ji50))] from rfl) (Reps.none _ _))))))))
             intro v429 w56 ho57 hb hg_ hnew_
             clear hg_ hnew_
             (first | rw [← Ny428.out] at ho57 | (simp only [Int.reduceToNat] at ho57; rw [← Ny428.out] at ho57))
             have n0_ := Ad.mk (Kd.R_elder' (by have G0 := HO_4; exact z1_) (Kd.R_base ho57) hb)
             have n1_ := Ad.mk (Kd.R_lower (Kd.R_new' ho57 (Kd.R_lt (by have G0 := HO_4; exact z1_))) (below_size b1_))
             have n2_ := Ad.mk (below_step b1_ hb)
             clear HO_4
             clear HB
             have HO_4 := n0_
             have HO430 := n1_
             have HB := n2_
             clear n0_ n1_ n2_
             clear hb ho57
             obtain ⟨Ao59, co59, eo59⟩ := Kd.R_slice HO430.out
             (first | subst eo59 | (injection eo59 with f1_ f2_ f3_; have f4_ := f1_.symm; have f5_ := f3_.symm; clear f1_ f2_ f3_; subst f4_; subst f5_))
             refine hK.out _ _ trivial (fun hHeld => ?_)
             clear hK K
             refine norm_ (a' := ?_) ?_ ?_
             rotate_left
             ·show Act.put _ (some 78) _ = _
              simp only [Act.put, List.setIfInBounds_toArray, List.set_cons_zero, List.set_cons_succ, i64_w, i32_w]
              rfl
             refine one_ (i := 10) (N := some 79) #[true, true, true, true, true, true, true, true, true, true, true, false] rfl rfl (one_of HT_.out k1_) (by decide) (fun K hK => ?_)
             refine Kd.R_append_rows_step (Kd.int .u8) (w0 := w) w.heap.size (by rfl) (.tmp 69) (.tmp 78) 40 5 (.int .u8 0) 1 rfl Tryd.underlying40 info5 rfl (by decide) (by omega) u4 x4_1 y428 _ _ _ (fun k_ => some k_ ≠ (.slice Ao59 y428.length co59 : Value).ownBlock) (fun _ => False) rfl rfl ?aO ?aR (fun _ _ h => h) (fun _ h => h.elim) ?aF ?aB ?aS ?aL ?_
             (case aR => repeat (first | exact (Kd.R_reads' HO430.out).2.2 | (with_reducible refine Kd.C_alloc ?_ _) | (with_reducible refine Kd.C_drewN ?_ _) | (with_reducible refine Kd.C_drew ?_)))
             (case aB => exact b1_)
             (case aF => exact (fun k_ hk => Kd.fresh' (Kd.R_lt (by have G0 := HO430; exact z1_)) k_ hk))
             (case aO => exact (by have G0 := HO_4; exact z23_))
             (case aS => exact (below_size b1_))
             (case aL => have := LMc54.out; omega)
             intro v432 w58 ho hb hg hat
             rw [← Ny431.out] at ho
             have n0_ := Ad.mk (Kd.R_after (ok := (fun _ => True)) (by have G0 := HO430; exact z1_) hg hat)
             have n1_ := Ad.mk (hb)
             have n2_ := Ad.mk (ho)
             clear HO430
             clear HB
             clear HO_4
             have HO430 := n0_
             have HB := n1_
             have HO433 := n2_
             clear n0_ n1_ n2_
             clear ho hb hg hat
             refine hK.out _ _ trivial (fun hHeld => ?_)
             clear hK K
             refine norm_ (a' := ?_) ?_ ?_
             rotate_left
             ·show Act.put _ (some 79) _ = _
              simp only [Act.put, List.setIfInBounds_toArray, List.set_cons_zero, List.set_cons_succ, i64_w, i32_w]
              rfl
             refine pure_ (i := 11) (N := some 4) #[true, true, true, true, true, true, true, true, true, true, true, true] rfl rfl (any_of HT_.out k1_) (fun _ _ _ h => h) (Or.inl ⟨by rfl, py_⟩) pa_ ?_
             refine done_ (done_of HT_.out k1_) ?_
             try go_wp2
             go_roundg kj6
             case measure => have := HK1.out; have := HJ6.out; omega
             case rel => exact ⟨(y431), (wrap64 (x5_1 + 1)), e1_, H', ⟨z29_⟩, ⟨by have G0 := HO433; exact z24_⟩, ⟨b1_⟩⟩
            rw [if_neg c54] at H
            exact absurd H (by simp)
           rw [if_neg c52] at H
           exact absurd H (by simp)
          rw [if_neg c51] at H
          exact absurd H (by simp)
         rw [if_neg c48] at H
         exact absurd H (by simp)
        rw [if_neg c47] at H
        exact absurd H (by simp)
       rw [if_neg c45] at H
       have c45b0 := decide_eq_false c45
       clear c45
       by_cases c60 : (bt a0 x5_1) = 127
       ·rw [if_pos c60] at H
        have c60b0 := beq_iff_eq.mpr c60
        have c60b1 := bne_eq_false_iff_eq.mpr c60
        clear c60
        obtain ⟨ji61, hji61⟩ : ∃ j_ : Int, ((Int.tdiv (bt a0 x5_1) 16) % 256) = j_ := ⟨_, rfl⟩
        replace H : (if 0 ≤ (ji61) then (if (ji61) < ((⟨#[48, 49, 50, 51, 52, 53, 54, 55, 56, 57, 65, 66, 67, 68, 69, 70]⟩ : ByteArray).size : Int) then (if 0 ≤ (Int.tmod (bt a0 x5_1) 16) then (if (Int.tmod (bt a0 x5_1) 16) < ((⟨#[48, 49, 50, 51, 52, 53, 54, 55, 56, 57, 65, 66, 67, 68, 69, 70]⟩ : ByteArray).size : Int) then ((some (([92, 117, 48, 48, bt (⟨#[48, 49, 50, 51, 52, 53, 54, 55, 56, 57, 65, 66, 67, 68, 69, 70]⟩ : ByteArray) (ji61), bt (⟨#[48, 49, 50, 51, 52, 53, 54, 55, 56, 57, 65, 66, 67, 68, 69, 70]⟩ : ByteArray) (Int.tmod (bt a0 x5_1) 16)] : List Int) : List Int)).bind fun y434 => (if x4_1.length + y434.length < 140737488355328 then (g2_written.l0 kj6 a0 (⟨#[48, 49, 50, 51, 52, 53, 54, 55, 56, 57, 65, 66, 67, 68, 69, 70]⟩ : ByteArray) (x4_1 ++ y434) (wrap64 (x5_1 + 1))) else (none))) else (none)) else (none)) else (none)) else (none)) = some r := by first | (rw [hji61] at H; exact H) | (simp only [hji61] at H ⊢; exact H)
        have hji61w : (IntKind.u8.wrap (Int.tdiv (bt a0 x5_1) 16)) = ji61 := (show IntKind.u8.wrap (Int.tdiv (bt a0 x5_1) 16) = (Int.tdiv (bt a0 x5_1) 16) % 256 by simp [IntKind.wrap, IntKind.bits, IntKind.signed]).trans hji61
        by_cases c62 : 0 ≤ (ji61)
        ·rw [if_pos c62] at H
         have c62b0 := decide_eq_true c62
         clear c62
         by_cases c63 : (ji61) < ((⟨#[48, 49, 50, 51, 52, 53, 54, 55, 56, 57, 65, 66, 67, 68, 69, 70]⟩ : ByteArray).size : Int)
         ·rw [if_pos c63] at H
          have c63b0 := decide_eq_true c63
          clear c63
          obtain ⟨ji65, hji65⟩ : ∃ j_ : Int, (Int.tmod (bt a0 x5_1) 16) = j_ := ⟨_, rfl⟩
          replace H : (if 0 ≤ (ji65) then (if (ji65) < ((⟨#[48, 49, 50, 51, 52, 53, 54, 55, 56, 57, 65, 66, 67, 68, 69, 70]⟩ : ByteArray).size : Int) then ((some (([92, 117, 48, 48, bt (⟨#[48, 49, 50, 51, 52, 53, 54, 55, 56, 57, 65, 66, 67, 68, 69, 70]⟩ : ByteArray) (ji61), bt (⟨#[48, 49, 50, 51, 52, 53, 54, 55, 56, 57, 65, 66, 67, 68, 69, 70]⟩ : ByteArray) (ji65)] : List Int) : List Int)).bind fun y434 => (if x4_1.length + y434.length < 140737488355328 then (g2_written.l0 kj6 a0 (⟨#[48, 49, 50, 51, 52, 53, 54, 55, 56, 57, 65, 66, 67, 68, 69, 70]⟩ : ByteArray) (x4_1 ++ y434) (wrap64 (x5_1 + 1))) else (none))) else (none)) else (none)) = some r := by first | (rw [hji65] at H; exact H) | (simp only [hji65] at H ⊢; exact H)
          by_cases c66 : 0 ≤ (ji65)
          ·rw [if_pos c66] at H
           have c66b0 := decide_eq_true c66
           clear c66
           by_cases c67 : (ji65) < ((⟨#[48, 49, 50, 51, 52, 53, 54, 55, 56, 57, 65, 66, 67, 68, 69, 70]⟩ : ByteArray).size : Int)
           ·rw [if_pos c67] at H
            have c67b0 := decide_eq_true c67
            clear c67
            replace H := yb_ H
            obtain ⟨y434, hy434, H⟩ := H
            have Ny434 := Ad.mk hy434
            clear hy434
            by_cases c69 : x4_1.length + y434.length < 140737488355328
            ·rw [if_pos c69] at H
             have LMc69 := Ad.mk c69
             clear c69
             generalize hy437 : (x4_1 ++ y434) = y437 at H
             replace hy437 := hy437.symm
             have Ny437 := Ad.mk hy437
             clear hy437
             have H' := Ad.mk H
             clear H
             try go_wp2
             have n0_ := Ad.mk (Kd.R_drew HO_4.out)
             have n1_ := Ad.mk (below_drew1 HB.out)
             clear HO_4
             clear HB
             have HO_4 := n0_
             have HB := n1_
             clear n0_ n1_
             have p64 : 0 ≤ ((ji61) : Int) := of_decide_eq_true a1_
             have q64 : (ji61) < (16 : Int) := of_decide_eq_true a1_
             have hx64 := bt_at (⟨#[48, 49, 50, 51, 52, 53, 54, 55, 56, 57, 65, 66, 67, 68, 69, 70]⟩ : ByteArray) (ji61)
             replace p64 := eq_true p64
             replace q64 := eq_true q64
             have p68 : 0 ≤ ((ji65) : Int) := of_decide_eq_true a1_
             have q68 : (ji65) < (16 : Int) := of_decide_eq_true a1_
             have hx68 := bt_at (⟨#[48, 49, 50, 51, 52, 53, 54, 55, 56, 57, 65, 66, 67, 68, 69, 70]⟩ : ByteArray) (ji65)
             replace p68 := eq_true p68
             replace q68 := eq_true q68
             refine start_ (n := 12) (S := fun w' => True) (ds := []) #[false, false, false, false, false, false, false, false, false, false, false, false] k1_ rfl rfl trivial (fun hHeld => ?_); refine with_tabW g2_written.tab21 g2_written.bits21 (fun HT_ HW_ => ?_)
             generalize wc.drew = w70 at HO_4 HB hHeld ⊢
             refine pure_ (i := 0) (N := some 69) #[true, false, false, false, false, false, false, false, false, false, false, false] rfl rfl (any_of HT_.out k1_) (fun _ _ _ h => h) (Or.inl ⟨by rfl, py_⟩) pa_ ?_
             refine pure_ (i := 1) (N := some 70) #[true, true, false, false, false, false, false, false, false, false, false, false] rfl rfl (any_of HT_.out k1_) (fun _ _ _ h => h) (Or.inl ⟨by rfl, py_⟩) pa_ ?_
             refine pure_ (i := 2) (N := some 71) #[true, true, true, false, false, false, false, false, false, false, false, false] rfl rfl (any_of HT_.out k1_) (fun _ _ _ h => h) (Or.inl ⟨by rfl, py_⟩) pa_ ?_
             refine pure_ (i := 3) (N := some 72) #[true, true, true, true, false, false, false, false, false, false, false, false] rfl rfl (any_of HT_.out k1_) (fun _ _ _ h => h) (Or.inl ⟨by rfl, py_⟩) pa_ ?_
             refine pure_ (i := 5) (N := some 74) #[true, true, true, true, false, true, false, false, false, false, false, false] rfl rfl (any_of HT_.out k1_) (fun _ _ _ h => h) (Or.inl ⟨by rfl, py_⟩) pa_ ?_
             refine pure_ (i := 6) (N := some 75) #[true, true, true, true, false, true, true, false, false, false, false, false] rfl rfl (any_of HT_.out k1_) (fun _ _ _ h => h) (Or.inl ⟨by rfl, py_⟩) pa_ ?_
             refine pure_ (i := 7) (N := some 76) #[true, true, true, true, false, true, true, true, false, false, false, false] rfl rfl (any_of HT_.out k1_) (fun _ _ _ h => h) (Or.inl ⟨by rfl, py_⟩) pa_ ?_
             refine take_ (i := 4) (N := some 73) (v := ?_) (a' := ?_) #[true, true, true, true, true, true, true, true, false, false, false, false] rfl rfl (take_ofW HT_.out HW_.out k1_) (fun _ _ _ h => h) (Or.inl ⟨by rfl, ?_⟩) hHeld ?_ ?_
             rotate_left
             ·intro w' _
              go_simp
              with_reducible rfl
             rotate_left
             ·simp only [Act.put, List.setIfInBounds_toArray, List.set_cons_zero, List.set_cons_succ, i64_w, i32_w]
              rfl
             refine take_ (i := 8) (N := some 77) (v := ?_) (a' := ?_) #[true, true, true, true, true, true, true, true, true, false, false, false] rfl rfl (take_ofW HT_.out HW_.out k1_) (fun _ _ _ h => h) (Or.inl ⟨by rfl, ?_⟩) hHeld ?_ ?_
             rotate_left
             ·intro w' _
              go_simp
              with_reducible rfl
             rotate_left
             ·simp only [Act.put, List.setIfInBounds_toArray, List.set_cons_zero, List.set_cons_succ, i64_w, i32_w]
              rfl
             refine one_ (i := 9) (N := some 78) #[true, true, true, true, true, true, true, true, true, true, false, false] rfl rfl (one_of HT_.out k1_) (by decide) (fun K hK => ?_)
             refine Kd.R_lit_step (Kd.int .u8) _ 5 ?hg (N := 78) ?hd (xs := ([92, 117, 48, 48, bt (⟨#[48, 49, 50, 51, 52, 53, 54, 55, 56, 57, 65, 66, 67, 68, 69, 70]⟩ : ByteArray) (ji61), bt (⟨#[48, 49, 50, 51, 52, 53, 54, 55, 56, 57, 65, 66, 67, 68, 69, 70]⟩ : ByteArray) (ji65)] : List Int)) (inner := [.int .u8 92, .int .u8 117, .int .u8 48, .int .u8 48, .int .u8 (bt (⟨#[48, 49, 50, 51, 52, 53, 54, 55, 56, 57, 65, 66, 67, 68, 69, 70]⟩ : ByteArray) (ji61)), .int .u8 (bt (⟨#[48, 49, 50, 51, 52, 53, 54, 55, 56, 57, 65, 66, 67, 68, 69, 70]⟩ : ByteArray) (ji65))]) (ok := fun _ => True) (okp := fun _ => True) ?hr ?hp (fun _ hk => hk) trivial (Below.refl _ _) (Nat.le_refl _) (by simp) ?_; (case hd => rfl); (case hg => rfl); (case hr => first | (go_simp; done) | (go_simp; rfl)); (case hp => exact (Reps.one (show Kd.M (Kd.int .u8) _ _ _ 92 [.int .u8 92] from rfl) (Reps.one (show Kd.M (Kd.int .u8) _ _ _ 117 [.int .u8 117] from rfl) (Reps.one (show Kd.M (Kd.int .u8) _ _ _ 48 [.int .u8 48] from rfl) (Reps.one (show Kd.M (Kd.int .u8) _ _ _ 48 [.int .u8 48] from rfl) (Reps.one (show Kd.M (Kd.int .u8) _ _ _ (bt (⟨#[48, 49, 50, 51, 52, 53, 54, 55, 56, 57, 65, 66, 67, 68, 69, 70]⟩ : ByteArray) (ji61)) [.int .u8 (bt (⟨#[48, 49, 50, 51, 52, 53, 54, 55, 56, 57, 65, 66, 67, 68, 69, 70]⟩ : ByteArray) (ji61))] from rfl) (Reps.one (show Kd.M (Kd.int .u8) _ _ _ (bt (⟨#[48, 49, 50, 51, 52, 53, 54, 55, 56, 57, 65, 66, 67, 68, 69, 70]⟩ : ByteArray) (ji65)) [.int .u8 (bt (⟨#[48, 49, 50, 51, 52, 53, 54, 55, 56, 57, 65, 66, 67, 68, 69, 70]⟩ : ByteArray) (ji65))] from rfl) (Reps.none _ _))))))))
             intro v435 w71 ho72 hb hg_ hnew_
             clear hg_ hnew_
             (first | rw [← Ny434.out] at ho72 | (simp only [Int.reduceToNat] at ho72; rw [← Ny434.out] at ho72))
             have n0_ := Ad.mk (Kd.R_elder' (by have G0 := HO_4; exact z1_) (Kd.R_base ho72) hb)
             have n1_ := Ad.mk (Kd.R_lower (Kd.R_new' ho72 (Kd.R_lt (by have G0 := HO_4; exact z1_))) (below_size b1_))
             have n2_ := Ad.mk (below_step b1_ hb)
             clear HO_4
             clear HB
             have HO_4 := n0_
             have HO436 := n1_
             have HB := n2_
             clear n0_ n1_ n2_
             clear hb ho72
             obtain ⟨Ao74, co74, eo74⟩ := Kd.R_slice HO436.out
             (first | subst eo74 | (injection eo74 with f1_ f2_ f3_; have f4_ := f1_.symm; have f5_ := f3_.symm; clear f1_ f2_ f3_; subst f4_; subst f5_))
             refine hK.out _ _ trivial (fun hHeld => ?_)
             clear hK K
             refine norm_ (a' := ?_) ?_ ?_
             rotate_left
             ·show Act.put _ (some 78) _ = _
              simp only [Act.put, List.setIfInBounds_toArray, List.set_cons_zero, List.set_cons_succ, i64_w, i32_w]
              rfl
             refine one_ (i := 10) (N := some 79) #[true, true, true, true, true, true, true, true, true, true, true, false] rfl rfl (one_of HT_.out k1_) (by decide) (fun K hK => ?_)
             refine Kd.R_append_rows_step (Kd.int .u8) (w0 := w) w.heap.size (by rfl) (.tmp 69) (.tmp 78) 40 5 (.int .u8 0) 1 rfl Tryd.underlying40 info5 rfl (by decide) (by omega) u4 x4_1 y434 _ _ _ (fun k_ => some k_ ≠ (.slice Ao74 y434.length co74 : Value).ownBlock) (fun _ => False) rfl rfl ?aO ?aR (fun _ _ h => h) (fun _ h => h.elim) ?aF ?aB ?aS ?aL ?_
             (case aR => repeat (first | exact (Kd.R_reads' HO436.out).2.2 | (with_reducible refine Kd.C_alloc ?_ _) | (with_reducible refine Kd.C_drewN ?_ _) | (with_reducible refine Kd.C_drew ?_)))
             (case aB => exact b1_)
             (case aF => exact (fun k_ hk => Kd.fresh' (Kd.R_lt (by have G0 := HO436; exact z1_)) k_ hk))
             (case aO => exact (by have G0 := HO_4; exact z23_))
             (case aS => exact (below_size b1_))
             (case aL => have := LMc69.out; omega)
             intro v438 w73 ho hb hg hat
             rw [← Ny437.out] at ho
             have n0_ := Ad.mk (Kd.R_after (ok := (fun _ => True)) (by have G0 := HO436; exact z1_) hg hat)
             have n1_ := Ad.mk (hb)
             have n2_ := Ad.mk (ho)
             clear HO436
             clear HB
             clear HO_4
             have HO436 := n0_
             have HB := n1_
             have HO439 := n2_
             clear n0_ n1_ n2_
             clear ho hb hg hat
             refine hK.out _ _ trivial (fun hHeld => ?_)
             clear hK K
             refine norm_ (a' := ?_) ?_ ?_
             rotate_left
             ·show Act.put _ (some 79) _ = _
              simp only [Act.put, List.setIfInBounds_toArray, List.set_cons_zero, List.set_cons_succ, i64_w, i32_w]
              rfl
             refine pure_ (i := 11) (N := some 4) #[true, true, true, true, true, true, true, true, true, true, true, true] rfl rfl (any_of HT_.out k1_) (fun _ _ _ h => h) (Or.inl ⟨by rfl, py_⟩) pa_ ?_
             refine done_ (done_of HT_.out k1_) ?_
             try go_wp2
             go_roundg kj6
             case measure => have := HK1.out; have := HJ6.out; omega
             case rel => exact ⟨(y437), (wrap64 (x5_1 + 1)), e1_, H', ⟨z29_⟩, ⟨by have G0 := HO439; exact z24_⟩, ⟨b1_⟩⟩
            rw [if_neg c69] at H
            exact absurd H (by simp)
           rw [if_neg c67] at H
           exact absurd H (by simp)
          rw [if_neg c66] at H
          exact absurd H (by simp)
         rw [if_neg c63] at H
         exact absurd H (by simp)
        rw [if_neg c62] at H
        exact absurd H (by simp)
       rw [if_neg c60] at H
       have c60b0 := beq_eq_false_iff_ne.mpr c60
       have c60b1 := bne_iff_ne.mpr c60
       by_cases c75 : x4_1.length < 140737488355328
       ·rw [if_pos c75] at H
        have LMc75 := Ad.mk c75
        clear c75
        generalize hy440 : (x4_1 ++ [(bt a0 x5_1)]) = y440 at H
        replace hy440 := hy440.symm
        have Ny440 := Ad.mk hy440
        clear hy440
        have H' := Ad.mk H
        clear H
        go_wp2_with (first | ((with_reducible refine gate_builtin (b := .append) (xs := #[(.tmp 17), .tmp 19]) rfl ?_); at_builtin; refine Kd.R_append (Kd.int .u8) (w0 := w) w.heap.size rfl (.tmp 17) (.tmp 19) 40 5 (.int .u8 0) 1 rfl Tryd.underlying40 info5 rfl (by decide) (by omega) u4 x4_1 (bt a0 x5_1) [.int .u8 (bt a0 x5_1)] (fun _ => True) (fun _ => False) rfl rfl ?aP (fun _ hk => hk.elim) ?aF ?aO ?aB ?aS ?aL ?_; (case aP => exact rfl); (case aB => exact b1_); (case aF => exact (fun _ _ => trivial)); (case aO => exact (by have G0 := HO_4; exact z1_)); (case aS => exact (below_size b1_)); (case aL => have := LMc75.out; omega); intro v441 w76 ho hb hg hat; rw [← Ny440.out] at ho; have n0_ := Ad.mk (hb); have n1_ := Ad.mk (ho); clear HB; clear HO_4; have HB := n0_; have HO442 := n1_; clear n0_ n1_; clear ho hb hg hat))
        go_roundg kj6
        case measure => have := HK1.out; have := HJ6.out; omega
        case rel => exact ⟨(y440), (wrap64 (x5_1 + 1)), e1_, H', ⟨z29_⟩, ⟨by have G0 := HO442; exact z1_⟩, ⟨b1_⟩⟩
       rw [if_neg c75] at H
       exact absurd H (by simp)
    rw [if_neg c5] at H
    exact absurd H (by simp)
   rw [if_neg c4] at H
   have c4b0 := decide_eq_false c4
   clear c4
   by_cases c77 : x4_1.length < 140737488355328
   ·rw [if_pos c77] at H
    have LMc77 := Ad.mk c77
    clear c77
    generalize hy389 : (x4_1 ++ [34]) = y389 at H
    replace hy389 := hy389.symm
    have Ny389 := Ad.mk hy389
    clear hy389
    obtain rfl := Option.some.inj H
    go_wp2_with (first | ((with_reducible refine gate_builtin (b := .append) (xs := #[(.tmp 80), .tmp 81]) rfl ?_); at_builtin; refine Kd.R_append (Kd.int .u8) (w0 := w) w.heap.size rfl (.tmp 80) (.tmp 81) 40 5 (.int .u8 0) 1 rfl Tryd.underlying40 info5 rfl (by decide) (by omega) u4 x4_1 34 [.int .u8 34] (fun _ => True) (fun _ => False) rfl rfl ?aP (fun _ hk => hk.elim) ?aF ?aO ?aB ?aS ?aL ?_; (case aP => exact rfl); (case aB => exact b1_); (case aF => exact (fun _ _ => trivial)); (case aO => exact (by have G0 := HO_4; exact z1_)); (case aS => exact (below_size b1_)); (case aL => have := LMc77.out; omega); intro v390 w78 ho hb hg hat; rw [← Ny389.out] at ho; have n0_ := Ad.mk (hb); have n1_ := Ad.mk (ho); clear HB; clear HO_4; have HB := n0_; have HO391 := n1_; clear n0_ n1_; clear ho hb hg hat; have hcv79 := own_string (P := Tryd.prog) Tryd.underlying40 Tryd.underlying5 Tryd.underlying9 (Kd.own_of_R HO391.out)))
    go_ret
    exact ⟨e2_, b1_⟩
   rw [if_neg c77] at H
   exact absurd H (by simp)
end Go.Proofs.YtjnhdamilbcmpaaDoor.PTm

import Derived.Test.YtjnhdamilbcmpaaDoorCuPTmx0
import Derived.Test.YtjnhdamilbcmpaaDoorCuPTmx3
import Derived.Test.YtjnhdamilbcmpaaDoorCuPTmx5
namespace Go.Proofs.YtjnhdamilbcmpaaDoor.PTm
open Go.RowKit Go.Proofs.YtjnhdamilbcmpaaDoorW.PrintWords Go.Proofs.YtjnhdamilbcmpaaDoorW.PrintLast Go.Proofs.YtjnhdamilbcmpaaDoorW.PrintMore
attribute [local go_sem] max2_int min2_int max_two min_two max_three min_three max_four min_four
set_option linter.unusedVariables false
set_option linter.unusedSimpArgs false
set_option maxHeartbeats 8000000
set_option maxRecDepth 100000
theorem put_w {n : Int} (h0 : 0 ≤ n) (h1 : n ≤ 1000) : wrap64 n = n := by unfold wrap64; omega
theorem utf_size_le {a t : Int} (h : utf_size.f a = some t) : 1 ≤ t ∧ t ≤ 4 := by
 unfold utf_size.f at h
 repeat' split at h
 all_goals (have := Option.some.inj h; omega)
def utf_Put.f (a0 : Int) : Option (List Int × Int) := (utf_may.f a0).bind fun t132 => (if t132 = true then ((utf_size.f a0).bind fun t133 => (if t133 = 1 then (some ((([(a0) % 256] : List Int)), 0)) else (if 0 ≤ t133 then (if 0 ≤ (wrap64 (6 * (wrap64 (t133 - 1)))) then ((some (([(Go.bits .or .i64 (Go.bits .and .i64 (shr .i64 3840 t133) 255) (shr .i64 a0 (wrap64 (6 * (wrap64 (t133 - 1)))))) % 256] : List Int) : List Int)).bind fun y137 => (if t133 = 4 then (if y137.length < 140737488355328 then ((some (y137 ++ [(Go.bits .or .i64 128 (Go.bits .and .i64 (a0 / 4096) 63)) % 256] : List Int)).bind fun y140 => (if y140.length < 140737488355328 then ((some (y140 ++ [(Go.bits .or .i64 128 (Go.bits .and .i64 (a0 / 64) 63)) % 256] : List Int)).bind fun y143 => (if y143.length < 140737488355328 then (some ((y143 ++ [(Go.bits .or .i64 128 (Go.bits .and .i64 a0 63)) % 256]), 0)) else (none))) else (none))) else (none)) else (if t133 = 3 then (if y137.length < 140737488355328 then ((some (y137 ++ [(Go.bits .or .i64 128 (Go.bits .and .i64 (a0 / 64) 63)) % 256] : List Int)).bind fun y149 => (if y149.length < 140737488355328 then (some ((y149 ++ [(Go.bits .or .i64 128 (Go.bits .and .i64 a0 63)) % 256]), 0)) else (none))) else (none)) else (if y137.length < 140737488355328 then (some ((y137 ++ [(Go.bits .or .i64 128 (Go.bits .and .i64 a0 63)) % 256]), 0)) else (none))))) else (none)) else (none)))) else (some (([] : List Int), 2)))
def utf_Put.T6 : Bool × List (List Nat × List Nat) := (true, [([], []), ([0], [0]), ([1], [1]), ([], []), ([], []), ([4], [4]), ([5], [5]), ([3, 6], [3, 6]), ([2, 7], [2, 7]), ([8], [8]), ([9], [9]), ([10, 0, 1, 2, 3, 4, 5, 6, 7, 8, 9, 10], [10])])
def utf_Put.B6 : List Nat := [0, 1, 3, 0, 0, 16, 48, 120, 255, 511, 1023, 2047]
theorem utf_Put.tab6 : rtab .any (opsOf Tryd.f33 6) = utf_Put.T6 := by kernel_rfl
theorem utf_Put.bits6 : waitsOk utf_Put.T6.2 utf_Put.B6 = true := by kernel_rfl
theorem utf_Put.calls (a0 : Int) (r1 : List Int) (r2 : Int) (w : World) (h : utf_Put.f a0 = some (r1, r2)) :
  Calls Tryd.prog 33 #[.int .i64 a0] w fun e w' => ∃ v0_ : Value, e = .returned (.tuple #[v0_, .int .i64 r2]) ∧ Kd.R (Kd.int .u8) 5 w' w.heap.size (fun _ => True) v0_ r1 ∧ Below w.heap.size w w' := by
 have HB := Ad.mk (Below.refl w.heap.size w)
 have H := h
 clear h
 unfold utf_Put.f at H
 obtain ⟨t132, A2, H⟩ := bi_ H
 by_cases c3 : t132 = true
 ·subst c3
  rw [if_pos rfl] at H
  obtain ⟨t133, A4, H⟩ := bi_ H
  by_cases c5 : t133 = 1
  ·rw [if_pos c5] at H
   have c5b0 := beq_iff_eq.mpr c5
   have c5b1 := bne_eq_false_iff_eq.mpr c5
   clear c5
   generalize hy134 : (([(a0) % 256] : List Int)) = y134 at H
   replace hy134 := hy134.symm
   have Ny134 := Ad.mk hy134
   clear hy134
   simp only [Option.some.injEq, Prod.mk.injEq] at H
   obtain ⟨rfl, rfl⟩ := H
   go_enter Tryd.func33, Tryd.ntmps33
   go_wp2_with (first | ((with_reducible refine gate_callee (f := 40) rfl ?_); refine goesL_ (some 7) rfl rfl Tryd.func40 k1_ rfl #[.int .i64 a0] rfl g1_ ?_; (with_reducible refine (utf_may.calls a0 true _ A2.out).mono ?_); rintro e w' ⟨rfl, ⟨nd, rfl⟩⟩; refine ⟨_, rfl, ?_⟩) | ((with_reducible refine gate_callee (f := 41) rfl ?_); refine goesL_ (some 10) rfl rfl Tryd.func41 k1_ rfl #[.int .i64 a0] rfl g1_ ?_; (with_reducible refine (utf_size.calls a0 t133 _ A4.out).mono ?_); rintro e w' ⟨rfl, ⟨nd, rfl⟩⟩; refine ⟨_, rfl, ?_⟩) | ((with_reducible refine gate_dst (N := 15) rfl ?_); refine Kd.R_lit (Kd.int .u8) _ 5 r1_ (N := 15) r1_ (xs := ([(a0) % 256] : List Int)) (inner := [.int .u8 ((a0) % 256)]) (ok := fun _ => True) (okp := fun _ => True) r2_ ?hp (fun _ hk => hk) trivial (Below.refl _ _) (Nat.le_refl _) (by simp) ?_; (case hp => exact (Reps.one (show Kd.M (Kd.int .u8) _ _ _ ((a0) % 256) [.int .u8 ((a0) % 256)] from rfl) (Reps.none _ _))); intro v135 w6 ho7 hb hg_ hnew_; clear hg_ hnew_; (first | rw [← Ny134.out] at ho7 | (simp only [Int.reduceToNat] at ho7; rw [← Ny134.out] at ho7)); have HO136 := Ad.mk (Kd.R_lower ho7 (below_size b1_)); replace HB := Ad.mk (below_step b1_ hb); clear hb ho7))
   go_ret2
   exact ⟨_, e2_, by have G0 := HO136; exact z1_, b1_⟩
  rw [if_neg c5] at H
  have c5b0 := beq_eq_false_iff_ne.mpr c5
  have c5b1 := bne_iff_ne.mpr c5
  by_cases c8 : 0 ≤ t133
  ·rw [if_pos c8] at H
   have c8b0 := eq_true c8
   have c8b1 := decide_eq_true c8
   clear c8
   have hsz_ := utf_size_le A4.out
   have hsw_ : t133 ≤ 64 := by omega
   obtain ⟨ji9, hji9⟩ : ∃ j_ : Int, (shr .i64 3840 t133) = j_ := ⟨_, rfl⟩
   replace H : (if 0 ≤ (wrap64 (6 * (wrap64 (t133 - 1)))) then ((some (([(Go.bits .or .i64 (Go.bits .and .i64 (ji9) 255) (shr .i64 a0 (wrap64 (6 * (wrap64 (t133 - 1)))))) % 256] : List Int) : List Int)).bind fun y137 => (if t133 = 4 then (if y137.length < 140737488355328 then ((some (y137 ++ [(Go.bits .or .i64 128 (Go.bits .and .i64 (a0 / 4096) 63)) % 256] : List Int)).bind fun y140 => (if y140.length < 140737488355328 then ((some (y140 ++ [(Go.bits .or .i64 128 (Go.bits .and .i64 (a0 / 64) 63)) % 256] : List Int)).bind fun y143 => (if y143.length < 140737488355328 then (some ((y143 ++ [(Go.bits .or .i64 128 (Go.bits .and .i64 a0 63)) % 256]), 0)) else (none))) else (none))) else (none)) else (if t133 = 3 then (if y137.length < 140737488355328 then ((some (y137 ++ [(Go.bits .or .i64 128 (Go.bits .and .i64 (a0 / 64) 63)) % 256] : List Int)).bind fun y149 => (if y149.length < 140737488355328 then (some ((y149 ++ [(Go.bits .or .i64 128 (Go.bits .and .i64 a0 63)) % 256]), 0)) else (none))) else (none)) else (if y137.length < 140737488355328 then (some ((y137 ++ [(Go.bits .or .i64 128 (Go.bits .and .i64 a0 63)) % 256]), 0)) else (none))))) else (none)) = some (r1, r2) := by first | (rw [hji9] at H; exact H) | (simp only [hji9] at H ⊢; exact H)
   (try rw [hji9] at A2)
   (try rw [hji9] at A4)
   have hji9_ : (3840 / 2 ^ min t133.toNat 64) = ji9 := hji9
   have hji9z : t133 ≤ 64 → (3840 / 2 ^ t133.toNat) = ji9 := shr_small hji9
   obtain ⟨ji10, hji10⟩ : ∃ j_ : Int, (wrap64 (6 * (wrap64 (t133 - 1)))) = j_ := ⟨_, rfl⟩
   have hsx_ : ji10 ≤ 64 := by rw [← hji10, put_w (n := t133 - 1) (by omega) (by omega), put_w (by omega) (by omega)]; omega
   replace H : (if 0 ≤ (ji10) then ((some (([(Go.bits .or .i64 (Go.bits .and .i64 (ji9) 255) (shr .i64 a0 (ji10))) % 256] : List Int) : List Int)).bind fun y137 => (if t133 = 4 then (if y137.length < 140737488355328 then ((some (y137 ++ [(Go.bits .or .i64 128 (Go.bits .and .i64 (a0 / 4096) 63)) % 256] : List Int)).bind fun y140 => (if y140.length < 140737488355328 then ((some (y140 ++ [(Go.bits .or .i64 128 (Go.bits .and .i64 (a0 / 64) 63)) % 256] : List Int)).bind fun y143 => (if y143.length < 140737488355328 then (some ((y143 ++ [(Go.bits .or .i64 128 (Go.bits .and .i64 a0 63)) % 256]), 0)) else (none))) else (none))) else (none)) else (if t133 = 3 then (if y137.length < 140737488355328 then ((some (y137 ++ [(Go.bits .or .i64 128 (Go.bits .and .i64 (a0 / 64) 63)) % 256] : List Int)).bind fun y149 => (if y149.length < 140737488355328 then (some ((y149 ++ [(Go.bits .or .i64 128 (Go.bits .and .i64 a0 63)) % 256]), 0)) else (none))) else (none)) else (if y137.length < 140737488355328 then (some ((y137 ++ [(Go.bits .or .i64 128 (Go.bits .and .i64 a0 63)) % 256]), 0)) else (none))))) else (none)) = some (r1, r2) := by first | (rw [hji10] at H; exact H) | (simp only [hji10] at H ⊢; exact H)
   (try rw [hji10] at A2)
   (try rw [hji10] at A4)
   have hji10w : (IntKind.i64.wrap (6 * (wrap64 (t133 - 1)))) = ji10 := (i64_w _).trans hji10
   by_cases c11 : 0 ≤ (ji10)
   ·rw [if_pos c11] at H
    have c11b0 := eq_true c11
    have c11b1 := decide_eq_true c11
    clear c11
    obtain ⟨ji12, hji12⟩ : ∃ j_ : Int, (shr .i64 a0 (ji10)) = j_ := ⟨_, rfl⟩
    replace H : ((some (([(Go.bits .or .i64 (Go.bits .and .i64 (ji9) 255) (ji12)) % 256] : List Int) : List Int)).bind fun y137 => (if t133 = 4 then (if y137.length < 140737488355328 then ((some (y137 ++ [(Go.bits .or .i64 128 (Go.bits .and .i64 (a0 / 4096) 63)) % 256] : List Int)).bind fun y140 => (if y140.length < 140737488355328 then ((some (y140 ++ [(Go.bits .or .i64 128 (Go.bits .and .i64 (a0 / 64) 63)) % 256] : List Int)).bind fun y143 => (if y143.length < 140737488355328 then (some ((y143 ++ [(Go.bits .or .i64 128 (Go.bits .and .i64 a0 63)) % 256]), 0)) else (none))) else (none))) else (none)) else (if t133 = 3 then (if y137.length < 140737488355328 then ((some (y137 ++ [(Go.bits .or .i64 128 (Go.bits .and .i64 (a0 / 64) 63)) % 256] : List Int)).bind fun y149 => (if y149.length < 140737488355328 then (some ((y149 ++ [(Go.bits .or .i64 128 (Go.bits .and .i64 a0 63)) % 256]), 0)) else (none))) else (none)) else (if y137.length < 140737488355328 then (some ((y137 ++ [(Go.bits .or .i64 128 (Go.bits .and .i64 a0 63)) % 256]), 0)) else (none))))) = some (r1, r2) := by first | (rw [hji12] at H; exact H) | (simp only [hji12] at H ⊢; exact H)
    (try rw [hji12] at A2)
    (try rw [hji12] at A4)
    have hji12_ : (a0 / 2 ^ min (ji10).toNat 64) = ji12 := hji12
    have hji12z : (ji10) ≤ 64 → (a0 / 2 ^ (ji10).toNat) = ji12 := shr_small hji12
    replace H := yb_ H
    obtain ⟨y137, hy137, H⟩ := H
    have Ny137 := Ad.mk hy137
    clear hy137
    by_cases c13 : t133 = 4
    ·rw [if_pos c13] at H
     have c13b0 := beq_iff_eq.mpr c13
     have c13b1 := bne_eq_false_iff_eq.mpr c13
     clear c13
     by_cases c14 : y137.length < 140737488355328
     ·rw [if_pos c14] at H
      have LMc14 := Ad.mk c14
      clear c14
      replace H := yb_ H
      obtain ⟨y140, hy140, H⟩ := H
      have Ny140 := Ad.mk hy140
      clear hy140
      by_cases c15 : y140.length < 140737488355328
      ·rw [if_pos c15] at H
       have LMc15 := Ad.mk c15
       clear c15
       replace H := yb_ H
       obtain ⟨y143, hy143, H⟩ := H
       have Ny143 := Ad.mk hy143
       clear hy143
       by_cases c16 : y143.length < 140737488355328
       ·rw [if_pos c16] at H
        have LMc16 := Ad.mk c16
        clear c16
        generalize hy146 : (y143 ++ [(Go.bits .or .i64 128 (Go.bits .and .i64 a0 63)) % 256]) = y146 at H
        replace hy146 := hy146.symm
        have Ny146 := Ad.mk hy146
        clear hy146
        simp only [Option.some.injEq, Prod.mk.injEq] at H
        obtain ⟨rfl, rfl⟩ := H
        go_enter Tryd.func33, Tryd.ntmps33
        try go_wp2_with (first | ((with_reducible refine gate_callee (f := 40) rfl ?_); refine goesL_ (some 7) rfl rfl Tryd.func40 k1_ rfl #[.int .i64 a0] rfl g1_ ?_; (with_reducible refine (utf_may.calls a0 true _ A2.out).mono ?_); rintro e w' ⟨rfl, ⟨ndA, rfl⟩⟩; refine ⟨_, rfl, ?_⟩) | ((with_reducible refine gate_callee (f := 41) rfl ?_); refine goesL_ (some 10) rfl rfl Tryd.func41 k1_ rfl #[.int .i64 a0] rfl g1_ ?_; (with_reducible refine (utf_size.calls a0 t133 _ A4.out).mono ?_); rintro e w' ⟨rfl, ⟨ndB, rfl⟩⟩; refine ⟨_, rfl, ?_⟩))
        have n0_ := Ad.mk (below_drew1 HB.out)
        clear HB
        have HB := n0_
        clear n0_
        refine start_ (n := 12) (S := fun w' => True) (ds := []) #[false, false, false, false, false, false, false, false, false, false, false, false] k1_ rfl rfl trivial (fun hHeld => ?_); refine with_tabW utf_Put.tab6 utf_Put.bits6 (fun HT_ HW_ => ?_)
        clear HB
        have HB := Ad.mk (below_drew1 (pw_below_drewN (Below.refl w.heap.size w) (ndA + ndB)))
        generalize (w.drewN (ndA + ndB)).drew = w17 at HB hHeld ⊢
        refine pure_ (i := 0) (N := some 16) #[true, false, false, false, false, false, false, false, false, false, false, false] rfl rfl (any_of HT_.out k1_) (fun _ _ _ h => h) (Or.inl ⟨by rfl, py_⟩) pa_ ?_
        refine pure_ (i := 1) (N := some 17) #[true, true, false, false, false, false, false, false, false, false, false, false] rfl rfl (any_of HT_.out k1_) (fun _ _ _ h => h) (Or.inl ⟨by rfl, py_⟩) pa_ ?_
        refine pure_ (i := 2) (N := some 18) #[true, true, true, false, false, false, false, false, false, false, false, false] rfl rfl (any_of HT_.out k1_) (fun _ _ _ h => h) (Or.inl ⟨by rfl, py_⟩) pa_ ?_
        refine pure_ (i := 3) (N := some 19) #[true, true, true, true, false, false, false, false, false, false, false, false] rfl rfl (any_of HT_.out k1_) (fun _ _ _ h => h) (Or.inl ⟨by rfl, py_⟩) pa_ ?_
        refine pure_ (i := 4) (N := some 20) #[true, true, true, true, true, false, false, false, false, false, false, false] rfl rfl (any_of HT_.out k1_) (fun _ _ _ h => h) (Or.inl ⟨by rfl, py_⟩) pa_ ?_
        refine pure_ (i := 5) (N := some 21) #[true, true, true, true, true, true, false, false, false, false, false, false] rfl rfl (any_of HT_.out k1_) (fun _ _ _ h => h) (Or.inl ⟨by rfl, py_⟩) pa_ ?_
        refine pure_ (i := 6) (N := some 22) #[true, true, true, true, true, true, true, false, false, false, false, false] rfl rfl (any_of HT_.out k1_) (fun _ _ _ h => h) (Or.inl ⟨by rfl, py_⟩) pa_ ?_
        refine pure_ (i := 7) (N := some 23) #[true, true, true, true, true, true, true, true, false, false, false, false] rfl rfl (any_of HT_.out k1_) (fun _ _ _ h => h) (Or.inl ⟨by rfl, py_⟩) pa_ ?_
        refine pure_ (i := 8) (N := some 24) #[true, true, true, true, true, true, true, true, true, false, false, false] rfl rfl (any_of HT_.out k1_) (fun _ _ _ h => h) (Or.inl ⟨by rfl, py_⟩) pa_ ?_
        refine pure_ (i := 9) (N := some 25) #[true, true, true, true, true, true, true, true, true, true, false, false] rfl rfl (any_of HT_.out k1_) (fun _ _ _ h => h) (Or.inl ⟨by rfl, py_⟩) pa_ ?_
        refine one_ (i := 10) (N := some 26) #[true, true, true, true, true, true, true, true, true, true, true, false] rfl rfl (one_of HT_.out k1_) (by decide) (fun K hK => ?_)
        refine Kd.R_lit_step (Kd.int .u8) _ 5 ?hg (N := 26) ?hd (xs := ([(Go.bits .or .i64 (Go.bits .and .i64 (ji9) 255) (ji12)) % 256] : List Int)) (inner := [.int .u8 ((Go.bits .or .i64 (Go.bits .and .i64 (ji9) 255) (ji12)) % 256)]) (ok := fun _ => True) (okp := fun _ => True) ?hr ?hp (fun _ hk => hk) trivial (Below.refl _ _) (Nat.le_refl _) (by simp) ?_; (case hd => rfl); (case hg => rfl); (case hr => first | (go_simp; done) | (go_simp; rfl)); (case hp => exact (Reps.one (show Kd.M (Kd.int .u8) _ _ _ ((Go.bits .or .i64 (Go.bits .and .i64 (ji9) 255) (ji12)) % 256) [.int .u8 ((Go.bits .or .i64 (Go.bits .and .i64 (ji9) 255) (ji12)) % 256)] from rfl) (Reps.none _ _)))
        intro v138 w18 ho19 hb hg_ hnew_
        clear hg_ hnew_
        (first | rw [← Ny137.out] at ho19 | (simp only [Int.reduceToNat] at ho19; rw [← Ny137.out] at ho19))
        have n0_ := Ad.mk (Kd.R_lower ho19 (below_size b1_))
        have n1_ := Ad.mk (below_step b1_ hb)
        clear HB
        have HO139 := n0_
        have HB := n1_
        clear n0_ n1_
        clear hb ho19
        refine hK.out _ _ trivial (fun hHeld => ?_)
        clear hK K
        refine norm_ (a' := ?_) ?_ ?_
        rotate_left
        ·show Act.put _ (some 26) _ = _
         simp only [Act.put, List.setIfInBounds_toArray, List.set_cons_zero, List.set_cons_succ, i64_w, i32_w]
         rfl
        refine pure_ (i := 11) (N := some 5) #[true, true, true, true, true, true, true, true, true, true, true, true] rfl rfl (any_of HT_.out k1_) (fun _ _ _ h => h) (Or.inl ⟨by rfl, py_⟩) pa_ ?_
        refine done_ (done_of HT_.out k1_) ?_
        try go_wp2_with (first | ((with_reducible refine gate_builtin (b := .append) (xs := #[(.tmp 32), .tmp 38]) rfl ?_); at_builtin; refine Kd.R_append (Kd.int .u8) (w0 := w) w.heap.size rfl (.tmp 32) (.tmp 38) 40 5 (.int .u8 0) 1 rfl Tryd.underlying40 info5 rfl (by decide) (by omega) v138 y137 ((Go.bits .or .i64 128 (Go.bits .and .i64 (a0 / 4096) 63)) % 256) [.int .u8 ((Go.bits .or .i64 128 (Go.bits .and .i64 (a0 / 4096) 63)) % 256)] (fun _ => True) (fun _ => False) rfl rfl ?aP (fun _ hk => hk.elim) ?aF ?aO ?aB ?aS ?aL ?_; (case aP => exact rfl); (case aB => exact b1_); (case aF => exact (fun _ _ => trivial)); (case aO => exact (by have G0 := HO139; exact z1_)); (case aS => exact (below_size b1_)); (case aL => have := LMc14.out; omega); intro v141 w20 ho hb hg hat; rw [← Ny140.out] at ho; have n0_ := Ad.mk (hb); have n1_ := Ad.mk (ho); clear HB; clear HO139; have HB := n0_; have HO142 := n1_; clear n0_ n1_; clear ho hb hg hat) | ((with_reducible refine gate_builtin (b := .append) (xs := #[(.tmp 40), .tmp 46]) rfl ?_); at_builtin; refine Kd.R_append (Kd.int .u8) (w0 := w) w.heap.size rfl (.tmp 40) (.tmp 46) 40 5 (.int .u8 0) 1 rfl Tryd.underlying40 info5 rfl (by decide) (by omega) v141 y140 ((Go.bits .or .i64 128 (Go.bits .and .i64 (a0 / 64) 63)) % 256) [.int .u8 ((Go.bits .or .i64 128 (Go.bits .and .i64 (a0 / 64) 63)) % 256)] (fun _ => True) (fun _ => False) rfl rfl ?aP (fun _ hk => hk.elim) ?aF ?aO ?aB ?aS ?aL ?_; (case aP => exact rfl); (case aB => exact b1_); (case aF => exact (fun _ _ => trivial)); (case aO => exact (by have G0 := HO142; exact z1_)); (case aS => exact (below_size b1_)); (case aL => have := LMc15.out; omega); intro v144 w21 ho hb hg hat; rw [← Ny143.out] at ho; have n0_ := Ad.mk (hb); have n1_ := Ad.mk (ho); clear HB; clear HO142; have HB := n0_; have HO145 := n1_; clear n0_ n1_; clear ho hb hg hat) | ((with_reducible refine gate_builtin (b := .append) (xs := #[(.tmp 48), .tmp 53]) rfl ?_); at_builtin; refine Kd.R_append (Kd.int .u8) (w0 := w) w.heap.size rfl (.tmp 48) (.tmp 53) 40 5 (.int .u8 0) 1 rfl Tryd.underlying40 info5 rfl (by decide) (by omega) v144 y143 ((Go.bits .or .i64 128 (Go.bits .and .i64 a0 63)) % 256) [.int .u8 ((Go.bits .or .i64 128 (Go.bits .and .i64 a0 63)) % 256)] (fun _ => True) (fun _ => False) rfl rfl ?aP (fun _ hk => hk.elim) ?aF ?aO ?aB ?aS ?aL ?_; (case aP => exact rfl); (case aB => exact b1_); (case aF => exact (fun _ _ => trivial)); (case aO => exact (by have G0 := HO145; exact z1_)); (case aS => exact (below_size b1_)); (case aL => have := LMc16.out; omega); intro v147 w22 ho hb hg hat; rw [← Ny146.out] at ho; have n0_ := Ad.mk (hb); have n1_ := Ad.mk (ho); clear HB; clear HO145; have HB := n0_; have HO148 := n1_; clear n0_ n1_; clear ho hb hg hat))
        go_ret2
        exact ⟨_, z50_, by have G0 := HO148; exact z1_, b1_⟩
       rw [if_neg c16] at H
       exact absurd H (by simp)
      rw [if_neg c15] at H
      exact absurd H (by simp)
     rw [if_neg c14] at H
     exact absurd H (by simp)
    rw [if_neg c13] at H
    have c13b0 := beq_eq_false_iff_ne.mpr c13
    have c13b1 := bne_iff_ne.mpr c13
    by_cases c23 : t133 = 3
    ·rw [if_pos c23] at H
     have c23b0 := beq_iff_eq.mpr c23
     have c23b1 := bne_eq_false_iff_eq.mpr c23
     clear c23
     by_cases c24 : y137.length < 140737488355328
     ·rw [if_pos c24] at H
      have LMc24 := Ad.mk c24
      clear c24
      replace H := yb_ H
      obtain ⟨y149, hy149, H⟩ := H
      have Ny149 := Ad.mk hy149
      clear hy149
      by_cases c25 : y149.length < 140737488355328
      ·rw [if_pos c25] at H
       have LMc25 := Ad.mk c25
       clear c25
       generalize hy152 : (y149 ++ [(Go.bits .or .i64 128 (Go.bits .and .i64 a0 63)) % 256]) = y152 at H
       replace hy152 := hy152.symm
       have Ny152 := Ad.mk hy152
       clear hy152
       simp only [Option.some.injEq, Prod.mk.injEq] at H
       obtain ⟨rfl, rfl⟩ := H
       go_enter Tryd.func33, Tryd.ntmps33
       try go_wp2_with (first | ((with_reducible refine gate_callee (f := 40) rfl ?_); refine goesL_ (some 7) rfl rfl Tryd.func40 k1_ rfl #[.int .i64 a0] rfl g1_ ?_; (with_reducible refine (utf_may.calls a0 true _ A2.out).mono ?_); rintro e w' ⟨rfl, ⟨ndA, rfl⟩⟩; refine ⟨_, rfl, ?_⟩) | ((with_reducible refine gate_callee (f := 41) rfl ?_); refine goesL_ (some 10) rfl rfl Tryd.func41 k1_ rfl #[.int .i64 a0] rfl g1_ ?_; (with_reducible refine (utf_size.calls a0 t133 _ A4.out).mono ?_); rintro e w' ⟨rfl, ⟨ndB, rfl⟩⟩; refine ⟨_, rfl, ?_⟩))
       have n0_ := Ad.mk (below_drew1 HB.out)
       clear HB
       have HB := n0_
       clear n0_
       refine start_ (n := 12) (S := fun w' => True) (ds := []) #[false, false, false, false, false, false, false, false, false, false, false, false] k1_ rfl rfl trivial (fun hHeld => ?_); refine with_tabW utf_Put.tab6 utf_Put.bits6 (fun HT_ HW_ => ?_)
       clear HB
       have HB := Ad.mk (below_drew1 (pw_below_drewN (Below.refl w.heap.size w) (ndA + ndB)))
       generalize (w.drewN (ndA + ndB)).drew = w26 at HB hHeld ⊢
       refine pure_ (i := 0) (N := some 16) #[true, false, false, false, false, false, false, false, false, false, false, false] rfl rfl (any_of HT_.out k1_) (fun _ _ _ h => h) (Or.inl ⟨by rfl, py_⟩) pa_ ?_
       refine pure_ (i := 1) (N := some 17) #[true, true, false, false, false, false, false, false, false, false, false, false] rfl rfl (any_of HT_.out k1_) (fun _ _ _ h => h) (Or.inl ⟨by rfl, py_⟩) pa_ ?_
       refine pure_ (i := 2) (N := some 18) #[true, true, true, false, false, false, false, false, false, false, false, false] rfl rfl (any_of HT_.out k1_) (fun _ _ _ h => h) (Or.inl ⟨by rfl, py_⟩) pa_ ?_
       refine pure_ (i := 3) (N := some 19) #[true, true, true, true, false, false, false, false, false, false, false, false] rfl rfl (any_of HT_.out k1_) (fun _ _ _ h => h) (Or.inl ⟨by rfl, py_⟩) pa_ ?_
       refine pure_ (i := 4) (N := some 20) #[true, true, true, true, true, false, false, false, false, false, false, false] rfl rfl (any_of HT_.out k1_) (fun _ _ _ h => h) (Or.inl ⟨by rfl, py_⟩) pa_ ?_
       refine pure_ (i := 5) (N := some 21) #[true, true, true, true, true, true, false, false, false, false, false, false] rfl rfl (any_of HT_.out k1_) (fun _ _ _ h => h) (Or.inl ⟨by rfl, py_⟩) pa_ ?_
       refine pure_ (i := 6) (N := some 22) #[true, true, true, true, true, true, true, false, false, false, false, false] rfl rfl (any_of HT_.out k1_) (fun _ _ _ h => h) (Or.inl ⟨by rfl, py_⟩) pa_ ?_
       refine pure_ (i := 7) (N := some 23) #[true, true, true, true, true, true, true, true, false, false, false, false] rfl rfl (any_of HT_.out k1_) (fun _ _ _ h => h) (Or.inl ⟨by rfl, py_⟩) pa_ ?_
       refine pure_ (i := 8) (N := some 24) #[true, true, true, true, true, true, true, true, true, false, false, false] rfl rfl (any_of HT_.out k1_) (fun _ _ _ h => h) (Or.inl ⟨by rfl, py_⟩) pa_ ?_
       refine pure_ (i := 9) (N := some 25) #[true, true, true, true, true, true, true, true, true, true, false, false] rfl rfl (any_of HT_.out k1_) (fun _ _ _ h => h) (Or.inl ⟨by rfl, py_⟩) pa_ ?_
       refine one_ (i := 10) (N := some 26) #[true, true, true, true, true, true, true, true, true, true, true, false] rfl rfl (one_of HT_.out k1_) (by decide) (fun K hK => ?_)
       refine Kd.R_lit_step (Kd.int .u8) _ 5 ?hg (N := 26) ?hd (xs := ([(Go.bits .or .i64 (Go.bits .and .i64 (ji9) 255) (ji12)) % 256] : List Int)) (inner := [.int .u8 ((Go.bits .or .i64 (Go.bits .and .i64 (ji9) 255) (ji12)) % 256)]) (ok := fun _ => True) (okp := fun _ => True) ?hr ?hp (fun _ hk => hk) trivial (Below.refl _ _) (Nat.le_refl _) (by simp) ?_; (case hd => rfl); (case hg => rfl); (case hr => first | (go_simp; done) | (go_simp; rfl)); (case hp => exact (Reps.one (show Kd.M (Kd.int .u8) _ _ _ ((Go.bits .or .i64 (Go.bits .and .i64 (ji9) 255) (ji12)) % 256) [.int .u8 ((Go.bits .or .i64 (Go.bits .and .i64 (ji9) 255) (ji12)) % 256)] from rfl) (Reps.none _ _)))
       intro v138 w27 ho28 hb hg_ hnew_
       clear hg_ hnew_
       (first | rw [← Ny137.out] at ho28 | (simp only [Int.reduceToNat] at ho28; rw [← Ny137.out] at ho28))
       have n0_ := Ad.mk (Kd.R_lower ho28 (below_size b1_))
       have n1_ := Ad.mk (below_step b1_ hb)
       clear HB
       have HO139 := n0_
       have HB := n1_
       clear n0_ n1_
       clear hb ho28
       refine hK.out _ _ trivial (fun hHeld => ?_)
       clear hK K
       refine norm_ (a' := ?_) ?_ ?_
       rotate_left
       ·show Act.put _ (some 26) _ = _
        simp only [Act.put, List.setIfInBounds_toArray, List.set_cons_zero, List.set_cons_succ, i64_w, i32_w]
        rfl
       refine pure_ (i := 11) (N := some 5) #[true, true, true, true, true, true, true, true, true, true, true, true] rfl rfl (any_of HT_.out k1_) (fun _ _ _ h => h) (Or.inl ⟨by rfl, py_⟩) pa_ ?_
       refine done_ (done_of HT_.out k1_) ?_
       try go_wp2_with (first | ((with_reducible refine gate_builtin (b := .append) (xs := #[(.tmp 40), .tmp 46]) rfl ?_); at_builtin; refine Kd.R_append (Kd.int .u8) (w0 := w) w.heap.size rfl (.tmp 40) (.tmp 46) 40 5 (.int .u8 0) 1 rfl Tryd.underlying40 info5 rfl (by decide) (by omega) v138 y137 ((Go.bits .or .i64 128 (Go.bits .and .i64 (a0 / 64) 63)) % 256) [.int .u8 ((Go.bits .or .i64 128 (Go.bits .and .i64 (a0 / 64) 63)) % 256)] (fun _ => True) (fun _ => False) rfl rfl ?aP (fun _ hk => hk.elim) ?aF ?aO ?aB ?aS ?aL ?_; (case aP => exact rfl); (case aB => exact b1_); (case aF => exact (fun _ _ => trivial)); (case aO => exact (by have G0 := HO139; exact z1_)); (case aS => exact (below_size b1_)); (case aL => have := LMc24.out; omega); intro v150 w29 ho hb hg hat; rw [← Ny149.out] at ho; have n0_ := Ad.mk (hb); have n1_ := Ad.mk (ho); clear HB; clear HO139; have HB := n0_; have HO151 := n1_; clear n0_ n1_; clear ho hb hg hat) | ((with_reducible refine gate_builtin (b := .append) (xs := #[(.tmp 48), .tmp 53]) rfl ?_); at_builtin; refine Kd.R_append (Kd.int .u8) (w0 := w) w.heap.size rfl (.tmp 48) (.tmp 53) 40 5 (.int .u8 0) 1 rfl Tryd.underlying40 info5 rfl (by decide) (by omega) v150 y149 ((Go.bits .or .i64 128 (Go.bits .and .i64 a0 63)) % 256) [.int .u8 ((Go.bits .or .i64 128 (Go.bits .and .i64 a0 63)) % 256)] (fun _ => True) (fun _ => False) rfl rfl ?aP (fun _ hk => hk.elim) ?aF ?aO ?aB ?aS ?aL ?_; (case aP => exact rfl); (case aB => exact b1_); (case aF => exact (fun _ _ => trivial)); (case aO => exact (by have G0 := HO151; exact z1_)); (case aS => exact (below_size b1_)); (case aL => have := LMc25.out; omega); intro v153 w30 ho hb hg hat; rw [← Ny152.out] at ho; have n0_ := Ad.mk (hb); have n1_ := Ad.mk (ho); clear HB; clear HO151; have HB := n0_; have HO154 := n1_; clear n0_ n1_; clear ho hb hg hat))
       go_ret2
       exact ⟨_, z50_, by have G0 := HO154; exact z1_, b1_⟩
      rw [if_neg c25] at H
      exact absurd H (by simp)
     rw [if_neg c24] at H
     exact absurd H (by simp)
    rw [if_neg c23] at H
    have c23b0 := beq_eq_false_iff_ne.mpr c23
    have c23b1 := bne_iff_ne.mpr c23
    by_cases c31 : y137.length < 140737488355328
    ·rw [if_pos c31] at H
     have LMc31 := Ad.mk c31
     clear c31
     generalize hy155 : (y137 ++ [(Go.bits .or .i64 128 (Go.bits .and .i64 a0 63)) % 256]) = y155 at H
     replace hy155 := hy155.symm
     have Ny155 := Ad.mk hy155
     clear hy155
     simp only [Option.some.injEq, Prod.mk.injEq] at H
     obtain ⟨rfl, rfl⟩ := H
     go_enter Tryd.func33, Tryd.ntmps33
     try go_wp2_with (first | ((with_reducible refine gate_callee (f := 40) rfl ?_); refine goesL_ (some 7) rfl rfl Tryd.func40 k1_ rfl #[.int .i64 a0] rfl g1_ ?_; (with_reducible refine (utf_may.calls a0 true _ A2.out).mono ?_); rintro e w' ⟨rfl, ⟨ndA, rfl⟩⟩; refine ⟨_, rfl, ?_⟩) | ((with_reducible refine gate_callee (f := 41) rfl ?_); refine goesL_ (some 10) rfl rfl Tryd.func41 k1_ rfl #[.int .i64 a0] rfl g1_ ?_; (with_reducible refine (utf_size.calls a0 t133 _ A4.out).mono ?_); rintro e w' ⟨rfl, ⟨ndB, rfl⟩⟩; refine ⟨_, rfl, ?_⟩))
     have n0_ := Ad.mk (below_drew1 HB.out)
     clear HB
     have HB := n0_
     clear n0_
     refine start_ (n := 12) (S := fun w' => True) (ds := []) #[false, false, false, false, false, false, false, false, false, false, false, false] k1_ rfl rfl trivial (fun hHeld => ?_); refine with_tabW utf_Put.tab6 utf_Put.bits6 (fun HT_ HW_ => ?_)
     clear HB
     have HB := Ad.mk (below_drew1 (pw_below_drewN (Below.refl w.heap.size w) (ndA + ndB)))
     generalize (w.drewN (ndA + ndB)).drew = w32 at HB hHeld ⊢
     refine pure_ (i := 0) (N := some 16) #[true, false, false, false, false, false, false, false, false, false, false, false] rfl rfl (any_of HT_.out k1_) (fun _ _ _ h => h) (Or.inl ⟨by rfl, py_⟩) pa_ ?_
     refine pure_ (i := 1) (N := some 17) #[true, true, false, false, false, false, false, false, false, false, false, false] rfl rfl (any_of HT_.out k1_) (fun _ _ _ h => h) (Or.inl ⟨by rfl, py_⟩) pa_ ?_
     refine pure_ (i := 2) (N := some 18) #[true, true, true, false, false, false, false, false, false, false, false, false] rfl rfl (any_of HT_.out k1_) (fun _ _ _ h => h) (Or.inl ⟨by rfl, py_⟩) pa_ ?_
     refine pure_ (i := 3) (N := some 19) #[true, true, true, true, false, false, false, false, false, false, false, false] rfl rfl (any_of HT_.out k1_) (fun _ _ _ h => h) (Or.inl ⟨by rfl, py_⟩) pa_ ?_
     refine pure_ (i := 4) (N := some 20) #[true, true, true, true, true, false, false, false, false, false, false, false] rfl rfl (any_of HT_.out k1_) (fun _ _ _ h => h) (Or.inl ⟨by rfl, py_⟩) pa_ ?_
     refine pure_ (i := 5) (N := some 21) #[true, true, true, true, true, true, false, false, false, false, false, false] rfl rfl (any_of HT_.out k1_) (fun _ _ _ h => h) (Or.inl ⟨by rfl, py_⟩) pa_ ?_
     refine pure_ (i := 6) (N := some 22) #[true, true, true, true, true, true, true, false, false, false, false, false] rfl rfl (any_of HT_.out k1_) (fun _ _ _ h => h) (Or.inl ⟨by rfl, py_⟩) pa_ ?_
     refine pure_ (i := 7) (N := some 23) #[true, true, true, true, true, true, true, true, false, false, false, false] rfl rfl (any_of HT_.out k1_) (fun _ _ _ h => h) (Or.inl ⟨by rfl, py_⟩) pa_ ?_
     refine pure_ (i := 8) (N := some 24) #[true, true, true, true, true, true, true, true, true, false, false, false] rfl rfl (any_of HT_.out k1_) (fun _ _ _ h => h) (Or.inl ⟨by rfl, py_⟩) pa_ ?_
     refine pure_ (i := 9) (N := some 25) #[true, true, true, true, true, true, true, true, true, true, false, false] rfl rfl (any_of HT_.out k1_) (fun _ _ _ h => h) (Or.inl ⟨by rfl, py_⟩) pa_ ?_
     refine one_ (i := 10) (N := some 26) #[true, true, true, true, true, true, true, true, true, true, true, false] rfl rfl (one_of HT_.out k1_) (by decide) (fun K hK => ?_)
     refine Kd.R_lit_step (Kd.int .u8) _ 5 ?hg (N := 26) ?hd (xs := ([(Go.bits .or .i64 (Go.bits .and .i64 (ji9) 255) (ji12)) % 256] : List Int)) (inner := [.int .u8 ((Go.bits .or .i64 (Go.bits .and .i64 (ji9) 255) (ji12)) % 256)]) (ok := fun _ => True) (okp := fun _ => True) ?hr ?hp (fun _ hk => hk) trivial (Below.refl _ _) (Nat.le_refl _) (by simp) ?_; (case hd => rfl); (case hg => rfl); (case hr => first | (go_simp; done) | (go_simp; rfl)); (case hp => exact (Reps.one (show Kd.M (Kd.int .u8) _ _ _ ((Go.bits .or .i64 (Go.bits .and .i64 (ji9) 255) (ji12)) % 256) [.int .u8 ((Go.bits .or .i64 (Go.bits .and .i64 (ji9) 255) (ji12)) % 256)] from rfl) (Reps.none _ _)))
     intro v138 w33 ho34 hb hg_ hnew_
     clear hg_ hnew_
     (first | rw [← Ny137.out] at ho34 | (simp only [Int.reduceToNat] at ho34; rw [← Ny137.out] at ho34))
     have n0_ := Ad.mk (Kd.R_lower ho34 (below_size b1_))
     have n1_ := Ad.mk (below_step b1_ hb)
     clear HB
     have HO139 := n0_
     have HB := n1_
     clear n0_ n1_
     clear hb ho34
     refine hK.out _ _ trivial (fun hHeld => ?_)
     clear hK K
     refine norm_ (a' := ?_) ?_ ?_
     rotate_left
     ·show Act.put _ (some 26) _ = _
      simp only [Act.put, List.setIfInBounds_toArray, List.set_cons_zero, List.set_cons_succ, i64_w, i32_w]
      rfl
     refine pure_ (i := 11) (N := some 5) #[true, true, true, true, true, true, true, true, true, true, true, true] rfl rfl (any_of HT_.out k1_) (fun _ _ _ h => h) (Or.inl ⟨by rfl, py_⟩) pa_ ?_
     refine done_ (done_of HT_.out k1_) ?_
     try go_wp2_with (first | ((with_reducible refine gate_builtin (b := .append) (xs := #[(.tmp 48), .tmp 53]) rfl ?_); at_builtin; refine Kd.R_append (Kd.int .u8) (w0 := w) w.heap.size rfl (.tmp 48) (.tmp 53) 40 5 (.int .u8 0) 1 rfl Tryd.underlying40 info5 rfl (by decide) (by omega) v138 y137 ((Go.bits .or .i64 128 (Go.bits .and .i64 a0 63)) % 256) [.int .u8 ((Go.bits .or .i64 128 (Go.bits .and .i64 a0 63)) % 256)] (fun _ => True) (fun _ => False) rfl rfl ?aP (fun _ hk => hk.elim) ?aF ?aO ?aB ?aS ?aL ?_; (case aP => exact rfl); (case aB => exact b1_); (case aF => exact (fun _ _ => trivial)); (case aO => exact (by have G0 := HO139; exact z1_)); (case aS => exact (below_size b1_)); (case aL => have := LMc31.out; omega); intro v156 w35 ho hb hg hat; rw [← Ny155.out] at ho; have n0_ := Ad.mk (hb); have n1_ := Ad.mk (ho); clear HB; clear HO139; have HB := n0_; have HO157 := n1_; clear n0_ n1_; clear ho hb hg hat))
     go_ret2
     exact ⟨_, z50_, by have G0 := HO157; exact z1_, b1_⟩
    rw [if_neg c31] at H
    exact absurd H (by simp)
   rw [if_neg c11] at H
   exact absurd H (by simp)
  rw [if_neg c8] at H
  exact absurd H (by simp)
 replace c3 := Bool.eq_false_iff.mpr c3
 subst c3
 rw [if_neg (show ¬ (false = true) by decide)] at H
 simp only [Option.some.injEq, Prod.mk.injEq] at H
 obtain ⟨rfl, rfl⟩ := H
 go_enter Tryd.func33, Tryd.ntmps33
 go_wp2_with (first | ((with_reducible refine gate_callee (f := 40) rfl ?_); refine goesL_ (some 7) rfl rfl Tryd.func40 k1_ rfl #[.int .i64 a0] rfl g1_ ?_; (with_reducible refine (utf_may.calls a0 false _ A2.out).mono ?_); rintro e w' ⟨rfl, ⟨nd, rfl⟩⟩; refine ⟨_, rfl, ?_⟩))
 go_ret2
 exact ⟨_, e2_, z54_, b1_⟩
def ls_fail.f (s0_0 : ByteArray) (s0_1 : Int) (a1 : Int) : Option (ByteArray × Int) := none
theorem ls_fail.calls (g : Nat) (s0_0 : ByteArray) (s0_1 : Int) (a1 : Int) (r1 : ByteArray) (r2 : Int) (w0 w : World) (hI : IsS65 w0 w g s0_0 s0_1) (hB : Below w0.heap.size w0 w) (h : ls_fail.f s0_0 s0_1 a1 = some (r1, r2)) :
  Calls Tryd.prog 50 #[.pointer (some ⟨g, 0, none⟩), .int .i64 a1] w fun e w' => e = .returned (.tuple #[]) ∧ IsS65 w0 w' g r1 r2 ∧ Below w0.heap.size w0 w' ∧ KeepBut w w' g none := by
 cases h
mutual
def ls_digits.l0 : Nat → Int → Int → Int → ByteArray → Int → Option (Int × ByteArray × Int)
 | 0, _, _, _, _, _ => none
 | k + 1, x5, x7, x8, x1000, x1001 => if x8 < x7 then ((ls_ch.f x1000 x1001 x1001).bind fun bt158 => ((lex_digit.f bt158.1).bind fun t161 => (if t161 = true then (ls_digits.l0 k (Go.bits .or .i64 (wrap64 (x5 * 16)) ((bt158.1 - 48) % 256)) x7 (wrap64 (x8 + 1)) bt158.2.1 (wrap64 (bt158.2.2 + 1))) else (if bt158.1 ≥ 65 then (ls_digits.j1 k x5 bt158.1 x7 x8 (decide (bt158.1 ≤ 70)) bt158.2.1 bt158.2.2) else (ls_digits.j1 k x5 bt158.1 x7 x8 false bt158.2.1 bt158.2.2))))) else (some (x5, x1000, x1001))
def ls_digits.j1 : Nat → Int → Int → Int → Int → Bool → ByteArray → Int → Option (Int × ByteArray × Int)
 | 0, _, _, _, _, _, _, _ => none
 | k + 1, x5, x6, x7, x8, x25, x1000, x1001 => if x25 = true then (ls_digits.l0 k (Go.bits .or .i64 (wrap64 (x5 * 16)) ((((x6 - 65) % 256) + 10) % 256)) x7 (wrap64 (x8 + 1)) x1000 (wrap64 (x1001 + 1))) else (if x6 ≥ 97 then (if x6 ≤ 102 then (ls_digits.l0 k (Go.bits .or .i64 (wrap64 (x5 * 16)) ((((x6 - 97) % 256) + 10) % 256)) x7 (wrap64 (x8 + 1)) x1000 (wrap64 (x1001 + 1))) else (some ((-1), x1000, x1001))) else (some ((-1), x1000, x1001)))
end
def ls_digits.f (k : Nat) (s0_0 : ByteArray) (s0_1 : Int) (a1 : Int) : Option (Int × ByteArray × Int) := ls_digits.l0 k 0 a1 0 s0_0 s0_1
theorem ls_digits.calls (k : Nat) (g : Nat) (s0_0 : ByteArray) (s0_1 : Int) (a1 : Int) (r1 : Int) (r2 : ByteArray) (r3 : Int) (w0 w : World) (hI : IsS65 w0 w g s0_0 s0_1) (hB : Below w0.heap.size w0 w) (h : ls_digits.f k s0_0 s0_1 a1 = some (r1, r2, r3)) :
  Calls Tryd.prog 85 #[.pointer (some ⟨g, 0, none⟩), .int .i64 a1] w fun e w' => e = .returned (.int .i64 r1) ∧ IsS65 w0 w' g r2 r3 ∧ Below w0.heap.size w0 w' ∧ KeepBut w w' g none := by
 have HI0 := Ad.mk hI
 have HK := Ad.mk (KeepBut.refl w g none)
 have HL := Ad.mk hB.size
 clear hI
 have HW0 := Ad.mk hB.size
 have HB := Ad.mk hB
 clear hB
 have H := h
 clear h
 unfold ls_digits.f at H
 have H' := Ad.mk H
 clear H
 go_enter Tryd.func85, Tryd.ntmps85
 go_wp2
 go_loopg [5, 8] k (fun kq v5 v8 w' => ∃ (x5_1 : Int) (x8_1 : Int) (x1000_1 : ByteArray) (x1001_1 : Int), v5 = .int .i64 x5_1 ∧ v8 = .int .i64 x8_1 ∧ Ad (ls_digits.l0 kq x5_1 a1 x8_1 x1000_1 x1001_1 = some (r1, r2, r3)) ∧ Ad (kq ≤ k) ∧ Ad (IsS65 w0 w' g x1000_1 x1001_1) ∧ Ad (KeepBut w w' g none) ∧ Ad (Below w0.heap.size w0 w'))
 case atStart => exact ⟨(0), (0), (s0_0), (s0_1), e1_, e1_, H', ⟨Nat.le_refl _⟩, ⟨by have G0 := HI0; exact z2_⟩, ⟨z3_⟩, ⟨by have G0 := HI0; exact z4_⟩⟩
 case round =>
  clear H'
  try clear p2
  obtain ⟨x5_1, x8_1, x1000_1, x1001_1, rfl, rfl, HA, HK1, HI0, HK, HB⟩ := hrel
  cases gk with
  | zero => exact absurd HA.out (by simp [ls_digits.l0])
  | succ k1 =>
   have H := HA.out
   clear HA
   simp only [ls_digits.l0] at H
   by_cases c3 : x8_1 < a1
   ·rw [if_pos c3] at H
    have c3b0 := decide_eq_true c3
    clear c3
    obtain ⟨⟨t158, t159, t160⟩, A4, H⟩ := bi_ H
    try dsimp only at H
    obtain ⟨t161, A5, H⟩ := bi_ H
    by_cases c6 : t161 = true
    ·subst c6
     rw [if_pos rfl] at H
     have H' := Ad.mk H
     clear H
     obtain ⟨HGz7, hgz7⟩ := HI0.out
     have hcz7_0 := cellS65_0 HGz7
     have hcz7_1 := cellS65_1 HGz7
     have hfz7_0 := blk_frozen HGz7 0
     have hfz7_1 := blk_frozen HGz7 1
     clear HGz7 hgz7
     go_wp2_with (first | ((with_reducible refine gate_callee (f := 63) rfl ?_); refine goesL_ (some 15) rfl rfl Tryd.func63 k1_ rfl #[.pointer (some ⟨g, 0, none⟩), .int .i64 x1001_1] rfl g1_ ?_; (with_reducible refine (ls_ch.calls g x1000_1 x1001_1 x1001_1 t158 t159 t160 w0 _ ?side1 ?side2 A4.out).mono ?_); (case side1 => exact (by have G0 := HI0; exact z2_)); (case side2 => exact (by have G0 := HI0; exact z4_)); rintro e w8 ⟨rfl, hi, hb, hk⟩; refine ⟨_, rfl, ?_⟩; replace HK := Ad.mk (KeepBut.trans z3_ hk (.inl rfl)); replace HB := Ad.mk (hb); replace HI0 := Ad.mk (hi); clear hb hk hi) | ((with_reducible refine gate_callee (f := 68) rfl ?_); refine goesL_ (some 18) rfl rfl Tryd.func68 k1_ rfl #[.int .u8 t158] rfl g1_ ?_; (with_reducible refine (lex_digit.calls t158 true _ A5.out).mono ?_); rintro e w' ⟨rfl, ⟨nd, rfl⟩⟩; refine ⟨_, rfl, ?_⟩; (try (rw [drewN_self w8]; generalize hq_ : World.drewN w8 _ = w8; have n0_ : Ad (IsS65 w0 w8 g t159 t160) := ⟨by rw [← hq_]; exact (by have G0 := HI0; exact z2_)⟩; have n1_ : Ad (KeepBut w w8 g none) := ⟨by rw [← hq_]; exact z3_⟩; have n2_ : Ad (Below w0.heap.size w0 w8) := ⟨by rw [← hq_]; exact (by have G0 := HI0; exact z4_)⟩; clear HI0 HK HB hq_; have HI0 := n0_; have HK := n1_; have HB := n2_; clear n0_ n1_ n2_)); obtain ⟨HGz9, hgz9⟩ := HI0.out; have hcz9_0 := cellS65_0 HGz9; have hcz9_1 := cellS65_1 HGz9; have hfz9_0 := blk_frozen HGz9 0; have hfz9_1 := blk_frozen HGz9 1; clear HGz9 hgz9))
     go_roundg k1
     case measure => have := HK1.out; omega
     case rel => exact ⟨(Go.bits .or .i64 (wrap64 (x5_1 * 16)) ((t158 - 48) % 256)), (wrap64 (x8_1 + 1)), (t159), (wrap64 (t160 + 1)), e1_, e1_, H', ⟨by have := HK1.out; omega⟩, ⟨by have G0 := HI0; exact z2_⟩, ⟨z3_⟩, ⟨by have G0 := HI0; exact z4_⟩⟩
    replace c6 := Bool.eq_false_iff.mpr c6
    subst c6
    rw [if_neg (show ¬ (false = true) by decide)] at H
    have HC10 := Ad.mk H
    clear H
    obtain ⟨HGz11, hgz11⟩ := HI0.out
    have hcz11_0 := cellS65_0 HGz11
    have hcz11_1 := cellS65_1 HGz11
    have hfz11_0 := blk_frozen HGz11 0
    have hfz11_1 := blk_frozen HGz11 1
    clear HGz11 hgz11
    go_upto_region 8 with (first | ((with_reducible refine gate_callee (f := 63) rfl ?_); refine goesL_ (some 15) rfl rfl Tryd.func63 k1_ rfl #[.pointer (some ⟨g, 0, none⟩), .int .i64 x1001_1] rfl g1_ ?_; (with_reducible refine (ls_ch.calls g x1000_1 x1001_1 x1001_1 t158 t159 t160 w0 _ ?side1 ?side2 A4.out).mono ?_); (case side1 => exact (by have G0 := HI0; exact z2_)); (case side2 => exact (by have G0 := HI0; exact z4_)); rintro e w12 ⟨rfl, hi, hb, hk⟩; refine ⟨_, rfl, ?_⟩; replace HK := Ad.mk (KeepBut.trans z3_ hk (.inl rfl)); replace HB := Ad.mk (hb); replace HI0 := Ad.mk (hi); clear hb hk hi) | ((with_reducible refine gate_callee (f := 68) rfl ?_); refine goesL_ (some 18) rfl rfl Tryd.func68 k1_ rfl #[.int .u8 t158] rfl g1_ ?_; (with_reducible refine (lex_digit.calls t158 false _ A5.out).mono ?_); rintro e w' ⟨rfl, ⟨nd, rfl⟩⟩; refine ⟨_, rfl, ?_⟩))
    (try simp only [Act.put, List.setIfInBounds_toArray, List.set_cons_zero, List.set_cons_succ])
    go_cut [25] (fun v25 wc => ∃ (kq : Nat) (x25_9 : Bool), v25 = .bool x25_9 ∧ Ad (ls_digits.j1 kq x5_1 t158 a1 x8_1 x25_9 t159 t160 = some (r1, r2, r3)) ∧ Ad (kq ≤ k1) ∧ Ad (IsS65 w0 wc g t159 t160) ∧ Ad (KeepBut w wc g none) ∧ Ad (Below w0.heap.size w0 wc))
    case first =>
     have H := HC10.out
     clear HC10
     by_cases c13 : t158 ≥ 65
     ·rw [if_pos c13] at H
      have c13b0 : decide (65 ≤ t158) = true := decide_eq_true c13
      clear c13
      (first | rw [c13b0] | (simp only [i64_w, i32_w]; rw [c13b0]) | skip)
      have H' := Ad.mk H
      clear H
      go_wp2
      go_meet
      case rel => exact ⟨_, (decide (t158 ≤ 70)), e1_, H', ⟨o1_⟩, ⟨by have G0 := HI0; exact z2_⟩, ⟨z3_⟩, ⟨by have G0 := HI0; exact z4_⟩⟩
     rw [if_neg c13] at H
     have c13b0 : decide (65 ≤ t158) = false := decide_eq_false c13
     clear c13
     (first | rw [c13b0] | (simp only [i64_w, i32_w]; rw [c13b0]) | skip)
     have H' := Ad.mk H
     clear H
     go_wp2
     go_meet
     case rel => exact ⟨_, (false), e1_, H', ⟨o1_⟩, ⟨by have G0 := HI0; exact z2_⟩, ⟨z3_⟩, ⟨by have G0 := HI0; exact z4_⟩⟩
    case rest =>
     clear HC10
     try clear p2
     try clear c3
     try clear c3b0
     try clear c6
     try clear hcz11_0
     try clear hcz11_1
     try clear hcz7_0
     try clear hcz7_1
     try clear hcz9_0
     try clear hcz9_1
     try clear hfz11_0
     try clear hfz11_1
     try clear hfz7_0
     try clear hfz7_1
     try clear hfz9_0
     try clear hfz9_1
     try clear p2
     obtain ⟨kq, x25_9, rfl, HA, HJ9, HI0, HK, HB⟩ := hcut
     cases kq with
     | zero => exact absurd HA.out (by simp [ls_digits.j1])
     | succ kj9 =>
      have H := HA.out
      clear HA
      simp only [ls_digits.j1] at H
      by_cases c14 : x25_9 = true
      ·subst c14
       rw [if_pos rfl] at H
       have H' := Ad.mk H
       clear H
       obtain ⟨HGz15, hgz15⟩ := HI0.out
       have hcz15_0 := cellS65_0 HGz15
       have hcz15_1 := cellS65_1 HGz15
       have hfz15_0 := blk_frozen HGz15 0
       have hfz15_1 := blk_frozen HGz15 1
       clear HGz15 hgz15
       go_wp2
       go_roundg kj9
       case measure => have := HK1.out; have := HJ9.out; omega
       case rel => exact ⟨(Go.bits .or .i64 (wrap64 (x5_1 * 16)) ((((t158 - 65) % 256) + 10) % 256)), (wrap64 (x8_1 + 1)), (t159), (wrap64 (t160 + 1)), e1_, e1_, H', ⟨by have := HK1.out; have := HJ9.out; omega⟩, ⟨by have G0 := HI0; exact z2_⟩, ⟨z3_⟩, ⟨by have G0 := HI0; exact z4_⟩⟩
      replace c14 := Bool.eq_false_iff.mpr c14
      subst c14
      rw [if_neg (show ¬ (false = true) by decide)] at H
      by_cases c16 : t158 ≥ 97
      ·rw [if_pos c16] at H
       have c16b0 : decide (97 ≤ t158) = true := decide_eq_true c16
       clear c16
       by_cases c17 : t158 ≤ 102
       ·rw [if_pos c17] at H
        have c17b0 := decide_eq_true c17
        clear c17
        have H' := Ad.mk H
        clear H
        obtain ⟨HGz18, hgz18⟩ := HI0.out
        have hcz18_0 := cellS65_0 HGz18
        have hcz18_1 := cellS65_1 HGz18
        have hfz18_0 := blk_frozen HGz18 0
        have hfz18_1 := blk_frozen HGz18 1
        clear HGz18 hgz18
        go_wp2
        go_roundg kj9
        case measure => have := HK1.out; have := HJ9.out; omega
        case rel => exact ⟨(Go.bits .or .i64 (wrap64 (x5_1 * 16)) ((((t158 - 97) % 256) + 10) % 256)), (wrap64 (x8_1 + 1)), (t159), (wrap64 (t160 + 1)), e1_, e1_, H', ⟨by have := HK1.out; have := HJ9.out; omega⟩, ⟨by have G0 := HI0; exact z2_⟩, ⟨z3_⟩, ⟨by have G0 := HI0; exact z4_⟩⟩
       rw [if_neg c17] at H
       have c17b0 := decide_eq_false c17
       clear c17
       simp only [Option.some.injEq, Prod.mk.injEq] at H
       obtain ⟨rfl, rfl, rfl⟩ := H
       go_wp2
       go_ret
       exact ⟨e2_, by have G0 := HI0; exact z2_, by have G0 := HI0; exact z4_, z3_⟩
      rw [if_neg c16] at H
      have c16b0 : decide (97 ≤ t158) = false := decide_eq_false c16
      clear c16
      simp only [Option.some.injEq, Prod.mk.injEq] at H
      obtain ⟨rfl, rfl, rfl⟩ := H
      go_wp2
      go_ret
      exact ⟨e2_, by have G0 := HI0; exact z2_, by have G0 := HI0; exact z4_, z3_⟩
   rw [if_neg c3] at H
   have c3b0 := decide_eq_false c3
   clear c3
   simp only [Option.some.injEq, Prod.mk.injEq] at H
   obtain ⟨rfl, rfl, rfl⟩ := H
   go_wp2
   go_ret
   exact ⟨e2_, by have G0 := HI0; exact z2_, by have G0 := HI0; exact z4_, z3_⟩
end Go.Proofs.YtjnhdamilbcmpaaDoor.PTm

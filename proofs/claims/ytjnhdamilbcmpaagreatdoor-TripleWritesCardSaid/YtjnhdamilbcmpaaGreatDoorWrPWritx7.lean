import Derived.Test.YtjnhdamilbcmpaaGreatDoorWrPWritx0
import Derived.Test.YtjnhdamilbcmpaaGreatDoorWrPWritx2
import Derived.Test.YtjnhdamilbcmpaaGreatDoorWrPWritx3
import Derived.Test.YtjnhdamilbcmpaaGreatDoorWrPWritx4
import Derived.Test.YtjnhdamilbcmpaaGreatDoorWrPWritx6
namespace Go.Proofs.YtjnhdamilbcmpaaGreatDoor.PWrit
open Go.RowKit Go.Proofs.YtjnhdamilbcmpaaGreatDoorW.PrintWords Go.Proofs.YtjnhdamilbcmpaaGreatDoorW.PrintLast Go.Proofs.YtjnhdamilbcmpaaGreatDoorW.PrintMore
attribute [local go_sem] max2_int min2_int max_two min_two max_three min_three max_four min_four
set_option linter.unusedVariables false
set_option linter.unusedSimpArgs false
theorem put_w {n : Int} (h0 : 0 ≤ n) (h1 : n ≤ 1000) : wrap64 n = n := by unfold wrap64; omega
theorem utf_size_le {a t : Int} (h : utf_size.f a = some t) : 1 ≤ t ∧ t ≤ 4 := by
 unfold utf_size.f at h
 repeat' split at h
 all_goals (have := Option.some.inj h; omega)
def utf_Put.f (a0 : Int) : Option (List Int × Int) := (utf_may.f a0).bind fun t210 => (if t210 = true then ((utf_size.f a0).bind fun t211 => (if t211 = 1 then (some ((([(a0) % 256] : List Int)), 0)) else (if 0 ≤ t211 then (if 0 ≤ (wrap64 (6 * (wrap64 (t211 - 1)))) then ((some (([(Go.bits .or .i64 (Go.bits .and .i64 (shr .i64 3840 t211) 255) (shr .i64 a0 (wrap64 (6 * (wrap64 (t211 - 1)))))) % 256] : List Int) : List Int)).bind fun y215 => (if t211 = 4 then (if y215.length < 140737488355328 then ((some (y215 ++ [(Go.bits .or .i64 128 (Go.bits .and .i64 (a0 / 4096) 63)) % 256] : List Int)).bind fun y218 => (if y218.length < 140737488355328 then ((some (y218 ++ [(Go.bits .or .i64 128 (Go.bits .and .i64 (a0 / 64) 63)) % 256] : List Int)).bind fun y221 => (if y221.length < 140737488355328 then (some ((y221 ++ [(Go.bits .or .i64 128 (Go.bits .and .i64 a0 63)) % 256]), 0)) else (none))) else (none))) else (none)) else (if t211 = 3 then (if y215.length < 140737488355328 then ((some (y215 ++ [(Go.bits .or .i64 128 (Go.bits .and .i64 (a0 / 64) 63)) % 256] : List Int)).bind fun y227 => (if y227.length < 140737488355328 then (some ((y227 ++ [(Go.bits .or .i64 128 (Go.bits .and .i64 a0 63)) % 256]), 0)) else (none))) else (none)) else (if y215.length < 140737488355328 then (some ((y215 ++ [(Go.bits .or .i64 128 (Go.bits .and .i64 a0 63)) % 256]), 0)) else (none))))) else (none)) else (none)))) else (some (([] : List Int), 2)))
def utf_Put.T6 : Bool × List (List Nat × List Nat) := (true, [([], []), ([0], [0]), ([1], [1]), ([], []), ([], []), ([4], [4]), ([5], [5]), ([3, 6], [3, 6]), ([2, 7], [2, 7]), ([8], [8]), ([9], [9]), ([10, 0, 1, 2, 3, 4, 5, 6, 7, 8, 9, 10], [10])])
def utf_Put.B6 : List Nat := [0, 1, 3, 0, 0, 16, 48, 120, 255, 511, 1023, 2047]
theorem utf_Put.tab6 : rtab .any (opsOf Tryz.f43 6) = utf_Put.T6 := by kernel_rfl
theorem utf_Put.bits6 : waitsOk utf_Put.T6.2 utf_Put.B6 = true := by kernel_rfl
set_option maxHeartbeats 8000000 in
set_option maxRecDepth 100000 in
theorem utf_Put.calls (a0 : Int) (r1 : List Int) (r2 : Int) (w : World) (h : utf_Put.f a0 = some (r1, r2)) :
  Calls Tryz.prog 43 #[.int .i64 a0] w fun e w' => ∃ v0_ : Value, e = .returned (.tuple #[v0_, .int .i64 r2]) ∧ Kd.R (Kd.int .u8) 5 w' w.heap.size (fun _ => True) v0_ r1 ∧ Below w.heap.size w w' := by
 have HB := Aside0.mk (Below.refl w.heap.size w)
 have H : ((utf_may.f a0).bind fun t210 => (if t210 = true then ((utf_size.f a0).bind fun t211 => (if t211 = 1 then (some ((([(a0) % 256] : List Int)), 0)) else (if 0 ≤ t211 then (if 0 ≤ (wrap64 (6 * (wrap64 (t211 - 1)))) then ((some (([(Go.bits .or .i64 (Go.bits .and .i64 (shr .i64 3840 t211) 255) (shr .i64 a0 (wrap64 (6 * (wrap64 (t211 - 1)))))) % 256] : List Int) : List Int)).bind fun y215 => (if t211 = 4 then (if y215.length < 140737488355328 then ((some (y215 ++ [(Go.bits .or .i64 128 (Go.bits .and .i64 (a0 / 4096) 63)) % 256] : List Int)).bind fun y218 => (if y218.length < 140737488355328 then ((some (y218 ++ [(Go.bits .or .i64 128 (Go.bits .and .i64 (a0 / 64) 63)) % 256] : List Int)).bind fun y221 => (if y221.length < 140737488355328 then (some ((y221 ++ [(Go.bits .or .i64 128 (Go.bits .and .i64 a0 63)) % 256]), 0)) else (none))) else (none))) else (none)) else (if t211 = 3 then (if y215.length < 140737488355328 then ((some (y215 ++ [(Go.bits .or .i64 128 (Go.bits .and .i64 (a0 / 64) 63)) % 256] : List Int)).bind fun y227 => (if y227.length < 140737488355328 then (some ((y227 ++ [(Go.bits .or .i64 128 (Go.bits .and .i64 a0 63)) % 256]), 0)) else (none))) else (none)) else (if y215.length < 140737488355328 then (some ((y215 ++ [(Go.bits .or .i64 128 (Go.bits .and .i64 a0 63)) % 256]), 0)) else (none))))) else (none)) else (none)))) else (some (([] : List Int), 2)))) = some (r1, r2) := h
 clear h
 replace H := Option.bind_eq_some_iff.mp H
 obtain ⟨t210, A20, H⟩ := H
 replace H : (if t210 = true then ((utf_size.f a0).bind fun t211 => (if t211 = 1 then (some ((([(a0) % 256] : List Int)), 0)) else (if 0 ≤ t211 then (if 0 ≤ (wrap64 (6 * (wrap64 (t211 - 1)))) then ((some (([(Go.bits .or .i64 (Go.bits .and .i64 (shr .i64 3840 t211) 255) (shr .i64 a0 (wrap64 (6 * (wrap64 (t211 - 1)))))) % 256] : List Int) : List Int)).bind fun y215 => (if t211 = 4 then (if y215.length < 140737488355328 then ((some (y215 ++ [(Go.bits .or .i64 128 (Go.bits .and .i64 (a0 / 4096) 63)) % 256] : List Int)).bind fun y218 => (if y218.length < 140737488355328 then ((some (y218 ++ [(Go.bits .or .i64 128 (Go.bits .and .i64 (a0 / 64) 63)) % 256] : List Int)).bind fun y221 => (if y221.length < 140737488355328 then (some ((y221 ++ [(Go.bits .or .i64 128 (Go.bits .and .i64 a0 63)) % 256]), 0)) else (none))) else (none))) else (none)) else (if t211 = 3 then (if y215.length < 140737488355328 then ((some (y215 ++ [(Go.bits .or .i64 128 (Go.bits .and .i64 (a0 / 64) 63)) % 256] : List Int)).bind fun y227 => (if y227.length < 140737488355328 then (some ((y227 ++ [(Go.bits .or .i64 128 (Go.bits .and .i64 a0 63)) % 256]), 0)) else (none))) else (none)) else (if y215.length < 140737488355328 then (some ((y215 ++ [(Go.bits .or .i64 128 (Go.bits .and .i64 a0 63)) % 256]), 0)) else (none))))) else (none)) else (none)))) else (some (([] : List Int), 2))) = some (r1, r2) := H
 have A2 := Aside0.mk A20
 clear A20
 by_cases c3 : t210 = true
 ·subst c3
  have H1 : ((utf_size.f a0).bind fun t211 => (if t211 = 1 then (some ((([(a0) % 256] : List Int)), 0)) else (if 0 ≤ t211 then (if 0 ≤ (wrap64 (6 * (wrap64 (t211 - 1)))) then ((some (([(Go.bits .or .i64 (Go.bits .and .i64 (shr .i64 3840 t211) 255) (shr .i64 a0 (wrap64 (6 * (wrap64 (t211 - 1)))))) % 256] : List Int) : List Int)).bind fun y215 => (if t211 = 4 then (if y215.length < 140737488355328 then ((some (y215 ++ [(Go.bits .or .i64 128 (Go.bits .and .i64 (a0 / 4096) 63)) % 256] : List Int)).bind fun y218 => (if y218.length < 140737488355328 then ((some (y218 ++ [(Go.bits .or .i64 128 (Go.bits .and .i64 (a0 / 64) 63)) % 256] : List Int)).bind fun y221 => (if y221.length < 140737488355328 then (some ((y221 ++ [(Go.bits .or .i64 128 (Go.bits .and .i64 a0 63)) % 256]), 0)) else (none))) else (none))) else (none)) else (if t211 = 3 then (if y215.length < 140737488355328 then ((some (y215 ++ [(Go.bits .or .i64 128 (Go.bits .and .i64 (a0 / 64) 63)) % 256] : List Int)).bind fun y227 => (if y227.length < 140737488355328 then (some ((y227 ++ [(Go.bits .or .i64 128 (Go.bits .and .i64 a0 63)) % 256]), 0)) else (none))) else (none)) else (if y215.length < 140737488355328 then (some ((y215 ++ [(Go.bits .or .i64 128 (Go.bits .and .i64 a0 63)) % 256]), 0)) else (none))))) else (none)) else (none)))) = some (r1, r2) := by rw [if_pos rfl] at H; exact H
  clear H
  have H := H1
  clear H1
  replace H := Option.bind_eq_some_iff.mp H
  obtain ⟨t211, A40, H⟩ := H
  replace H : (if t211 = 1 then (some ((([(a0) % 256] : List Int)), 0)) else (if 0 ≤ t211 then (if 0 ≤ (wrap64 (6 * (wrap64 (t211 - 1)))) then ((some (([(Go.bits .or .i64 (Go.bits .and .i64 (shr .i64 3840 t211) 255) (shr .i64 a0 (wrap64 (6 * (wrap64 (t211 - 1)))))) % 256] : List Int) : List Int)).bind fun y215 => (if t211 = 4 then (if y215.length < 140737488355328 then ((some (y215 ++ [(Go.bits .or .i64 128 (Go.bits .and .i64 (a0 / 4096) 63)) % 256] : List Int)).bind fun y218 => (if y218.length < 140737488355328 then ((some (y218 ++ [(Go.bits .or .i64 128 (Go.bits .and .i64 (a0 / 64) 63)) % 256] : List Int)).bind fun y221 => (if y221.length < 140737488355328 then (some ((y221 ++ [(Go.bits .or .i64 128 (Go.bits .and .i64 a0 63)) % 256]), 0)) else (none))) else (none))) else (none)) else (if t211 = 3 then (if y215.length < 140737488355328 then ((some (y215 ++ [(Go.bits .or .i64 128 (Go.bits .and .i64 (a0 / 64) 63)) % 256] : List Int)).bind fun y227 => (if y227.length < 140737488355328 then (some ((y227 ++ [(Go.bits .or .i64 128 (Go.bits .and .i64 a0 63)) % 256]), 0)) else (none))) else (none)) else (if y215.length < 140737488355328 then (some ((y215 ++ [(Go.bits .or .i64 128 (Go.bits .and .i64 a0 63)) % 256]), 0)) else (none))))) else (none)) else (none))) = some (r1, r2) := H
  have A4 := Aside0.mk A40
  clear A40
  by_cases c5 : t211 = 1
  ·rw [if_pos c5] at H
   have c5b0 : (t211 == 1) = true := beq_iff_eq.mpr c5
   have c5b1 : (t211 != 1) = false := bne_eq_false_iff_eq.mpr c5
   clear c5
   obtain ⟨y212, hy212⟩ : ∃ y_ : List Int, y_ = (([(a0) % 256] : List Int)) := ⟨_, rfl⟩
   replace H : (some (y212, 0)) = some (r1, r2) := by first | (rw [hy212]; with_reducible exact H) | (have H2_ := (Option.bind_some _ _).symm.trans H; rw [hy212]; with_reducible exact H2_) | (have H2_ := (Option.bind_some _ _).symm.trans H; with_reducible exact H2_) | with_reducible exact H | (rw [hy212]; exact H) | exact H
   have Ny212 := Aside0.mk hy212
   clear hy212
   simp only [Option.some.injEq, Prod.mk.injEq] at H
   obtain ⟨rfl, rfl⟩ := H
   go_enter Tryz.func43, Tryz.ntmps43
   go_wp2_with (first | ((with_reducible refine gate_callee (f := 60) rfl ?_); refine goesL_ (some 7) rfl rfl Tryz.func60 k1_ rfl #[.int .i64 a0] rfl g1_ ?_; (with_reducible refine (utf_may.calls a0 true _ A2.out).mono ?_); rintro e w' ⟨rfl, ⟨nd, rfl⟩⟩; refine ⟨_, rfl, ?_⟩) | ((with_reducible refine gate_callee (f := 61) rfl ?_); refine goesL_ (some 10) rfl rfl Tryz.func61 k1_ rfl #[.int .i64 a0] rfl g1_ ?_; (with_reducible refine (utf_size.calls a0 t211 _ A4.out).mono ?_); rintro e w' ⟨rfl, ⟨nd, rfl⟩⟩; refine ⟨_, rfl, ?_⟩) | ((with_reducible refine gate_dst (N := 15) rfl ?_); refine Kd.R_lit (Kd.int .u8) _ 5 ?hg (N := 15) ?hd (xs := ([(a0) % 256] : List Int)) (inner := [.int .u8 ((a0) % 256)]) (ok := fun _ => True) (okp := fun _ => True) ?hr ?hp (fun _ hk => hk) trivial (Below.refl _ _) (Nat.le_refl _) (by simp) ?_; (case hd => rfl); (case hg => rfl); (case hr => first | (go_simp; done) | (go_simp; rfl)); (case hp => exact (Reps.one (show Kd.M (Kd.int .u8) _ _ _ ((a0) % 256) [.int .u8 ((a0) % 256)] from rfl) (Reps.none _ _))); intro v213 w6 ho7 hb hg_ hnew_; clear hg_ hnew_; (first | rw [← Ny212.out] at ho7 | (simp only [Int.reduceToNat] at ho7; rw [← Ny212.out] at ho7)); have HO214 := Aside0.mk (Kd.R_lower ho7 (below_size b1_)); replace HB := Aside0.mk (below_step b1_ hb); clear hb ho7))
   go_ret2
   exact ⟨_, e2_, by have G0 := HO214; exact z1_, b1_⟩
  ·rw [if_neg c5] at H
   have c5b0 : (t211 == 1) = false := beq_eq_false_iff_ne.mpr c5
   have c5b1 : (t211 != 1) = true := bne_iff_ne.mpr c5
   by_cases c8 : 0 ≤ t211
   ·rw [if_pos c8] at H
    have c8b0 := eq_true c8
    have c8b1 : decide (0 ≤ t211) = true := decide_eq_true c8
    clear c8
    have hsz_ := utf_size_le A4.out
    have hsw_ : t211 ≤ 64 := by omega
    obtain ⟨ji9, hji9⟩ : ∃ j_ : Int, (shr .i64 3840 t211) = j_ := ⟨_, rfl⟩
    replace H : (if 0 ≤ (wrap64 (6 * (wrap64 (t211 - 1)))) then ((some (([(Go.bits .or .i64 (Go.bits .and .i64 (ji9) 255) (shr .i64 a0 (wrap64 (6 * (wrap64 (t211 - 1)))))) % 256] : List Int) : List Int)).bind fun y215 => (if t211 = 4 then (if y215.length < 140737488355328 then ((some (y215 ++ [(Go.bits .or .i64 128 (Go.bits .and .i64 (a0 / 4096) 63)) % 256] : List Int)).bind fun y218 => (if y218.length < 140737488355328 then ((some (y218 ++ [(Go.bits .or .i64 128 (Go.bits .and .i64 (a0 / 64) 63)) % 256] : List Int)).bind fun y221 => (if y221.length < 140737488355328 then (some ((y221 ++ [(Go.bits .or .i64 128 (Go.bits .and .i64 a0 63)) % 256]), 0)) else (none))) else (none))) else (none)) else (if t211 = 3 then (if y215.length < 140737488355328 then ((some (y215 ++ [(Go.bits .or .i64 128 (Go.bits .and .i64 (a0 / 64) 63)) % 256] : List Int)).bind fun y227 => (if y227.length < 140737488355328 then (some ((y227 ++ [(Go.bits .or .i64 128 (Go.bits .and .i64 a0 63)) % 256]), 0)) else (none))) else (none)) else (if y215.length < 140737488355328 then (some ((y215 ++ [(Go.bits .or .i64 128 (Go.bits .and .i64 a0 63)) % 256]), 0)) else (none))))) else (none)) = some (r1, r2) := by first | (rw [hji9] at H; exact H) | (simp only [hji9] at H ⊢; exact H)
    (try rw [hji9] at A2)
    (try rw [hji9] at A4)
    have hji9_ : (3840 / 2 ^ min t211.toNat 64) = ji9 := hji9
    have hji9z : t211 ≤ 64 → (3840 / 2 ^ t211.toNat) = ji9 := shr_small hji9
    obtain ⟨ji10, hji10⟩ : ∃ j_ : Int, (wrap64 (6 * (wrap64 (t211 - 1)))) = j_ := ⟨_, rfl⟩
    have hsx_ : ji10 ≤ 64 := by rw [← hji10, put_w (n := t211 - 1) (by omega) (by omega), put_w (by omega) (by omega)]; omega
    replace H : (if 0 ≤ (ji10) then ((some (([(Go.bits .or .i64 (Go.bits .and .i64 (ji9) 255) (shr .i64 a0 (ji10))) % 256] : List Int) : List Int)).bind fun y215 => (if t211 = 4 then (if y215.length < 140737488355328 then ((some (y215 ++ [(Go.bits .or .i64 128 (Go.bits .and .i64 (a0 / 4096) 63)) % 256] : List Int)).bind fun y218 => (if y218.length < 140737488355328 then ((some (y218 ++ [(Go.bits .or .i64 128 (Go.bits .and .i64 (a0 / 64) 63)) % 256] : List Int)).bind fun y221 => (if y221.length < 140737488355328 then (some ((y221 ++ [(Go.bits .or .i64 128 (Go.bits .and .i64 a0 63)) % 256]), 0)) else (none))) else (none))) else (none)) else (if t211 = 3 then (if y215.length < 140737488355328 then ((some (y215 ++ [(Go.bits .or .i64 128 (Go.bits .and .i64 (a0 / 64) 63)) % 256] : List Int)).bind fun y227 => (if y227.length < 140737488355328 then (some ((y227 ++ [(Go.bits .or .i64 128 (Go.bits .and .i64 a0 63)) % 256]), 0)) else (none))) else (none)) else (if y215.length < 140737488355328 then (some ((y215 ++ [(Go.bits .or .i64 128 (Go.bits .and .i64 a0 63)) % 256]), 0)) else (none))))) else (none)) = some (r1, r2) := by first | (rw [hji10] at H; exact H) | (simp only [hji10] at H ⊢; exact H)
    (try rw [hji10] at A2)
    (try rw [hji10] at A4)
    have hji10w : (IntKind.i64.wrap (6 * (wrap64 (t211 - 1)))) = ji10 := (i64_w _).trans hji10
    by_cases c11 : 0 ≤ (ji10)
    ·rw [if_pos c11] at H
     have c11b0 := eq_true c11
     have c11b1 : decide (0 ≤ (ji10)) = true := decide_eq_true c11
     clear c11
     obtain ⟨ji12, hji12⟩ : ∃ j_ : Int, (shr .i64 a0 (ji10)) = j_ := ⟨_, rfl⟩
     replace H : ((some (([(Go.bits .or .i64 (Go.bits .and .i64 (ji9) 255) (ji12)) % 256] : List Int) : List Int)).bind fun y215 => (if t211 = 4 then (if y215.length < 140737488355328 then ((some (y215 ++ [(Go.bits .or .i64 128 (Go.bits .and .i64 (a0 / 4096) 63)) % 256] : List Int)).bind fun y218 => (if y218.length < 140737488355328 then ((some (y218 ++ [(Go.bits .or .i64 128 (Go.bits .and .i64 (a0 / 64) 63)) % 256] : List Int)).bind fun y221 => (if y221.length < 140737488355328 then (some ((y221 ++ [(Go.bits .or .i64 128 (Go.bits .and .i64 a0 63)) % 256]), 0)) else (none))) else (none))) else (none)) else (if t211 = 3 then (if y215.length < 140737488355328 then ((some (y215 ++ [(Go.bits .or .i64 128 (Go.bits .and .i64 (a0 / 64) 63)) % 256] : List Int)).bind fun y227 => (if y227.length < 140737488355328 then (some ((y227 ++ [(Go.bits .or .i64 128 (Go.bits .and .i64 a0 63)) % 256]), 0)) else (none))) else (none)) else (if y215.length < 140737488355328 then (some ((y215 ++ [(Go.bits .or .i64 128 (Go.bits .and .i64 a0 63)) % 256]), 0)) else (none))))) = some (r1, r2) := by first | (rw [hji12] at H; exact H) | (simp only [hji12] at H ⊢; exact H)
     (try rw [hji12] at A2)
     (try rw [hji12] at A4)
     have hji12_ : (a0 / 2 ^ min (ji10).toNat 64) = ji12 := hji12
     have hji12z : (ji10) ≤ 64 → (a0 / 2 ^ (ji10).toNat) = ji12 := shr_small hji12
     obtain ⟨y215, hy215⟩ : ∃ y_ : List Int, y_ = (([(Go.bits .or .i64 (Go.bits .and .i64 (ji9) 255) (ji12)) % 256] : List Int)) := ⟨_, rfl⟩
     replace H : (if t211 = 4 then (if y215.length < 140737488355328 then ((some (y215 ++ [(Go.bits .or .i64 128 (Go.bits .and .i64 (a0 / 4096) 63)) % 256] : List Int)).bind fun y218 => (if y218.length < 140737488355328 then ((some (y218 ++ [(Go.bits .or .i64 128 (Go.bits .and .i64 (a0 / 64) 63)) % 256] : List Int)).bind fun y221 => (if y221.length < 140737488355328 then (some ((y221 ++ [(Go.bits .or .i64 128 (Go.bits .and .i64 a0 63)) % 256]), 0)) else (none))) else (none))) else (none)) else (if t211 = 3 then (if y215.length < 140737488355328 then ((some (y215 ++ [(Go.bits .or .i64 128 (Go.bits .and .i64 (a0 / 64) 63)) % 256] : List Int)).bind fun y227 => (if y227.length < 140737488355328 then (some ((y227 ++ [(Go.bits .or .i64 128 (Go.bits .and .i64 a0 63)) % 256]), 0)) else (none))) else (none)) else (if y215.length < 140737488355328 then (some ((y215 ++ [(Go.bits .or .i64 128 (Go.bits .and .i64 a0 63)) % 256]), 0)) else (none)))) = some (r1, r2) := by first | (rw [hy215]; with_reducible exact H) | (have H2_ := (Option.bind_some _ _).symm.trans H; rw [hy215]; with_reducible exact H2_) | (have H2_ := (Option.bind_some _ _).symm.trans H; with_reducible exact H2_) | with_reducible exact H | (rw [hy215]; exact H) | exact H
     have Ny215 := Aside0.mk hy215
     clear hy215
     by_cases c13 : t211 = 4
     ·rw [if_pos c13] at H
      have c13b0 : (t211 == 4) = true := beq_iff_eq.mpr c13
      have c13b1 : (t211 != 4) = false := bne_eq_false_iff_eq.mpr c13
      clear c13
      by_cases c14 : y215.length < 140737488355328
      ·rw [if_pos c14] at H
       have LMc14 := Aside0.mk c14
       clear c14
       obtain ⟨y218, hy218⟩ : ∃ y_ : List Int, y_ = (y215 ++ [(Go.bits .or .i64 128 (Go.bits .and .i64 (a0 / 4096) 63)) % 256]) := ⟨_, rfl⟩
       replace H : (if y218.length < 140737488355328 then ((some (y218 ++ [(Go.bits .or .i64 128 (Go.bits .and .i64 (a0 / 64) 63)) % 256] : List Int)).bind fun y221 => (if y221.length < 140737488355328 then (some ((y221 ++ [(Go.bits .or .i64 128 (Go.bits .and .i64 a0 63)) % 256]), 0)) else (none))) else (none)) = some (r1, r2) := by first | (rw [hy218]; with_reducible exact H) | (have H2_ := (Option.bind_some _ _).symm.trans H; rw [hy218]; with_reducible exact H2_) | (have H2_ := (Option.bind_some _ _).symm.trans H; with_reducible exact H2_) | with_reducible exact H | (rw [hy218]; exact H) | exact H
       have Ny218 := Aside0.mk hy218
       clear hy218
       by_cases c15 : y218.length < 140737488355328
       ·rw [if_pos c15] at H
        have LMc15 := Aside0.mk c15
        clear c15
        obtain ⟨y221, hy221⟩ : ∃ y_ : List Int, y_ = (y218 ++ [(Go.bits .or .i64 128 (Go.bits .and .i64 (a0 / 64) 63)) % 256]) := ⟨_, rfl⟩
        replace H : (if y221.length < 140737488355328 then (some ((y221 ++ [(Go.bits .or .i64 128 (Go.bits .and .i64 a0 63)) % 256]), 0)) else (none)) = some (r1, r2) := by first | (rw [hy221]; with_reducible exact H) | (have H2_ := (Option.bind_some _ _).symm.trans H; rw [hy221]; with_reducible exact H2_) | (have H2_ := (Option.bind_some _ _).symm.trans H; with_reducible exact H2_) | with_reducible exact H | (rw [hy221]; exact H) | exact H
        have Ny221 := Aside0.mk hy221
        clear hy221
        by_cases c16 : y221.length < 140737488355328
        ·rw [if_pos c16] at H
         have LMc16 := Aside0.mk c16
         clear c16
         obtain ⟨y224, hy224⟩ : ∃ y_ : List Int, y_ = (y221 ++ [(Go.bits .or .i64 128 (Go.bits .and .i64 a0 63)) % 256]) := ⟨_, rfl⟩
         replace H : (some (y224, 0)) = some (r1, r2) := by first | (rw [hy224]; with_reducible exact H) | (have H2_ := (Option.bind_some _ _).symm.trans H; rw [hy224]; with_reducible exact H2_) | (have H2_ := (Option.bind_some _ _).symm.trans H; with_reducible exact H2_) | with_reducible exact H | (rw [hy224]; exact H) | exact H
         have Ny224 := Aside0.mk hy224
         clear hy224
         simp only [Option.some.injEq, Prod.mk.injEq] at H
         obtain ⟨rfl, rfl⟩ := H
         go_enter Tryz.func43, Tryz.ntmps43
         try go_wp2_with (first | ((with_reducible refine gate_callee (f := 60) rfl ?_); refine goesL_ (some 7) rfl rfl Tryz.func60 k1_ rfl #[.int .i64 a0] rfl g1_ ?_; (with_reducible refine (utf_may.calls a0 true _ A2.out).mono ?_); rintro e w' ⟨rfl, ⟨ndA, rfl⟩⟩; refine ⟨_, rfl, ?_⟩) | ((with_reducible refine gate_callee (f := 61) rfl ?_); refine goesL_ (some 10) rfl rfl Tryz.func61 k1_ rfl #[.int .i64 a0] rfl g1_ ?_; (with_reducible refine (utf_size.calls a0 t211 _ A4.out).mono ?_); rintro e w' ⟨rfl, ⟨ndB, rfl⟩⟩; refine ⟨_, rfl, ?_⟩))
         have n0_ := Aside0.mk (below_drew1 HB.out)
         clear HB
         have HB := n0_
         clear n0_
         refine start_ (n := 12) (S := fun w' => True) (ds := []) #[false, false, false, false, false, false, false, false, false, false, false, false] k1_ rfl rfl trivial (fun hHeld => ?_); refine with_tabW utf_Put.tab6 utf_Put.bits6 (fun HT_ HW_ => ?_)
         clear HB
         have HB := Aside0.mk (below_drew1 (pw_below_drewN (Below.refl w.heap.size w) (ndA + ndB)))
         generalize (w.drewN (ndA + ndB)).drew = w17 at HB hHeld ⊢
         refine pure_ (i := 0) (N := some 16) (v := ?_) (a' := ?_) #[true, false, false, false, false, false, false, false, false, false, false, false] rfl rfl (any_of HT_.out k1_) (fun _ _ _ h => h) (Or.inl ⟨by rfl, ?_⟩) ?_ ?_
         rotate_left
         ·intro w'
          go_simp
          with_reducible rfl
         rotate_left
         ·simp only [Act.put, List.setIfInBounds_toArray, List.set_cons_zero, List.set_cons_succ, i64_w, i32_w]
          rfl
         refine pure_ (i := 1) (N := some 17) (v := ?_) (a' := ?_) #[true, true, false, false, false, false, false, false, false, false, false, false] rfl rfl (any_of HT_.out k1_) (fun _ _ _ h => h) (Or.inl ⟨by rfl, ?_⟩) ?_ ?_
         rotate_left
         ·intro w'
          go_simp
          with_reducible rfl
         rotate_left
         ·simp only [Act.put, List.setIfInBounds_toArray, List.set_cons_zero, List.set_cons_succ, i64_w, i32_w]
          rfl
         refine pure_ (i := 2) (N := some 18) (v := ?_) (a' := ?_) #[true, true, true, false, false, false, false, false, false, false, false, false] rfl rfl (any_of HT_.out k1_) (fun _ _ _ h => h) (Or.inl ⟨by rfl, ?_⟩) ?_ ?_
         rotate_left
         ·intro w'
          go_simp
          with_reducible rfl
         rotate_left
         ·simp only [Act.put, List.setIfInBounds_toArray, List.set_cons_zero, List.set_cons_succ, i64_w, i32_w]
          rfl
         refine pure_ (i := 3) (N := some 19) (v := ?_) (a' := ?_) #[true, true, true, true, false, false, false, false, false, false, false, false] rfl rfl (any_of HT_.out k1_) (fun _ _ _ h => h) (Or.inl ⟨by rfl, ?_⟩) ?_ ?_
         rotate_left
         ·intro w'
          go_simp
          with_reducible rfl
         rotate_left
         ·simp only [Act.put, List.setIfInBounds_toArray, List.set_cons_zero, List.set_cons_succ, i64_w, i32_w]
          rfl
         refine pure_ (i := 4) (N := some 20) (v := ?_) (a' := ?_) #[true, true, true, true, true, false, false, false, false, false, false, false] rfl rfl (any_of HT_.out k1_) (fun _ _ _ h => h) (Or.inl ⟨by rfl, ?_⟩) ?_ ?_
         rotate_left
         ·intro w'
          go_simp
          with_reducible rfl
         rotate_left
         ·simp only [Act.put, List.setIfInBounds_toArray, List.set_cons_zero, List.set_cons_succ, i64_w, i32_w]
          rfl
         refine pure_ (i := 5) (N := some 21) (v := ?_) (a' := ?_) #[true, true, true, true, true, true, false, false, false, false, false, false] rfl rfl (any_of HT_.out k1_) (fun _ _ _ h => h) (Or.inl ⟨by rfl, ?_⟩) ?_ ?_
         rotate_left
         ·intro w'
          go_simp
          with_reducible rfl
         rotate_left
         ·simp only [Act.put, List.setIfInBounds_toArray, List.set_cons_zero, List.set_cons_succ, i64_w, i32_w]
          rfl
         refine pure_ (i := 6) (N := some 22) (v := ?_) (a' := ?_) #[true, true, true, true, true, true, true, false, false, false, false, false] rfl rfl (any_of HT_.out k1_) (fun _ _ _ h => h) (Or.inl ⟨by rfl, ?_⟩) ?_ ?_
         rotate_left
         ·intro w'
          go_simp
          with_reducible rfl
         rotate_left
         ·simp only [Act.put, List.setIfInBounds_toArray, List.set_cons_zero, List.set_cons_succ, i64_w, i32_w]
          rfl
         refine pure_ (i := 7) (N := some 23) (v := ?_) (a' := ?_) #[true, true, true, true, true, true, true, true, false, false, false, false] rfl rfl (any_of HT_.out k1_) (fun _ _ _ h => h) (Or.inl ⟨by rfl, ?_⟩) ?_ ?_
         rotate_left
         ·intro w'
          go_simp
          with_reducible rfl
         rotate_left
         ·simp only [Act.put, List.setIfInBounds_toArray, List.set_cons_zero, List.set_cons_succ, i64_w, i32_w]
          rfl
         refine pure_ (i := 8) (N := some 24) (v := ?_) (a' := ?_) #[true, true, true, true, true, true, true, true, true, false, false, false] rfl rfl (any_of HT_.out k1_) (fun _ _ _ h => h) (Or.inl ⟨by rfl, ?_⟩) ?_ ?_
         rotate_left
         ·intro w'
          go_simp
          with_reducible rfl
         rotate_left
         ·simp only [Act.put, List.setIfInBounds_toArray, List.set_cons_zero, List.set_cons_succ, i64_w, i32_w]
          rfl
         refine pure_ (i := 9) (N := some 25) (v := ?_) (a' := ?_) #[true, true, true, true, true, true, true, true, true, true, false, false] rfl rfl (any_of HT_.out k1_) (fun _ _ _ h => h) (Or.inl ⟨by rfl, ?_⟩) ?_ ?_
         rotate_left
         ·intro w'
          go_simp
          with_reducible rfl
         rotate_left
         ·simp only [Act.put, List.setIfInBounds_toArray, List.set_cons_zero, List.set_cons_succ, i64_w, i32_w]
          rfl
         refine one_ (i := 10) (N := some 26) #[true, true, true, true, true, true, true, true, true, true, true, false] rfl rfl (one_of HT_.out k1_) (by decide) (fun K hK => ?_)
         refine Kd.R_lit_step (Kd.int .u8) _ 5 ?hg (N := 26) ?hd (xs := ([(Go.bits .or .i64 (Go.bits .and .i64 (ji9) 255) (ji12)) % 256] : List Int)) (inner := [.int .u8 ((Go.bits .or .i64 (Go.bits .and .i64 (ji9) 255) (ji12)) % 256)]) (ok := fun _ => True) (okp := fun _ => True) ?hr ?hp (fun _ hk => hk) trivial (Below.refl _ _) (Nat.le_refl _) (by simp) ?_; (case hd => rfl); (case hg => rfl); (case hr => first | (go_simp; done) | (go_simp; rfl)); (case hp => exact (Reps.one (show Kd.M (Kd.int .u8) _ _ _ ((Go.bits .or .i64 (Go.bits .and .i64 (ji9) 255) (ji12)) % 256) [.int .u8 ((Go.bits .or .i64 (Go.bits .and .i64 (ji9) 255) (ji12)) % 256)] from rfl) (Reps.none _ _)))
         intro v216 w18 ho19 hb hg_ hnew_
         clear hg_ hnew_
         (first | rw [← Ny215.out] at ho19 | (simp only [Int.reduceToNat] at ho19; rw [← Ny215.out] at ho19))
         have n0_ := Aside0.mk (Kd.R_lower ho19 (below_size b1_))
         have n1_ := Aside0.mk (below_step b1_ hb)
         clear HB
         have HO217 := n0_
         have HB := n1_
         clear n0_ n1_
         clear hb ho19
         refine hK.out _ _ trivial (fun hHeld => ?_)
         clear hK K
         refine norm_ (a' := ?_) ?_ ?_
         rotate_left
         ·show Act.put _ (some 26) _ = _
          simp only [Act.put, List.setIfInBounds_toArray, List.set_cons_zero, List.set_cons_succ, i64_w, i32_w]
          rfl
         refine pure_ (i := 11) (N := some 5) (v := ?_) (a' := ?_) #[true, true, true, true, true, true, true, true, true, true, true, true] rfl rfl (any_of HT_.out k1_) (fun _ _ _ h => h) (Or.inl ⟨by rfl, ?_⟩) ?_ ?_
         rotate_left
         ·intro w'
          go_simp
          with_reducible rfl
         rotate_left
         ·simp only [Act.put, List.setIfInBounds_toArray, List.set_cons_zero, List.set_cons_succ, i64_w, i32_w]
          rfl
         refine done_ (done_of HT_.out k1_) ?_
         try go_wp2_with (first | ((with_reducible refine gate_builtin (b := .append) (xs := #[(.tmp 32), .tmp 38]) rfl ?_); at_builtin; refine Kd.R_append (Kd.int .u8) (w0 := w) w.heap.size rfl (.tmp 32) (.tmp 38) 62 5 (.int .u8 0) 1 rfl Tryz.underlying62 info5 rfl (by decide) (by omega) v216 y215 ((Go.bits .or .i64 128 (Go.bits .and .i64 (a0 / 4096) 63)) % 256) [.int .u8 ((Go.bits .or .i64 128 (Go.bits .and .i64 (a0 / 4096) 63)) % 256)] (fun _ => True) (fun _ => False) rfl rfl ?aP (fun _ hk => hk.elim) ?aF ?aO ?aB ?aS ?aL ?_; (case aP => exact rfl); (case aB => exact b1_); (case aF => exact (fun _ _ => trivial)); (case aO => exact (by have G0 := HO217; exact z1_)); (case aS => exact (below_size b1_)); (case aL => have := LMc14.out; omega); intro v219 w20 ho hb hg hat; rw [← Ny218.out] at ho; have n0_ := Aside0.mk (hb); have n1_ := Aside0.mk (ho); clear HB; clear HO217; have HB := n0_; have HO220 := n1_; clear n0_ n1_; clear ho hb hg hat) | ((with_reducible refine gate_builtin (b := .append) (xs := #[(.tmp 40), .tmp 46]) rfl ?_); at_builtin; refine Kd.R_append (Kd.int .u8) (w0 := w) w.heap.size rfl (.tmp 40) (.tmp 46) 62 5 (.int .u8 0) 1 rfl Tryz.underlying62 info5 rfl (by decide) (by omega) v219 y218 ((Go.bits .or .i64 128 (Go.bits .and .i64 (a0 / 64) 63)) % 256) [.int .u8 ((Go.bits .or .i64 128 (Go.bits .and .i64 (a0 / 64) 63)) % 256)] (fun _ => True) (fun _ => False) rfl rfl ?aP (fun _ hk => hk.elim) ?aF ?aO ?aB ?aS ?aL ?_; (case aP => exact rfl); (case aB => exact b1_); (case aF => exact (fun _ _ => trivial)); (case aO => exact (by have G0 := HO220; exact z1_)); (case aS => exact (below_size b1_)); (case aL => have := LMc15.out; omega); intro v222 w21 ho hb hg hat; rw [← Ny221.out] at ho; have n0_ := Aside0.mk (hb); have n1_ := Aside0.mk (ho); clear HB; clear HO220; have HB := n0_; have HO223 := n1_; clear n0_ n1_; clear ho hb hg hat) | ((with_reducible refine gate_builtin (b := .append) (xs := #[(.tmp 48), .tmp 53]) rfl ?_); at_builtin; refine Kd.R_append (Kd.int .u8) (w0 := w) w.heap.size rfl (.tmp 48) (.tmp 53) 62 5 (.int .u8 0) 1 rfl Tryz.underlying62 info5 rfl (by decide) (by omega) v222 y221 ((Go.bits .or .i64 128 (Go.bits .and .i64 a0 63)) % 256) [.int .u8 ((Go.bits .or .i64 128 (Go.bits .and .i64 a0 63)) % 256)] (fun _ => True) (fun _ => False) rfl rfl ?aP (fun _ hk => hk.elim) ?aF ?aO ?aB ?aS ?aL ?_; (case aP => exact rfl); (case aB => exact b1_); (case aF => exact (fun _ _ => trivial)); (case aO => exact (by have G0 := HO223; exact z1_)); (case aS => exact (below_size b1_)); (case aL => have := LMc16.out; omega); intro v225 w22 ho hb hg hat; rw [← Ny224.out] at ho; have n0_ := Aside0.mk (hb); have n1_ := Aside0.mk (ho); clear HB; clear HO223; have HB := n0_; have HO226 := n1_; clear n0_ n1_; clear ho hb hg hat))
         go_ret2
         exact ⟨_, z32_, by have G0 := HO226; exact z1_, b1_⟩
        ·rw [if_neg c16] at H
         exact absurd H (by simp)
       ·rw [if_neg c15] at H
        exact absurd H (by simp)
      ·rw [if_neg c14] at H
       exact absurd H (by simp)
     ·rw [if_neg c13] at H
      have c13b0 : (t211 == 4) = false := beq_eq_false_iff_ne.mpr c13
      have c13b1 : (t211 != 4) = true := bne_iff_ne.mpr c13
      by_cases c23 : t211 = 3
      ·rw [if_pos c23] at H
       have c23b0 : (t211 == 3) = true := beq_iff_eq.mpr c23
       have c23b1 : (t211 != 3) = false := bne_eq_false_iff_eq.mpr c23
       clear c23
       by_cases c24 : y215.length < 140737488355328
       ·rw [if_pos c24] at H
        have LMc24 := Aside0.mk c24
        clear c24
        obtain ⟨y227, hy227⟩ : ∃ y_ : List Int, y_ = (y215 ++ [(Go.bits .or .i64 128 (Go.bits .and .i64 (a0 / 64) 63)) % 256]) := ⟨_, rfl⟩
        replace H : (if y227.length < 140737488355328 then (some ((y227 ++ [(Go.bits .or .i64 128 (Go.bits .and .i64 a0 63)) % 256]), 0)) else (none)) = some (r1, r2) := by first | (rw [hy227]; with_reducible exact H) | (have H2_ := (Option.bind_some _ _).symm.trans H; rw [hy227]; with_reducible exact H2_) | (have H2_ := (Option.bind_some _ _).symm.trans H; with_reducible exact H2_) | with_reducible exact H | (rw [hy227]; exact H) | exact H
        have Ny227 := Aside0.mk hy227
        clear hy227
        by_cases c25 : y227.length < 140737488355328
        ·rw [if_pos c25] at H
         have LMc25 := Aside0.mk c25
         clear c25
         obtain ⟨y230, hy230⟩ : ∃ y_ : List Int, y_ = (y227 ++ [(Go.bits .or .i64 128 (Go.bits .and .i64 a0 63)) % 256]) := ⟨_, rfl⟩
         replace H : (some (y230, 0)) = some (r1, r2) := by first | (rw [hy230]; with_reducible exact H) | (have H2_ := (Option.bind_some _ _).symm.trans H; rw [hy230]; with_reducible exact H2_) | (have H2_ := (Option.bind_some _ _).symm.trans H; with_reducible exact H2_) | with_reducible exact H | (rw [hy230]; exact H) | exact H
         have Ny230 := Aside0.mk hy230
         clear hy230
         simp only [Option.some.injEq, Prod.mk.injEq] at H
         obtain ⟨rfl, rfl⟩ := H
         go_enter Tryz.func43, Tryz.ntmps43
         try go_wp2_with (first | ((with_reducible refine gate_callee (f := 60) rfl ?_); refine goesL_ (some 7) rfl rfl Tryz.func60 k1_ rfl #[.int .i64 a0] rfl g1_ ?_; (with_reducible refine (utf_may.calls a0 true _ A2.out).mono ?_); rintro e w' ⟨rfl, ⟨ndA, rfl⟩⟩; refine ⟨_, rfl, ?_⟩) | ((with_reducible refine gate_callee (f := 61) rfl ?_); refine goesL_ (some 10) rfl rfl Tryz.func61 k1_ rfl #[.int .i64 a0] rfl g1_ ?_; (with_reducible refine (utf_size.calls a0 t211 _ A4.out).mono ?_); rintro e w' ⟨rfl, ⟨ndB, rfl⟩⟩; refine ⟨_, rfl, ?_⟩))
         have n0_ := Aside0.mk (below_drew1 HB.out)
         clear HB
         have HB := n0_
         clear n0_
         refine start_ (n := 12) (S := fun w' => True) (ds := []) #[false, false, false, false, false, false, false, false, false, false, false, false] k1_ rfl rfl trivial (fun hHeld => ?_); refine with_tabW utf_Put.tab6 utf_Put.bits6 (fun HT_ HW_ => ?_)
         clear HB
         have HB := Aside0.mk (below_drew1 (pw_below_drewN (Below.refl w.heap.size w) (ndA + ndB)))
         generalize (w.drewN (ndA + ndB)).drew = w26 at HB hHeld ⊢
         refine pure_ (i := 0) (N := some 16) (v := ?_) (a' := ?_) #[true, false, false, false, false, false, false, false, false, false, false, false] rfl rfl (any_of HT_.out k1_) (fun _ _ _ h => h) (Or.inl ⟨by rfl, ?_⟩) ?_ ?_
         rotate_left
         ·intro w'
          go_simp
          with_reducible rfl
         rotate_left
         ·simp only [Act.put, List.setIfInBounds_toArray, List.set_cons_zero, List.set_cons_succ, i64_w, i32_w]
          rfl
         refine pure_ (i := 1) (N := some 17) (v := ?_) (a' := ?_) #[true, true, false, false, false, false, false, false, false, false, false, false] rfl rfl (any_of HT_.out k1_) (fun _ _ _ h => h) (Or.inl ⟨by rfl, ?_⟩) ?_ ?_
         rotate_left
         ·intro w'
          go_simp
          with_reducible rfl
         rotate_left
         ·simp only [Act.put, List.setIfInBounds_toArray, List.set_cons_zero, List.set_cons_succ, i64_w, i32_w]
          rfl
         refine pure_ (i := 2) (N := some 18) (v := ?_) (a' := ?_) #[true, true, true, false, false, false, false, false, false, false, false, false] rfl rfl (any_of HT_.out k1_) (fun _ _ _ h => h) (Or.inl ⟨by rfl, ?_⟩) ?_ ?_
         rotate_left
         ·intro w'
          go_simp
          with_reducible rfl
         rotate_left
         ·simp only [Act.put, List.setIfInBounds_toArray, List.set_cons_zero, List.set_cons_succ, i64_w, i32_w]
          rfl
         refine pure_ (i := 3) (N := some 19) (v := ?_) (a' := ?_) #[true, true, true, true, false, false, false, false, false, false, false, false] rfl rfl (any_of HT_.out k1_) (fun _ _ _ h => h) (Or.inl ⟨by rfl, ?_⟩) ?_ ?_
         rotate_left
         ·intro w'
          go_simp
          with_reducible rfl
         rotate_left
         ·simp only [Act.put, List.setIfInBounds_toArray, List.set_cons_zero, List.set_cons_succ, i64_w, i32_w]
          rfl
         refine pure_ (i := 4) (N := some 20) (v := ?_) (a' := ?_) #[true, true, true, true, true, false, false, false, false, false, false, false] rfl rfl (any_of HT_.out k1_) (fun _ _ _ h => h) (Or.inl ⟨by rfl, ?_⟩) ?_ ?_
         rotate_left
         ·intro w'
          go_simp
          with_reducible rfl
         rotate_left
         ·simp only [Act.put, List.setIfInBounds_toArray, List.set_cons_zero, List.set_cons_succ, i64_w, i32_w]
          rfl
         refine pure_ (i := 5) (N := some 21) (v := ?_) (a' := ?_) #[true, true, true, true, true, true, false, false, false, false, false, false] rfl rfl (any_of HT_.out k1_) (fun _ _ _ h => h) (Or.inl ⟨by rfl, ?_⟩) ?_ ?_
         rotate_left
         ·intro w'
          go_simp
          with_reducible rfl
         rotate_left
         ·simp only [Act.put, List.setIfInBounds_toArray, List.set_cons_zero, List.set_cons_succ, i64_w, i32_w]
          rfl
         refine pure_ (i := 6) (N := some 22) (v := ?_) (a' := ?_) #[true, true, true, true, true, true, true, false, false, false, false, false] rfl rfl (any_of HT_.out k1_) (fun _ _ _ h => h) (Or.inl ⟨by rfl, ?_⟩) ?_ ?_
         rotate_left
         ·intro w'
          go_simp
          with_reducible rfl
         rotate_left
         ·simp only [Act.put, List.setIfInBounds_toArray, List.set_cons_zero, List.set_cons_succ, i64_w, i32_w]
          rfl
         refine pure_ (i := 7) (N := some 23) (v := ?_) (a' := ?_) #[true, true, true, true, true, true, true, true, false, false, false, false] rfl rfl (any_of HT_.out k1_) (fun _ _ _ h => h) (Or.inl ⟨by rfl, ?_⟩) ?_ ?_
         rotate_left
         ·intro w'
          go_simp
          with_reducible rfl
         rotate_left
         ·simp only [Act.put, List.setIfInBounds_toArray, List.set_cons_zero, List.set_cons_succ, i64_w, i32_w]
          rfl
         refine pure_ (i := 8) (N := some 24) (v := ?_) (a' := ?_) #[true, true, true, true, true, true, true, true, true, false, false, false] rfl rfl (any_of HT_.out k1_) (fun _ _ _ h => h) (Or.inl ⟨by rfl, ?_⟩) ?_ ?_
         rotate_left
         ·intro w'
          go_simp
          with_reducible rfl
         rotate_left
         ·simp only [Act.put, List.setIfInBounds_toArray, List.set_cons_zero, List.set_cons_succ, i64_w, i32_w]
          rfl
         refine pure_ (i := 9) (N := some 25) (v := ?_) (a' := ?_) #[true, true, true, true, true, true, true, true, true, true, false, false] rfl rfl (any_of HT_.out k1_) (fun _ _ _ h => h) (Or.inl ⟨by rfl, ?_⟩) ?_ ?_
         rotate_left
         ·intro w'
          go_simp
          with_reducible rfl
         rotate_left
         ·simp only [Act.put, List.setIfInBounds_toArray, List.set_cons_zero, List.set_cons_succ, i64_w, i32_w]
          rfl
         refine one_ (i := 10) (N := some 26) #[true, true, true, true, true, true, true, true, true, true, true, false] rfl rfl (one_of HT_.out k1_) (by decide) (fun K hK => ?_)
         refine Kd.R_lit_step (Kd.int .u8) _ 5 ?hg (N := 26) ?hd (xs := ([(Go.bits .or .i64 (Go.bits .and .i64 (ji9) 255) (ji12)) % 256] : List Int)) (inner := [.int .u8 ((Go.bits .or .i64 (Go.bits .and .i64 (ji9) 255) (ji12)) % 256)]) (ok := fun _ => True) (okp := fun _ => True) ?hr ?hp (fun _ hk => hk) trivial (Below.refl _ _) (Nat.le_refl _) (by simp) ?_; (case hd => rfl); (case hg => rfl); (case hr => first | (go_simp; done) | (go_simp; rfl)); (case hp => exact (Reps.one (show Kd.M (Kd.int .u8) _ _ _ ((Go.bits .or .i64 (Go.bits .and .i64 (ji9) 255) (ji12)) % 256) [.int .u8 ((Go.bits .or .i64 (Go.bits .and .i64 (ji9) 255) (ji12)) % 256)] from rfl) (Reps.none _ _)))
         intro v216 w27 ho28 hb hg_ hnew_
         clear hg_ hnew_
         (first | rw [← Ny215.out] at ho28 | (simp only [Int.reduceToNat] at ho28; rw [← Ny215.out] at ho28))
         have n0_ := Aside0.mk (Kd.R_lower ho28 (below_size b1_))
         have n1_ := Aside0.mk (below_step b1_ hb)
         clear HB
         have HO217 := n0_
         have HB := n1_
         clear n0_ n1_
         clear hb ho28
         refine hK.out _ _ trivial (fun hHeld => ?_)
         clear hK K
         refine norm_ (a' := ?_) ?_ ?_
         rotate_left
         ·show Act.put _ (some 26) _ = _
          simp only [Act.put, List.setIfInBounds_toArray, List.set_cons_zero, List.set_cons_succ, i64_w, i32_w]
          rfl
         refine pure_ (i := 11) (N := some 5) (v := ?_) (a' := ?_) #[true, true, true, true, true, true, true, true, true, true, true, true] rfl rfl (any_of HT_.out k1_) (fun _ _ _ h => h) (Or.inl ⟨by rfl, ?_⟩) ?_ ?_
         rotate_left
         ·intro w'
          go_simp
          with_reducible rfl
         rotate_left
         ·simp only [Act.put, List.setIfInBounds_toArray, List.set_cons_zero, List.set_cons_succ, i64_w, i32_w]
          rfl
         refine done_ (done_of HT_.out k1_) ?_
         try go_wp2_with (first | ((with_reducible refine gate_builtin (b := .append) (xs := #[(.tmp 40), .tmp 46]) rfl ?_); at_builtin; refine Kd.R_append (Kd.int .u8) (w0 := w) w.heap.size rfl (.tmp 40) (.tmp 46) 62 5 (.int .u8 0) 1 rfl Tryz.underlying62 info5 rfl (by decide) (by omega) v216 y215 ((Go.bits .or .i64 128 (Go.bits .and .i64 (a0 / 64) 63)) % 256) [.int .u8 ((Go.bits .or .i64 128 (Go.bits .and .i64 (a0 / 64) 63)) % 256)] (fun _ => True) (fun _ => False) rfl rfl ?aP (fun _ hk => hk.elim) ?aF ?aO ?aB ?aS ?aL ?_; (case aP => exact rfl); (case aB => exact b1_); (case aF => exact (fun _ _ => trivial)); (case aO => exact (by have G0 := HO217; exact z1_)); (case aS => exact (below_size b1_)); (case aL => have := LMc24.out; omega); intro v228 w29 ho hb hg hat; rw [← Ny227.out] at ho; have n0_ := Aside0.mk (hb); have n1_ := Aside0.mk (ho); clear HB; clear HO217; have HB := n0_; have HO229 := n1_; clear n0_ n1_; clear ho hb hg hat) | ((with_reducible refine gate_builtin (b := .append) (xs := #[(.tmp 48), .tmp 53]) rfl ?_); at_builtin; refine Kd.R_append (Kd.int .u8) (w0 := w) w.heap.size rfl (.tmp 48) (.tmp 53) 62 5 (.int .u8 0) 1 rfl Tryz.underlying62 info5 rfl (by decide) (by omega) v228 y227 ((Go.bits .or .i64 128 (Go.bits .and .i64 a0 63)) % 256) [.int .u8 ((Go.bits .or .i64 128 (Go.bits .and .i64 a0 63)) % 256)] (fun _ => True) (fun _ => False) rfl rfl ?aP (fun _ hk => hk.elim) ?aF ?aO ?aB ?aS ?aL ?_; (case aP => exact rfl); (case aB => exact b1_); (case aF => exact (fun _ _ => trivial)); (case aO => exact (by have G0 := HO229; exact z1_)); (case aS => exact (below_size b1_)); (case aL => have := LMc25.out; omega); intro v231 w30 ho hb hg hat; rw [← Ny230.out] at ho; have n0_ := Aside0.mk (hb); have n1_ := Aside0.mk (ho); clear HB; clear HO229; have HB := n0_; have HO232 := n1_; clear n0_ n1_; clear ho hb hg hat))
         go_ret2
         exact ⟨_, z32_, by have G0 := HO232; exact z1_, b1_⟩
        ·rw [if_neg c25] at H
         exact absurd H (by simp)
       ·rw [if_neg c24] at H
        exact absurd H (by simp)
      ·rw [if_neg c23] at H
       have c23b0 : (t211 == 3) = false := beq_eq_false_iff_ne.mpr c23
       have c23b1 : (t211 != 3) = true := bne_iff_ne.mpr c23
       by_cases c31 : y215.length < 140737488355328
       ·rw [if_pos c31] at H
        have LMc31 := Aside0.mk c31
        clear c31
        obtain ⟨y233, hy233⟩ : ∃ y_ : List Int, y_ = (y215 ++ [(Go.bits .or .i64 128 (Go.bits .and .i64 a0 63)) % 256]) := ⟨_, rfl⟩
        replace H : (some (y233, 0)) = some (r1, r2) := by first | (rw [hy233]; with_reducible exact H) | (have H2_ := (Option.bind_some _ _).symm.trans H; rw [hy233]; with_reducible exact H2_) | (have H2_ := (Option.bind_some _ _).symm.trans H; with_reducible exact H2_) | with_reducible exact H | (rw [hy233]; exact H) | exact H
        have Ny233 := Aside0.mk hy233
        clear hy233
        simp only [Option.some.injEq, Prod.mk.injEq] at H
        obtain ⟨rfl, rfl⟩ := H
        go_enter Tryz.func43, Tryz.ntmps43
        try go_wp2_with (first | ((with_reducible refine gate_callee (f := 60) rfl ?_); refine goesL_ (some 7) rfl rfl Tryz.func60 k1_ rfl #[.int .i64 a0] rfl g1_ ?_; (with_reducible refine (utf_may.calls a0 true _ A2.out).mono ?_); rintro e w' ⟨rfl, ⟨ndA, rfl⟩⟩; refine ⟨_, rfl, ?_⟩) | ((with_reducible refine gate_callee (f := 61) rfl ?_); refine goesL_ (some 10) rfl rfl Tryz.func61 k1_ rfl #[.int .i64 a0] rfl g1_ ?_; (with_reducible refine (utf_size.calls a0 t211 _ A4.out).mono ?_); rintro e w' ⟨rfl, ⟨ndB, rfl⟩⟩; refine ⟨_, rfl, ?_⟩))
        have n0_ := Aside0.mk (below_drew1 HB.out)
        clear HB
        have HB := n0_
        clear n0_
        refine start_ (n := 12) (S := fun w' => True) (ds := []) #[false, false, false, false, false, false, false, false, false, false, false, false] k1_ rfl rfl trivial (fun hHeld => ?_); refine with_tabW utf_Put.tab6 utf_Put.bits6 (fun HT_ HW_ => ?_)
        clear HB
        have HB := Aside0.mk (below_drew1 (pw_below_drewN (Below.refl w.heap.size w) (ndA + ndB)))
        generalize (w.drewN (ndA + ndB)).drew = w32 at HB hHeld ⊢
        refine pure_ (i := 0) (N := some 16) (v := ?_) (a' := ?_) #[true, false, false, false, false, false, false, false, false, false, false, false] rfl rfl (any_of HT_.out k1_) (fun _ _ _ h => h) (Or.inl ⟨by rfl, ?_⟩) ?_ ?_
        rotate_left
        ·intro w'
         go_simp
         with_reducible rfl
        rotate_left
        ·simp only [Act.put, List.setIfInBounds_toArray, List.set_cons_zero, List.set_cons_succ, i64_w, i32_w]
         rfl
        refine pure_ (i := 1) (N := some 17) (v := ?_) (a' := ?_) #[true, true, false, false, false, false, false, false, false, false, false, false] rfl rfl (any_of HT_.out k1_) (fun _ _ _ h => h) (Or.inl ⟨by rfl, ?_⟩) ?_ ?_
        rotate_left
        ·intro w'
         go_simp
         with_reducible rfl
        rotate_left
        ·simp only [Act.put, List.setIfInBounds_toArray, List.set_cons_zero, List.set_cons_succ, i64_w, i32_w]
         rfl
        refine pure_ (i := 2) (N := some 18) (v := ?_) (a' := ?_) #[true, true, true, false, false, false, false, false, false, false, false, false] rfl rfl (any_of HT_.out k1_) (fun _ _ _ h => h) (Or.inl ⟨by rfl, ?_⟩) ?_ ?_
        rotate_left
        ·intro w'
         go_simp
         with_reducible rfl
        rotate_left
        ·simp only [Act.put, List.setIfInBounds_toArray, List.set_cons_zero, List.set_cons_succ, i64_w, i32_w]
         rfl
        refine pure_ (i := 3) (N := some 19) (v := ?_) (a' := ?_) #[true, true, true, true, false, false, false, false, false, false, false, false] rfl rfl (any_of HT_.out k1_) (fun _ _ _ h => h) (Or.inl ⟨by rfl, ?_⟩) ?_ ?_
        rotate_left
        ·intro w'
         go_simp
         with_reducible rfl
        rotate_left
        ·simp only [Act.put, List.setIfInBounds_toArray, List.set_cons_zero, List.set_cons_succ, i64_w, i32_w]
         rfl
        refine pure_ (i := 4) (N := some 20) (v := ?_) (a' := ?_) #[true, true, true, true, true, false, false, false, false, false, false, false] rfl rfl (any_of HT_.out k1_) (fun _ _ _ h => h) (Or.inl ⟨by rfl, ?_⟩) ?_ ?_
        rotate_left
        ·intro w'
         go_simp
         with_reducible rfl
        rotate_left
        ·simp only [Act.put, List.setIfInBounds_toArray, List.set_cons_zero, List.set_cons_succ, i64_w, i32_w]
         rfl
        refine pure_ (i := 5) (N := some 21) (v := ?_) (a' := ?_) #[true, true, true, true, true, true, false, false, false, false, false, false] rfl rfl (any_of HT_.out k1_) (fun _ _ _ h => h) (Or.inl ⟨by rfl, ?_⟩) ?_ ?_
        rotate_left
        ·intro w'
         go_simp
         with_reducible rfl
        rotate_left
        ·simp only [Act.put, List.setIfInBounds_toArray, List.set_cons_zero, List.set_cons_succ, i64_w, i32_w]
         rfl
        refine pure_ (i := 6) (N := some 22) (v := ?_) (a' := ?_) #[true, true, true, true, true, true, true, false, false, false, false, false] rfl rfl (any_of HT_.out k1_) (fun _ _ _ h => h) (Or.inl ⟨by rfl, ?_⟩) ?_ ?_
        rotate_left
        ·intro w'
         go_simp
         with_reducible rfl
        rotate_left
        ·simp only [Act.put, List.setIfInBounds_toArray, List.set_cons_zero, List.set_cons_succ, i64_w, i32_w]
         rfl
        refine pure_ (i := 7) (N := some 23) (v := ?_) (a' := ?_) #[true, true, true, true, true, true, true, true, false, false, false, false] rfl rfl (any_of HT_.out k1_) (fun _ _ _ h => h) (Or.inl ⟨by rfl, ?_⟩) ?_ ?_
        rotate_left
        ·intro w'
         go_simp
         with_reducible rfl
        rotate_left
        ·simp only [Act.put, List.setIfInBounds_toArray, List.set_cons_zero, List.set_cons_succ, i64_w, i32_w]
         rfl
        refine pure_ (i := 8) (N := some 24) (v := ?_) (a' := ?_) #[true, true, true, true, true, true, true, true, true, false, false, false] rfl rfl (any_of HT_.out k1_) (fun _ _ _ h => h) (Or.inl ⟨by rfl, ?_⟩) ?_ ?_
        rotate_left
        ·intro w'
         go_simp
         with_reducible rfl
        rotate_left
        ·simp only [Act.put, List.setIfInBounds_toArray, List.set_cons_zero, List.set_cons_succ, i64_w, i32_w]
         rfl
        refine pure_ (i := 9) (N := some 25) (v := ?_) (a' := ?_) #[true, true, true, true, true, true, true, true, true, true, false, false] rfl rfl (any_of HT_.out k1_) (fun _ _ _ h => h) (Or.inl ⟨by rfl, ?_⟩) ?_ ?_
        rotate_left
        ·intro w'
         go_simp
         with_reducible rfl
        rotate_left
        ·simp only [Act.put, List.setIfInBounds_toArray, List.set_cons_zero, List.set_cons_succ, i64_w, i32_w]
         rfl
        refine one_ (i := 10) (N := some 26) #[true, true, true, true, true, true, true, true, true, true, true, false] rfl rfl (one_of HT_.out k1_) (by decide) (fun K hK => ?_)
        refine Kd.R_lit_step (Kd.int .u8) _ 5 ?hg (N := 26) ?hd (xs := ([(Go.bits .or .i64 (Go.bits .and .i64 (ji9) 255) (ji12)) % 256] : List Int)) (inner := [.int .u8 ((Go.bits .or .i64 (Go.bits .and .i64 (ji9) 255) (ji12)) % 256)]) (ok := fun _ => True) (okp := fun _ => True) ?hr ?hp (fun _ hk => hk) trivial (Below.refl _ _) (Nat.le_refl _) (by simp) ?_; (case hd => rfl); (case hg => rfl); (case hr => first | (go_simp; done) | (go_simp; rfl)); (case hp => exact (Reps.one (show Kd.M (Kd.int .u8) _ _ _ ((Go.bits .or .i64 (Go.bits .and .i64 (ji9) 255) (ji12)) % 256) [.int .u8 ((Go.bits .or .i64 (Go.bits .and .i64 (ji9) 255) (ji12)) % 256)] from rfl) (Reps.none _ _)))
        intro v216 w33 ho34 hb hg_ hnew_
        clear hg_ hnew_
        (first | rw [← Ny215.out] at ho34 | (simp only [Int.reduceToNat] at ho34; rw [← Ny215.out] at ho34))
        have n0_ := Aside0.mk (Kd.R_lower ho34 (below_size b1_))
        have n1_ := Aside0.mk (below_step b1_ hb)
        clear HB
        have HO217 := n0_
        have HB := n1_
        clear n0_ n1_
        clear hb ho34
        refine hK.out _ _ trivial (fun hHeld => ?_)
        clear hK K
        refine norm_ (a' := ?_) ?_ ?_
        rotate_left
        ·show Act.put _ (some 26) _ = _
         simp only [Act.put, List.setIfInBounds_toArray, List.set_cons_zero, List.set_cons_succ, i64_w, i32_w]
         rfl
        refine pure_ (i := 11) (N := some 5) (v := ?_) (a' := ?_) #[true, true, true, true, true, true, true, true, true, true, true, true] rfl rfl (any_of HT_.out k1_) (fun _ _ _ h => h) (Or.inl ⟨by rfl, ?_⟩) ?_ ?_
        rotate_left
        ·intro w'
         go_simp
         with_reducible rfl
        rotate_left
        ·simp only [Act.put, List.setIfInBounds_toArray, List.set_cons_zero, List.set_cons_succ, i64_w, i32_w]
         rfl
        refine done_ (done_of HT_.out k1_) ?_
        try go_wp2_with (first | ((with_reducible refine gate_builtin (b := .append) (xs := #[(.tmp 48), .tmp 53]) rfl ?_); at_builtin; refine Kd.R_append (Kd.int .u8) (w0 := w) w.heap.size rfl (.tmp 48) (.tmp 53) 62 5 (.int .u8 0) 1 rfl Tryz.underlying62 info5 rfl (by decide) (by omega) v216 y215 ((Go.bits .or .i64 128 (Go.bits .and .i64 a0 63)) % 256) [.int .u8 ((Go.bits .or .i64 128 (Go.bits .and .i64 a0 63)) % 256)] (fun _ => True) (fun _ => False) rfl rfl ?aP (fun _ hk => hk.elim) ?aF ?aO ?aB ?aS ?aL ?_; (case aP => exact rfl); (case aB => exact b1_); (case aF => exact (fun _ _ => trivial)); (case aO => exact (by have G0 := HO217; exact z1_)); (case aS => exact (below_size b1_)); (case aL => have := LMc31.out; omega); intro v234 w35 ho hb hg hat; rw [← Ny233.out] at ho; have n0_ := Aside0.mk (hb); have n1_ := Aside0.mk (ho); clear HB; clear HO217; have HB := n0_; have HO235 := n1_; clear n0_ n1_; clear ho hb hg hat))
        go_ret2
        exact ⟨_, z32_, by have G0 := HO235; exact z1_, b1_⟩
       ·rw [if_neg c31] at H
        exact absurd H (by simp)
    ·rw [if_neg c11] at H
     exact absurd H (by simp)
   ·rw [if_neg c8] at H
    exact absurd H (by simp)
 ·replace c3 := Bool.eq_false_iff.mpr c3
  subst c3
  have H1 : (some (([] : List Int), 2)) = some (r1, r2) := by rw [if_neg (show ¬ (false = true) by decide)] at H; exact H
  clear H
  have H := H1
  clear H1
  simp only [Option.some.injEq, Prod.mk.injEq] at H
  obtain ⟨rfl, rfl⟩ := H
  go_enter Tryz.func43, Tryz.ntmps43
  go_wp2_with (first | ((with_reducible refine gate_callee (f := 60) rfl ?_); refine goesL_ (some 7) rfl rfl Tryz.func60 k1_ rfl #[.int .i64 a0] rfl g1_ ?_; (with_reducible refine (utf_may.calls a0 false _ A2.out).mono ?_); rintro e w' ⟨rfl, ⟨nd, rfl⟩⟩; refine ⟨_, rfl, ?_⟩))
  go_ret2
  exact ⟨_, e2_, z28_, b1_⟩
theorem utf_Put.total (r : Int) : ∃ b : List Int, ∃ e : Int, utf_Put.f r = some (b, e) := by
 obtain ⟨m, hm⟩ := utf_may.total r
 obtain ⟨n, hn, n1, n4⟩ := utf_size.total r
 unfold utf_Put.f
 rw [hm, hn]
 simp only [Option.bind_some]
 cases m with
 | false => exact ⟨_, _, rfl⟩
 | true =>
  rw [if_pos rfl]
  have h : n = 1 ∨ n = 2 ∨ n = 3 ∨ n = 4 := by omega
  rcases h with rfl | rfl | rfl | rfl
  ·exact ⟨_, _, rfl⟩
  all_goals
   simp only [List.length_append, List.length_cons, List.length_nil, wrap64]
   exact ⟨_, _, rfl⟩
def putT (r : Int) : List Int × Int := (utf_Put.f r).getD ([], 0)
theorem putT_eq (r : Int) : utf_Put.f r = some ((putT r).1, (putT r).2) := by
 obtain ⟨b, e, h⟩ := utf_Put.total r
 unfold putT
 rw [h]; rfl
def endP (l : List (Int × Int)) : Int := l.foldl (fun _ p => wrap64 (p.1 + ((putT p.2).1.length : Int))) 0
theorem endP_snoc (l : List (Int × Int)) (x : Int × Int) : endP (l ++ [x]) = wrap64 (x.1 + ((putT x.2).1.length : Int)) := by simp [endP]
theorem keepsOthers_below {W W' : World} (h : Below W.heap.size W W') : KeepsOthers W W' := KeepsOthers.of_grownBy (grown_of_below h none) (fun j o e => by cases e)
theorem keepsBox_below {b : Nat} {W W' : World} (h : Below W.heap.size W W') : KeepsBox b W W' := fun v hv => _root_.Go.cell_kept hv (grown_of_below h none) (fun r e => by cases e)
def lex_well.f (a0 : ByteArray) : Option ByteArray := if a0.size ≤ 140737488355328 ∧ 0 ≤ endP (runesOf a0) ∧ endP (runesOf a0) ≤ (a0.size : Int) then some (a0.extract 0 (endP (runesOf a0)).toNat) else none
section
attribute [local go_sem] Oper.semAt_some
set_option maxRecDepth 100000 in
set_option maxHeartbeats 2000000 in
theorem lex_well.calls (a0 : ByteArray) (r : ByteArray) (w : World) (h : lex_well.f a0 = some r) :
  Calls Tryz.prog 29 #[.string a0] w fun e w' => e = .returned (.string r) ∧ Below w.heap.size w w' := by
 unfold lex_well.f at h
 split at h
 ·rename_i hs3
  obtain ⟨hs, he0, he1⟩ := hs3
  obtain rfl := Option.some.inj h
  clear h
  refine (callsIn_wide (n := 5)).1 ?_
  refine callsIn_of_wp_marks Tryz.func29 rfl trivial ?_ rfl
  simp only [Tryz.ntmps29, List.size_toArray, List.length_cons, List.length_nil, Nat.reduceAdd, Nat.reduceSub, Array.replicate_succ, Array.replicate_zero, List.push_toArray, List.append_toArray, List.nil_append, List.cons_append]
  gi_wp2_with (refine ⟨trivial, ?_⟩; gi_at_call 42; refine (wide_of (utf_Runes.calls a0 _)).mono ?_; rintro e w' ⟨rfl, rfl⟩)
  have c0 := cellNew w (.int .i64 0) 3
  have c1 := cellNew (w.alloc (.cells #[.int .i64 0] 3)) (.string a0) 9
  rw [World.size_alloc] at c1
  have hB0 : Below w.heap.size w ((w.alloc (.cells #[.int .i64 0] 3)).alloc (.cells #[.string a0] 9)) := ((Below.refl _ w).alloc (Nat.le_refl _) _).alloc (by simp) _
  refine wpIn_rangeFunc_ownF rfl (by omega) (gf := 58) (lb := #[.pointer (some ⟨w.heap.size + 1, 0, none⟩)]) rfl trivial (enters_of Tryz.func58 k1_ rfl)
   (runes_stops 4 (by omega) a0 hs (w.heap.size + 1) _ (by simp) c1.1) keepsBox_t (fun W l o o' _ h hc _ => keepsBox_b W l o o' h hc) (Below.refl _ _) (fun _ => rfl)
   (fun pre W => (W.cell? ⟨w.heap.size, 0, none⟩ = some (.int .i64 (endP pre)) ∧ W.frozen? ⟨w.heap.size, 0, none⟩ = false) ∧ Below w.heap.size w W)
   (fun _ _ _ => False)
   (OwnFrom.and (Own.from (fun s A B row hs hg hr => ⟨_root_.Go.cell_kept hs.1 hg hr, (_root_.Go.frozen_kept hs.1 hg hr).trans hs.2⟩) _) (ownFrom_below (Nat.le_refl _) (by simp; omega)))
   (fun _ _ _ _ _ hs _ _ => hs)
   ⟨⟨cellAlloc _ c0.1, frozenAlloc _ c0.1 c0.2⟩, hB0⟩
   (fun x => { tmps := #[.string a0, undef, .string (⟨#[]⟩ : ByteArray), .pointer (some ⟨w.heap.size, 0, none⟩), .int .i64 x.1, .int .i64 x.2, undef, undef, .string a0, .func (.func 58) #[] #[.pointer (some ⟨w.heap.size + 1, 0, none⟩)], .int .i64 x.1, .int .i64 x.2, undef, undef, undef, undef, undef, undef, undef, undef, undef, undef, undef, undef], defers := [] }) ?assign ?body ?done ?stop
  case assign =>
   intro l x W K hK
   gi_wp2
   exact hK
  case body =>
   rintro l pre x W ⟨⟨hc, hf⟩, hB⟩ _
   gi_wp2_with (refine ⟨trivial, ?_⟩; gi_at_call 43; refine (CallsIn.inRound l (wide_of (utf_Put.calls x.2 (putT x.2).1 (putT x.2).2 _ (putT_eq x.2)))).mono ?_; rintro e w' ⟨v, rfl, hr, hb⟩; obtain ⟨A_, c_, rfl⟩ := Kd.R_slice hr; have hc2 := _root_.Go.cell_kept hc (grown_of_below hb none) (fun r e => by cases e); have hf2 := (_root_.Go.frozen_kept hc (grown_of_below hb none) (fun r e => by cases e)).trans hf)
   refine ⟨(keepsOthers_below hb).trans (KeepsOthers.setCell _ _ _), keepsBox_t (keepsBox_below hb) (keepsBox_set _ _ _ (by simp)), ⟨?_, ?_⟩, (below_then hB hB.size hb).setCell (p := ⟨w.heap.size, 0, none⟩) (Nat.le_refl _) _⟩
   ·rw [endP_snoc]
    exact World.cell?_setCell_same' _ _ _ (by rw [hc2]; rfl)
   ·rw [World.frozen?_setCell]
    exact hf2
  case done =>
   rintro D ys W hD rfl ⟨⟨hc, _⟩, hB⟩ hK
   gi_wp2
   refine ⟨by simp, .inl ⟨_, _, rfl, run_takeDeferred hK, ?_⟩⟩
   exact ⟨_, results_tmp rfl _ _ _, rfl, hB.trans (belowK_b (w := w) (Nat.le_refl _) W D _ _ (by simp at hD; omega) hK rfl rfl)⟩
  case stop =>
   rintro D c pre W _ _ h _
   exact h.elim
 ·cases h
end
def lex_All.l0 : Nat → List S50 → ByteArray → Int → Option (List S50 × Int × Int)
 | 0, _, _, _ => none
 | k + 1, xs, s, a => (lex_scanner_safely.f k s a).bind fun (x1, x2, x3, x4, x5, x6, x7, x8, x9, x10) => if x8 ≥ 0 then some ([], x8, 4) else if x7 = true then (if xs.length < 1954687338268 then lex_All.l0 k (xs ++ [(⟨x1, x2, (⟨x3, x4, x5⟩ : S31), x6⟩ : S50)]) x9 x10 else none) else some (xs, 0, 0)
def lex_All.f (k : Nat) (a0 : ByteArray) : Option (List S50 × Int × Int) := if (a0.size : Int) > 1048576 then some ([], 0, 3) else (lex_well.f a0).bind fun t => if (t.size : Int) < (a0.size : Int) then some ([], t.size, 4) else lex_All.l0 k [] a0 0
theorem lex_All.info : (Tryz.prog.info? 50).map (fun i => (i.zero, i.size, i.bytes)) = some (some (.agg #[.int .i64 0, .string (⟨#[]⟩ : ByteArray), .int .i64 0, .string (⟨#[]⟩ : ByteArray), .string (⟨#[]⟩ : ByteArray), .int .i64 0]), 6, 72) := by kernel_rfl
theorem lex_All.mono_l : ∀ k xs s a, LeO (lex_All.l0 k xs s a) (lex_All.l0 (k + 1) xs s a)
 | 0, _, _, _ => fun _ h => by simp [lex_All.l0] at h
 | k + 1, xs, s, a => by
  unfold lex_All.l0
  refine LeO.bind (lex_scanner_safely.mono _ _ _) fun b => ?_
  obtain ⟨x1, x2, x3, x4, x5, x6, x7, x8, x9, x10⟩ := b
  refine LeO.ite (LeO.refl _) (LeO.ite (LeO.ite (lex_All.mono_l k _ _ _) (LeO.refl _)) (LeO.refl _))
theorem lex_All.mono : ∀ a0 k, LeO (lex_All.f k a0) (lex_All.f (k + 1) a0) := by
 intro a0 k
 unfold lex_All.f
 exact LeO.ite (LeO.refl _) (LeO.bind (LeO.refl _) fun _ => LeO.ite (LeO.refl _) (lex_All.mono_l k _ _ _))
structure AX (w W : World) (g gy : Nat) (v : Value) (xs : List S50) (s : ByteArray) (at_ : Int) (cs : Array Value) : Prop where
 st : IsS75 w W g s at_
 below : Below w.heap.size w W
 row : Kd.R k50 50 W w.heap.size (fun k => k ≠ g ∧ k ≠ gy) v xs
 y : W.heap[gy]? = some (.cells cs 50 (0, 0))
 yw : w.heap.size ≤ gy
 yg : gy ≠ g
theorem AX.upy {w W W' : World} {g gy : Nat} {v : Value} {xs : List S50} {s : ByteArray} {at_ : Int} {cs cs' : Array Value} (h : AX w W g gy v xs s at_ cs) (hu : Upd W W' gy) (hn : W'.heap[gy]? = some (.cells cs' 50 (0, 0))) : AX w W' g gy v xs s at_ cs' :=
 ⟨⟨(hu.other g (Ne.symm h.yg)).trans h.st.1, h.st.2⟩, h.below.trans (hu.below h.yw), Kd.R_move h.row (fun k hk => hu.other k hk.2), hn, h.yw, h.yg⟩
set_option maxHeartbeats 4000000 in
set_option maxRecDepth 100000 in
theorem lex_All.calls (k : Nat) (a0 : ByteArray) (r1 : List S50) (r2 r3 : Int) (w : World) (h : lex_All.f k a0 = some (r1, r2, r3)) :
  Calls Tryz.prog 14 #[.string a0] w fun e w' => ∃ v0_ : Value, e = .returned (.tuple #[v0_, .int .i64 r2, .int .i64 r3]) ∧ Kd.R k50 50 w' w.heap.size (fun _ => True) v0_ r1 ∧ Below w.heap.size w w' := by
 unfold lex_All.f at h
 by_cases c1 : (a0.size : Int) > 1048576
 ·rw [if_pos c1] at h
  simp only [Option.some.injEq, Prod.mk.injEq] at h
  obtain ⟨rfl, rfl, rfl⟩ := h
  have c1b : decide ((a0.size : Int) > 1048576) = true := decide_eq_true c1
  go_enter Tryz.func14, Tryz.ntmps14
  go_wp2
  go_ret3
  exact ⟨_, rfl, Kd.R_nil _ _ _ _ _, Below.refl _ _⟩
 ·rw [if_neg c1] at h
  have c1b : decide ((a0.size : Int) > 1048576) = false := decide_eq_false c1
  obtain ⟨t, A0, H⟩ := Option.bind_eq_some_iff.mp h
  have AW := Aside0.mk A0
  clear h A0
  by_cases c2 : (t.size : Int) < (a0.size : Int)
  ·rw [if_pos c2] at H
   have c2b : decide ((t.size : Int) < (a0.size : Int)) = true := decide_eq_true c2
   simp only [Option.some.injEq, Prod.mk.injEq] at H
   obtain ⟨rfl, rfl, rfl⟩ := H
   go_enter Tryz.func14, Tryz.ntmps14
   go_wp2_with (first | (go_at_call 29; refine (lex_well.calls a0 t _ AW.out).mono ?_; rintro e w2 ⟨rfl, hb⟩; have HB := Aside0.mk hb; clear hb))
   go_ret3
   exact ⟨_, rfl, Kd.R_nil _ _ _ _ _, HB.out⟩
  ·rw [if_neg c2] at H
   have c2b : decide ((t.size : Int) < (a0.size : Int)) = false := decide_eq_false c2
   have H' := Aside0.mk H
   clear H
   go_enter Tryz.func14, Tryz.ntmps14
   go_wp2_with (first | (go_at_call 29; refine (lex_well.calls a0 t _ AW.out).mono ?_; rintro e w2 ⟨rfl, hb⟩; have HB := Aside0.mk hb; clear hb) | ((with_reducible refine gate_dst (N := 24) rfl ?_); refine box_event r1_ (N := 24) r1_ (cs := #[.string a0, .int .i64 0]) (t := 75) r2_ ?_; intro g hg w3 hbox hb; have HS := Aside0.mk (show IsS75 w w3 g a0 0 ∧ Below w.heap.size w w3 from ⟨⟨hbox, by rw [hg]; exact HB.out.size⟩, below_then HB.out HB.out.size hb⟩); clear hg hbox hb HB))
   go_loopg [6] k (fun kq v6 w' => ∃ (xs : List S50) (s : ByteArray) (a : Int), Aside0 (lex_All.l0 kq xs s a = some (r1, r2, r3)) ∧ Aside0 (kq ≤ k) ∧ Aside0 (Kd.R k50 50 w' w.heap.size (fun k => k ≠ g) v6 xs) ∧ Aside0 (IsS75 w w' g s a) ∧ Aside0 (Below w.heap.size w w'))
   case atStart => exact ⟨[], a0, 0, H', ⟨Nat.le_refl _⟩, ⟨Kd.R_nil _ _ _ _ _⟩, ⟨HS.out.1⟩, ⟨HS.out.2⟩⟩
   case round =>
    clear H' HS AW c2 c2b c1 c1b
    obtain ⟨xs, s, a, HA, HK1, HO, HI, HB⟩ := hrel
    cases gk with
    | zero => exact absurd HA.out (by simp [lex_All.l0])
    | succ k1 =>
     have H := HA.out
     clear HA
     simp only [lex_All.l0] at H
     replace H := Option.bind_eq_some_iff.mp H
     obtain ⟨⟨x1, x2, x3, x4, x5, x6, x7, x8, x9, x10⟩, A0, H⟩ := H
     simp only at H
     have AS := Aside0.mk A0
     clear A0
     by_cases c3 : x8 ≥ 0
     ·rw [if_pos c3] at H
      have c3b : decide (x8 ≥ 0) = true := decide_eq_true c3
      simp only [Option.some.injEq, Prod.mk.injEq] at H
      obtain ⟨rfl, rfl, rfl⟩ := H
      go_wp2_with (first | (go_at_call 30; refine (lex_scanner_safely.calls k1 g s a x1 x2 x3 x4 x5 x6 x7 x8 x9 x10 w _ HI.out HB.out AS.out).mono ?_; rintro e w4 ⟨rfl, h1, h2, h3⟩; have HI1 := Aside0.mk h1; have HB1 := Aside0.mk h2; have HO1 := Aside0.mk (Kd.R_keep HO.out h3 (fun _ hk => hk)); clear h1 h2 h3 HI HB HO) | ((with_reducible refine gate_dst (N := 8) rfl ?_); refine box_event r1_ (N := 8) r1_ (cs := #[.int .i64 0, .string (⟨#[]⟩ : ByteArray), .int .i64 0, .string (⟨#[]⟩ : ByteArray), .string (⟨#[]⟩ : ByteArray), .int .i64 0]) (t := 50) r2_ ?_; intro gy hgy w5 hbox hb; have HX := Aside0.mk (AX.mk (cs := #[.int .i64 0, .string (⟨#[]⟩ : ByteArray), .int .i64 0, .string (⟨#[]⟩ : ByteArray), .string (⟨#[]⟩ : ByteArray), .int .i64 0]) (HI1.out.below hb) (below_then HB1.out HB1.out.size hb) (Kd.R_mono (Kd.R_below (Kd.R_elderB HO1.out gy (Nat.le_of_eq hgy.symm)) hb) (fun _ hk => hk)) hbox (by rw [hgy]; exact HB1.out.size) (by rw [hgy]; exact Ne.symm (Nat.ne_of_lt HI1.out.lt))); clear hgy hbox hb HI1 HB1 HO1) | ((with_reducible refine gate_store (t := 50) (p := 8) rfl ?_); refine store_seg (gy := gy) (j := 0) (T := 50) (TB := 50) (cs := #[.int .i64 0, .string (⟨#[]⟩ : ByteArray), .int .i64 0, .string (⟨#[]⟩ : ByteArray), .string (⟨#[]⟩ : ByteArray), .int .i64 0]) (new := #[.int .i64 x1, .string x2, .int .i64 x3, .string x4, .string x5, .int .i64 x6]) (u := .agg #[.int .i64 x1, .string x2, .int .i64 x3, .string x4, .string x5, .int .i64 x6]) (seg := [.int .i64 x1, .string x2, .int .i64 x3, .string x4, .string x5, .int .i64 x6]) rfl (p := .tmp 8) (x := .tmp 28) rfl rfl r1_ r1_ r1_ HX.out.y k1_ s1_ h1_ rfl ?_; intro w6 hz hup; have HY := Aside0.mk (HX.out.upy hup hz); clear HX hz hup; have hy0 := (blk_cell HY.out.y 0).trans (show _ = some (.int .i64 x1) from rfl); have hy1 := (blk_cell HY.out.y 1).trans (show _ = some (.string x2) from rfl); have hy2 := (blk_cell HY.out.y 2).trans (show _ = some (.int .i64 x3) from rfl); have hy3 := (blk_cell HY.out.y 3).trans (show _ = some (.string x4) from rfl); have hy4 := (blk_cell HY.out.y 4).trans (show _ = some (.string x5) from rfl); have hy5 := (blk_cell HY.out.y 5).trans (show _ = some (.int .i64 x6) from rfl)))
      go_ret3
      exact ⟨_, rfl, Kd.R_nil _ _ _ _ _, HY.out.below⟩
     ·rw [if_neg c3] at H
      have c3b : decide (x8 ≥ 0) = false := decide_eq_false c3
      cases x7 with
      | false =>
       rw [if_neg (by decide)] at H
       simp only [Option.some.injEq, Prod.mk.injEq] at H
       obtain ⟨rfl, rfl, rfl⟩ := H
       go_wp2_with (first | (go_at_call 30; refine (lex_scanner_safely.calls k1 g s a x1 x2 x3 x4 x5 x6 false x8 x9 x10 w _ HI.out HB.out AS.out).mono ?_; rintro e w4 ⟨rfl, h1, h2, h3⟩; have HI1 := Aside0.mk h1; have HB1 := Aside0.mk h2; have HO1 := Aside0.mk (Kd.R_keep HO.out h3 (fun _ hk => hk)); clear h1 h2 h3 HI HB HO) | ((with_reducible refine gate_dst (N := 8) rfl ?_); refine box_event r1_ (N := 8) r1_ (cs := #[.int .i64 0, .string (⟨#[]⟩ : ByteArray), .int .i64 0, .string (⟨#[]⟩ : ByteArray), .string (⟨#[]⟩ : ByteArray), .int .i64 0]) (t := 50) r2_ ?_; intro gy hgy w5 hbox hb; have HX := Aside0.mk (AX.mk (cs := #[.int .i64 0, .string (⟨#[]⟩ : ByteArray), .int .i64 0, .string (⟨#[]⟩ : ByteArray), .string (⟨#[]⟩ : ByteArray), .int .i64 0]) (HI1.out.below hb) (below_then HB1.out HB1.out.size hb) (Kd.R_mono (Kd.R_below (Kd.R_elderB HO1.out gy (Nat.le_of_eq hgy.symm)) hb) (fun _ hk => hk)) hbox (by rw [hgy]; exact HB1.out.size) (by rw [hgy]; exact Ne.symm (Nat.ne_of_lt HI1.out.lt))); clear hgy hbox hb HI1 HB1 HO1) | ((with_reducible refine gate_store (t := 50) (p := 8) rfl ?_); refine store_seg (gy := gy) (j := 0) (T := 50) (TB := 50) (cs := #[.int .i64 0, .string (⟨#[]⟩ : ByteArray), .int .i64 0, .string (⟨#[]⟩ : ByteArray), .string (⟨#[]⟩ : ByteArray), .int .i64 0]) (new := #[.int .i64 x1, .string x2, .int .i64 x3, .string x4, .string x5, .int .i64 x6]) (u := .agg #[.int .i64 x1, .string x2, .int .i64 x3, .string x4, .string x5, .int .i64 x6]) (seg := [.int .i64 x1, .string x2, .int .i64 x3, .string x4, .string x5, .int .i64 x6]) rfl (p := .tmp 8) (x := .tmp 28) rfl rfl r1_ r1_ r1_ HX.out.y k1_ s1_ h1_ rfl ?_; intro w6 hz hup; have HY := Aside0.mk (HX.out.upy hup hz); clear HX hz hup; have hy0 := (blk_cell HY.out.y 0).trans (show _ = some (.int .i64 x1) from rfl); have hy1 := (blk_cell HY.out.y 1).trans (show _ = some (.string x2) from rfl); have hy2 := (blk_cell HY.out.y 2).trans (show _ = some (.int .i64 x3) from rfl); have hy3 := (blk_cell HY.out.y 3).trans (show _ = some (.string x4) from rfl); have hy4 := (blk_cell HY.out.y 4).trans (show _ = some (.string x5) from rfl); have hy5 := (blk_cell HY.out.y 5).trans (show _ = some (.int .i64 x6) from rfl)))
       go_ret3
       exact ⟨_, rfl, Kd.R_mono HY.out.row (fun _ _ => trivial), HY.out.below⟩
      | true =>
       rw [if_pos rfl] at H
       by_cases c4 : xs.length < 1954687338268
       ·rw [if_pos c4] at H
        have LM := Aside0.mk c4
        clear c4
        have H' := Aside0.mk H
        clear H
        go_wp2_with (first | (go_at_call 30; refine (lex_scanner_safely.calls k1 g s a x1 x2 x3 x4 x5 x6 true x8 x9 x10 w _ HI.out HB.out AS.out).mono ?_; rintro e w4 ⟨rfl, h1, h2, h3⟩; have HI1 := Aside0.mk h1; have HB1 := Aside0.mk h2; have HO1 := Aside0.mk (Kd.R_keep HO.out h3 (fun _ hk => hk)); clear h1 h2 h3 HI HB HO) | ((with_reducible refine gate_dst (N := 8) rfl ?_); refine box_event r1_ (N := 8) r1_ (cs := #[.int .i64 0, .string (⟨#[]⟩ : ByteArray), .int .i64 0, .string (⟨#[]⟩ : ByteArray), .string (⟨#[]⟩ : ByteArray), .int .i64 0]) (t := 50) r2_ ?_; intro gy hgy w5 hbox hb; have HX := Aside0.mk (AX.mk (cs := #[.int .i64 0, .string (⟨#[]⟩ : ByteArray), .int .i64 0, .string (⟨#[]⟩ : ByteArray), .string (⟨#[]⟩ : ByteArray), .int .i64 0]) (HI1.out.below hb) (below_then HB1.out HB1.out.size hb) (Kd.R_mono (Kd.R_below (Kd.R_elderB HO1.out gy (Nat.le_of_eq hgy.symm)) hb) (fun _ hk => hk)) hbox (by rw [hgy]; exact HB1.out.size) (by rw [hgy]; exact Ne.symm (Nat.ne_of_lt HI1.out.lt))); clear hgy hbox hb HI1 HB1 HO1) | ((with_reducible refine gate_store (t := 50) (p := 8) rfl ?_); refine store_seg (gy := gy) (j := 0) (T := 50) (TB := 50) (cs := #[.int .i64 0, .string (⟨#[]⟩ : ByteArray), .int .i64 0, .string (⟨#[]⟩ : ByteArray), .string (⟨#[]⟩ : ByteArray), .int .i64 0]) (new := #[.int .i64 x1, .string x2, .int .i64 x3, .string x4, .string x5, .int .i64 x6]) (u := .agg #[.int .i64 x1, .string x2, .int .i64 x3, .string x4, .string x5, .int .i64 x6]) (seg := [.int .i64 x1, .string x2, .int .i64 x3, .string x4, .string x5, .int .i64 x6]) rfl (p := .tmp 8) (x := .tmp 28) rfl rfl r1_ r1_ r1_ HX.out.y k1_ s1_ h1_ rfl ?_; intro w6 hz hup; have HY := Aside0.mk (HX.out.upy hup hz); clear HX hz hup; have hy0 := (blk_cell HY.out.y 0).trans (show _ = some (.int .i64 x1) from rfl); have hy1 := (blk_cell HY.out.y 1).trans (show _ = some (.string x2) from rfl); have hy2 := (blk_cell HY.out.y 2).trans (show _ = some (.int .i64 x3) from rfl); have hy3 := (blk_cell HY.out.y 3).trans (show _ = some (.string x4) from rfl); have hy4 := (blk_cell HY.out.y 4).trans (show _ = some (.string x5) from rfl); have hy5 := (blk_cell HY.out.y 5).trans (show _ = some (.int .i64 x6) from rfl)) | ((with_reducible refine gate_builtin (b := .append) (xs := #[(.tmp 39), .tmp 41]) rfl ?_); at_builtin; refine Kd.R_append k50 (w0 := w) w.heap.size rfl (.tmp 39) (.tmp 41) 45 50 (.agg #[.int .i64 0, .string (⟨#[]⟩ : ByteArray), .int .i64 0, .string (⟨#[]⟩ : ByteArray), .string (⟨#[]⟩ : ByteArray), .int .i64 0]) 72 rfl Tryz.underlying45 lex_All.info rfl (by decide) (by omega) _ xs (⟨x1, x2, (⟨x3, x4, x5⟩ : S31), x6⟩ : S50) [.int .i64 x1, .string x2, .int .i64 x3, .string x4, .string x5, .int .i64 x6] (fun k_ => k_ ≠ g ∧ k_ ≠ gy) (fun _ => False) rfl (by first | (go_simp; done) | (go_simp; rfl)) ?aP (fun _ hk => hk.elim) ?aF ?aO ?aB ?aS ?aL ?_; (case aP => exact k50_mkM _ _ _ (⟨x1, x2, (⟨x3, x4, x5⟩ : S31), x6⟩ : S50)); (case aB => exact HY.out.below); (case aF => exact fun k_ hk => ⟨Kd.freshB HY.out.st.1 k_ hk, Kd.freshB HY.out.y k_ hk⟩); (case aO => exact HY.out.row); (case aS => exact HY.out.below.size); (case aL => have := LM.out; omega); intro v1 w7 ho hb hg hat; have HZ := Aside0.mk (show Kd.R k50 50 w7 w.heap.size (fun k => k ≠ g) v1 (xs ++ [(⟨x1, x2, (⟨x3, x4, x5⟩ : S31), x6⟩ : S50)]) ∧ IsS75 w w7 g x9 x10 ∧ Below w.heap.size w w7 from ⟨Kd.R_mono ho (fun _ hk => hk.1), HY.out.st.grown hg (Kd.R_away HY.out.row (fun _ hk => hk.1)), hb⟩); clear HY ho hb hg hat))
        go_roundg k1
        case measure => have := HK1.out; omega
        case rel => exact ⟨_, x9, x10, H', ⟨by have := HK1.out; omega⟩, ⟨HZ.out.1⟩, ⟨HZ.out.2.1⟩, ⟨HZ.out.2.2⟩⟩
       ·rw [if_neg c4] at H
        cases H
def lex_Mark.f (a0_0 : Int) (a0_1 : ByteArray) (a0_2 : Int) (a0_3 : ByteArray) (a0_4 : ByteArray) (a0_5 : Int) (a1 : ByteArray) : Option (Bool) := if a0_0 = 8 then (some (a0_1.toList == a1.toList)) else (some false)
set_option maxHeartbeats 8000000 in
set_option maxRecDepth 100000 in
theorem lex_Mark.calls (a0_0 : Int) (a0_1 : ByteArray) (a0_2 : Int) (a0_3 : ByteArray) (a0_4 : ByteArray) (a0_5 : Int) (a1 : ByteArray) (r : Bool) (w : World) (h : lex_Mark.f a0_0 a0_1 a0_2 a0_3 a0_4 a0_5 a1 = some r) :
  Calls Tryz.prog 18 #[.agg #[.int .i64 a0_0, .string a0_1, .int .i64 a0_2, .string a0_3, .string a0_4, .int .i64 a0_5], .string a1] w fun e w' => e = .returned (.bool r) ∧ Below w.heap.size w w' := by
 have hu50 := Tryz.underlying50
 have HB := Aside0.mk (Below.refl w.heap.size w)
 have H : (if a0_0 = 8 then (some (a0_1.toList == a1.toList)) else (some false)) = some r := h
 clear h
 by_cases c3 : a0_0 = 8
 ·rw [if_pos c3] at H
  have c3b0 : (a0_0 == 8) = true := beq_iff_eq.mpr c3
  have c3b1 : (a0_0 != 8) = false := bne_eq_false_iff_eq.mpr c3
  clear c3
  obtain rfl := Option.some.inj H
  go_enter Tryz.func18, Tryz.ntmps18
  go_wp2_with (first | ((with_reducible refine gate_dst (N := 2) rfl ?_); refine box_event r1_ (N := 2) r1_ (cs := #[.int .i64 a0_0, .string a0_1, .int .i64 a0_2, .string a0_3, .string a0_4, .int .i64 a0_5]) (t := 50) r2_ ?_; intro gb236 hg w4 hbox hb; have BK236 := Aside0.mk (hbox); have GW236 := Aside0.mk (bs_ : w.heap.size ≤ gb236); have GE236 := Aside0.mk (bs_ : w.heap.size ≤ gb236); replace HB := Aside0.mk (below_step b1_ hb); clear hb hbox hg; have hcz5_0 := cl_ (.int .i64 a0_0) BK236.out 0; have hcz5_1 := cl_ (.string a0_1) BK236.out 1; have hcz5_2 := cl_ (.int .i64 a0_2) BK236.out 2; have hcz5_3 := cl_ (.string a0_3) BK236.out 3; have hcz5_4 := cl_ (.string a0_4) BK236.out 4; have hcz5_5 := cl_ (.int .i64 a0_5) BK236.out 5; have hfz5_0 := blk_frozen BK236.out 0; have hfz5_1 := blk_frozen BK236.out 1; have hfz5_2 := blk_frozen BK236.out 2; have hfz5_3 := blk_frozen BK236.out 3; have hfz5_4 := blk_frozen BK236.out 4; have hfz5_5 := blk_frozen BK236.out 5))
  go_ret
  exact ⟨e2_, by have G0 := GE236; exact z4_⟩
 ·rw [if_neg c3] at H
  have c3b0 : (a0_0 == 8) = false := beq_eq_false_iff_ne.mpr c3
  have c3b1 : (a0_0 != 8) = true := bne_iff_ne.mpr c3
  obtain rfl := Option.some.inj H
  go_enter Tryz.func18, Tryz.ntmps18
  go_wp2_with (first | ((with_reducible refine gate_dst (N := 2) rfl ?_); refine box_event r1_ (N := 2) r1_ (cs := #[.int .i64 a0_0, .string a0_1, .int .i64 a0_2, .string a0_3, .string a0_4, .int .i64 a0_5]) (t := 50) r2_ ?_; intro gb236 hg w6 hbox hb; have BK236 := Aside0.mk (hbox); have GW236 := Aside0.mk (bs_ : w.heap.size ≤ gb236); have GE236 := Aside0.mk (bs_ : w.heap.size ≤ gb236); replace HB := Aside0.mk (below_step b1_ hb); clear hb hbox hg; have hcz7_0 := cl_ (.int .i64 a0_0) BK236.out 0; have hcz7_1 := cl_ (.string a0_1) BK236.out 1; have hcz7_2 := cl_ (.int .i64 a0_2) BK236.out 2; have hcz7_3 := cl_ (.string a0_3) BK236.out 3; have hcz7_4 := cl_ (.string a0_4) BK236.out 4; have hcz7_5 := cl_ (.int .i64 a0_5) BK236.out 5; have hfz7_0 := blk_frozen BK236.out 0; have hfz7_1 := blk_frozen BK236.out 1; have hfz7_2 := blk_frozen BK236.out 2; have hfz7_3 := blk_frozen BK236.out 3; have hfz7_4 := blk_frozen BK236.out 4; have hfz7_5 := blk_frozen BK236.out 5))
  go_ret
  exact ⟨e2_, by have G0 := GE236; exact z4_⟩
def oneByteX (s : ByteArray) : Option UInt8 := match s with | ⟨⟨[c]⟩⟩ => some c | _ => none
theorem oneByteX_eq {s : ByteArray} {c : UInt8} (h : oneByteX s = some c) : s = ⟨#[c]⟩ := by
 unfold oneByteX at h
 split at h
 ·cases h; rfl
 ·cases h
def stringslite_Index.f (a0 a1 : ByteArray) : Option Int := (oneByteX a1).map fun c => Lib.indexByte a0.data.toList c
theorem stringslite_Index.calls (a0 a1 : ByteArray) (r : Int) (w : World) (h : stringslite_Index.f a0 a1 = some r) :
  Calls Tryz.prog 103 #[.string a0, .string a1] w fun e w' => e = .returned (.int .i64 r) ∧ Drawn0 w w' := by
 obtain ⟨c, hc, rfl⟩ := Option.map_eq_some_iff.mp h
 rw [oneByteX_eq hc]
 exact (Tryz.stringslite_Index_one a0 c w).mono fun e w' ⟨he, hw⟩ => ⟨he, by rw [hw]; exact Drawn0.refl w⟩
def stringslite_Cut.f (a0 : ByteArray) (a1 : ByteArray) : Option (ByteArray × ByteArray × Bool) := (stringslite_Index.f a0 a1).bind fun t237 => (if t237 ≥ 0 then (if 0 ≤ t237 then (if t237 ≤ (a0.size : Int) then (if 0 ≤ (wrap64 (t237 + (a1.size : Int))) then (if (wrap64 (t237 + (a1.size : Int))) ≤ (a0.size : Int) then (some (a0.extract 0 (t237 : Int).toNat, a0.extract ((wrap64 (t237 + (a1.size : Int))) : Int).toNat a0.size, true)) else (none)) else (none)) else (none)) else (none)) else (some (a0, (⟨#[]⟩ : ByteArray), false)))
set_option maxHeartbeats 8000000 in
set_option maxRecDepth 100000 in
theorem stringslite_Cut.calls (a0 : ByteArray) (a1 : ByteArray) (r1 : ByteArray) (r2 : ByteArray) (r3 : Bool) (w : World) (h : stringslite_Cut.f a0 a1 = some (r1, r2, r3)) :
  Calls Tryz.prog 71 #[.string a0, .string a1] w fun e w' => e = .returned (.tuple #[.string r1, .string r2, .bool r3]) ∧ Drawn0 w w' := by
 have H : ((stringslite_Index.f a0 a1).bind fun t237 => (if t237 ≥ 0 then (if 0 ≤ t237 then (if t237 ≤ (a0.size : Int) then (if 0 ≤ (wrap64 (t237 + (a1.size : Int))) then (if (wrap64 (t237 + (a1.size : Int))) ≤ (a0.size : Int) then (some (a0.extract 0 (t237 : Int).toNat, a0.extract ((wrap64 (t237 + (a1.size : Int))) : Int).toNat a0.size, true)) else (none)) else (none)) else (none)) else (none)) else (some (a0, (⟨#[]⟩ : ByteArray), false)))) = some (r1, r2, r3) := h
 clear h
 replace H := Option.bind_eq_some_iff.mp H
 obtain ⟨t237, A30, H⟩ := H
 replace H : (if t237 ≥ 0 then (if 0 ≤ t237 then (if t237 ≤ (a0.size : Int) then (if 0 ≤ (wrap64 (t237 + (a1.size : Int))) then (if (wrap64 (t237 + (a1.size : Int))) ≤ (a0.size : Int) then (some (a0.extract 0 (t237 : Int).toNat, a0.extract ((wrap64 (t237 + (a1.size : Int))) : Int).toNat a0.size, true)) else (none)) else (none)) else (none)) else (none)) else (some (a0, (⟨#[]⟩ : ByteArray), false))) = some (r1, r2, r3) := H
 have A3 := Aside0.mk A30
 clear A30
 by_cases c4 : t237 ≥ 0
 ·rw [if_pos c4] at H
  have c4b0 : decide (0 ≤ t237) = true := decide_eq_true c4
  clear c4
  by_cases c5 : 0 ≤ t237
  ·rw [if_pos c5] at H
   have c5b0 := eq_true c5
   have c5b1 : decide (0 ≤ t237) = true := decide_eq_true c5
   clear c5
   by_cases c6 : t237 ≤ (a0.size : Int)
   ·rw [if_pos c6] at H
    have c6b0 := eq_true c6
    have c6b1 : decide (t237 ≤ (a0.size : Int)) = true := decide_eq_true c6
    clear c6
    obtain ⟨ji7, hji7⟩ : ∃ j_ : Int, (wrap64 (t237 + (a1.size : Int))) = j_ := ⟨_, rfl⟩
    replace H : (if 0 ≤ (ji7) then (if (ji7) ≤ (a0.size : Int) then (some (a0.extract 0 (t237 : Int).toNat, a0.extract ((ji7) : Int).toNat a0.size, true)) else (none)) else (none)) = some (r1, r2, r3) := by first | (rw [hji7] at H; exact H) | (simp only [hji7] at H ⊢; exact H)
    (try rw [hji7] at A3)
    have hji7w : (IntKind.i64.wrap (t237 + (a1.size : Int))) = ji7 := (i64_w _).trans hji7
    by_cases c8 : 0 ≤ (ji7)
    ·rw [if_pos c8] at H
     have c8b0 := eq_true c8
     have c8b1 : decide (0 ≤ (ji7)) = true := decide_eq_true c8
     clear c8
     by_cases c9 : (ji7) ≤ (a0.size : Int)
     ·rw [if_pos c9] at H
      have c9b0 := eq_true c9
      have c9b1 : decide ((ji7) ≤ (a0.size : Int)) = true := decide_eq_true c9
      clear c9
      simp only [Option.some.injEq, Prod.mk.injEq] at H
      obtain ⟨rfl, rfl, rfl⟩ := H
      go_enter Tryz.func71, Tryz.ntmps71
      go_wp2_with (first | (go_at_call 103; (with_reducible refine (stringslite_Index.calls a0 a1 t237 _ A3.out).mono ?_); rintro e w' ⟨rfl, ⟨nd, rfl⟩⟩; (try first | exact ⟨rfl, _, World.drewN_drewN _ _ _⟩ | exact ⟨rfl, _, Eq.trans (World.drewN_drewN _ _ _) (congrArg (World.drewN _) (Nat.add_assoc _ _ _))⟩)))
      repeat (go_quiet (first | (go_at_call 103; (with_reducible refine (stringslite_Index.calls a0 a1 t237 _ A3.out).mono ?_); rintro e w' ⟨rfl, ⟨nd, rfl⟩⟩; (try first | exact ⟨rfl, _, World.drewN_drewN _ _ _⟩ | exact ⟨rfl, _, Eq.trans (World.drewN_drewN _ _ _) (congrArg (World.drewN _) (Nat.add_assoc _ _ _))⟩))); try go_wp2_with (first | (go_at_call 103; (with_reducible refine (stringslite_Index.calls a0 a1 t237 _ A3.out).mono ?_); rintro e w' ⟨rfl, ⟨nd, rfl⟩⟩; (try first | exact ⟨rfl, _, World.drewN_drewN _ _ _⟩ | exact ⟨rfl, _, Eq.trans (World.drewN_drewN _ _ _) (congrArg (World.drewN _) (Nat.add_assoc _ _ _))⟩))))
      go_ret3
      exact ⟨by first | rfl | (simp; done) | (simp only [← hji7] <;> (first | rfl | simp)) | (simp [*]; done), z2_⟩
     ·rw [if_neg c9] at H
      exact absurd H (by simp)
    ·rw [if_neg c8] at H
     exact absurd H (by simp)
   ·rw [if_neg c6] at H
    exact absurd H (by simp)
  ·rw [if_neg c5] at H
   exact absurd H (by simp)
 ·rw [if_neg c4] at H
  have c4b0 : decide (0 ≤ t237) = false := decide_eq_false c4
  clear c4
  simp only [Option.some.injEq, Prod.mk.injEq] at H
  obtain ⟨rfl, rfl, rfl⟩ := H
  go_enter Tryz.func71, Tryz.ntmps71
  go_wp2_with (first | (go_at_call 103; (with_reducible refine (stringslite_Index.calls a0 a1 t237 _ A3.out).mono ?_); rintro e w' ⟨rfl, ⟨nd, rfl⟩⟩; (try first | exact ⟨rfl, _, World.drewN_drewN _ _ _⟩ | exact ⟨rfl, _, Eq.trans (World.drewN_drewN _ _ _) (congrArg (World.drewN _) (Nat.add_assoc _ _ _))⟩)))
  repeat (go_quiet (first | (go_at_call 103; (with_reducible refine (stringslite_Index.calls a0 a1 t237 _ A3.out).mono ?_); rintro e w' ⟨rfl, ⟨nd, rfl⟩⟩; (try first | exact ⟨rfl, _, World.drewN_drewN _ _ _⟩ | exact ⟨rfl, _, Eq.trans (World.drewN_drewN _ _ _) (congrArg (World.drewN _) (Nat.add_assoc _ _ _))⟩))); try go_wp2_with (first | (go_at_call 103; (with_reducible refine (stringslite_Index.calls a0 a1 t237 _ A3.out).mono ?_); rintro e w' ⟨rfl, ⟨nd, rfl⟩⟩; (try first | exact ⟨rfl, _, World.drewN_drewN _ _ _⟩ | exact ⟨rfl, _, Eq.trans (World.drewN_drewN _ _ _) (congrArg (World.drewN _) (Nat.add_assoc _ _ _))⟩))))
  go_ret3
  exact ⟨e1_, z2_⟩
def strings_Cut.f (a0 : ByteArray) (a1 : ByteArray) : Option (ByteArray × ByteArray × Bool) := (stringslite_Cut.f a0 a1).bind fun bt238 => (some (bt238.1, bt238.2.1, bt238.2.2))
set_option maxHeartbeats 8000000 in
set_option maxRecDepth 100000 in
theorem strings_Cut.calls (a0 : ByteArray) (a1 : ByteArray) (r1 : ByteArray) (r2 : ByteArray) (r3 : Bool) (w : World) (h : strings_Cut.f a0 a1 = some (r1, r2, r3)) :
  Calls Tryz.prog 46 #[.string a0, .string a1] w fun e w' => e = .returned (.tuple #[.string r1, .string r2, .bool r3]) ∧ Drawn0 w w' := by
 have H : ((stringslite_Cut.f a0 a1).bind fun bt238 => (some (bt238.1, bt238.2.1, bt238.2.2))) = some (r1, r2, r3) := h
 clear h
 replace H := Option.bind_eq_some_iff.mp H
 obtain ⟨⟨t238, t239, t240⟩, A30, H⟩ := H
 replace H : (some (t238, t239, t240)) = some (r1, r2, r3) := H
 have A3 := Aside0.mk A30
 clear A30
 simp only [Option.some.injEq, Prod.mk.injEq] at H
 obtain ⟨rfl, rfl, rfl⟩ := H
 go_enter Tryz.func46, Tryz.ntmps46
 go_wp2_with (first | ((with_reducible refine gate_callee (f := 71) rfl ?_); refine goesL_ (some 9) rfl rfl Tryz.func71 k1_ rfl #[.string a0, .string a1] rfl g1_ ?_; (with_reducible refine (stringslite_Cut.calls a0 a1 t238 t239 t240 _ A3.out).mono ?_); rintro e w' ⟨rfl, ⟨nd, rfl⟩⟩; refine ⟨_, rfl, ?_⟩))
 go_ret3
 exact ⟨e1_, z2_⟩
end Go.Proofs.YtjnhdamilbcmpaaGreatDoor.PWrit

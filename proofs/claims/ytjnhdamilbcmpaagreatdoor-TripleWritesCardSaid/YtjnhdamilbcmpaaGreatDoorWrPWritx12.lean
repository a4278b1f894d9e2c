import Derived.Test.YtjnhdamilbcmpaaGreatDoorWrPWritx0
namespace Go.Proofs.YtjnhdamilbcmpaaGreatDoor.PWrit
open Go.RowKit Go.Proofs.YtjnhdamilbcmpaaGreatDoorW.PrintWords Go.Proofs.YtjnhdamilbcmpaaGreatDoorW.PrintLast Go.Proofs.YtjnhdamilbcmpaaGreatDoorW.PrintMore
attribute [local go_sem] max2_int min2_int max_two min_two max_three min_three max_four min_four
set_option linter.unusedVariables false
set_option linter.unusedSimpArgs false
def rhizomeref01_May.f (a0 : Int) : Option (Bool) := if a0 ≥ 0 then (if a0 ≤ 1114111 then (if a0 < 55296 then (some true) else (some (decide (a0 > 57343)))) else (some false)) else (some false)
set_option maxHeartbeats 8000000 in
set_option maxRecDepth 100000 in
theorem rhizomeref01_May.calls (a0 : Int) (r : Bool) (w : World) (h : rhizomeref01_May.f a0 = some r) :
  Calls Tryz.prog 81 #[.int .i64 a0] w fun e w' => e = .returned (.bool r) ∧ Drawn0 w w' := by
 have H : (if a0 ≥ 0 then (if a0 ≤ 1114111 then (if a0 < 55296 then (some true) else (some (decide (a0 > 57343)))) else (some false)) else (some false)) = some r := h
 clear h
 by_cases c2 : a0 ≥ 0
 ·rw [if_pos c2] at H
  have c2b0 : decide (0 ≤ a0) = true := decide_eq_true c2
  clear c2
  by_cases c3 : a0 ≤ 1114111
  ·rw [if_pos c3] at H
   have c3b0 : decide (a0 ≤ 1114111) = true := decide_eq_true c3
   clear c3
   by_cases c4 : a0 < 55296
   ·rw [if_pos c4] at H
    have c4b0 : decide (a0 < 55296) = true := decide_eq_true c4
    clear c4
    obtain rfl := Option.some.inj H
    go_enter Tryz.func81, Tryz.ntmps81
    go_wp2
    go_ret
    exact ⟨e1_, z2_⟩
   ·rw [if_neg c4] at H
    have c4b0 : decide (a0 < 55296) = false := decide_eq_false c4
    clear c4
    obtain rfl := Option.some.inj H
    go_enter Tryz.func81, Tryz.ntmps81
    go_wp2
    go_ret
    exact ⟨e1_, z2_⟩
  ·rw [if_neg c3] at H
   have c3b0 : decide (a0 ≤ 1114111) = false := decide_eq_false c3
   clear c3
   obtain rfl := Option.some.inj H
   go_enter Tryz.func81, Tryz.ntmps81
   go_wp2
   go_ret
   exact ⟨e1_, z2_⟩
 ·rw [if_neg c2] at H
  have c2b0 : decide (0 ≤ a0) = false := decide_eq_false c2
  clear c2
  obtain rfl := Option.some.inj H
  go_enter Tryz.func81, Tryz.ntmps81
  go_wp2
  go_ret
  exact ⟨e1_, z2_⟩
def rhizomeref01_Put.f (a0 : Int) : Option (List Int) := if a0 ≤ 127 then (some (([(a0) % 256] : List Int))) else (if a0 ≤ 2047 then (some (([(wrap64 (192 + (wrap64 (Int.tdiv a0 64)))) % 256, (wrap64 (128 + (Int.tmod a0 64))) % 256] : List Int))) else (if a0 ≤ 65535 then (some (([(wrap64 (224 + (wrap64 (Int.tdiv a0 4096)))) % 256, (wrap64 (128 + (Int.tmod (wrap64 (Int.tdiv a0 64)) 64))) % 256, (wrap64 (128 + (Int.tmod a0 64))) % 256] : List Int))) else (some (([(wrap64 (240 + (wrap64 (Int.tdiv a0 262144)))) % 256, (wrap64 (128 + (Int.tmod (wrap64 (Int.tdiv a0 4096)) 64))) % 256, (wrap64 (128 + (Int.tmod (wrap64 (Int.tdiv a0 64)) 64))) % 256, (wrap64 (128 + (Int.tmod a0 64))) % 256] : List Int)))))
set_option maxHeartbeats 8000000 in
set_option maxRecDepth 100000 in
theorem rhizomeref01_Put.calls (a0 : Int) (r : List Int) (w : World) (h : rhizomeref01_Put.f a0 = some r) :
  Calls Tryz.prog 82 #[.int .i64 a0] w fun e w' => ∃ v0_ : Value, e = .returned (v0_) ∧ Kd.R (Kd.int .u8) 5 w' w.heap.size (fun _ => True) v0_ r ∧ Below w.heap.size w w' := by
 have HB := Aside0.mk (Below.refl w.heap.size w)
 have H : (if a0 ≤ 127 then (some (([(a0) % 256] : List Int))) else (if a0 ≤ 2047 then (some (([(wrap64 (192 + (wrap64 (Int.tdiv a0 64)))) % 256, (wrap64 (128 + (Int.tmod a0 64))) % 256] : List Int))) else (if a0 ≤ 65535 then (some (([(wrap64 (224 + (wrap64 (Int.tdiv a0 4096)))) % 256, (wrap64 (128 + (Int.tmod (wrap64 (Int.tdiv a0 64)) 64))) % 256, (wrap64 (128 + (Int.tmod a0 64))) % 256] : List Int))) else (some (([(wrap64 (240 + (wrap64 (Int.tdiv a0 262144)))) % 256, (wrap64 (128 + (Int.tmod (wrap64 (Int.tdiv a0 4096)) 64))) % 256, (wrap64 (128 + (Int.tmod (wrap64 (Int.tdiv a0 64)) 64))) % 256, (wrap64 (128 + (Int.tmod a0 64))) % 256] : List Int)))))) = some r := h
 clear h
 by_cases c2 : a0 ≤ 127
 ·rw [if_pos c2] at H
  have c2b0 : decide (a0 ≤ 127) = true := decide_eq_true c2
  clear c2
  obtain ⟨y296, hy296⟩ : ∃ y_ : List Int, y_ = (([(a0) % 256] : List Int)) := ⟨_, rfl⟩
  replace H : (some y296) = some r := by first | (rw [hy296]; with_reducible exact H) | (have H2_ := (Option.bind_some _ _).symm.trans H; rw [hy296]; with_reducible exact H2_) | (have H2_ := (Option.bind_some _ _).symm.trans H; with_reducible exact H2_) | with_reducible exact H | (rw [hy296]; exact H) | exact H
  have Ny296 := Aside0.mk hy296
  clear hy296
  obtain rfl := Option.some.inj H
  go_enter Tryz.func82, Tryz.ntmps82
  go_wp2_with (first | ((with_reducible refine gate_dst (N := 7) rfl ?_); refine Kd.R_lit (Kd.int .u8) _ 5 ?hg (N := 7) ?hd (xs := ([(a0) % 256] : List Int)) (inner := [.int .u8 ((a0) % 256)]) (ok := fun _ => True) (okp := fun _ => True) ?hr ?hp (fun _ hk => hk) trivial (Below.refl _ _) (Nat.le_refl _) (by simp) ?_; (case hd => rfl); (case hg => rfl); (case hr => first | (go_simp; done) | (go_simp; rfl)); (case hp => exact (Reps.one (show Kd.M (Kd.int .u8) _ _ _ ((a0) % 256) [.int .u8 ((a0) % 256)] from rfl) (Reps.none _ _))); intro v297 w3 ho4 hb hg_ hnew_; clear hg_ hnew_; (first | rw [← Ny296.out] at ho4 | (simp only [Int.reduceToNat] at ho4; rw [← Ny296.out] at ho4)); have HO298 := Aside0.mk (Kd.R_lower ho4 (below_size b1_)); replace HB := Aside0.mk (below_step b1_ hb); clear hb ho4))
  go_ret
  exact ⟨_, e2_, by have G0 := HO298; exact z1_, b1_⟩
 ·rw [if_neg c2] at H
  have c2b0 : decide (a0 ≤ 127) = false := decide_eq_false c2
  clear c2
  by_cases c5 : a0 ≤ 2047
  ·rw [if_pos c5] at H
   have c5b0 : decide (a0 ≤ 2047) = true := decide_eq_true c5
   clear c5
   obtain ⟨y299, hy299⟩ : ∃ y_ : List Int, y_ = (([(wrap64 (192 + (wrap64 (Int.tdiv a0 64)))) % 256, (wrap64 (128 + (Int.tmod a0 64))) % 256] : List Int)) := ⟨_, rfl⟩
   replace H : (some y299) = some r := by first | (rw [hy299]; with_reducible exact H) | (have H2_ := (Option.bind_some _ _).symm.trans H; rw [hy299]; with_reducible exact H2_) | (have H2_ := (Option.bind_some _ _).symm.trans H; with_reducible exact H2_) | with_reducible exact H | (rw [hy299]; exact H) | exact H
   have Ny299 := Aside0.mk hy299
   clear hy299
   obtain rfl := Option.some.inj H
   go_enter Tryz.func82, Tryz.ntmps82
   go_wp2_with (first | ((with_reducible refine gate_dst (N := 18) rfl ?_); refine Kd.R_lit (Kd.int .u8) _ 5 ?hg (N := 18) ?hd (xs := ([(wrap64 (192 + (wrap64 (Int.tdiv a0 64)))) % 256, (wrap64 (128 + (Int.tmod a0 64))) % 256] : List Int)) (inner := [.int .u8 ((wrap64 (192 + (wrap64 (Int.tdiv a0 64)))) % 256), .int .u8 ((wrap64 (128 + (Int.tmod a0 64))) % 256)]) (ok := fun _ => True) (okp := fun _ => True) ?hr ?hp (fun _ hk => hk) trivial (Below.refl _ _) (Nat.le_refl _) (by simp) ?_; (case hd => rfl); (case hg => rfl); (case hr => first | (go_simp; done) | (go_simp; rfl)); (case hp => exact (Reps.one (show Kd.M (Kd.int .u8) _ _ _ ((wrap64 (192 + (wrap64 (Int.tdiv a0 64)))) % 256) [.int .u8 ((wrap64 (192 + (wrap64 (Int.tdiv a0 64)))) % 256)] from rfl) (Reps.one (show Kd.M (Kd.int .u8) _ _ _ ((wrap64 (128 + (Int.tmod a0 64))) % 256) [.int .u8 ((wrap64 (128 + (Int.tmod a0 64))) % 256)] from rfl) (Reps.none _ _)))); intro v300 w6 ho7 hb hg_ hnew_; clear hg_ hnew_; (first | rw [← Ny299.out] at ho7 | (simp only [Int.reduceToNat] at ho7; rw [← Ny299.out] at ho7)); have HO301 := Aside0.mk (Kd.R_lower ho7 (below_size b1_)); replace HB := Aside0.mk (below_step b1_ hb); clear hb ho7))
   go_ret
   exact ⟨_, e2_, by have G0 := HO301; exact z1_, b1_⟩
  ·rw [if_neg c5] at H
   have c5b0 : decide (a0 ≤ 2047) = false := decide_eq_false c5
   clear c5
   by_cases c8 : a0 ≤ 65535
   ·rw [if_pos c8] at H
    have c8b0 : decide (a0 ≤ 65535) = true := decide_eq_true c8
    clear c8
    obtain ⟨y302, hy302⟩ : ∃ y_ : List Int, y_ = (([(wrap64 (224 + (wrap64 (Int.tdiv a0 4096)))) % 256, (wrap64 (128 + (Int.tmod (wrap64 (Int.tdiv a0 64)) 64))) % 256, (wrap64 (128 + (Int.tmod a0 64))) % 256] : List Int)) := ⟨_, rfl⟩
    replace H : (some y302) = some r := by first | (rw [hy302]; with_reducible exact H) | (have H2_ := (Option.bind_some _ _).symm.trans H; rw [hy302]; with_reducible exact H2_) | (have H2_ := (Option.bind_some _ _).symm.trans H; with_reducible exact H2_) | with_reducible exact H | (rw [hy302]; exact H) | exact H
    have Ny302 := Aside0.mk hy302
    clear hy302
    obtain rfl := Option.some.inj H
    go_enter Tryz.func82, Tryz.ntmps82
    go_wp2_with (first | ((with_reducible refine gate_dst (N := 34) rfl ?_); refine Kd.R_lit (Kd.int .u8) _ 5 ?hg (N := 34) ?hd (xs := ([(wrap64 (224 + (wrap64 (Int.tdiv a0 4096)))) % 256, (wrap64 (128 + (Int.tmod (wrap64 (Int.tdiv a0 64)) 64))) % 256, (wrap64 (128 + (Int.tmod a0 64))) % 256] : List Int)) (inner := [.int .u8 ((wrap64 (224 + (wrap64 (Int.tdiv a0 4096)))) % 256), .int .u8 ((wrap64 (128 + (Int.tmod (wrap64 (Int.tdiv a0 64)) 64))) % 256), .int .u8 ((wrap64 (128 + (Int.tmod a0 64))) % 256)]) (ok := fun _ => True) (okp := fun _ => True) ?hr ?hp (fun _ hk => hk) trivial (Below.refl _ _) (Nat.le_refl _) (by simp) ?_; (case hd => rfl); (case hg => rfl); (case hr => first | (go_simp; done) | (go_simp; rfl)); (case hp => exact (Reps.one (show Kd.M (Kd.int .u8) _ _ _ ((wrap64 (224 + (wrap64 (Int.tdiv a0 4096)))) % 256) [.int .u8 ((wrap64 (224 + (wrap64 (Int.tdiv a0 4096)))) % 256)] from rfl) (Reps.one (show Kd.M (Kd.int .u8) _ _ _ ((wrap64 (128 + (Int.tmod (wrap64 (Int.tdiv a0 64)) 64))) % 256) [.int .u8 ((wrap64 (128 + (Int.tmod (wrap64 (Int.tdiv a0 64)) 64))) % 256)] from rfl) (Reps.one (show Kd.M (Kd.int .u8) _ _ _ ((wrap64 (128 + (Int.tmod a0 64))) % 256) [.int .u8 ((wrap64 (128 + (Int.tmod a0 64))) % 256)] from rfl) (Reps.none _ _))))); intro v303 w9 ho10 hb hg_ hnew_; clear hg_ hnew_; (first | rw [← Ny302.out] at ho10 | (simp only [Int.reduceToNat] at ho10; rw [← Ny302.out] at ho10)); have HO304 := Aside0.mk (Kd.R_lower ho10 (below_size b1_)); replace HB := Aside0.mk (below_step b1_ hb); clear hb ho10))
    go_ret
    exact ⟨_, e2_, by have G0 := HO304; exact z1_, b1_⟩
   ·rw [if_neg c8] at H
    have c8b0 : decide (a0 ≤ 65535) = false := decide_eq_false c8
    clear c8
    obtain ⟨y305, hy305⟩ : ∃ y_ : List Int, y_ = (([(wrap64 (240 + (wrap64 (Int.tdiv a0 262144)))) % 256, (wrap64 (128 + (Int.tmod (wrap64 (Int.tdiv a0 4096)) 64))) % 256, (wrap64 (128 + (Int.tmod (wrap64 (Int.tdiv a0 64)) 64))) % 256, (wrap64 (128 + (Int.tmod a0 64))) % 256] : List Int)) := ⟨_, rfl⟩
    replace H : (some y305) = some r := by first | (rw [hy305]; with_reducible exact H) | (have H2_ := (Option.bind_some _ _).symm.trans H; rw [hy305]; with_reducible exact H2_) | (have H2_ := (Option.bind_some _ _).symm.trans H; with_reducible exact H2_) | with_reducible exact H | (rw [hy305]; exact H) | exact H
    have Ny305 := Aside0.mk hy305
    clear hy305
    obtain rfl := Option.some.inj H
    go_enter Tryz.func82, Tryz.ntmps82
    go_wp2_with (first | ((with_reducible refine gate_dst (N := 53) rfl ?_); refine Kd.R_lit (Kd.int .u8) _ 5 ?hg (N := 53) ?hd (xs := ([(wrap64 (240 + (wrap64 (Int.tdiv a0 262144)))) % 256, (wrap64 (128 + (Int.tmod (wrap64 (Int.tdiv a0 4096)) 64))) % 256, (wrap64 (128 + (Int.tmod (wrap64 (Int.tdiv a0 64)) 64))) % 256, (wrap64 (128 + (Int.tmod a0 64))) % 256] : List Int)) (inner := [.int .u8 ((wrap64 (240 + (wrap64 (Int.tdiv a0 262144)))) % 256), .int .u8 ((wrap64 (128 + (Int.tmod (wrap64 (Int.tdiv a0 4096)) 64))) % 256), .int .u8 ((wrap64 (128 + (Int.tmod (wrap64 (Int.tdiv a0 64)) 64))) % 256), .int .u8 ((wrap64 (128 + (Int.tmod a0 64))) % 256)]) (ok := fun _ => True) (okp := fun _ => True) ?hr ?hp (fun _ hk => hk) trivial (Below.refl _ _) (Nat.le_refl _) (by simp) ?_; (case hd => rfl); (case hg => rfl); (case hr => first | (go_simp; done) | (go_simp; rfl)); (case hp => exact (Reps.one (show Kd.M (Kd.int .u8) _ _ _ ((wrap64 (240 + (wrap64 (Int.tdiv a0 262144)))) % 256) [.int .u8 ((wrap64 (240 + (wrap64 (Int.tdiv a0 262144)))) % 256)] from rfl) (Reps.one (show Kd.M (Kd.int .u8) _ _ _ ((wrap64 (128 + (Int.tmod (wrap64 (Int.tdiv a0 4096)) 64))) % 256) [.int .u8 ((wrap64 (128 + (Int.tmod (wrap64 (Int.tdiv a0 4096)) 64))) % 256)] from rfl) (Reps.one (show Kd.M (Kd.int .u8) _ _ _ ((wrap64 (128 + (Int.tmod (wrap64 (Int.tdiv a0 64)) 64))) % 256) [.int .u8 ((wrap64 (128 + (Int.tmod (wrap64 (Int.tdiv a0 64)) 64))) % 256)] from rfl) (Reps.one (show Kd.M (Kd.int .u8) _ _ _ ((wrap64 (128 + (Int.tmod a0 64))) % 256) [.int .u8 ((wrap64 (128 + (Int.tmod a0 64))) % 256)] from rfl) (Reps.none _ _)))))); intro v306 w11 ho12 hb hg_ hnew_; clear hg_ hnew_; (first | rw [← Ny305.out] at ho12 | (simp only [Int.reduceToNat] at ho12; rw [← Ny305.out] at ho12)); have HO307 := Aside0.mk (Kd.R_lower ho12 (below_size b1_)); replace HB := Aside0.mk (below_step b1_ hb); clear hb ho12))
    go_ret
    exact ⟨_, e2_, by have G0 := HO307; exact z1_, b1_⟩
mutual
def rhizomeref01_Get.l0 : Nat → ByteArray → Int → Option (Int × Int)
 | 0, _, _ => none
 | k + 1, x0, x4 => if x4 ≤ 4 then (rhizomeref01_Get.j1 k x0 x4 (decide (x4 ≤ (x0.size : Int)))) else (rhizomeref01_Get.j1 k x0 x4 false)
def rhizomeref01_Get.j1 : Nat → ByteArray → Int → Bool → Option (Int × Int)
 | 0, _, _, _ => none
 | k + 1, x0, x4, x15 => if x15 = true then (rhizomeref01_Get.l1 k x0 x4 0 0) else (some (0, 0))
def rhizomeref01_Get.l1 : Nat → ByteArray → Int → Int → Int → Option (Int × Int)
 | 0, _, _, _, _ => none
 | k + 1, x0, x4, x5, x6 => if x6 < x4 then (if 0 ≤ x6 then (if x6 < (x0.size : Int) then (if x6 = 0 then (rhizomeref01_Get.j3 k x0 x4 x5 x6 (wrap64 (bt x0 x6)) (decide (x4 > 1))) else (rhizomeref01_Get.j3 k x0 x4 x5 x6 (wrap64 (bt x0 x6)) false)) else (none)) else (none)) else ((rhizomeref01_May.f x5).bind fun t312 => (if t312 = true then ((rhizomeref01_Put.f x5).bind fun t313 => (if 0 ≤ x4 then (if x4 ≤ (x0.size : Int) then (if (strOfNums t313).toList = (x0.extract 0 (x4 : Int).toNat).toList then (some (x5, x4)) else (rhizomeref01_Get.l0 k x0 (wrap64 (x4 + 1)))) else (none)) else (none))) else (rhizomeref01_Get.l0 k x0 (wrap64 (x4 + 1)))))
def rhizomeref01_Get.j3 : Nat → ByteArray → Int → Int → Int → Int → Bool → Option (Int × Int)
 | 0, _, _, _, _, _, _ => none
 | k + 1, x0, x4, x5, x6, x7, x32 => if x32 = true then ((some (([1, 1, 32, 16, 8] : List Int) : List Int)).bind fun y308 => (if 0 ≤ x4 then (if x4 < (y308.length : Int) then (if (rd y308 x4) = 0 then (none) else (if x6 > 0 then (rhizomeref01_Get.l1 k x0 x4 (wrap64 ((wrap64 (64 * x5)) + (Int.tmod (Int.tmod x7 (rd y308 x4)) 64))) (wrap64 (x6 + 1))) else (rhizomeref01_Get.l1 k x0 x4 (wrap64 ((wrap64 (64 * x5)) + (Int.tmod x7 (rd y308 x4)))) (wrap64 (x6 + 1))))) else (none)) else (none))) else (if x6 > 0 then (rhizomeref01_Get.l1 k x0 x4 (wrap64 ((wrap64 (64 * x5)) + (Int.tmod x7 64))) (wrap64 (x6 + 1))) else (rhizomeref01_Get.l1 k x0 x4 (wrap64 ((wrap64 (64 * x5)) + x7)) (wrap64 (x6 + 1))))
end
def rhizomeref01_Get.f (k : Nat) (a0 : ByteArray) : Option (Int × Int) := rhizomeref01_Get.l0 k a0 1
def rhizomeref01_Get.T14 : Bool × List (List Nat × List Nat) := (true, [([], []), ([0], [0]), ([1, 1], [1]), ([2], [2]), ([3, 2, 2], [2, 3]), ([4, 2], [2, 4]), ([2], [2]), ([2], [2]), ([6, 7, 2], [2, 6, 7]), ([5, 8, 2], [2, 5, 8]), ([2, 9], [2, 9])])
def rhizomeref01_Get.B14 : List Nat := [0, 1, 3, 7, 15, 31, 7, 7, 199, 511, 1023]
theorem rhizomeref01_Get.tab14 : rtab .any (opsOf Tryz.f48 14) = rhizomeref01_Get.T14 := by kernel_rfl
theorem rhizomeref01_Get.bits14 : waitsOk rhizomeref01_Get.T14.2 rhizomeref01_Get.B14 = true := by kernel_rfl
set_option maxHeartbeats 8000000 in
set_option maxRecDepth 100000 in
theorem rhizomeref01_Get.calls (k : Nat) (a0 : ByteArray) (r1 : Int) (r2 : Int) (w : World) (h : rhizomeref01_Get.f k a0 = some (r1, r2)) :
  Calls Tryz.prog 48 #[.string a0] w fun e w' => e = .returned (.tuple #[.int .i64 r1, .int .i64 r2]) ∧ Below w.heap.size w w' := by
 have HB := Aside0.mk (Below.refl w.heap.size w)
 have H : (rhizomeref01_Get.l0 k a0 1) = some (r1, r2) := h
 clear h
 have H' := Aside0.mk H
 clear H
 go_enter Tryz.func48, Tryz.ntmps48
 go_wp2
 go_loopg [4] k (fun kq v4 w' => ∃ (x4_1 : Int), v4 = .int .i64 x4_1 ∧ Aside0 (rhizomeref01_Get.l0 kq a0 x4_1 = some (r1, r2)) ∧ Aside0 (kq ≤ k) ∧ Aside0 (Below w.heap.size w w'))
 case atStart => exact ⟨(1), e1_, H', ⟨Nat.le_refl _⟩, ⟨b1_⟩⟩
 case round =>
  clear H'
  obtain ⟨x4_1, rfl, HA, HK1, HB⟩ := hrel
  cases gk with
  | zero => exact absurd HA.out (by simp [rhizomeref01_Get.l0])
  | succ k1 =>
   have H := HA.out
   clear HA
   simp only [rhizomeref01_Get.l0] at H
   have HC2 := Aside0.mk H
   clear H
   go_upto_region 2 with (fail)
   go_cut [15] (fun v15 wc => ∃ (kq : Nat) (x15_1 : Bool), v15 = .bool x15_1 ∧ Aside0 (rhizomeref01_Get.j1 kq a0 x4_1 x15_1 = some (r1, r2)) ∧ Aside0 (kq ≤ k1) ∧ Aside0 (Below w.heap.size w wc))
   case first =>
    have H := HC2.out
    clear HC2
    by_cases c3 : x4_1 ≤ 4
    ·rw [if_pos c3] at H
     have c3b0 : decide (x4_1 ≤ 4) = true := decide_eq_true c3
     clear c3
     (first | rw [c3b0] | (simp only [i64_w, i32_w]; rw [c3b0]) | skip)
     have H' := Aside0.mk H
     clear H
     go_wp2
     go_meet
     case rel => exact ⟨_, (decide (x4_1 ≤ (a0.size : Int))), e1_, H', ⟨o1_⟩, ⟨b1_⟩⟩
    ·rw [if_neg c3] at H
     have c3b0 : decide (x4_1 ≤ 4) = false := decide_eq_false c3
     clear c3
     (first | rw [c3b0] | (simp only [i64_w, i32_w]; rw [c3b0]) | skip)
     have H' := Aside0.mk H
     clear H
     go_wp2
     go_meet
     case rel => exact ⟨_, (false), e1_, H', ⟨o1_⟩, ⟨b1_⟩⟩
   case rest =>
    clear HC2
    try clear p2
    try clear c3
    try clear c3b0
    obtain ⟨kq, x15_1, rfl, HA, HJ1, HB⟩ := hcut
    cases kq with
    | zero => exact absurd HA.out (by simp [rhizomeref01_Get.j1])
    | succ kj1 =>
     have H := HA.out
     clear HA
     simp only [rhizomeref01_Get.j1] at H
     by_cases c4 : x15_1 = true
     ·subst c4
      have H1 : (rhizomeref01_Get.l1 kj1 a0 x4_1 0 0) = some (r1, r2) := by rw [if_pos rfl] at H; exact H
      clear H
      have H := H1
      clear H1
      have H' := Aside0.mk H
      clear H
      go_wp2
      go_loopg [5, 6] kj1 (fun kq v5 v6 w' => ∃ (x5_3 : Int) (x6_3 : Int), v5 = .int .i64 x5_3 ∧ v6 = .int .i64 x6_3 ∧ Aside0 (rhizomeref01_Get.l1 kq a0 x4_1 x5_3 x6_3 = some (r1, r2)) ∧ Aside0 (kq ≤ kj1) ∧ Aside0 (Below w.heap.size w w'))
      case atStart => exact ⟨(0), (0), e1_, e1_, H', ⟨Nat.le_refl _⟩, ⟨b1_⟩⟩
      case round =>
       clear H'
       try clear p2
       try clear c3
       try clear c3b0
       try clear c4
       try clear p2
       obtain ⟨x5_3, x6_3, rfl, rfl, HA, HK3, HB⟩ := hrel
       cases gk with
       | zero => exact absurd HA.out (by simp [rhizomeref01_Get.l1])
       | succ k3 =>
        have H := HA.out
        clear HA
        simp only [rhizomeref01_Get.l1] at H
        by_cases c5 : x6_3 < x4_1
        ·rw [if_pos c5] at H
         have c5b0 : decide (x6_3 < x4_1) = true := decide_eq_true c5
         clear c5
         by_cases c6 : 0 ≤ x6_3
         ·rw [if_pos c6] at H
          have c6b0 : decide (0 ≤ x6_3) = true := decide_eq_true c6
          clear c6
          by_cases c7 : x6_3 < (a0.size : Int)
          ·rw [if_pos c7] at H
           have c7b0 : decide (x6_3 < (a0.size : Int)) = true := decide_eq_true c7
           clear c7
           have HC9 := Aside0.mk H
           clear H
           have p8 : 0 ≤ (x6_3 : Int) := of_decide_eq_true a1_
           have q8 : x6_3 < (a0.size : Int) := of_decide_eq_true a1_
           have hx8 := bt_at a0 x6_3
           replace p8 := eq_true p8
           replace q8 := eq_true q8
           go_upto_region 9 with (fail)
           go_cut [32] (fun v32 wc => ∃ (kq : Nat) (x32_8 : Bool), v32 = .bool x32_8 ∧ Aside0 (rhizomeref01_Get.j3 kq a0 x4_1 x5_3 x6_3 (wrap64 (bt a0 x6_3)) x32_8 = some (r1, r2)) ∧ Aside0 (kq ≤ k3) ∧ Aside0 (Below w.heap.size w wc))
           case first =>
            have H := HC9.out
            clear HC9
            by_cases c10 : x6_3 = 0
            ·rw [if_pos c10] at H
             have c10b0 : (x6_3 == 0) = true := beq_iff_eq.mpr c10
             have c10b1 : (x6_3 != 0) = false := bne_eq_false_iff_eq.mpr c10
             clear c10
             (first | rw [c10b0] | (simp only [i64_w, i32_w]; rw [c10b0]) | skip)
             have H' := Aside0.mk H
             clear H
             go_wp2
             go_meet
             case rel => exact ⟨_, (decide (x4_1 > 1)), e1_, H', ⟨z37_⟩, ⟨b1_⟩⟩
            ·rw [if_neg c10] at H
             have c10b0 : (x6_3 == 0) = false := beq_eq_false_iff_ne.mpr c10
             have c10b1 : (x6_3 != 0) = true := bne_iff_ne.mpr c10
             (first | rw [c10b0] | (simp only [i64_w, i32_w]; rw [c10b0]) | skip)
             have H' := Aside0.mk H
             clear H
             go_wp2
             go_meet
             case rel => exact ⟨_, (false), e1_, H', ⟨z37_⟩, ⟨b1_⟩⟩
           case rest =>
            clear HC9
            try clear c1
            try clear p2
            try clear c3
            try clear c3b0
            try clear c4
            try clear c5
            try clear c5b0
            try clear c6
            try clear c6b0
            try clear p6
            try clear c7
            try clear c7b0
            try clear p8
            try clear q8
            try clear hx8
            try clear c10
            try clear c10b0
            try clear c10b1
            try clear p2
            try clear p8
            try clear q8
            obtain ⟨kq, x32_8, rfl, HA, HJ8, HB⟩ := hcut
            cases kq with
            | zero => exact absurd HA.out (by simp [rhizomeref01_Get.j3])
            | succ kj8 =>
             have H := HA.out
             clear HA
             simp only [rhizomeref01_Get.j3] at H
             by_cases c11 : x32_8 = true
             ·subst c11
              have H1 : ((some (([1, 1, 32, 16, 8] : List Int) : List Int)).bind fun y308 => (if 0 ≤ x4_1 then (if x4_1 < (y308.length : Int) then (if (rd y308 x4_1) = 0 then (none) else (if x6_3 > 0 then (rhizomeref01_Get.l1 kj8 a0 x4_1 (wrap64 ((wrap64 (64 * x5_3)) + (Int.tmod (Int.tmod (wrap64 (bt a0 x6_3)) (rd y308 x4_1)) 64))) (wrap64 (x6_3 + 1))) else (rhizomeref01_Get.l1 kj8 a0 x4_1 (wrap64 ((wrap64 (64 * x5_3)) + (Int.tmod (wrap64 (bt a0 x6_3)) (rd y308 x4_1)))) (wrap64 (x6_3 + 1))))) else (none)) else (none))) = some (r1, r2) := by rw [if_pos rfl] at H; exact H
              clear H
              have H := H1
              clear H1
              obtain ⟨y308, hy308⟩ : ∃ y_ : List Int, y_ = (([1, 1, 32, 16, 8] : List Int)) := ⟨_, rfl⟩
              replace H : (if 0 ≤ x4_1 then (if x4_1 < (y308.length : Int) then (if (rd y308 x4_1) = 0 then (none) else (if x6_3 > 0 then (rhizomeref01_Get.l1 kj8 a0 x4_1 (wrap64 ((wrap64 (64 * x5_3)) + (Int.tmod (Int.tmod (wrap64 (bt a0 x6_3)) (rd y308 x4_1)) 64))) (wrap64 (x6_3 + 1))) else (rhizomeref01_Get.l1 kj8 a0 x4_1 (wrap64 ((wrap64 (64 * x5_3)) + (Int.tmod (wrap64 (bt a0 x6_3)) (rd y308 x4_1)))) (wrap64 (x6_3 + 1))))) else (none)) else (none)) = some (r1, r2) := by first | (rw [hy308]; with_reducible exact H) | (have H2_ := (Option.bind_some _ _).symm.trans H; rw [hy308]; with_reducible exact H2_) | (have H2_ := (Option.bind_some _ _).symm.trans H; with_reducible exact H2_) | with_reducible exact H | (rw [hy308]; exact H) | exact H
              have Ny308 := Aside0.mk hy308
              clear hy308
              by_cases c12 : 0 ≤ x4_1
              ·rw [if_pos c12] at H
               have c12b0 : decide (0 ≤ x4_1) = true := decide_eq_true c12
               clear c12
               by_cases c13 : x4_1 < (y308.length : Int)
               ·rw [if_pos c13] at H
                have c13b0 : decide (x4_1 < (y308.length : Int)) = true := decide_eq_true c13
                clear c13
                by_cases c14 : (rd y308 x4_1) = 0
                ·rw [if_pos c14] at H
                 exact absurd H (by simp)
                ·rw [if_neg c14] at H
                 have c14b0 : ((rd y308 x4_1) == 0) = false := beq_eq_false_iff_ne.mpr c14
                 have c14b1 : ((rd y308 x4_1) != 0) = true := bne_iff_ne.mpr c14
                 by_cases c15 : x6_3 > 0
                 ·rw [if_pos c15] at H
                  have c15b0 : decide (0 < x6_3) = true := decide_eq_true c15
                  clear c15
                  have H' := Aside0.mk H
                  clear H
                  go_wp2_with (first | ((with_reducible refine gate_dst (N := 34) rfl ?_); (try (refine gate_guard (by rfl) ?_; dsimp only)); refine Kd.R_lit (Kd.int .i64) _ 3 ?hg (N := 34) ?hd (xs := ([1, 1, 32, 16, 8] : List Int)) (inner := [.int .i64 1, .int .i64 1, .int .i64 32, .int .i64 16, .int .i64 8]) (ok := fun _ => True) (okp := fun _ => True) ?hr ?hp (fun _ hk => hk) trivial (Below.refl _ _) (Nat.le_refl _) (by simp) ?_; (case hd => rfl); (case hg => rfl); (case hr => first | (go_simp; done) | (go_simp; rfl)); (case hp => exact (Reps.one (show Kd.M (Kd.int .i64) _ _ _ 1 [.int .i64 1] from rfl) (Reps.one (show Kd.M (Kd.int .i64) _ _ _ 1 [.int .i64 1] from rfl) (Reps.one (show Kd.M (Kd.int .i64) _ _ _ 32 [.int .i64 32] from rfl) (Reps.one (show Kd.M (Kd.int .i64) _ _ _ 16 [.int .i64 16] from rfl) (Reps.one (show Kd.M (Kd.int .i64) _ _ _ 8 [.int .i64 8] from rfl) (Reps.none _ _))))))); intro v309 w16 ho17 hb hg_ hnew_; clear hg_ hnew_; (first | rw [← Ny308.out] at ho17 | (simp only [Int.reduceToNat] at ho17; rw [← Ny308.out] at ho17)); have HO310 := Aside0.mk (Kd.R_lower ho17 (below_size b1_)); replace HB := Aside0.mk (below_step b1_ hb); clear hb ho17; obtain ⟨Ao18, co18, eo18⟩ := Kd.R_slice HO310.out; subst eo18; have p311 : 0 ≤ (x4_1 : Int) := of_decide_eq_true a1_; have q311 : x4_1 < (y308.length : Int) := of_decide_eq_true a1_; obtain ⟨ad311, e311, hx311_0⟩ := Kd.at_int (Kd.R_reads' HO310.out).2.2 x4_1 p311 q311; cases e311; replace p311 := eq_true p311; replace q311 := eq_true q311))
                  go_roundg kj8
                  case measure => have := HK1.out; have := HJ1.out; have := HK3.out; have := HJ8.out; omega
                  case rel => exact ⟨(wrap64 ((wrap64 (64 * x5_3)) + (Int.tmod (Int.tmod (wrap64 (bt a0 x6_3)) (rd y308 x4_1)) 64))), (wrap64 (x6_3 + 1)), e1_, e1_, H', ⟨z30_⟩, ⟨b1_⟩⟩
                 ·rw [if_neg c15] at H
                  have c15b0 : decide (0 < x6_3) = false := decide_eq_false c15
                  clear c15
                  have H' := Aside0.mk H
                  clear H
                  go_wp2_with (first | ((with_reducible refine gate_dst (N := 34) rfl ?_); (try (refine gate_guard (by rfl) ?_; dsimp only)); refine Kd.R_lit (Kd.int .i64) _ 3 ?hg (N := 34) ?hd (xs := ([1, 1, 32, 16, 8] : List Int)) (inner := [.int .i64 1, .int .i64 1, .int .i64 32, .int .i64 16, .int .i64 8]) (ok := fun _ => True) (okp := fun _ => True) ?hr ?hp (fun _ hk => hk) trivial (Below.refl _ _) (Nat.le_refl _) (by simp) ?_; (case hd => rfl); (case hg => rfl); (case hr => first | (go_simp; done) | (go_simp; rfl)); (case hp => exact (Reps.one (show Kd.M (Kd.int .i64) _ _ _ 1 [.int .i64 1] from rfl) (Reps.one (show Kd.M (Kd.int .i64) _ _ _ 1 [.int .i64 1] from rfl) (Reps.one (show Kd.M (Kd.int .i64) _ _ _ 32 [.int .i64 32] from rfl) (Reps.one (show Kd.M (Kd.int .i64) _ _ _ 16 [.int .i64 16] from rfl) (Reps.one (show Kd.M (Kd.int .i64) _ _ _ 8 [.int .i64 8] from rfl) (Reps.none _ _))))))); intro v309 w19 ho20 hb hg_ hnew_; clear hg_ hnew_; (first | rw [← Ny308.out] at ho20 | (simp only [Int.reduceToNat] at ho20; rw [← Ny308.out] at ho20)); have HO310 := Aside0.mk (Kd.R_lower ho20 (below_size b1_)); replace HB := Aside0.mk (below_step b1_ hb); clear hb ho20; obtain ⟨Ao21, co21, eo21⟩ := Kd.R_slice HO310.out; subst eo21; have p311 : 0 ≤ (x4_1 : Int) := of_decide_eq_true a1_; have q311 : x4_1 < (y308.length : Int) := of_decide_eq_true a1_; obtain ⟨ad311, e311, hx311_0⟩ := Kd.at_int (Kd.R_reads' HO310.out).2.2 x4_1 p311 q311; cases e311; replace p311 := eq_true p311; replace q311 := eq_true q311))
                  go_roundg kj8
                  case measure => have := HK1.out; have := HJ1.out; have := HK3.out; have := HJ8.out; omega
                  case rel => exact ⟨(wrap64 ((wrap64 (64 * x5_3)) + (Int.tmod (wrap64 (bt a0 x6_3)) (rd y308 x4_1)))), (wrap64 (x6_3 + 1)), e1_, e1_, H', ⟨z30_⟩, ⟨b1_⟩⟩
               ·rw [if_neg c13] at H
                exact absurd H (by simp)
              ·rw [if_neg c12] at H
               exact absurd H (by simp)
             ·replace c11 := Bool.eq_false_iff.mpr c11
              subst c11
              have H1 : (if x6_3 > 0 then (rhizomeref01_Get.l1 kj8 a0 x4_1 (wrap64 ((wrap64 (64 * x5_3)) + (Int.tmod (wrap64 (bt a0 x6_3)) 64))) (wrap64 (x6_3 + 1))) else (rhizomeref01_Get.l1 kj8 a0 x4_1 (wrap64 ((wrap64 (64 * x5_3)) + (wrap64 (bt a0 x6_3)))) (wrap64 (x6_3 + 1)))) = some (r1, r2) := by rw [if_neg (show ¬ (false = true) by decide)] at H; exact H
              clear H
              have H := H1
              clear H1
              by_cases c22 : x6_3 > 0
              ·rw [if_pos c22] at H
               have c22b0 : decide (0 < x6_3) = true := decide_eq_true c22
               clear c22
               have H' := Aside0.mk H
               clear H
               go_wp2
               go_roundg kj8
               case measure => have := HK1.out; have := HJ1.out; have := HK3.out; have := HJ8.out; omega
               case rel => exact ⟨(wrap64 ((wrap64 (64 * x5_3)) + (Int.tmod (wrap64 (bt a0 x6_3)) 64))), (wrap64 (x6_3 + 1)), e1_, e1_, H', ⟨z30_⟩, ⟨b1_⟩⟩
              ·rw [if_neg c22] at H
               have c22b0 : decide (0 < x6_3) = false := decide_eq_false c22
               clear c22
               have H' := Aside0.mk H
               clear H
               go_wp2
               go_roundg kj8
               case measure => have := HK1.out; have := HJ1.out; have := HK3.out; have := HJ8.out; omega
               case rel => exact ⟨(wrap64 ((wrap64 (64 * x5_3)) + (wrap64 (bt a0 x6_3)))), (wrap64 (x6_3 + 1)), e1_, e1_, H', ⟨z30_⟩, ⟨b1_⟩⟩
          ·rw [if_neg c7] at H
           exact absurd H (by simp)
         ·rw [if_neg c6] at H
          exact absurd H (by simp)
        ·rw [if_neg c5] at H
         have c5b0 : decide (x6_3 < x4_1) = false := decide_eq_false c5
         clear c5
         replace H := Option.bind_eq_some_iff.mp H
         obtain ⟨t312, A230, H⟩ := H
         replace H : (if t312 = true then ((rhizomeref01_Put.f x5_3).bind fun t313 => (if 0 ≤ x4_1 then (if x4_1 ≤ (a0.size : Int) then (if (strOfNums t313).toList = (a0.extract 0 (x4_1 : Int).toNat).toList then (some (x5_3, x4_1)) else (rhizomeref01_Get.l0 k3 a0 (wrap64 (x4_1 + 1)))) else (none)) else (none))) else (rhizomeref01_Get.l0 k3 a0 (wrap64 (x4_1 + 1)))) = some (r1, r2) := H
         have A23 := Aside0.mk A230
         clear A230
         by_cases c24 : t312 = true
         ·subst c24
          have H1 : ((rhizomeref01_Put.f x5_3).bind fun t313 => (if 0 ≤ x4_1 then (if x4_1 ≤ (a0.size : Int) then (if (strOfNums t313).toList = (a0.extract 0 (x4_1 : Int).toNat).toList then (some (x5_3, x4_1)) else (rhizomeref01_Get.l0 k3 a0 (wrap64 (x4_1 + 1)))) else (none)) else (none))) = some (r1, r2) := by rw [if_pos rfl] at H; exact H
          clear H
          have H := H1
          clear H1
          replace H := Option.bind_eq_some_iff.mp H
          obtain ⟨t313, A250, H⟩ := H
          replace H : (if 0 ≤ x4_1 then (if x4_1 ≤ (a0.size : Int) then (if (strOfNums t313).toList = (a0.extract 0 (x4_1 : Int).toNat).toList then (some (x5_3, x4_1)) else (rhizomeref01_Get.l0 k3 a0 (wrap64 (x4_1 + 1)))) else (none)) else (none)) = some (r1, r2) := H
          have A25 := Aside0.mk A250
          clear A250
          by_cases c26 : 0 ≤ x4_1
          ·rw [if_pos c26] at H
           have c26b0 := eq_true c26
           have c26b1 : decide (0 ≤ x4_1) = true := decide_eq_true c26
           clear c26
           by_cases c27 : x4_1 ≤ (a0.size : Int)
           ·rw [if_pos c27] at H
            have c27b0 := eq_true c27
            have c27b1 : decide (x4_1 ≤ (a0.size : Int)) = true := decide_eq_true c27
            clear c27
            by_cases c28 : (strOfNums t313).toList = (a0.extract 0 (x4_1 : Int).toNat).toList
            ·rw [if_pos c28] at H
             have c28b0 : ((strOfNums t313).toList == (a0.extract 0 (x4_1 : Int).toNat).toList) = true := beq_iff_eq.mpr c28
             have c28b1 : ((strOfNums t313).toList != (a0.extract 0 (x4_1 : Int).toNat).toList) = false := bne_eq_false_iff_eq.mpr c28
             clear c28
             simp only [Option.some.injEq, Prod.mk.injEq] at H
             obtain ⟨rfl, rfl⟩ := H
             try go_wp2
             have n0_ := Aside0.mk (below_drew1 HB.out)
             clear HB
             have HB := n0_
             clear n0_
             refine start_ (n := 11) (S := fun w' => True) (ds := []) #[false, false, false, false, false, false, false, false, false, false, false] k1_ rfl rfl trivial (fun hHeld => ?_); refine with_tabW rhizomeref01_Get.tab14 rhizomeref01_Get.bits14 (fun HT_ HW_ => ?_)
             generalize wr.drew = w29 at HB hHeld ⊢
             refine pure_ (i := 0) (N := some 47) (v := ?_) (a' := ?_) #[true, false, false, false, false, false, false, false, false, false, false] rfl rfl (any_of HT_.out k1_) (fun _ _ _ h => h) (Or.inl ⟨by rfl, ?_⟩) ?_ ?_
             rotate_left
             ·intro w'
              go_simp
              with_reducible rfl
             rotate_left
             ·simp only [Act.put, List.setIfInBounds_toArray, List.set_cons_zero, List.set_cons_succ, i64_w, i32_w]
              rfl
             refine one_ (i := 1) (N := some 48) #[true, true, false, false, false, false, false, false, false, false, false] rfl rfl (one_of HT_.out k1_) (by decide) (fun K hK => ?_)
             refine goes_ Tryz.func81 k1_ rfl #[.int .i64 x5_3] (by rfl) rfl rfl g1_ ?_
             with_reducible refine (rhizomeref01_May.calls x5_3 true _ A23.out).mono ?_
             rintro e w' ⟨rfl, ⟨nd, rfl⟩⟩
             refine ⟨_, rfl, ?_⟩
             refine hK.out _ _ trivial (fun hHeld => ?_)
             clear hK K
             refine norm_ (a' := ?_) ?_ ?_
             rotate_left
             ·show Act.put _ (some 48) _ = _
              simp only [Act.put, List.setIfInBounds_toArray, List.set_cons_zero, List.set_cons_succ, i64_w, i32_w]
              rfl
             refine pure_ (i := 2) (N := some 49) (v := ?_) (a' := ?_) #[true, true, true, false, false, false, false, false, false, false, false] rfl rfl (any_of HT_.out k1_) (fun _ _ _ h => h) (Or.inl ⟨by rfl, ?_⟩) ?_ ?_
             rotate_left
             ·intro w'
              go_simp
              with_reducible rfl
             rotate_left
             ·simp only [Act.put, List.setIfInBounds_toArray, List.set_cons_zero, List.set_cons_succ, i64_w, i32_w]
              rfl
             refine pure_ (i := 3) (N := some 50) (v := ?_) (a' := ?_) #[true, true, true, true, false, false, false, false, false, false, false] rfl rfl (any_of HT_.out k1_) (fun _ _ _ h => h) (Or.inl ⟨by rfl, ?_⟩) ?_ ?_
             rotate_left
             ·intro w'
              go_simp
              with_reducible rfl
             rotate_left
             ·simp only [Act.put, List.setIfInBounds_toArray, List.set_cons_zero, List.set_cons_succ, i64_w, i32_w]
              rfl
             refine pure_ (i := 6) (N := some 53) (v := ?_) (a' := ?_) #[true, true, true, true, false, false, true, false, false, false, false] rfl rfl (any_of HT_.out k1_) (fun _ _ _ h => h) (Or.inl ⟨by rfl, ?_⟩) ?_ ?_
             rotate_left
             ·intro w'
              go_simp
              with_reducible rfl
             rotate_left
             ·simp only [Act.put, List.setIfInBounds_toArray, List.set_cons_zero, List.set_cons_succ, i64_w, i32_w]
              rfl
             refine pure_ (i := 7) (N := some 54) (v := ?_) (a' := ?_) #[true, true, true, true, false, false, true, true, false, false, false] rfl rfl (any_of HT_.out k1_) (fun _ _ _ h => h) (Or.inl ⟨by rfl, ?_⟩) ?_ ?_
             rotate_left
             ·intro w'
              go_simp
              with_reducible rfl
             rotate_left
             ·simp only [Act.put, List.setIfInBounds_toArray, List.set_cons_zero, List.set_cons_succ, i64_w, i32_w]
              rfl
             refine pure_ (i := 8) (N := some 55) (v := ?_) (a' := ?_) #[true, true, true, true, false, false, true, true, true, false, false] rfl rfl (any_of HT_.out k1_) (fun _ _ _ h => h) (Or.inl ⟨by rfl, ?_⟩) ?_ ?_
             rotate_left
             ·intro w'
              go_simp
              with_reducible rfl
             rotate_left
             ·simp only [Act.put, List.setIfInBounds_toArray, List.set_cons_zero, List.set_cons_succ, i64_w, i32_w]
              rfl
             refine one_ (i := 4) (N := some 51) #[true, true, true, true, true, false, true, true, true, false, false] rfl rfl (one_of HT_.out k1_) (by decide) (fun K hK => ?_)
             refine goes_ Tryz.func82 k1_ rfl #[.int .i64 x5_3] (by rfl) rfl rfl g1_ ?_
             with_reducible refine (rhizomeref01_Put.calls x5_3 t313 _ A25.out).mono ?_
             rintro e w30 ⟨v314, rfl, ho0, hb⟩
             refine ⟨_, rfl, ?_⟩
             have n0_ := Aside0.mk (Kd.R_lower ho0 (below_size b1_))
             have n1_ := Aside0.mk (below_step b1_ hb)
             clear HB
             have HO315 := n0_
             have HB := n1_
             clear n0_ n1_
             (try clear hb)
             (try clear hb2)
             (try clear hk)
             (try clear hi)
             (try clear ho0)
             refine hK.out _ _ trivial (fun hHeld => ?_)
             clear hK K
             refine norm_ (a' := ?_) ?_ ?_
             rotate_left
             ·show Act.put _ (some 51) _ = _
              simp only [Act.put, List.setIfInBounds_toArray, List.set_cons_zero, List.set_cons_succ, i64_w, i32_w]
              rfl
             refine one_ (i := 5) (N := some 52) #[true, true, true, true, true, true, true, true, true, false, false] rfl rfl (one_of HT_.out k1_) (by decide) (fun K hK => ?_)
             have hcv31 := own_string (P := Tryz.prog) Tryz.underlying62 Tryz.underlying5 Tryz.underlying9 (Kd.own_of_R HO315.out)
             refine value_ (w1 := ?_) (v := ?_) (by rfl) rfl ?_ ?_
             rotate_left 2
             ·go_simp
              constructor
              ·rfl
              ·rfl
             clear hcv31
             refine hK.out _ _ trivial (fun hHeld => ?_)
             clear hK K
             refine norm_ (a' := ?_) ?_ ?_
             rotate_left
             ·show Act.put _ (some 52) _ = _
              simp only [Act.put, List.setIfInBounds_toArray, List.set_cons_zero, List.set_cons_succ, i64_w, i32_w]
              rfl
             refine pure_ (i := 9) (N := some 56) (v := ?_) (a' := ?_) #[true, true, true, true, true, true, true, true, true, true, false] rfl rfl (any_of HT_.out k1_) (fun _ _ _ h => h) (Or.inl ⟨by rfl, ?_⟩) ?_ ?_
             rotate_left
             ·intro w'
              go_simp
              with_reducible rfl
             rotate_left
             ·simp only [Act.put, List.setIfInBounds_toArray, List.set_cons_zero, List.set_cons_succ, i64_w, i32_w]
              rfl
             refine pure_ (i := 10) (N := some 57) (v := ?_) (a' := ?_) #[true, true, true, true, true, true, true, true, true, true, true] rfl rfl (any_of HT_.out k1_) (fun _ _ _ h => h) (Or.inl ⟨by rfl, ?_⟩) ?_ ?_
             rotate_left
             ·intro w'
              go_simp
              with_reducible rfl
             rotate_left
             ·simp only [Act.put, List.setIfInBounds_toArray, List.set_cons_zero, List.set_cons_succ, i64_w, i32_w]
              rfl
             refine done_ (done_of HT_.out k1_) ?_
             try go_wp2
             go_ret2
             exact ⟨e2_, b1_⟩
            ·rw [if_neg c28] at H
             have c28b0 : ((strOfNums t313).toList == (a0.extract 0 (x4_1 : Int).toNat).toList) = false := beq_eq_false_iff_ne.mpr c28
             have c28b1 : ((strOfNums t313).toList != (a0.extract 0 (x4_1 : Int).toNat).toList) = true := bne_iff_ne.mpr c28
             have H' := Aside0.mk H
             clear H
             try go_wp2
             have n0_ := Aside0.mk (below_drew1 HB.out)
             clear HB
             have HB := n0_
             clear n0_
             refine start_ (n := 11) (S := fun w' => True) (ds := []) #[false, false, false, false, false, false, false, false, false, false, false] k1_ rfl rfl trivial (fun hHeld => ?_); refine with_tabW rhizomeref01_Get.tab14 rhizomeref01_Get.bits14 (fun HT_ HW_ => ?_)
             generalize wr.drew = w32 at HB hHeld ⊢
             refine pure_ (i := 0) (N := some 47) (v := ?_) (a' := ?_) #[true, false, false, false, false, false, false, false, false, false, false] rfl rfl (any_of HT_.out k1_) (fun _ _ _ h => h) (Or.inl ⟨by rfl, ?_⟩) ?_ ?_
             rotate_left
             ·intro w'
              go_simp
              with_reducible rfl
             rotate_left
             ·simp only [Act.put, List.setIfInBounds_toArray, List.set_cons_zero, List.set_cons_succ, i64_w, i32_w]
              rfl
             refine one_ (i := 1) (N := some 48) #[true, true, false, false, false, false, false, false, false, false, false] rfl rfl (one_of HT_.out k1_) (by decide) (fun K hK => ?_)
             refine goes_ Tryz.func81 k1_ rfl #[.int .i64 x5_3] (by rfl) rfl rfl g1_ ?_
             with_reducible refine (rhizomeref01_May.calls x5_3 true _ A23.out).mono ?_
             rintro e w' ⟨rfl, ⟨nd, rfl⟩⟩
             refine ⟨_, rfl, ?_⟩
             refine hK.out _ _ trivial (fun hHeld => ?_)
             clear hK K
             refine norm_ (a' := ?_) ?_ ?_
             rotate_left
             ·show Act.put _ (some 48) _ = _
              simp only [Act.put, List.setIfInBounds_toArray, List.set_cons_zero, List.set_cons_succ, i64_w, i32_w]
              rfl
             refine pure_ (i := 2) (N := some 49) (v := ?_) (a' := ?_) #[true, true, true, false, false, false, false, false, false, false, false] rfl rfl (any_of HT_.out k1_) (fun _ _ _ h => h) (Or.inl ⟨by rfl, ?_⟩) ?_ ?_
             rotate_left
             ·intro w'
              go_simp
              with_reducible rfl
             rotate_left
             ·simp only [Act.put, List.setIfInBounds_toArray, List.set_cons_zero, List.set_cons_succ, i64_w, i32_w]
              rfl
             refine pure_ (i := 3) (N := some 50) (v := ?_) (a' := ?_) #[true, true, true, true, false, false, false, false, false, false, false] rfl rfl (any_of HT_.out k1_) (fun _ _ _ h => h) (Or.inl ⟨by rfl, ?_⟩) ?_ ?_
             rotate_left
             ·intro w'
              go_simp
              with_reducible rfl
             rotate_left
             ·simp only [Act.put, List.setIfInBounds_toArray, List.set_cons_zero, List.set_cons_succ, i64_w, i32_w]
              rfl
             refine pure_ (i := 6) (N := some 53) (v := ?_) (a' := ?_) #[true, true, true, true, false, false, true, false, false, false, false] rfl rfl (any_of HT_.out k1_) (fun _ _ _ h => h) (Or.inl ⟨by rfl, ?_⟩) ?_ ?_
             rotate_left
             ·intro w'
              go_simp
              with_reducible rfl
             rotate_left
             ·simp only [Act.put, List.setIfInBounds_toArray, List.set_cons_zero, List.set_cons_succ, i64_w, i32_w]
              rfl
             refine pure_ (i := 7) (N := some 54) (v := ?_) (a' := ?_) #[true, true, true, true, false, false, true, true, false, false, false] rfl rfl (any_of HT_.out k1_) (fun _ _ _ h => h) (Or.inl ⟨by rfl, ?_⟩) ?_ ?_
             rotate_left
             ·intro w'
              go_simp
              with_reducible rfl
             rotate_left
             ·simp only [Act.put, List.setIfInBounds_toArray, List.set_cons_zero, List.set_cons_succ, i64_w, i32_w]
              rfl
             refine pure_ (i := 8) (N := some 55) (v := ?_) (a' := ?_) #[true, true, true, true, false, false, true, true, true, false, false] rfl rfl (any_of HT_.out k1_) (fun _ _ _ h => h) (Or.inl ⟨by rfl, ?_⟩) ?_ ?_
             rotate_left
             ·intro w'
              go_simp
              with_reducible rfl
             rotate_left
             ·simp only [Act.put, List.setIfInBounds_toArray, List.set_cons_zero, List.set_cons_succ, i64_w, i32_w]
              rfl
             refine one_ (i := 4) (N := some 51) #[true, true, true, true, true, false, true, true, true, false, false] rfl rfl (one_of HT_.out k1_) (by decide) (fun K hK => ?_)
             refine goes_ Tryz.func82 k1_ rfl #[.int .i64 x5_3] (by rfl) rfl rfl g1_ ?_
             with_reducible refine (rhizomeref01_Put.calls x5_3 t313 _ A25.out).mono ?_
             rintro e w33 ⟨v314, rfl, ho0, hb⟩
             refine ⟨_, rfl, ?_⟩
             have n0_ := Aside0.mk (Kd.R_lower ho0 (below_size b1_))
             have n1_ := Aside0.mk (below_step b1_ hb)
             clear HB
             have HO315 := n0_
             have HB := n1_
             clear n0_ n1_
             (try clear hb)
             (try clear hb2)
             (try clear hk)
             (try clear hi)
             (try clear ho0)
             refine hK.out _ _ trivial (fun hHeld => ?_)
             clear hK K
             refine norm_ (a' := ?_) ?_ ?_
             rotate_left
             ·show Act.put _ (some 51) _ = _
              simp only [Act.put, List.setIfInBounds_toArray, List.set_cons_zero, List.set_cons_succ, i64_w, i32_w]
              rfl
             refine one_ (i := 5) (N := some 52) #[true, true, true, true, true, true, true, true, true, false, false] rfl rfl (one_of HT_.out k1_) (by decide) (fun K hK => ?_)
             have hcv34 := own_string (P := Tryz.prog) Tryz.underlying62 Tryz.underlying5 Tryz.underlying9 (Kd.own_of_R HO315.out)
             refine value_ (w1 := ?_) (v := ?_) (by rfl) rfl ?_ ?_
             rotate_left 2
             ·go_simp
              constructor
              ·rfl
              ·rfl
             clear hcv34
             refine hK.out _ _ trivial (fun hHeld => ?_)
             clear hK K
             refine norm_ (a' := ?_) ?_ ?_
             rotate_left
             ·show Act.put _ (some 52) _ = _
              simp only [Act.put, List.setIfInBounds_toArray, List.set_cons_zero, List.set_cons_succ, i64_w, i32_w]
              rfl
             refine pure_ (i := 9) (N := some 56) (v := ?_) (a' := ?_) #[true, true, true, true, true, true, true, true, true, true, false] rfl rfl (any_of HT_.out k1_) (fun _ _ _ h => h) (Or.inl ⟨by rfl, ?_⟩) ?_ ?_
             rotate_left
             ·intro w'
              go_simp
              with_reducible rfl
             rotate_left
             ·simp only [Act.put, List.setIfInBounds_toArray, List.set_cons_zero, List.set_cons_succ, i64_w, i32_w]
              rfl
             refine pure_ (i := 10) (N := some 57) (v := ?_) (a' := ?_) #[true, true, true, true, true, true, true, true, true, true, true] rfl rfl (any_of HT_.out k1_) (fun _ _ _ h => h) (Or.inl ⟨by rfl, ?_⟩) ?_ ?_
             rotate_left
             ·intro w'
              go_simp
              with_reducible rfl
             rotate_left
             ·simp only [Act.put, List.setIfInBounds_toArray, List.set_cons_zero, List.set_cons_succ, i64_w, i32_w]
              rfl
             refine done_ (done_of HT_.out k1_) ?_
             try go_wp2
             go_roundg k3
             case measure => have := HK1.out; have := HJ1.out; have := HK3.out; omega
             case rel => exact ⟨(wrap64 (x4_1 + 1)), e1_, H', ⟨by have := HK1.out; have := HJ1.out; have := HK3.out; omega⟩, ⟨b1_⟩⟩
           ·rw [if_neg c27] at H
            exact absurd H (by simp)
          ·rw [if_neg c26] at H
           exact absurd H (by simp)
         ·replace c24 := Bool.eq_false_iff.mpr c24
          subst c24
          have H1 : (rhizomeref01_Get.l0 k3 a0 (wrap64 (x4_1 + 1))) = some (r1, r2) := by rw [if_neg (show ¬ (false = true) by decide)] at H; exact H
          clear H
          have H := H1
          clear H1
          have H' := Aside0.mk H
          clear H
          try go_wp2
          have n0_ := Aside0.mk (below_drew1 HB.out)
          clear HB
          have HB := n0_
          clear n0_
          refine start_ (n := 11) (S := fun w' => True) (ds := []) #[false, false, false, false, false, false, false, false, false, false, false] k1_ rfl rfl trivial (fun hHeld => ?_); refine with_tabW rhizomeref01_Get.tab14 rhizomeref01_Get.bits14 (fun HT_ HW_ => ?_)
          generalize wr.drew = w35 at HB hHeld ⊢
          refine pure_ (i := 0) (N := some 47) (v := ?_) (a' := ?_) #[true, false, false, false, false, false, false, false, false, false, false] rfl rfl (any_of HT_.out k1_) (fun _ _ _ h => h) (Or.inl ⟨by rfl, ?_⟩) ?_ ?_
          rotate_left
          ·intro w'
           go_simp
           with_reducible rfl
          rotate_left
          ·simp only [Act.put, List.setIfInBounds_toArray, List.set_cons_zero, List.set_cons_succ, i64_w, i32_w]
           rfl
          refine one_ (i := 1) (N := some 48) #[true, true, false, false, false, false, false, false, false, false, false] rfl rfl (one_of HT_.out k1_) (by decide) (fun K hK => ?_)
          refine goes_ Tryz.func81 k1_ rfl #[.int .i64 x5_3] (by rfl) rfl rfl g1_ ?_
          with_reducible refine (rhizomeref01_May.calls x5_3 false _ A23.out).mono ?_
          rintro e w' ⟨rfl, ⟨nd, rfl⟩⟩
          refine ⟨_, rfl, ?_⟩
          refine hK.out _ _ trivial (fun hHeld => ?_)
          clear hK K
          refine norm_ (a' := ?_) ?_ ?_
          rotate_left
          ·show Act.put _ (some 48) _ = _
           simp only [Act.put, List.setIfInBounds_toArray, List.set_cons_zero, List.set_cons_succ, i64_w, i32_w]
           rfl
          refine pure_ (i := 2) (N := some 49) (v := ?_) (a' := ?_) #[true, true, true, false, false, false, false, false, false, false, false] rfl rfl (any_of HT_.out k1_) (fun _ _ _ h => h) (Or.inl ⟨by rfl, ?_⟩) ?_ ?_
          rotate_left
          ·intro w'
           go_simp
           with_reducible rfl
          rotate_left
          ·simp only [Act.put, List.setIfInBounds_toArray, List.set_cons_zero, List.set_cons_succ, i64_w, i32_w]
           rfl
          refine pure_ (i := 3) (N := some 50) (v := undef) (a' := ?_) #[true, true, true, true, false, false, false, false, false, false, false] rfl rfl (any_of HT_.out k1_) (fun _ _ _ h => h) (Or.inr ⟨by rfl, rfl⟩) ?_ ?_
          rotate_left
          ·simp only [Act.put, List.setIfInBounds_toArray, List.set_cons_zero, List.set_cons_succ, i64_w, i32_w]
           rfl
          refine pure_ (i := 4) (N := some 51) (v := undef) (a' := ?_) #[true, true, true, true, true, false, false, false, false, false, false] rfl rfl (any_of HT_.out k1_) (fun _ _ _ h => h) (Or.inr ⟨by rfl, rfl⟩) ?_ ?_
          rotate_left
          ·simp only [Act.put, List.setIfInBounds_toArray, List.set_cons_zero, List.set_cons_succ, i64_w, i32_w]
           rfl
          refine pure_ (i := 5) (N := some 52) (v := undef) (a' := ?_) #[true, true, true, true, true, true, false, false, false, false, false] rfl rfl (any_of HT_.out k1_) (fun _ _ _ h => h) (Or.inr ⟨by rfl, rfl⟩) ?_ ?_
          rotate_left
          ·simp only [Act.put, List.setIfInBounds_toArray, List.set_cons_zero, List.set_cons_succ, i64_w, i32_w]
           rfl
          refine pure_ (i := 6) (N := some 53) (v := undef) (a' := ?_) #[true, true, true, true, true, true, true, false, false, false, false] rfl rfl (any_of HT_.out k1_) (fun _ _ _ h => h) (Or.inr ⟨by rfl, rfl⟩) ?_ ?_
          rotate_left
          ·simp only [Act.put, List.setIfInBounds_toArray, List.set_cons_zero, List.set_cons_succ, i64_w, i32_w]
           rfl
          refine pure_ (i := 7) (N := some 54) (v := undef) (a' := ?_) #[true, true, true, true, true, true, true, true, false, false, false] rfl rfl (any_of HT_.out k1_) (fun _ _ _ h => h) (Or.inr ⟨by rfl, rfl⟩) ?_ ?_
          rotate_left
          ·simp only [Act.put, List.setIfInBounds_toArray, List.set_cons_zero, List.set_cons_succ, i64_w, i32_w]
           rfl
          refine pure_ (i := 8) (N := some 55) (v := undef) (a' := ?_) #[true, true, true, true, true, true, true, true, true, false, false] rfl rfl (any_of HT_.out k1_) (fun _ _ _ h => h) (Or.inr ⟨by rfl, rfl⟩) ?_ ?_
          rotate_left
          ·simp only [Act.put, List.setIfInBounds_toArray, List.set_cons_zero, List.set_cons_succ, i64_w, i32_w]
           rfl
          refine pure_ (i := 9) (N := some 56) (v := undef) (a' := ?_) #[true, true, true, true, true, true, true, true, true, true, false] rfl rfl (any_of HT_.out k1_) (fun _ _ _ h => h) (Or.inr ⟨by rfl, rfl⟩) ?_ ?_
          rotate_left
          ·simp only [Act.put, List.setIfInBounds_toArray, List.set_cons_zero, List.set_cons_succ, i64_w, i32_w]
           rfl
          refine pure_ (i := 10) (N := some 57) (v := ?_) (a' := ?_) #[true, true, true, true, true, true, true, true, true, true, true] rfl rfl (any_of HT_.out k1_) (fun _ _ _ h => h) (Or.inl ⟨by rfl, ?_⟩) ?_ ?_
          rotate_left
          ·intro w'
           go_simp
           with_reducible rfl
          rotate_left
          ·simp only [Act.put, List.setIfInBounds_toArray, List.set_cons_zero, List.set_cons_succ, i64_w, i32_w]
           rfl
          refine done_ (done_of HT_.out k1_) ?_
          try go_wp2
          go_roundg k3
          case measure => have := HK1.out; have := HJ1.out; have := HK3.out; omega
          case rel => exact ⟨(wrap64 (x4_1 + 1)), e1_, H', ⟨by have := HK1.out; have := HJ1.out; have := HK3.out; omega⟩, ⟨b1_⟩⟩
     ·replace c4 := Bool.eq_false_iff.mpr c4
      subst c4
      have H1 : (some (0, 0)) = some (r1, r2) := by rw [if_neg (show ¬ (false = true) by decide)] at H; exact H
      clear H
      have H := H1
      clear H1
      simp only [Option.some.injEq, Prod.mk.injEq] at H
      obtain ⟨rfl, rfl⟩ := H
      go_wp2
      go_ret2
      exact ⟨e2_, b1_⟩
end Go.Proofs.YtjnhdamilbcmpaaGreatDoor.PWrit

import Derived.Test.YtjnhdamilbcmpaaGreatDoorWrPWritx0
import Derived.Test.YtjnhdamilbcmpaaGreatDoorWrPWritx2
namespace Go.Proofs.YtjnhdamilbcmpaaGreatDoor.PWrit
open Go.RowKit Go.Proofs.YtjnhdamilbcmpaaGreatDoorW.PrintWords Go.Proofs.YtjnhdamilbcmpaaGreatDoorW.PrintLast Go.Proofs.YtjnhdamilbcmpaaGreatDoorW.PrintMore
attribute [local go_sem] max2_int min2_int max_two min_two max_three min_three max_four min_four
set_option linter.unusedVariables false
set_option linter.unusedSimpArgs false
def wtab : ByteArray := ⟨#[0, 0, 0, 0, 0, 0, 0, 0, 98, 116, 110, 0, 102, 114, 0, 0, 0, 0, 0, 0, 0, 0, 0, 0, 0, 0, 0, 0, 0, 0, 0, 0, 0, 0, 34, 0, 0, 0, 0, 0, 0, 0, 0, 0, 0, 0, 0, 0, 0, 0, 0, 0, 0, 0, 0, 0, 0, 0, 0, 0, 0, 0, 0, 0, 0, 0, 0, 0, 0, 0, 0, 0, 0, 0, 0, 0, 0, 0, 0, 0, 0, 0, 0, 0, 0, 0, 0, 0, 0, 0, 0, 0, 92, 0, 0, 0, 0, 0, 0, 0, 0, 0, 0, 0, 0, 0, 0, 0, 0, 0, 0, 0, 0, 0, 0, 0, 0, 0, 0, 0, 0, 0, 0, 0, 0, 0, 0, 0, 0, 0, 0, 0, 0, 0, 0, 0, 0, 0, 0, 0, 0, 0, 0, 0, 0, 0, 0, 0, 0, 0, 0, 0, 0, 0, 0, 0, 0, 0, 0, 0, 0, 0, 0, 0, 0, 0, 0, 0, 0, 0, 0, 0, 0, 0, 0, 0, 0, 0, 0, 0, 0, 0, 0, 0, 0, 0, 0, 0, 0, 0, 0, 0, 0, 0, 0, 0, 0, 0, 0, 0, 0, 0, 0, 0, 0, 0, 0, 0, 0, 0, 0, 0, 0, 0, 0, 0, 0, 0, 0, 0, 0, 0, 0, 0, 0, 0, 0, 0, 0, 0, 0, 0, 0, 0, 0, 0, 0, 0, 0, 0, 0, 0, 0, 0, 0, 0, 0, 0, 0, 0, 0, 0, 0, 0, 0, 0]⟩
def wshort : Array MapEntry := #[⟨.int .u8 34, .int .u8 34, 0⟩, ⟨.int .u8 92, .int .u8 92, 1⟩, ⟨.int .u8 8, .int .u8 98, 2⟩, ⟨.int .u8 9, .int .u8 116, 3⟩, ⟨.int .u8 10, .int .u8 110, 4⟩, ⟨.int .u8 12, .int .u8 102, 5⟩, ⟨.int .u8 13, .int .u8 114, 6⟩]
theorem wtab_none (c : Nat) (h : c < 256) (h34 : c ≠ 34) (h92 : c ≠ 92) (h8 : c ≠ 8) (h9 : c ≠ 9) (h10 : c ≠ 10) (h12 : c ≠ 12) (h13 : c ≠ 13) : bt wtab c = 0 := by
 have h1 := List.all_eq_true.mp (show (List.range 256).all (fun c => c == 34 || c == 92 || c == 8 || c == 9 || c == 10 || c == 12 || c == 13 || bt wtab c == 0) = true by decide +kernel) c (List.mem_range.mpr h)
 simpa [h34, h92, h8, h9, h10, h12, h13] using h1
theorem wshort_look (w : World) (b : Nat) (hm : w.heap[b]? = some (.map wshort 7)) (c : Int) (hc : 0 ≤ c ∧ c ≤ 255) : (Instr.lookup 136 (.map (some b)) (.int .u8 c) true).run Tryz.prog w = .ok (.tuple #[.int .u8 (bt wtab c), .bool (bt wtab c != 0)]) w := by
 by_cases h34 : c = 34
 ·subst h34
  rw [show bt wtab 34 = 34 by decide +kernel]
  exact (run_look Tryz.underlying136 Tryz.underlying5 w hm 34 (v := .int .u8 34) (by unfold wshort; rfl)).2
 by_cases h92 : c = 92
 ·subst h92
  rw [show bt wtab 92 = 92 by decide +kernel]
  exact (run_look Tryz.underlying136 Tryz.underlying5 w hm 92 (v := .int .u8 92) (by unfold wshort; rfl)).2
 by_cases h8 : c = 8
 ·subst h8
  rw [show bt wtab 8 = 98 by decide +kernel]
  exact (run_look Tryz.underlying136 Tryz.underlying5 w hm 8 (v := .int .u8 98) (by unfold wshort; rfl)).2
 by_cases h9 : c = 9
 ·subst h9
  rw [show bt wtab 9 = 116 by decide +kernel]
  exact (run_look Tryz.underlying136 Tryz.underlying5 w hm 9 (v := .int .u8 116) (by unfold wshort; rfl)).2
 by_cases h10 : c = 10
 ·subst h10
  rw [show bt wtab 10 = 110 by decide +kernel]
  exact (run_look Tryz.underlying136 Tryz.underlying5 w hm 10 (v := .int .u8 110) (by unfold wshort; rfl)).2
 by_cases h12 : c = 12
 ·subst h12
  rw [show bt wtab 12 = 102 by decide +kernel]
  exact (run_look Tryz.underlying136 Tryz.underlying5 w hm 12 (v := .int .u8 102) (by unfold wshort; rfl)).2
 by_cases h13 : c = 13
 ·subst h13
  rw [show bt wtab 13 = 114 by decide +kernel]
  exact (run_look Tryz.underlying136 Tryz.underlying5 w hm 13 (v := .int .u8 114) (by unfold wshort; rfl)).2
 obtain ⟨n, rfl⟩ := Int.eq_ofNat_of_zero_le hc.1
 have h0 := wtab_none n (by omega) (by omega) (by omega) (by omega) (by omega) (by omega) (by omega) (by omega)
 rw [h0]
 refine (run_look_none Tryz.underlying136 Tryz.underlying5 w hm n (z := .int .u8 0) (Tryz.zeroValue5 w) ?_).2
 unfold wshort
 simp only [findNow_cons]
 rw [if_neg h34]
 rw [if_neg h92]
 rw [if_neg h8]
 rw [if_neg h9]
 rw [if_neg h10]
 rw [if_neg h12]
 rw [if_neg h13]
 rfl
def term_written.l0 : Nat → ByteArray → List Int → Int → Int → Option (ByteArray)
 | 0, _, _, _, _ => none
 | k + 1, x0, x4, x13, x14 => if x14 < x13 then (if 0 ≤ x14 then (if x14 < (x0.size : Int) then (if 0 ≤ (bt x0 x14) then (if (bt x0 x14) < 256 then (if (bt wtab (bt x0 x14)) = 0 then (if (bt x0 x14) < 32 then (if 0 ≤ ((bt x0 x14) / 16) then (if ((bt x0 x14) / 16) < 16 then (if 0 ≤ (Go.bits .and .u8 (bt x0 x14) 15) then (if (Go.bits .and .u8 (bt x0 x14) 15) < 16 then ((some (([92, 117, 48, 48, bt (⟨#[48, 49, 50, 51, 52, 53, 54, 55, 56, 57, 65, 66, 67, 68, 69, 70]⟩ : ByteArray) ((bt x0 x14) / 16), bt (⟨#[48, 49, 50, 51, 52, 53, 54, 55, 56, 57, 65, 66, 67, 68, 69, 70]⟩ : ByteArray) (Go.bits .and .u8 (bt x0 x14) 15)] : List Int) : List Int)).bind fun y266 => (if x4.length + y266.length < 140737488355328 then (term_written.l0 k x0 (x4 ++ y266) x13 (wrap64 (x14 + 1))) else (none))) else (none)) else (none)) else (none)) else (none)) else (if (bt x0 x14) = 127 then (if 0 ≤ ((bt x0 x14) / 16) then (if ((bt x0 x14) / 16) < 16 then (if 0 ≤ (Go.bits .and .u8 (bt x0 x14) 15) then (if (Go.bits .and .u8 (bt x0 x14) 15) < 16 then ((some (([92, 117, 48, 48, bt (⟨#[48, 49, 50, 51, 52, 53, 54, 55, 56, 57, 65, 66, 67, 68, 69, 70]⟩ : ByteArray) ((bt x0 x14) / 16), bt (⟨#[48, 49, 50, 51, 52, 53, 54, 55, 56, 57, 65, 66, 67, 68, 69, 70]⟩ : ByteArray) (Go.bits .and .u8 (bt x0 x14) 15)] : List Int) : List Int)).bind fun y272 => (if x4.length + y272.length < 140737488355328 then (term_written.l0 k x0 (x4 ++ y272) x13 (wrap64 (x14 + 1))) else (none))) else (none)) else (none)) else (none)) else (none)) else (if x4.length < 140737488355328 then (term_written.l0 k x0 (x4 ++ [bt x0 x14]) x13 (wrap64 (x14 + 1))) else (none)))) else ((some (([92, bt wtab (bt x0 x14)] : List Int) : List Int)).bind fun y281 => (if x4.length + y281.length < 140737488355328 then (term_written.l0 k x0 (x4 ++ y281) x13 (wrap64 (x14 + 1))) else (none)))) else (none)) else (none)) else (none)) else (none)) else (if x4.length < 140737488355328 then (some (strOfNums (x4 ++ [34]))) else (none))
def term_written.f (k : Nat) (a0 : ByteArray) : Option (ByteArray) := term_written.l0 k a0 (([34] : List Int)) (a0.size : Int) 0
def term_written.T12 : Bool × List (List Nat × List Nat) := (true, [([], []), ([], []), ([1], [1]), ([2], [2]), ([], []), ([4], [4]), ([5], [5]), ([3, 6], [3, 6]), ([0, 7], [0, 7]), ([8, 8, 0, 1, 2, 3, 4, 5, 6, 7, 8], [0, 8])])
def term_written.B12 : List Nat := [0, 0, 2, 6, 0, 16, 48, 126, 255, 511]
theorem term_written.tab12 : rtab .any (opsOf Tryz.f55 12) = term_written.T12 := by kernel_rfl
theorem term_written.bits12 : waitsOk term_written.T12.2 term_written.B12 = true := by kernel_rfl
set_option maxHeartbeats 8000000 in
set_option maxRecDepth 100000 in
theorem term_written.calls (k : Nat) (a0 : ByteArray) (r : ByteArray) (w : World) (h : term_written.f k a0 = some r) :
  Calls Tryz.prog 55 #[.string a0] w fun e w' => e = .returned (.string r) ∧ Below w.heap.size w w' := by
 have H : (term_written.l0 k a0 (([34] : List Int)) (a0.size : Int) 0) = some r := h
 clear h
 obtain ⟨y260, hy260⟩ : ∃ y_ : List Int, y_ = (([34] : List Int)) := ⟨_, rfl⟩
 replace H : (term_written.l0 k a0 y260 (a0.size : Int) 0) = some r := by first | (rw [hy260]; with_reducible exact H) | (have H2_ := (Option.bind_some _ _).symm.trans H; rw [hy260]; with_reducible exact H2_) | (have H2_ := (Option.bind_some _ _).symm.trans H; with_reducible exact H2_) | with_reducible exact H | (rw [hy260]; exact H) | exact H
 have Ny260 := Aside0.mk hy260
 clear hy260
 have H' := Aside0.mk H
 clear H
 go_enter Tryz.func55, Tryz.ntmps55
 have hmm := @run_makeMap Tryz.prog
 have pu0 := run_put_new Tryz.underlying136 Tryz.underlying5 w #[] 0 34 (.int .u8 34) rfl
 have pu1 := run_put_new Tryz.underlying136 Tryz.underlying5 w #[⟨.int .u8 34, .int .u8 34, 0⟩] 1 92 (.int .u8 92) rfl
 have pu2 := run_put_new Tryz.underlying136 Tryz.underlying5 w #[⟨.int .u8 34, .int .u8 34, 0⟩, ⟨.int .u8 92, .int .u8 92, 1⟩] 2 8 (.int .u8 98) rfl
 have pu3 := run_put_new Tryz.underlying136 Tryz.underlying5 w #[⟨.int .u8 34, .int .u8 34, 0⟩, ⟨.int .u8 92, .int .u8 92, 1⟩, ⟨.int .u8 8, .int .u8 98, 2⟩] 3 9 (.int .u8 116) rfl
 have pu4 := run_put_new Tryz.underlying136 Tryz.underlying5 w #[⟨.int .u8 34, .int .u8 34, 0⟩, ⟨.int .u8 92, .int .u8 92, 1⟩, ⟨.int .u8 8, .int .u8 98, 2⟩, ⟨.int .u8 9, .int .u8 116, 3⟩] 4 10 (.int .u8 110) rfl
 have pu5 := run_put_new Tryz.underlying136 Tryz.underlying5 w #[⟨.int .u8 34, .int .u8 34, 0⟩, ⟨.int .u8 92, .int .u8 92, 1⟩, ⟨.int .u8 8, .int .u8 98, 2⟩, ⟨.int .u8 9, .int .u8 116, 3⟩, ⟨.int .u8 10, .int .u8 110, 4⟩] 5 12 (.int .u8 102) rfl
 have pu6 := run_put_new Tryz.underlying136 Tryz.underlying5 w #[⟨.int .u8 34, .int .u8 34, 0⟩, ⟨.int .u8 92, .int .u8 92, 1⟩, ⟨.int .u8 8, .int .u8 98, 2⟩, ⟨.int .u8 9, .int .u8 116, 3⟩, ⟨.int .u8 10, .int .u8 110, 4⟩, ⟨.int .u8 12, .int .u8 102, 5⟩] 6 13 (.int .u8 114) rfl
 simp only [List.push_toArray, List.nil_append, List.cons_append] at pu0 pu1 pu2 pu3 pu4 pu5 pu6
 go_upto_region 2 with (fail)
 clear hmm pu0 pu1 pu2 pu3 pu4 pu5 pu6
 obtain ⟨w1, hw1⟩ : ∃ w1 : World, w1 = w.alloc (.map #[⟨.int .u8 34, .int .u8 34, 0⟩, ⟨.int .u8 92, .int .u8 92, 1⟩, ⟨.int .u8 8, .int .u8 98, 2⟩, ⟨.int .u8 9, .int .u8 116, 3⟩, ⟨.int .u8 10, .int .u8 110, 4⟩, ⟨.int .u8 12, .int .u8 102, 5⟩, ⟨.int .u8 13, .int .u8 114, 6⟩] 7) := ⟨_, rfl⟩
 rw [← hw1]
 have HB0 : Below w.heap.size w w1 := by rw [hw1]; exact (Below.refl _ w).alloc (Nat.le_refl _) _
 have hM_ : Aside0 (w1.heap[w.heap.size]? = some (.map wshort 7)) := ⟨by rw [hw1]; exact World.alloc_heap_new w _⟩
 have hb_ : Aside0 (w.heap.size < w1.heap.size) := ⟨by rw [hw1]; simp⟩
 clear hw1
 have hend_ : ∀ {W : World}, Below w1.heap.size w1 W → Below w.heap.size w W := fun h_ => below_then HB0 HB0.size h_
 clear HB0
 have HB := Aside0.mk (Below.refl w1.heap.size w1)
 go_wp2_with (first | ((with_reducible refine gate_dst (N := 11) rfl ?_); refine Kd.R_lit (Kd.int .u8) _ 5 ?hg (N := 11) ?hd (xs := ([34] : List Int)) (inner := [.int .u8 34]) (ok := fun _ => True) (okp := fun _ => True) ?hr ?hp (fun _ hk => hk) trivial (Below.refl _ _) (Nat.le_refl _) (by simp) ?_; (case hd => rfl); (case hg => rfl); (case hr => first | (go_simp; done) | (go_simp; rfl)); (case hp => exact (Reps.one (show Kd.M (Kd.int .u8) _ _ _ 34 [.int .u8 34] from rfl) (Reps.none _ _))); intro v261 w2 ho3 hb hg_ hnew_; clear hg_ hnew_; (first | rw [← Ny260.out] at ho3 | (simp only [Int.reduceToNat] at ho3; rw [← Ny260.out] at ho3)); have HO262 := Aside0.mk (Kd.R_lower ho3 (below_size b1_)); replace HB := Aside0.mk (below_step b1_ hb); clear hb ho3))
 go_loopg [4, 14] k (fun kq v4 v14 w' => ∃ (x4_1 : List Int) (x14_1 : Int), v14 = .int .i64 x14_1 ∧ Aside0 (term_written.l0 kq a0 x4_1 (a0.size : Int) x14_1 = some r) ∧ Aside0 (kq ≤ k) ∧ Aside0 (Kd.R (Kd.int .u8) 5 w' w1.heap.size (fun _ => True) v4 x4_1) ∧ Aside0 (Below w1.heap.size w1 w'))
 case atStart => exact ⟨(y260), (0), e1_, H', ⟨Nat.le_refl _⟩, ⟨by have G0 := HO262; exact z1_⟩, ⟨b1_⟩⟩
 case round =>
  clear H'
  try clear p2
  obtain ⟨x4_1, x14_1, rfl, HA, HK1, HO_4, HB⟩ := hrel
  cases gk with
  | zero => exact absurd HA.out (by simp [term_written.l0])
  | succ k1 =>
   have H := HA.out
   clear HA
   simp only [term_written.l0] at H
   by_cases c4 : x14_1 < (a0.size : Int)
   ·rw [if_pos c4] at H
    have c4b0 : decide (x14_1 < (a0.size : Int)) = true := decide_eq_true c4
    clear c4
    by_cases c5 : 0 ≤ x14_1
    ·rw [if_pos c5] at H
     have c5b0 : decide (0 ≤ x14_1) = true := decide_eq_true c5
     clear c5
     by_cases c6 : x14_1 < (a0.size : Int)
     ·rw [if_pos c6] at H
      have c6b0 : decide (x14_1 < (a0.size : Int)) = true := decide_eq_true c6
      clear c6
      by_cases c8 : 0 ≤ (bt a0 x14_1)
      ·rw [if_pos c8] at H
       have c8b0 : decide (0 ≤ (bt a0 x14_1)) = true := decide_eq_true c8
       clear c8
       by_cases c9 : (bt a0 x14_1) < 256
       ·rw [if_pos c9] at H
        have c9b0 : decide ((bt a0 x14_1) < 256) = true := decide_eq_true c9
        clear c9
        by_cases c11 : (bt wtab (bt a0 x14_1)) = 0
        ·rw [if_pos c11] at H
         have c11b0 : ((bt wtab (bt a0 x14_1)) == 0) = true := beq_iff_eq.mpr c11
         have c11b1 : ((bt wtab (bt a0 x14_1)) != 0) = false := bne_eq_false_iff_eq.mpr c11
         clear c11
         by_cases c12 : (bt a0 x14_1) < 32
         ·rw [if_pos c12] at H
          have c12b0 : decide ((bt a0 x14_1) < 32) = true := decide_eq_true c12
          clear c12
          obtain ⟨ji13, hji13⟩ : ∃ j_ : Int, ((bt a0 x14_1) / 16) = j_ := ⟨_, rfl⟩
          replace H : (if 0 ≤ (ji13) then (if (ji13) < 16 then (if 0 ≤ (Go.bits .and .u8 (bt a0 x14_1) 15) then (if (Go.bits .and .u8 (bt a0 x14_1) 15) < 16 then ((some (([92, 117, 48, 48, bt (⟨#[48, 49, 50, 51, 52, 53, 54, 55, 56, 57, 65, 66, 67, 68, 69, 70]⟩ : ByteArray) (ji13), bt (⟨#[48, 49, 50, 51, 52, 53, 54, 55, 56, 57, 65, 66, 67, 68, 69, 70]⟩ : ByteArray) (Go.bits .and .u8 (bt a0 x14_1) 15)] : List Int) : List Int)).bind fun y266 => (if x4_1.length + y266.length < 140737488355328 then (term_written.l0 k1 a0 (x4_1 ++ y266) (a0.size : Int) (wrap64 (x14_1 + 1))) else (none))) else (none)) else (none)) else (none)) else (none)) = some r := by first | (rw [hji13] at H; exact H) | (simp only [hji13] at H ⊢; exact H)
          by_cases c14 : 0 ≤ (ji13)
          ·rw [if_pos c14] at H
           have c14b0 : decide (0 ≤ (ji13)) = true := decide_eq_true c14
           clear c14
           by_cases c15 : (ji13) < 16
           ·rw [if_pos c15] at H
            have c15b0 : decide ((ji13) < 16) = true := decide_eq_true c15
            clear c15
            by_cases c17 : 0 ≤ (Go.bits .and .u8 (bt a0 x14_1) 15)
            ·rw [if_pos c17] at H
             have c17b0 : decide (0 ≤ (Go.bits .and .u8 (bt a0 x14_1) 15)) = true := decide_eq_true c17
             clear c17
             by_cases c18 : (Go.bits .and .u8 (bt a0 x14_1) 15) < 16
             ·rw [if_pos c18] at H
              have c18b0 : decide ((Go.bits .and .u8 (bt a0 x14_1) 15) < 16) = true := decide_eq_true c18
              clear c18
              obtain ⟨y266, hy266⟩ : ∃ y_ : List Int, y_ = (([92, 117, 48, 48, bt (⟨#[48, 49, 50, 51, 52, 53, 54, 55, 56, 57, 65, 66, 67, 68, 69, 70]⟩ : ByteArray) (ji13), bt (⟨#[48, 49, 50, 51, 52, 53, 54, 55, 56, 57, 65, 66, 67, 68, 69, 70]⟩ : ByteArray) (Go.bits .and .u8 (bt a0 x14_1) 15)] : List Int)) := ⟨_, rfl⟩
              replace H : (if x4_1.length + y266.length < 140737488355328 then (term_written.l0 k1 a0 (x4_1 ++ y266) (a0.size : Int) (wrap64 (x14_1 + 1))) else (none)) = some r := by first | (rw [hy266]; with_reducible exact H) | (have H2_ := (Option.bind_some _ _).symm.trans H; rw [hy266]; with_reducible exact H2_) | (have H2_ := (Option.bind_some _ _).symm.trans H; with_reducible exact H2_) | with_reducible exact H | (rw [hy266]; exact H) | exact H
              have Ny266 := Aside0.mk hy266
              clear hy266
              by_cases c20 : x4_1.length + y266.length < 140737488355328
              ·rw [if_pos c20] at H
               have LMc20 := Aside0.mk c20
               clear c20
               obtain ⟨y269, hy269⟩ : ∃ y_ : List Int, y_ = (x4_1 ++ y266) := ⟨_, rfl⟩
               replace H : (term_written.l0 k1 a0 y269 (a0.size : Int) (wrap64 (x14_1 + 1))) = some r := by first | (rw [hy269]; with_reducible exact H) | (have H2_ := (Option.bind_some _ _).symm.trans H; rw [hy269]; with_reducible exact H2_) | (have H2_ := (Option.bind_some _ _).symm.trans H; with_reducible exact H2_) | with_reducible exact H | (rw [hy269]; exact H) | exact H
               have Ny269 := Aside0.mk hy269
               clear hy269
               have H' := Aside0.mk H
               clear H
               have p7 : 0 ≤ (x14_1 : Int) := of_decide_eq_true a1_
               have q7 : x14_1 < (a0.size : Int) := of_decide_eq_true a1_
               have hx7 := bt_at a0 x14_1
               replace p7 := eq_true p7
               replace q7 := eq_true q7
               have p10 : 0 ≤ ((bt a0 x14_1) : Int) := of_decide_eq_true a1_
               have q10 : (bt a0 x14_1) < (256 : Int) := of_decide_eq_true a1_
               have hx10 := wshort_look wr w.heap.size (((HB.out).block w.heap.size hb_.out).trans hM_.out) (bt a0 x14_1) (bt_range _ _)
               replace p10 := eq_true p10
               replace q10 := eq_true q10
               try go_wp2
               have n0_ := Aside0.mk (Kd.R_drew HO_4.out)
               have n1_ := Aside0.mk (below_drew1 HB.out)
               clear HO_4
               clear HB
               have HO_4 := n0_
               have HB := n1_
               clear n0_ n1_
               have p16 : 0 ≤ ((ji13) : Int) := of_decide_eq_true a1_
               have q16 : (ji13) < (16 : Int) := of_decide_eq_true a1_
               have hx16 := bt_at (⟨#[48, 49, 50, 51, 52, 53, 54, 55, 56, 57, 65, 66, 67, 68, 69, 70]⟩ : ByteArray) (ji13)
               replace p16 := eq_true p16
               replace q16 := eq_true q16
               have p19 : 0 ≤ ((Go.bits .and .u8 (bt a0 x14_1) 15) : Int) := of_decide_eq_true a1_
               have q19 : (Go.bits .and .u8 (bt a0 x14_1) 15) < (16 : Int) := of_decide_eq_true a1_
               have hx19 := bt_at (⟨#[48, 49, 50, 51, 52, 53, 54, 55, 56, 57, 65, 66, 67, 68, 69, 70]⟩ : ByteArray) (Go.bits .and .u8 (bt a0 x14_1) 15)
               replace p19 := eq_true p19
               replace q19 := eq_true q19
               refine start_ (n := 10) (S := fun w' => True) (ds := []) #[false, false, false, false, false, false, false, false, false, false] k1_ rfl rfl trivial (fun hHeld => ?_); refine with_tabW term_written.tab12 term_written.bits12 (fun HT_ HW_ => ?_)
               generalize wr.drew = w21 at HO_4 HB hHeld ⊢
               refine pure_ (i := 0) (N := some 43) (v := ?_) (a' := ?_) #[true, false, false, false, false, false, false, false, false, false] rfl rfl (any_of HT_.out k1_) (fun _ _ _ h => h) (Or.inl ⟨by rfl, ?_⟩) ?_ ?_
               rotate_left
               ·intro w'
                go_simp
                with_reducible rfl
               rotate_left
               ·simp only [Act.put, List.setIfInBounds_toArray, List.set_cons_zero, List.set_cons_succ, i64_w, i32_w]
                rfl
               refine pure_ (i := 1) (N := some 44) (v := ?_) (a' := ?_) #[true, true, false, false, false, false, false, false, false, false] rfl rfl (any_of HT_.out k1_) (fun _ _ _ h => h) (Or.inl ⟨by rfl, ?_⟩) ?_ ?_
               rotate_left
               ·intro w'
                go_simp
                with_reducible rfl
               rotate_left
               ·simp only [Act.put, List.setIfInBounds_toArray, List.set_cons_zero, List.set_cons_succ, i64_w, i32_w]
                rfl
               refine pure_ (i := 2) (N := some 45) (v := ?_) (a' := ?_) #[true, true, true, false, false, false, false, false, false, false] rfl rfl (any_of HT_.out k1_) (fun _ _ _ h => h) (Or.inl ⟨by rfl, ?_⟩) ?_ ?_
               rotate_left
               ·intro w'
                go_simp
                with_reducible rfl
               rotate_left
               ·simp only [Act.put, List.setIfInBounds_toArray, List.set_cons_zero, List.set_cons_succ, i64_w, i32_w]
                rfl
               refine pure_ (i := 4) (N := some 47) (v := ?_) (a' := ?_) #[true, true, true, false, true, false, false, false, false, false] rfl rfl (any_of HT_.out k1_) (fun _ _ _ h => h) (Or.inl ⟨by rfl, ?_⟩) ?_ ?_
               rotate_left
               ·intro w'
                go_simp
                with_reducible rfl
               rotate_left
               ·simp only [Act.put, List.setIfInBounds_toArray, List.set_cons_zero, List.set_cons_succ, i64_w, i32_w]
                rfl
               refine pure_ (i := 5) (N := some 48) (v := ?_) (a' := ?_) #[true, true, true, false, true, true, false, false, false, false] rfl rfl (any_of HT_.out k1_) (fun _ _ _ h => h) (Or.inl ⟨by rfl, ?_⟩) ?_ ?_
               rotate_left
               ·intro w'
                go_simp
                with_reducible rfl
               rotate_left
               ·simp only [Act.put, List.setIfInBounds_toArray, List.set_cons_zero, List.set_cons_succ, i64_w, i32_w]
                rfl
               refine take_ (i := 3) (N := some 46) (v := ?_) (a' := ?_) #[true, true, true, true, true, true, false, false, false, false] rfl rfl (take_ofW HT_.out HW_.out k1_) (fun _ _ _ h => h) (Or.inl ⟨by rfl, ?_⟩) hHeld ?_ ?_
               rotate_left
               ·intro w' _
                go_simp
                with_reducible rfl
               rotate_left
               ·simp only [Act.put, List.setIfInBounds_toArray, List.set_cons_zero, List.set_cons_succ, i64_w, i32_w]
                rfl
               refine take_ (i := 6) (N := some 49) (v := ?_) (a' := ?_) #[true, true, true, true, true, true, true, false, false, false] rfl rfl (take_ofW HT_.out HW_.out k1_) (fun _ _ _ h => h) (Or.inl ⟨by rfl, ?_⟩) hHeld ?_ ?_
               rotate_left
               ·intro w' _
                go_simp
                with_reducible rfl
               rotate_left
               ·simp only [Act.put, List.setIfInBounds_toArray, List.set_cons_zero, List.set_cons_succ, i64_w, i32_w]
                rfl
               refine one_ (i := 7) (N := some 50) #[true, true, true, true, true, true, true, true, false, false] rfl rfl (one_of HT_.out k1_) (by decide) (fun K hK => ?_)
               refine Kd.R_lit_step (Kd.int .u8) _ 5 ?hg (N := 50) ?hd (xs := ([92, 117, 48, 48, bt (⟨#[48, 49, 50, 51, 52, 53, 54, 55, 56, 57, 65, 66, 67, 68, 69, 70]⟩ : ByteArray) (ji13), bt (⟨#[48, 49, 50, 51, 52, 53, 54, 55, 56, 57, 65, 66, 67, 68, 69, 70]⟩ : ByteArray) (Go.bits .and .u8 (bt a0 x14_1) 15)] : List Int)) (inner := [.int .u8 92, .int .u8 117, .int .u8 48, .int .u8 48, .int .u8 (bt (⟨#[48, 49, 50, 51, 52, 53, 54, 55, 56, 57, 65, 66, 67, 68, 69, 70]⟩ : ByteArray) (ji13)), .int .u8 (bt (⟨#[48, 49, 50, 51, 52, 53, 54, 55, 56, 57, 65, 66, 67, 68, 69, 70]⟩ : ByteArray) (Go.bits .and .u8 (bt a0 x14_1) 15))]) (ok := fun _ => True) (okp := fun _ => True) ?hr ?hp (fun _ hk => hk) trivial (Below.refl _ _) (Nat.le_refl _) (by simp) ?_; (case hd => rfl); (case hg => rfl); (case hr => first | (go_simp; done) | (go_simp; rfl)); (case hp => exact (Reps.one (show Kd.M (Kd.int .u8) _ _ _ 92 [.int .u8 92] from rfl) (Reps.one (show Kd.M (Kd.int .u8) _ _ _ 117 [.int .u8 117] from rfl) (Reps.one (show Kd.M (Kd.int .u8) _ _ _ 48 [.int .u8 48] from rfl) (Reps.one (show Kd.M (Kd.int .u8) _ _ _ 48 [.int .u8 48] from rfl) (Reps.one (show Kd.M (Kd.int .u8) _ _ _ (bt (⟨#[48, 49, 50, 51, 52, 53, 54, 55, 56, 57, 65, 66, 67, 68, 69, 70]⟩ : ByteArray) (ji13)) [.int .u8 (bt (⟨#[48, 49, 50, 51, 52, 53, 54, 55, 56, 57, 65, 66, 67, 68, 69, 70]⟩ : ByteArray) (ji13))] from rfl) (Reps.one (show Kd.M (Kd.int .u8) _ _ _ (bt (⟨#[48, 49, 50, 51, 52, 53, 54, 55, 56, 57, 65, 66, 67, 68, 69, 70]⟩ : ByteArray) (Go.bits .and .u8 (bt a0 x14_1) 15)) [.int .u8 (bt (⟨#[48, 49, 50, 51, 52, 53, 54, 55, 56, 57, 65, 66, 67, 68, 69, 70]⟩ : ByteArray) (Go.bits .and .u8 (bt a0 x14_1) 15))] from rfl) (Reps.none _ _))))))))
               intro v267 w22 ho23 hb hg_ hnew_
               clear hg_ hnew_
               (first | rw [← Ny266.out] at ho23 | (simp only [Int.reduceToNat] at ho23; rw [← Ny266.out] at ho23))
               have n0_ := Aside0.mk (Kd.R_elder' (by have G0 := HO_4; exact z1_) (Kd.R_base ho23) hb)
               have n1_ := Aside0.mk (Kd.R_lower (Kd.R_new' ho23 (Kd.R_lt (by have G0 := HO_4; exact z1_))) (below_size b1_))
               have n2_ := Aside0.mk (below_step b1_ hb)
               clear HO_4
               clear HB
               have HO_4 := n0_
               have HO268 := n1_
               have HB := n2_
               clear n0_ n1_ n2_
               clear hb ho23
               obtain ⟨Ao25, co25, eo25⟩ := Kd.R_slice HO268.out
               (first | subst eo25 | (injection eo25 with f1_ f2_ f3_; have f4_ := f1_.symm; have f5_ := f3_.symm; clear f1_ f2_ f3_; subst f4_; subst f5_))
               refine hK.out _ _ trivial (fun hHeld => ?_)
               clear hK K
               refine norm_ (a' := ?_) ?_ ?_
               rotate_left
               ·show Act.put _ (some 50) _ = _
                simp only [Act.put, List.setIfInBounds_toArray, List.set_cons_zero, List.set_cons_succ, i64_w, i32_w]
                rfl
               refine one_ (i := 8) (N := some 51) #[true, true, true, true, true, true, true, true, true, false] rfl rfl (one_of HT_.out k1_) (by decide) (fun K hK => ?_)
               refine Kd.R_append_rows_step (Kd.int .u8) (w0 := w1) w1.heap.size (by rfl) (.tmp 43) (.tmp 50) 62 5 (.int .u8 0) 1 rfl Tryz.underlying62 info5 rfl (by decide) (by omega) u4 x4_1 y266 _ _ _ (fun k_ => some k_ ≠ (.slice Ao25 y266.length co25 : Value).ownBlock) (fun _ => False) rfl rfl ?aO ?aR (fun _ _ h => h) (fun _ h => h.elim) ?aF ?aB ?aS ?aL ?_
               (case aR => repeat (first | exact (Kd.R_reads' HO268.out).2.2 | (with_reducible refine Kd.C_alloc ?_ _) | (with_reducible refine Kd.C_drewN ?_ _) | (with_reducible refine Kd.C_drew ?_)))
               (case aB => exact b1_)
               (case aF => exact (fun k_ hk => Kd.fresh' (Kd.R_lt (by have G0 := HO268; exact z1_)) k_ hk))
               (case aO => exact (by have G0 := HO_4; exact z11_))
               (case aS => exact (below_size b1_))
               (case aL => have := LMc20.out; omega)
               intro v270 w24 ho hb hg hat
               rw [← Ny269.out] at ho
               have n0_ := Aside0.mk (Kd.R_after (ok := (fun _ => True)) (by have G0 := HO268; exact z1_) hg hat)
               have n1_ := Aside0.mk (hb)
               have n2_ := Aside0.mk (ho)
               clear HO268
               clear HB
               clear HO_4
               have HO268 := n0_
               have HB := n1_
               have HO271 := n2_
               clear n0_ n1_ n2_
               clear ho hb hg hat
               refine hK.out _ _ trivial (fun hHeld => ?_)
               clear hK K
               refine norm_ (a' := ?_) ?_ ?_
               rotate_left
               ·show Act.put _ (some 51) _ = _
                simp only [Act.put, List.setIfInBounds_toArray, List.set_cons_zero, List.set_cons_succ, i64_w, i32_w]
                rfl
               refine pure_ (i := 9) (N := some 4) (v := ?_) (a' := ?_) #[true, true, true, true, true, true, true, true, true, true] rfl rfl (any_of HT_.out k1_) (fun _ _ _ h => h) (Or.inl ⟨by rfl, ?_⟩) ?_ ?_
               rotate_left
               ·intro w'
                go_simp
                with_reducible rfl
               rotate_left
               ·simp only [Act.put, List.setIfInBounds_toArray, List.set_cons_zero, List.set_cons_succ, i64_w, i32_w]
                rfl
               refine done_ (done_of HT_.out k1_) ?_
               try go_wp2
               go_roundg k1
               case measure => have := HK1.out; omega
               case rel => exact ⟨(y269), (wrap64 (x14_1 + 1)), e1_, H', ⟨by have := HK1.out; omega⟩, ⟨by have G0 := HO271; exact z15_⟩, ⟨b1_⟩⟩
              ·rw [if_neg c20] at H
               exact absurd H (by simp)
             ·rw [if_neg c18] at H
              exact absurd H (by simp)
            ·rw [if_neg c17] at H
             exact absurd H (by simp)
           ·rw [if_neg c15] at H
            exact absurd H (by simp)
          ·rw [if_neg c14] at H
           exact absurd H (by simp)
         ·rw [if_neg c12] at H
          have c12b0 : decide ((bt a0 x14_1) < 32) = false := decide_eq_false c12
          clear c12
          by_cases c26 : (bt a0 x14_1) = 127
          ·rw [if_pos c26] at H
           have c26b0 : ((bt a0 x14_1) == 127) = true := beq_iff_eq.mpr c26
           have c26b1 : ((bt a0 x14_1) != 127) = false := bne_eq_false_iff_eq.mpr c26
           clear c26
           obtain ⟨ji27, hji27⟩ : ∃ j_ : Int, ((bt a0 x14_1) / 16) = j_ := ⟨_, rfl⟩
           replace H : (if 0 ≤ (ji27) then (if (ji27) < 16 then (if 0 ≤ (Go.bits .and .u8 (bt a0 x14_1) 15) then (if (Go.bits .and .u8 (bt a0 x14_1) 15) < 16 then ((some (([92, 117, 48, 48, bt (⟨#[48, 49, 50, 51, 52, 53, 54, 55, 56, 57, 65, 66, 67, 68, 69, 70]⟩ : ByteArray) (ji27), bt (⟨#[48, 49, 50, 51, 52, 53, 54, 55, 56, 57, 65, 66, 67, 68, 69, 70]⟩ : ByteArray) (Go.bits .and .u8 (bt a0 x14_1) 15)] : List Int) : List Int)).bind fun y272 => (if x4_1.length + y272.length < 140737488355328 then (term_written.l0 k1 a0 (x4_1 ++ y272) (a0.size : Int) (wrap64 (x14_1 + 1))) else (none))) else (none)) else (none)) else (none)) else (none)) = some r := by first | (rw [hji27] at H; exact H) | (simp only [hji27] at H ⊢; exact H)
           by_cases c28 : 0 ≤ (ji27)
           ·rw [if_pos c28] at H
            have c28b0 : decide (0 ≤ (ji27)) = true := decide_eq_true c28
            clear c28
            by_cases c29 : (ji27) < 16
            ·rw [if_pos c29] at H
             have c29b0 : decide ((ji27) < 16) = true := decide_eq_true c29
             clear c29
             by_cases c31 : 0 ≤ (Go.bits .and .u8 (bt a0 x14_1) 15)
             ·rw [if_pos c31] at H
              have c31b0 : decide (0 ≤ (Go.bits .and .u8 (bt a0 x14_1) 15)) = true := decide_eq_true c31
              clear c31
              by_cases c32 : (Go.bits .and .u8 (bt a0 x14_1) 15) < 16
              ·rw [if_pos c32] at H
               have c32b0 : decide ((Go.bits .and .u8 (bt a0 x14_1) 15) < 16) = true := decide_eq_true c32
               clear c32
               obtain ⟨y272, hy272⟩ : ∃ y_ : List Int, y_ = (([92, 117, 48, 48, bt (⟨#[48, 49, 50, 51, 52, 53, 54, 55, 56, 57, 65, 66, 67, 68, 69, 70]⟩ : ByteArray) (ji27), bt (⟨#[48, 49, 50, 51, 52, 53, 54, 55, 56, 57, 65, 66, 67, 68, 69, 70]⟩ : ByteArray) (Go.bits .and .u8 (bt a0 x14_1) 15)] : List Int)) := ⟨_, rfl⟩
               replace H : (if x4_1.length + y272.length < 140737488355328 then (term_written.l0 k1 a0 (x4_1 ++ y272) (a0.size : Int) (wrap64 (x14_1 + 1))) else (none)) = some r := by first | (rw [hy272]; with_reducible exact H) | (have H2_ := (Option.bind_some _ _).symm.trans H; rw [hy272]; with_reducible exact H2_) | (have H2_ := (Option.bind_some _ _).symm.trans H; with_reducible exact H2_) | with_reducible exact H | (rw [hy272]; exact H) | exact H
               have Ny272 := Aside0.mk hy272
               clear hy272
               by_cases c34 : x4_1.length + y272.length < 140737488355328
               ·rw [if_pos c34] at H
                have LMc34 := Aside0.mk c34
                clear c34
                obtain ⟨y275, hy275⟩ : ∃ y_ : List Int, y_ = (x4_1 ++ y272) := ⟨_, rfl⟩
                replace H : (term_written.l0 k1 a0 y275 (a0.size : Int) (wrap64 (x14_1 + 1))) = some r := by first | (rw [hy275]; with_reducible exact H) | (have H2_ := (Option.bind_some _ _).symm.trans H; rw [hy275]; with_reducible exact H2_) | (have H2_ := (Option.bind_some _ _).symm.trans H; with_reducible exact H2_) | with_reducible exact H | (rw [hy275]; exact H) | exact H
                have Ny275 := Aside0.mk hy275
                clear hy275
                have H' := Aside0.mk H
                clear H
                have p7 : 0 ≤ (x14_1 : Int) := of_decide_eq_true a1_
                have q7 : x14_1 < (a0.size : Int) := of_decide_eq_true a1_
                have hx7 := bt_at a0 x14_1
                replace p7 := eq_true p7
                replace q7 := eq_true q7
                have p10 : 0 ≤ ((bt a0 x14_1) : Int) := of_decide_eq_true a1_
                have q10 : (bt a0 x14_1) < (256 : Int) := of_decide_eq_true a1_
                have hx10 := wshort_look wr w.heap.size (((HB.out).block w.heap.size hb_.out).trans hM_.out) (bt a0 x14_1) (bt_range _ _)
                replace p10 := eq_true p10
                replace q10 := eq_true q10
                try go_wp2
                have n0_ := Aside0.mk (Kd.R_drew HO_4.out)
                have n1_ := Aside0.mk (below_drew1 HB.out)
                clear HO_4
                clear HB
                have HO_4 := n0_
                have HB := n1_
                clear n0_ n1_
                have p30 : 0 ≤ ((ji27) : Int) := of_decide_eq_true a1_
                have q30 : (ji27) < (16 : Int) := of_decide_eq_true a1_
                have hx30 := bt_at (⟨#[48, 49, 50, 51, 52, 53, 54, 55, 56, 57, 65, 66, 67, 68, 69, 70]⟩ : ByteArray) (ji27)
                replace p30 := eq_true p30
                replace q30 := eq_true q30
                have p33 : 0 ≤ ((Go.bits .and .u8 (bt a0 x14_1) 15) : Int) := of_decide_eq_true a1_
                have q33 : (Go.bits .and .u8 (bt a0 x14_1) 15) < (16 : Int) := of_decide_eq_true a1_
                have hx33 := bt_at (⟨#[48, 49, 50, 51, 52, 53, 54, 55, 56, 57, 65, 66, 67, 68, 69, 70]⟩ : ByteArray) (Go.bits .and .u8 (bt a0 x14_1) 15)
                replace p33 := eq_true p33
                replace q33 := eq_true q33
                refine start_ (n := 10) (S := fun w' => True) (ds := []) #[false, false, false, false, false, false, false, false, false, false] k1_ rfl rfl trivial (fun hHeld => ?_); refine with_tabW term_written.tab12 term_written.bits12 (fun HT_ HW_ => ?_)
                generalize wr.drew = w35 at HO_4 HB hHeld ⊢
                refine pure_ (i := 0) (N := some 43) (v := ?_) (a' := ?_) #[true, false, false, false, false, false, false, false, false, false] rfl rfl (any_of HT_.out k1_) (fun _ _ _ h => h) (Or.inl ⟨by rfl, ?_⟩) ?_ ?_
                rotate_left
                ·intro w'
                 go_simp
                 with_reducible rfl
                rotate_left
                ·simp only [Act.put, List.setIfInBounds_toArray, List.set_cons_zero, List.set_cons_succ, i64_w, i32_w]
                 rfl
                refine pure_ (i := 1) (N := some 44) (v := ?_) (a' := ?_) #[true, true, false, false, false, false, false, false, false, false] rfl rfl (any_of HT_.out k1_) (fun _ _ _ h => h) (Or.inl ⟨by rfl, ?_⟩) ?_ ?_
                rotate_left
                ·intro w'
                 go_simp
                 with_reducible rfl
                rotate_left
                ·simp only [Act.put, List.setIfInBounds_toArray, List.set_cons_zero, List.set_cons_succ, i64_w, i32_w]
                 rfl
                refine pure_ (i := 2) (N := some 45) (v := ?_) (a' := ?_) #[true, true, true, false, false, false, false, false, false, false] rfl rfl (any_of HT_.out k1_) (fun _ _ _ h => h) (Or.inl ⟨by rfl, ?_⟩) ?_ ?_
                rotate_left
                ·intro w'
                 go_simp
                 with_reducible rfl
                rotate_left
                ·simp only [Act.put, List.setIfInBounds_toArray, List.set_cons_zero, List.set_cons_succ, i64_w, i32_w]
                 rfl
                refine pure_ (i := 4) (N := some 47) (v := ?_) (a' := ?_) #[true, true, true, false, true, false, false, false, false, false] rfl rfl (any_of HT_.out k1_) (fun _ _ _ h => h) (Or.inl ⟨by rfl, ?_⟩) ?_ ?_
                rotate_left
                ·intro w'
                 go_simp
                 with_reducible rfl
                rotate_left
                ·simp only [Act.put, List.setIfInBounds_toArray, List.set_cons_zero, List.set_cons_succ, i64_w, i32_w]
                 rfl
                refine pure_ (i := 5) (N := some 48) (v := ?_) (a' := ?_) #[true, true, true, false, true, true, false, false, false, false] rfl rfl (any_of HT_.out k1_) (fun _ _ _ h => h) (Or.inl ⟨by rfl, ?_⟩) ?_ ?_
                rotate_left
                ·intro w'
                 go_simp
                 with_reducible rfl
                rotate_left
                ·simp only [Act.put, List.setIfInBounds_toArray, List.set_cons_zero, List.set_cons_succ, i64_w, i32_w]
                 rfl
                refine take_ (i := 3) (N := some 46) (v := ?_) (a' := ?_) #[true, true, true, true, true, true, false, false, false, false] rfl rfl (take_ofW HT_.out HW_.out k1_) (fun _ _ _ h => h) (Or.inl ⟨by rfl, ?_⟩) hHeld ?_ ?_
                rotate_left
                ·intro w' _
                 go_simp
                 with_reducible rfl
                rotate_left
                ·simp only [Act.put, List.setIfInBounds_toArray, List.set_cons_zero, List.set_cons_succ, i64_w, i32_w]
                 rfl
                refine take_ (i := 6) (N := some 49) (v := ?_) (a' := ?_) #[true, true, true, true, true, true, true, false, false, false] rfl rfl (take_ofW HT_.out HW_.out k1_) (fun _ _ _ h => h) (Or.inl ⟨by rfl, ?_⟩) hHeld ?_ ?_
                rotate_left
                ·intro w' _
                 go_simp
                 with_reducible rfl
                rotate_left
                ·simp only [Act.put, List.setIfInBounds_toArray, List.set_cons_zero, List.set_cons_succ, i64_w, i32_w]
                 rfl
                refine one_ (i := 7) (N := some 50) #[true, true, true, true, true, true, true, true, false, false] rfl rfl (one_of HT_.out k1_) (by decide) (fun K hK => ?_)
                refine Kd.R_lit_step (Kd.int .u8) _ 5 ?hg (N := 50) ?hd (xs := ([92, 117, 48, 48, bt (⟨#[48, 49, 50, 51, 52, 53, 54, 55, 56, 57, 65, 66, 67, 68, 69, 70]⟩ : ByteArray) (ji27), bt (⟨#[48, 49, 50, 51, 52, 53, 54, 55, 56, 57, 65, 66, 67, 68, 69, 70]⟩ : ByteArray) (Go.bits .and .u8 (bt a0 x14_1) 15)] : List Int)) (inner := [.int .u8 92, .int .u8 117, .int .u8 48, .int .u8 48, .int .u8 (bt (⟨#[48, 49, 50, 51, 52, 53, 54, 55, 56, 57, 65, 66, 67, 68, 69, 70]⟩ : ByteArray) (ji27)), .int .u8 (bt (⟨#[48, 49, 50, 51, 52, 53, 54, 55, 56, 57, 65, 66, 67, 68, 69, 70]⟩ : ByteArray) (Go.bits .and .u8 (bt a0 x14_1) 15))]) (ok := fun _ => True) (okp := fun _ => True) ?hr ?hp (fun _ hk => hk) trivial (Below.refl _ _) (Nat.le_refl _) (by simp) ?_; (case hd => rfl); (case hg => rfl); (case hr => first | (go_simp; done) | (go_simp; rfl)); (case hp => exact (Reps.one (show Kd.M (Kd.int .u8) _ _ _ 92 [.int .u8 92] from rfl) (Reps.one (show Kd.M (Kd.int .u8) _ _ _ 117 [.int .u8 117] from rfl) (Reps.one (show Kd.M (Kd.int .u8) _ _ _ 48 [.int .u8 48] from rfl) (Reps.one (show Kd.M (Kd.int .u8) _ _ _ 48 [.int .u8 48] from rfl) (Reps.one (show Kd.M (Kd.int .u8) _ _ _ (bt (⟨#[48, 49, 50, 51, 52, 53, 54, 55, 56, 57, 65, 66, 67, 68, 69, 70]⟩ : ByteArray) (ji27)) [.int .u8 (bt (⟨#[48, 49, 50, 51, 52, 53, 54, 55, 56, 57, 65, 66, 67, 68, 69, 70]⟩ : ByteArray) (ji27))] from rfl) (Reps.one (show Kd.M (Kd.int .u8) _ _ _ (bt (⟨#[48, 49, 50, 51, 52, 53, 54, 55, 56, 57, 65, 66, 67, 68, 69, 70]⟩ : ByteArray) (Go.bits .and .u8 (bt a0 x14_1) 15)) [.int .u8 (bt (⟨#[48, 49, 50, 51, 52, 53, 54, 55, 56, 57, 65, 66, 67, 68, 69, 70]⟩ : ByteArray) (Go.bits .and .u8 (bt a0 x14_1) 15))] from rfl) (Reps.none _ _))))))))
                intro v273 w36 ho37 hb hg_ hnew_
                clear hg_ hnew_
                (first | rw [← Ny272.out] at ho37 | (simp only [Int.reduceToNat] at ho37; rw [← Ny272.out] at ho37))
                have n0_ := Aside0.mk (Kd.R_elder' (by have G0 := HO_4; exact z1_) (Kd.R_base ho37) hb)
                have n1_ := Aside0.mk (Kd.R_lower (Kd.R_new' ho37 (Kd.R_lt (by have G0 := HO_4; exact z1_))) (below_size b1_))
                have n2_ := Aside0.mk (below_step b1_ hb)
                clear HO_4
                clear HB
                have HO_4 := n0_
                have HO274 := n1_
                have HB := n2_
                clear n0_ n1_ n2_
                clear hb ho37
                obtain ⟨Ao39, co39, eo39⟩ := Kd.R_slice HO274.out
                (first | subst eo39 | (injection eo39 with f1_ f2_ f3_; have f4_ := f1_.symm; have f5_ := f3_.symm; clear f1_ f2_ f3_; subst f4_; subst f5_))
                refine hK.out _ _ trivial (fun hHeld => ?_)
                clear hK K
                refine norm_ (a' := ?_) ?_ ?_
                rotate_left
                ·show Act.put _ (some 50) _ = _
                 simp only [Act.put, List.setIfInBounds_toArray, List.set_cons_zero, List.set_cons_succ, i64_w, i32_w]
                 rfl
                refine one_ (i := 8) (N := some 51) #[true, true, true, true, true, true, true, true, true, false] rfl rfl (one_of HT_.out k1_) (by decide) (fun K hK => ?_)
                refine Kd.R_append_rows_step (Kd.int .u8) (w0 := w1) w1.heap.size (by rfl) (.tmp 43) (.tmp 50) 62 5 (.int .u8 0) 1 rfl Tryz.underlying62 info5 rfl (by decide) (by omega) u4 x4_1 y272 _ _ _ (fun k_ => some k_ ≠ (.slice Ao39 y272.length co39 : Value).ownBlock) (fun _ => False) rfl rfl ?aO ?aR (fun _ _ h => h) (fun _ h => h.elim) ?aF ?aB ?aS ?aL ?_
                (case aR => repeat (first | exact (Kd.R_reads' HO274.out).2.2 | (with_reducible refine Kd.C_alloc ?_ _) | (with_reducible refine Kd.C_drewN ?_ _) | (with_reducible refine Kd.C_drew ?_)))
                (case aB => exact b1_)
                (case aF => exact (fun k_ hk => Kd.fresh' (Kd.R_lt (by have G0 := HO274; exact z1_)) k_ hk))
                (case aO => exact (by have G0 := HO_4; exact z11_))
                (case aS => exact (below_size b1_))
                (case aL => have := LMc34.out; omega)
                intro v276 w38 ho hb hg hat
                rw [← Ny275.out] at ho
                have n0_ := Aside0.mk (Kd.R_after (ok := (fun _ => True)) (by have G0 := HO274; exact z1_) hg hat)
                have n1_ := Aside0.mk (hb)
                have n2_ := Aside0.mk (ho)
                clear HO274
                clear HB
                clear HO_4
                have HO274 := n0_
                have HB := n1_
                have HO277 := n2_
                clear n0_ n1_ n2_
                clear ho hb hg hat
                refine hK.out _ _ trivial (fun hHeld => ?_)
                clear hK K
                refine norm_ (a' := ?_) ?_ ?_
                rotate_left
                ·show Act.put _ (some 51) _ = _
                 simp only [Act.put, List.setIfInBounds_toArray, List.set_cons_zero, List.set_cons_succ, i64_w, i32_w]
                 rfl
                refine pure_ (i := 9) (N := some 4) (v := ?_) (a' := ?_) #[true, true, true, true, true, true, true, true, true, true] rfl rfl (any_of HT_.out k1_) (fun _ _ _ h => h) (Or.inl ⟨by rfl, ?_⟩) ?_ ?_
                rotate_left
                ·intro w'
                 go_simp
                 with_reducible rfl
                rotate_left
                ·simp only [Act.put, List.setIfInBounds_toArray, List.set_cons_zero, List.set_cons_succ, i64_w, i32_w]
                 rfl
                refine done_ (done_of HT_.out k1_) ?_
                try go_wp2
                go_roundg k1
                case measure => have := HK1.out; omega
                case rel => exact ⟨(y275), (wrap64 (x14_1 + 1)), e1_, H', ⟨by have := HK1.out; omega⟩, ⟨by have G0 := HO277; exact z15_⟩, ⟨b1_⟩⟩
               ·rw [if_neg c34] at H
                exact absurd H (by simp)
              ·rw [if_neg c32] at H
               exact absurd H (by simp)
             ·rw [if_neg c31] at H
              exact absurd H (by simp)
            ·rw [if_neg c29] at H
             exact absurd H (by simp)
           ·rw [if_neg c28] at H
            exact absurd H (by simp)
          ·rw [if_neg c26] at H
           have c26b0 : ((bt a0 x14_1) == 127) = false := beq_eq_false_iff_ne.mpr c26
           have c26b1 : ((bt a0 x14_1) != 127) = true := bne_iff_ne.mpr c26
           by_cases c40 : x4_1.length < 140737488355328
           ·rw [if_pos c40] at H
            have LMc40 := Aside0.mk c40
            clear c40
            obtain ⟨y278, hy278⟩ : ∃ y_ : List Int, y_ = (x4_1 ++ [bt a0 x14_1]) := ⟨_, rfl⟩
            replace H : (term_written.l0 k1 a0 y278 (a0.size : Int) (wrap64 (x14_1 + 1))) = some r := by first | (rw [hy278]; with_reducible exact H) | (have H2_ := (Option.bind_some _ _).symm.trans H; rw [hy278]; with_reducible exact H2_) | (have H2_ := (Option.bind_some _ _).symm.trans H; with_reducible exact H2_) | with_reducible exact H | (rw [hy278]; exact H) | exact H
            have Ny278 := Aside0.mk hy278
            clear hy278
            have H' := Aside0.mk H
            clear H
            have p7 : 0 ≤ (x14_1 : Int) := of_decide_eq_true a1_
            have q7 : x14_1 < (a0.size : Int) := of_decide_eq_true a1_
            have hx7 := bt_at a0 x14_1
            replace p7 := eq_true p7
            replace q7 := eq_true q7
            have p10 : 0 ≤ ((bt a0 x14_1) : Int) := of_decide_eq_true a1_
            have q10 : (bt a0 x14_1) < (256 : Int) := of_decide_eq_true a1_
            have hx10 := wshort_look wr w.heap.size (((HB.out).block w.heap.size hb_.out).trans hM_.out) (bt a0 x14_1) (bt_range _ _)
            replace p10 := eq_true p10
            replace q10 := eq_true q10
            go_wp2_with (first | ((with_reducible refine gate_builtin (b := .append) (xs := #[(.tmp 26), .tmp 28]) rfl ?_); at_builtin; refine Kd.R_append (Kd.int .u8) (w0 := w1) w1.heap.size rfl (.tmp 26) (.tmp 28) 62 5 (.int .u8 0) 1 rfl Tryz.underlying62 info5 rfl (by decide) (by omega) u4 x4_1 (bt a0 x14_1) [.int .u8 (bt a0 x14_1)] (fun _ => True) (fun _ => False) rfl rfl ?aP (fun _ hk => hk.elim) ?aF ?aO ?aB ?aS ?aL ?_; (case aP => exact rfl); (case aB => exact b1_); (case aF => exact (fun _ _ => trivial)); (case aO => exact (by have G0 := HO_4; exact z1_)); (case aS => exact (below_size b1_)); (case aL => have := LMc40.out; omega); intro v279 w41 ho hb hg hat; rw [← Ny278.out] at ho; have n0_ := Aside0.mk (hb); have n1_ := Aside0.mk (ho); clear HB; clear HO_4; have HB := n0_; have HO280 := n1_; clear n0_ n1_; clear ho hb hg hat))
            go_roundg k1
            case measure => have := HK1.out; omega
            case rel => exact ⟨(y278), (wrap64 (x14_1 + 1)), e1_, H', ⟨by have := HK1.out; omega⟩, ⟨by have G0 := HO280; exact z1_⟩, ⟨b1_⟩⟩
           ·rw [if_neg c40] at H
            exact absurd H (by simp)
        ·rw [if_neg c11] at H
         have c11b0 : ((bt wtab (bt a0 x14_1)) == 0) = false := beq_eq_false_iff_ne.mpr c11
         have c11b1 : ((bt wtab (bt a0 x14_1)) != 0) = true := bne_iff_ne.mpr c11
         obtain ⟨y281, hy281⟩ : ∃ y_ : List Int, y_ = (([92, bt wtab (bt a0 x14_1)] : List Int)) := ⟨_, rfl⟩
         replace H : (if x4_1.length + y281.length < 140737488355328 then (term_written.l0 k1 a0 (x4_1 ++ y281) (a0.size : Int) (wrap64 (x14_1 + 1))) else (none)) = some r := by first | (rw [hy281]; with_reducible exact H) | (have H2_ := (Option.bind_some _ _).symm.trans H; rw [hy281]; with_reducible exact H2_) | (have H2_ := (Option.bind_some _ _).symm.trans H; with_reducible exact H2_) | with_reducible exact H | (rw [hy281]; exact H) | exact H
         have Ny281 := Aside0.mk hy281
         clear hy281
         by_cases c42 : x4_1.length + y281.length < 140737488355328
         ·rw [if_pos c42] at H
          have LMc42 := Aside0.mk c42
          clear c42
          obtain ⟨y284, hy284⟩ : ∃ y_ : List Int, y_ = (x4_1 ++ y281) := ⟨_, rfl⟩
          replace H : (term_written.l0 k1 a0 y284 (a0.size : Int) (wrap64 (x14_1 + 1))) = some r := by first | (rw [hy284]; with_reducible exact H) | (have H2_ := (Option.bind_some _ _).symm.trans H; rw [hy284]; with_reducible exact H2_) | (have H2_ := (Option.bind_some _ _).symm.trans H; with_reducible exact H2_) | with_reducible exact H | (rw [hy284]; exact H) | exact H
          have Ny284 := Aside0.mk hy284
          clear hy284
          have H' := Aside0.mk H
          clear H
          have p7 : 0 ≤ (x14_1 : Int) := of_decide_eq_true a1_
          have q7 : x14_1 < (a0.size : Int) := of_decide_eq_true a1_
          have hx7 := bt_at a0 x14_1
          replace p7 := eq_true p7
          replace q7 := eq_true q7
          have p10 : 0 ≤ ((bt a0 x14_1) : Int) := of_decide_eq_true a1_
          have q10 : (bt a0 x14_1) < (256 : Int) := of_decide_eq_true a1_
          have hx10 := wshort_look wr w.heap.size (((HB.out).block w.heap.size hb_.out).trans hM_.out) (bt a0 x14_1) (bt_range _ _)
          replace p10 := eq_true p10
          replace q10 := eq_true q10
          go_wp2_with (first | ((with_reducible refine gate_dst (N := 34) rfl ?_); refine Kd.R_lit (Kd.int .u8) _ 5 ?hg (N := 34) ?hd (xs := ([92, bt wtab (bt a0 x14_1)] : List Int)) (inner := [.int .u8 92, .int .u8 (bt wtab (bt a0 x14_1))]) (ok := fun _ => True) (okp := fun _ => True) ?hr ?hp (fun _ hk => hk) trivial (Below.refl _ _) (Nat.le_refl _) (by simp) ?_; (case hd => rfl); (case hg => rfl); (case hr => first | (go_simp; done) | (go_simp; rfl)); (case hp => exact (Reps.one (show Kd.M (Kd.int .u8) _ _ _ 92 [.int .u8 92] from rfl) (Reps.one (show Kd.M (Kd.int .u8) _ _ _ (bt wtab (bt a0 x14_1)) [.int .u8 (bt wtab (bt a0 x14_1))] from rfl) (Reps.none _ _)))); intro v282 w43 ho44 hb hg_ hnew_; clear hg_ hnew_; (first | rw [← Ny281.out] at ho44 | (simp only [Int.reduceToNat] at ho44; rw [← Ny281.out] at ho44)); have HO283 := Aside0.mk (Kd.R_lower (Kd.R_new' ho44 (Kd.R_lt (by have G0 := HO_4; exact z1_))) (below_size b1_)); replace HO_4 := Aside0.mk (Kd.R_elder' (by have G0 := HO_4; exact z1_) (Kd.R_base ho44) hb); replace HB := Aside0.mk (below_step b1_ hb); clear hb ho44; obtain ⟨Ao46, co46, eo46⟩ := Kd.R_slice HO283.out; subst eo46) | ((with_reducible refine gate_builtin (b := .append) (xs := #[(.tmp 32), .tmp 34]) rfl ?_); at_builtin; refine Kd.R_append_rows (Kd.int .u8) (w0 := w1) w1.heap.size rfl (.tmp 32) (.tmp 34) 62 5 (.int .u8 0) 1 rfl Tryz.underlying62 info5 rfl (by decide) (by omega) u4 x4_1 y281 _ _ _ (fun k_ => some k_ ≠ (.slice Ao46 y281.length co46 : Value).ownBlock) (fun _ => False) rfl rfl ?aO ?aR (fun _ _ h => h) (fun _ h => h.elim) ?aF ?aB ?aS ?aL ?_; (case aR => repeat (first | exact (Kd.R_reads' HO283.out).2.2 | (with_reducible refine Kd.C_alloc ?_ _) | (with_reducible refine Kd.C_drewN ?_ _) | (with_reducible refine Kd.C_drew ?_))); (case aB => exact b1_); (case aF => exact (fun k_ hk => Kd.fresh' (Kd.R_lt (by have G0 := HO283; exact z1_)) k_ hk)); (case aO => exact (by have G0 := HO_4; exact z11_)); (case aS => exact (below_size b1_)); (case aL => have := LMc42.out; omega); intro v285 w45 ho hb hg hat; rw [← Ny284.out] at ho; have n0_ := Aside0.mk (Kd.R_after (ok := (fun _ => True)) (by have G0 := HO283; exact z1_) hg hat); have n1_ := Aside0.mk (hb); have n2_ := Aside0.mk (ho); clear HO283; clear HB; clear HO_4; have HO283 := n0_; have HB := n1_; have HO286 := n2_; clear n0_ n1_ n2_; clear ho hb hg hat))
          go_roundg k1
          case measure => have := HK1.out; omega
          case rel => exact ⟨(y284), (wrap64 (x14_1 + 1)), e1_, H', ⟨by have := HK1.out; omega⟩, ⟨by have G0 := HO286; exact z15_⟩, ⟨b1_⟩⟩
         ·rw [if_neg c42] at H
          exact absurd H (by simp)
       ·rw [if_neg c9] at H
        exact absurd H (by simp)
      ·rw [if_neg c8] at H
       exact absurd H (by simp)
     ·rw [if_neg c6] at H
      exact absurd H (by simp)
    ·rw [if_neg c5] at H
     exact absurd H (by simp)
   ·rw [if_neg c4] at H
    have c4b0 : decide (x14_1 < (a0.size : Int)) = false := decide_eq_false c4
    clear c4
    by_cases c47 : x4_1.length < 140737488355328
    ·rw [if_pos c47] at H
     have LMc47 := Aside0.mk c47
     clear c47
     obtain ⟨y263, hy263⟩ : ∃ y_ : List Int, y_ = (x4_1 ++ [34]) := ⟨_, rfl⟩
     replace H : (some (strOfNums y263)) = some r := by first | (rw [hy263]; with_reducible exact H) | (have H2_ := (Option.bind_some _ _).symm.trans H; rw [hy263]; with_reducible exact H2_) | (have H2_ := (Option.bind_some _ _).symm.trans H; with_reducible exact H2_) | with_reducible exact H | (rw [hy263]; exact H) | exact H
     have Ny263 := Aside0.mk hy263
     clear hy263
     obtain rfl := Option.some.inj H
     go_wp2_with (first | ((with_reducible refine gate_builtin (b := .append) (xs := #[(.tmp 53), .tmp 54]) rfl ?_); at_builtin; refine Kd.R_append (Kd.int .u8) (w0 := w1) w1.heap.size rfl (.tmp 53) (.tmp 54) 62 5 (.int .u8 0) 1 rfl Tryz.underlying62 info5 rfl (by decide) (by omega) u4 x4_1 34 [.int .u8 34] (fun _ => True) (fun _ => False) rfl rfl ?aP (fun _ hk => hk.elim) ?aF ?aO ?aB ?aS ?aL ?_; (case aP => exact rfl); (case aB => exact b1_); (case aF => exact (fun _ _ => trivial)); (case aO => exact (by have G0 := HO_4; exact z1_)); (case aS => exact (below_size b1_)); (case aL => have := LMc47.out; omega); intro v264 w48 ho hb hg hat; rw [← Ny263.out] at ho; have n0_ := Aside0.mk (hb); have n1_ := Aside0.mk (ho); clear HB; clear HO_4; have HB := n0_; have HO265 := n1_; clear n0_ n1_; clear ho hb hg hat; have hcv49 := own_string (P := Tryz.prog) Tryz.underlying62 Tryz.underlying5 Tryz.underlying9 (Kd.own_of_R HO265.out)))
     go_ret
     exact ⟨e2_, hend_ b1_⟩
    ·rw [if_neg c47] at H
     exact absurd H (by simp)
end Go.Proofs.YtjnhdamilbcmpaaGreatDoor.PWrit

import Derived.Test.YtjnhdamilbcmpaaDoorCuPTmx0
import Derived.Test.YtjnhdamilbcmpaaDoorCuPTmx3
namespace Go.Proofs.YtjnhdamilbcmpaaDoor.PTm
open Go.RowKit Go.Proofs.YtjnhdamilbcmpaaDoorW.PrintWords Go.Proofs.YtjnhdamilbcmpaaDoorW.PrintLast Go.Proofs.YtjnhdamilbcmpaaDoorW.PrintMore
attribute [local go_sem] max2_int min2_int max_two min_two max_three min_three max_four min_four
set_option linter.unusedVariables false
set_option linter.unusedSimpArgs false
set_option maxHeartbeats 8000000
set_option maxRecDepth 100000
def wtab : ByteArray := ⟨#[0, 0, 0, 0, 0, 0, 0, 0, 98, 116, 110, 0, 102, 114, 0, 0, 0, 0, 0, 0, 0, 0, 0, 0, 0, 0, 0, 0, 0, 0, 0, 0, 0, 0, 34, 0, 0, 0, 0, 0, 0, 0, 0, 0, 0, 0, 0, 0, 0, 0, 0, 0, 0, 0, 0, 0, 0, 0, 0, 0, 0, 0, 0, 0, 0, 0, 0, 0, 0, 0, 0, 0, 0, 0, 0, 0, 0, 0, 0, 0, 0, 0, 0, 0, 0, 0, 0, 0, 0, 0, 0, 0, 92, 0, 0, 0, 0, 0, 0, 0, 0, 0, 0, 0, 0, 0, 0, 0, 0, 0, 0, 0, 0, 0, 0, 0, 0, 0, 0, 0, 0, 0, 0, 0, 0, 0, 0, 0, 0, 0, 0, 0, 0, 0, 0, 0, 0, 0, 0, 0, 0, 0, 0, 0, 0, 0, 0, 0, 0, 0, 0, 0, 0, 0, 0, 0, 0, 0, 0, 0, 0, 0, 0, 0, 0, 0, 0, 0, 0, 0, 0, 0, 0, 0, 0, 0, 0, 0, 0, 0, 0, 0, 0, 0, 0, 0, 0, 0, 0, 0, 0, 0, 0, 0, 0, 0, 0, 0, 0, 0, 0, 0, 0, 0, 0, 0, 0, 0, 0, 0, 0, 0, 0, 0, 0, 0, 0, 0, 0, 0, 0, 0, 0, 0, 0, 0, 0, 0, 0, 0, 0, 0, 0, 0, 0, 0, 0, 0, 0, 0, 0, 0, 0, 0, 0, 0, 0, 0, 0, 0, 0, 0, 0, 0, 0, 0]⟩
def wshort : Array MapEntry := #[⟨.int .u8 34, .int .u8 34, 0⟩, ⟨.int .u8 92, .int .u8 92, 1⟩, ⟨.int .u8 8, .int .u8 98, 2⟩, ⟨.int .u8 9, .int .u8 116, 3⟩, ⟨.int .u8 10, .int .u8 110, 4⟩, ⟨.int .u8 12, .int .u8 102, 5⟩, ⟨.int .u8 13, .int .u8 114, 6⟩]
theorem wtab_none (c : Nat) (h : c < 256) (h34 : c ≠ 34) (h92 : c ≠ 92) (h8 : c ≠ 8) (h9 : c ≠ 9) (h10 : c ≠ 10) (h12 : c ≠ 12) (h13 : c ≠ 13) : bt wtab c = 0 := by
 have h1 := List.all_eq_true.mp (show (List.range 256).all (fun c => c == 34 || c == 92 || c == 8 || c == 9 || c == 10 || c == 12 || c == 13 || bt wtab c == 0) = true by decide +kernel) c (List.mem_range.mpr h)
 simpa [h34, h92, h8, h9, h10, h12, h13] using h1
theorem wshort_look (w : World) (b : Nat) (hm : w.heap[b]? = some (.map wshort 7)) (c : Int) (hc : 0 ≤ c ∧ c ≤ 255) : (Instr.lookup 89 (.map (some b)) (.int .u8 c) true).run Tryd.prog w = .ok (.tuple #[.int .u8 (bt wtab c), .bool (bt wtab c != 0)]) w := by
 by_cases h34 : c = 34
 ·subst h34
  rw [show bt wtab 34 = 34 by decide +kernel]
  exact (run_look Tryd.underlying89 Tryd.underlying5 w hm 34 (v := .int .u8 34) (by unfold wshort; rfl)).2
 by_cases h92 : c = 92
 ·subst h92
  rw [show bt wtab 92 = 92 by decide +kernel]
  exact (run_look Tryd.underlying89 Tryd.underlying5 w hm 92 (v := .int .u8 92) (by unfold wshort; rfl)).2
 by_cases h8 : c = 8
 ·subst h8
  rw [show bt wtab 8 = 98 by decide +kernel]
  exact (run_look Tryd.underlying89 Tryd.underlying5 w hm 8 (v := .int .u8 98) (by unfold wshort; rfl)).2
 by_cases h9 : c = 9
 ·subst h9
  rw [show bt wtab 9 = 116 by decide +kernel]
  exact (run_look Tryd.underlying89 Tryd.underlying5 w hm 9 (v := .int .u8 116) (by unfold wshort; rfl)).2
 by_cases h10 : c = 10
 ·subst h10
  rw [show bt wtab 10 = 110 by decide +kernel]
  exact (run_look Tryd.underlying89 Tryd.underlying5 w hm 10 (v := .int .u8 110) (by unfold wshort; rfl)).2
 by_cases h12 : c = 12
 ·subst h12
  rw [show bt wtab 12 = 102 by decide +kernel]
  exact (run_look Tryd.underlying89 Tryd.underlying5 w hm 12 (v := .int .u8 102) (by unfold wshort; rfl)).2
 by_cases h13 : c = 13
 ·subst h13
  rw [show bt wtab 13 = 114 by decide +kernel]
  exact (run_look Tryd.underlying89 Tryd.underlying5 w hm 13 (v := .int .u8 114) (by unfold wshort; rfl)).2
 obtain ⟨n, rfl⟩ := Int.eq_ofNat_of_zero_le hc.1
 have h0 := wtab_none n (by omega) (by omega) (by omega) (by omega) (by omega) (by omega) (by omega) (by omega)
 rw [h0]
 refine (run_look_none Tryd.underlying89 Tryd.underlying5 w hm n (z := .int .u8 0) (Tryd.zeroValue5 w) ?_).2
 unfold wshort
 simp only [findNow_cons]
 rw [if_neg h34]
 rw [if_neg h92]
 rw [if_neg h8]
 rw [if_neg h9]
 rw [if_neg h10]
 rw [if_neg h12]
 rw [if_neg h13]
 rfl
def term_written.l0 : Nat → ByteArray → List Int → Int → Int → Option (ByteArray)
 | 0, _, _, _, _ => none
 | k + 1, x0, x4, x13, x14 => if x14 < x13 then (if 0 ≤ x14 then (if x14 < (x0.size : Int) then (if 0 ≤ (bt x0 x14) then (if (bt x0 x14) < 256 then (if (bt wtab (bt x0 x14)) = 0 then (if (bt x0 x14) < 32 then (if 0 ≤ ((bt x0 x14) / 16) then (if ((bt x0 x14) / 16) < 16 then (if 0 ≤ (Go.bits .and .u8 (bt x0 x14) 15) then (if (Go.bits .and .u8 (bt x0 x14) 15) < 16 then ((some (([92, 117, 48, 48, bt (⟨#[48, 49, 50, 51, 52, 53, 54, 55, 56, 57, 65, 66, 67, 68, 69, 70]⟩ : ByteArray) ((bt x0 x14) / 16), bt (⟨#[48, 49, 50, 51, 52, 53, 54, 55, 56, 57, 65, 66, 67, 68, 69, 70]⟩ : ByteArray) (Go.bits .and .u8 (bt x0 x14) 15)] : List Int) : List Int)).bind fun y305 => (if x4.length + y305.length < 140737488355328 then (term_written.l0 k x0 (x4 ++ y305) x13 (wrap64 (x14 + 1))) else (none))) else (none)) else (none)) else (none)) else (none)) else (if (bt x0 x14) = 127 then (if 0 ≤ ((bt x0 x14) / 16) then (if ((bt x0 x14) / 16) < 16 then (if 0 ≤ (Go.bits .and .u8 (bt x0 x14) 15) then (if (Go.bits .and .u8 (bt x0 x14) 15) < 16 then ((some (([92, 117, 48, 48, bt (⟨#[48, 49, 50, 51, 52, 53, 54, 55, 56, 57, 65, 66, 67, 68, 69, 70]⟩ : ByteArray) ((bt x0 x14) / 16), bt (⟨#[48, 49, 50, 51, 52, 53, 54, 55, 56, 57, 65, 66, 67, 68, 69, 70]⟩ : ByteArray) (Go.bits .and .u8 (bt x0 x14) 15)] : List Int) : List Int)).bind fun y311 => (if x4.length + y311.length < 140737488355328 then (term_written.l0 k x0 (x4 ++ y311) x13 (wrap64 (x14 + 1))) else (none))) else (none)) else (none)) else (none)) else (none)) else (if x4.length < 140737488355328 then (term_written.l0 k x0 (x4 ++ [bt x0 x14]) x13 (wrap64 (x14 + 1))) else (none)))) else ((some (([92, bt wtab (bt x0 x14)] : List Int) : List Int)).bind fun y320 => (if x4.length + y320.length < 140737488355328 then (term_written.l0 k x0 (x4 ++ y320) x13 (wrap64 (x14 + 1))) else (none)))) else (none)) else (none)) else (none)) else (none)) else (if x4.length < 140737488355328 then (some (strOfNums (x4 ++ [34]))) else (none))
def term_written.f (k : Nat) (a0 : ByteArray) : Option (ByteArray) := term_written.l0 k a0 (([34] : List Int)) (a0.size : Int) 0
def term_written.T12 : Bool × List (List Nat × List Nat) := (true, [([], []), ([], []), ([1], [1]), ([2], [2]), ([], []), ([4], [4]), ([5], [5]), ([3, 6], [3, 6]), ([0, 7], [0, 7]), ([8, 8, 0, 1, 2, 3, 4, 5, 6, 7, 8], [0, 8])])
def term_written.B12 : List Nat := [0, 0, 2, 6, 0, 16, 48, 126, 255, 511]
theorem term_written.tab12 : rtab .any (opsOf Tryd.f30 12) = term_written.T12 := by kernel_rfl
theorem term_written.bits12 : waitsOk term_written.T12.2 term_written.B12 = true := by kernel_rfl
theorem term_written.calls (k : Nat) (a0 : ByteArray) (r : ByteArray) (w : World) (h : term_written.f k a0 = some r) :
  Calls Tryd.prog 30 #[.string a0] w fun e w' => e = .returned (.string r) ∧ Below w.heap.size w w' := by
 have H := h
 clear h
 unfold term_written.f at H
 generalize hy299 : (([34] : List Int)) = y299 at H
 replace hy299 := hy299.symm
 have Ny299 := Ad.mk hy299
 clear hy299
 have H' := Ad.mk H
 clear H
 go_enter Tryd.func30, Tryd.ntmps30
 have hmm := @run_makeMap Tryd.prog
 have pu0 := run_put_new Tryd.underlying89 Tryd.underlying5 w #[] 0 34 (.int .u8 34) rfl
 have pu1 := run_put_new Tryd.underlying89 Tryd.underlying5 w #[⟨.int .u8 34, .int .u8 34, 0⟩] 1 92 (.int .u8 92) rfl
 have pu2 := run_put_new Tryd.underlying89 Tryd.underlying5 w #[⟨.int .u8 34, .int .u8 34, 0⟩, ⟨.int .u8 92, .int .u8 92, 1⟩] 2 8 (.int .u8 98) rfl
 have pu3 := run_put_new Tryd.underlying89 Tryd.underlying5 w #[⟨.int .u8 34, .int .u8 34, 0⟩, ⟨.int .u8 92, .int .u8 92, 1⟩, ⟨.int .u8 8, .int .u8 98, 2⟩] 3 9 (.int .u8 116) rfl
 have pu4 := run_put_new Tryd.underlying89 Tryd.underlying5 w #[⟨.int .u8 34, .int .u8 34, 0⟩, ⟨.int .u8 92, .int .u8 92, 1⟩, ⟨.int .u8 8, .int .u8 98, 2⟩, ⟨.int .u8 9, .int .u8 116, 3⟩] 4 10 (.int .u8 110) rfl
 have pu5 := run_put_new Tryd.underlying89 Tryd.underlying5 w #[⟨.int .u8 34, .int .u8 34, 0⟩, ⟨.int .u8 92, .int .u8 92, 1⟩, ⟨.int .u8 8, .int .u8 98, 2⟩, ⟨.int .u8 9, .int .u8 116, 3⟩, ⟨.int .u8 10, .int .u8 110, 4⟩] 5 12 (.int .u8 102) rfl
 have pu6 := run_put_new Tryd.underlying89 Tryd.underlying5 w #[⟨.int .u8 34, .int .u8 34, 0⟩, ⟨.int .u8 92, .int .u8 92, 1⟩, ⟨.int .u8 8, .int .u8 98, 2⟩, ⟨.int .u8 9, .int .u8 116, 3⟩, ⟨.int .u8 10, .int .u8 110, 4⟩, ⟨.int .u8 12, .int .u8 102, 5⟩] 6 13 (.int .u8 114) rfl
 simp only [List.push_toArray, List.nil_append, List.cons_append] at pu0 pu1 pu2 pu3 pu4 pu5 pu6
 go_upto_region 2 with (fail)
 clear hmm pu0 pu1 pu2 pu3 pu4 pu5 pu6
 obtain ⟨w1, hw1⟩ : ∃ w1 : World, w1 = w.alloc (.map #[⟨.int .u8 34, .int .u8 34, 0⟩, ⟨.int .u8 92, .int .u8 92, 1⟩, ⟨.int .u8 8, .int .u8 98, 2⟩, ⟨.int .u8 9, .int .u8 116, 3⟩, ⟨.int .u8 10, .int .u8 110, 4⟩, ⟨.int .u8 12, .int .u8 102, 5⟩, ⟨.int .u8 13, .int .u8 114, 6⟩] 7) := ⟨_, rfl⟩
 rw [← hw1]
 have HB0 : Below w.heap.size w w1 := by rw [hw1]; exact (Below.refl _ w).alloc (Nat.le_refl _) _
 have hM_ : Ad (w1.heap[w.heap.size]? = some (.map wshort 7)) := ⟨by rw [hw1]; exact World.alloc_heap_new w _⟩
 have hb_ : Ad (w.heap.size < w1.heap.size) := ⟨by rw [hw1]; simp⟩
 clear hw1
 have hend_ : ∀ {W : World}, Below w1.heap.size w1 W → Below w.heap.size w W := fun h_ => below_then HB0 HB0.size h_
 clear HB0
 have HB := Ad.mk (Below.refl w1.heap.size w1)
 go_wp2_with (first | ((with_reducible refine gate_dst (N := 11) rfl ?_); refine Kd.R_lit (Kd.int .u8) _ 5 r1_ (N := 11) r1_ (xs := ([34] : List Int)) (inner := [.int .u8 34]) (ok := fun _ => True) (okp := fun _ => True) r2_ ?hp (fun _ hk => hk) trivial (Below.refl _ _) (Nat.le_refl _) (by simp) ?_; (case hp => exact (Reps.one (show Kd.M (Kd.int .u8) _ _ _ 34 [.int .u8 34] from rfl) (Reps.none _ _))); intro v300 w2 ho3 hb hg_ hnew_; clear hg_ hnew_; (first | rw [← Ny299.out] at ho3 | (simp only [Int.reduceToNat] at ho3; rw [← Ny299.out] at ho3)); have HO301 := Ad.mk (Kd.R_lower ho3 (below_size b1_)); replace HB := Ad.mk (below_step b1_ hb); clear hb ho3))
 go_loopg [4, 14] k (fun kq v4 v14 w' => ∃ (x4_1 : List Int) (x14_1 : Int), v14 = .int .i64 x14_1 ∧ Ad (term_written.l0 kq a0 x4_1 (a0.size : Int) x14_1 = some r) ∧ Ad (kq ≤ k) ∧ Ad (Kd.R (Kd.int .u8) 5 w' w1.heap.size (fun _ => True) v4 x4_1) ∧ Ad (Below w1.heap.size w1 w'))
 case atStart => exact ⟨(y299), (0), e1_, H', ⟨Nat.le_refl _⟩, ⟨by have G0 := HO301; exact z1_⟩, ⟨b1_⟩⟩
 case round =>
  clear H'
  try clear p2
  try clear c3
  obtain ⟨x4_1, x14_1, rfl, HA, HK1, HO_4, HB⟩ := hrel
  cases gk with
  | zero => exact absurd HA.out (by simp [term_written.l0])
  | succ k1 =>
   have H := HA.out
   clear HA
   simp only [term_written.l0] at H
   by_cases c4 : x14_1 < (a0.size : Int)
   ·rw [if_pos c4] at H
    have c4b0 := decide_eq_true c4
    clear c4
    by_cases c5 : 0 ≤ x14_1
    ·rw [if_pos c5] at H
     have c5b0 := decide_eq_true c5
     clear c5
     by_cases c6 : x14_1 < (a0.size : Int)
     ·rw [if_pos c6] at H
      have c6b0 := decide_eq_true c6
      clear c6
      by_cases c8 : 0 ≤ (bt a0 x14_1)
      ·rw [if_pos c8] at H
       have c8b0 := decide_eq_true c8
       clear c8
       by_cases c9 : (bt a0 x14_1) < 256
       ·rw [if_pos c9] at H
        have c9b0 := decide_eq_true c9
        clear c9
        by_cases c11 : (bt wtab (bt a0 x14_1)) = 0
        ·rw [if_pos c11] at H
         have c11b0 := beq_iff_eq.mpr c11
         have c11b1 := bne_eq_false_iff_eq.mpr c11
         clear c11
         by_cases c12 : (bt a0 x14_1) < 32
         ·rw [if_pos c12] at H
          have c12b0 := decide_eq_true c12
          clear c12
          obtain ⟨ji13, hji13⟩ : ∃ j_ : Int, ((bt a0 x14_1) / 16) = j_ := ⟨_, rfl⟩
          replace H : (if 0 ≤ (ji13) then (if (ji13) < 16 then (if 0 ≤ (Go.bits .and .u8 (bt a0 x14_1) 15) then (if (Go.bits .and .u8 (bt a0 x14_1) 15) < 16 then ((some (([92, 117, 48, 48, bt (⟨#[48, 49, 50, 51, 52, 53, 54, 55, 56, 57, 65, 66, 67, 68, 69, 70]⟩ : ByteArray) (ji13), bt (⟨#[48, 49, 50, 51, 52, 53, 54, 55, 56, 57, 65, 66, 67, 68, 69, 70]⟩ : ByteArray) (Go.bits .and .u8 (bt a0 x14_1) 15)] : List Int) : List Int)).bind fun y305 => (if x4_1.length + y305.length < 140737488355328 then (term_written.l0 k1 a0 (x4_1 ++ y305) (a0.size : Int) (wrap64 (x14_1 + 1))) else (none))) else (none)) else (none)) else (none)) else (none)) = some r := by first | (rw [hji13] at H; exact H) | (simp only [hji13] at H ⊢; exact H)
          by_cases c14 : 0 ≤ (ji13)
          ·rw [if_pos c14] at H
           have c14b0 := decide_eq_true c14
           clear c14
           by_cases c15 : (ji13) < 16
           ·rw [if_pos c15] at H
            have c15b0 := decide_eq_true c15
            clear c15
            by_cases c17 : 0 ≤ (Go.bits .and .u8 (bt a0 x14_1) 15)
            ·rw [if_pos c17] at H
             have c17b0 := decide_eq_true c17
             clear c17
             by_cases c18 : (Go.bits .and .u8 (bt a0 x14_1) 15) < 16
             ·rw [if_pos c18] at H
              have c18b0 := decide_eq_true c18
              clear c18
              replace H := yb_ H
              obtain ⟨y305, hy305, H⟩ := H
              have Ny305 := Ad.mk hy305
              clear hy305
              by_cases c20 : x4_1.length + y305.length < 140737488355328
              ·rw [if_pos c20] at H
               have LMc20 := Ad.mk c20
               clear c20
               generalize hy308 : (x4_1 ++ y305) = y308 at H
               replace hy308 := hy308.symm
               have Ny308 := Ad.mk hy308
               clear hy308
               have H' := Ad.mk H
               clear H
               have p7 : 0 ≤ (x14_1 : Int) := of_decide_eq_true a1_
               have q7 : x14_1 < (a0.size : Int) := of_decide_eq_true a1_
               have hx7 := bt_at a0 x14_1
               replace p7 := eq_true p7
               replace q7 := eq_true q7
               have p10 : 0 ≤ ((bt a0 x14_1) : Int) := of_decide_eq_true a1_
               have q10 : (bt a0 x14_1) < (256 : Int) := of_decide_eq_true a1_
               have hx10 := wshort_look wr w.heap.size (((HB.out).block w.heap.size hb_.out).trans hM_.out) (bt a0 x14_1) (bt_range _ _)
               replace p10 := eq_true p10
               replace q10 := eq_true q10
               try go_wp2
               have n0_ := Ad.mk (Kd.R_drew HO_4.out)
               have n1_ := Ad.mk (below_drew1 HB.out)
               clear HO_4
               clear HB
               have HO_4 := n0_
               have HB := n1_
               clear n0_ n1_
               have p16 : 0 ≤ ((ji13) : Int) := of_decide_eq_true a1_
               have q16 : (ji13) < (16 : Int) := of_decide_eq_true a1_
               have hx16 := bt_at (⟨#[48, 49, 50, 51, 52, 53, 54, 55, 56, 57, 65, 66, 67, 68, 69, 70]⟩ : ByteArray) (ji13)
               replace p16 := eq_true p16
               replace q16 := eq_true q16
               have p19 : 0 ≤ ((Go.bits .and .u8 (bt a0 x14_1) 15) : Int) := of_decide_eq_true a1_
               have q19 : (Go.bits .and .u8 (bt a0 x14_1) 15) < (16 : Int) := of_decide_eq_true a1_
               have hx19 := bt_at (⟨#[48, 49, 50, 51, 52, 53, 54, 55, 56, 57, 65, 66, 67, 68, 69, 70]⟩ : ByteArray) (Go.bits .and .u8 (bt a0 x14_1) 15)
               replace p19 := eq_true p19
               replace q19 := eq_true q19
               refine start_ (n := 10) (S := fun w' => True) (ds := []) #[false, false, false, false, false, false, false, false, false, false] k1_ rfl rfl trivial (fun hHeld => ?_); refine with_tabW term_written.tab12 term_written.bits12 (fun HT_ HW_ => ?_)
               generalize wr.drew = w21 at HO_4 HB hHeld ⊢
               refine pure_ (i := 0) (N := some 43) #[true, false, false, false, false, false, false, false, false, false] rfl rfl (any_of HT_.out k1_) (fun _ _ _ h => h) (Or.inl ⟨by rfl, py_⟩) pa_ ?_
               refine pure_ (i := 1) (N := some 44) #[true, true, false, false, false, false, false, false, false, false] rfl rfl (any_of HT_.out k1_) (fun _ _ _ h => h) (Or.inl ⟨by rfl, py_⟩) pa_ ?_
               refine pure_ (i := 2) (N := some 45) #[true, true, true, false, false, false, false, false, false, false] rfl rfl (any_of HT_.out k1_) (fun _ _ _ h => h) (Or.inl ⟨by rfl, py_⟩) pa_ ?_
               refine pure_ (i := 4) (N := some 47) #[true, true, true, false, true, false, false, false, false, false] rfl rfl (any_of HT_.out k1_) (fun _ _ _ h => h) (Or.inl ⟨by rfl, py_⟩) pa_ ?_
               refine pure_ (i := 5) (N := some 48) #[true, true, true, false, true, true, false, false, false, false] rfl rfl (any_of HT_.out k1_) (fun _ _ _ h => h) (Or.inl ⟨by rfl, py_⟩) pa_ ?_
               refine take_ (i := 3) (N := some 46) (v := ?_) (a' := ?_) #[true, true, true, true, true, true, false, false, false, false] rfl rfl (take_ofW HT_.out HW_.out k1_) (fun _ _ _ h => h) (Or.inl ⟨by rfl, ?_⟩) hHeld ?_ ?_
               rotate_left
               ·intro w' _
                go_simp
                with_reducible rfl
               rotate_left
               ·simp only [Act.put, List.setIfInBounds_toArray, List.set_cons_zero, List.set_cons_succ, i64_w, i32_w]
                rfl
               refine take_ (i := 6) (N := some 49) (v := ?_) (a' := ?_) #[true, true, true, true, true, true, true, false, false, false] rfl rfl (take_ofW HT_.out HW_.out k1_) (fun _ _ _ h => h) (Or.inl ⟨by rfl, ?_⟩) hHeld ?_ ?_
               rotate_left
               ·intro w' _
                go_simp
                with_reducible rfl
               rotate_left
               ·simp only [Act.put, List.setIfInBounds_toArray, List.set_cons_zero, List.set_cons_succ, i64_w, i32_w]
                rfl
               refine one_ (i := 7) (N := some 50) #[true, true, true, true, true, true, true, true, false, false] rfl rfl (one_of HT_.out k1_) (by decide) (fun K hK => ?_)
               refine Kd.R_lit_step (Kd.int .u8) _ 5 ?hg (N := 50) ?hd (xs := ([92, 117, 48, 48, bt (⟨#[48, 49, 50, 51, 52, 53, 54, 55, 56, 57, 65, 66, 67, 68, 69, 70]⟩ : ByteArray) (ji13), bt (⟨#[48, 49, 50, 51, 52, 53, 54, 55, 56, 57, 65, 66, 67, 68, 69, 70]⟩ : ByteArray) (Go.bits .and .u8 (bt a0 x14_1) 15)] : List Int)) (inner := [.int .u8 92, .int .u8 117, .int .u8 48, .int .u8 48, .int .u8 (bt (⟨#[48, 49, 50, 51, 52, 53, 54, 55, 56, 57, 65, 66, 67, 68, 69, 70]⟩ : ByteArray) (ji13)), .int .u8 (bt (⟨#[48, 49, 50, 51, 52, 53, 54, 55, 56, 57, 65, 66, 67, 68, 69, 70]⟩ : ByteArray) (Go.bits .and .u8 (bt a0 x14_1) 15))]) (ok := fun _ => True) (okp := fun _ => True) ?hr ?hp (fun _ hk => hk) trivial (Below.refl _ _) (Nat.le_refl _) (by simp) ?_; (case hd => rfl); (case hg => rfl); (case hr => first | (go_simp; done) | (go_simp; rfl)); (case hp => exact (Reps.one (show Kd.M (Kd.int .u8) _ _ _ 92 [.int .u8 92] from rfl) (Reps.one (show Kd.M (Kd.int .u8) _ _ _ 117 [.int .u8 117] from rfl) (Reps.one (show Kd.M (Kd.int .u8) _ _ _ 48 [.int .u8 48] from rfl) (Reps.one (show Kd.M (Kd.int .u8) _ _ _ 48 [.int .u8 48] from rfl) (Reps.one (show Kd.M (Kd.int .u8) _ _ _ (bt (⟨#[48, 49, 50, 51, 52, 53, 54, 55, 56, 57, 65, 66, 67, 68, 69, 70]⟩ : ByteArray) (ji13)) [.int .u8 (bt (⟨#[48, 49, 50, 51, 52, 53, 54, 55, 56, 57, 65, 66, 67, 68, 69, 70]⟩ : ByteArray) (ji13))] from rfl) (Reps.one (show Kd.M (Kd.int .u8) _ _ _ (bt (⟨#[48, 49, 50, 51, 52, 53, 54, 55, 56, 57, 65, 66, 67, 68, 69, 70]⟩ : ByteArray) (Go.bits .and .u8 (bt a0 x14_1) 15)) [.int .u8 (bt (⟨#[48, 49, 50, 51, 52, 53, 54, 55, 56, 57, 65, 66, 67, 68, 69, 70]⟩ : ByteArray) (Go.bits .and .u8 (bt a0 x14_1) 15))] from rfl) (Reps.none _ _))))))))
               intro v306 w22 ho23 hb hg_ hnew_
               clear hg_ hnew_
               (first | rw [← Ny305.out] at ho23 | (simp only [Int.reduceToNat] at ho23; rw [← Ny305.out] at ho23))
               have n0_ := Ad.mk (Kd.R_elder' (by have G0 := HO_4; exact z1_) (Kd.R_base ho23) hb)
               have n1_ := Ad.mk (Kd.R_lower (Kd.R_new' ho23 (Kd.R_lt (by have G0 := HO_4; exact z1_))) (below_size b1_))
               have n2_ := Ad.mk (below_step b1_ hb)
               clear HO_4
               clear HB
               have HO_4 := n0_
               have HO307 := n1_
               have HB := n2_
               clear n0_ n1_ n2_
               clear hb ho23
               obtain ⟨Ao25, co25, eo25⟩ := Kd.R_slice HO307.out
               (first | subst eo25 | (injection eo25 with f1_ f2_ f3_; have f4_ := f1_.symm; have f5_ := f3_.symm; clear f1_ f2_ f3_; subst f4_; subst f5_))
               refine hK.out _ _ trivial (fun hHeld => ?_)
               clear hK K
               refine norm_ (a' := ?_) ?_ ?_
               rotate_left
               ·show Act.put _ (some 50) _ = _
                simp only [Act.put, List.setIfInBounds_toArray, List.set_cons_zero, List.set_cons_succ, i64_w, i32_w]
                rfl
               refine one_ (i := 8) (N := some 51) #[true, true, true, true, true, true, true, true, true, false] rfl rfl (one_of HT_.out k1_) (by decide) (fun K hK => ?_)
               refine Kd.R_append_rows_step (Kd.int .u8) (w0 := w1) w1.heap.size (by rfl) (.tmp 43) (.tmp 50) 40 5 (.int .u8 0) 1 rfl Tryd.underlying40 info5 rfl (by decide) (by omega) u4 x4_1 y305 _ _ _ (fun k_ => some k_ ≠ (.slice Ao25 y305.length co25 : Value).ownBlock) (fun _ => False) rfl rfl ?aO ?aR (fun _ _ h => h) (fun _ h => h.elim) ?aF ?aB ?aS ?aL ?_
               (case aR => repeat (first | exact (Kd.R_reads' HO307.out).2.2 | (with_reducible refine Kd.C_alloc ?_ _) | (with_reducible refine Kd.C_drewN ?_ _) | (with_reducible refine Kd.C_drew ?_)))
               (case aB => exact b1_)
               (case aF => exact (fun k_ hk => Kd.fresh' (Kd.R_lt (by have G0 := HO307; exact z1_)) k_ hk))
               (case aO => exact (by have G0 := HO_4; exact z23_))
               (case aS => exact (below_size b1_))
               (case aL => have := LMc20.out; omega)
               intro v309 w24 ho hb hg hat
               rw [← Ny308.out] at ho
               have n0_ := Ad.mk (Kd.R_after (ok := (fun _ => True)) (by have G0 := HO307; exact z1_) hg hat)
               have n1_ := Ad.mk (hb)
               have n2_ := Ad.mk (ho)
               clear HO307
               clear HB
               clear HO_4
               have HO307 := n0_
               have HB := n1_
               have HO310 := n2_
               clear n0_ n1_ n2_
               clear ho hb hg hat
               refine hK.out _ _ trivial (fun hHeld => ?_)
               clear hK K
               refine norm_ (a' := ?_) ?_ ?_
               rotate_left
               ·show Act.put _ (some 51) _ = _
                simp only [Act.put, List.setIfInBounds_toArray, List.set_cons_zero, List.set_cons_succ, i64_w, i32_w]
                rfl
               refine pure_ (i := 9) (N := some 4) #[true, true, true, true, true, true, true, true, true, true] rfl rfl (any_of HT_.out k1_) (fun _ _ _ h => h) (Or.inl ⟨by rfl, py_⟩) pa_ ?_
               refine done_ (done_of HT_.out k1_) ?_
               try go_wp2
               go_roundg k1
               case measure => have := HK1.out; omega
               case rel => exact ⟨(y308), (wrap64 (x14_1 + 1)), e1_, H', ⟨by have := HK1.out; omega⟩, ⟨by have G0 := HO310; exact z24_⟩, ⟨b1_⟩⟩
              rw [if_neg c20] at H
              exact absurd H (by simp)
             rw [if_neg c18] at H
             exact absurd H (by simp)
            rw [if_neg c17] at H
            exact absurd H (by simp)
           rw [if_neg c15] at H
           exact absurd H (by simp)
          rw [if_neg c14] at H
          exact absurd H (by simp)
         rw [if_neg c12] at H
         have c12b0 := decide_eq_false c12
         clear c12
         by_cases c26 : (bt a0 x14_1) = 127
         ·rw [if_pos c26] at H
          have c26b0 := beq_iff_eq.mpr c26
          have c26b1 := bne_eq_false_iff_eq.mpr c26
          clear c26
          obtain ⟨ji27, hji27⟩ : ∃ j_ : Int, ((bt a0 x14_1) / 16) = j_ := ⟨_, rfl⟩
          replace H : (if 0 ≤ (ji27) then (if (ji27) < 16 then (if 0 ≤ (Go.bits .and .u8 (bt a0 x14_1) 15) then (if (Go.bits .and .u8 (bt a0 x14_1) 15) < 16 then ((some (([92, 117, 48, 48, bt (⟨#[48, 49, 50, 51, 52, 53, 54, 55, 56, 57, 65, 66, 67, 68, 69, 70]⟩ : ByteArray) (ji27), bt (⟨#[48, 49, 50, 51, 52, 53, 54, 55, 56, 57, 65, 66, 67, 68, 69, 70]⟩ : ByteArray) (Go.bits .and .u8 (bt a0 x14_1) 15)] : List Int) : List Int)).bind fun y311 => (if x4_1.length + y311.length < 140737488355328 then (term_written.l0 k1 a0 (x4_1 ++ y311) (a0.size : Int) (wrap64 (x14_1 + 1))) else (none))) else (none)) else (none)) else (none)) else (none)) = some r := by first | (rw [hji27] at H; exact H) | (simp only [hji27] at H ⊢; exact H)
          by_cases c28 : 0 ≤ (ji27)
          ·rw [if_pos c28] at H
           have c28b0 := decide_eq_true c28
           clear c28
           by_cases c29 : (ji27) < 16
           ·rw [if_pos c29] at H
            have c29b0 := decide_eq_true c29
            clear c29
            by_cases c31 : 0 ≤ (Go.bits .and .u8 (bt a0 x14_1) 15)
            ·rw [if_pos c31] at H
             have c31b0 := decide_eq_true c31
             clear c31
             by_cases c32 : (Go.bits .and .u8 (bt a0 x14_1) 15) < 16
             ·rw [if_pos c32] at H
              have c32b0 := decide_eq_true c32
              clear c32
              replace H := yb_ H
              obtain ⟨y311, hy311, H⟩ := H
              have Ny311 := Ad.mk hy311
              clear hy311
              by_cases c34 : x4_1.length + y311.length < 140737488355328
              ·rw [if_pos c34] at H
               have LMc34 := Ad.mk c34
               clear c34
               generalize hy314 : (x4_1 ++ y311) = y314 at H
               replace hy314 := hy314.symm
               have Ny314 := Ad.mk hy314
               clear hy314
               have H' := Ad.mk H
               clear H
               have p7 : 0 ≤ (x14_1 : Int) := of_decide_eq_true a1_
               have q7 : x14_1 < (a0.size : Int) := of_decide_eq_true a1_
               have hx7 := bt_at a0 x14_1
               replace p7 := eq_true p7
               replace q7 := eq_true q7
               have p10 : 0 ≤ ((bt a0 x14_1) : Int) := of_decide_eq_true a1_
               have q10 : (bt a0 x14_1) < (256 : Int) := of_decide_eq_true a1_
               have hx10 := wshort_look wr w.heap.size (((HB.out).block w.heap.size hb_.out).trans hM_.out) (bt a0 x14_1) (bt_range _ _)
               replace p10 := eq_true p10
               replace q10 := eq_true q10
               try go_wp2
               have n0_ := Ad.mk (Kd.R_drew HO_4.out)
               have n1_ := Ad.mk (below_drew1 HB.out)
               clear HO_4
               clear HB
               have HO_4 := n0_
               have HB := n1_
               clear n0_ n1_
               have p30 : 0 ≤ ((ji27) : Int) := of_decide_eq_true a1_
               have q30 : (ji27) < (16 : Int) := of_decide_eq_true a1_
               have hx30 := bt_at (⟨#[48, 49, 50, 51, 52, 53, 54, 55, 56, 57, 65, 66, 67, 68, 69, 70]⟩ : ByteArray) (ji27)
               replace p30 := eq_true p30
               replace q30 := eq_true q30
               have p33 : 0 ≤ ((Go.bits .and .u8 (bt a0 x14_1) 15) : Int) := of_decide_eq_true a1_
               have q33 : (Go.bits .and .u8 (bt a0 x14_1) 15) < (16 : Int) := of_decide_eq_true a1_
               have hx33 := bt_at (⟨#[48, 49, 50, 51, 52, 53, 54, 55, 56, 57, 65, 66, 67, 68, 69, 70]⟩ : ByteArray) (Go.bits .and .u8 (bt a0 x14_1) 15)
               replace p33 := eq_true p33
               replace q33 := eq_true q33
               refine start_ (n := 10) (S := fun w' => True) (ds := []) #[false, false, false, false, false, false, false, false, false, false] k1_ rfl rfl trivial (fun hHeld => ?_); refine with_tabW term_written.tab12 term_written.bits12 (fun HT_ HW_ => ?_)
               generalize wr.drew = w35 at HO_4 HB hHeld ⊢
               refine pure_ (i := 0) (N := some 43) #[true, false, false, false, false, false, false, false, false, false] rfl rfl (any_of HT_.out k1_) (fun _ _ _ h => h) (Or.inl ⟨by rfl, py_⟩) pa_ ?_
               refine pure_ (i := 1) (N := some 44) #[true, true, false, false, false, false, false, false, false, false] rfl rfl (any_of HT_.out k1_) (fun _ _ _ h => h) (Or.inl ⟨by rfl, py_⟩) pa_ ?_
               refine pure_ (i := 2) (N := some 45) #[true, true, true, false, false, false, false, false, false, false] rfl rfl (any_of HT_.out k1_) (fun _ _ _ h => h) (Or.inl ⟨by rfl, py_⟩) pa_ ?_
               refine pure_ (i := 4) (N := some 47) #[true, true, true, false, true, false, false, false, false, false] rfl rfl (any_of HT_.out k1_) (fun _ _ _ h => h) (Or.inl ⟨by rfl, py_⟩) pa_ ?_
               refine pure_ (i := 5) (N := some 48) #[true, true, true, false, true, true, false, false, false, false] rfl rfl (any_of HT_.out k1_) (fun _ _ _ h => h) (Or.inl ⟨by rfl, py_⟩) pa_ ?_
               refine take_ (i := 3) (N := some 46) (v := ?_) (a' := ?_) #[true, true, true, true, true, true, false, false, false, false] rfl rfl (take_ofW HT_.out HW_.out k1_) (fun _ _ _ h => h) (Or.inl ⟨by rfl, ?_⟩) hHeld ?_ ?_
               rotate_left
               ·intro w' _
                go_simp
                with_reducible rfl
               rotate_left
               ·simp only [Act.put, List.setIfInBounds_toArray, List.set_cons_zero, List.set_cons_succ, i64_w, i32_w]
                rfl
               refine take_ (i := 6) (N := some 49) (v := ?_) (a' := ?_) #[true, true, true, true, true, true, true, false, false, false] rfl rfl (take_ofW HT_.out HW_.out k1_) (fun _ _ _ h => h) (Or.inl ⟨by rfl, ?_⟩) hHeld ?_ ?_
               rotate_left
               ·intro w' _
                go_simp
                with_reducible rfl
               rotate_left
               ·simp only [Act.put, List.setIfInBounds_toArray, List.set_cons_zero, List.set_cons_succ, i64_w, i32_w]
                rfl
               refine one_ (i := 7) (N := some 50) #[true, true, true, true, true, true, true, true, false, false] rfl rfl (one_of HT_.out k1_) (by decide) (fun K hK => ?_)
               refine Kd.R_lit_step (Kd.int .u8) _ 5 ?hg (N := 50) ?hd (xs := ([92, 117, 48, 48, bt (⟨#[48, 49, 50, 51, 52, 53, 54, 55, 56, 57, 65, 66, 67, 68, 69, 70]⟩ : ByteArray) (ji27), bt (⟨#[48, 49, 50, 51, 52, 53, 54, 55, 56, 57, 65, 66, 67, 68, 69, 70]⟩ : ByteArray) (Go.bits .and .u8 (bt a0 x14_1) 15)] : List Int)) (inner := [.int .u8 92, .int .u8 117, .int .u8 48, .int .u8 48, .int .u8 (bt (⟨#[48, 49, 50, 51, 52, 53, 54, 55, 56, 57, 65, 66, 67, 68, 69, 70]⟩ : ByteArray) (ji27)), .int .u8 (bt (⟨#[48, 49, 50, 51, 52, 53, 54, 55, 56, 57, 65, 66, 67, 68, 69, 70]⟩ : ByteArray) (Go.bits .and .u8 (bt a0 x14_1) 15))]) (ok := fun _ => True) (okp := fun _ => True) ?hr ?hp (fun _ hk => hk) trivial (Below.refl _ _) (Nat.le_refl _) (by simp) ?_; (case hd => rfl); (case hg => rfl); (case hr => first | (go_simp; done) | (go_simp; rfl)); (case hp => exact (Reps.one (show Kd.M (Kd.int .u8) _ _ _ 92 [.int .u8 92] from rfl) (Reps.one (show Kd.M (Kd.int .u8) _ _ _ 117 [.int .u8 117] from rfl) (Reps.one (show Kd.M (Kd.int .u8) _ _ _ 48 [.int .u8 48] from rfl) (Reps.one (show Kd.M (Kd.int .u8) _ _ _ 48 [.int .u8 48] from rfl) (Reps.one (show Kd.M (Kd.int .u8) _ _ _ (bt (⟨#[48, 49, 50, 51, 52, 53, 54, 55, 56, 57, 65, 66, 67, 68, 69, 70]⟩ : ByteArray) (ji27)) [.int .u8 (bt (⟨#[48, 49, 50, 51, 52, 53, 54, 55, 56, 57, 65, 66, 67, 68, 69, 70]⟩ : ByteArray) (ji27))] from rfl) (Reps.one (show Kd.M (Kd.int .u8) _ _ _ (bt (⟨#[48, 49, 50, 51, 52, 53, 54, 55, 56, 57, 65, 66, 67, 68, 69, 70]⟩ : ByteArray) (Go.bits .and .u8 (bt a0 x14_1) 15)) [.int .u8 (bt (⟨#[48, 49, 50, 51, 52, 53, 54, 55, 56, 57, 65, 66, 67, 68, 69, 70]⟩ : ByteArray) (Go.bits .and .u8 (bt a0 x14_1) 15))] from rfl) (Reps.none _ _))))))))
               intro v312 w36 ho37 hb hg_ hnew_
               clear hg_ hnew_
               (first | rw [← Ny311.out] at ho37 | (simp only [Int.reduceToNat] at ho37; rw [← Ny311.out] at ho37))
               have n0_ := Ad.mk (Kd.R_elder' (by have G0 := HO_4; exact z1_) (Kd.R_base ho37) hb)
               have n1_ := Ad.mk (Kd.R_lower (Kd.R_new' ho37 (Kd.R_lt (by have G0 := HO_4; exact z1_))) (below_size b1_))
               have n2_ := Ad.mk (below_step b1_ hb)
               clear HO_4
               clear HB
               have HO_4 := n0_
               have HO313 := n1_
               have HB := n2_
               clear n0_ n1_ n2_
               clear hb ho37
               obtain ⟨Ao39, co39, eo39⟩ := Kd.R_slice HO313.out
               (first | subst eo39 | (injection eo39 with f1_ f2_ f3_; have f4_ := f1_.symm; have f5_ := f3_.symm; clear f1_ f2_ f3_; subst f4_; subst f5_))
               refine hK.out _ _ trivial (fun hHeld => ?_)
               clear hK K
               refine norm_ (a' := ?_) ?_ ?_
               rotate_left
               ·show Act.put _ (some 50) _ = _
                simp only [Act.put, List.setIfInBounds_toArray, List.set_cons_zero, List.set_cons_succ, i64_w, i32_w]
                rfl
               refine one_ (i := 8) (N := some 51) #[true, true, true, true, true, true, true, true, true, false] rfl rfl (one_of HT_.out k1_) (by decide) (fun K hK => ?_)
               refine Kd.R_append_rows_step (Kd.int .u8) (w0 := w1) w1.heap.size (by rfl) (.tmp 43) (.tmp 50) 40 5 (.int .u8 0) 1 rfl Tryd.underlying40 info5 rfl (by decide) (by omega) u4 x4_1 y311 _ _ _ (fun k_ => some k_ ≠ (.slice Ao39 y311.length co39 : Value).ownBlock) (fun _ => False) rfl rfl ?aO ?aR (fun _ _ h => h) (fun _ h => h.elim) ?aF ?aB ?aS ?aL ?_
               (case aR => repeat (first | exact (Kd.R_reads' HO313.out).2.2 | (with_reducible refine Kd.C_alloc ?_ _) | (with_reducible refine Kd.C_drewN ?_ _) | (with_reducible refine Kd.C_drew ?_)))
               (case aB => exact b1_)
               (case aF => exact (fun k_ hk => Kd.fresh' (Kd.R_lt (by have G0 := HO313; exact z1_)) k_ hk))
               (case aO => exact (by have G0 := HO_4; exact z23_))
               (case aS => exact (below_size b1_))
               (case aL => have := LMc34.out; omega)
               intro v315 w38 ho hb hg hat
               rw [← Ny314.out] at ho
               have n0_ := Ad.mk (Kd.R_after (ok := (fun _ => True)) (by have G0 := HO313; exact z1_) hg hat)
               have n1_ := Ad.mk (hb)
               have n2_ := Ad.mk (ho)
               clear HO313
               clear HB
               clear HO_4
               have HO313 := n0_
               have HB := n1_
               have HO316 := n2_
               clear n0_ n1_ n2_
               clear ho hb hg hat
               refine hK.out _ _ trivial (fun hHeld => ?_)
               clear hK K
               refine norm_ (a' := ?_) ?_ ?_
               rotate_left
               ·show Act.put _ (some 51) _ = _
                simp only [Act.put, List.setIfInBounds_toArray, List.set_cons_zero, List.set_cons_succ, i64_w, i32_w]
                rfl
               refine pure_ (i := 9) (N := some 4) #[true, true, true, true, true, true, true, true, true, true] rfl rfl (any_of HT_.out k1_) (fun _ _ _ h => h) (Or.inl ⟨by rfl, py_⟩) pa_ ?_
               refine done_ (done_of HT_.out k1_) ?_
               try go_wp2
               go_roundg k1
               case measure => have := HK1.out; omega
               case rel => exact ⟨(y314), (wrap64 (x14_1 + 1)), e1_, H', ⟨by have := HK1.out; omega⟩, ⟨by have G0 := HO316; exact z24_⟩, ⟨b1_⟩⟩
              rw [if_neg c34] at H
              exact absurd H (by simp)
             rw [if_neg c32] at H
             exact absurd H (by simp)
            rw [if_neg c31] at H
            exact absurd H (by simp)
           rw [if_neg c29] at H
           exact absurd H (by simp)
          rw [if_neg c28] at H
          exact absurd H (by simp)
         rw [if_neg c26] at H
         have c26b0 := beq_eq_false_iff_ne.mpr c26
         have c26b1 := bne_iff_ne.mpr c26
         by_cases c40 : x4_1.length < 140737488355328
         ·rw [if_pos c40] at H
          have LMc40 := Ad.mk c40
          clear c40
          generalize hy317 : (x4_1 ++ [bt a0 x14_1]) = y317 at H
          replace hy317 := hy317.symm
          have Ny317 := Ad.mk hy317
          clear hy317
          have H' := Ad.mk H
          clear H
          have p7 : 0 ≤ (x14_1 : Int) := of_decide_eq_true a1_
          have q7 : x14_1 < (a0.size : Int) := of_decide_eq_true a1_
          have hx7 := bt_at a0 x14_1
          replace p7 := eq_true p7
          replace q7 := eq_true q7
          have p10 : 0 ≤ ((bt a0 x14_1) : Int) := of_decide_eq_true a1_
          have q10 : (bt a0 x14_1) < (256 : Int) := of_decide_eq_true a1_
          have hx10 := wshort_look wr w.heap.size (((HB.out).block w.heap.size hb_.out).trans hM_.out) (bt a0 x14_1) (bt_range _ _)
          replace p10 := eq_true p10
          replace q10 := eq_true q10
          go_wp2_with (first | ((with_reducible refine gate_builtin (b := .append) (xs := #[(.tmp 26), .tmp 28]) rfl ?_); at_builtin; refine Kd.R_append (Kd.int .u8) (w0 := w1) w1.heap.size rfl (.tmp 26) (.tmp 28) 40 5 (.int .u8 0) 1 rfl Tryd.underlying40 info5 rfl (by decide) (by omega) u4 x4_1 (bt a0 x14_1) [.int .u8 (bt a0 x14_1)] (fun _ => True) (fun _ => False) rfl rfl ?aP (fun _ hk => hk.elim) ?aF ?aO ?aB ?aS ?aL ?_; (case aP => exact rfl); (case aB => exact b1_); (case aF => exact (fun _ _ => trivial)); (case aO => exact (by have G0 := HO_4; exact z1_)); (case aS => exact (below_size b1_)); (case aL => have := LMc40.out; omega); intro v318 w41 ho hb hg hat; rw [← Ny317.out] at ho; have n0_ := Ad.mk (hb); have n1_ := Ad.mk (ho); clear HB; clear HO_4; have HB := n0_; have HO319 := n1_; clear n0_ n1_; clear ho hb hg hat))
          go_roundg k1
          case measure => have := HK1.out; omega
          case rel => exact ⟨(y317), (wrap64 (x14_1 + 1)), e1_, H', ⟨by have := HK1.out; omega⟩, ⟨by have G0 := HO319; exact z1_⟩, ⟨b1_⟩⟩
         rw [if_neg c40] at H
         exact absurd H (by simp)
        rw [if_neg c11] at H
        have c11b0 := beq_eq_false_iff_ne.mpr c11
        have c11b1 := bne_iff_ne.mpr c11
        replace H := yb_ H
        obtain ⟨y320, hy320, H⟩ := H
        have Ny320 := Ad.mk hy320
        clear hy320
        by_cases c42 : x4_1.length + y320.length < 140737488355328
        ·rw [if_pos c42] at H
         have LMc42 := Ad.mk c42
         clear c42
         generalize hy323 : (x4_1 ++ y320) = y323 at H
         replace hy323 := hy323.symm
         have Ny323 := Ad.mk hy323
         clear hy323
         have H' := Ad.mk H
         clear H
         have p7 : 0 ≤ (x14_1 : Int) := of_decide_eq_true a1_
         have q7 : x14_1 < (a0.size : Int) := of_decide_eq_true a1_
         have hx7 := bt_at a0 x14_1
         replace p7 := eq_true p7
         replace q7 := eq_true q7
         have p10 : 0 ≤ ((bt a0 x14_1) : Int) := of_decide_eq_true a1_
         have q10 : (bt a0 x14_1) < (256 : Int) := of_decide_eq_true a1_
         have hx10 := wshort_look wr w.heap.size (((HB.out).block w.heap.size hb_.out).trans hM_.out) (bt a0 x14_1) (bt_range _ _)
         replace p10 := eq_true p10
         replace q10 := eq_true q10
         go_wp2_with (first | ((with_reducible refine gate_dst (N := 34) rfl ?_); refine Kd.R_lit (Kd.int .u8) _ 5 r1_ (N := 34) r1_ (xs := ([92, bt wtab (bt a0 x14_1)] : List Int)) (inner := [.int .u8 92, .int .u8 (bt wtab (bt a0 x14_1))]) (ok := fun _ => True) (okp := fun _ => True) r2_ ?hp (fun _ hk => hk) trivial (Below.refl _ _) (Nat.le_refl _) (by simp) ?_; (case hp => exact (Reps.one (show Kd.M (Kd.int .u8) _ _ _ 92 [.int .u8 92] from rfl) (Reps.one (show Kd.M (Kd.int .u8) _ _ _ (bt wtab (bt a0 x14_1)) [.int .u8 (bt wtab (bt a0 x14_1))] from rfl) (Reps.none _ _)))); intro v321 w43 ho44 hb hg_ hnew_; clear hg_ hnew_; (first | rw [← Ny320.out] at ho44 | (simp only [Int.reduceToNat] at ho44; rw [← Ny320.out] at ho44)); have HO322 := Ad.mk (Kd.R_lower (Kd.R_new' ho44 (Kd.R_lt (by have G0 := HO_4; exact z1_))) (below_size b1_)); replace HO_4 := Ad.mk (Kd.R_elder' (by have G0 := HO_4; exact z1_) (Kd.R_base ho44) hb); replace HB := Ad.mk (below_step b1_ hb); clear hb ho44; obtain ⟨Ao46, co46, eo46⟩ := Kd.R_slice HO322.out; subst eo46) | ((with_reducible refine gate_builtin (b := .append) (xs := #[(.tmp 32), .tmp 34]) rfl ?_); at_builtin; refine Kd.R_append_rows (Kd.int .u8) (w0 := w1) w1.heap.size rfl (.tmp 32) (.tmp 34) 40 5 (.int .u8 0) 1 rfl Tryd.underlying40 info5 rfl (by decide) (by omega) u4 x4_1 y320 _ _ _ (fun k_ => some k_ ≠ (.slice Ao46 y320.length co46 : Value).ownBlock) (fun _ => False) rfl rfl ?aO ?aR (fun _ _ h => h) (fun _ h => h.elim) ?aF ?aB ?aS ?aL ?_; (case aR => repeat (first | exact (Kd.R_reads' HO322.out).2.2 | (with_reducible refine Kd.C_alloc ?_ _) | (with_reducible refine Kd.C_drewN ?_ _) | (with_reducible refine Kd.C_drew ?_))); (case aB => exact b1_); (case aF => exact (fun k_ hk => Kd.fresh' (Kd.R_lt (by have G0 := HO322; exact z1_)) k_ hk)); (case aO => exact (by have G0 := HO_4; exact z23_)); (case aS => exact (below_size b1_)); (case aL => have := LMc42.out; omega); intro v324 w45 ho hb hg hat; rw [← Ny323.out] at ho; have n0_ := Ad.mk (Kd.R_after (ok := (fun _ => True)) (by have G0 := HO322; exact z1_) hg hat); have n1_ := Ad.mk (hb); have n2_ := Ad.mk (ho); clear HO322; clear HB; clear HO_4; have HO322 := n0_; have HB := n1_; have HO325 := n2_; clear n0_ n1_ n2_; clear ho hb hg hat))
         go_roundg k1
         case measure => have := HK1.out; omega
         case rel => exact ⟨(y323), (wrap64 (x14_1 + 1)), e1_, H', ⟨by have := HK1.out; omega⟩, ⟨by have G0 := HO325; exact z24_⟩, ⟨b1_⟩⟩
        rw [if_neg c42] at H
        exact absurd H (by simp)
       rw [if_neg c9] at H
       exact absurd H (by simp)
      rw [if_neg c8] at H
      exact absurd H (by simp)
     rw [if_neg c6] at H
     exact absurd H (by simp)
    rw [if_neg c5] at H
    exact absurd H (by simp)
   rw [if_neg c4] at H
   have c4b0 := decide_eq_false c4
   clear c4
   by_cases c47 : x4_1.length < 140737488355328
   ·rw [if_pos c47] at H
    have LMc47 := Ad.mk c47
    clear c47
    generalize hy302 : (x4_1 ++ [34]) = y302 at H
    replace hy302 := hy302.symm
    have Ny302 := Ad.mk hy302
    clear hy302
    obtain rfl := Option.some.inj H
    go_wp2_with (first | ((with_reducible refine gate_builtin (b := .append) (xs := #[(.tmp 53), .tmp 54]) rfl ?_); at_builtin; refine Kd.R_append (Kd.int .u8) (w0 := w1) w1.heap.size rfl (.tmp 53) (.tmp 54) 40 5 (.int .u8 0) 1 rfl Tryd.underlying40 info5 rfl (by decide) (by omega) u4 x4_1 34 [.int .u8 34] (fun _ => True) (fun _ => False) rfl rfl ?aP (fun _ hk => hk.elim) ?aF ?aO ?aB ?aS ?aL ?_; (case aP => exact rfl); (case aB => exact b1_); (case aF => exact (fun _ _ => trivial)); (case aO => exact (by have G0 := HO_4; exact z1_)); (case aS => exact (below_size b1_)); (case aL => have := LMc47.out; omega); intro v303 w48 ho hb hg hat; rw [← Ny302.out] at ho; have n0_ := Ad.mk (hb); have n1_ := Ad.mk (ho); clear HB; clear HO_4; have HB := n0_; have HO304 := n1_; clear n0_ n1_; clear ho hb hg hat; have hcv49 := own_string (P := Tryd.prog) Tryd.underlying40 Tryd.underlying5 Tryd.underlying9 (Kd.own_of_R HO304.out)))
    go_ret
    exact ⟨e2_, hend_ b1_⟩
   rw [if_neg c47] at H
   exact absurd H (by simp)
end Go.Proofs.YtjnhdamilbcmpaaDoor.PTm

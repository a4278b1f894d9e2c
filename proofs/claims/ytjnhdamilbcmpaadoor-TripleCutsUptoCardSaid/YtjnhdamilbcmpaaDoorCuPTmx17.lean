import Derived.Test.YtjnhdamilbcmpaaDoorCuPTmx0
import Derived.Test.YtjnhdamilbcmpaaDoorCuPTmx2
import Derived.Test.YtjnhdamilbcmpaaDoorCuPTmx12
import Derived.Test.YtjnhdamilbcmpaaDoorCuPTmx14
import Derived.Test.YtjnhdamilbcmpaaDoorCuPTmx16
namespace Go.Proofs.YtjnhdamilbcmpaaDoor.PTm
open Go.RowKit Go.Proofs.YtjnhdamilbcmpaaDoorW.PrintWords Go.Proofs.YtjnhdamilbcmpaaDoorW.PrintLast Go.Proofs.YtjnhdamilbcmpaaDoorW.PrintMore
attribute [local go_sem] max2_int min2_int max_two min_two max_three min_three max_four min_four
set_option linter.unusedVariables false
set_option linter.unusedSimpArgs false
set_option maxHeartbeats 8000000
set_option maxRecDepth 100000
attribute [local go_sem high] eqA38
def w5_same.l0 : Nat → List (S38) → List (S38) → Int → Option (Bool)
 | 0, _, _, _ => none
 | k + 1, x0, x1, x5 => if x5 < (x0.length : Int) then (if 0 ≤ x5 then (if x5 < (x1.length : Int) then (if ((!(((rd_T38 x0 x5).f0.f0) == ((rd_T38 x1 x5).f0.f0)) || (!((((rd_T38 x0 x5).f0.f1).toList) == (((rd_T38 x1 x5).f0.f1).toList)) || (!((((rd_T38 x0 x5).f0.f2).toList) == (((rd_T38 x1 x5).f0.f2).toList))))) || ((!(((rd_T38 x0 x5).f1.f0) == ((rd_T38 x1 x5).f1.f0)) || (!((((rd_T38 x0 x5).f1.f1).toList) == (((rd_T38 x1 x5).f1.f1).toList)) || (!((((rd_T38 x0 x5).f1.f2).toList) == (((rd_T38 x1 x5).f1.f2).toList))))) || ((!(((rd_T38 x0 x5).f2.f0) == ((rd_T38 x1 x5).f2.f0)) || (!((((rd_T38 x0 x5).f2.f1).toList) == (((rd_T38 x1 x5).f2.f1).toList)) || (!((((rd_T38 x0 x5).f2.f2).toList) == (((rd_T38 x1 x5).f2.f2).toList)))))))) = true then (some false) else (w5_same.l0 k x0 x1 (wrap64 (x5 + 1)))) else (none)) else (none)) else (some true)
def w5_same.f (k : Nat) (l0 : List (S38)) (l1 : List (S38)) : Option (Bool) := if (l0.length : Int) = (l1.length : Int) then (w5_same.l0 k l0 l1 0) else (some false)
theorem w5_same.calls (k : Nat) (A0 : Option Addr) (c0 : Nat) (l0 : List (S38)) (A1 : Option Addr) (c1 : Nat) (l1 : List (S38)) (r : Bool) (w : World) (hr0 : Kd.C k38 w A0 l0.length l0) (hc0 : l0.length ≤ c0) (hr1 : Kd.C k38 w A1 l1.length l1) (hc1 : l1.length ≤ c1) (h : w5_same.f k l0 l1 = some r) :
  Calls Tryd.prog 10 #[.slice A0 l0.length c0, .slice A1 l1.length c1] w fun e w' => e = .returned (.bool r) ∧ Drawn0 w w' := by
 have hu38 := Tryd.underlying38
 have HR0 := Ad.mk hr0
 have HC0 := Ad.mk hc0
 clear hr0 hc0
 have HR1 := Ad.mk hr1
 have HC1 := Ad.mk hc1
 clear hr1 hc1
 have H := h
 clear h
 unfold w5_same.f at H
 by_cases c3 : (l0.length : Int) = (l1.length : Int)
 ·rw [if_pos c3] at H
  have c3b0 := beq_iff_eq.mpr c3
  have c3b1 := bne_eq_false_iff_eq.mpr c3
  have c3b2 : (l0.length == l1.length) = true := by first | simpa using c3 | (simp at c3 ⊢; omega)
  clear c3
  have H' := Ad.mk H
  clear H
  go_enter Tryd.func10, Tryd.ntmps10
  go_wp2
  repeat (go_quiet (fail); try go_wp2)
  go_loopg [5] k (fun kq v5 w' => ∃ (x5_1 : Int), v5 = .int .i64 x5_1 ∧ Ad (w5_same.l0 kq l0 l1 x5_1 = some r) ∧ Ad (kq ≤ k) ∧ Drawn0 w w')
  case atStart => exact ⟨(0), e1_, H', ⟨Nat.le_refl _⟩, z5_⟩
  case round =>
   clear H'
   try clear c1
   try clear p2
   try clear c3
   try clear c3b0
   try clear c3b1
   try clear c3b2
   obtain ⟨x5_1, rfl, HA, HK1, ⟨m1, rfl⟩⟩ := hrel
   cases gk with
   | zero => exact absurd HA.out (by simp [w5_same.l0])
   | succ k1 =>
    have H := HA.out
    clear HA
    simp only [w5_same.l0] at H
    by_cases c4 : x5_1 < (l0.length : Int)
    ·rw [if_pos c4] at H
     have c4b0 := decide_eq_true c4
     clear c4
     by_cases c5 : 0 ≤ x5_1
     ·rw [if_pos c5] at H
      have c5b0 := decide_eq_true c5
      clear c5
      by_cases c6 : x5_1 < (l1.length : Int)
      ·rw [if_pos c6] at H
       have c6b0 := decide_eq_true c6
       clear c6
       by_cases c7 : ((!(((rd_T38 l0 x5_1).f0.f0) == ((rd_T38 l1 x5_1).f0.f0)) || (!((((rd_T38 l0 x5_1).f0.f1).toList) == (((rd_T38 l1 x5_1).f0.f1).toList)) || (!((((rd_T38 l0 x5_1).f0.f2).toList) == (((rd_T38 l1 x5_1).f0.f2).toList))))) || ((!(((rd_T38 l0 x5_1).f1.f0) == ((rd_T38 l1 x5_1).f1.f0)) || (!((((rd_T38 l0 x5_1).f1.f1).toList) == (((rd_T38 l1 x5_1).f1.f1).toList)) || (!((((rd_T38 l0 x5_1).f1.f2).toList) == (((rd_T38 l1 x5_1).f1.f2).toList))))) || ((!(((rd_T38 l0 x5_1).f2.f0) == ((rd_T38 l1 x5_1).f2.f0)) || (!((((rd_T38 l0 x5_1).f2.f1).toList) == (((rd_T38 l1 x5_1).f2.f1).toList)) || (!((((rd_T38 l0 x5_1).f2.f2).toList) == (((rd_T38 l1 x5_1).f2.f2).toList)))))))) = true
       ·rw [if_pos c7] at H
        have c7b0 : ((!(((rd_T38 l0 x5_1).f0.f0) == ((rd_T38 l1 x5_1).f0.f0)) || (!((((rd_T38 l0 x5_1).f0.f1).toList) == (((rd_T38 l1 x5_1).f0.f1).toList)) || (!((((rd_T38 l0 x5_1).f0.f2).toList) == (((rd_T38 l1 x5_1).f0.f2).toList))))) || ((!(((rd_T38 l0 x5_1).f1.f0) == ((rd_T38 l1 x5_1).f1.f0)) || (!((((rd_T38 l0 x5_1).f1.f1).toList) == (((rd_T38 l1 x5_1).f1.f1).toList)) || (!((((rd_T38 l0 x5_1).f1.f2).toList) == (((rd_T38 l1 x5_1).f1.f2).toList))))) || ((!(((rd_T38 l0 x5_1).f2.f0) == ((rd_T38 l1 x5_1).f2.f0)) || (!((((rd_T38 l0 x5_1).f2.f1).toList) == (((rd_T38 l1 x5_1).f2.f1).toList)) || (!((((rd_T38 l0 x5_1).f2.f2).toList) == (((rd_T38 l1 x5_1).f2.f2).toList)))))))) = true := c7
        clear c7
        obtain rfl := Option.some.inj H
        have p335 : 0 ≤ (x5_1 : Int) := of_decide_eq_true a1_
        have q335 : x5_1 < (l0.length : Int) := of_decide_eq_true a1_
        obtain ⟨ad335, e335, hx335_0, hx335_1, hx335_2, hx335_3, hx335_4, hx335_5, hx335_6, hx335_7, hx335_8⟩ := at_T38 HR0.out x5_1 p335 q335
        cases e335
        replace p335 := eq_true p335
        replace q335 := eq_true q335
        have p336 : 0 ≤ (x5_1 : Int) := of_decide_eq_true a1_
        have q336 : x5_1 < (l1.length : Int) := of_decide_eq_true a1_
        obtain ⟨ad336, e336, hx336_0, hx336_1, hx336_2, hx336_3, hx336_4, hx336_5, hx336_6, hx336_7, hx336_8⟩ := at_T38 HR1.out x5_1 p336 q336
        cases e336
        replace p336 := eq_true p336
        replace q336 := eq_true q336
        go_wp2
        repeat (go_quiet (fail); try go_wp2)
        go_ret
        exact ⟨e1_, z5_⟩
       rw [if_neg c7] at H
       have c7b0 : ((!(((rd_T38 l0 x5_1).f0.f0) == ((rd_T38 l1 x5_1).f0.f0)) || (!((((rd_T38 l0 x5_1).f0.f1).toList) == (((rd_T38 l1 x5_1).f0.f1).toList)) || (!((((rd_T38 l0 x5_1).f0.f2).toList) == (((rd_T38 l1 x5_1).f0.f2).toList))))) || ((!(((rd_T38 l0 x5_1).f1.f0) == ((rd_T38 l1 x5_1).f1.f0)) || (!((((rd_T38 l0 x5_1).f1.f1).toList) == (((rd_T38 l1 x5_1).f1.f1).toList)) || (!((((rd_T38 l0 x5_1).f1.f2).toList) == (((rd_T38 l1 x5_1).f1.f2).toList))))) || ((!(((rd_T38 l0 x5_1).f2.f0) == ((rd_T38 l1 x5_1).f2.f0)) || (!((((rd_T38 l0 x5_1).f2.f1).toList) == (((rd_T38 l1 x5_1).f2.f1).toList)) || (!((((rd_T38 l0 x5_1).f2.f2).toList) == (((rd_T38 l1 x5_1).f2.f2).toList)))))))) = false := by simpa using c7
       clear c7
       have H' := Ad.mk H
       clear H
       have p335 : 0 ≤ (x5_1 : Int) := of_decide_eq_true a1_
       have q335 : x5_1 < (l0.length : Int) := of_decide_eq_true a1_
       obtain ⟨ad335, e335, hx335_0, hx335_1, hx335_2, hx335_3, hx335_4, hx335_5, hx335_6, hx335_7, hx335_8⟩ := at_T38 HR0.out x5_1 p335 q335
       cases e335
       replace p335 := eq_true p335
       replace q335 := eq_true q335
       have p336 : 0 ≤ (x5_1 : Int) := of_decide_eq_true a1_
       have q336 : x5_1 < (l1.length : Int) := of_decide_eq_true a1_
       obtain ⟨ad336, e336, hx336_0, hx336_1, hx336_2, hx336_3, hx336_4, hx336_5, hx336_6, hx336_7, hx336_8⟩ := at_T38 HR1.out x5_1 p336 q336
       cases e336
       replace p336 := eq_true p336
       replace q336 := eq_true q336
       go_wp2
       repeat (go_quiet (fail); try go_wp2)
       go_roundg k1
       case measure => have := HK1.out; omega
       case rel => exact ⟨(wrap64 (x5_1 + 1)), e1_, H', ⟨by have := HK1.out; omega⟩, z5_⟩
      rw [if_neg c6] at H
      exact absurd H (by simp)
     rw [if_neg c5] at H
     exact absurd H (by simp)
    rw [if_neg c4] at H
    have c4b0 := decide_eq_false c4
    clear c4
    obtain rfl := Option.some.inj H
    go_wp2
    repeat (go_quiet (fail); try go_wp2)
    go_ret
    exact ⟨e1_, z5_⟩
 rw [if_neg c3] at H
 have c3b0 := beq_eq_false_iff_ne.mpr c3
 have c3b1 := bne_iff_ne.mpr c3
 have c3b2 : (l0.length == l1.length) = false := by first | simpa using c3 | (simp at c3 ⊢; omega)
 obtain rfl := Option.some.inj H
 go_enter Tryd.func10, Tryd.ntmps10
 go_wp2
 repeat (go_quiet (fail); try go_wp2)
 go_ret
 exact ⟨e1_, z5_⟩
end Go.Proofs.YtjnhdamilbcmpaaDoor.PTm

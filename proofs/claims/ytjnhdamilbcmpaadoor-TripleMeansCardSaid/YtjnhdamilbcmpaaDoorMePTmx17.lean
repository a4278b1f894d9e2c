import Derived.Test.YtjnhdamilbcmpaaDoorMePTmx0
import Derived.Test.YtjnhdamilbcmpaaDoorMePTmx2
import Derived.Test.YtjnhdamilbcmpaaDoorMePTmx12
import Derived.Test.YtjnhdamilbcmpaaDoorMePTmx14
import Derived.Test.YtjnhdamilbcmpaaDoorMePTmx16
namespace Go.Proofs.YtjnhdamilbcmpaaDoor.PTm
open Go.RowKit Go.Proofs.YtjnhdamilbcmpaaDoorW.PrintWords Go.Proofs.YtjnhdamilbcmpaaDoorW.PrintLast Go.Proofs.YtjnhdamilbcmpaaDoorW.PrintMore
attribute [local go_sem] max2_int min2_int max_two min_two max_three min_three max_four min_four
set_option linter.unusedVariables false
set_option linter.unusedSimpArgs false
set_option maxHeartbeats 8000000
set_option maxRecDepth 100000
attribute [local go_sem high] eqA38
def rhizomelaw05_same.l0 : Nat → List (S38) → List (S38) → Int → Option (Bool)
 | 0, _, _, _ => none
 | k + 1, x0, x1, x5 => if x5 < (x0.length : Int) then (if 0 ≤ x5 then (if x5 < (x1.length : Int) then (if ((!(((rd_T38 x0 x5).f0.f0) == ((rd_T38 x1 x5).f0.f0)) || (!((((rd_T38 x0 x5).f0.f1).toList) == (((rd_T38 x1 x5).f0.f1).toList)) || (!((((rd_T38 x0 x5).f0.f2).toList) == (((rd_T38 x1 x5).f0.f2).toList))))) || ((!(((rd_T38 x0 x5).f1.f0) == ((rd_T38 x1 x5).f1.f0)) || (!((((rd_T38 x0 x5).f1.f1).toList) == (((rd_T38 x1 x5).f1.f1).toList)) || (!((((rd_T38 x0 x5).f1.f2).toList) == (((rd_T38 x1 x5).f1.f2).toList))))) || ((!(((rd_T38 x0 x5).f2.f0) == ((rd_T38 x1 x5).f2.f0)) || (!((((rd_T38 x0 x5).f2.f1).toList) == (((rd_T38 x1 x5).f2.f1).toList)) || (!((((rd_T38 x0 x5).f2.f2).toList) == (((rd_T38 x1 x5).f2.f2).toList)))))))) = true then (some false) else (rhizomelaw05_same.l0 k x0 x1 (wrap64 (x5 + 1)))) else (none)) else (none)) else (some true)
def rhizomelaw05_same.f (k : Nat) (l0 : List (S38)) (l1 : List (S38)) : Option (Bool) := if (l0.length : Int) = (l1.length : Int) then (rhizomelaw05_same.l0 k l0 l1 0) else (some false)
theorem rhizomelaw05_same.calls (k : Nat) (A0 : Option Addr) (c0 : Nat) (l0 : List (S38)) (A1 : Option Addr) (c1 : Nat) (l1 : List (S38)) (r : Bool) (w : World) (hr0 : Kd.C k38 w A0 l0.length l0) (hc0 : l0.length ≤ c0) (hr1 : Kd.C k38 w A1 l1.length l1) (hc1 : l1.length ≤ c1) (h : rhizomelaw05_same.f k l0 l1 = some r) :
  Calls Tryd.prog 10 #[.slice A0 l0.length c0, .slice A1 l1.length c1] w fun e w' => e = .returned (.bool r) ∧ Drawn0 w w' := by
 have hu38 := Tryd.underlying38
 have HR0 := Aside0.mk hr0
 have HC0 := Aside0.mk hc0
 clear hr0 hc0
 have HR1 := Aside0.mk hr1
 have HC1 := Aside0.mk hc1
 clear hr1 hc1
 have H := h
 clear h
 unfold rhizomelaw05_same.f at H
 by_cases c3 : (l0.length : Int) = (l1.length : Int)
 ·rw [if_pos c3] at H
  have c3b0 := beq_iff_eq.mpr c3
  have c3b1 := bne_eq_false_iff_eq.mpr c3
  have c3b2 : (l0.length == l1.length) = true := by first | simpa using c3 | (simp at c3 ⊢; omega)
  clear c3
  have H' := Aside0.mk H
  clear H
  go_enter Tryd.func10, Tryd.ntmps10
  go_wp2
  repeat (go_quiet (fail); try go_wp2)
  go_loopg [5] k (fun kq v5 w' => ∃ (x5_1 : Int), v5 = .int .i64 x5_1 ∧ Aside0 (rhizomelaw05_same.l0 kq l0 l1 x5_1 = some r) ∧ Aside0 (kq ≤ k) ∧ Drawn0 w w')
  case atStart => exact ⟨(0), e1_, H', ⟨Nat.le_refl _⟩, z7_⟩
  case round =>
   clear H'
   try clear c1
   try clear p2
   try clear c3
   try clear c3b0
   try clear c3b1
   try clear c3b2
   obtain ⟨x5_1, rfl, HA, HK1, ⟨m1, rfl⟩⟩ := hrel
   cases gk with
   | zero => exact absurd HA.out (by simp [rhizomelaw05_same.l0])
   | succ k1 =>
    have H := HA.out
    clear HA
    simp only [rhizomelaw05_same.l0] at H
    by_cases c4 : x5_1 < (l0.length : Int)
    ·rw [if_pos c4] at H
     have c4b0 := decide_eq_true c4
     clear c4
     by_cases c5 : 0 ≤ x5_1
     ·rw [if_pos c5] at H
      have c5b0 := decide_eq_true c5
      clear c5
      by_cases c6 : x5_1 < (l1.length : Int)
      ·rw [if_pos c6] at H
       have c6b0 := decide_eq_true c6
       clear c6
       by_cases c7 : ((!(((rd_T38 l0 x5_1).f0.f0) == ((rd_T38 l1 x5_1).f0.f0)) || (!((((rd_T38 l0 x5_1).f0.f1).toList) == (((rd_T38 l1 x5_1).f0.f1).toList)) || (!((((rd_T38 l0 x5_1).f0.f2).toList) == (((rd_T38 l1 x5_1).f0.f2).toList))))) || ((!(((rd_T38 l0 x5_1).f1.f0) == ((rd_T38 l1 x5_1).f1.f0)) || (!((((rd_T38 l0 x5_1).f1.f1).toList) == (((rd_T38 l1 x5_1).f1.f1).toList)) || (!((((rd_T38 l0 x5_1).f1.f2).toList) == (((rd_T38 l1 x5_1).f1.f2).toList))))) || ((!(((rd_T38 l0 x5_1).f2.f0) == ((rd_T38 l1 x5_1).f2.f0)) || (!((((rd_T38 l0 x5_1).f2.f1).toList) == (((rd_T38 l1 x5_1).f2.f1).toList)) || (!((((rd_T38 l0 x5_1).f2.f2).toList) == (((rd_T38 l1 x5_1).f2.f2).toList)))))))) = true
       ·rw [if_pos c7] at H
        have c7b0 : ((!(((rd_T38 l0 x5_1).f0.f0) == ((rd_T38 l1 x5_1).f0.f0)) || (!((((rd_T38 l0 x5_1).f0.f1).toList) == (((rd_T38 l1 x5_1).f0.f1).toList)) || (!((((rd_T38 l0 x5_1).f0.f2).toList) == (((rd_T38 l1 x5_1).f0.f2).toList))))) || ((!(((rd_T38 l0 x5_1).f1.f0) == ((rd_T38 l1 x5_1).f1.f0)) || (!((((rd_T38 l0 x5_1).f1.f1).toList) == (((rd_T38 l1 x5_1).f1.f1).toList)) || (!((((rd_T38 l0 x5_1).f1.f2).toList) == (((rd_T38 l1 x5_1).f1.f2).toList))))) || ((!(((rd_T38 l0 x5_1).f2.f0) == ((rd_T38 l1 x5_1).f2.f0)) || (!((((rd_T38 l0 x5_1).f2.f1).toList) == (((rd_T38 l1 x5_1).f2.f1).toList)) || (!((((rd_T38 l0 x5_1).f2.f2).toList) == (((rd_T38 l1 x5_1).f2.f2).toList)))))))) = true := c7
        clear c7
        obtain rfl := Option.some.inj H
        have p335 : 0 ≤ (x5_1 : Int) := of_decide_eq_true a1_
        have q335 : x5_1 < (l0.length : Int) := of_decide_eq_true a1_
        obtain ⟨ad335, e335, hx335_0, hx335_1, hx335_2, hx335_3, hx335_4, hx335_5, hx335_6, hx335_7, hx335_8⟩ := at_T38 HR0.out x5_1 p335 q335
        cases e335
        replace p335 := eq_true p335
        replace q335 := eq_true q335
        have p336 : 0 ≤ (x5_1 : Int) := of_decide_eq_true a1_
        have q336 : x5_1 < (l1.length : Int) := of_decide_eq_true a1_
        obtain ⟨ad336, e336, hx336_0, hx336_1, hx336_2, hx336_3, hx336_4, hx336_5, hx336_6, hx336_7, hx336_8⟩ := at_T38 HR1.out x5_1 p336 q336
        cases e336
        replace p336 := eq_true p336
        replace q336 := eq_true q336
        go_wp2
        repeat (go_quiet (fail); try go_wp2)
        go_ret
        exact ⟨e1_, z7_⟩
       rw [if_neg c7] at H
       have c7b0 : ((!(((rd_T38 l0 x5_1).f0.f0) == ((rd_T38 l1 x5_1).f0.f0)) || (!((((rd_T38 l0 x5_1).f0.f1).toList) == (((rd_T38 l1 x5_1).f0.f1).toList)) || (!((((rd_T38 l0 x5_1).f0.f2).toList) == (((rd_T38 l1 x5_1).f0.f2).toList))))) || ((!(((rd_T38 l0 x5_1).f1.f0) == ((rd_T38 l1 x5_1).f1.f0)) || (!((((rd_T38 l0 x5_1).f1.f1).toList) == (((rd_T38 l1 x5_1).f1.f1).toList)) || (!((((rd_T38 l0 x5_1).f1.f2).toList) == (((rd_T38 l1 x5_1).f1.f2).toList))))) || ((!(((rd_T38 l0 x5_1).f2.f0) == ((rd_T38 l1 x5_1).f2.f0)) || (!((((rd_T38 l0 x5_1).f2.f1).toList) == (((rd_T38 l1 x5_1).f2.f1).toList)) || (!((((rd_T38 l0 x5_1).f2.f2).toList) == (((rd_T38 l1 x5_1).f2.f2).toList)))))))) = false := by simpa using c7
       clear c7
       have H' := Aside0.mk H
       clear H
       have p335 : 0 ≤ (x5_1 : Int) := of_decide_eq_true a1_
       have q335 : x5_1 < (l0.length : Int) := of_decide_eq_true a1_
       obtain ⟨ad335, e335, hx335_0, hx335_1, hx335_2, hx335_3, hx335_4, hx335_5, hx335_6, hx335_7, hx335_8⟩ := at_T38 HR0.out x5_1 p335 q335
       cases e335
       replace p335 := eq_true p335
       replace q335 := eq_true q335
       have p336 : 0 ≤ (x5_1 : Int) := of_decide_eq_true a1_
       have q336 : x5_1 < (l1.length : Int) := of_decide_eq_true a1_
       obtain ⟨ad336, e336, hx336_0, hx336_1, hx336_2, hx336_3, hx336_4, hx336_5, hx336_6, hx336_7, hx336_8⟩ := at_T38 HR1.out x5_1 p336 q336
       cases e336
       replace p336 := eq_true p336
       replace q336 := eq_true q336
       go_wp2
       repeat (go_quiet (fail); try go_wp2)
       go_roundg k1
       case measure => have := HK1.out; omega
       case rel => exact ⟨(wrap64 (x5_1 + 1)), e1_, H', ⟨by have := HK1.out; omega⟩, z7_⟩
      rw [if_neg c6] at H
      exact absurd H (by simp)
     rw [if_neg c5] at H
     exact absurd H (by simp)
    rw [if_neg c4] at H
    have c4b0 := decide_eq_false c4
    clear c4
    obtain rfl := Option.some.inj H
    go_wp2
    repeat (go_quiet (fail); try go_wp2)
    go_ret
    exact ⟨e1_, z7_⟩
 rw [if_neg c3] at H
 have c3b0 := beq_eq_false_iff_ne.mpr c3
 have c3b1 := bne_iff_ne.mpr c3
 have c3b2 : (l0.length == l1.length) = false := by first | simpa using c3 | (simp at c3 ⊢; omega)
 obtain rfl := Option.some.inj H
 go_enter Tryd.func10, Tryd.ntmps10
 go_wp2
 repeat (go_quiet (fail); try go_wp2)
 go_ret
 exact ⟨e1_, z7_⟩
mutual
def rhizomelaw05_TripleMeans.j0 : Nat → List (S38) → ByteArray → ByteArray → Bool → Option (Bool)
 | 0, _, _, _, _ => none
 | k + 1, x0, x1, x2, x39 => if x39 = true then (some true) else ((ntriples_Text.f k x0).bind fun bt339 => ((rhizomelaw05_num.f bt339.2).bind fun t341 => (if t341 = 0 then ((ntriples_Parse.f k bt339.1).bind fun bt342 => ((rhizomelaw05_num.f bt342.2.2).bind fun t347 => (if t347 = 0 then (if bt342.2.1 = 0 then ((rhizomelaw05_same.f k x0 bt342.1).bind fun t348 => (if t348 = true then (rhizomelaw05_TripleMeans.j1 k x1 x2) else (none))) else (none)) else (none)))) else (rhizomelaw05_TripleMeans.j1 k x1 x2))))
def rhizomelaw05_TripleMeans.j1 : Nat → ByteArray → ByteArray → Option (Bool)
 | 0, _, _ => none
 | k + 1, x1, x2 => (ntriples_Parse.f k x1).bind fun bt349 => ((rhizomelaw05_num.f bt349.2.2).bind fun t354 => (if t354 = 0 then ((ntriples_Text.f k bt349.1).bind fun bt355 => ((ntriples_Parse.f k bt355.1).bind fun bt357 => ((rhizomelaw05_num.f bt355.2).bind fun t362 => ((rhizomelaw05_num.f bt357.2.2).bind fun t363 => (if (wrap64 (t362 + t363)) = 0 then ((rhizomelaw05_same.f k bt349.1 bt357.1).bind fun t364 => (rhizomelaw05_TripleMeans.j2 k x1 x2 bt349.1 (!t364))) else (none)))))) else (some true)))
def rhizomelaw05_TripleMeans.j2 : Nat → ByteArray → ByteArray → List (S38) → Bool → Option (Bool)
 | 0, _, _, _, _ => none
 | k + 1, x1, x2, x12, x98 => if x98 = true then (none) else (if x1.size + 1 ≤ 9223372036854775807 then (if (x1 ++ (⟨#[10]⟩ : ByteArray)).size + x2.size ≤ 9223372036854775807 then ((ntriples_Parse.f k ((x1 ++ (⟨#[10]⟩ : ByteArray)) ++ x2)).bind fun bt365 => ((ntriples_Parse.f k x2).bind fun bt370 => ((rhizomelaw05_num.f bt370.2.2).bind fun t375 => (if t375 = 0 then ((rhizomelaw05_num.f bt365.2.2).bind fun t376 => (if t376 = 0 then (if ([] : List (S38)).length + x12.length < 1172812402961 then ((some (([] : List (S38)) ++ x12 : List (S38))).bind fun y377 => (if y377.length + bt370.1.length < 1172812402961 then ((rhizomelaw05_same.f k bt365.1 (y377 ++ bt370.1)).bind fun t383 => (some t383)) else (none))) else (none)) else (none))) else ((rhizomelaw05_num.f bt365.2.2).bind fun t384 => ((rhizomelaw05_num.f bt370.2.2).bind fun t385 => (if t384 = t385 then (if bt365.2.1 = (wrap64 ((wrap64 (bt370.2.1 + (x1.size : Int))) + 1)) then (some ((bt365.1.length : Int) == 0)) else (none)) else (none)))))))) else (none)) else (none))
end
def rhizomelaw05_TripleMeans.f (k : Nat) (l0 : List (S38)) (a1 : ByteArray) (a2 : ByteArray) : Option (Bool) := (rhizomelaw05_known.f k).bind fun t337 => (if t337 = true then ((rhizomeref02_Much.f l0 60).bind fun t338 => (if t338 = true then (rhizomelaw05_TripleMeans.j0 k l0 a1 a2 true) else (if (a1.size : Int) > 3000 then (rhizomelaw05_TripleMeans.j0 k l0 a1 a2 true) else (rhizomelaw05_TripleMeans.j0 k l0 a1 a2 (decide ((a2.size : Int) > 3000)))))) else (none))
theorem rhizomelaw05_TripleMeans.calls (k : Nat) (A0 : Option Addr) (c0 : Nat) (l0 : List (S38)) (a1 : ByteArray) (a2 : ByteArray) (r : Bool) (w : World) (hr0 : Kd.C k38 w A0 l0.length l0) (hc0 : l0.length ≤ c0) (h : rhizomelaw05_TripleMeans.f k l0 a1 a2 = some r) :
  Calls Tryd.prog 3 #[.slice A0 l0.length c0, .string a1, .string a2] w fun e w' => e = .returned (.bool r) ∧ Below w.heap.size w w' := by
 have HR0 := Aside0.mk hr0
 have HC0 := Aside0.mk hc0
 clear hr0 hc0
 have HB := Aside0.mk (Below.refl w.heap.size w)
 have H := h
 clear h
 unfold rhizomelaw05_TripleMeans.f at H
 obtain ⟨t337, A4, H⟩ := bi_ H
 by_cases c5 : t337 = true
 ·subst c5
  rw [if_pos rfl] at H
  have HC6 := Aside0.mk H
  clear H
  go_enter Tryd.func3, Tryd.ntmps3
  go_upto_region 3 with (first | ((with_reducible refine gate_callee (f := 5) rfl ?_); refine goesL_ (some 26) rfl rfl Tryd.func5 k1_ rfl #[] rfl g1_ ?_; (with_reducible refine (rhizomelaw05_known.calls k  true _ A4.out).mono ?_); rintro e w7 ⟨rfl, hb⟩; refine ⟨_, rfl, ?_⟩; replace HB := Aside0.mk (below_step b1_ hb); clear hb))
  (try simp only [Act.put, List.setIfInBounds_toArray, List.set_cons_zero, List.set_cons_succ])
  go_cut [39] (fun v39 wc => ∃ (kq : Nat) (x39_5 : Bool), v39 = .bool x39_5 ∧ Aside0 (rhizomelaw05_TripleMeans.j0 kq l0 a1 a2 x39_5 = some r) ∧ Aside0 (kq ≤ k) ∧ Aside0 (Below w.heap.size w wc))
  case first =>
   have H := HC6.out
   clear HC6
   obtain ⟨t338, A8, H⟩ := bi_ H
   by_cases c9 : t338 = true
   ·subst c9
    rw [if_pos rfl] at H
    have H' := Aside0.mk H
    clear H
    go_wp2_with (first | ((with_reducible refine gate_callee (f := 6) rfl ?_); refine goesL_ (some 29) rfl rfl Tryd.func6 k1_ rfl #[.slice A0 l0.length c0, .int .i64 60] rfl g1_ ?_; (with_reducible refine (rhizomeref02_Much.calls _ _ l0 60 true _ ?side1 ?side2 A8.out).mono ?_); (case side1 => exact (by have G0 := HR0; exact z42_)); (case side2 => exact HC0.out); rintro e w' ⟨rfl, ⟨nd, rfl⟩⟩; refine ⟨_, rfl, ?_⟩))
    go_meet
    case rel => exact ⟨_, (true), e1_, H', ⟨z19_⟩, ⟨b1_⟩⟩
   replace c9 := Bool.eq_false_iff.mpr c9
   subst c9
   rw [if_neg (show ¬ (false = true) by decide)] at H
   by_cases c10 : (a1.size : Int) > 3000
   ·rw [if_pos c10] at H
    have c10b0 : decide (3000 < (a1.size : Int)) = true := decide_eq_true c10
    have c10b1 : decide (3000 < a1.size) = true := decide_eq_true (by omega)
    clear c10
    (first | rw [c10b0] | (simp only [i64_w, i32_w]; rw [c10b0]) | skip)
    have H' := Aside0.mk H
    clear H
    go_wp2_with (first | ((with_reducible refine gate_callee (f := 6) rfl ?_); refine goesL_ (some 29) rfl rfl Tryd.func6 k1_ rfl #[.slice A0 l0.length c0, .int .i64 60] rfl g1_ ?_; (with_reducible refine (rhizomeref02_Much.calls _ _ l0 60 false _ ?side1 ?side2 A8.out).mono ?_); (case side1 => exact (by have G0 := HR0; exact z42_)); (case side2 => exact HC0.out); rintro e w' ⟨rfl, ⟨nd, rfl⟩⟩; refine ⟨_, rfl, ?_⟩))
    go_meet
    case rel => exact ⟨_, (true), e1_, H', ⟨z19_⟩, ⟨b1_⟩⟩
   rw [if_neg c10] at H
   have c10b0 : decide (3000 < (a1.size : Int)) = false := decide_eq_false c10
   have c10b1 : decide (3000 < a1.size) = false := decide_eq_false (by omega)
   clear c10
   (first | rw [c10b0] | (simp only [i64_w, i32_w]; rw [c10b0]) | skip)
   have H' := Aside0.mk H
   clear H
   go_wp2_with (first | ((with_reducible refine gate_callee (f := 6) rfl ?_); refine goesL_ (some 29) rfl rfl Tryd.func6 k1_ rfl #[.slice A0 l0.length c0, .int .i64 60] rfl g1_ ?_; (with_reducible refine (rhizomeref02_Much.calls _ _ l0 60 false _ ?side1 ?side2 A8.out).mono ?_); (case side1 => exact (by have G0 := HR0; exact z42_)); (case side2 => exact HC0.out); rintro e w' ⟨rfl, ⟨nd, rfl⟩⟩; refine ⟨_, rfl, ?_⟩))
   go_meet
   case rel => exact ⟨_, (decide ((a2.size : Int) > 3000)), e1_, H', ⟨z19_⟩, ⟨b1_⟩⟩
  case rest =>
   clear HC6
   try clear c5
   obtain ⟨kq, x39_5, rfl, HA, HJ5, HB⟩ := hcut
   cases kq with
   | zero => exact absurd HA.out (by simp [rhizomelaw05_TripleMeans.j0])
   | succ kj5 =>
    have H := HA.out
    clear HA
    simp only [rhizomelaw05_TripleMeans.j0] at H
    by_cases c11 : x39_5 = true
    ·subst c11
     rw [if_pos rfl] at H
     obtain rfl := Option.some.inj H
     go_wp2
     go_ret
     exact ⟨e2_, b1_⟩
    replace c11 := Bool.eq_false_iff.mpr c11
    subst c11
    rw [if_neg (show ¬ (false = true) by decide)] at H
    obtain ⟨⟨t339, t340⟩, A12, H⟩ := bi_ H
    try dsimp only at H
    obtain ⟨t341, A13, H⟩ := bi_ H
    have HC14 := Aside0.mk H
    clear H
    go_upto_if 47 with (first | ((with_reducible refine gate_callee (f := 7) rfl ?_); refine goesL_ (some 42) rfl rfl Tryd.func7 k1_ rfl #[.slice A0 l0.length c0] rfl g1_ ?_; (with_reducible refine (ntriples_Text.calls kj5 _ _ l0 t339 t340 _ ?side1 ?side2 A12.out).mono ?_); (case side1 => exact (by have G0 := HR0; exact z42_)); (case side2 => exact HC0.out); rintro e w15 ⟨rfl, hb⟩; refine ⟨_, rfl, ?_⟩; replace HB := Aside0.mk (below_step b1_ hb); clear hb) | ((with_reducible refine gate_callee (f := 8) rfl ?_); refine goesL_ (some 46) rfl rfl Tryd.func8 k1_ rfl #[.int .i64 t340] rfl g1_ ?_; (with_reducible refine (rhizomelaw05_num.calls t340 t341 _ A13.out).mono ?_); rintro e w' ⟨rfl, ⟨nd, rfl⟩⟩; refine ⟨_, rfl, ?_⟩))
    (try simp only [Act.put, List.setIfInBounds_toArray, List.set_cons_zero, List.set_cons_succ])
    go_cut [] (fun wc => ∃ (kq : Nat), Aside0 (rhizomelaw05_TripleMeans.j1 kq a1 a2 = some r) ∧ Aside0 (kq ≤ kj5) ∧ Aside0 (Below w.heap.size w wc))
    case first =>
     have H := HC14.out
     clear HC14
     by_cases c16 : t341 = 0
     ·rw [if_pos c16] at H
      have c16b0 := beq_iff_eq.mpr c16
      have c16b1 := bne_eq_false_iff_eq.mpr c16
      clear c16
      (first | rw [c16b0] | (simp only [i64_w, i32_w]; rw [c16b0]) | skip)
      obtain ⟨⟨t342, t343, t344⟩, A17, H⟩ := bi_ H
      try dsimp only at H
      obtain ⟨t347, A18, H⟩ := bi_ H
      by_cases c19 : t347 = 0
      ·rw [if_pos c19] at H
       have c19b0 := beq_iff_eq.mpr c19
       have c19b1 := bne_eq_false_iff_eq.mpr c19
       clear c19
       by_cases c20 : t343 = 0
       ·rw [if_pos c20] at H
        have c20b0 := beq_iff_eq.mpr c20
        have c20b1 := bne_eq_false_iff_eq.mpr c20
        clear c20
        obtain ⟨t348, A21, H⟩ := bi_ H
        by_cases c22 : t348 = true
        ·subst c22
         rw [if_pos rfl] at H
         have H' := Aside0.mk H
         clear H
         go_wp2_with (first | ((with_reducible refine gate_callee (f := 9) rfl ?_); refine goesL_ (some 50) rfl rfl Tryd.func9 k1_ rfl #[.string t339] rfl g1_ ?_; (with_reducible refine (ntriples_Parse.calls kj5 t339 t342 t343 t344 _ A17.out).mono ?_); rintro e w23 ⟨v345, rfl, ho0, hb⟩; refine ⟨_, rfl, ?_⟩; have HO346 := Aside0.mk (Kd.R_lower ho0 (below_size b1_)); replace HB := Aside0.mk (below_step b1_ hb); (try clear hb); (try clear hb2); (try clear hk); (try clear hi); (try clear ho0)) | ((with_reducible refine gate_callee (f := 8) rfl ?_); refine goesL_ (some 55) rfl rfl Tryd.func8 k1_ rfl #[.int .i64 t344] rfl g1_ ?_; (with_reducible refine (rhizomelaw05_num.calls t344 t347 _ A18.out).mono ?_); rintro e w' ⟨rfl, ⟨nd, rfl⟩⟩; refine ⟨_, rfl, ?_⟩; obtain ⟨Ao24, co24, eo24⟩ := Kd.R_slice HO346.out; subst eo24) | (go_at_call 10; (with_reducible refine (rhizomelaw05_same.calls kj5 _ _ l0 _ _ t342 true _ ?side1 ?side2 ?side3 ?side4 A21.out).mono ?_); (case side1 => exact (by repeat (first | exact (Kd.C_below HR0.out b1_) | (with_reducible refine Kd.C_alloc ?_ _) | (with_reducible refine Kd.C_drewN ?_ _) | (with_reducible refine Kd.C_drew ?_)))); (case side2 => exact HC0.out); (case side3 => exact (by have G0 := HO346; exact z27_)); (case side4 => exact (Kd.R_reads' HO346.out).2.1); rintro e w' ⟨rfl, ⟨nd, rfl⟩⟩))
         go_meet
         case rel => exact ⟨_, H', ⟨by have := HJ5.out; first | omega | exact Nat.le_refl _⟩, ⟨b1_⟩⟩
        replace c22 := Bool.eq_false_iff.mpr c22
        subst c22
        rw [if_neg (show ¬ (false = true) by decide)] at H
        exact absurd H (by simp)
       rw [if_neg c20] at H
       exact absurd H (by simp)
      rw [if_neg c19] at H
      exact absurd H (by simp)
     rw [if_neg c16] at H
     have c16b0 := beq_eq_false_iff_ne.mpr c16
     have c16b1 := bne_iff_ne.mpr c16
     (first | rw [c16b0] | (simp only [i64_w, i32_w]; rw [c16b0]) | skip)
     have H' := Aside0.mk H
     clear H
     go_wp2
     go_meet
     case rel => exact ⟨_, H', ⟨by have := HJ5.out; first | omega | exact Nat.le_refl _⟩, ⟨b1_⟩⟩
    case rest =>
     clear HC14
     try clear c5
     try clear c9
     try clear c10
     try clear c10b0
     try clear c10b1
     try clear c11
     obtain ⟨kq, HA, HJ13, HB⟩ := hcut
     cases kq with
     | zero => exact absurd HA.out (by simp [rhizomelaw05_TripleMeans.j1])
     | succ kj13 =>
      have H := HA.out
      clear HA
      simp only [rhizomelaw05_TripleMeans.j1] at H
      obtain ⟨⟨t349, t350, t351⟩, A25, H⟩ := bi_ H
      try dsimp only at H
      obtain ⟨t354, A26, H⟩ := bi_ H
      by_cases c27 : t354 = 0
      ·rw [if_pos c27] at H
       have c27b0 := beq_iff_eq.mpr c27
       have c27b1 := bne_eq_false_iff_eq.mpr c27
       clear c27
       obtain ⟨⟨t355, t356⟩, A28, H⟩ := bi_ H
       try dsimp only at H
       obtain ⟨⟨t357, t358, t359⟩, A29, H⟩ := bi_ H
       try dsimp only at H
       have HC30 := Aside0.mk H
       clear H
       go_upto_region 15 with (first | ((with_reducible refine gate_callee (f := 9) rfl ?_); refine goesL_ (some 69) rfl rfl Tryd.func9 k1_ rfl #[.string a1] rfl g1_ ?_; (with_reducible refine (ntriples_Parse.calls kj13 a1 t349 t350 t351 _ A25.out).mono ?_); rintro e w31 ⟨v352, rfl, ho0, hb⟩; refine ⟨_, rfl, ?_⟩; have HO353 := Aside0.mk (Kd.R_lower ho0 (below_size b1_)); replace HB := Aside0.mk (below_step b1_ hb); (try clear hb); (try clear hb2); (try clear hk); (try clear hi); (try clear ho0)) | ((with_reducible refine gate_callee (f := 8) rfl ?_); refine goesL_ (some 74) rfl rfl Tryd.func8 k1_ rfl #[.int .i64 t351] rfl g1_ ?_; (with_reducible refine (rhizomelaw05_num.calls t351 t354 _ A26.out).mono ?_); rintro e w' ⟨rfl, ⟨nd, rfl⟩⟩; refine ⟨_, rfl, ?_⟩; obtain ⟨Ao32, co32, eo32⟩ := Kd.R_slice HO353.out; subst eo32) | ((with_reducible refine gate_callee (f := 7) rfl ?_); refine goesL_ (some 78) rfl rfl Tryd.func7 k1_ rfl #[.slice Ao32 t349.length co32] rfl g1_ ?_; (with_reducible refine (ntriples_Text.calls kj13 _ _ t349 t355 t356 _ ?side1 ?side2 A28.out).mono ?_); (case side1 => exact (by have G0 := HO353; exact z27_)); (case side2 => exact (Kd.R_reads' HO353.out).2.1); rintro e w33 ⟨rfl, hb⟩; refine ⟨_, rfl, ?_⟩; replace HO353 := Aside0.mk (Kd.R_below (by have G0 := HO353; exact z3_) hb); replace HB := Aside0.mk (below_step b1_ hb); clear hb) | ((with_reducible refine gate_callee (f := 9) rfl ?_); refine goesL_ (some 83) rfl rfl Tryd.func9 k1_ rfl #[.string t355] rfl g1_ ?_; (with_reducible refine (ntriples_Parse.calls kj13 t355 t357 t358 t359 _ A29.out).mono ?_); rintro e w34 ⟨v360, rfl, ho0, hb⟩; refine ⟨_, rfl, ?_⟩; have HO361 := Aside0.mk (Kd.R_lower (Kd.R_new' ho0 (Kd.R_lt (by have G0 := HO353; exact z3_))) (below_size b1_)); replace HO353 := Aside0.mk (Kd.R_elder' (by have G0 := HO353; exact z3_) (Kd.R_base ho0) hb); replace HB := Aside0.mk (below_step b1_ hb); (try clear hb); (try clear hb2); (try clear hk); (try clear hi); (try clear ho0)))
       (try simp only [Act.put, List.setIfInBounds_toArray, List.set_cons_zero, List.set_cons_succ])
       go_cut [98] (fun v98 wc => ∃ (kq : Nat) (x98_29 : Bool), v98 = .bool x98_29 ∧ Aside0 (rhizomelaw05_TripleMeans.j2 kq a1 a2 t349 x98_29 = some r) ∧ Aside0 (kq ≤ kj13) ∧ Aside0 (Kd.R k38 38 wc w.heap.size (fun _ => True) (.slice Ao32 t349.length co32) t349) ∧ Aside0 (Below w.heap.size w wc))
       case first =>
        have H := HC30.out
        clear HC30
        obtain ⟨t362, A35, H⟩ := bi_ H
        obtain ⟨t363, A36, H⟩ := bi_ H
        by_cases c37 : (wrap64 (t362 + t363)) = 0
        ·rw [if_pos c37] at H
         have c37b0 := beq_iff_eq.mpr c37
         have c37b1 := bne_eq_false_iff_eq.mpr c37
         clear c37
         (first | rw [c37b0] | (simp only [i64_w, i32_w]; rw [c37b0]) | skip)
         obtain ⟨t364, A38, H⟩ := bi_ H
         have H' := Aside0.mk H
         clear H
         go_wp2_with (first | ((with_reducible refine gate_callee (f := 8) rfl ?_); refine goesL_ (some 88) rfl rfl Tryd.func8 k1_ rfl #[.int .i64 t356] rfl g1_ ?_; (with_reducible refine (rhizomelaw05_num.calls t356 t362 _ A35.out).mono ?_); rintro e w' ⟨rfl, ⟨nd, rfl⟩⟩; refine ⟨_, rfl, ?_⟩) | ((with_reducible refine gate_callee (f := 8) rfl ?_); refine goesL_ (some 90) rfl rfl Tryd.func8 k1_ rfl #[.int .i64 t359] rfl g1_ ?_; (with_reducible refine (rhizomelaw05_num.calls t359 t363 _ A36.out).mono ?_); rintro e w' ⟨rfl, ⟨nd, rfl⟩⟩; refine ⟨_, rfl, ?_⟩; obtain ⟨Ao39, co39, eo39⟩ := Kd.R_slice HO361.out; subst eo39) | (go_at_call 10; (with_reducible refine (rhizomelaw05_same.calls kj13 _ _ t349 _ _ t357 t364 _ ?side1 ?side2 ?side3 ?side4 A38.out).mono ?_); (case side1 => exact (by have G0 := HO353; exact z27_)); (case side2 => exact (Kd.R_reads' HO353.out).2.1); (case side3 => exact (by have G0 := HO361; exact z27_)); (case side4 => exact (Kd.R_reads' HO361.out).2.1); rintro e w' ⟨rfl, ⟨nd, rfl⟩⟩))
         go_meet
         case rel => exact ⟨_, (!t364), e1_, H', ⟨by have := HJ5.out; have := HJ13.out; first | omega | exact Nat.le_refl _⟩, ⟨by have G0 := HO353; exact z38_⟩, ⟨b1_⟩⟩
        rw [if_neg c37] at H
        exact absurd H (by simp)
       case rest =>
        clear HC30
        try clear c5
        try clear c9
        try clear c10
        try clear c10b0
        try clear c10b1
        try clear c11
        try clear c16
        try clear c16b0
        try clear c16b1
        try clear c19
        try clear c19b0
        try clear c19b1
        try clear c20
        try clear c20b0
        try clear c20b1
        try clear c22
        try clear c27
        try clear c27b0
        try clear c27b1
        obtain ⟨kq, x98_29, rfl, HA, HJ29, HO_12, HB⟩ := hcut
        cases kq with
        | zero => exact absurd HA.out (by simp [rhizomelaw05_TripleMeans.j2])
        | succ kj29 =>
         have H := HA.out
         clear HA
         simp only [rhizomelaw05_TripleMeans.j2] at H
         by_cases c40 : x98_29 = true
         ·subst c40
          rw [if_pos rfl] at H
          exact absurd H (by simp)
         replace c40 := Bool.eq_false_iff.mpr c40
         subst c40
         rw [if_neg (show ¬ (false = true) by decide)] at H
         by_cases c41 : a1.size + 1 ≤ 9223372036854775807
         ·rw [if_pos c41] at H
          have c41b0 := eq_true c41
          have c41b1 := decide_eq_true c41
          try have c41b2 : (9223372036854775807 < a1.size + 1) = False := eq_false (Nat.not_lt.2 c41)
          by_cases c42 : (a1 ++ (⟨#[10]⟩ : ByteArray)).size + a2.size ≤ 9223372036854775807
          ·rw [if_pos c42] at H
           have c42b0 := eq_true c42
           have c42b1 := decide_eq_true c42
           try have c42b2 : (9223372036854775807 < (a1 ++ (⟨#[10]⟩ : ByteArray)).size + a2.size) = False := eq_false (Nat.not_lt.2 c42)
           try have c42b3 : (9223372036854775807 < a1.size + 1 + a2.size) = False := eq_false (by have h_ := c42; simp only [ByteArray.size_append] at h_; exact Nat.not_lt.2 h_)
           obtain ⟨⟨t365, t366, t367⟩, A43, H⟩ := bi_ H
           try dsimp only at H
           obtain ⟨⟨t370, t371, t372⟩, A44, H⟩ := bi_ H
           try dsimp only at H
           obtain ⟨t375, A45, H⟩ := bi_ H
           by_cases c46 : t375 = 0
           ·rw [if_pos c46] at H
            have c46b0 := beq_iff_eq.mpr c46
            have c46b1 := bne_eq_false_iff_eq.mpr c46
            clear c46
            obtain ⟨t376, A47, H⟩ := bi_ H
            by_cases c48 : t376 = 0
            ·rw [if_pos c48] at H
             have c48b0 := beq_iff_eq.mpr c48
             have c48b1 := bne_eq_false_iff_eq.mpr c48
             clear c48
             by_cases c49 : ([] : List (S38)).length + t349.length < 1172812402961
             ·rw [if_pos c49] at H
              have LMc49 := Aside0.mk c49
              clear c49
              obtain ⟨y377, hy377⟩ : ∃ y_ : List (S38), y_ = (([] : List (S38)) ++ t349) := ⟨_, rfl⟩
              replace H : (if y377.length + t370.length < 1172812402961 then ((rhizomelaw05_same.f kj29 t365 (y377 ++ t370)).bind fun t383 => (some t383)) else (none)) = some r := by first | (rw [hy377]; with_reducible exact H) | (have H2_ := (Option.bind_some _ _).symm.trans H; rw [hy377]; with_reducible exact H2_) | (have H2_ := (Option.bind_some _ _).symm.trans H; with_reducible exact H2_) | with_reducible exact H | (rw [hy377]; exact H) | exact H
              have Ny377 := Aside0.mk hy377
              clear hy377
              by_cases c50 : y377.length + t370.length < 1172812402961
              ·rw [if_pos c50] at H
               have LMc50 := Aside0.mk c50
               clear c50
               obtain ⟨y380, hy380⟩ : ∃ y_ : List (S38), y_ = (y377 ++ t370) := ⟨_, rfl⟩
               replace H : ((rhizomelaw05_same.f kj29 t365 y380).bind fun t383 => (some t383)) = some r := by first | (rw [hy380]; with_reducible exact H) | (have H2_ := (Option.bind_some _ _).symm.trans H; rw [hy380]; with_reducible exact H2_) | (have H2_ := (Option.bind_some _ _).symm.trans H; with_reducible exact H2_) | with_reducible exact H | (rw [hy380]; exact H) | exact H
               have Ny380 := Aside0.mk hy380
               clear hy380
               obtain ⟨t383, A51, H⟩ := bi_ H
               obtain rfl := Option.some.inj H
               go_wp2_with (first | ((with_reducible refine gate_callee (f := 9) rfl ?_); refine goesL_ (some 104) rfl rfl Tryd.func9 k1_ rfl #[.string ((a1 ++ (⟨#[10]⟩ : ByteArray)) ++ a2)] rfl g1_ ?_; (with_reducible refine (ntriples_Parse.calls kj29 ((a1 ++ (⟨#[10]⟩ : ByteArray)) ++ a2) t365 t366 t367 _ A43.out).mono ?_); rintro e w52 ⟨v368, rfl, ho0, hb⟩; refine ⟨_, rfl, ?_⟩; have HO369 := Aside0.mk (Kd.R_lower (Kd.R_new' ho0 (Kd.R_lt (by have G0 := HO_12; exact z3_))) (below_size b1_)); replace HO_12 := Aside0.mk (Kd.R_elder' (by have G0 := HO_12; exact z3_) (Kd.R_base ho0) hb); replace HB := Aside0.mk (below_step b1_ hb); (try clear hb); (try clear hb2); (try clear hk); (try clear hi); (try clear ho0)) | ((with_reducible refine gate_callee (f := 9) rfl ?_); refine goesL_ (some 110) rfl rfl Tryd.func9 k1_ rfl #[.string a2] rfl g1_ ?_; (with_reducible refine (ntriples_Parse.calls kj29 a2 t370 t371 t372 _ A44.out).mono ?_); rintro e w53 ⟨v373, rfl, ho0, hb⟩; refine ⟨_, rfl, ?_⟩; have HO374 := Aside0.mk (Kd.R_lower (Kd.R_new' (Kd.R_new' ho0 (Kd.R_lt (by have G0 := HO_12; exact z3_))) (Kd.R_lt (by have G0 := HO369; exact z3_))) (below_size b1_)); replace HO_12 := Aside0.mk (Kd.R_elder' (by have G0 := HO_12; exact z3_) (Kd.R_base ho0) hb); replace HO369 := Aside0.mk (Kd.R_elder' (by have G0 := HO369; exact z3_) (Kd.R_base ho0) hb); replace HB := Aside0.mk (below_step b1_ hb); (try clear hb); (try clear hb2); (try clear hk); (try clear hi); (try clear ho0)) | ((with_reducible refine gate_callee (f := 8) rfl ?_); refine goesL_ (some 115) rfl rfl Tryd.func8 k1_ rfl #[.int .i64 t372] rfl g1_ ?_; (with_reducible refine (rhizomelaw05_num.calls t372 t375 _ A45.out).mono ?_); rintro e w' ⟨rfl, ⟨nd, rfl⟩⟩; refine ⟨_, rfl, ?_⟩) | ((with_reducible refine gate_callee (f := 8) rfl ?_); refine goesL_ (some 137) rfl rfl Tryd.func8 k1_ rfl #[.int .i64 t367] rfl g1_ ?_; (with_reducible refine (rhizomelaw05_num.calls t367 t376 _ A47.out).mono ?_); rintro e w' ⟨rfl, ⟨nd, rfl⟩⟩; refine ⟨_, rfl, ?_⟩) | ((with_reducible refine gate_builtin (b := .append) (xs := #[(.const (.slice none 0 0)), .tmp 141]) rfl ?_); (try (refine gate_guard (by rfl) ?_; dsimp only)); at_builtin; refine Kd.R_append_rows k38 (w0 := w) w.heap.size rfl (.const (.slice none 0 0)) (.tmp 141) 22 38 (.agg #[(.int .i64 0), (.string ⟨#[]⟩), (.string ⟨#[]⟩), (.int .i64 0), (.string ⟨#[]⟩), (.string ⟨#[]⟩), (.int .i64 0), (.string ⟨#[]⟩), (.string ⟨#[]⟩)]) 120 rfl Tryd.underlying22 info38 rfl (by decide) (by omega) (.slice none 0 0) ([] : List (S38)) t349 _ _ _ (fun k_ => some k_ ≠ (.slice Ao32 t349.length co32 : Value).ownBlock ∧ some k_ ≠ (v368 : Value).ownBlock ∧ some k_ ≠ (v373 : Value).ownBlock) (fun _ => False) rfl rfl ?aO ?aR (fun _ _ h => h) (fun _ h => h.elim) ?aF ?aB ?aS ?aL ?_; (case aR => repeat (first | exact (Kd.R_reads' HO_12.out).2.2 | (with_reducible refine Kd.C_alloc ?_ _) | (with_reducible refine Kd.C_drewN ?_ _) | (with_reducible refine Kd.C_drew ?_))); (case aB => exact b1_); (case aF => exact (fun k_ hk => ⟨Kd.fresh' (Kd.R_lt (by have G0 := HO_12; exact z3_)) k_ hk, Kd.fresh' (Kd.R_lt (by have G0 := HO369; exact z3_)) k_ hk, Kd.fresh' (Kd.R_lt (by have G0 := HO374; exact z3_)) k_ hk⟩)); (case aO => exact ((Kd.R_nil _ _ _ _ (fun k_ => some k_ ≠ (.slice Ao32 t349.length co32 : Value).ownBlock ∧ some k_ ≠ (v368 : Value).ownBlock ∧ some k_ ≠ (v373 : Value).ownBlock)))); (case aS => exact (below_size b1_)); (case aL => have := LMc49.out; omega); intro v378 w54 ho hb hg hat; rw [← Ny377.out] at ho; have HO379 := Aside0.mk (ho); replace HO_12 := Aside0.mk (Kd.R_after (Kd.R_apart_nil (by have G0 := HO_12; exact z3_)) hg hat); replace HO369 := Aside0.mk (Kd.R_after (Kd.R_apart_nil (by have G0 := HO369; exact z3_)) hg hat); replace HO374 := Aside0.mk (Kd.R_after (Kd.R_apart_nil (by have G0 := HO374; exact z3_)) hg hat); replace HB := Aside0.mk (hb); clear ho hb hg hat; obtain ⟨Ao56, co56, eo56⟩ := Kd.R_slice HO374.out; subst eo56) | ((with_reducible refine gate_builtin (b := .append) (xs := #[(.tmp 142), .tmp 143]) rfl ?_); (try (refine gate_guard (by rfl) ?_; dsimp only)); at_builtin; refine Kd.R_append_rows k38 (w0 := w) w.heap.size rfl (.tmp 142) (.tmp 143) 22 38 (.agg #[(.int .i64 0), (.string ⟨#[]⟩), (.string ⟨#[]⟩), (.int .i64 0), (.string ⟨#[]⟩), (.string ⟨#[]⟩), (.int .i64 0), (.string ⟨#[]⟩), (.string ⟨#[]⟩)]) 120 rfl Tryd.underlying22 info38 rfl (by decide) (by omega) v378 y377 t370 _ _ _ (fun k_ => some k_ ≠ (.slice Ao32 t349.length co32 : Value).ownBlock ∧ some k_ ≠ (v368 : Value).ownBlock ∧ some k_ ≠ (.slice Ao56 t370.length co56 : Value).ownBlock) (fun _ => False) rfl rfl ?aO ?aR (fun _ _ h => h) (fun _ h => h.elim) ?aF ?aB ?aS ?aL ?_; (case aR => repeat (first | exact (Kd.R_reads' HO374.out).2.2 | (with_reducible refine Kd.C_alloc ?_ _) | (with_reducible refine Kd.C_drewN ?_ _) | (with_reducible refine Kd.C_drew ?_))); (case aB => exact b1_); (case aF => exact (fun k_ hk => ⟨Kd.fresh' (Kd.R_lt (by have G0 := HO_12; exact z3_)) k_ hk, Kd.fresh' (Kd.R_lt (by have G0 := HO369; exact z3_)) k_ hk, Kd.fresh' (Kd.R_lt (by have G0 := HO374; exact z3_)) k_ hk⟩)); (case aO => exact (by have G0 := HO379; exact z3_)); (case aS => exact (below_size b1_)); (case aL => have := LMc50.out; omega); intro v381 w55 ho hb hg hat; rw [← Ny380.out] at ho; have n0_ := Aside0.mk (Kd.R_after (ok := (fun k_ => some k_ ≠ (v368 : Value).ownBlock ∧ some k_ ≠ (.slice Ao56 t370.length co56 : Value).ownBlock)) (by have G0 := HO_12; exact z46_) hg hat); have n1_ := Aside0.mk (Kd.R_after (ok := (fun k_ => some k_ ≠ (.slice Ao32 t349.length co32 : Value).ownBlock ∧ some k_ ≠ (.slice Ao56 t370.length co56 : Value).ownBlock)) (by have G0 := HO369; exact z46_) hg hat); have n2_ := Aside0.mk (Kd.R_after (ok := (fun k_ => some k_ ≠ (.slice Ao32 t349.length co32 : Value).ownBlock ∧ some k_ ≠ (v368 : Value).ownBlock)) (by have G0 := HO374; exact z46_) hg hat); have n3_ := Aside0.mk (hb); have n4_ := Aside0.mk (ho); clear HO_12; clear HO369; clear HO374; clear HB; clear HO379; have HO_12 := n0_; have HO369 := n1_; have HO374 := n2_; have HB := n3_; have HO382 := n4_; clear n0_ n1_ n2_ n3_ n4_; clear ho hb hg hat; obtain ⟨Ao57, co57, eo57⟩ := Kd.R_slice HO369.out; subst eo57; obtain ⟨Ao58, co58, eo58⟩ := Kd.R_slice HO382.out; subst eo58) | (go_at_call 10; (with_reducible refine (rhizomelaw05_same.calls kj29 _ _ t365 _ _ y380 t383 _ ?side1 ?side2 ?side3 ?side4 A51.out).mono ?_); (case side1 => exact (by have G0 := HO369; exact z27_)); (case side2 => exact (Kd.R_reads' HO369.out).2.1); (case side3 => exact (by have G0 := HO382; exact z27_)); (case side4 => exact (Kd.R_reads' HO382.out).2.1); rintro e w' ⟨rfl, ⟨nd, rfl⟩⟩))
               go_ret
               exact ⟨e2_, b1_⟩
              rw [if_neg c50] at H
              exact absurd H (by simp)
             rw [if_neg c49] at H
             exact absurd H (by simp)
            rw [if_neg c48] at H
            exact absurd H (by simp)
           rw [if_neg c46] at H
           have c46b0 := beq_eq_false_iff_ne.mpr c46
           have c46b1 := bne_iff_ne.mpr c46
           obtain ⟨t384, A59, H⟩ := bi_ H
           obtain ⟨t385, A60, H⟩ := bi_ H
           by_cases c61 : t384 = t385
           ·rw [if_pos c61] at H
            have c61b0 := beq_iff_eq.mpr c61
            have c61b1 := bne_eq_false_iff_eq.mpr c61
            clear c61
            by_cases c62 : t366 = (wrap64 ((wrap64 (t371 + (a1.size : Int))) + 1))
            ·rw [if_pos c62] at H
             have c62b0 := beq_iff_eq.mpr c62
             have c62b1 := bne_eq_false_iff_eq.mpr c62
             clear c62
             obtain rfl := Option.some.inj H
             go_wp2_with (first | ((with_reducible refine gate_callee (f := 9) rfl ?_); refine goesL_ (some 104) rfl rfl Tryd.func9 k1_ rfl #[.string ((a1 ++ (⟨#[10]⟩ : ByteArray)) ++ a2)] rfl g1_ ?_; (with_reducible refine (ntriples_Parse.calls kj29 ((a1 ++ (⟨#[10]⟩ : ByteArray)) ++ a2) t365 t366 t367 _ A43.out).mono ?_); rintro e w63 ⟨v368, rfl, ho0, hb⟩; refine ⟨_, rfl, ?_⟩; have HO369 := Aside0.mk (Kd.R_lower (Kd.R_new' ho0 (Kd.R_lt (by have G0 := HO_12; exact z3_))) (below_size b1_)); replace HO_12 := Aside0.mk (Kd.R_elder' (by have G0 := HO_12; exact z3_) (Kd.R_base ho0) hb); replace HB := Aside0.mk (below_step b1_ hb); (try clear hb); (try clear hb2); (try clear hk); (try clear hi); (try clear ho0)) | ((with_reducible refine gate_callee (f := 9) rfl ?_); refine goesL_ (some 110) rfl rfl Tryd.func9 k1_ rfl #[.string a2] rfl g1_ ?_; (with_reducible refine (ntriples_Parse.calls kj29 a2 t370 t371 t372 _ A44.out).mono ?_); rintro e w64 ⟨v373, rfl, ho0, hb⟩; refine ⟨_, rfl, ?_⟩; have HO374 := Aside0.mk (Kd.R_lower (Kd.R_new' (Kd.R_new' ho0 (Kd.R_lt (by have G0 := HO_12; exact z3_))) (Kd.R_lt (by have G0 := HO369; exact z3_))) (below_size b1_)); replace HO_12 := Aside0.mk (Kd.R_elder' (by have G0 := HO_12; exact z3_) (Kd.R_base ho0) hb); replace HO369 := Aside0.mk (Kd.R_elder' (by have G0 := HO369; exact z3_) (Kd.R_base ho0) hb); replace HB := Aside0.mk (below_step b1_ hb); (try clear hb); (try clear hb2); (try clear hk); (try clear hi); (try clear ho0)) | ((with_reducible refine gate_callee (f := 8) rfl ?_); refine goesL_ (some 115) rfl rfl Tryd.func8 k1_ rfl #[.int .i64 t372] rfl g1_ ?_; (with_reducible refine (rhizomelaw05_num.calls t372 t375 _ A45.out).mono ?_); rintro e w' ⟨rfl, ⟨nd, rfl⟩⟩; refine ⟨_, rfl, ?_⟩) | ((with_reducible refine gate_callee (f := 8) rfl ?_); refine goesL_ (some 118) rfl rfl Tryd.func8 k1_ rfl #[.int .i64 t367] rfl g1_ ?_; (with_reducible refine (rhizomelaw05_num.calls t367 t384 _ A59.out).mono ?_); rintro e w' ⟨rfl, ⟨nd, rfl⟩⟩; refine ⟨_, rfl, ?_⟩) | ((with_reducible refine gate_callee (f := 8) rfl ?_); refine goesL_ (some 120) rfl rfl Tryd.func8 k1_ rfl #[.int .i64 t372] rfl g1_ ?_; (with_reducible refine (rhizomelaw05_num.calls t372 t385 _ A60.out).mono ?_); rintro e w' ⟨rfl, ⟨nd, rfl⟩⟩; refine ⟨_, rfl, ?_⟩; obtain ⟨Ao65, co65, eo65⟩ := Kd.R_slice HO369.out; subst eo65))
             go_ret
             exact ⟨e2_, b1_⟩
            rw [if_neg c62] at H
            exact absurd H (by simp)
           rw [if_neg c61] at H
           exact absurd H (by simp)
          rw [if_neg c42] at H
          exact absurd H (by simp)
         rw [if_neg c41] at H
         exact absurd H (by simp)
      rw [if_neg c27] at H
      have c27b0 := beq_eq_false_iff_ne.mpr c27
      have c27b1 := bne_iff_ne.mpr c27
      obtain rfl := Option.some.inj H
      go_wp2_with (first | ((with_reducible refine gate_callee (f := 9) rfl ?_); refine goesL_ (some 69) rfl rfl Tryd.func9 k1_ rfl #[.string a1] rfl g1_ ?_; (with_reducible refine (ntriples_Parse.calls kj13 a1 t349 t350 t351 _ A25.out).mono ?_); rintro e w66 ⟨v352, rfl, ho0, hb⟩; refine ⟨_, rfl, ?_⟩; have HO353 := Aside0.mk (Kd.R_lower ho0 (below_size b1_)); replace HB := Aside0.mk (below_step b1_ hb); (try clear hb); (try clear hb2); (try clear hk); (try clear hi); (try clear ho0)) | ((with_reducible refine gate_callee (f := 8) rfl ?_); refine goesL_ (some 74) rfl rfl Tryd.func8 k1_ rfl #[.int .i64 t351] rfl g1_ ?_; (with_reducible refine (rhizomelaw05_num.calls t351 t354 _ A26.out).mono ?_); rintro e w' ⟨rfl, ⟨nd, rfl⟩⟩; refine ⟨_, rfl, ?_⟩))
      go_ret
      exact ⟨e2_, b1_⟩
 replace c5 := Bool.eq_false_iff.mpr c5
 subst c5
 rw [if_neg (show ¬ (false = true) by decide)] at H
 exact absurd H (by simp)
end Go.Proofs.YtjnhdamilbcmpaaDoor.PTm

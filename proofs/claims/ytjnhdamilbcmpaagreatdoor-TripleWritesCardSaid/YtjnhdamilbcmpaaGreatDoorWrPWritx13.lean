import Derived.Test.YtjnhdamilbcmpaaGreatDoorWrPWritx0
import Derived.Test.YtjnhdamilbcmpaaGreatDoorWrPWritx12
namespace Go.Proofs.YtjnhdamilbcmpaaGreatDoor.PWrit
open Go.RowKit Go.Proofs.YtjnhdamilbcmpaaGreatDoorW.PrintWords Go.Proofs.YtjnhdamilbcmpaaGreatDoorW.PrintLast Go.Proofs.YtjnhdamilbcmpaaGreatDoorW.PrintMore
attribute [local go_sem] max2_int min2_int max_two min_two max_three min_three max_four min_four
set_option linter.unusedVariables false
set_option linter.unusedSimpArgs false
def rhizomeref01_Runes.l0 : Nat → ByteArray → List (S109) → Int → Option ((List (S109)) × Int)
 | 0, _, _, _ => none
 | k + 1, x0, x4, x5 => if x5 < (x0.size : Int) then (if 0 ≤ x5 then (if x5 ≤ (mn (x0.size : Int) (wrap64 (x5 + 4))) then (if (mn (x0.size : Int) (wrap64 (x5 + 4))) ≤ (x0.size : Int) then ((rhizomeref01_Get.f k (x0.extract (x5 : Int).toNat ((mn (x0.size : Int) (wrap64 (x5 + 4))) : Int).toNat)).bind fun bt316 => (if bt316.2 = 0 then (some (x4, x5)) else (if x4.length < 8796093022208 then (rhizomeref01_Runes.l0 k x0 (x4 ++ [(⟨x5, bt316.1⟩ : S109)]) (wrap64 (x5 + bt316.2))) else (none)))) else (none)) else (none)) else (none)) else (some (x4, x5))
def rhizomeref01_Runes.f (k : Nat) (a0 : ByteArray) : Option ((List (S109)) × Int) := rhizomeref01_Runes.l0 k a0 ([] : List (S109)) 0
set_option maxHeartbeats 8000000 in
set_option maxRecDepth 100000 in
theorem rhizomeref01_Runes.calls (k : Nat) (a0 : ByteArray) (r1 : List (S109)) (r2 : Int) (w : World) (h : rhizomeref01_Runes.f k a0 = some (r1, r2)) :
  Calls Tryz.prog 34 #[.string a0] w fun e w' => ∃ v0_ : Value, e = .returned (.tuple #[v0_, .int .i64 r2]) ∧ Kd.R k109 109 w' w.heap.size (fun _ => True) v0_ r1 ∧ Below w.heap.size w w' := by
 have hu109 := Tryz.underlying109
 have HB := Aside0.mk (Below.refl w.heap.size w)
 have H : (rhizomeref01_Runes.l0 k a0 ([] : List (S109)) 0) = some (r1, r2) := h
 clear h
 have H' := Aside0.mk H
 clear H
 go_enter Tryz.func34, Tryz.ntmps34
 go_wp2
 go_loopg [4, 5] k (fun kq v4 v5 w' => ∃ (x4_1 : List (S109)) (x5_1 : Int), v5 = .int .i64 x5_1 ∧ Aside0 (rhizomeref01_Runes.l0 kq a0 x4_1 x5_1 = some (r1, r2)) ∧ Aside0 (kq ≤ k) ∧ Aside0 (Kd.R k109 109 w' w.heap.size (fun _ => True) v4 x4_1) ∧ Aside0 (Below w.heap.size w w'))
 case atStart => exact ⟨(([] : List (S109))), (0), e1_, H', ⟨Nat.le_refl _⟩, ⟨z28_⟩, ⟨b1_⟩⟩
 case round =>
  clear H'
  obtain ⟨x4_1, x5_1, rfl, HA, HK1, HO_4, HB⟩ := hrel
  cases gk with
  | zero => exact absurd HA.out (by simp [rhizomeref01_Runes.l0])
  | succ k1 =>
   have H := HA.out
   clear HA
   simp only [rhizomeref01_Runes.l0] at H
   by_cases c2 : x5_1 < (a0.size : Int)
   ·rw [if_pos c2] at H
    have c2b0 : decide (x5_1 < (a0.size : Int)) = true := decide_eq_true c2
    clear c2
    obtain ⟨ji3, hji3⟩ : ∃ j_ : Int, (mn (a0.size : Int) (wrap64 (x5_1 + 4))) = j_ := ⟨_, rfl⟩
    replace H : (if 0 ≤ x5_1 then (if x5_1 ≤ (ji3) then (if (ji3) ≤ (a0.size : Int) then ((rhizomeref01_Get.f k1 (a0.extract (x5_1 : Int).toNat ((ji3) : Int).toNat)).bind fun bt316 => (if bt316.2 = 0 then (some (x4_1, x5_1)) else (if x4_1.length < 8796093022208 then (rhizomeref01_Runes.l0 k1 a0 (x4_1 ++ [(⟨x5_1, bt316.1⟩ : S109)]) (wrap64 (x5_1 + bt316.2))) else (none)))) else (none)) else (none)) else (none)) = some (r1, r2) := by first | (rw [hji3] at H; exact H) | (simp only [hji3] at H ⊢; exact H)
    have hji3_ : (if (wrap64 (x5_1 + 4)) < (a0.size : Int) then (wrap64 (x5_1 + 4)) else (a0.size : Int)) = ji3 := hji3
    by_cases c4 : 0 ≤ x5_1
    ·rw [if_pos c4] at H
     have c4b0 := eq_true c4
     have c4b1 : decide (0 ≤ x5_1) = true := decide_eq_true c4
     clear c4
     by_cases c5 : x5_1 ≤ (ji3)
     ·rw [if_pos c5] at H
      have c5b0 := eq_true c5
      have c5b1 : decide (x5_1 ≤ (ji3)) = true := decide_eq_true c5
      clear c5
      by_cases c6 : (ji3) ≤ (a0.size : Int)
      ·rw [if_pos c6] at H
       have c6b0 := eq_true c6
       have c6b1 : decide ((ji3) ≤ (a0.size : Int)) = true := decide_eq_true c6
       clear c6
       replace H := Option.bind_eq_some_iff.mp H
       obtain ⟨⟨t316, t317⟩, A70, H⟩ := H
       replace H : (if t317 = 0 then (some (x4_1, x5_1)) else (if x4_1.length < 8796093022208 then (rhizomeref01_Runes.l0 k1 a0 (x4_1 ++ [(⟨x5_1, t316⟩ : S109)]) (wrap64 (x5_1 + t317))) else (none))) = some (r1, r2) := H
       have A7 := Aside0.mk A70
       clear A70
       by_cases c8 : t317 = 0
       ·rw [if_pos c8] at H
        have c8b0 : (t317 == 0) = true := beq_iff_eq.mpr c8
        have c8b1 : (t317 != 0) = false := bne_eq_false_iff_eq.mpr c8
        clear c8
        simp only [Option.some.injEq, Prod.mk.injEq] at H
        obtain ⟨rfl, rfl⟩ := H
        go_wp2_with (first | ((with_reducible refine gate_callee (f := 48) rfl ?_); refine goesL_ (some 21) rfl rfl Tryz.func48 k1_ rfl #[.string (a0.extract (x5_1 : Int).toNat ((ji3) : Int).toNat)] rfl z38_ ?_; (with_reducible refine (rhizomeref01_Get.calls k1 (a0.extract (x5_1 : Int).toNat ((ji3) : Int).toNat) t316 t317 _ A7.out).mono ?_); rintro e w9 ⟨rfl, hb⟩; refine ⟨_, rfl, ?_⟩; replace HO_4 := Aside0.mk (Kd.R_below (by have G0 := HO_4; exact z1_) hb); replace HB := Aside0.mk (below_step b1_ hb); (try clear hb); (try clear hb2); (try clear hk); (try clear hi)))
        go_ret2
        exact ⟨_, by first | rfl | (simp [errW_none, errW_some] <;> rfl) | (simp only [← hji3]; first | rfl | (simp [errW_none, errW_some] <;> rfl)) | (simp [*, errW_none, errW_some] <;> rfl), by have G0 := HO_4; exact z1_, b1_⟩
       ·rw [if_neg c8] at H
        have c8b0 : (t317 == 0) = false := beq_eq_false_iff_ne.mpr c8
        have c8b1 : (t317 != 0) = true := bne_iff_ne.mpr c8
        by_cases c10 : x4_1.length < 8796093022208
        ·rw [if_pos c10] at H
         have LMc10 := Aside0.mk c10
         clear c10
         obtain ⟨y318, hy318⟩ : ∃ y_ : List (S109), y_ = (x4_1 ++ [(⟨x5_1, t316⟩ : S109)]) := ⟨_, rfl⟩
         replace H : (rhizomeref01_Runes.l0 k1 a0 y318 (wrap64 (x5_1 + t317))) = some (r1, r2) := by first | (rw [hy318]; with_reducible exact H) | (have H2_ := (Option.bind_some _ _).symm.trans H; rw [hy318]; with_reducible exact H2_) | (have H2_ := (Option.bind_some _ _).symm.trans H; with_reducible exact H2_) | with_reducible exact H | (rw [hy318]; exact H) | exact H
         have Ny318 := Aside0.mk hy318
         clear hy318
         have H' := Aside0.mk H
         clear H
         go_wp2_with (first | ((with_reducible refine gate_callee (f := 48) rfl ?_); refine goesL_ (some 21) rfl rfl Tryz.func48 k1_ rfl #[.string (a0.extract (x5_1 : Int).toNat ((ji3) : Int).toNat)] rfl z38_ ?_; (with_reducible refine (rhizomeref01_Get.calls k1 (a0.extract (x5_1 : Int).toNat ((ji3) : Int).toNat) t316 t317 _ A7.out).mono ?_); rintro e w11 ⟨rfl, hb⟩; refine ⟨_, rfl, ?_⟩; replace HO_4 := Aside0.mk (Kd.R_below (by have G0 := HO_4; exact z1_) hb); replace HB := Aside0.mk (below_step b1_ hb); (try clear hb); (try clear hb2); (try clear hk); (try clear hi)) | ((with_reducible refine gate_builtin (b := .append) (xs := #[(.tmp 26), .tmp 30]) rfl ?_); at_builtin; refine Kd.R_append k109 (w0 := w) w.heap.size rfl (.tmp 26) (.tmp 30) 82 109 (.agg #[(.int .i64 0), (.int .i64 0)]) 16 rfl Tryz.underlying82 info109 rfl (by decide) (by omega) u4 x4_1 (⟨x5_1, t316⟩ : S109) [.int .i64 x5_1, .int .i64 t316] (fun _ => True) (fun _ => False) rfl rfl ?aP (fun _ hk => hk.elim) ?aF ?aO ?aB ?aS ?aL ?_; (case aP => exact k109_mkM _ _ _ (⟨x5_1, t316⟩ : S109)); (case aB => exact b1_); (case aF => exact (fun _ _ => trivial)); (case aO => exact (by have G0 := HO_4; exact z1_)); (case aS => exact (below_size b1_)); (case aL => have := LMc10.out; omega); intro v319 w12 ho hb hg hat; rw [← Ny318.out] at ho; have n0_ := Aside0.mk (hb); have n1_ := Aside0.mk (ho); clear HB; clear HO_4; have HB := n0_; have HO320 := n1_; clear n0_ n1_; clear ho hb hg hat))
         go_roundg k1
         case measure => have := HK1.out; omega
         case rel => exact ⟨(y318), (wrap64 (x5_1 + t317)), e1_, H', ⟨by have := HK1.out; omega⟩, ⟨by have G0 := HO320; exact z1_⟩, ⟨b1_⟩⟩
        ·rw [if_neg c10] at H
         exact absurd H (by simp)
      ·rw [if_neg c6] at H
       exact absurd H (by simp)
     ·rw [if_neg c5] at H
      exact absurd H (by simp)
    ·rw [if_neg c4] at H
     exact absurd H (by simp)
   ·rw [if_neg c2] at H
    have c2b0 : decide (x5_1 < (a0.size : Int)) = false := decide_eq_false c2
    clear c2
    simp only [Option.some.injEq, Prod.mk.injEq] at H
    obtain ⟨rfl, rfl⟩ := H
    go_wp2
    go_ret2
    exact ⟨_, e2_, by have G0 := HO_4; exact z1_, b1_⟩
def rhizomeref01_Valid.f (k : Nat) (a0 : ByteArray) : Option (Bool) := (rhizomeref01_Runes.f k a0).bind fun bt321 => (some (bt321.2 == (a0.size : Int)))
set_option maxHeartbeats 8000000 in
set_option maxRecDepth 100000 in
theorem rhizomeref01_Valid.calls (k : Nat) (a0 : ByteArray) (r : Bool) (w : World) (h : rhizomeref01_Valid.f k a0 = some r) :
  Calls Tryz.prog 51 #[.string a0] w fun e w' => e = .returned (.bool r) ∧ Below w.heap.size w w' := by
 have HB := Aside0.mk (Below.refl w.heap.size w)
 have H : ((rhizomeref01_Runes.f k a0).bind fun bt321 => (some (bt321.2 == (a0.size : Int)))) = some r := h
 clear h
 replace H := Option.bind_eq_some_iff.mp H
 obtain ⟨⟨t321, t322⟩, A20, H⟩ := H
 replace H : (some (t322 == (a0.size : Int))) = some r := H
 have A2 := Aside0.mk A20
 clear A20
 obtain rfl := Option.some.inj H
 go_enter Tryz.func51, Tryz.ntmps51
 go_wp2_with (first | ((with_reducible refine gate_callee (f := 34) rfl ?_); refine goesL_ (some 7) rfl rfl Tryz.func34 k1_ rfl #[.string a0] rfl g1_ ?_; (with_reducible refine (rhizomeref01_Runes.calls k a0 t321 t322 _ A2.out).mono ?_); rintro e w3 ⟨v323, rfl, ho0, hb⟩; refine ⟨_, rfl, ?_⟩; have HO324 := Aside0.mk (Kd.R_lower ho0 (below_size b1_)); replace HB := Aside0.mk (below_step b1_ hb); (try clear hb); (try clear hb2); (try clear hk); (try clear hi); (try clear ho0)))
 go_ret
 exact ⟨e2_, b1_⟩
def rhizomeref02_in.l0 : Nat → Int → ByteArray → Int → Option (Bool)
 | 0, _, _, _ => none
 | k + 1, x0, x1, x5 => if x5 < (x1.size : Int) then (if 0 ≤ x5 then (if (bt x1 x5) = x0 then (some true) else (rhizomeref02_in.l0 k x0 x1 (wrap64 (x5 + 1)))) else (none)) else (some false)
def rhizomeref02_in.f (k : Nat) (a0 : Int) (a1 : ByteArray) : Option (Bool) := rhizomeref02_in.l0 k a0 a1 0
set_option maxHeartbeats 8000000 in
set_option maxRecDepth 100000 in
theorem rhizomeref02_in.calls (k : Nat) (a0 : Int) (a1 : ByteArray) (r : Bool) (w : World) (h : rhizomeref02_in.f k a0 a1 = some r) :
  Calls Tryz.prog 90 #[.int .u8 a0, .string a1] w fun e w' => e = .returned (.bool r) ∧ Drawn0 w w' := by
 have H : (rhizomeref02_in.l0 k a0 a1 0) = some r := h
 clear h
 have H' := Aside0.mk H
 clear H
 go_enter Tryz.func90, Tryz.ntmps90
 go_wp2
 go_loopg [5] k (fun kq v5 w' => ∃ (x5_1 : Int), v5 = .int .i64 x5_1 ∧ Aside0 (rhizomeref02_in.l0 kq a0 a1 x5_1 = some r) ∧ Aside0 (kq ≤ k) ∧ Drawn0 w w')
 case atStart => exact ⟨(0), e1_, H', ⟨Nat.le_refl _⟩, z2_⟩
 case round =>
  clear H'
  try clear p2
  obtain ⟨x5_1, rfl, HA, HK1, ⟨m1, rfl⟩⟩ := hrel
  cases gk with
  | zero => exact absurd HA.out (by simp [rhizomeref02_in.l0])
  | succ k1 =>
   have H := HA.out
   clear HA
   simp only [rhizomeref02_in.l0] at H
   by_cases c3 : x5_1 < (a1.size : Int)
   ·rw [if_pos c3] at H
    have c3b0 : decide (x5_1 < (a1.size : Int)) = true := decide_eq_true c3
    clear c3
    by_cases c4 : 0 ≤ x5_1
    ·rw [if_pos c4] at H
     have c4b0 : decide (0 ≤ x5_1) = true := decide_eq_true c4
     clear c4
     by_cases c6 : (bt a1 x5_1) = a0
     ·rw [if_pos c6] at H
      have c6b0 : ((bt a1 x5_1) == a0) = true := beq_iff_eq.mpr c6
      have c6b1 : ((bt a1 x5_1) != a0) = false := bne_eq_false_iff_eq.mpr c6
      clear c6
      obtain rfl := Option.some.inj H
      have p5 : 0 ≤ (x5_1 : Int) := of_decide_eq_true a1_
      have q5 : x5_1 < (a1.size : Int) := of_decide_eq_true a1_
      have hx5 := bt_at a1 x5_1
      replace p5 := eq_true p5
      replace q5 := eq_true q5
      go_wp2
      go_ret
      exact ⟨e1_, z2_⟩
     ·rw [if_neg c6] at H
      have c6b0 : ((bt a1 x5_1) == a0) = false := beq_eq_false_iff_ne.mpr c6
      have c6b1 : ((bt a1 x5_1) != a0) = true := bne_iff_ne.mpr c6
      have H' := Aside0.mk H
      clear H
      have p5 : 0 ≤ (x5_1 : Int) := of_decide_eq_true a1_
      have q5 : x5_1 < (a1.size : Int) := of_decide_eq_true a1_
      have hx5 := bt_at a1 x5_1
      replace p5 := eq_true p5
      replace q5 := eq_true q5
      go_wp2
      go_roundg k1
      case measure => have := HK1.out; omega
      case rel => exact ⟨(wrap64 (x5_1 + 1)), e1_, H', ⟨by have := HK1.out; omega⟩, z2_⟩
    ·rw [if_neg c4] at H
     exact absurd H (by simp)
   ·rw [if_neg c3] at H
    have c3b0 : decide (x5_1 < (a1.size : Int)) = false := decide_eq_false c3
    clear c3
    obtain rfl := Option.some.inj H
    go_wp2
    go_ret
    exact ⟨e1_, z2_⟩
mutual
def rhizomeref02_IRI.j0 : Nat → ByteArray → Bool → Option (Bool)
 | 0, _, _ => none
 | k + 1, x0, x16 => if x16 = true then (some false) else (rhizomeref02_IRI.l0 k x0 0)
def rhizomeref02_IRI.l0 : Nat → ByteArray → Int → Option (Bool)
 | 0, _, _ => none
 | k + 1, x0, x3 => if x3 < (x0.size : Int) then (if 0 ≤ x3 then (if (bt x0 x3) ≤ 32 then (some false) else ((rhizomeref02_in.f k (bt x0 x3) (⟨#[60, 62, 123, 125, 124, 94]⟩ : ByteArray)).bind fun t326 => (if t326 = true then (some false) else (if (bt x0 x3) = 34 then (some false) else (if (bt x0 x3) = 92 then (some false) else (if (bt x0 x3) = 96 then (some false) else (rhizomeref02_IRI.l0 k x0 (wrap64 (x3 + 1))))))))) else (none)) else (some true)
end
def rhizomeref02_IRI.f (k : Nat) (a0 : ByteArray) : Option (Bool) := if (a0.size : Int) < 1 then (rhizomeref02_IRI.j0 k a0 true) else (if (a0.size : Int) > 1000 then (rhizomeref02_IRI.j0 k a0 true) else ((rhizomeref01_Valid.f k a0).bind fun t325 => (rhizomeref02_IRI.j0 k a0 (!t325))))
set_option maxHeartbeats 8000000 in
set_option maxRecDepth 100000 in
theorem rhizomeref02_IRI.calls (k : Nat) (a0 : ByteArray) (r : Bool) (w : World) (h : rhizomeref02_IRI.f k a0 = some r) :
  Calls Tryz.prog 52 #[.string a0] w fun e w' => e = .returned (.bool r) ∧ Below w.heap.size w w' := by
 have HB := Aside0.mk (Below.refl w.heap.size w)
 have H : (if (a0.size : Int) < 1 then (rhizomeref02_IRI.j0 k a0 true) else (if (a0.size : Int) > 1000 then (rhizomeref02_IRI.j0 k a0 true) else ((rhizomeref01_Valid.f k a0).bind fun t325 => (rhizomeref02_IRI.j0 k a0 (!t325))))) = some r := h
 clear h
 have HC2 := Aside0.mk H
 clear H
 go_enter Tryz.func52, Tryz.ntmps52
 go_upto_region 1 with (fail)
 go_cut [16] (fun v16 wc => ∃ (kq : Nat) (x16_1 : Bool), v16 = .bool x16_1 ∧ Aside0 (rhizomeref02_IRI.j0 kq a0 x16_1 = some r) ∧ Aside0 (kq ≤ k) ∧ Aside0 (Below w.heap.size w wc))
 case first =>
  have H := HC2.out
  clear HC2
  by_cases c3 : (a0.size : Int) < 1
  ·rw [if_pos c3] at H
   have c3b0 : decide ((a0.size : Int) < 1) = true := decide_eq_true c3
   have c3b1 : decide (a0.size < 1) = true := decide_eq_true (by omega)
   clear c3
   (first | rw [c3b0] | (simp only [i64_w, i32_w]; rw [c3b0]) | skip)
   have H' := Aside0.mk H
   clear H
   go_wp2
   go_meet
   case rel => exact ⟨_, (true), e1_, H', ⟨z10_⟩, ⟨b1_⟩⟩
  ·rw [if_neg c3] at H
   have c3b0 : decide ((a0.size : Int) < 1) = false := decide_eq_false c3
   have c3b1 : decide (a0.size < 1) = false := decide_eq_false (by omega)
   clear c3
   (first | rw [c3b0] | (simp only [i64_w, i32_w]; rw [c3b0]) | skip)
   by_cases c4 : (a0.size : Int) > 1000
   ·rw [if_pos c4] at H
    have c4b0 : decide (1000 < (a0.size : Int)) = true := decide_eq_true c4
    have c4b1 : decide (1000 < a0.size) = true := decide_eq_true (by omega)
    clear c4
    have H' := Aside0.mk H
    clear H
    go_wp2
    go_meet
    case rel => exact ⟨_, (true), e1_, H', ⟨z10_⟩, ⟨b1_⟩⟩
   ·rw [if_neg c4] at H
    have c4b0 : decide (1000 < (a0.size : Int)) = false := decide_eq_false c4
    have c4b1 : decide (1000 < a0.size) = false := decide_eq_false (by omega)
    clear c4
    replace H := Option.bind_eq_some_iff.mp H
    obtain ⟨t325, A50, H⟩ := H
    replace H : (rhizomeref02_IRI.j0 k a0 (!t325)) = some r := H
    have A5 := Aside0.mk A50
    clear A50
    have H' := Aside0.mk H
    clear H
    go_wp2_with (first | (go_at_call 51; (with_reducible refine (rhizomeref01_Valid.calls k a0 t325 _ A5.out).mono ?_); rintro e w6 ⟨rfl, hb⟩; replace HB := Aside0.mk (below_step b1_ hb); (try clear hb); (try clear hb2); (try clear hk); (try clear hi)))
    go_meet
    case rel => exact ⟨_, (!t325), e1_, H', ⟨z10_⟩, ⟨b1_⟩⟩
 case rest =>
  clear HC2
  try clear p2
  try clear c3
  try clear c3b0
  try clear c3b1
  try clear c4
  try clear c4b0
  try clear c4b1
  try clear c5
  obtain ⟨kq, x16_1, rfl, HA, HJ1, HB⟩ := hcut
  cases kq with
  | zero => exact absurd HA.out (by simp [rhizomeref02_IRI.j0])
  | succ kj1 =>
   have H := HA.out
   clear HA
   simp only [rhizomeref02_IRI.j0] at H
   by_cases c7 : x16_1 = true
   ·subst c7
    have H1 : (some false) = some r := by rw [if_pos rfl] at H; exact H
    clear H
    have H := H1
    clear H1
    obtain rfl := Option.some.inj H
    go_wp2
    go_ret
    exact ⟨e2_, b1_⟩
   ·replace c7 := Bool.eq_false_iff.mpr c7
    subst c7
    have H1 : (rhizomeref02_IRI.l0 kj1 a0 0) = some r := by rw [if_neg (show ¬ (false = true) by decide)] at H; exact H
    clear H
    have H := H1
    clear H1
    have H' := Aside0.mk H
    clear H
    go_wp2
    go_loopg [3] kj1 (fun kq v3 w' => ∃ (x3_2 : Int), v3 = .int .i64 x3_2 ∧ Aside0 (rhizomeref02_IRI.l0 kq a0 x3_2 = some r) ∧ Aside0 (kq ≤ kj1) ∧ Aside0 (Below w.heap.size w w'))
    case atStart => exact ⟨(0), e1_, H', ⟨Nat.le_refl _⟩, ⟨b1_⟩⟩
    case round =>
     clear H'
     try clear p2
     try clear c3
     try clear c3b0
     try clear c3b1
     try clear c4
     try clear c4b0
     try clear c4b1
     try clear c5
     try clear c7
     try clear p2
     obtain ⟨x3_2, rfl, HA, HK2, HB⟩ := hrel
     cases gk with
     | zero => exact absurd HA.out (by simp [rhizomeref02_IRI.l0])
     | succ k2 =>
      have H := HA.out
      clear HA
      simp only [rhizomeref02_IRI.l0] at H
      by_cases c8 : x3_2 < (a0.size : Int)
      ·rw [if_pos c8] at H
       have c8b0 : decide (x3_2 < (a0.size : Int)) = true := decide_eq_true c8
       clear c8
       by_cases c9 : 0 ≤ x3_2
       ·rw [if_pos c9] at H
        have c9b0 : decide (0 ≤ x3_2) = true := decide_eq_true c9
        clear c9
        by_cases c11 : (bt a0 x3_2) ≤ 32
        ·rw [if_pos c11] at H
         have c11b0 : decide ((bt a0 x3_2) ≤ 32) = true := decide_eq_true c11
         clear c11
         obtain rfl := Option.some.inj H
         have p10 : 0 ≤ (x3_2 : Int) := of_decide_eq_true a1_
         have q10 : x3_2 < (a0.size : Int) := of_decide_eq_true a1_
         have hx10 := bt_at a0 x3_2
         replace p10 := eq_true p10
         replace q10 := eq_true q10
         go_wp2
         go_ret
         exact ⟨e2_, b1_⟩
        ·rw [if_neg c11] at H
         have c11b0 : decide ((bt a0 x3_2) ≤ 32) = false := decide_eq_false c11
         clear c11
         replace H := Option.bind_eq_some_iff.mp H
         obtain ⟨t326, A130, H⟩ := H
         replace H : (if t326 = true then (some false) else (if (bt a0 x3_2) = 34 then (some false) else (if (bt a0 x3_2) = 92 then (some false) else (if (bt a0 x3_2) = 96 then (some false) else (rhizomeref02_IRI.l0 k2 a0 (wrap64 (x3_2 + 1))))))) = some r := H
         have A13 := Aside0.mk A130
         clear A130
         by_cases c14 : t326 = true
         ·subst c14
          have H1 : (some false) = some r := by rw [if_pos rfl] at H; exact H
          clear H
          have H := H1
          clear H1
          obtain rfl := Option.some.inj H
          have p10 : 0 ≤ (x3_2 : Int) := of_decide_eq_true a1_
          have q10 : x3_2 < (a0.size : Int) := of_decide_eq_true a1_
          have hx10 := bt_at a0 x3_2
          replace p10 := eq_true p10
          replace q10 := eq_true q10
          have p12 : 0 ≤ (x3_2 : Int) := of_decide_eq_true a1_
          have q12 : x3_2 < (a0.size : Int) := of_decide_eq_true a1_
          have hx12 := bt_at a0 x3_2
          replace p12 := eq_true p12
          replace q12 := eq_true q12
          go_wp2_with (first | (go_at_call 90; (with_reducible refine (rhizomeref02_in.calls k2 (bt a0 x3_2) (⟨#[60, 62, 123, 125, 124, 94]⟩ : ByteArray) true _ A13.out).mono ?_); rintro e w' ⟨rfl, ⟨nd, rfl⟩⟩))
          go_ret
          exact ⟨e2_, b1_⟩
         ·replace c14 := Bool.eq_false_iff.mpr c14
          subst c14
          have H1 : (if (bt a0 x3_2) = 34 then (some false) else (if (bt a0 x3_2) = 92 then (some false) else (if (bt a0 x3_2) = 96 then (some false) else (rhizomeref02_IRI.l0 k2 a0 (wrap64 (x3_2 + 1)))))) = some r := by rw [if_neg (show ¬ (false = true) by decide)] at H; exact H
          clear H
          have H := H1
          clear H1
          by_cases c16 : (bt a0 x3_2) = 34
          ·rw [if_pos c16] at H
           have c16b0 : ((bt a0 x3_2) == 34) = true := beq_iff_eq.mpr c16
           have c16b1 : ((bt a0 x3_2) != 34) = false := bne_eq_false_iff_eq.mpr c16
           clear c16
           obtain rfl := Option.some.inj H
           have p10 : 0 ≤ (x3_2 : Int) := of_decide_eq_true a1_
           have q10 : x3_2 < (a0.size : Int) := of_decide_eq_true a1_
           have hx10 := bt_at a0 x3_2
           replace p10 := eq_true p10
           replace q10 := eq_true q10
           have p12 : 0 ≤ (x3_2 : Int) := of_decide_eq_true a1_
           have q12 : x3_2 < (a0.size : Int) := of_decide_eq_true a1_
           have hx12 := bt_at a0 x3_2
           replace p12 := eq_true p12
           replace q12 := eq_true q12
           go_wp2_with (first | (go_at_call 90; (with_reducible refine (rhizomeref02_in.calls k2 (bt a0 x3_2) (⟨#[60, 62, 123, 125, 124, 94]⟩ : ByteArray) false _ A13.out).mono ?_); rintro e w' ⟨rfl, ⟨nd, rfl⟩⟩; have p15 : 0 ≤ (x3_2 : Int) := of_decide_eq_true a1_; have q15 : x3_2 < (a0.size : Int) := of_decide_eq_true a1_; have hx15 := bt_at a0 x3_2; replace p15 := eq_true p15; replace q15 := eq_true q15))
           go_ret
           exact ⟨e2_, b1_⟩
          ·rw [if_neg c16] at H
           have c16b0 : ((bt a0 x3_2) == 34) = false := beq_eq_false_iff_ne.mpr c16
           have c16b1 : ((bt a0 x3_2) != 34) = true := bne_iff_ne.mpr c16
           by_cases c18 : (bt a0 x3_2) = 92
           ·rw [if_pos c18] at H
            have c18b0 : ((bt a0 x3_2) == 92) = true := beq_iff_eq.mpr c18
            have c18b1 : ((bt a0 x3_2) != 92) = false := bne_eq_false_iff_eq.mpr c18
            clear c18
            obtain rfl := Option.some.inj H
            have p10 : 0 ≤ (x3_2 : Int) := of_decide_eq_true a1_
            have q10 : x3_2 < (a0.size : Int) := of_decide_eq_true a1_
            have hx10 := bt_at a0 x3_2
            replace p10 := eq_true p10
            replace q10 := eq_true q10
            have p12 : 0 ≤ (x3_2 : Int) := of_decide_eq_true a1_
            have q12 : x3_2 < (a0.size : Int) := of_decide_eq_true a1_
            have hx12 := bt_at a0 x3_2
            replace p12 := eq_true p12
            replace q12 := eq_true q12
            go_wp2_with (first | (go_at_call 90; (with_reducible refine (rhizomeref02_in.calls k2 (bt a0 x3_2) (⟨#[60, 62, 123, 125, 124, 94]⟩ : ByteArray) false _ A13.out).mono ?_); rintro e w' ⟨rfl, ⟨nd, rfl⟩⟩; have p15 : 0 ≤ (x3_2 : Int) := of_decide_eq_true a1_; have q15 : x3_2 < (a0.size : Int) := of_decide_eq_true a1_; have hx15 := bt_at a0 x3_2; replace p15 := eq_true p15; replace q15 := eq_true q15; have p17 : 0 ≤ (x3_2 : Int) := of_decide_eq_true a1_; have q17 : x3_2 < (a0.size : Int) := of_decide_eq_true a1_; have hx17 := bt_at a0 x3_2; replace p17 := eq_true p17; replace q17 := eq_true q17))
            go_ret
            exact ⟨e2_, b1_⟩
           ·rw [if_neg c18] at H
            have c18b0 : ((bt a0 x3_2) == 92) = false := beq_eq_false_iff_ne.mpr c18
            have c18b1 : ((bt a0 x3_2) != 92) = true := bne_iff_ne.mpr c18
            by_cases c20 : (bt a0 x3_2) = 96
            ·rw [if_pos c20] at H
             have c20b0 : ((bt a0 x3_2) == 96) = true := beq_iff_eq.mpr c20
             have c20b1 : ((bt a0 x3_2) != 96) = false := bne_eq_false_iff_eq.mpr c20
             clear c20
             obtain rfl := Option.some.inj H
             have p10 : 0 ≤ (x3_2 : Int) := of_decide_eq_true a1_
             have q10 : x3_2 < (a0.size : Int) := of_decide_eq_true a1_
             have hx10 := bt_at a0 x3_2
             replace p10 := eq_true p10
             replace q10 := eq_true q10
             have p12 : 0 ≤ (x3_2 : Int) := of_decide_eq_true a1_
             have q12 : x3_2 < (a0.size : Int) := of_decide_eq_true a1_
             have hx12 := bt_at a0 x3_2
             replace p12 := eq_true p12
             replace q12 := eq_true q12
             go_wp2_with (first | (go_at_call 90; (with_reducible refine (rhizomeref02_in.calls k2 (bt a0 x3_2) (⟨#[60, 62, 123, 125, 124, 94]⟩ : ByteArray) false _ A13.out).mono ?_); rintro e w' ⟨rfl, ⟨nd, rfl⟩⟩; have p15 : 0 ≤ (x3_2 : Int) := of_decide_eq_true a1_; have q15 : x3_2 < (a0.size : Int) := of_decide_eq_true a1_; have hx15 := bt_at a0 x3_2; replace p15 := eq_true p15; replace q15 := eq_true q15; have p17 : 0 ≤ (x3_2 : Int) := of_decide_eq_true a1_; have q17 : x3_2 < (a0.size : Int) := of_decide_eq_true a1_; have hx17 := bt_at a0 x3_2; replace p17 := eq_true p17; replace q17 := eq_true q17; have p19 : 0 ≤ (x3_2 : Int) := of_decide_eq_true a1_; have q19 : x3_2 < (a0.size : Int) := of_decide_eq_true a1_; have hx19 := bt_at a0 x3_2; replace p19 := eq_true p19; replace q19 := eq_true q19))
             go_ret
             exact ⟨e2_, b1_⟩
            ·rw [if_neg c20] at H
             have c20b0 : ((bt a0 x3_2) == 96) = false := beq_eq_false_iff_ne.mpr c20
             have c20b1 : ((bt a0 x3_2) != 96) = true := bne_iff_ne.mpr c20
             have H' := Aside0.mk H
             clear H
             have p10 : 0 ≤ (x3_2 : Int) := of_decide_eq_true a1_
             have q10 : x3_2 < (a0.size : Int) := of_decide_eq_true a1_
             have hx10 := bt_at a0 x3_2
             replace p10 := eq_true p10
             replace q10 := eq_true q10
             have p12 : 0 ≤ (x3_2 : Int) := of_decide_eq_true a1_
             have q12 : x3_2 < (a0.size : Int) := of_decide_eq_true a1_
             have hx12 := bt_at a0 x3_2
             replace p12 := eq_true p12
             replace q12 := eq_true q12
             go_wp2_with (first | (go_at_call 90; (with_reducible refine (rhizomeref02_in.calls k2 (bt a0 x3_2) (⟨#[60, 62, 123, 125, 124, 94]⟩ : ByteArray) false _ A13.out).mono ?_); rintro e w' ⟨rfl, ⟨nd, rfl⟩⟩; have p15 : 0 ≤ (x3_2 : Int) := of_decide_eq_true a1_; have q15 : x3_2 < (a0.size : Int) := of_decide_eq_true a1_; have hx15 := bt_at a0 x3_2; replace p15 := eq_true p15; replace q15 := eq_true q15; have p17 : 0 ≤ (x3_2 : Int) := of_decide_eq_true a1_; have q17 : x3_2 < (a0.size : Int) := of_decide_eq_true a1_; have hx17 := bt_at a0 x3_2; replace p17 := eq_true p17; replace q17 := eq_true q17; have p19 : 0 ≤ (x3_2 : Int) := of_decide_eq_true a1_; have q19 : x3_2 < (a0.size : Int) := of_decide_eq_true a1_; have hx19 := bt_at a0 x3_2; replace p19 := eq_true p19; replace q19 := eq_true q19))
             go_roundg k2
             case measure => have := HJ1.out; have := HK2.out; omega
             case rel => exact ⟨(wrap64 (x3_2 + 1)), e1_, H', ⟨by have := HJ1.out; have := HK2.out; omega⟩, ⟨b1_⟩⟩
       ·rw [if_neg c9] at H
        exact absurd H (by simp)
      ·rw [if_neg c8] at H
       have c8b0 : decide (x3_2 < (a0.size : Int)) = false := decide_eq_false c8
       clear c8
       obtain rfl := Option.some.inj H
       go_wp2
       go_ret
       exact ⟨e2_, b1_⟩
def rhizomeref02_Digit.f (a0 : Int) : Option (Bool) := if a0 ≥ 48 then (some (decide (a0 ≤ 57))) else (some false)
set_option maxHeartbeats 8000000 in
set_option maxRecDepth 100000 in
theorem rhizomeref02_Digit.calls (a0 : Int) (r : Bool) (w : World) (h : rhizomeref02_Digit.f a0 = some r) :
  Calls Tryz.prog 88 #[.int .u8 a0] w fun e w' => e = .returned (.bool r) ∧ Drawn0 w w' := by
 have H : (if a0 ≥ 48 then (some (decide (a0 ≤ 57))) else (some false)) = some r := h
 clear h
 by_cases c2 : a0 ≥ 48
 ·rw [if_pos c2] at H
  have c2b0 : decide (48 ≤ a0) = true := decide_eq_true c2
  clear c2
  obtain rfl := Option.some.inj H
  go_enter Tryz.func88, Tryz.ntmps88
  go_wp2
  go_ret
  exact ⟨e1_, z2_⟩
 ·rw [if_neg c2] at H
  have c2b0 : decide (48 ≤ a0) = false := decide_eq_false c2
  clear c2
  obtain rfl := Option.some.inj H
  go_enter Tryz.func88, Tryz.ntmps88
  go_wp2
  go_ret
  exact ⟨e1_, z2_⟩
def rhizomeref02_Letter.f (a0 : Int) : Option (Bool) := if a0 ≥ 65 then (if a0 ≤ 90 then (some true) else (if a0 ≥ 97 then (some (decide (a0 ≤ 122))) else (some false))) else (if a0 ≥ 97 then (some (decide (a0 ≤ 122))) else (some false))
set_option maxHeartbeats 8000000 in
set_option maxRecDepth 100000 in
theorem rhizomeref02_Letter.calls (a0 : Int) (r : Bool) (w : World) (h : rhizomeref02_Letter.f a0 = some r) :
  Calls Tryz.prog 91 #[.int .u8 a0] w fun e w' => e = .returned (.bool r) ∧ Drawn0 w w' := by
 have H : (if a0 ≥ 65 then (if a0 ≤ 90 then (some true) else (if a0 ≥ 97 then (some (decide (a0 ≤ 122))) else (some false))) else (if a0 ≥ 97 then (some (decide (a0 ≤ 122))) else (some false))) = some r := h
 clear h
 by_cases c2 : a0 ≥ 65
 ·rw [if_pos c2] at H
  have c2b0 : decide (65 ≤ a0) = true := decide_eq_true c2
  clear c2
  by_cases c3 : a0 ≤ 90
  ·rw [if_pos c3] at H
   have c3b0 : decide (a0 ≤ 90) = true := decide_eq_true c3
   clear c3
   obtain rfl := Option.some.inj H
   go_enter Tryz.func91, Tryz.ntmps91
   go_wp2
   go_ret
   exact ⟨e1_, z2_⟩
  ·rw [if_neg c3] at H
   have c3b0 : decide (a0 ≤ 90) = false := decide_eq_false c3
   clear c3
   by_cases c4 : a0 ≥ 97
   ·rw [if_pos c4] at H
    have c4b0 : decide (97 ≤ a0) = true := decide_eq_true c4
    clear c4
    obtain rfl := Option.some.inj H
    go_enter Tryz.func91, Tryz.ntmps91
    go_wp2
    go_ret
    exact ⟨e1_, z2_⟩
   ·rw [if_neg c4] at H
    have c4b0 : decide (97 ≤ a0) = false := decide_eq_false c4
    clear c4
    obtain rfl := Option.some.inj H
    go_enter Tryz.func91, Tryz.ntmps91
    go_wp2
    go_ret
    exact ⟨e1_, z2_⟩
 ·rw [if_neg c2] at H
  have c2b0 : decide (65 ≤ a0) = false := decide_eq_false c2
  clear c2
  by_cases c5 : a0 ≥ 97
  ·rw [if_pos c5] at H
   have c5b0 : decide (97 ≤ a0) = true := decide_eq_true c5
   clear c5
   obtain rfl := Option.some.inj H
   go_enter Tryz.func91, Tryz.ntmps91
   go_wp2
   go_ret
   exact ⟨e1_, z2_⟩
  ·rw [if_neg c5] at H
   have c5b0 : decide (97 ≤ a0) = false := decide_eq_false c5
   clear c5
   obtain rfl := Option.some.inj H
   go_enter Tryz.func91, Tryz.ntmps91
   go_wp2
   go_ret
   exact ⟨e1_, z2_⟩
end Go.Proofs.YtjnhdamilbcmpaaGreatDoor.PWrit

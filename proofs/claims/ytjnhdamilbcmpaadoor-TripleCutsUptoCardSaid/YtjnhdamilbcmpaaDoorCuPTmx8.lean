import Derived.Test.YtjnhdamilbcmpaaDoorCuPTmx0
import Derived.Test.YtjnhdamilbcmpaaDoorCuPTmx4
import Derived.Test.YtjnhdamilbcmpaaDoorCuPTmx5
import Derived.Test.YtjnhdamilbcmpaaDoorCuPTmx6
import Derived.Test.YtjnhdamilbcmpaaDoorCuPTmx7
namespace Go.Proofs.YtjnhdamilbcmpaaDoor.PTm
open Go.RowKit Go.Proofs.YtjnhdamilbcmpaaDoorW.PrintWords Go.Proofs.YtjnhdamilbcmpaaDoorW.PrintLast Go.Proofs.YtjnhdamilbcmpaaDoorW.PrintMore
attribute [local go_sem] max2_int min2_int max_two min_two max_three min_three max_four min_four
set_option linter.unusedVariables false
set_option linter.unusedSimpArgs false
set_option maxHeartbeats 8000000
set_option maxRecDepth 100000
def ls_escaped.j0 : Nat → Int → Int → ByteArray → Int → Option (List Int × ByteArray × Int)
 | 0, _, _, _, _ => none
 | k + 1, x1, x8, x1000, x1001 => (utf_Put.f x8).bind fun bt172 => (if bt172.2 = 0 then (some (bt172.1, x1000, x1001)) else ((ls_fail.f x1000 x1001 x1).bind fun bt176 => (some (bt172.1, bt176.1, bt176.2))))
def ls_escaped.f (k : Nat) (s0_0 : ByteArray) (s0_1 : Int) (a1 : Int) (a2 : Bool) : Option (List Int × ByteArray × Int) := (ls_ch.f s0_0 (wrap64 (s0_1 + 1)) (wrap64 (s0_1 + 1))).bind fun bt162 => (if bt162.1 = 117 then ((ls_digits.f k bt162.2.1 (wrap64 (bt162.2.2 + 1)) 4).bind fun bt165 => (ls_escaped.j0 k a1 bt165.1 bt165.2.1 bt165.2.2)) else (if bt162.1 = 85 then ((ls_digits.f k bt162.2.1 (wrap64 (bt162.2.2 + 1)) 8).bind fun bt168 => (ls_escaped.j0 k a1 bt168.1 bt168.2.1 bt168.2.2)) else ((strings_IndexByte.f (⟨#[116, 98, 110, 114, 102, 34, 39, 92]⟩ : ByteArray) bt162.1).bind fun t171 => (if a2 = true then (if bt162.1 > 0 then (if t171 ≥ 0 then (if 0 ≤ t171 then (if t171 < 8 then (ls_escaped.j0 k a1 (wrap64 (bt (⟨#[9, 8, 10, 13, 12, 34, 39, 92]⟩ : ByteArray) t171)) bt162.2.1 (wrap64 (bt162.2.2 + 1))) else (none)) else (none)) else (ls_escaped.j0 k a1 (-1) bt162.2.1 (wrap64 (bt162.2.2 + 1)))) else (ls_escaped.j0 k a1 (-1) bt162.2.1 (wrap64 (bt162.2.2 + 1)))) else (ls_escaped.j0 k a1 (-1) bt162.2.1 (wrap64 (bt162.2.2 + 1)))))))
theorem ls_escaped.calls (k : Nat) (g : Nat) (s0_0 : ByteArray) (s0_1 : Int) (a1 : Int) (a2 : Bool) (r1 : List Int) (r2 : ByteArray) (r3 : Int) (w0 w : World) (hI : IsS65 w0 w g s0_0 s0_1) (hB : Below w0.heap.size w0 w) (h : ls_escaped.f k s0_0 s0_1 a1 a2 = some (r1, r2, r3)) :
  Calls Tryd.prog 78 #[.pointer (some ⟨g, 0, none⟩), .int .i64 a1, .bool a2] w fun e w' => ∃ v0_ : Value, e = .returned (v0_) ∧ Kd.R (Kd.int .u8) 5 w' w.heap.size (fun _ => True) v0_ r1 ∧ IsS65 w0 w' g r2 r3 ∧ Below w0.heap.size w0 w' ∧ KeepBut w w' g none := by
 have HI0 := Ad.mk hI
 have HK := Ad.mk (KeepBut.refl w g none)
 have HL := Ad.mk hB.size
 clear hI
 have HW0 := Ad.mk hB.size
 have HB := Ad.mk hB
 clear hB
 have H := h
 clear h
 unfold ls_escaped.f at H
 obtain ⟨⟨t162, t163, t164⟩, A4, H⟩ := bi_ H
 try dsimp only at H
 have HC5 := Ad.mk H
 clear H
 obtain ⟨HGz6, hgz6⟩ := HI0.out
 have hcz6_0 := cellS65_0 HGz6
 have hcz6_1 := cellS65_1 HGz6
 have hfz6_0 := blk_frozen HGz6 0
 have hfz6_1 := blk_frozen HGz6 1
 clear HGz6 hgz6
 go_enter Tryd.func78, Tryd.ntmps78
 go_upto_block 0 with (first | ((with_reducible refine gate_callee (f := 63) rfl ?_); refine goesL_ (some 24) rfl rfl Tryd.func63 k1_ rfl #[.pointer (some ⟨g, 0, none⟩), .int .i64 (wrap64 (s0_1 + 1))] rfl g1_ ?_; (with_reducible refine (ls_ch.calls g s0_0 (wrap64 (s0_1 + 1)) (wrap64 (s0_1 + 1)) t162 t163 t164 w0 _ ?side1 ?side2 A4.out).mono ?_); (case side1 => exact (by have G0 := HI0; exact z2_)); (case side2 => exact (by have G0 := HI0; exact z4_)); rintro e w7 ⟨rfl, hi, hb, hk⟩; refine ⟨_, rfl, ?_⟩; replace HK := Ad.mk (KeepBut.trans z3_ hk (.inl rfl)); replace HB := Ad.mk (hb); replace HI0 := Ad.mk (hi); clear hb hk hi; obtain ⟨HGz8, hgz8⟩ := HI0.out; have hcz8_0 := cellS65_0 HGz8; have hcz8_1 := cellS65_1 HGz8; have hfz8_0 := blk_frozen HGz8 0; have hfz8_1 := blk_frozen HGz8 1; clear HGz8 hgz8))
 (try simp only [Act.put, List.setIfInBounds_toArray, List.set_cons_zero, List.set_cons_succ])
 go_cut [8] (fun v8 wc => ∃ (kq : Nat) (x8_4 : Int) (x1000_4 : ByteArray) (x1001_4 : Int), v8 = .int .i64 x8_4 ∧ Ad (ls_escaped.j0 kq a1 x8_4 x1000_4 x1001_4 = some (r1, r2, r3)) ∧ Ad (kq ≤ k) ∧ Ad (IsS65 w0 wc g x1000_4 x1001_4) ∧ Ad (KeepBut w wc g none) ∧ Ad (Below w0.heap.size w0 wc))
 case first =>
  have H := HC5.out
  clear HC5
  by_cases c9 : t162 = 117
  ·rw [if_pos c9] at H
   have c9b0 := beq_iff_eq.mpr c9
   have c9b1 := bne_eq_false_iff_eq.mpr c9
   clear c9
   (first | rw [c9b0] | (simp only [i64_w, i32_w]; rw [c9b0]) | skip)
   obtain ⟨⟨t165, t166, t167⟩, A10, H⟩ := bi_ H
   try dsimp only at H
   have H' := Ad.mk H
   clear H
   go_wp2_with (first | ((with_reducible refine gate_callee (f := 85) rfl ?_); refine goesL_ (some 50) rfl rfl Tryd.func85 k1_ rfl #[.pointer (some ⟨g, 0, none⟩), .int .i64 4] rfl g1_ ?_; (with_reducible refine (ls_digits.calls k g t163 (wrap64 (t164 + 1)) 4 t165 t166 t167 w0 _ ?side1 ?side2 A10.out).mono ?_); (case side1 => exact (by have G0 := HI0; exact z2_)); (case side2 => exact (by have G0 := HI0; exact z4_)); rintro e w11 ⟨rfl, hi, hb, hk⟩; refine ⟨_, rfl, ?_⟩; replace HK := Ad.mk (KeepBut.trans z3_ hk (.inl rfl)); replace HB := Ad.mk (hb); replace HI0 := Ad.mk (hi); clear hb hk hi))
   go_meet
   case rel => exact ⟨_, (t165), (t166), (t167), e1_, H', ⟨z20_⟩, ⟨by have G0 := HI0; exact z2_⟩, ⟨z3_⟩, ⟨by have G0 := HI0; exact z4_⟩⟩
  rw [if_neg c9] at H
  have c9b0 := beq_eq_false_iff_ne.mpr c9
  have c9b1 := bne_iff_ne.mpr c9
  (first | rw [c9b0] | (simp only [i64_w, i32_w]; rw [c9b0]) | skip)
  by_cases c12 : t162 = 85
  ·rw [if_pos c12] at H
   have c12b0 := beq_iff_eq.mpr c12
   have c12b1 := bne_eq_false_iff_eq.mpr c12
   clear c12
   obtain ⟨⟨t168, t169, t170⟩, A13, H⟩ := bi_ H
   try dsimp only at H
   have H' := Ad.mk H
   clear H
   go_wp2_with (first | ((with_reducible refine gate_callee (f := 85) rfl ?_); refine goesL_ (some 54) rfl rfl Tryd.func85 k1_ rfl #[.pointer (some ⟨g, 0, none⟩), .int .i64 8] rfl g1_ ?_; (with_reducible refine (ls_digits.calls k g t163 (wrap64 (t164 + 1)) 8 t168 t169 t170 w0 _ ?side1 ?side2 A13.out).mono ?_); (case side1 => exact (by have G0 := HI0; exact z2_)); (case side2 => exact (by have G0 := HI0; exact z4_)); rintro e w14 ⟨rfl, hi, hb, hk⟩; refine ⟨_, rfl, ?_⟩; replace HK := Ad.mk (KeepBut.trans z3_ hk (.inl rfl)); replace HB := Ad.mk (hb); replace HI0 := Ad.mk (hi); clear hb hk hi))
   go_meet
   case rel => exact ⟨_, (t168), (t169), (t170), e1_, H', ⟨z20_⟩, ⟨by have G0 := HI0; exact z2_⟩, ⟨z3_⟩, ⟨by have G0 := HI0; exact z4_⟩⟩
  rw [if_neg c12] at H
  have c12b0 := beq_eq_false_iff_ne.mpr c12
  have c12b1 := bne_iff_ne.mpr c12
  obtain ⟨t171, A15, H⟩ := bi_ H
  by_cases c16 : a2 = true
  ·subst c16
   rw [if_pos rfl] at H
   by_cases c17 : t162 > 0
   ·rw [if_pos c17] at H
    have c17b0 : decide (0 < t162) = true := decide_eq_true c17
    clear c17
    by_cases c18 : t171 ≥ 0
    ·rw [if_pos c18] at H
     have c18b0 : decide (0 ≤ t171) = true := decide_eq_true c18
     clear c18
     by_cases c19 : 0 ≤ t171
     ·rw [if_pos c19] at H
      have c19b0 := decide_eq_true c19
      clear c19
      by_cases c20 : t171 < 8
      ·rw [if_pos c20] at H
       have c20b0 := decide_eq_true c20
       clear c20
       have H' := Ad.mk H
       clear H
       go_wp2_with (first | ((with_reducible refine gate_callee (f := 62) rfl ?_); refine goesL_ (some 34) rfl rfl Tryd.func62 k1_ rfl #[.string ⟨#[116, 98, 110, 114, 102, 34, 39, 92]⟩, .int .u8 t162] rfl g1_ ?_; (with_reducible refine (strings_IndexByte.calls (⟨#[116, 98, 110, 114, 102, 34, 39, 92]⟩ : ByteArray) t162 t171 _ A15.out).mono ?_); rintro e w' ⟨rfl, ⟨nd, rfl⟩⟩; refine ⟨_, rfl, ?_⟩; have p21 : 0 ≤ (t171 : Int) := of_decide_eq_true a1_; have q21 : t171 < (8 : Int) := of_decide_eq_true a1_; have hx21 := bt_at (⟨#[9, 8, 10, 13, 12, 34, 39, 92]⟩ : ByteArray) t171; replace p21 := eq_true p21; replace q21 := eq_true q21))
       go_meet
       case rel => exact ⟨_, (wrap64 (bt (⟨#[9, 8, 10, 13, 12, 34, 39, 92]⟩ : ByteArray) t171)), (t163), (wrap64 (t164 + 1)), e1_, H', ⟨z20_⟩, ⟨by have G0 := HI0; exact z2_⟩, ⟨z3_⟩, ⟨by have G0 := HI0; exact z4_⟩⟩
      rw [if_neg c20] at H
      exact absurd H (by simp)
     rw [if_neg c19] at H
     exact absurd H (by simp)
    rw [if_neg c18] at H
    have c18b0 : decide (0 ≤ t171) = false := decide_eq_false c18
    clear c18
    have H' := Ad.mk H
    clear H
    go_wp2_with (first | ((with_reducible refine gate_callee (f := 62) rfl ?_); refine goesL_ (some 34) rfl rfl Tryd.func62 k1_ rfl #[.string ⟨#[116, 98, 110, 114, 102, 34, 39, 92]⟩, .int .u8 t162] rfl g1_ ?_; (with_reducible refine (strings_IndexByte.calls (⟨#[116, 98, 110, 114, 102, 34, 39, 92]⟩ : ByteArray) t162 t171 _ A15.out).mono ?_); rintro e w' ⟨rfl, ⟨nd, rfl⟩⟩; refine ⟨_, rfl, ?_⟩))
    go_meet
    case rel => exact ⟨_, ((-1)), (t163), (wrap64 (t164 + 1)), e1_, H', ⟨z20_⟩, ⟨by have G0 := HI0; exact z2_⟩, ⟨z3_⟩, ⟨by have G0 := HI0; exact z4_⟩⟩
   rw [if_neg c17] at H
   have c17b0 : decide (0 < t162) = false := decide_eq_false c17
   clear c17
   have H' := Ad.mk H
   clear H
   go_wp2_with (first | ((with_reducible refine gate_callee (f := 62) rfl ?_); refine goesL_ (some 34) rfl rfl Tryd.func62 k1_ rfl #[.string ⟨#[116, 98, 110, 114, 102, 34, 39, 92]⟩, .int .u8 t162] rfl g1_ ?_; (with_reducible refine (strings_IndexByte.calls (⟨#[116, 98, 110, 114, 102, 34, 39, 92]⟩ : ByteArray) t162 t171 _ A15.out).mono ?_); rintro e w' ⟨rfl, ⟨nd, rfl⟩⟩; refine ⟨_, rfl, ?_⟩))
   go_meet
   case rel => exact ⟨_, ((-1)), (t163), (wrap64 (t164 + 1)), e1_, H', ⟨z20_⟩, ⟨by have G0 := HI0; exact z2_⟩, ⟨z3_⟩, ⟨by have G0 := HI0; exact z4_⟩⟩
  replace c16 := Bool.eq_false_iff.mpr c16
  subst c16
  rw [if_neg (show ¬ (false = true) by decide)] at H
  have H' := Ad.mk H
  clear H
  go_wp2_with (first | ((with_reducible refine gate_callee (f := 62) rfl ?_); refine goesL_ (some 34) rfl rfl Tryd.func62 k1_ rfl #[.string ⟨#[116, 98, 110, 114, 102, 34, 39, 92]⟩, .int .u8 t162] rfl g1_ ?_; (with_reducible refine (strings_IndexByte.calls (⟨#[116, 98, 110, 114, 102, 34, 39, 92]⟩ : ByteArray) t162 t171 _ A15.out).mono ?_); rintro e w' ⟨rfl, ⟨nd, rfl⟩⟩; refine ⟨_, rfl, ?_⟩))
  go_meet
  case rel => exact ⟨_, ((-1)), (t163), (wrap64 (t164 + 1)), e1_, H', ⟨z20_⟩, ⟨by have G0 := HI0; exact z2_⟩, ⟨z3_⟩, ⟨by have G0 := HI0; exact z4_⟩⟩
 case rest =>
  clear HC5
  try clear hcz6_0
  try clear hcz6_1
  try clear hcz8_0
  try clear hcz8_1
  try clear hfz6_0
  try clear hfz6_1
  try clear hfz8_0
  try clear hfz8_1
  obtain ⟨kq, x8_4, x1000_4, x1001_4, rfl, HA, HJ4, HI0, HK, HB⟩ := hcut
  cases kq with
  | zero => exact absurd HA.out (by simp [ls_escaped.j0])
  | succ kj4 =>
   have H := HA.out
   clear HA
   simp only [ls_escaped.j0] at H
   obtain ⟨⟨t172, t173⟩, A22, H⟩ := bi_ H
   try dsimp only at H
   by_cases c23 : t173 = 0
   ·rw [if_pos c23] at H
    have c23b0 := beq_iff_eq.mpr c23
    have c23b1 := bne_eq_false_iff_eq.mpr c23
    clear c23
    simp only [Option.some.injEq, Prod.mk.injEq] at H
    obtain ⟨rfl, rfl, rfl⟩ := H
    go_wp2_with (first | ((with_reducible refine gate_callee (f := 33) rfl ?_); refine goesL_ (some 57) rfl rfl Tryd.func33 k1_ rfl #[.int .i64 x8_4] rfl g1_ ?_; (with_reducible refine (utf_Put.calls x8_4 t172 t173 _ A22.out).mono ?_); rintro e w24 ⟨v174, rfl, ho0, hb⟩; refine ⟨_, rfl, ?_⟩; have HO175 := Ad.mk (Kd.R_lower ho0 (keep_size (w := w) (g := g) (row := none) z3_)); replace HK := Ad.mk (KeepBut.trans z3_ (KeepBut.of_below hb g none) (.inl rfl)); replace HB := Ad.mk (below_step (by have G0 := HI0; exact z4_) hb); replace HI0 := Ad.mk (IsS65.below (by have G0 := HI0; exact z2_) hb); (try clear hb); (try clear hb2); (try clear hk); (try clear hi); (try clear ho0)))
    go_ret
    exact ⟨_, e2_, by have G0 := HO175; exact z1_, by have G0 := HI0; exact z2_, by have G0 := HI0; exact z4_, z3_⟩
   rw [if_neg c23] at H
   have c23b0 := beq_eq_false_iff_ne.mpr c23
   have c23b1 := bne_iff_ne.mpr c23
   obtain ⟨⟨t176, t177⟩, A25, H⟩ := bi_ H
   try dsimp only at H
   simp only [Option.some.injEq, Prod.mk.injEq] at H
   obtain ⟨rfl, rfl, rfl⟩ := H
   go_wp2_with (first | ((with_reducible refine gate_callee (f := 33) rfl ?_); refine goesL_ (some 57) rfl rfl Tryd.func33 k1_ rfl #[.int .i64 x8_4] rfl g1_ ?_; (with_reducible refine (utf_Put.calls x8_4 t172 t173 _ A22.out).mono ?_); rintro e w26 ⟨v174, rfl, ho0, hb⟩; refine ⟨_, rfl, ?_⟩; have HO175 := Ad.mk (Kd.R_lower ho0 (keep_size (w := w) (g := g) (row := none) z3_)); replace HK := Ad.mk (KeepBut.trans z3_ (KeepBut.of_below hb g none) (.inl rfl)); replace HB := Ad.mk (below_step (by have G0 := HI0; exact z4_) hb); replace HI0 := Ad.mk (IsS65.below (by have G0 := HI0; exact z2_) hb); (try clear hb); (try clear hb2); (try clear hk); (try clear hi); (try clear ho0)) | ((with_reducible refine gate_callee (f := 50) rfl ?_); refine goesL_ (some 64) rfl rfl Tryd.func50 k1_ rfl #[.pointer (some ⟨g, 0, none⟩), .int .i64 a1] rfl g1_ ?_; (with_reducible refine (ls_fail.calls g x1000_4 x1001_4 a1 t176 t177 w0 _ ?side1 ?side2 A25.out).mono ?_); (case side1 => exact (by have G0 := HI0; exact z2_)); (case side2 => exact (by have G0 := HI0; exact z4_)); rintro e w27 ⟨rfl, hi, hb, hk⟩; refine ⟨_, rfl, ?_⟩; replace HO175 := Ad.mk (Kd.R_mono (Kd.R_keep (IsS65.apart (show IsS65 w0 _ g x1000_4 x1001_4 from by have G0 := HI0; exact z2_) (by have G0 := HO175; exact z1_) (by decide)) hk (fun _ h => h.2)) (fun _ h => h.1)); replace HK := Ad.mk (KeepBut.trans z3_ hk (.inl rfl)); replace HB := Ad.mk (hb); replace HI0 := Ad.mk (hi); clear hb hk hi))
   go_ret
   exact ⟨_, e2_, by have G0 := HO175; exact z1_, by have G0 := HI0; exact z2_, by have G0 := HI0; exact z4_, z3_⟩
mutual
def ls_quoted.l0 : Nat → Int → Bool → Int → List Int → ByteArray → Int → Option (ByteArray × ByteArray × Int)
 | 0, _, _, _, _, _, _ => none
 | k + 1, x1, x2, x7, x8, x1000, x1001 => (ls_ch.f x1000 x1001 x1001).bind fun bt178 => (if bt178.1 = x1 then (some (strOfNums x8, bt178.2.1, wrap64 (bt178.2.2 + 1))) else ((ls_ch.f bt178.2.1 bt178.2.2 bt178.2.2).bind fun bt181 => (if bt181.2.2 ≥ (bt181.2.1.size : Int) then (ls_quoted.j1 k x1 x2 x7 x8 bt181.1 true bt181.2.1 bt181.2.2) else (if x2 = true then (if bt181.1 = 10 then (ls_quoted.j1 k x1 x2 x7 x8 bt181.1 true bt181.2.1 bt181.2.2) else (ls_quoted.j1 k x1 x2 x7 x8 bt181.1 (bt181.1 == 13) bt181.2.1 bt181.2.2)) else (ls_quoted.j1 k x1 x2 x7 x8 bt181.1 false bt181.2.1 bt181.2.2)))))
def ls_quoted.j1 : Nat → Int → Bool → Int → List Int → Int → Bool → ByteArray → Int → Option (ByteArray × ByteArray × Int)
 | 0, _, _, _, _, _, _, _, _ => none
 | k + 1, x1, x2, x7, x8, x9, x46, x1000, x1001 => if x46 = true then ((ls_fail.f x1000 x1001 x7).bind fun bt184 => (ls_quoted.l0 k x1 x2 x7 x8 bt184.1 bt184.2)) else (if x9 = 92 then ((ls_escaped.f k x1000 x1001 x7 x2).bind fun bt186 => (if x8.length + bt186.1.length < 140737488355328 then (ls_quoted.l0 k x1 x2 x7 (x8 ++ bt186.1) bt186.2.1 bt186.2.2) else (none))) else (if x8.length < 140737488355328 then (ls_quoted.l0 k x1 x2 x7 (x8 ++ [x9]) x1000 (wrap64 (x1001 + 1))) else (none)))
end
def ls_quoted.f (k : Nat) (s0_0 : ByteArray) (s0_1 : Int) (a1 : Int) (a2 : Bool) : Option (ByteArray × ByteArray × Int) := ls_quoted.l0 k a1 a2 s0_1 ([] : List Int) s0_0 (wrap64 (s0_1 + 1))
theorem ls_quoted.calls (k : Nat) (g : Nat) (s0_0 : ByteArray) (s0_1 : Int) (a1 : Int) (a2 : Bool) (r1 : ByteArray) (r2 : ByteArray) (r3 : Int) (w0 w : World) (hI : IsS65 w0 w g s0_0 s0_1) (hB : Below w0.heap.size w0 w) (h : ls_quoted.f k s0_0 s0_1 a1 a2 = some (r1, r2, r3)) :
  Calls Tryd.prog 64 #[.pointer (some ⟨g, 0, none⟩), .int .u8 a1, .bool a2] w fun e w' => e = .returned (.string r1) ∧ IsS65 w0 w' g r2 r3 ∧ Below w0.heap.size w0 w' ∧ KeepBut w w' g none := by
 have HI0 := Ad.mk hI
 have HK := Ad.mk (KeepBut.refl w g none)
 have HL := Ad.mk hB.size
 clear hI
 have HW0 := Ad.mk hB.size
 have HB := Ad.mk hB
 clear hB
 have H := h
 clear h
 unfold ls_quoted.f at H
 have H' := Ad.mk H
 clear H
 obtain ⟨HGz4, hgz4⟩ := HI0.out
 have hcz4_0 := cellS65_0 HGz4
 have hcz4_1 := cellS65_1 HGz4
 have hfz4_0 := blk_frozen HGz4 0
 have hfz4_1 := blk_frozen HGz4 1
 clear HGz4 hgz4
 go_enter Tryd.func64, Tryd.ntmps64
 go_wp2
 repeat (go_quiet (fail); try go_wp2)
 go_loopg [8] k (fun kq v8 w' => ∃ (x8_1 : List Int) (x1000_1 : ByteArray) (x1001_1 : Int), Ad (ls_quoted.l0 kq a1 a2 s0_1 x8_1 x1000_1 x1001_1 = some (r1, r2, r3)) ∧ Ad (kq ≤ k) ∧ Ad (Kd.R (Kd.int .u8) 5 w' w.heap.size (fun _ => True) v8 x8_1) ∧ Ad (IsS65 w0 w' g x1000_1 x1001_1) ∧ Ad (KeepBut w w' g none) ∧ Ad (Below w0.heap.size w0 w'))
 case atStart => exact ⟨(([] : List Int)), (s0_0), (wrap64 (s0_1 + 1)), H', ⟨Nat.le_refl _⟩, ⟨z54_⟩, ⟨by have G0 := HI0; exact z2_⟩, ⟨z3_⟩, ⟨by have G0 := HI0; exact z4_⟩⟩
 case round =>
  clear H'
  try clear p2
  try clear hcz4_0
  try clear hcz4_1
  try clear hfz4_0
  try clear hfz4_1
  obtain ⟨x8_1, x1000_1, x1001_1, HA, HK1, HO_8, HI0, HK, HB⟩ := hrel
  cases gk with
  | zero => exact absurd HA.out (by simp [ls_quoted.l0])
  | succ k1 =>
   have H := HA.out
   clear HA
   simp only [ls_quoted.l0] at H
   obtain ⟨⟨t178, t179, t180⟩, A5, H⟩ := bi_ H
   try dsimp only at H
   by_cases c6 : t178 = a1
   ·rw [if_pos c6] at H
    have c6b0 := beq_iff_eq.mpr c6
    have c6b1 := bne_eq_false_iff_eq.mpr c6
    clear c6
    simp only [Option.some.injEq, Prod.mk.injEq] at H
    obtain ⟨rfl, rfl, rfl⟩ := H
    obtain ⟨HGz7, hgz7⟩ := HI0.out
    have hcz7_0 := cellS65_0 HGz7
    have hcz7_1 := cellS65_1 HGz7
    have hfz7_0 := blk_frozen HGz7 0
    have hfz7_1 := blk_frozen HGz7 1
    clear HGz7 hgz7
    go_wp2_with (first | (go_at_call 63; (with_reducible refine (ls_ch.calls g x1000_1 x1001_1 x1001_1 t178 t179 t180 w0 _ ?side1 ?side2 A5.out).mono ?_); (case side1 => exact (by have G0 := HI0; exact z2_)); (case side2 => exact (by have G0 := HI0; exact z4_)); rintro e w8 ⟨rfl, hi, hb, hk⟩; replace HO_8 := Ad.mk (Kd.R_mono (Kd.R_keep (IsS65.apart (show IsS65 w0 _ g x1000_1 x1001_1 from by have G0 := HI0; exact z2_) (by have G0 := HO_8; exact z1_) (by decide)) hk (fun _ h => h.2)) (fun _ h => h.1)); replace HK := Ad.mk (KeepBut.trans z3_ hk (.inl rfl)); replace HB := Ad.mk (hb); replace HI0 := Ad.mk (hi); clear hb hk hi; obtain ⟨HGz9, hgz9⟩ := HI0.out; have hcz9_0 := cellS65_0 HGz9; have hcz9_1 := cellS65_1 HGz9; have hfz9_0 := blk_frozen HGz9 0; have hfz9_1 := blk_frozen HGz9 1; clear HGz9 hgz9; have hcv10 := own_string (P := Tryd.prog) Tryd.underlying40 Tryd.underlying5 Tryd.underlying9 (Kd.own_of_R HO_8.out); have hcv10s := fun (v_ : Value) => own_string (P := Tryd.prog) Tryd.underlying40 Tryd.underlying5 Tryd.underlying9 (Kd.own_of_R (Kd.R_far (p := ⟨g, 1, none⟩) (IsS65.apart HI0.out HO_8.out (by decide)) (fun _ hk => hk.2) v_))))
    repeat (go_quiet (first | (go_at_call 63; (with_reducible refine (ls_ch.calls g x1000_1 x1001_1 x1001_1 t178 t179 t180 w0 _ ?side1 ?side2 A5.out).mono ?_); (case side1 => exact (by have G0 := HI0; exact z2_)); (case side2 => exact (by have G0 := HI0; exact z4_)); rintro e w8 ⟨rfl, hi, hb, hk⟩; replace HO_8 := Ad.mk (Kd.R_mono (Kd.R_keep (IsS65.apart (show IsS65 w0 _ g x1000_1 x1001_1 from by have G0 := HI0; exact z2_) (by have G0 := HO_8; exact z1_) (by decide)) hk (fun _ h => h.2)) (fun _ h => h.1)); replace HK := Ad.mk (KeepBut.trans z3_ hk (.inl rfl)); replace HB := Ad.mk (hb); replace HI0 := Ad.mk (hi); clear hb hk hi; obtain ⟨HGz9, hgz9⟩ := HI0.out; have hcz9_0 := cellS65_0 HGz9; have hcz9_1 := cellS65_1 HGz9; have hfz9_0 := blk_frozen HGz9 0; have hfz9_1 := blk_frozen HGz9 1; clear HGz9 hgz9; have hcv10 := own_string (P := Tryd.prog) Tryd.underlying40 Tryd.underlying5 Tryd.underlying9 (Kd.own_of_R HO_8.out); have hcv10s := fun (v_ : Value) => own_string (P := Tryd.prog) Tryd.underlying40 Tryd.underlying5 Tryd.underlying9 (Kd.own_of_R (Kd.R_far (p := ⟨g, 1, none⟩) (IsS65.apart HI0.out HO_8.out (by decide)) (fun _ hk => hk.2) v_)))); try go_wp2_with (first | (go_at_call 63; (with_reducible refine (ls_ch.calls g x1000_1 x1001_1 x1001_1 t178 t179 t180 w0 _ ?side1 ?side2 A5.out).mono ?_); (case side1 => exact (by have G0 := HI0; exact z2_)); (case side2 => exact (by have G0 := HI0; exact z4_)); rintro e w8 ⟨rfl, hi, hb, hk⟩; replace HO_8 := Ad.mk (Kd.R_mono (Kd.R_keep (IsS65.apart (show IsS65 w0 _ g x1000_1 x1001_1 from by have G0 := HI0; exact z2_) (by have G0 := HO_8; exact z1_) (by decide)) hk (fun _ h => h.2)) (fun _ h => h.1)); replace HK := Ad.mk (KeepBut.trans z3_ hk (.inl rfl)); replace HB := Ad.mk (hb); replace HI0 := Ad.mk (hi); clear hb hk hi; obtain ⟨HGz9, hgz9⟩ := HI0.out; have hcz9_0 := cellS65_0 HGz9; have hcz9_1 := cellS65_1 HGz9; have hfz9_0 := blk_frozen HGz9 0; have hfz9_1 := blk_frozen HGz9 1; clear HGz9 hgz9; have hcv10 := own_string (P := Tryd.prog) Tryd.underlying40 Tryd.underlying5 Tryd.underlying9 (Kd.own_of_R HO_8.out); have hcv10s := fun (v_ : Value) => own_string (P := Tryd.prog) Tryd.underlying40 Tryd.underlying5 Tryd.underlying9 (Kd.own_of_R (Kd.R_far (p := ⟨g, 1, none⟩) (IsS65.apart HI0.out HO_8.out (by decide)) (fun _ hk => hk.2) v_)))))
    go_ret
    exact ⟨e2_, by have G0 := HI0; exact z2_, by have G0 := HI0; exact z4_, z3_⟩
   rw [if_neg c6] at H
   have c6b0 := beq_eq_false_iff_ne.mpr c6
   have c6b1 := bne_iff_ne.mpr c6
   obtain ⟨⟨t181, t182, t183⟩, A11, H⟩ := bi_ H
   try dsimp only at H
   have HC12 := Ad.mk H
   clear H
   obtain ⟨HGz13, hgz13⟩ := HI0.out
   have hcz13_0 := cellS65_0 HGz13
   have hcz13_1 := cellS65_1 HGz13
   have hfz13_0 := blk_frozen HGz13 0
   have hfz13_1 := blk_frozen HGz13 1
   clear HGz13 hgz13
   go_upto_region 8 with (first | (go_at_call 63; (with_reducible refine (ls_ch.calls g x1000_1 x1001_1 x1001_1 t178 t179 t180 w0 _ ?side1 ?side2 A5.out).mono ?_); (case side1 => exact (by have G0 := HI0; exact z2_)); (case side2 => exact (by have G0 := HI0; exact z4_)); rintro e w14 ⟨rfl, hi, hb, hk⟩; replace HO_8 := Ad.mk (Kd.R_mono (Kd.R_keep (IsS65.apart (show IsS65 w0 _ g x1000_1 x1001_1 from by have G0 := HI0; exact z2_) (by have G0 := HO_8; exact z1_) (by decide)) hk (fun _ h => h.2)) (fun _ h => h.1)); replace HK := Ad.mk (KeepBut.trans z3_ hk (.inl rfl)); replace HB := Ad.mk (hb); replace HI0 := Ad.mk (hi); clear hb hk hi; obtain ⟨HGz15, hgz15⟩ := HI0.out; have hcz15_0 := cellS65_0 HGz15; have hcz15_1 := cellS65_1 HGz15; have hfz15_0 := blk_frozen HGz15 0; have hfz15_1 := blk_frozen HGz15 1; clear HGz15 hgz15) | (go_at_call 63; (with_reducible refine (ls_ch.calls g t179 t180 t180 t181 t182 t183 w0 _ ?side1 ?side2 A11.out).mono ?_); (case side1 => exact (by have G0 := HI0; exact z2_)); (case side2 => exact (by have G0 := HI0; exact z4_)); rintro e w16 ⟨rfl, hi, hb, hk⟩; replace HO_8 := Ad.mk (Kd.R_mono (Kd.R_keep (IsS65.apart (show IsS65 w0 _ g t179 t180 from by have G0 := HI0; exact z2_) (by have G0 := HO_8; exact z1_) (by decide)) hk (fun _ h => h.2)) (fun _ h => h.1)); replace HK := Ad.mk (KeepBut.trans z3_ hk (.inl rfl)); replace HB := Ad.mk (hb); replace HI0 := Ad.mk (hi); clear hb hk hi))
   repeat (go_quiet (first | (go_at_call 63; (with_reducible refine (ls_ch.calls g x1000_1 x1001_1 x1001_1 t178 t179 t180 w0 _ ?side1 ?side2 A5.out).mono ?_); (case side1 => exact (by have G0 := HI0; exact z2_)); (case side2 => exact (by have G0 := HI0; exact z4_)); rintro e w14 ⟨rfl, hi, hb, hk⟩; replace HO_8 := Ad.mk (Kd.R_mono (Kd.R_keep (IsS65.apart (show IsS65 w0 _ g x1000_1 x1001_1 from by have G0 := HI0; exact z2_) (by have G0 := HO_8; exact z1_) (by decide)) hk (fun _ h => h.2)) (fun _ h => h.1)); replace HK := Ad.mk (KeepBut.trans z3_ hk (.inl rfl)); replace HB := Ad.mk (hb); replace HI0 := Ad.mk (hi); clear hb hk hi; obtain ⟨HGz15, hgz15⟩ := HI0.out; have hcz15_0 := cellS65_0 HGz15; have hcz15_1 := cellS65_1 HGz15; have hfz15_0 := blk_frozen HGz15 0; have hfz15_1 := blk_frozen HGz15 1; clear HGz15 hgz15) | (go_at_call 63; (with_reducible refine (ls_ch.calls g t179 t180 t180 t181 t182 t183 w0 _ ?side1 ?side2 A11.out).mono ?_); (case side1 => exact (by have G0 := HI0; exact z2_)); (case side2 => exact (by have G0 := HI0; exact z4_)); rintro e w16 ⟨rfl, hi, hb, hk⟩; replace HO_8 := Ad.mk (Kd.R_mono (Kd.R_keep (IsS65.apart (show IsS65 w0 _ g t179 t180 from by have G0 := HI0; exact z2_) (by have G0 := HO_8; exact z1_) (by decide)) hk (fun _ h => h.2)) (fun _ h => h.1)); replace HK := Ad.mk (KeepBut.trans z3_ hk (.inl rfl)); replace HB := Ad.mk (hb); replace HI0 := Ad.mk (hi); clear hb hk hi)); go_upto_region 8 with (first | (go_at_call 63; (with_reducible refine (ls_ch.calls g x1000_1 x1001_1 x1001_1 t178 t179 t180 w0 _ ?side1 ?side2 A5.out).mono ?_); (case side1 => exact (by have G0 := HI0; exact z2_)); (case side2 => exact (by have G0 := HI0; exact z4_)); rintro e w14 ⟨rfl, hi, hb, hk⟩; replace HO_8 := Ad.mk (Kd.R_mono (Kd.R_keep (IsS65.apart (show IsS65 w0 _ g x1000_1 x1001_1 from by have G0 := HI0; exact z2_) (by have G0 := HO_8; exact z1_) (by decide)) hk (fun _ h => h.2)) (fun _ h => h.1)); replace HK := Ad.mk (KeepBut.trans z3_ hk (.inl rfl)); replace HB := Ad.mk (hb); replace HI0 := Ad.mk (hi); clear hb hk hi; obtain ⟨HGz15, hgz15⟩ := HI0.out; have hcz15_0 := cellS65_0 HGz15; have hcz15_1 := cellS65_1 HGz15; have hfz15_0 := blk_frozen HGz15 0; have hfz15_1 := blk_frozen HGz15 1; clear HGz15 hgz15) | (go_at_call 63; (with_reducible refine (ls_ch.calls g t179 t180 t180 t181 t182 t183 w0 _ ?side1 ?side2 A11.out).mono ?_); (case side1 => exact (by have G0 := HI0; exact z2_)); (case side2 => exact (by have G0 := HI0; exact z4_)); rintro e w16 ⟨rfl, hi, hb, hk⟩; replace HO_8 := Ad.mk (Kd.R_mono (Kd.R_keep (IsS65.apart (show IsS65 w0 _ g t179 t180 from by have G0 := HI0; exact z2_) (by have G0 := HO_8; exact z1_) (by decide)) hk (fun _ h => h.2)) (fun _ h => h.1)); replace HK := Ad.mk (KeepBut.trans z3_ hk (.inl rfl)); replace HB := Ad.mk (hb); replace HI0 := Ad.mk (hi); clear hb hk hi)))
   (try simp only [Act.put, List.setIfInBounds_toArray, List.set_cons_zero, List.set_cons_succ])
   go_cut [46] (fun v46 wc => ∃ (kq : Nat) (x46_11 : Bool), v46 = .bool x46_11 ∧ Ad (ls_quoted.j1 kq a1 a2 s0_1 x8_1 t181 x46_11 t182 t183 = some (r1, r2, r3)) ∧ Ad (kq ≤ k1) ∧ Ad (Kd.R (Kd.int .u8) 5 wc w.heap.size (fun _ => True) u8 x8_1) ∧ Ad (IsS65 w0 wc g t182 t183) ∧ Ad (KeepBut w wc g none) ∧ Ad (Below w0.heap.size w0 wc))
   case first =>
    have H := HC12.out
    clear HC12
    by_cases c17 : t183 ≥ (t182.size : Int)
    ·rw [if_pos c17] at H
     have c17b0 : decide ((t182.size : Int) ≤ t183) = true := decide_eq_true c17
     clear c17
     (first | rw [c17b0] | (simp only [i64_w, i32_w]; rw [c17b0]) | skip)
     have H' := Ad.mk H
     clear H
     obtain ⟨HGz18, hgz18⟩ := HI0.out
     have hcz18_0 := cellS65_0 HGz18
     have hcz18_1 := cellS65_1 HGz18
     have hfz18_0 := blk_frozen HGz18 0
     have hfz18_1 := blk_frozen HGz18 1
     clear HGz18 hgz18
     go_wp2
     repeat (go_quiet (fail); try go_wp2)
     go_meet
     case rel => exact ⟨_, (true), e1_, H', ⟨o1_⟩, ⟨by have G0 := HO_8; exact z1_⟩, ⟨by have G0 := HI0; exact z2_⟩, ⟨z3_⟩, ⟨by have G0 := HI0; exact z4_⟩⟩
    rw [if_neg c17] at H
    have c17b0 : decide ((t182.size : Int) ≤ t183) = false := decide_eq_false c17
    clear c17
    (first | rw [c17b0] | (simp only [i64_w, i32_w]; rw [c17b0]) | skip)
    by_cases c19 : a2 = true
    ·subst c19
     rw [if_pos rfl] at H
     by_cases c20 : t181 = 10
     ·rw [if_pos c20] at H
      have c20b0 := beq_iff_eq.mpr c20
      have c20b1 := bne_eq_false_iff_eq.mpr c20
      clear c20
      have H' := Ad.mk H
      clear H
      obtain ⟨HGz21, hgz21⟩ := HI0.out
      have hcz21_0 := cellS65_0 HGz21
      have hcz21_1 := cellS65_1 HGz21
      have hfz21_0 := blk_frozen HGz21 0
      have hfz21_1 := blk_frozen HGz21 1
      clear HGz21 hgz21
      go_wp2
      repeat (go_quiet (fail); try go_wp2)
      go_meet
      case rel => exact ⟨_, (true), e1_, H', ⟨o1_⟩, ⟨by have G0 := HO_8; exact z1_⟩, ⟨by have G0 := HI0; exact z2_⟩, ⟨z3_⟩, ⟨by have G0 := HI0; exact z4_⟩⟩
     rw [if_neg c20] at H
     have c20b0 := beq_eq_false_iff_ne.mpr c20
     have c20b1 := bne_iff_ne.mpr c20
     have H' := Ad.mk H
     clear H
     obtain ⟨HGz22, hgz22⟩ := HI0.out
     have hcz22_0 := cellS65_0 HGz22
     have hcz22_1 := cellS65_1 HGz22
     have hfz22_0 := blk_frozen HGz22 0
     have hfz22_1 := blk_frozen HGz22 1
     clear HGz22 hgz22
     go_wp2
     repeat (go_quiet (fail); try go_wp2)
     go_meet
     case rel => exact ⟨_, ((t181 == 13)), e1_, H', ⟨o1_⟩, ⟨by have G0 := HO_8; exact z1_⟩, ⟨by have G0 := HI0; exact z2_⟩, ⟨z3_⟩, ⟨by have G0 := HI0; exact z4_⟩⟩
    replace c19 := Bool.eq_false_iff.mpr c19
    subst c19
    rw [if_neg (show ¬ (false = true) by decide)] at H
    have H' := Ad.mk H
    clear H
    obtain ⟨HGz23, hgz23⟩ := HI0.out
    have hcz23_0 := cellS65_0 HGz23
    have hcz23_1 := cellS65_1 HGz23
    have hfz23_0 := blk_frozen HGz23 0
    have hfz23_1 := blk_frozen HGz23 1
    clear HGz23 hgz23
    go_wp2
    repeat (go_quiet (fail); try go_wp2)
    go_meet
    case rel => exact ⟨_, (false), e1_, H', ⟨o1_⟩, ⟨by have G0 := HO_8; exact z1_⟩, ⟨by have G0 := HI0; exact z2_⟩, ⟨z3_⟩, ⟨by have G0 := HI0; exact z4_⟩⟩
   case rest =>
    clear HC12
    try clear p2
    try clear c6
    try clear c6b0
    try clear c6b1
    try clear hcv10
    try clear hcz13_0
    try clear hcz13_1
    try clear hcz15_0
    try clear hcz15_1
    try clear hcz4_0
    try clear hcz4_1
    try clear hcz7_0
    try clear hcz7_1
    try clear hcz9_0
    try clear hcz9_1
    try clear hfz13_0
    try clear hfz13_1
    try clear hfz15_0
    try clear hfz15_1
    try clear hfz4_0
    try clear hfz4_1
    try clear hfz7_0
    try clear hfz7_1
    try clear hfz9_0
    try clear hfz9_1
    try clear p2
    obtain ⟨kq, x46_11, rfl, HA, HJ11, HO_8, HI0, HK, HB⟩ := hcut
    cases kq with
    | zero => exact absurd HA.out (by simp [ls_quoted.j1])
    | succ kj11 =>
     have H := HA.out
     clear HA
     simp only [ls_quoted.j1] at H
     by_cases c24 : x46_11 = true
     ·subst c24
      rw [if_pos rfl] at H
      obtain ⟨⟨t184, t185⟩, A25, H⟩ := bi_ H
      try dsimp only at H
      have H' := Ad.mk H
      clear H
      go_wp2_with (first | (go_at_call 50; (with_reducible refine (ls_fail.calls g t182 t183 s0_1 t184 t185 w0 _ ?side1 ?side2 A25.out).mono ?_); (case side1 => exact (by have G0 := HI0; exact z2_)); (case side2 => exact (by have G0 := HI0; exact z4_)); rintro e w26 ⟨rfl, hi, hb, hk⟩; replace HO_8 := Ad.mk (Kd.R_mono (Kd.R_keep (IsS65.apart (show IsS65 w0 _ g t182 t183 from by have G0 := HI0; exact z2_) (by have G0 := HO_8; exact z1_) (by decide)) hk (fun _ h => h.2)) (fun _ h => h.1)); replace HK := Ad.mk (KeepBut.trans z3_ hk (.inl rfl)); replace HB := Ad.mk (hb); replace HI0 := Ad.mk (hi); clear hb hk hi))
      repeat (go_quiet (first | (go_at_call 50; (with_reducible refine (ls_fail.calls g t182 t183 s0_1 t184 t185 w0 _ ?side1 ?side2 A25.out).mono ?_); (case side1 => exact (by have G0 := HI0; exact z2_)); (case side2 => exact (by have G0 := HI0; exact z4_)); rintro e w26 ⟨rfl, hi, hb, hk⟩; replace HO_8 := Ad.mk (Kd.R_mono (Kd.R_keep (IsS65.apart (show IsS65 w0 _ g t182 t183 from by have G0 := HI0; exact z2_) (by have G0 := HO_8; exact z1_) (by decide)) hk (fun _ h => h.2)) (fun _ h => h.1)); replace HK := Ad.mk (KeepBut.trans z3_ hk (.inl rfl)); replace HB := Ad.mk (hb); replace HI0 := Ad.mk (hi); clear hb hk hi)); try go_wp2_with (first | (go_at_call 50; (with_reducible refine (ls_fail.calls g t182 t183 s0_1 t184 t185 w0 _ ?side1 ?side2 A25.out).mono ?_); (case side1 => exact (by have G0 := HI0; exact z2_)); (case side2 => exact (by have G0 := HI0; exact z4_)); rintro e w26 ⟨rfl, hi, hb, hk⟩; replace HO_8 := Ad.mk (Kd.R_mono (Kd.R_keep (IsS65.apart (show IsS65 w0 _ g t182 t183 from by have G0 := HI0; exact z2_) (by have G0 := HO_8; exact z1_) (by decide)) hk (fun _ h => h.2)) (fun _ h => h.1)); replace HK := Ad.mk (KeepBut.trans z3_ hk (.inl rfl)); replace HB := Ad.mk (hb); replace HI0 := Ad.mk (hi); clear hb hk hi)))
      go_roundg kj11
      case measure => have := HK1.out; have := HJ11.out; omega
      case rel => exact ⟨(x8_1), (t184), (t185), H', ⟨by have := HK1.out; have := HJ11.out; omega⟩, ⟨by have G0 := HO_8; exact z1_⟩, ⟨by have G0 := HI0; exact z2_⟩, ⟨z3_⟩, ⟨by have G0 := HI0; exact z4_⟩⟩
     replace c24 := Bool.eq_false_iff.mpr c24
     subst c24
     rw [if_neg (show ¬ (false = true) by decide)] at H
     by_cases c27 : t181 = 92
     ·rw [if_pos c27] at H
      have c27b0 := beq_iff_eq.mpr c27
      have c27b1 := bne_eq_false_iff_eq.mpr c27
      clear c27
      obtain ⟨⟨t186, t189, t190⟩, A28, H⟩ := bi_ H
      try dsimp only at H
      by_cases c29 : x8_1.length + t186.length < 140737488355328
      ·rw [if_pos c29] at H
       have LMc29 := Ad.mk c29
       clear c29
       generalize hy191 : (x8_1 ++ t186) = y191 at H
       replace hy191 := hy191.symm
       have Ny191 := Ad.mk hy191
       clear hy191
       have H' := Ad.mk H
       clear H
       go_wp2_with (first | (go_at_call 78; (with_reducible refine (ls_escaped.calls kj11 g t182 t183 s0_1 a2 t186 t189 t190 w0 _ ?side1 ?side2 A28.out).mono ?_); (case side1 => exact (by have G0 := HI0; exact z2_)); (case side2 => exact (by have G0 := HI0; exact z4_)); rintro e w30 ⟨v187, rfl, ho0, hi, hb, hk⟩; have HO188 := Ad.mk (Kd.R_lower (Kd.R_new' ho0 (Kd.R_lt (by have G0 := HO_8; exact z1_))) (keep_size (w := w) (g := g) (row := none) z3_)); replace HO_8 := Ad.mk (Kd.R_mono (Kd.R_told (Kd.R_oldK (IsS65.apart (show IsS65 w0 _ g t182 t183 from by have G0 := HI0; exact z2_) (by have G0 := HO_8; exact z1_) (by decide)) hk) (Kd.R_base ho0)) (fun _ h_ => h_.1)); replace HK := Ad.mk (KeepBut.trans z3_ hk (.inl rfl)); replace HB := Ad.mk (hb); replace HI0 := Ad.mk (hi); (try clear hb); (try clear hb2); (try clear hk); (try clear hi); (try clear ho0); obtain ⟨Ao32, co32, eo32⟩ := Kd.R_slice HO188.out; subst eo32) | ((with_reducible refine gate_builtin (b := .append) (xs := #[(.tmp 74), .tmp 78]) rfl ?_); at_builtin; refine Kd.R_append_rows (Kd.int .u8) w.heap.size rfl (.tmp 74) (.tmp 78) 40 5 (.int .u8 0) 1 rfl Tryd.underlying40 info5 rfl (by decide) (by omega) u8 x8_1 t186 _ _ _ (fun k_ => some k_ ≠ (.slice Ao32 t186.length co32 : Value).ownBlock) (fun _ => False) rfl rfl ?aO ?aR (fun _ _ h => h) (fun _ h => h.elim) ?aF (Below.refl _ _) ?aS ?aL ?_; (case aR => repeat (first | exact (Kd.R_reads' HO188.out).2.2 | (with_reducible refine Kd.C_alloc ?_ _) | (with_reducible refine Kd.C_drewN ?_ _) | (with_reducible refine Kd.C_drew ?_))); (case aF => exact (fun k_ hk => Kd.fresh' (Kd.R_lt (by have G0 := HO188; exact z1_)) k_ hk)); (case aO => exact (by have G0 := HO_8; exact z23_)); (case aS => exact (keep_size (w := w) (g := g) (row := none) z3_)); (case aL => have := LMc29.out; omega); intro v192 w31 ho hb hg hat; rw [← Ny191.out] at ho; have n0_ := Ad.mk (IsS65.grown (by have G0 := HI0; exact z2_) hg (IsS65.own_ne HI0.out HO_8.out (by decide))); have n1_ := Ad.mk (Kd.R_after (ok := (fun _ => True)) (by have G0 := HO188; exact z1_) hg hat); have n2_ := Ad.mk (below_weaken (by have G0 := HI0; exact z4_) HL.out hb); have n3_ := Ad.mk (KeepBut.trans z3_ (KeepBut.of_grown hg g) (Kd.R_base2 HO_8.out)); have n4_ := Ad.mk (ho); clear HI0; clear HO188; clear HB; clear HK; clear HO_8; have HI0 := n0_; have HO188 := n1_; have HB := n2_; have HK := n3_; have HO193 := n4_; clear n0_ n1_ n2_ n3_ n4_; clear ho hb hg hat))
       repeat (go_quiet (first | (go_at_call 78; (with_reducible refine (ls_escaped.calls kj11 g t182 t183 s0_1 a2 t186 t189 t190 w0 _ ?side1 ?side2 A28.out).mono ?_); (case side1 => exact (by have G0 := HI0; exact z2_)); (case side2 => exact (by have G0 := HI0; exact z4_)); rintro e w30 ⟨v187, rfl, ho0, hi, hb, hk⟩; have HO188 := Ad.mk (Kd.R_lower (Kd.R_new' ho0 (Kd.R_lt (by have G0 := HO_8; exact z1_))) (keep_size (w := w) (g := g) (row := none) z3_)); replace HO_8 := Ad.mk (Kd.R_mono (Kd.R_told (Kd.R_oldK (IsS65.apart (show IsS65 w0 _ g t182 t183 from by have G0 := HI0; exact z2_) (by have G0 := HO_8; exact z1_) (by decide)) hk) (Kd.R_base ho0)) (fun _ h_ => h_.1)); replace HK := Ad.mk (KeepBut.trans z3_ hk (.inl rfl)); replace HB := Ad.mk (hb); replace HI0 := Ad.mk (hi); (try clear hb); (try clear hb2); (try clear hk); (try clear hi); (try clear ho0); obtain ⟨Ao32, co32, eo32⟩ := Kd.R_slice HO188.out; subst eo32) | ((with_reducible refine gate_builtin (b := .append) (xs := #[(.tmp 74), .tmp 78]) rfl ?_); at_builtin; refine Kd.R_append_rows (Kd.int .u8) w.heap.size rfl (.tmp 74) (.tmp 78) 40 5 (.int .u8 0) 1 rfl Tryd.underlying40 info5 rfl (by decide) (by omega) u8 x8_1 t186 _ _ _ (fun k_ => some k_ ≠ (.slice Ao32 t186.length co32 : Value).ownBlock) (fun _ => False) rfl rfl ?aO ?aR (fun _ _ h => h) (fun _ h => h.elim) ?aF (Below.refl _ _) ?aS ?aL ?_; (case aR => repeat (first | exact (Kd.R_reads' HO188.out).2.2 | (with_reducible refine Kd.C_alloc ?_ _) | (with_reducible refine Kd.C_drewN ?_ _) | (with_reducible refine Kd.C_drew ?_))); (case aF => exact (fun k_ hk => Kd.fresh' (Kd.R_lt (by have G0 := HO188; exact z1_)) k_ hk)); (case aO => exact (by have G0 := HO_8; exact z23_)); (case aS => exact (keep_size (w := w) (g := g) (row := none) z3_)); (case aL => have := LMc29.out; omega); intro v192 w31 ho hb hg hat; rw [← Ny191.out] at ho; have n0_ := Ad.mk (IsS65.grown (by have G0 := HI0; exact z2_) hg (IsS65.own_ne HI0.out HO_8.out (by decide))); have n1_ := Ad.mk (Kd.R_after (ok := (fun _ => True)) (by have G0 := HO188; exact z1_) hg hat); have n2_ := Ad.mk (below_weaken (by have G0 := HI0; exact z4_) HL.out hb); have n3_ := Ad.mk (KeepBut.trans z3_ (KeepBut.of_grown hg g) (Kd.R_base2 HO_8.out)); have n4_ := Ad.mk (ho); clear HI0; clear HO188; clear HB; clear HK; clear HO_8; have HI0 := n0_; have HO188 := n1_; have HB := n2_; have HK := n3_; have HO193 := n4_; clear n0_ n1_ n2_ n3_ n4_; clear ho hb hg hat)); try go_wp2_with (first | (go_at_call 78; (with_reducible refine (ls_escaped.calls kj11 g t182 t183 s0_1 a2 t186 t189 t190 w0 _ ?side1 ?side2 A28.out).mono ?_); (case side1 => exact (by have G0 := HI0; exact z2_)); (case side2 => exact (by have G0 := HI0; exact z4_)); rintro e w30 ⟨v187, rfl, ho0, hi, hb, hk⟩; have HO188 := Ad.mk (Kd.R_lower (Kd.R_new' ho0 (Kd.R_lt (by have G0 := HO_8; exact z1_))) (keep_size (w := w) (g := g) (row := none) z3_)); replace HO_8 := Ad.mk (Kd.R_mono (Kd.R_told (Kd.R_oldK (IsS65.apart (show IsS65 w0 _ g t182 t183 from by have G0 := HI0; exact z2_) (by have G0 := HO_8; exact z1_) (by decide)) hk) (Kd.R_base ho0)) (fun _ h_ => h_.1)); replace HK := Ad.mk (KeepBut.trans z3_ hk (.inl rfl)); replace HB := Ad.mk (hb); replace HI0 := Ad.mk (hi); (try clear hb); (try clear hb2); (try clear hk); (try clear hi); (try clear ho0); obtain ⟨Ao32, co32, eo32⟩ := Kd.R_slice HO188.out; subst eo32) | ((with_reducible refine gate_builtin (b := .append) (xs := #[(.tmp 74), .tmp 78]) rfl ?_); at_builtin; refine Kd.R_append_rows (Kd.int .u8) w.heap.size rfl (.tmp 74) (.tmp 78) 40 5 (.int .u8 0) 1 rfl Tryd.underlying40 info5 rfl (by decide) (by omega) u8 x8_1 t186 _ _ _ (fun k_ => some k_ ≠ (.slice Ao32 t186.length co32 : Value).ownBlock) (fun _ => False) rfl rfl ?aO ?aR (fun _ _ h => h) (fun _ h => h.elim) ?aF (Below.refl _ _) ?aS ?aL ?_; (case aR => repeat (first | exact (Kd.R_reads' HO188.out).2.2 | (with_reducible refine Kd.C_alloc ?_ _) | (with_reducible refine Kd.C_drewN ?_ _) | (with_reducible refine Kd.C_drew ?_))); (case aF => exact (fun k_ hk => Kd.fresh' (Kd.R_lt (by have G0 := HO188; exact z1_)) k_ hk)); (case aO => exact (by have G0 := HO_8; exact z23_)); (case aS => exact (keep_size (w := w) (g := g) (row := none) z3_)); (case aL => have := LMc29.out; omega); intro v192 w31 ho hb hg hat; rw [← Ny191.out] at ho; have n0_ := Ad.mk (IsS65.grown (by have G0 := HI0; exact z2_) hg (IsS65.own_ne HI0.out HO_8.out (by decide))); have n1_ := Ad.mk (Kd.R_after (ok := (fun _ => True)) (by have G0 := HO188; exact z1_) hg hat); have n2_ := Ad.mk (below_weaken (by have G0 := HI0; exact z4_) HL.out hb); have n3_ := Ad.mk (KeepBut.trans z3_ (KeepBut.of_grown hg g) (Kd.R_base2 HO_8.out)); have n4_ := Ad.mk (ho); clear HI0; clear HO188; clear HB; clear HK; clear HO_8; have HI0 := n0_; have HO188 := n1_; have HB := n2_; have HK := n3_; have HO193 := n4_; clear n0_ n1_ n2_ n3_ n4_; clear ho hb hg hat)))
       go_roundg kj11
       case measure => have := HK1.out; have := HJ11.out; omega
       case rel => exact ⟨(y191), (t189), (t190), H', ⟨by have := HK1.out; have := HJ11.out; omega⟩, ⟨by have G0 := HO193; exact z24_⟩, ⟨by have G0 := HI0; exact z2_⟩, ⟨z3_⟩, ⟨by have G0 := HI0; exact z4_⟩⟩
      rw [if_neg c29] at H
      exact absurd H (by simp)
     rw [if_neg c27] at H
     have c27b0 := beq_eq_false_iff_ne.mpr c27
     have c27b1 := bne_iff_ne.mpr c27
     by_cases c33 : x8_1.length < 140737488355328
     ·rw [if_pos c33] at H
      have LMc33 := Ad.mk c33
      clear c33
      generalize hy194 : (x8_1 ++ [t181]) = y194 at H
      replace hy194 := hy194.symm
      have Ny194 := Ad.mk hy194
      clear hy194
      have H' := Ad.mk H
      clear H
      go_wp2_with (first | ((with_reducible refine gate_builtin (b := .append) (xs := #[(.tmp 35), .tmp 37]) rfl ?_); at_builtin; refine Kd.R_append (Kd.int .u8) w.heap.size rfl (.tmp 35) (.tmp 37) 40 5 (.int .u8 0) 1 rfl Tryd.underlying40 info5 rfl (by decide) (by omega) u8 x8_1 t181 [.int .u8 t181] (fun _ => True) (fun _ => False) rfl rfl ?aP (fun _ hk => hk.elim) ?aF ?aO (Below.refl _ _) ?aS ?aL ?_; (case aP => exact rfl); (case aF => exact (fun _ _ => trivial)); (case aO => exact (by have G0 := HO_8; exact z1_)); (case aS => exact (keep_size (w := w) (g := g) (row := none) z3_)); (case aL => have := LMc33.out; omega); intro v195 w34 ho hb hg hat; rw [← Ny194.out] at ho; have n0_ := Ad.mk (IsS65.grown (by have G0 := HI0; exact z2_) hg (IsS65.own_ne HI0.out HO_8.out (by decide))); have n1_ := Ad.mk (below_weaken (by have G0 := HI0; exact z4_) HL.out hb); have n2_ := Ad.mk (KeepBut.trans z3_ (KeepBut.of_grown hg g) (Kd.R_base2 HO_8.out)); have n3_ := Ad.mk (ho); clear HI0; clear HB; clear HK; clear HO_8; have HI0 := n0_; have HB := n1_; have HK := n2_; have HO196 := n3_; clear n0_ n1_ n2_ n3_; clear ho hb hg hat; obtain ⟨HGz35, hgz35⟩ := HI0.out; have hcz35_0 := cellS65_0 HGz35; have hcz35_1 := cellS65_1 HGz35; have hfz35_0 := blk_frozen HGz35 0; have hfz35_1 := blk_frozen HGz35 1; clear HGz35 hgz35))
      repeat (go_quiet (first | ((with_reducible refine gate_builtin (b := .append) (xs := #[(.tmp 35), .tmp 37]) rfl ?_); at_builtin; refine Kd.R_append (Kd.int .u8) w.heap.size rfl (.tmp 35) (.tmp 37) 40 5 (.int .u8 0) 1 rfl Tryd.underlying40 info5 rfl (by decide) (by omega) u8 x8_1 t181 [.int .u8 t181] (fun _ => True) (fun _ => False) rfl rfl ?aP (fun _ hk => hk.elim) ?aF ?aO (Below.refl _ _) ?aS ?aL ?_; (case aP => exact rfl); (case aF => exact (fun _ _ => trivial)); (case aO => exact (by have G0 := HO_8; exact z1_)); (case aS => exact (keep_size (w := w) (g := g) (row := none) z3_)); (case aL => have := LMc33.out; omega); intro v195 w34 ho hb hg hat; rw [← Ny194.out] at ho; have n0_ := Ad.mk (IsS65.grown (by have G0 := HI0; exact z2_) hg (IsS65.own_ne HI0.out HO_8.out (by decide))); have n1_ := Ad.mk (below_weaken (by have G0 := HI0; exact z4_) HL.out hb); have n2_ := Ad.mk (KeepBut.trans z3_ (KeepBut.of_grown hg g) (Kd.R_base2 HO_8.out)); have n3_ := Ad.mk (ho); clear HI0; clear HB; clear HK; clear HO_8; have HI0 := n0_; have HB := n1_; have HK := n2_; have HO196 := n3_; clear n0_ n1_ n2_ n3_; clear ho hb hg hat; obtain ⟨HGz35, hgz35⟩ := HI0.out; have hcz35_0 := cellS65_0 HGz35; have hcz35_1 := cellS65_1 HGz35; have hfz35_0 := blk_frozen HGz35 0; have hfz35_1 := blk_frozen HGz35 1; clear HGz35 hgz35)); try go_wp2_with (first | ((with_reducible refine gate_builtin (b := .append) (xs := #[(.tmp 35), .tmp 37]) rfl ?_); at_builtin; refine Kd.R_append (Kd.int .u8) w.heap.size rfl (.tmp 35) (.tmp 37) 40 5 (.int .u8 0) 1 rfl Tryd.underlying40 info5 rfl (by decide) (by omega) u8 x8_1 t181 [.int .u8 t181] (fun _ => True) (fun _ => False) rfl rfl ?aP (fun _ hk => hk.elim) ?aF ?aO (Below.refl _ _) ?aS ?aL ?_; (case aP => exact rfl); (case aF => exact (fun _ _ => trivial)); (case aO => exact (by have G0 := HO_8; exact z1_)); (case aS => exact (keep_size (w := w) (g := g) (row := none) z3_)); (case aL => have := LMc33.out; omega); intro v195 w34 ho hb hg hat; rw [← Ny194.out] at ho; have n0_ := Ad.mk (IsS65.grown (by have G0 := HI0; exact z2_) hg (IsS65.own_ne HI0.out HO_8.out (by decide))); have n1_ := Ad.mk (below_weaken (by have G0 := HI0; exact z4_) HL.out hb); have n2_ := Ad.mk (KeepBut.trans z3_ (KeepBut.of_grown hg g) (Kd.R_base2 HO_8.out)); have n3_ := Ad.mk (ho); clear HI0; clear HB; clear HK; clear HO_8; have HI0 := n0_; have HB := n1_; have HK := n2_; have HO196 := n3_; clear n0_ n1_ n2_ n3_; clear ho hb hg hat; obtain ⟨HGz35, hgz35⟩ := HI0.out; have hcz35_0 := cellS65_0 HGz35; have hcz35_1 := cellS65_1 HGz35; have hfz35_0 := blk_frozen HGz35 0; have hfz35_1 := blk_frozen HGz35 1; clear HGz35 hgz35)))
      go_roundg kj11
      case measure => have := HK1.out; have := HJ11.out; omega
      case rel => exact ⟨(y194), (t182), (wrap64 (t183 + 1)), H', ⟨by have := HK1.out; have := HJ11.out; omega⟩, ⟨by (with_reducible repeat (first | apply Kd.R_alloc | apply Kd.R_drewN | apply Kd.R_drew)); exact Kd.R_mono (Kd.R_far (p := ⟨g, 1, none⟩) (IsS65.apart HI0.out HO196.out (by decide)) (fun _ hk => hk.2) (.int .i64 (wrap64 (t183 + 1)))) (fun _ hk => trivial)⟩, ⟨by have G0 := HI0; exact z2_⟩, ⟨z3_⟩, ⟨by have G0 := HI0; exact z4_⟩⟩
     rw [if_neg c33] at H
     exact absurd H (by simp)
def ls_iri.f (k : Nat) (s0_0 : ByteArray) (s0_1 : Int) : Option (Int × ByteArray × Int × ByteArray × ByteArray × Int × Bool × ByteArray × Int) := (ls_ch.f s0_0 s0_1 s0_1).bind fun bt198 => (if bt198.1 = 60 then ((ls_quoted.f k bt198.2.1 bt198.2.2 62 false).bind fun bt201 => ((term_May.f k 1 bt201.1 (⟨#[]⟩ : ByteArray)).bind fun t205 => (if t205 = true then (some (1, (⟨#[]⟩ : ByteArray), 1, bt201.1, (⟨#[]⟩ : ByteArray), 0, true, bt201.2.1, bt201.2.2)) else ((ls_fail.f bt201.2.1 bt201.2.2 bt198.2.2).bind fun bt206 => (some (1, (⟨#[]⟩ : ByteArray), 1, bt201.1, (⟨#[]⟩ : ByteArray), 0, true, bt206.1, bt206.2)))))) else (some (0, (⟨#[]⟩ : ByteArray), 0, (⟨#[]⟩ : ByteArray), (⟨#[]⟩ : ByteArray), 0, false, bt198.2.1, bt198.2.2)))
theorem ls_iri.calls (k : Nat) (g : Nat) (s0_0 : ByteArray) (s0_1 : Int) (r1 : Int) (r2 : ByteArray) (r3 : Int) (r4 : ByteArray) (r5 : ByteArray) (r6 : Int) (r7 : Bool) (r8 : ByteArray) (r9 : Int) (w0 w : World) (hI : IsS65 w0 w g s0_0 s0_1) (hB : Below w0.heap.size w0 w) (h : ls_iri.f k s0_0 s0_1 = some (r1, r2, r3, r4, r5, r6, r7, r8, r9)) :
  Calls Tryd.prog 43 #[.pointer (some ⟨g, 0, none⟩)] w fun e w' => e = .returned (.tuple #[.agg #[.int .i64 r1, .string r2, .int .i64 r3, .string r4, .string r5, .int .i64 r6], .bool r7]) ∧ IsS65 w0 w' g r8 r9 ∧ Below w0.heap.size w0 w' ∧ KeepBut w w' g none := by
 have hu56 := Tryd.underlying56
 have hu36 := Tryd.underlying36
 have HI0 := Ad.mk hI
 have HK := Ad.mk (KeepBut.refl w g none)
 have HL := Ad.mk hB.size
 clear hI
 have HW0 := Ad.mk hB.size
 have HB := Ad.mk hB
 clear hB
 have H := h
 clear h
 unfold ls_iri.f at H
 obtain ⟨⟨t198, t199, t200⟩, A2, H⟩ := bi_ H
 try dsimp only at H
 by_cases c3 : t198 = 60
 ·rw [if_pos c3] at H
  have c3b0 := beq_iff_eq.mpr c3
  have c3b1 := bne_eq_false_iff_eq.mpr c3
  clear c3
  obtain ⟨⟨t201, t202, t203⟩, A4, H⟩ := bi_ H
  try dsimp only at H
  obtain ⟨t205, A5, H⟩ := bi_ H
  by_cases c6 : t205 = true
  ·subst c6
   rw [if_pos rfl] at H
   simp only [Option.some.injEq, Prod.mk.injEq] at H
   obtain ⟨rfl, rfl, rfl, rfl, rfl, rfl, rfl, rfl, rfl⟩ := H
   go_enter Tryd.func43, Tryd.ntmps43
   go_wp2_with (first | ((with_reducible refine gate_dst (N := 2) rfl ?_); refine box_event r1_ (N := 2) r1_ (cs := #[.int .i64 0, .string ⟨#[]⟩, .int .i64 0, .string ⟨#[]⟩, .string ⟨#[]⟩, .int .i64 0]) (t := 56) r2_ ?_; intro gb197 hg w7 hbox hb; have BK197 := Ad.mk (hbox); have GW197 := Ad.mk ((z12_ : w.heap.size ≤ gb197)); have GE197 := Ad.mk ((Nat.le_trans HW0.out (z12_ : w.heap.size ≤ gb197) : w0.heap.size ≤ gb197)); have NB0_197 := Ad.mk ((by have G0 := HI0; exact z21_ : g ≠ gb197)); have NB197_0 := Ad.mk ((by have G0 := HI0; exact z22_ : gb197 ≠ g)); replace HK := Ad.mk (KeepBut.trans z3_ (KeepBut.of_below hb g none) (.inl rfl)); replace HB := Ad.mk (below_step (by have G0 := HI0; exact z4_) hb); replace HI0 := Ad.mk (IsS65.below (by have G0 := HI0; exact z2_) hb); clear hb hbox hg; obtain ⟨HGz8, hgz8⟩ := HI0.out; have hcz8_0 := cellS65_0 HGz8; have hcz8_1 := cellS65_1 HGz8; have hfz8_0 := blk_frozen HGz8 0; have hfz8_1 := blk_frozen HGz8 1; clear HGz8 hgz8) | ((with_reducible refine gate_callee (f := 63) rfl ?_); refine goesL_ (some 11) rfl rfl Tryd.func63 k1_ rfl #[.pointer (some ⟨g, 0, none⟩), .int .i64 s0_1] rfl g1_ ?_; (with_reducible refine (ls_ch.calls g s0_0 s0_1 s0_1 t198 t199 t200 w0 _ ?side1 ?side2 A2.out).mono ?_); (case side1 => exact (by have G0 := HI0; have G1 := NB0_197; exact z7_)); (case side2 => exact (by have G0 := HI0; have G1 := GE197; exact z8_)); rintro e w9 ⟨rfl, hi, hb, hk⟩; refine ⟨_, rfl, ?_⟩; replace BK197 := Ad.mk (KeepBut.blk hk (g' := gb197) (o := .cells #[.int .i64 0, .string ⟨#[]⟩, .int .i64 0, .string ⟨#[]⟩, .string ⟨#[]⟩, .int .i64 0] 56 (0, 0)) (bd_ BK197.out) NB197_0.out (by simp)); replace HK := Ad.mk (KeepBut.trans (by have G0 := GW197; exact z6_) hk (.inl rfl)); replace HB := Ad.mk (hb); replace HI0 := Ad.mk (hi); clear hb hk hi; obtain ⟨HGz10, hgz10⟩ := HI0.out; have hcz10_0 := cellS65_0 HGz10; have hcz10_1 := cellS65_1 HGz10; have hfz10_0 := blk_frozen HGz10 0; have hfz10_1 := blk_frozen HGz10 1; clear HGz10 hgz10) | ((with_reducible refine gate_callee (f := 64) rfl ?_); refine goesL_ (some 19) rfl rfl Tryd.func64 k1_ rfl #[.pointer (some ⟨g, 0, none⟩), .int .u8 62, .bool false] rfl g1_ ?_; (with_reducible refine (ls_quoted.calls k g t199 t200 62 false t201 t202 t203 w0 _ ?side1 ?side2 A4.out).mono ?_); (case side1 => exact (by have G0 := HI0; have G1 := NB0_197; exact z7_)); (case side2 => exact (by have G0 := HI0; have G1 := GE197; exact z8_)); rintro e w11 ⟨rfl, hi, hb, hk⟩; refine ⟨_, rfl, ?_⟩; replace BK197 := Ad.mk (KeepBut.blk hk (g' := gb197) (o := .cells #[.int .i64 0, .string ⟨#[]⟩, .int .i64 0, .string ⟨#[]⟩, .string ⟨#[]⟩, .int .i64 0] 56 (0, 0)) (bd_ BK197.out) NB197_0.out (by simp)); replace HK := Ad.mk (KeepBut.trans (by have G0 := GW197; exact z6_) hk (.inl rfl)); replace HB := Ad.mk (hb); replace HI0 := Ad.mk (hi); clear hb hk hi) | ((with_reducible refine gate_dst (N := 5) rfl ?_); refine box_event r1_ (N := 5) r1_ (cs := #[.int .i64 0, .string ⟨#[]⟩, .string ⟨#[]⟩]) (t := 36) r2_ ?_; intro gb204 hg w12 hbox hb; have BK204 := Ad.mk (hbox); have GW204 := Ad.mk ((by have G0 := GW197; exact z30_ : w.heap.size ≤ gb204)); have GE204 := Ad.mk ((Nat.le_trans HW0.out (by have G0 := GW197; exact z30_ : w.heap.size ≤ gb204) : w0.heap.size ≤ gb204)); have NB197_204 := Ad.mk ((by have G0 := BK197; exact z55_ : gb197 ≠ gb204)); have NB204_197 := Ad.mk ((by have G0 := BK197; exact z56_ : gb204 ≠ gb197)); have NB0_204 := Ad.mk ((by have G0 := HI0; have G1 := NB0_197; exact z57_ : g ≠ gb204)); have NB204_0 := Ad.mk ((by have G0 := HI0; have G1 := NB0_197; exact z58_ : gb204 ≠ g)); replace BK197 := Ad.mk (blk_below (g := gb197) (o := .cells #[.int .i64 0, .string ⟨#[]⟩, .int .i64 0, .string ⟨#[]⟩, .string ⟨#[]⟩, .int .i64 0] 56 (0, 0)) (bd_ BK197.out) hb); replace HK := Ad.mk (KeepBut.trans (by have G0 := GW197; exact z6_) (KeepBut.of_below hb g none) (.inl rfl)); replace HB := Ad.mk (below_step (by have G0 := HI0; have G1 := GE197; exact z8_) hb); replace HI0 := Ad.mk (IsS65.below (by have G0 := HI0; have G1 := NB0_197; exact z7_) hb); clear hb hbox hg; have hnb13 := NB204_197.out; have hnc13 := NB197_204.out; have hnb14 := NB204_0.out; have hnc14 := NB0_204.out; have hcz15_0 := cl_ (.int .i64 0) BK204.out 0; have hcz15_1 := cl_ (.string ⟨#[]⟩) BK204.out 1; have hcz15_2 := cl_ (.string ⟨#[]⟩) BK204.out 2; have hfz15_0 := blk_frozen BK204.out 0; have hfz15_1 := blk_frozen BK204.out 1; have hfz15_2 := blk_frozen BK204.out 2) | ((with_reducible refine gate_callee (f := 28) rfl ?_); refine goesL_ (some 22) rfl rfl Tryd.func28 k1_ rfl #[.agg #[.int .i64 1, .string t201, .string ⟨#[]⟩]] rfl g1_ ?_; (with_reducible refine (term_May.calls k 1 t201 (⟨#[]⟩ : ByteArray) true _ A5.out).mono ?_); rintro e w16 ⟨rfl, hb⟩; refine ⟨_, rfl, ?_⟩; replace BK197 := Ad.mk (blk_below (g := gb197) (o := .cells #[.int .i64 0, .string ⟨#[]⟩, .int .i64 0, .string ⟨#[]⟩, .string ⟨#[]⟩, .int .i64 0] 56 (0, 0)) (by have G0 := NB197_204; have G1 := BK197; exact z45_) hb); replace BK204 := Ad.mk (blk_below (g := gb204) (o := .cells #[.int .i64 1, .string t201, .string ⟨#[]⟩] 36 (0, 0)) (by have G0 := BK204; exact z59_) hb); replace HK := Ad.mk (KeepBut.trans (by have G0 := GW197; have G1 := GW204; exact z25_) (KeepBut.of_below hb g none) (.inl rfl)); replace HB := Ad.mk (below_step (by have G0 := HI0; have G1 := GE197; have G2 := GE204; exact z26_) hb); replace HI0 := Ad.mk (IsS65.below (show IsS65 w0 (((w12.setCell ⟨gb204, 0, none⟩ (.int .i64 1)).setCell ⟨gb204, 1, none⟩ (.string t201)).setCell ⟨gb204, 2, none⟩ (.string ⟨#[]⟩)) g t202 t203 from by have G0 := HI0; have G1 := NB0_197; have G2 := NB0_204; exact z27_) hb); clear hb; have hcz17_0 := cl_ (.int .i64 1) BK204.out 0; have hcz17_1 := cl_ (.string t201) BK204.out 1; have hcz17_2 := cl_ (.string ⟨#[]⟩) BK204.out 2; have hfz17_0 := blk_frozen BK204.out 0; have hfz17_1 := blk_frozen BK204.out 1; have hfz17_2 := blk_frozen BK204.out 2; have hnb18 := NB197_0.out; have hnc18 := NB0_197.out; obtain ⟨⟨hcz19_0, hcz19_1, hcz19_2, hcz19_3, hcz19_4, hcz19_5⟩, hfz19_0, hfz19_1, hfz19_2, hfz19_3, hfz19_4, hfz19_5⟩ := c6_ BK197.out))
   refine bodyPost_ret (results_ct rfl _ _ gb197 56 #[.int .i64 1, .string ⟨#[]⟩, .int .i64 1, .string t201, .string ⟨#[]⟩, .int .i64 0] (0, 0) _ rfl (by have G0 := BK197; exact z60_) Tryd.underlying56 rfl k1_) rfl ?_
   exact ⟨e2_, by have G0 := HI0; have G1 := NB0_197; have G2 := NB0_204; exact z27_, by have G0 := HI0; have G1 := GE197; have G2 := GE204; exact z26_, by have G0 := GW197; have G1 := GW204; exact z25_⟩
  replace c6 := Bool.eq_false_iff.mpr c6
  subst c6
  rw [if_neg (show ¬ (false = true) by decide)] at H
  obtain ⟨⟨t206, t207⟩, A20, H⟩ := bi_ H
  try dsimp only at H
  simp only [Option.some.injEq, Prod.mk.injEq] at H
  obtain ⟨rfl, rfl, rfl, rfl, rfl, rfl, rfl, rfl, rfl⟩ := H
  go_enter Tryd.func43, Tryd.ntmps43
  go_wp2_with (first | ((with_reducible refine gate_dst (N := 2) rfl ?_); refine box_event r1_ (N := 2) r1_ (cs := #[.int .i64 0, .string ⟨#[]⟩, .int .i64 0, .string ⟨#[]⟩, .string ⟨#[]⟩, .int .i64 0]) (t := 56) r2_ ?_; intro gb197 hg w21 hbox hb; have BK197 := Ad.mk (hbox); have GW197 := Ad.mk ((z12_ : w.heap.size ≤ gb197)); have GE197 := Ad.mk ((Nat.le_trans HW0.out (z12_ : w.heap.size ≤ gb197) : w0.heap.size ≤ gb197)); have NB0_197 := Ad.mk ((by have G0 := HI0; exact z21_ : g ≠ gb197)); have NB197_0 := Ad.mk ((by have G0 := HI0; exact z22_ : gb197 ≠ g)); replace HK := Ad.mk (KeepBut.trans z3_ (KeepBut.of_below hb g none) (.inl rfl)); replace HB := Ad.mk (below_step (by have G0 := HI0; exact z4_) hb); replace HI0 := Ad.mk (IsS65.below (by have G0 := HI0; exact z2_) hb); clear hb hbox hg; obtain ⟨HGz22, hgz22⟩ := HI0.out; have hcz22_0 := cellS65_0 HGz22; have hcz22_1 := cellS65_1 HGz22; have hfz22_0 := blk_frozen HGz22 0; have hfz22_1 := blk_frozen HGz22 1; clear HGz22 hgz22) | ((with_reducible refine gate_callee (f := 63) rfl ?_); refine goesL_ (some 11) rfl rfl Tryd.func63 k1_ rfl #[.pointer (some ⟨g, 0, none⟩), .int .i64 s0_1] rfl g1_ ?_; (with_reducible refine (ls_ch.calls g s0_0 s0_1 s0_1 t198 t199 t200 w0 _ ?side1 ?side2 A2.out).mono ?_); (case side1 => exact (by have G0 := HI0; have G1 := NB0_197; exact z7_)); (case side2 => exact (by have G0 := HI0; have G1 := GE197; exact z8_)); rintro e w23 ⟨rfl, hi, hb, hk⟩; refine ⟨_, rfl, ?_⟩; replace BK197 := Ad.mk (KeepBut.blk hk (g' := gb197) (o := .cells #[.int .i64 0, .string ⟨#[]⟩, .int .i64 0, .string ⟨#[]⟩, .string ⟨#[]⟩, .int .i64 0] 56 (0, 0)) (bd_ BK197.out) NB197_0.out (by simp)); replace HK := Ad.mk (KeepBut.trans (by have G0 := GW197; exact z6_) hk (.inl rfl)); replace HB := Ad.mk (hb); replace HI0 := Ad.mk (hi); clear hb hk hi; obtain ⟨HGz24, hgz24⟩ := HI0.out; have hcz24_0 := cellS65_0 HGz24; have hcz24_1 := cellS65_1 HGz24; have hfz24_0 := blk_frozen HGz24 0; have hfz24_1 := blk_frozen HGz24 1; clear HGz24 hgz24) | ((with_reducible refine gate_callee (f := 64) rfl ?_); refine goesL_ (some 19) rfl rfl Tryd.func64 k1_ rfl #[.pointer (some ⟨g, 0, none⟩), .int .u8 62, .bool false] rfl g1_ ?_; (with_reducible refine (ls_quoted.calls k g t199 t200 62 false t201 t202 t203 w0 _ ?side1 ?side2 A4.out).mono ?_); (case side1 => exact (by have G0 := HI0; have G1 := NB0_197; exact z7_)); (case side2 => exact (by have G0 := HI0; have G1 := GE197; exact z8_)); rintro e w25 ⟨rfl, hi, hb, hk⟩; refine ⟨_, rfl, ?_⟩; replace BK197 := Ad.mk (KeepBut.blk hk (g' := gb197) (o := .cells #[.int .i64 0, .string ⟨#[]⟩, .int .i64 0, .string ⟨#[]⟩, .string ⟨#[]⟩, .int .i64 0] 56 (0, 0)) (bd_ BK197.out) NB197_0.out (by simp)); replace HK := Ad.mk (KeepBut.trans (by have G0 := GW197; exact z6_) hk (.inl rfl)); replace HB := Ad.mk (hb); replace HI0 := Ad.mk (hi); clear hb hk hi) | ((with_reducible refine gate_dst (N := 5) rfl ?_); refine box_event r1_ (N := 5) r1_ (cs := #[.int .i64 0, .string ⟨#[]⟩, .string ⟨#[]⟩]) (t := 36) r2_ ?_; intro gb204 hg w26 hbox hb; have BK204 := Ad.mk (hbox); have GW204 := Ad.mk ((by have G0 := GW197; exact z30_ : w.heap.size ≤ gb204)); have GE204 := Ad.mk ((Nat.le_trans HW0.out (by have G0 := GW197; exact z30_ : w.heap.size ≤ gb204) : w0.heap.size ≤ gb204)); have NB197_204 := Ad.mk ((by have G0 := BK197; exact z55_ : gb197 ≠ gb204)); have NB204_197 := Ad.mk ((by have G0 := BK197; exact z56_ : gb204 ≠ gb197)); have NB0_204 := Ad.mk ((by have G0 := HI0; have G1 := NB0_197; exact z57_ : g ≠ gb204)); have NB204_0 := Ad.mk ((by have G0 := HI0; have G1 := NB0_197; exact z58_ : gb204 ≠ g)); replace BK197 := Ad.mk (blk_below (g := gb197) (o := .cells #[.int .i64 0, .string ⟨#[]⟩, .int .i64 0, .string ⟨#[]⟩, .string ⟨#[]⟩, .int .i64 0] 56 (0, 0)) (bd_ BK197.out) hb); replace HK := Ad.mk (KeepBut.trans (by have G0 := GW197; exact z6_) (KeepBut.of_below hb g none) (.inl rfl)); replace HB := Ad.mk (below_step (by have G0 := HI0; have G1 := GE197; exact z8_) hb); replace HI0 := Ad.mk (IsS65.below (by have G0 := HI0; have G1 := NB0_197; exact z7_) hb); clear hb hbox hg; have hnb27 := NB204_197.out; have hnc27 := NB197_204.out; have hnb28 := NB204_0.out; have hnc28 := NB0_204.out; have hcz29_0 := cl_ (.int .i64 0) BK204.out 0; have hcz29_1 := cl_ (.string ⟨#[]⟩) BK204.out 1; have hcz29_2 := cl_ (.string ⟨#[]⟩) BK204.out 2; have hfz29_0 := blk_frozen BK204.out 0; have hfz29_1 := blk_frozen BK204.out 1; have hfz29_2 := blk_frozen BK204.out 2) | ((with_reducible refine gate_callee (f := 28) rfl ?_); refine goesL_ (some 22) rfl rfl Tryd.func28 k1_ rfl #[.agg #[.int .i64 1, .string t201, .string ⟨#[]⟩]] rfl g1_ ?_; (with_reducible refine (term_May.calls k 1 t201 (⟨#[]⟩ : ByteArray) false _ A5.out).mono ?_); rintro e w30 ⟨rfl, hb⟩; refine ⟨_, rfl, ?_⟩; replace BK197 := Ad.mk (blk_below (g := gb197) (o := .cells #[.int .i64 0, .string ⟨#[]⟩, .int .i64 0, .string ⟨#[]⟩, .string ⟨#[]⟩, .int .i64 0] 56 (0, 0)) (by have G0 := NB197_204; have G1 := BK197; exact z45_) hb); replace BK204 := Ad.mk (blk_below (g := gb204) (o := .cells #[.int .i64 1, .string t201, .string ⟨#[]⟩] 36 (0, 0)) (by have G0 := BK204; exact z59_) hb); replace HK := Ad.mk (KeepBut.trans (by have G0 := GW197; have G1 := GW204; exact z25_) (KeepBut.of_below hb g none) (.inl rfl)); replace HB := Ad.mk (below_step (by have G0 := HI0; have G1 := GE197; have G2 := GE204; exact z26_) hb); replace HI0 := Ad.mk (IsS65.below (show IsS65 w0 (((w26.setCell ⟨gb204, 0, none⟩ (.int .i64 1)).setCell ⟨gb204, 1, none⟩ (.string t201)).setCell ⟨gb204, 2, none⟩ (.string ⟨#[]⟩)) g t202 t203 from by have G0 := HI0; have G1 := NB0_197; have G2 := NB0_204; exact z27_) hb); clear hb) | ((with_reducible refine gate_callee (f := 50) rfl ?_); refine goesL_ (some 26) rfl rfl Tryd.func50 k1_ rfl #[.pointer (some ⟨g, 0, none⟩), .int .i64 t200] rfl g1_ ?_; (with_reducible refine (ls_fail.calls g t202 t203 t200 t206 t207 w0 _ ?side1 ?side2 A20.out).mono ?_); (case side1 => exact (by have G0 := HI0; have G1 := NB0_197; have G2 := NB0_204; exact z27_)); (case side2 => exact (by have G0 := HI0; have G1 := GE197; have G2 := GE204; exact z26_)); rintro e w31 ⟨rfl, hi, hb, hk⟩; refine ⟨_, rfl, ?_⟩; replace BK197 := Ad.mk (KeepBut.blk hk (g' := gb197) (o := .cells #[.int .i64 0, .string ⟨#[]⟩, .int .i64 0, .string ⟨#[]⟩, .string ⟨#[]⟩, .int .i64 0] 56 (0, 0)) (bd_ BK197.out) NB197_0.out (by simp)); replace BK204 := Ad.mk (KeepBut.blk hk (g' := gb204) (o := .cells #[.int .i64 1, .string t201, .string ⟨#[]⟩] 36 (0, 0)) (bd_ BK204.out) NB204_0.out (by simp)); replace HK := Ad.mk (KeepBut.trans (by have G0 := GW197; have G1 := GW204; exact z25_) hk (.inl rfl)); replace HB := Ad.mk (hb); replace HI0 := Ad.mk (hi); clear hb hk hi; have hcz32_0 := cl_ (.int .i64 1) BK204.out 0; have hcz32_1 := cl_ (.string t201) BK204.out 1; have hcz32_2 := cl_ (.string ⟨#[]⟩) BK204.out 2; have hfz32_0 := blk_frozen BK204.out 0; have hfz32_1 := blk_frozen BK204.out 1; have hfz32_2 := blk_frozen BK204.out 2; have hnb33 := NB197_0.out; have hnc33 := NB0_197.out; obtain ⟨⟨hcz34_0, hcz34_1, hcz34_2, hcz34_3, hcz34_4, hcz34_5⟩, hfz34_0, hfz34_1, hfz34_2, hfz34_3, hfz34_4, hfz34_5⟩ := c6_ BK197.out))
  refine bodyPost_ret (results_ct rfl _ _ gb197 56 #[.int .i64 1, .string ⟨#[]⟩, .int .i64 1, .string t201, .string ⟨#[]⟩, .int .i64 0] (0, 0) _ rfl (by have G0 := BK197; exact z60_) Tryd.underlying56 rfl k1_) rfl ?_
  exact ⟨e2_, by have G0 := HI0; have G1 := NB0_197; have G2 := NB0_204; exact z27_, by have G0 := HI0; have G1 := GE197; have G2 := GE204; exact z26_, by have G0 := GW197; have G1 := GW204; exact z25_⟩
 rw [if_neg c3] at H
 have c3b0 := beq_eq_false_iff_ne.mpr c3
 have c3b1 := bne_iff_ne.mpr c3
 simp only [Option.some.injEq, Prod.mk.injEq] at H
 obtain ⟨rfl, rfl, rfl, rfl, rfl, rfl, rfl, rfl, rfl⟩ := H
 go_enter Tryd.func43, Tryd.ntmps43
 go_wp2_with (first | ((with_reducible refine gate_dst (N := 2) rfl ?_); refine box_event r1_ (N := 2) r1_ (cs := #[.int .i64 0, .string ⟨#[]⟩, .int .i64 0, .string ⟨#[]⟩, .string ⟨#[]⟩, .int .i64 0]) (t := 56) r2_ ?_; intro gb197 hg w35 hbox hb; have BK197 := Ad.mk (hbox); have GW197 := Ad.mk ((z12_ : w.heap.size ≤ gb197)); have GE197 := Ad.mk ((Nat.le_trans HW0.out (z12_ : w.heap.size ≤ gb197) : w0.heap.size ≤ gb197)); have NB0_197 := Ad.mk ((by have G0 := HI0; exact z21_ : g ≠ gb197)); have NB197_0 := Ad.mk ((by have G0 := HI0; exact z22_ : gb197 ≠ g)); replace HK := Ad.mk (KeepBut.trans z3_ (KeepBut.of_below hb g none) (.inl rfl)); replace HB := Ad.mk (below_step (by have G0 := HI0; exact z4_) hb); replace HI0 := Ad.mk (IsS65.below (by have G0 := HI0; exact z2_) hb); clear hb hbox hg; obtain ⟨HGz36, hgz36⟩ := HI0.out; have hcz36_0 := cellS65_0 HGz36; have hcz36_1 := cellS65_1 HGz36; have hfz36_0 := blk_frozen HGz36 0; have hfz36_1 := blk_frozen HGz36 1; clear HGz36 hgz36) | ((with_reducible refine gate_callee (f := 63) rfl ?_); refine goesL_ (some 11) rfl rfl Tryd.func63 k1_ rfl #[.pointer (some ⟨g, 0, none⟩), .int .i64 s0_1] rfl g1_ ?_; (with_reducible refine (ls_ch.calls g s0_0 s0_1 s0_1 t198 t199 t200 w0 _ ?side1 ?side2 A2.out).mono ?_); (case side1 => exact (by have G0 := HI0; have G1 := NB0_197; exact z7_)); (case side2 => exact (by have G0 := HI0; have G1 := GE197; exact z8_)); rintro e w37 ⟨rfl, hi, hb, hk⟩; refine ⟨_, rfl, ?_⟩; replace BK197 := Ad.mk (KeepBut.blk hk (g' := gb197) (o := .cells #[.int .i64 0, .string ⟨#[]⟩, .int .i64 0, .string ⟨#[]⟩, .string ⟨#[]⟩, .int .i64 0] 56 (0, 0)) (bd_ BK197.out) NB197_0.out (by simp)); replace HK := Ad.mk (KeepBut.trans (by have G0 := GW197; exact z6_) hk (.inl rfl)); replace HB := Ad.mk (hb); replace HI0 := Ad.mk (hi); clear hb hk hi; have hnb38 := NB197_0.out; have hnc38 := NB0_197.out; obtain ⟨⟨hcz39_0, hcz39_1, hcz39_2, hcz39_3, hcz39_4, hcz39_5⟩, hfz39_0, hfz39_1, hfz39_2, hfz39_3, hfz39_4, hfz39_5⟩ := c6_ BK197.out))
 refine bodyPost_ret (results_ct rfl _ _ gb197 56 #[.int .i64 0, .string ⟨#[]⟩, .int .i64 0, .string ⟨#[]⟩, .string ⟨#[]⟩, .int .i64 0] (0, 0) _ rfl (by have G0 := BK197; exact z32_) Tryd.underlying56 rfl k1_) rfl ?_
 exact ⟨e2_, by have G0 := HI0; have G1 := NB0_197; exact z7_, by have G0 := HI0; have G1 := GE197; exact z8_, by have G0 := GW197; exact z6_⟩
end Go.Proofs.YtjnhdamilbcmpaaDoor.PTm

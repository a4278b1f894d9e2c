import Derived.Test.YtjnhdamilbcmpaaGreatDoorWrPWritx0
import Derived.Test.YtjnhdamilbcmpaaGreatDoorWrPWritx2
import Derived.Test.YtjnhdamilbcmpaaGreatDoorWrPWritx3
namespace Go.Proofs.YtjnhdamilbcmpaaGreatDoor.PWrit
open Go.RowKit Go.Proofs.YtjnhdamilbcmpaaGreatDoorW.PrintWords Go.Proofs.YtjnhdamilbcmpaaGreatDoorW.PrintLast Go.Proofs.YtjnhdamilbcmpaaGreatDoorW.PrintMore
attribute [local go_sem] max2_int min2_int max_two min_two max_three min_three max_four min_four
set_option linter.unusedVariables false
set_option linter.unusedSimpArgs false
def term_kinds_2.f (k : Nat) (a0_0 : Int) (a0_1 : ByteArray) (a0_2 : ByteArray) : Option (Bool) := (term_blank.f k a0_1).bind fun t116 => (if t116 = true then (some (a0_2.toList == ([] : List UInt8))) else (some false))
theorem term_kinds_2.mono : ∀ a0 a1 a2 k, LeO (term_kinds_2.f k a0 a1 a2) (term_kinds_2.f (k + 1) a0 a1 a2) := by
 intro a0 a1 a2 k
 unfold term_kinds_2.f
 repeat' first
   | (with_reducible exact term_blank.mono _ _)
   | (with_reducible exact LeO.refl _)
   | (with_reducible exact LeO.none _)
   | (with_reducible refine LeO.ite ?_ ?_)
   | (with_reducible refine LeO.bind ?_ (fun _ => ?_))
   | exact term_blank.mono _ _
   | exact LeO.none _
   | refine LeO.ite ?_ ?_
   | refine LeO.bind ?_ (fun _ => ?_)
set_option maxHeartbeats 8000000 in
set_option maxRecDepth 100000 in
theorem term_kinds_2.calls (k : Nat) (a0_0 : Int) (a0_1 : ByteArray) (a0_2 : ByteArray) (r : Bool) (w : World) (h : term_kinds_2.f k a0_0 a0_1 a0_2 = some r) :
  Calls Tryz.prog 74 #[.agg #[.int .i64 a0_0, .string a0_1, .string a0_2]] w fun e w' => e = .returned (.bool r) ∧ Below w.heap.size w w' := by
 have hu31 := Tryz.underlying31
 have HB := Aside0.mk (Below.refl w.heap.size w)
 have H : ((term_blank.f k a0_1).bind fun t116 => (if t116 = true then (some (a0_2.toList == ([] : List UInt8))) else (some false))) = some r := h
 clear h
 replace H := Option.bind_eq_some_iff.mp H
 obtain ⟨t116, A20, H⟩ := H
 replace H : (if t116 = true then (some (a0_2.toList == ([] : List UInt8))) else (some false)) = some r := H
 have A2 := Aside0.mk A20
 clear A20
 by_cases c3 : t116 = true
 ·subst c3
  have H1 : (some (a0_2.toList == ([] : List UInt8))) = some r := by rw [if_pos rfl] at H; exact H
  clear H
  have H := H1
  clear H1
  obtain rfl := Option.some.inj H
  go_enter Tryz.func74, Tryz.ntmps74
  go_wp2_with (first | ((with_reducible refine gate_dst (N := 1) rfl ?_); refine box_event r1_ (N := 1) r1_ (cs := #[.int .i64 a0_0, .string a0_1, .string a0_2]) (t := 31) r2_ ?_; intro gb115 hg w4 hbox hb; have BK115 := Aside0.mk (hbox); have GW115 := Aside0.mk (bs_ : w.heap.size ≤ gb115); have GE115 := Aside0.mk (bs_ : w.heap.size ≤ gb115); replace HB := Aside0.mk (below_step b1_ hb); clear hb hbox hg; have hcz5_0 := cl_ (.int .i64 a0_0) BK115.out 0; have hcz5_1 := cl_ (.string a0_1) BK115.out 1; have hcz5_2 := cl_ (.string a0_2) BK115.out 2; have hfz5_0 := blk_frozen BK115.out 0; have hfz5_1 := blk_frozen BK115.out 1; have hfz5_2 := blk_frozen BK115.out 2) | ((with_reducible refine gate_callee (f := 75) rfl ?_); refine goesL_ (some 5) rfl rfl Tryz.func75 k1_ rfl #[.string a0_1] rfl g1_ ?_; (with_reducible refine (term_blank.calls k a0_1 true _ A2.out).mono ?_); rintro e w' ⟨rfl, ⟨nd, rfl⟩⟩; refine ⟨_, rfl, ?_⟩))
  go_ret
  exact ⟨e2_, by have G0 := GE115; exact z4_⟩
 ·replace c3 := Bool.eq_false_iff.mpr c3
  subst c3
  have H1 : (some false) = some r := by rw [if_neg (show ¬ (false = true) by decide)] at H; exact H
  clear H
  have H := H1
  clear H1
  obtain rfl := Option.some.inj H
  go_enter Tryz.func74, Tryz.ntmps74
  go_wp2_with (first | ((with_reducible refine gate_dst (N := 1) rfl ?_); refine box_event r1_ (N := 1) r1_ (cs := #[.int .i64 a0_0, .string a0_1, .string a0_2]) (t := 31) r2_ ?_; intro gb115 hg w6 hbox hb; have BK115 := Aside0.mk (hbox); have GW115 := Aside0.mk (bs_ : w.heap.size ≤ gb115); have GE115 := Aside0.mk (bs_ : w.heap.size ≤ gb115); replace HB := Aside0.mk (below_step b1_ hb); clear hb hbox hg; have hcz7_0 := cl_ (.int .i64 a0_0) BK115.out 0; have hcz7_1 := cl_ (.string a0_1) BK115.out 1; have hcz7_2 := cl_ (.string a0_2) BK115.out 2; have hfz7_0 := blk_frozen BK115.out 0; have hfz7_1 := blk_frozen BK115.out 1; have hfz7_2 := blk_frozen BK115.out 2) | ((with_reducible refine gate_callee (f := 75) rfl ?_); refine goesL_ (some 5) rfl rfl Tryz.func75 k1_ rfl #[.string a0_1] rfl g1_ ?_; (with_reducible refine (term_blank.calls k a0_1 false _ A2.out).mono ?_); rintro e w' ⟨rfl, ⟨nd, rfl⟩⟩; refine ⟨_, rfl, ?_⟩))
  go_ret
  exact ⟨e2_, by have G0 := GE115; exact z4_⟩
def term_kinds_3.f (a0_0 : Int) (a0_1 : ByteArray) (a0_2 : ByteArray) : Option (Bool) := (term_value.f a0_1).bind fun t118 => (if t118 = true then (some (a0_2.toList == ([] : List UInt8))) else (some false))
set_option maxHeartbeats 8000000 in
set_option maxRecDepth 100000 in
theorem term_kinds_3.calls (a0_0 : Int) (a0_1 : ByteArray) (a0_2 : ByteArray) (r : Bool) (w : World) (h : term_kinds_3.f a0_0 a0_1 a0_2 = some r) :
  Calls Tryz.prog 76 #[.agg #[.int .i64 a0_0, .string a0_1, .string a0_2]] w fun e w' => e = .returned (.bool r) ∧ Below w.heap.size w w' := by
 have hu31 := Tryz.underlying31
 have HB := Aside0.mk (Below.refl w.heap.size w)
 have H : ((term_value.f a0_1).bind fun t118 => (if t118 = true then (some (a0_2.toList == ([] : List UInt8))) else (some false))) = some r := h
 clear h
 replace H := Option.bind_eq_some_iff.mp H
 obtain ⟨t118, A20, H⟩ := H
 replace H : (if t118 = true then (some (a0_2.toList == ([] : List UInt8))) else (some false)) = some r := H
 have A2 := Aside0.mk A20
 clear A20
 by_cases c3 : t118 = true
 ·subst c3
  have H1 : (some (a0_2.toList == ([] : List UInt8))) = some r := by rw [if_pos rfl] at H; exact H
  clear H
  have H := H1
  clear H1
  obtain rfl := Option.some.inj H
  go_enter Tryz.func76, Tryz.ntmps76
  go_wp2_with (first | ((with_reducible refine gate_dst (N := 1) rfl ?_); refine box_event r1_ (N := 1) r1_ (cs := #[.int .i64 a0_0, .string a0_1, .string a0_2]) (t := 31) r2_ ?_; intro gb117 hg w4 hbox hb; have BK117 := Aside0.mk (hbox); have GW117 := Aside0.mk (bs_ : w.heap.size ≤ gb117); have GE117 := Aside0.mk (bs_ : w.heap.size ≤ gb117); replace HB := Aside0.mk (below_step b1_ hb); clear hb hbox hg; have hcz5_0 := cl_ (.int .i64 a0_0) BK117.out 0; have hcz5_1 := cl_ (.string a0_1) BK117.out 1; have hcz5_2 := cl_ (.string a0_2) BK117.out 2; have hfz5_0 := blk_frozen BK117.out 0; have hfz5_1 := blk_frozen BK117.out 1; have hfz5_2 := blk_frozen BK117.out 2) | ((with_reducible refine gate_callee (f := 77) rfl ?_); refine goesL_ (some 5) rfl rfl Tryz.func77 k1_ rfl #[.string a0_1] rfl g1_ ?_; (with_reducible refine (term_value.calls a0_1 true _ A2.out).mono ?_); rintro e w6 ⟨rfl, hb⟩; refine ⟨_, rfl, ?_⟩; replace BK117 := Aside0.mk (blk_below (g := gb117) (o := .cells #[.int .i64 a0_0, .string a0_1, .string a0_2] 31 (0, 0)) (bd_ BK117.out) hb); replace HB := Aside0.mk (below_step (by have GE := GE117; exact b2_) hb); (try clear hb); (try clear hb2); (try clear hk); (try clear hi); have hcz7_0 := cl_ (.int .i64 a0_0) BK117.out 0; have hcz7_1 := cl_ (.string a0_1) BK117.out 1; have hcz7_2 := cl_ (.string a0_2) BK117.out 2; have hfz7_0 := blk_frozen BK117.out 0; have hfz7_1 := blk_frozen BK117.out 1; have hfz7_2 := blk_frozen BK117.out 2))
  go_ret
  exact ⟨e2_, by have G0 := GE117; exact z4_⟩
 ·replace c3 := Bool.eq_false_iff.mpr c3
  subst c3
  have H1 : (some false) = some r := by rw [if_neg (show ¬ (false = true) by decide)] at H; exact H
  clear H
  have H := H1
  clear H1
  obtain rfl := Option.some.inj H
  go_enter Tryz.func76, Tryz.ntmps76
  go_wp2_with (first | ((with_reducible refine gate_dst (N := 1) rfl ?_); refine box_event r1_ (N := 1) r1_ (cs := #[.int .i64 a0_0, .string a0_1, .string a0_2]) (t := 31) r2_ ?_; intro gb117 hg w8 hbox hb; have BK117 := Aside0.mk (hbox); have GW117 := Aside0.mk (bs_ : w.heap.size ≤ gb117); have GE117 := Aside0.mk (bs_ : w.heap.size ≤ gb117); replace HB := Aside0.mk (below_step b1_ hb); clear hb hbox hg; have hcz9_0 := cl_ (.int .i64 a0_0) BK117.out 0; have hcz9_1 := cl_ (.string a0_1) BK117.out 1; have hcz9_2 := cl_ (.string a0_2) BK117.out 2; have hfz9_0 := blk_frozen BK117.out 0; have hfz9_1 := blk_frozen BK117.out 1; have hfz9_2 := blk_frozen BK117.out 2) | ((with_reducible refine gate_callee (f := 77) rfl ?_); refine goesL_ (some 5) rfl rfl Tryz.func77 k1_ rfl #[.string a0_1] rfl g1_ ?_; (with_reducible refine (term_value.calls a0_1 false _ A2.out).mono ?_); rintro e w10 ⟨rfl, hb⟩; refine ⟨_, rfl, ?_⟩; replace BK117 := Aside0.mk (blk_below (g := gb117) (o := .cells #[.int .i64 a0_0, .string a0_1, .string a0_2] 31 (0, 0)) (bd_ BK117.out) hb); replace HB := Aside0.mk (below_step (by have GE := GE117; exact b2_) hb); (try clear hb); (try clear hb2); (try clear hk); (try clear hi)))
  go_ret
  exact ⟨e2_, by have G0 := GE117; exact z4_⟩
def term_kinds_4.f (k : Nat) (a0_0 : Int) (a0_1 : ByteArray) (a0_2 : ByteArray) : Option (Bool) := (term_value.f a0_1).bind fun t120 => (if t120 = true then ((term_tag.f k a0_2).bind fun t121 => (some t121)) else (some false))
theorem term_kinds_4.mono : ∀ a0 a1 a2 k, LeO (term_kinds_4.f k a0 a1 a2) (term_kinds_4.f (k + 1) a0 a1 a2) := by
 intro a0 a1 a2 k
 unfold term_kinds_4.f
 repeat' first
   | (with_reducible exact term_tag.mono _ _)
   | (with_reducible exact LeO.refl _)
   | (with_reducible exact LeO.none _)
   | (with_reducible refine LeO.ite ?_ ?_)
   | (with_reducible refine LeO.bind ?_ (fun _ => ?_))
   | exact term_tag.mono _ _
   | exact LeO.none _
   | refine LeO.ite ?_ ?_
   | refine LeO.bind ?_ (fun _ => ?_)
set_option maxHeartbeats 8000000 in
set_option maxRecDepth 100000 in
theorem term_kinds_4.calls (k : Nat) (a0_0 : Int) (a0_1 : ByteArray) (a0_2 : ByteArray) (r : Bool) (w : World) (h : term_kinds_4.f k a0_0 a0_1 a0_2 = some r) :
  Calls Tryz.prog 78 #[.agg #[.int .i64 a0_0, .string a0_1, .string a0_2]] w fun e w' => e = .returned (.bool r) ∧ Below w.heap.size w w' := by
 have hu31 := Tryz.underlying31
 have HB := Aside0.mk (Below.refl w.heap.size w)
 have H : ((term_value.f a0_1).bind fun t120 => (if t120 = true then ((term_tag.f k a0_2).bind fun t121 => (some t121)) else (some false))) = some r := h
 clear h
 replace H := Option.bind_eq_some_iff.mp H
 obtain ⟨t120, A20, H⟩ := H
 replace H : (if t120 = true then ((term_tag.f k a0_2).bind fun t121 => (some t121)) else (some false)) = some r := H
 have A2 := Aside0.mk A20
 clear A20
 by_cases c3 : t120 = true
 ·subst c3
  have H1 : ((term_tag.f k a0_2).bind fun t121 => (some t121)) = some r := by rw [if_pos rfl] at H; exact H
  clear H
  have H := H1
  clear H1
  replace H := Option.bind_eq_some_iff.mp H
  obtain ⟨t121, A40, H⟩ := H
  replace H : (some t121) = some r := H
  have A4 := Aside0.mk A40
  clear A40
  obtain rfl := Option.some.inj H
  go_enter Tryz.func78, Tryz.ntmps78
  go_wp2_with (first | ((with_reducible refine gate_dst (N := 1) rfl ?_); refine box_event r1_ (N := 1) r1_ (cs := #[.int .i64 a0_0, .string a0_1, .string a0_2]) (t := 31) r2_ ?_; intro gb119 hg w5 hbox hb; have BK119 := Aside0.mk (hbox); have GW119 := Aside0.mk (bs_ : w.heap.size ≤ gb119); have GE119 := Aside0.mk (bs_ : w.heap.size ≤ gb119); replace HB := Aside0.mk (below_step b1_ hb); clear hb hbox hg; have hcz6_0 := cl_ (.int .i64 a0_0) BK119.out 0; have hcz6_1 := cl_ (.string a0_1) BK119.out 1; have hcz6_2 := cl_ (.string a0_2) BK119.out 2; have hfz6_0 := blk_frozen BK119.out 0; have hfz6_1 := blk_frozen BK119.out 1; have hfz6_2 := blk_frozen BK119.out 2) | ((with_reducible refine gate_callee (f := 77) rfl ?_); refine goesL_ (some 5) rfl rfl Tryz.func77 k1_ rfl #[.string a0_1] rfl g1_ ?_; (with_reducible refine (term_value.calls a0_1 true _ A2.out).mono ?_); rintro e w7 ⟨rfl, hb⟩; refine ⟨_, rfl, ?_⟩; replace BK119 := Aside0.mk (blk_below (g := gb119) (o := .cells #[.int .i64 a0_0, .string a0_1, .string a0_2] 31 (0, 0)) (bd_ BK119.out) hb); replace HB := Aside0.mk (below_step (by have GE := GE119; exact b2_) hb); (try clear hb); (try clear hb2); (try clear hk); (try clear hi); have hcz8_0 := cl_ (.int .i64 a0_0) BK119.out 0; have hcz8_1 := cl_ (.string a0_1) BK119.out 1; have hcz8_2 := cl_ (.string a0_2) BK119.out 2; have hfz8_0 := blk_frozen BK119.out 0; have hfz8_1 := blk_frozen BK119.out 1; have hfz8_2 := blk_frozen BK119.out 2) | (go_at_call 79; (with_reducible refine (term_tag.calls k a0_2 t121 _ A4.out).mono ?_); rintro e w9 ⟨rfl, hb⟩; replace BK119 := Aside0.mk (blk_below (g := gb119) (o := .cells #[.int .i64 a0_0, .string a0_1, .string a0_2] 31 (0, 0)) (bd_ BK119.out) hb); replace HB := Aside0.mk (below_step (by have GE := GE119; exact b2_) hb); (try clear hb); (try clear hb2); (try clear hk); (try clear hi)))
  go_ret
  exact ⟨e2_, by have G0 := GE119; exact z4_⟩
 ·replace c3 := Bool.eq_false_iff.mpr c3
  subst c3
  have H1 : (some false) = some r := by rw [if_neg (show ¬ (false = true) by decide)] at H; exact H
  clear H
  have H := H1
  clear H1
  obtain rfl := Option.some.inj H
  go_enter Tryz.func78, Tryz.ntmps78
  go_wp2_with (first | ((with_reducible refine gate_dst (N := 1) rfl ?_); refine box_event r1_ (N := 1) r1_ (cs := #[.int .i64 a0_0, .string a0_1, .string a0_2]) (t := 31) r2_ ?_; intro gb119 hg w10 hbox hb; have BK119 := Aside0.mk (hbox); have GW119 := Aside0.mk (bs_ : w.heap.size ≤ gb119); have GE119 := Aside0.mk (bs_ : w.heap.size ≤ gb119); replace HB := Aside0.mk (below_step b1_ hb); clear hb hbox hg; have hcz11_0 := cl_ (.int .i64 a0_0) BK119.out 0; have hcz11_1 := cl_ (.string a0_1) BK119.out 1; have hcz11_2 := cl_ (.string a0_2) BK119.out 2; have hfz11_0 := blk_frozen BK119.out 0; have hfz11_1 := blk_frozen BK119.out 1; have hfz11_2 := blk_frozen BK119.out 2) | ((with_reducible refine gate_callee (f := 77) rfl ?_); refine goesL_ (some 5) rfl rfl Tryz.func77 k1_ rfl #[.string a0_1] rfl g1_ ?_; (with_reducible refine (term_value.calls a0_1 false _ A2.out).mono ?_); rintro e w12 ⟨rfl, hb⟩; refine ⟨_, rfl, ?_⟩; replace BK119 := Aside0.mk (blk_below (g := gb119) (o := .cells #[.int .i64 a0_0, .string a0_1, .string a0_2] 31 (0, 0)) (bd_ BK119.out) hb); replace HB := Aside0.mk (below_step (by have GE := GE119; exact b2_) hb); (try clear hb); (try clear hb2); (try clear hk); (try clear hi)))
  go_ret
  exact ⟨e2_, by have G0 := GE119; exact z4_⟩
def term_kinds_5.f (a0_0 : Int) (a0_1 : ByteArray) (a0_2 : ByteArray) : Option (Bool) := (term_value.f a0_1).bind fun t123 => (if t123 = true then ((term_iri.f a0_2).bind fun t124 => (if t124 = true then (some (a0_2.toList != ([104, 116, 116, 112, 58, 47, 47, 119, 119, 119, 46, 119, 51, 46, 111, 114, 103, 47, 50, 48, 48, 49, 47, 88, 77, 76, 83, 99, 104, 101, 109, 97, 35, 115, 116, 114, 105, 110, 103] : List UInt8))) else (some false))) else (some false))
set_option maxHeartbeats 8000000 in
set_option maxRecDepth 100000 in
theorem term_kinds_5.calls (a0_0 : Int) (a0_1 : ByteArray) (a0_2 : ByteArray) (r : Bool) (w : World) (h : term_kinds_5.f a0_0 a0_1 a0_2 = some r) :
  Calls Tryz.prog 80 #[.agg #[.int .i64 a0_0, .string a0_1, .string a0_2]] w fun e w' => e = .returned (.bool r) ∧ Below w.heap.size w w' := by
 have hu31 := Tryz.underlying31
 have HB := Aside0.mk (Below.refl w.heap.size w)
 have H : ((term_value.f a0_1).bind fun t123 => (if t123 = true then ((term_iri.f a0_2).bind fun t124 => (if t124 = true then (some (a0_2.toList != ([104, 116, 116, 112, 58, 47, 47, 119, 119, 119, 46, 119, 51, 46, 111, 114, 103, 47, 50, 48, 48, 49, 47, 88, 77, 76, 83, 99, 104, 101, 109, 97, 35, 115, 116, 114, 105, 110, 103] : List UInt8))) else (some false))) else (some false))) = some r := h
 clear h
 replace H := Option.bind_eq_some_iff.mp H
 obtain ⟨t123, A20, H⟩ := H
 replace H : (if t123 = true then ((term_iri.f a0_2).bind fun t124 => (if t124 = true then (some (a0_2.toList != ([104, 116, 116, 112, 58, 47, 47, 119, 119, 119, 46, 119, 51, 46, 111, 114, 103, 47, 50, 48, 48, 49, 47, 88, 77, 76, 83, 99, 104, 101, 109, 97, 35, 115, 116, 114, 105, 110, 103] : List UInt8))) else (some false))) else (some false)) = some r := H
 have A2 := Aside0.mk A20
 clear A20
 by_cases c3 : t123 = true
 ·subst c3
  have H1 : ((term_iri.f a0_2).bind fun t124 => (if t124 = true then (some (a0_2.toList != ([104, 116, 116, 112, 58, 47, 47, 119, 119, 119, 46, 119, 51, 46, 111, 114, 103, 47, 50, 48, 48, 49, 47, 88, 77, 76, 83, 99, 104, 101, 109, 97, 35, 115, 116, 114, 105, 110, 103] : List UInt8))) else (some false))) = some r := by rw [if_pos rfl] at H; exact H
  clear H
  have H := H1
  clear H1
  replace H := Option.bind_eq_some_iff.mp H
  obtain ⟨t124, A40, H⟩ := H
  replace H : (if t124 = true then (some (a0_2.toList != ([104, 116, 116, 112, 58, 47, 47, 119, 119, 119, 46, 119, 51, 46, 111, 114, 103, 47, 50, 48, 48, 49, 47, 88, 77, 76, 83, 99, 104, 101, 109, 97, 35, 115, 116, 114, 105, 110, 103] : List UInt8))) else (some false)) = some r := H
  have A4 := Aside0.mk A40
  clear A40
  by_cases c5 : t124 = true
  ·subst c5
   have H1 : (some (a0_2.toList != ([104, 116, 116, 112, 58, 47, 47, 119, 119, 119, 46, 119, 51, 46, 111, 114, 103, 47, 50, 48, 48, 49, 47, 88, 77, 76, 83, 99, 104, 101, 109, 97, 35, 115, 116, 114, 105, 110, 103] : List UInt8))) = some r := by rw [if_pos rfl] at H; exact H
   clear H
   have H := H1
   clear H1
   obtain rfl := Option.some.inj H
   go_enter Tryz.func80, Tryz.ntmps80
   go_wp2_with (first | ((with_reducible refine gate_dst (N := 1) rfl ?_); refine box_event r1_ (N := 1) r1_ (cs := #[.int .i64 a0_0, .string a0_1, .string a0_2]) (t := 31) r2_ ?_; intro gb122 hg w6 hbox hb; have BK122 := Aside0.mk (hbox); have GW122 := Aside0.mk (bs_ : w.heap.size ≤ gb122); have GE122 := Aside0.mk (bs_ : w.heap.size ≤ gb122); replace HB := Aside0.mk (below_step b1_ hb); clear hb hbox hg; have hcz7_0 := cl_ (.int .i64 a0_0) BK122.out 0; have hcz7_1 := cl_ (.string a0_1) BK122.out 1; have hcz7_2 := cl_ (.string a0_2) BK122.out 2; have hfz7_0 := blk_frozen BK122.out 0; have hfz7_1 := blk_frozen BK122.out 1; have hfz7_2 := blk_frozen BK122.out 2) | ((with_reducible refine gate_callee (f := 77) rfl ?_); refine goesL_ (some 5) rfl rfl Tryz.func77 k1_ rfl #[.string a0_1] rfl g1_ ?_; (with_reducible refine (term_value.calls a0_1 true _ A2.out).mono ?_); rintro e w8 ⟨rfl, hb⟩; refine ⟨_, rfl, ?_⟩; replace BK122 := Aside0.mk (blk_below (g := gb122) (o := .cells #[.int .i64 a0_0, .string a0_1, .string a0_2] 31 (0, 0)) (bd_ BK122.out) hb); replace HB := Aside0.mk (below_step z25_ hb); (try clear hb); (try clear hb2); (try clear hk); (try clear hi); have hcz9_0 := cl_ (.int .i64 a0_0) BK122.out 0; have hcz9_1 := cl_ (.string a0_1) BK122.out 1; have hcz9_2 := cl_ (.string a0_2) BK122.out 2; have hfz9_0 := blk_frozen BK122.out 0; have hfz9_1 := blk_frozen BK122.out 1; have hfz9_2 := blk_frozen BK122.out 2) | (go_at_call 73; (with_reducible refine (term_iri.calls a0_2 true _ A4.out).mono ?_); rintro e w10 ⟨rfl, hb⟩; replace BK122 := Aside0.mk (blk_below (g := gb122) (o := .cells #[.int .i64 a0_0, .string a0_1, .string a0_2] 31 (0, 0)) (bd_ BK122.out) hb); replace HB := Aside0.mk (below_step z25_ hb); (try clear hb); (try clear hb2); (try clear hk); (try clear hi); have hcz11_0 := cl_ (.int .i64 a0_0) BK122.out 0; have hcz11_1 := cl_ (.string a0_1) BK122.out 1; have hcz11_2 := cl_ (.string a0_2) BK122.out 2; have hfz11_0 := blk_frozen BK122.out 0; have hfz11_1 := blk_frozen BK122.out 1; have hfz11_2 := blk_frozen BK122.out 2))
   go_ret
   exact ⟨e2_, by have G0 := GE122; exact z4_⟩
  ·replace c5 := Bool.eq_false_iff.mpr c5
   subst c5
   have H1 : (some false) = some r := by rw [if_neg (show ¬ (false = true) by decide)] at H; exact H
   clear H
   have H := H1
   clear H1
   obtain rfl := Option.some.inj H
   go_enter Tryz.func80, Tryz.ntmps80
   go_wp2_with (first | ((with_reducible refine gate_dst (N := 1) rfl ?_); refine box_event r1_ (N := 1) r1_ (cs := #[.int .i64 a0_0, .string a0_1, .string a0_2]) (t := 31) r2_ ?_; intro gb122 hg w12 hbox hb; have BK122 := Aside0.mk (hbox); have GW122 := Aside0.mk (bs_ : w.heap.size ≤ gb122); have GE122 := Aside0.mk (bs_ : w.heap.size ≤ gb122); replace HB := Aside0.mk (below_step b1_ hb); clear hb hbox hg; have hcz13_0 := cl_ (.int .i64 a0_0) BK122.out 0; have hcz13_1 := cl_ (.string a0_1) BK122.out 1; have hcz13_2 := cl_ (.string a0_2) BK122.out 2; have hfz13_0 := blk_frozen BK122.out 0; have hfz13_1 := blk_frozen BK122.out 1; have hfz13_2 := blk_frozen BK122.out 2) | ((with_reducible refine gate_callee (f := 77) rfl ?_); refine goesL_ (some 5) rfl rfl Tryz.func77 k1_ rfl #[.string a0_1] rfl g1_ ?_; (with_reducible refine (term_value.calls a0_1 true _ A2.out).mono ?_); rintro e w14 ⟨rfl, hb⟩; refine ⟨_, rfl, ?_⟩; replace BK122 := Aside0.mk (blk_below (g := gb122) (o := .cells #[.int .i64 a0_0, .string a0_1, .string a0_2] 31 (0, 0)) (bd_ BK122.out) hb); replace HB := Aside0.mk (below_step z25_ hb); (try clear hb); (try clear hb2); (try clear hk); (try clear hi); have hcz15_0 := cl_ (.int .i64 a0_0) BK122.out 0; have hcz15_1 := cl_ (.string a0_1) BK122.out 1; have hcz15_2 := cl_ (.string a0_2) BK122.out 2; have hfz15_0 := blk_frozen BK122.out 0; have hfz15_1 := blk_frozen BK122.out 1; have hfz15_2 := blk_frozen BK122.out 2) | (go_at_call 73; (with_reducible refine (term_iri.calls a0_2 false _ A4.out).mono ?_); rintro e w16 ⟨rfl, hb⟩; replace BK122 := Aside0.mk (blk_below (g := gb122) (o := .cells #[.int .i64 a0_0, .string a0_1, .string a0_2] 31 (0, 0)) (bd_ BK122.out) hb); replace HB := Aside0.mk (below_step z25_ hb); (try clear hb); (try clear hb2); (try clear hk); (try clear hi)))
   go_ret
   exact ⟨e2_, by have G0 := GE122; exact z4_⟩
 ·replace c3 := Bool.eq_false_iff.mpr c3
  subst c3
  have H1 : (some false) = some r := by rw [if_neg (show ¬ (false = true) by decide)] at H; exact H
  clear H
  have H := H1
  clear H1
  obtain rfl := Option.some.inj H
  go_enter Tryz.func80, Tryz.ntmps80
  go_wp2_with (first | ((with_reducible refine gate_dst (N := 1) rfl ?_); refine box_event r1_ (N := 1) r1_ (cs := #[.int .i64 a0_0, .string a0_1, .string a0_2]) (t := 31) r2_ ?_; intro gb122 hg w17 hbox hb; have BK122 := Aside0.mk (hbox); have GW122 := Aside0.mk (bs_ : w.heap.size ≤ gb122); have GE122 := Aside0.mk (bs_ : w.heap.size ≤ gb122); replace HB := Aside0.mk (below_step b1_ hb); clear hb hbox hg; have hcz18_0 := cl_ (.int .i64 a0_0) BK122.out 0; have hcz18_1 := cl_ (.string a0_1) BK122.out 1; have hcz18_2 := cl_ (.string a0_2) BK122.out 2; have hfz18_0 := blk_frozen BK122.out 0; have hfz18_1 := blk_frozen BK122.out 1; have hfz18_2 := blk_frozen BK122.out 2) | ((with_reducible refine gate_callee (f := 77) rfl ?_); refine goesL_ (some 5) rfl rfl Tryz.func77 k1_ rfl #[.string a0_1] rfl g1_ ?_; (with_reducible refine (term_value.calls a0_1 false _ A2.out).mono ?_); rintro e w19 ⟨rfl, hb⟩; refine ⟨_, rfl, ?_⟩; replace BK122 := Aside0.mk (blk_below (g := gb122) (o := .cells #[.int .i64 a0_0, .string a0_1, .string a0_2] 31 (0, 0)) (bd_ BK122.out) hb); replace HB := Aside0.mk (below_step z25_ hb); (try clear hb); (try clear hb2); (try clear hk); (try clear hi)))
  go_ret
  exact ⟨e2_, by have G0 := GE122; exact z4_⟩
def IsS75 (w0 W : World) (g : Nat) (f0 : ByteArray) (f1 : Int) : Prop := W.heap[g]? = some (.cells #[.string f0, .int .i64 f1] 75 (0, 0)) ∧ w0.heap.size ≤ g
theorem IsS75.grown {w0 W : World} {g : Nat} {f0 : ByteArray} {f1 : Int} {W1 : World} {row : Option Nat} (h : IsS75 w0 W g f0 f1) (hw : W.grownBy W1 row) (hne : some g ≠ row) : IsS75 w0 W1 g f0 f1 := by
 obtain ⟨hb, hg⟩ := h
 exact ⟨blk_grown hb hw hne, hg⟩
theorem IsS75.fresh {w0 W : World} {g : Nat} {f0 : ByteArray} {f1 : Int} (h : IsS75 w0 W g f0 f1) : ∀ k, W.heap.size ≤ k → k ≠ g := by
 obtain ⟨hb, hg⟩ := h
 exact Kd.freshB hb
theorem IsS75.kept {w0 W : World} {g : Nat} {f0 : ByteArray} {f1 : Int} {W1 : World} {S : Nat → Prop} (h : IsS75 w0 W g f0 f1) (hk : Kept W W1 S) (hne : ¬ S g) : IsS75 w0 W1 g f0 f1 := by
 obtain ⟨hb, hg⟩ := h
 exact ⟨blk_kept hb hk hne, hg⟩
theorem IsS75.below {w0 W : World} {g : Nat} {f0 : ByteArray} {f1 : Int} {W1 : World} (h : IsS75 w0 W g f0 f1) (hw : Below W.heap.size W W1) : IsS75 w0 W1 g f0 f1 := h.grown (grown_of_below hw none) (by simp)
theorem IsS75.alloc {w0 W : World} {g : Nat} {f0 : ByteArray} {f1 : Int} (h : IsS75 w0 W g f0 f1) (o : Obj) : IsS75 w0 (W.alloc o) g f0 f1 := h.below (below_alloc (Below.refl _ _) o)
theorem IsS75.drewN {w0 W : World} {g : Nat} {f0 : ByteArray} {f1 : Int} (h : IsS75 w0 W g f0 f1) (m : Nat) : IsS75 w0 (W.drewN m) g f0 f1 := h
theorem IsS75.drew {w0 W : World} {g : Nat} {f0 : ByteArray} {f1 : Int} (h : IsS75 w0 W g f0 f1) : IsS75 w0 W.drew g f0 f1 := h
theorem IsS75.at_ {w0 W : World} {g : Nat} {f0 : ByteArray} {f1 : Int} {w' : World} {m : Nat} (hq : W.drewN m = w') (h : IsS75 w0 W g f0 f1) : IsS75 w0 w' g f0 f1 := by subst hq; exact IsS75.drewN h m
theorem IsS75.apart {w0 W : World} {g : Nat} {f0 : ByteArray} {f1 : Int} {α : Type} {d : Kd α} {e : Nat} {base : Nat} {ok : Nat → Prop} {v : Value} {xs : List α} (h : IsS75 w0 W g f0 f1) (ho : d.R e W base ok v xs) (ht : ∀ q, q ∈ e :: d.E → q ≠ 75) : d.R e W base (fun k => ok k ∧ k ≠ g) v xs := by
 obtain ⟨hb, hg⟩ := h
 exact Kd.R_types ho hb ht
theorem IsS75.own_ne {w0 W : World} {g : Nat} {f0 : ByteArray} {f1 : Int} {α : Type} {d : Kd α} {e : Nat} {base : Nat} {ok : Nat → Prop} {v : Value} {xs : List α} (h : IsS75 w0 W g f0 f1) (ho : d.R e W base ok v xs) (ht : e ≠ 75) : some g ≠ v.ownBlock := by
 obtain ⟨hb, hg⟩ := h
 exact Kd.R_ne ho hb ht
theorem IsS75.lt {w0 W : World} {g : Nat} {f0 : ByteArray} {f1 : Int} (h : IsS75 w0 W g f0 f1) : g < W.heap.size := by
 obtain ⟨hb, hg⟩ := h
 exact blk_lt hb
theorem IsS75.ge {w0 W : World} {g : Nat} {f0 : ByteArray} {f1 : Int} (h : IsS75 w0 W g f0 f1) : w0.heap.size ≤ g := by
 obtain ⟨hb, hg⟩ := h
 exact hg
theorem IsS75.far {w0 W : World} {g : Nat} {f0 : ByteArray} {f1 : Int} {p : Addr} (h : IsS75 w0 W g f0 f1) (hne : g ≠ p.block) (u : Value) : IsS75 w0 (W.setCell p u) g f0 f1 := by
 obtain ⟨hb, hg⟩ := h
 exact ⟨blk_far hb hne u, hg⟩
theorem cellS75_0 {W : World} {g : Nat} {f0 : ByteArray} {f1 : Int} (h : W.heap[g]? = some (.cells #[.string f0, .int .i64 f1] 75 (0, 0))) : W.cell? ⟨g, 0, none⟩ = some (.string f0) := (blk_cell h 0).trans rfl
theorem IsS75.set_0 {w0 W : World} {g : Nat} {f0 : ByteArray} {f1 : Int} (h : IsS75 w0 W g f0 f1) (x : ByteArray) : IsS75 w0 (W.setCell ⟨g, 0, none⟩ (.string x)) g x f1 := by
 obtain ⟨hb, hg⟩ := h
 exact ⟨by simpa using blk_set hb 0 (.string x), hg⟩
theorem cellS75_1 {W : World} {g : Nat} {f0 : ByteArray} {f1 : Int} (h : W.heap[g]? = some (.cells #[.string f0, .int .i64 f1] 75 (0, 0))) : W.cell? ⟨g, 1, none⟩ = some (.int .i64 f1) := (blk_cell h 1).trans rfl
theorem IsS75.set_1 {w0 W : World} {g : Nat} {f0 : ByteArray} {f1 : Int} (h : IsS75 w0 W g f0 f1) (x : Int) : IsS75 w0 (W.setCell ⟨g, 1, none⟩ (.int .i64 x)) g f0 x := by
 obtain ⟨hb, hg⟩ := h
 exact ⟨by simpa using blk_set hb 1 (.int .i64 x), hg⟩
theorem IsS75.new (w0 W : World) (f0 : ByteArray) (f1 : Int) (hB : Below w0.heap.size w0 W) : IsS75 w0 (W.alloc (.cells #[.string f0, .int .i64 f1] 75)) W.heap.size f0 f1 := ⟨by simpa using heap_alloc_new W _, hB.size⟩
def lex_scanner_skip.l0 : Nat → ByteArray → Int → Option (ByteArray × Int)
 | 0, _, _ => none
 | k + 1, x1000, x1001 => if x1001 < (x1000.size : Int) then (if 0 ≤ x1001 then (if (bt x1000 x1001) = 35 then (if x1001 ≤ (x1000.size : Int) then ((strings_IndexByte.f (x1000.extract (x1001 : Int).toNat x1000.size) 10).bind fun t125 => (if t125 ≥ 0 then (lex_scanner_skip.l0 k x1000 (wrap64 (x1001 + t125))) else (lex_scanner_skip.l0 k x1000 (x1000.size : Int)))) else (none)) else (if (bt x1000 x1001) = 9 then (lex_scanner_skip.l0 k x1000 (wrap64 (x1001 + 1))) else (if (bt x1000 x1001) = 10 then (lex_scanner_skip.l0 k x1000 (wrap64 (x1001 + 1))) else (if (bt x1000 x1001) = 13 then (lex_scanner_skip.l0 k x1000 (wrap64 (x1001 + 1))) else (if (bt x1000 x1001) = 32 then (lex_scanner_skip.l0 k x1000 (wrap64 (x1001 + 1))) else (some (x1000, x1001))))))) else (none)) else (some (x1000, x1001))
def lex_scanner_skip.f (k : Nat) (s0_0 : ByteArray) (s0_1 : Int) : Option (ByteArray × Int) := lex_scanner_skip.l0 k s0_0 s0_1
theorem lex_scanner_skip.mono_l : ∀ k, (∀ y0 y1, LeO (lex_scanner_skip.l0 k y0 y1) (lex_scanner_skip.l0 (k + 1) y0 y1))
 | 0 => fun _ _ r h => by simp [lex_scanner_skip.l0] at h
 | k + 1 => by
  have ih0 := lex_scanner_skip.mono_l k
  ·intro y0 y1
   unfold lex_scanner_skip.l0
   repeat' first
   | (with_reducible exact ih0 _ _)
   | (with_reducible exact LeO.refl _)
   | (with_reducible exact LeO.none _)
   | (with_reducible refine LeO.ite ?_ ?_)
   | (with_reducible refine LeO.bind ?_ (fun _ => ?_))
   | exact ih0 _ _
   | exact LeO.none _
   | refine LeO.ite ?_ ?_
   | refine LeO.bind ?_ (fun _ => ?_)
theorem lex_scanner_skip.mono : ∀ a0 a1 k, LeO (lex_scanner_skip.f k a0 a1) (lex_scanner_skip.f (k + 1) a0 a1) := by
 intro a0 a1 k
 have ih0 := lex_scanner_skip.mono_l k
 unfold lex_scanner_skip.f
 repeat' first
   | (with_reducible exact ih0 _ _)
   | (with_reducible exact LeO.refl _)
   | (with_reducible exact LeO.none _)
   | (with_reducible refine LeO.ite ?_ ?_)
   | (with_reducible refine LeO.bind ?_ (fun _ => ?_))
   | exact ih0 _ _
   | exact LeO.none _
   | refine LeO.ite ?_ ?_
   | refine LeO.bind ?_ (fun _ => ?_)
set_option maxHeartbeats 8000000 in
set_option maxRecDepth 100000 in
theorem lex_scanner_skip.calls (k : Nat) (g : Nat) (s0_0 : ByteArray) (s0_1 : Int) (r1 : ByteArray) (r2 : Int) (w0 w : World) (hI : IsS75 w0 w g s0_0 s0_1) (hB : Below w0.heap.size w0 w) (h : lex_scanner_skip.f k s0_0 s0_1 = some (r1, r2)) :
  Calls Tryz.prog 62 #[.pointer (some ⟨g, 0, none⟩)] w fun e w' => e = .returned (.tuple #[]) ∧ IsS75 w0 w' g r1 r2 ∧ Below w0.heap.size w0 w' ∧ KeepBut w w' g none := by
 have HI0 := Aside0.mk hI
 have HK := Aside0.mk (KeepBut.refl w g none)
 have HL := Aside0.mk hB.size
 clear hI
 have HW0 := Aside0.mk hB.size
 have HB := Aside0.mk hB
 clear hB
 have H : (lex_scanner_skip.l0 k s0_0 s0_1) = some (r1, r2) := h
 clear h
 have H' := Aside0.mk H
 clear H
 go_enter Tryz.func62, Tryz.ntmps62
 go_wp2
 repeat (go_quiet (fail); try go_wp2)
 go_loopg [] k (fun kq w' => ∃ (x1001_1 : Int), Aside0 (lex_scanner_skip.l0 kq s0_0 x1001_1 = some (r1, r2)) ∧ Aside0 (kq ≤ k) ∧ Aside0 (IsS75 w0 w' g s0_0 x1001_1) ∧ Aside0 (KeepBut w w' g none) ∧ Aside0 (Below w0.heap.size w0 w'))
 case atStart => exact ⟨(s0_1), H', ⟨Nat.le_refl _⟩, ⟨by have G0 := HI0; exact z6_⟩, ⟨z3_⟩, ⟨by have G0 := HI0; exact z7_⟩⟩
 case round =>
  clear H'
  obtain ⟨x1001_1, HA, HK1, HI0, HK, HB⟩ := hrel
  cases gk with
  | zero => exact absurd HA.out (by simp [lex_scanner_skip.l0])
  | succ k1 =>
   have H := HA.out
   clear HA
   simp only [lex_scanner_skip.l0] at H
   by_cases c2 : x1001_1 < (s0_0.size : Int)
   ·rw [if_pos c2] at H
    have c2b0 : decide (x1001_1 < (s0_0.size : Int)) = true := decide_eq_true c2
    clear c2
    by_cases c3 : 0 ≤ x1001_1
    ·rw [if_pos c3] at H
     have c3b0 : decide (0 ≤ x1001_1) = true := decide_eq_true c3
     clear c3
     by_cases c5 : (bt s0_0 x1001_1) = 35
     ·rw [if_pos c5] at H
      have c5b0 : ((bt s0_0 x1001_1) == 35) = true := beq_iff_eq.mpr c5
      have c5b1 : ((bt s0_0 x1001_1) != 35) = false := bne_eq_false_iff_eq.mpr c5
      clear c5
      have c6b0 := eq_true (of_decide_eq_true a1_ : 0 ≤ x1001_1)
      by_cases c7 : x1001_1 ≤ (s0_0.size : Int)
      ·rw [if_pos c7] at H
       have c7b0 := eq_true c7
       have c7b1 : decide (x1001_1 ≤ (s0_0.size : Int)) = true := decide_eq_true c7
       clear c7
       replace H := Option.bind_eq_some_iff.mp H
       obtain ⟨t125, A80, H⟩ := H
       replace H : (if t125 ≥ 0 then (lex_scanner_skip.l0 k1 s0_0 (wrap64 (x1001_1 + t125))) else (lex_scanner_skip.l0 k1 s0_0 (s0_0.size : Int))) = some (r1, r2) := H
       have A8 := Aside0.mk A80
       clear A80
       by_cases c9 : t125 ≥ 0
       ·rw [if_pos c9] at H
        have c9b0 : decide (0 ≤ t125) = true := decide_eq_true c9
        clear c9
        have H' := Aside0.mk H
        clear H
        obtain ⟨HGz10, hgz10⟩ := HI0.out
        have hcz10_0 := cellS75_0 HGz10
        have hcz10_1 := cellS75_1 HGz10
        have hfz10_0 := blk_frozen HGz10 0
        have hfz10_1 := blk_frozen HGz10 1
        clear HGz10 hgz10
        have p4 : 0 ≤ (x1001_1 : Int) := of_decide_eq_true a1_
        have q4 : x1001_1 < (s0_0.size : Int) := of_decide_eq_true a1_
        have hx4 := bt_at s0_0 x1001_1
        replace p4 := eq_true p4
        replace q4 := eq_true q4
        go_wp2_with (first | (go_at_call 93; (with_reducible refine (strings_IndexByte.calls (s0_0.extract (x1001_1 : Int).toNat s0_0.size) 10 t125 _ A8.out).mono ?_); rintro e w' ⟨rfl, ⟨nd, rfl⟩⟩; (try first | exact ⟨rfl, _, World.drewN_drewN _ _ _⟩ | exact ⟨rfl, _, Eq.trans (World.drewN_drewN _ _ _) (congrArg (World.drewN _) (Nat.add_assoc _ _ _))⟩)))
        repeat (go_quiet (first | (go_at_call 93; (with_reducible refine (strings_IndexByte.calls (s0_0.extract (x1001_1 : Int).toNat s0_0.size) 10 t125 _ A8.out).mono ?_); rintro e w' ⟨rfl, ⟨nd, rfl⟩⟩; (try first | exact ⟨rfl, _, World.drewN_drewN _ _ _⟩ | exact ⟨rfl, _, Eq.trans (World.drewN_drewN _ _ _) (congrArg (World.drewN _) (Nat.add_assoc _ _ _))⟩))); try go_wp2_with (first | (go_at_call 93; (with_reducible refine (strings_IndexByte.calls (s0_0.extract (x1001_1 : Int).toNat s0_0.size) 10 t125 _ A8.out).mono ?_); rintro e w' ⟨rfl, ⟨nd, rfl⟩⟩; (try first | exact ⟨rfl, _, World.drewN_drewN _ _ _⟩ | exact ⟨rfl, _, Eq.trans (World.drewN_drewN _ _ _) (congrArg (World.drewN _) (Nat.add_assoc _ _ _))⟩))))
        go_roundg k1
        case measure => have := HK1.out; omega
        case rel => exact ⟨(wrap64 (x1001_1 + t125)), H', ⟨by have := HK1.out; omega⟩, ⟨by have G0 := HI0; exact z6_⟩, ⟨z3_⟩, ⟨by have G0 := HI0; exact z7_⟩⟩
       ·rw [if_neg c9] at H
        have c9b0 : decide (0 ≤ t125) = false := decide_eq_false c9
        clear c9
        have H' := Aside0.mk H
        clear H
        obtain ⟨HGz11, hgz11⟩ := HI0.out
        have hcz11_0 := cellS75_0 HGz11
        have hcz11_1 := cellS75_1 HGz11
        have hfz11_0 := blk_frozen HGz11 0
        have hfz11_1 := blk_frozen HGz11 1
        clear HGz11 hgz11
        have p4 : 0 ≤ (x1001_1 : Int) := of_decide_eq_true a1_
        have q4 : x1001_1 < (s0_0.size : Int) := of_decide_eq_true a1_
        have hx4 := bt_at s0_0 x1001_1
        replace p4 := eq_true p4
        replace q4 := eq_true q4
        go_wp2_with (first | (go_at_call 93; (with_reducible refine (strings_IndexByte.calls (s0_0.extract (x1001_1 : Int).toNat s0_0.size) 10 t125 _ A8.out).mono ?_); rintro e w' ⟨rfl, ⟨nd, rfl⟩⟩; (try first | exact ⟨rfl, _, World.drewN_drewN _ _ _⟩ | exact ⟨rfl, _, Eq.trans (World.drewN_drewN _ _ _) (congrArg (World.drewN _) (Nat.add_assoc _ _ _))⟩)))
        repeat (go_quiet (first | (go_at_call 93; (with_reducible refine (strings_IndexByte.calls (s0_0.extract (x1001_1 : Int).toNat s0_0.size) 10 t125 _ A8.out).mono ?_); rintro e w' ⟨rfl, ⟨nd, rfl⟩⟩; (try first | exact ⟨rfl, _, World.drewN_drewN _ _ _⟩ | exact ⟨rfl, _, Eq.trans (World.drewN_drewN _ _ _) (congrArg (World.drewN _) (Nat.add_assoc _ _ _))⟩))); try go_wp2_with (first | (go_at_call 93; (with_reducible refine (strings_IndexByte.calls (s0_0.extract (x1001_1 : Int).toNat s0_0.size) 10 t125 _ A8.out).mono ?_); rintro e w' ⟨rfl, ⟨nd, rfl⟩⟩; (try first | exact ⟨rfl, _, World.drewN_drewN _ _ _⟩ | exact ⟨rfl, _, Eq.trans (World.drewN_drewN _ _ _) (congrArg (World.drewN _) (Nat.add_assoc _ _ _))⟩))))
        go_roundg k1
        case measure => have := HK1.out; omega
        case rel => exact ⟨((s0_0.size : Int)), H', ⟨by have := HK1.out; omega⟩, ⟨by have G0 := HI0; exact z6_⟩, ⟨z3_⟩, ⟨by have G0 := HI0; exact z7_⟩⟩
      ·rw [if_neg c7] at H
       exact absurd H (by simp)
     ·rw [if_neg c5] at H
      have c5b0 : ((bt s0_0 x1001_1) == 35) = false := beq_eq_false_iff_ne.mpr c5
      have c5b1 : ((bt s0_0 x1001_1) != 35) = true := bne_iff_ne.mpr c5
      by_cases c12 : (bt s0_0 x1001_1) = 9
      ·rw [if_pos c12] at H
       have c12b0 : ((bt s0_0 x1001_1) == 9) = true := beq_iff_eq.mpr c12
       have c12b1 : ((bt s0_0 x1001_1) != 9) = false := bne_eq_false_iff_eq.mpr c12
       clear c12
       have H' := Aside0.mk H
       clear H
       obtain ⟨HGz13, hgz13⟩ := HI0.out
       have hcz13_0 := cellS75_0 HGz13
       have hcz13_1 := cellS75_1 HGz13
       have hfz13_0 := blk_frozen HGz13 0
       have hfz13_1 := blk_frozen HGz13 1
       clear HGz13 hgz13
       have p4 : 0 ≤ (x1001_1 : Int) := of_decide_eq_true a1_
       have q4 : x1001_1 < (s0_0.size : Int) := of_decide_eq_true a1_
       have hx4 := bt_at s0_0 x1001_1
       replace p4 := eq_true p4
       replace q4 := eq_true q4
       go_wp2
       repeat (go_quiet (fail); try go_wp2)
       go_roundg k1
       case measure => have := HK1.out; omega
       case rel => exact ⟨(wrap64 (x1001_1 + 1)), H', ⟨by have := HK1.out; omega⟩, ⟨by have G0 := HI0; exact z6_⟩, ⟨z3_⟩, ⟨by have G0 := HI0; exact z7_⟩⟩
      ·rw [if_neg c12] at H
       have c12b0 : ((bt s0_0 x1001_1) == 9) = false := beq_eq_false_iff_ne.mpr c12
       have c12b1 : ((bt s0_0 x1001_1) != 9) = true := bne_iff_ne.mpr c12
       by_cases c14 : (bt s0_0 x1001_1) = 10
       ·rw [if_pos c14] at H
        have c14b0 : ((bt s0_0 x1001_1) == 10) = true := beq_iff_eq.mpr c14
        have c14b1 : ((bt s0_0 x1001_1) != 10) = false := bne_eq_false_iff_eq.mpr c14
        clear c14
        have H' := Aside0.mk H
        clear H
        obtain ⟨HGz15, hgz15⟩ := HI0.out
        have hcz15_0 := cellS75_0 HGz15
        have hcz15_1 := cellS75_1 HGz15
        have hfz15_0 := blk_frozen HGz15 0
        have hfz15_1 := blk_frozen HGz15 1
        clear HGz15 hgz15
        have p4 : 0 ≤ (x1001_1 : Int) := of_decide_eq_true a1_
        have q4 : x1001_1 < (s0_0.size : Int) := of_decide_eq_true a1_
        have hx4 := bt_at s0_0 x1001_1
        replace p4 := eq_true p4
        replace q4 := eq_true q4
        go_wp2
        repeat (go_quiet (fail); try go_wp2)
        go_roundg k1
        case measure => have := HK1.out; omega
        case rel => exact ⟨(wrap64 (x1001_1 + 1)), H', ⟨by have := HK1.out; omega⟩, ⟨by have G0 := HI0; exact z6_⟩, ⟨z3_⟩, ⟨by have G0 := HI0; exact z7_⟩⟩
       ·rw [if_neg c14] at H
        have c14b0 : ((bt s0_0 x1001_1) == 10) = false := beq_eq_false_iff_ne.mpr c14
        have c14b1 : ((bt s0_0 x1001_1) != 10) = true := bne_iff_ne.mpr c14
        by_cases c16 : (bt s0_0 x1001_1) = 13
        ·rw [if_pos c16] at H
         have c16b0 : ((bt s0_0 x1001_1) == 13) = true := beq_iff_eq.mpr c16
         have c16b1 : ((bt s0_0 x1001_1) != 13) = false := bne_eq_false_iff_eq.mpr c16
         clear c16
         have H' := Aside0.mk H
         clear H
         obtain ⟨HGz17, hgz17⟩ := HI0.out
         have hcz17_0 := cellS75_0 HGz17
         have hcz17_1 := cellS75_1 HGz17
         have hfz17_0 := blk_frozen HGz17 0
         have hfz17_1 := blk_frozen HGz17 1
         clear HGz17 hgz17
         have p4 : 0 ≤ (x1001_1 : Int) := of_decide_eq_true a1_
         have q4 : x1001_1 < (s0_0.size : Int) := of_decide_eq_true a1_
         have hx4 := bt_at s0_0 x1001_1
         replace p4 := eq_true p4
         replace q4 := eq_true q4
         go_wp2
         repeat (go_quiet (fail); try go_wp2)
         go_roundg k1
         case measure => have := HK1.out; omega
         case rel => exact ⟨(wrap64 (x1001_1 + 1)), H', ⟨by have := HK1.out; omega⟩, ⟨by have G0 := HI0; exact z6_⟩, ⟨z3_⟩, ⟨by have G0 := HI0; exact z7_⟩⟩
        ·rw [if_neg c16] at H
         have c16b0 : ((bt s0_0 x1001_1) == 13) = false := beq_eq_false_iff_ne.mpr c16
         have c16b1 : ((bt s0_0 x1001_1) != 13) = true := bne_iff_ne.mpr c16
         by_cases c18 : (bt s0_0 x1001_1) = 32
         ·rw [if_pos c18] at H
          have c18b0 : ((bt s0_0 x1001_1) == 32) = true := beq_iff_eq.mpr c18
          have c18b1 : ((bt s0_0 x1001_1) != 32) = false := bne_eq_false_iff_eq.mpr c18
          clear c18
          have H' := Aside0.mk H
          clear H
          obtain ⟨HGz19, hgz19⟩ := HI0.out
          have hcz19_0 := cellS75_0 HGz19
          have hcz19_1 := cellS75_1 HGz19
          have hfz19_0 := blk_frozen HGz19 0
          have hfz19_1 := blk_frozen HGz19 1
          clear HGz19 hgz19
          have p4 : 0 ≤ (x1001_1 : Int) := of_decide_eq_true a1_
          have q4 : x1001_1 < (s0_0.size : Int) := of_decide_eq_true a1_
          have hx4 := bt_at s0_0 x1001_1
          replace p4 := eq_true p4
          replace q4 := eq_true q4
          go_wp2
          repeat (go_quiet (fail); try go_wp2)
          go_roundg k1
          case measure => have := HK1.out; omega
          case rel => exact ⟨(wrap64 (x1001_1 + 1)), H', ⟨by have := HK1.out; omega⟩, ⟨by have G0 := HI0; exact z6_⟩, ⟨z3_⟩, ⟨by have G0 := HI0; exact z7_⟩⟩
         ·rw [if_neg c18] at H
          have c18b0 : ((bt s0_0 x1001_1) == 32) = false := beq_eq_false_iff_ne.mpr c18
          have c18b1 : ((bt s0_0 x1001_1) != 32) = true := bne_iff_ne.mpr c18
          simp only [Option.some.injEq, Prod.mk.injEq] at H
          obtain ⟨rfl, rfl⟩ := H
          obtain ⟨HGz20, hgz20⟩ := HI0.out
          have hcz20_0 := cellS75_0 HGz20
          have hcz20_1 := cellS75_1 HGz20
          have hfz20_0 := blk_frozen HGz20 0
          have hfz20_1 := blk_frozen HGz20 1
          clear HGz20 hgz20
          have p4 : 0 ≤ (x1001_1 : Int) := of_decide_eq_true a1_
          have q4 : x1001_1 < (s0_0.size : Int) := of_decide_eq_true a1_
          have hx4 := bt_at s0_0 x1001_1
          replace p4 := eq_true p4
          replace q4 := eq_true q4
          go_wp2
          repeat (go_quiet (fail); try go_wp2)
          first | go_end0 | ((try simp only [Exit.inBlock, Exit.then]); refine bodyPost_ret (results_none rfl _ _ _) rfl ?_)
          exact ⟨e2_, by have G0 := HI0; exact z6_, by have G0 := HI0; exact z7_, z3_⟩
    ·rw [if_neg c3] at H
     exact absurd H (by simp)
   ·rw [if_neg c2] at H
    have c2b0 : decide (x1001_1 < (s0_0.size : Int)) = false := decide_eq_false c2
    clear c2
    simp only [Option.some.injEq, Prod.mk.injEq] at H
    obtain ⟨rfl, rfl⟩ := H
    obtain ⟨HGz21, hgz21⟩ := HI0.out
    have hcz21_0 := cellS75_0 HGz21
    have hcz21_1 := cellS75_1 HGz21
    have hfz21_0 := blk_frozen HGz21 0
    have hfz21_1 := blk_frozen HGz21 1
    clear HGz21 hgz21
    go_wp2
    repeat (go_quiet (fail); try go_wp2)
    first | go_end0 | ((try simp only [Exit.inBlock, Exit.then]); refine bodyPost_ret (results_none rfl _ _ _) rfl ?_)
    exact ⟨e2_, by have G0 := HI0; exact z6_, by have G0 := HI0; exact z7_, z3_⟩
def lex_scanner_ch.f (s0_0 : ByteArray) (s0_1 : Int) (a1 : Int) : Option (Int × ByteArray × Int) := if a1 < (s0_0.size : Int) then (if 0 ≤ a1 then (some (bt s0_0 a1, s0_0, s0_1)) else (none)) else (some (0, s0_0, s0_1))
set_option maxHeartbeats 8000000 in
set_option maxRecDepth 100000 in
theorem lex_scanner_ch.calls (g : Nat) (s0_0 : ByteArray) (s0_1 : Int) (a1 : Int) (r1 : Int) (r2 : ByteArray) (r3 : Int) (w0 w : World) (hI : IsS75 w0 w g s0_0 s0_1) (hB : Below w0.heap.size w0 w) (h : lex_scanner_ch.f s0_0 s0_1 a1 = some (r1, r2, r3)) :
  Calls Tryz.prog 94 #[.pointer (some ⟨g, 0, none⟩), .int .i64 a1] w fun e w' => e = .returned (.int .u8 r1) ∧ IsS75 w0 w' g r2 r3 ∧ Below w0.heap.size w0 w' ∧ KeepBut w w' g none := by
 have HI0 := Aside0.mk hI
 have HK := Aside0.mk (KeepBut.refl w g none)
 have HL := Aside0.mk hB.size
 clear hI
 have HW0 := Aside0.mk hB.size
 have HB := Aside0.mk hB
 clear hB
 have H : (if a1 < (s0_0.size : Int) then (if 0 ≤ a1 then (some (bt s0_0 a1, s0_0, s0_1)) else (none)) else (some (0, s0_0, s0_1))) = some (r1, r2, r3) := h
 clear h
 by_cases c3 : a1 < (s0_0.size : Int)
 ·rw [if_pos c3] at H
  have c3b0 : decide (a1 < (s0_0.size : Int)) = true := decide_eq_true c3
  clear c3
  by_cases c4 : 0 ≤ a1
  ·rw [if_pos c4] at H
   have c4b0 : decide (0 ≤ a1) = true := decide_eq_true c4
   clear c4
   simp only [Option.some.injEq, Prod.mk.injEq] at H
   obtain ⟨rfl, rfl, rfl⟩ := H
   obtain ⟨HGz6, hgz6⟩ := HI0.out
   have hcz6_0 := cellS75_0 HGz6
   have hcz6_1 := cellS75_1 HGz6
   have hfz6_0 := blk_frozen HGz6 0
   have hfz6_1 := blk_frozen HGz6 1
   clear HGz6 hgz6
   have p5 : 0 ≤ (a1 : Int) := of_decide_eq_true a1_
   have q5 : a1 < (s0_0.size : Int) := of_decide_eq_true a1_
   have hx5 := bt_at s0_0 a1
   replace p5 := eq_true p5
   replace q5 := eq_true q5
   go_enter Tryz.func94, Tryz.ntmps94
   go_wp2
   go_ret
   exact ⟨e2_, by have G0 := HI0; exact z6_, by have G0 := HI0; exact z7_, z3_⟩
  ·rw [if_neg c4] at H
   exact absurd H (by simp)
 ·rw [if_neg c3] at H
  have c3b0 : decide (a1 < (s0_0.size : Int)) = false := decide_eq_false c3
  clear c3
  simp only [Option.some.injEq, Prod.mk.injEq] at H
  obtain ⟨rfl, rfl, rfl⟩ := H
  obtain ⟨HGz7, hgz7⟩ := HI0.out
  have hcz7_0 := cellS75_0 HGz7
  have hcz7_1 := cellS75_1 HGz7
  have hfz7_0 := blk_frozen HGz7 0
  have hfz7_1 := blk_frozen HGz7 1
  clear HGz7 hgz7
  go_enter Tryz.func94, Tryz.ntmps94
  go_wp2
  go_ret
  exact ⟨e2_, by have G0 := HI0; exact z6_, by have G0 := HI0; exact z7_, z3_⟩
theorem run_neq_func {P : Program} {T : TypeId} {a : Array TypeId} {b : Array TypeId} {v : Bool} (hT : P.underlying T = some (.func a b v)) (f : Fn) (x y : Array Value) (W : World) : (binOp .neq T (.func f x y) .nilFunc).run P W = .ok (.bool true) W := by
 have h : (Op.equal T (.func f x y) .nilFunc).run P W = .ok false W := by
  have hd : ∀ d, (Op.equalIn (d + 1) T (.func f x y) .nilFunc).run P W = .ok false W := by
   intro d
   simp only [Op.equalIn, Sem.run_bind, run_underlying hT, Result.andThen_ok]
   rfl
  exact hd 9999
 simp only [binOp, Sem.run_bind, h, Result.andThen_ok]
 rfl
theorem run_neq_nilFunc {P : Program} {T : TypeId} {a : Array TypeId} {b : Array TypeId} {v : Bool} (hT : P.underlying T = some (.func a b v)) (W : World) : (binOp .neq T .nilFunc .nilFunc).run P W = .ok (.bool false) W := by
 have h : (Op.equal T .nilFunc .nilFunc).run P W = .ok true W := by
  have hd : ∀ d, (Op.equalIn (d + 1) T .nilFunc .nilFunc).run P W = .ok true W := by
   intro d
   simp only [Op.equalIn, Sem.run_bind, run_underlying hT, Result.andThen_ok]
   rfl
  exact hd 9999
 simp only [binOp, Sem.run_bind, h, Result.andThen_ok]
 rfl
def kindsFn (a : Int) : Value := if a = 1 then .func (.func 72) #[] #[] else if a = 2 then .func (.func 74) #[] #[] else if a = 3 then .func (.func 76) #[] #[] else if a = 4 then .func (.func 78) #[] #[] else if a = 5 then .func (.func 80) #[] #[] else .nilFunc
theorem look_kinds (W : World) (b : Nat) (hb : W.heap[b]? = some (.map kindsMap 5)) (a : Int) : (Instr.lookup 104 (.map (some b)) (.int .i64 a) false).run Tryz.prog W = .ok (kindsFn a) W := by
 have hT := Tryz.underlying104
 have hK := Tryz.underlying29
 have hz : (zeroValue 81).run Tryz.prog W = .ok .nilFunc W := by kernel_rfl
 have hf : Instr.findNow (.int .i64) (.int .i64 a) kindsMap.toList 0 = some (if a = 1 then some (0, kindsFn a) else if a = 2 then some (1, kindsFn a) else if a = 3 then some (2, kindsFn a) else if a = 4 then some (3, kindsFn a) else if a = 5 then some (4, kindsFn a) else none) := by
  unfold kindsMap
  simp only [findNow_cons]
  unfold kindsFn
  repeat' split
  all_goals first | rfl | (exfalso; omega) | (simp_all; done)
 by_cases h : a = 1 ∨ a = 2 ∨ a = 3 ∨ a = 4 ∨ a = 5
 ·have : ∃ i, Instr.findNow (.int .i64) (.int .i64 a) kindsMap.toList 0 = some (some (i, kindsFn a)) := by
   rw [hf]
   rcases h with rfl | rfl | rfl | rfl | rfl <;> exact ⟨_, rfl⟩
  obtain ⟨i, hi⟩ := this
  exact (run_look hT hK W hb a hi).1
 ·have e : kindsFn a = .nilFunc := by
   unfold kindsFn
   rw [if_neg (by omega), if_neg (by omega), if_neg (by omega), if_neg (by omega), if_neg (by omega)]
  rw [e]
  refine (run_look_none hT hK W hb a hz ?_).1
  rw [hf, if_neg (by omega), if_neg (by omega), if_neg (by omega), if_neg (by omega), if_neg (by omega)]
def term_May.f (k : Nat) (a0_0 : Int) (a0_1 : ByteArray) (a0_2 : ByteArray) : Option Bool := if a0_0 = 1 then (term_kinds_1.f a0_0 a0_1 a0_2) else (if a0_0 = 2 then (term_kinds_2.f k a0_0 a0_1 a0_2) else (if a0_0 = 3 then (term_kinds_3.f a0_0 a0_1 a0_2) else (if a0_0 = 4 then (term_kinds_4.f k a0_0 a0_1 a0_2) else (if a0_0 = 5 then (term_kinds_5.f a0_0 a0_1 a0_2) else (some false)))))
theorem term_May.mono : ∀ a0 a1 a2 k, LeO (term_May.f k a0 a1 a2) (term_May.f (k + 1) a0 a1 a2) := by
 intro a0 a1 a2 k
 unfold term_May.f
 repeat' first
   | (with_reducible exact term_kinds_2.mono _ _ _ _)
   | (with_reducible exact term_kinds_4.mono _ _ _ _)
   | (with_reducible exact LeO.refl _)
   | (with_reducible refine LeO.ite ?_ ?_)
set_option maxRecDepth 100000 in
set_option maxHeartbeats 2000000 in
theorem term_May.calls1 (k : Nat) (a0_1 : ByteArray) (a0_2 : ByteArray) (r : Bool) (w : World) (h : term_kinds_1.f 1 a0_1 a0_2 = some r) :
  Calls Tryz.prog 32 #[.agg #[.int .i64 1, .string a0_1, .string a0_2]] w fun e w' => e = .returned (.bool r) ∧ Below w.heap.size w w' := by
 have hb : ((w.alloc (.cells #[.int .i64 1, .string a0_1, .string a0_2] 31)).alloc (.map kindsMap 5)).heap[w.heap.size + 1]? = some (.map kindsMap 5) := by
  have := World.alloc_heap_new (w.alloc (.cells #[.int .i64 1, .string a0_1, .string a0_2] 31)) (.map kindsMap 5)
  rwa [World.size_alloc] at this
 have hl := look_kinds _ _ hb 1
 have hl2 := look_kinds (((w.alloc (.cells #[.int .i64 1, .string a0_1, .string a0_2] 31)).alloc (.map kindsMap 5)).drew) (w.heap.size + 1) hb 1
 have hk : kindsFn 1 = .func (.func 72) #[] #[] := rfl
 rw [hk] at hl hl2
 have H := Aside0.mk h
 have hne := fun (f : Fn) (x y : Array Value) (W : World) => run_neq_func Tryz.underlying81 f x y W
 have hnn := fun (W : World) => run_neq_nilFunc Tryz.underlying81 W
 clear hb h hk
 go_enter Tryz.func32, Tryz.ntmps32
 go_wp2_with fail
 go_region_with (go_at_call 47; refine (term_kinds.calls _).mono ?_; rintro e w' ⟨rfl, rfl⟩)
 all_goals
  go_wp2_with (go_at_call 72; refine (term_kinds_1.calls 1 a0_1 a0_2 r _ H.out).mono ?_; rintro e w1 ⟨rfl, hb1⟩)
  go_ret
  exact ⟨rfl, Below.trans z22_ (hb1.mono (by simp; try omega))⟩
set_option maxRecDepth 100000 in
set_option maxHeartbeats 2000000 in
theorem term_May.calls2 (k : Nat) (a0_1 : ByteArray) (a0_2 : ByteArray) (r : Bool) (w : World) (h : term_kinds_2.f k 2 a0_1 a0_2 = some r) :
  Calls Tryz.prog 32 #[.agg #[.int .i64 2, .string a0_1, .string a0_2]] w fun e w' => e = .returned (.bool r) ∧ Below w.heap.size w w' := by
 have hb : ((w.alloc (.cells #[.int .i64 2, .string a0_1, .string a0_2] 31)).alloc (.map kindsMap 5)).heap[w.heap.size + 1]? = some (.map kindsMap 5) := by
  have := World.alloc_heap_new (w.alloc (.cells #[.int .i64 2, .string a0_1, .string a0_2] 31)) (.map kindsMap 5)
  rwa [World.size_alloc] at this
 have hl := look_kinds _ _ hb 2
 have hl2 := look_kinds (((w.alloc (.cells #[.int .i64 2, .string a0_1, .string a0_2] 31)).alloc (.map kindsMap 5)).drew) (w.heap.size + 1) hb 2
 have hk : kindsFn 2 = .func (.func 74) #[] #[] := rfl
 rw [hk] at hl hl2
 have H := Aside0.mk h
 have hne := fun (f : Fn) (x y : Array Value) (W : World) => run_neq_func Tryz.underlying81 f x y W
 have hnn := fun (W : World) => run_neq_nilFunc Tryz.underlying81 W
 clear hb h hk
 go_enter Tryz.func32, Tryz.ntmps32
 go_wp2_with fail
 go_region_with (go_at_call 47; refine (term_kinds.calls _).mono ?_; rintro e w' ⟨rfl, rfl⟩)
 all_goals
  go_wp2_with (go_at_call 74; refine (term_kinds_2.calls k 2 a0_1 a0_2 r _ H.out).mono ?_; rintro e w1 ⟨rfl, hb1⟩)
  go_ret
  exact ⟨rfl, Below.trans z22_ (hb1.mono (by simp; try omega))⟩
set_option maxRecDepth 100000 in
set_option maxHeartbeats 2000000 in
theorem term_May.calls3 (k : Nat) (a0_1 : ByteArray) (a0_2 : ByteArray) (r : Bool) (w : World) (h : term_kinds_3.f 3 a0_1 a0_2 = some r) :
  Calls Tryz.prog 32 #[.agg #[.int .i64 3, .string a0_1, .string a0_2]] w fun e w' => e = .returned (.bool r) ∧ Below w.heap.size w w' := by
 have hb : ((w.alloc (.cells #[.int .i64 3, .string a0_1, .string a0_2] 31)).alloc (.map kindsMap 5)).heap[w.heap.size + 1]? = some (.map kindsMap 5) := by
  have := World.alloc_heap_new (w.alloc (.cells #[.int .i64 3, .string a0_1, .string a0_2] 31)) (.map kindsMap 5)
  rwa [World.size_alloc] at this
 have hl := look_kinds _ _ hb 3
 have hl2 := look_kinds (((w.alloc (.cells #[.int .i64 3, .string a0_1, .string a0_2] 31)).alloc (.map kindsMap 5)).drew) (w.heap.size + 1) hb 3
 have hk : kindsFn 3 = .func (.func 76) #[] #[] := rfl
 rw [hk] at hl hl2
 have H := Aside0.mk h
 have hne := fun (f : Fn) (x y : Array Value) (W : World) => run_neq_func Tryz.underlying81 f x y W
 have hnn := fun (W : World) => run_neq_nilFunc Tryz.underlying81 W
 clear hb h hk
 go_enter Tryz.func32, Tryz.ntmps32
 go_wp2_with fail
 go_region_with (go_at_call 47; refine (term_kinds.calls _).mono ?_; rintro e w' ⟨rfl, rfl⟩)
 all_goals
  go_wp2_with (go_at_call 76; refine (term_kinds_3.calls 3 a0_1 a0_2 r _ H.out).mono ?_; rintro e w1 ⟨rfl, hb1⟩)
  go_ret
  exact ⟨rfl, Below.trans z22_ (hb1.mono (by simp; try omega))⟩
set_option maxRecDepth 100000 in
set_option maxHeartbeats 2000000 in
theorem term_May.calls4 (k : Nat) (a0_1 : ByteArray) (a0_2 : ByteArray) (r : Bool) (w : World) (h : term_kinds_4.f k 4 a0_1 a0_2 = some r) :
  Calls Tryz.prog 32 #[.agg #[.int .i64 4, .string a0_1, .string a0_2]] w fun e w' => e = .returned (.bool r) ∧ Below w.heap.size w w' := by
 have hb : ((w.alloc (.cells #[.int .i64 4, .string a0_1, .string a0_2] 31)).alloc (.map kindsMap 5)).heap[w.heap.size + 1]? = some (.map kindsMap 5) := by
  have := World.alloc_heap_new (w.alloc (.cells #[.int .i64 4, .string a0_1, .string a0_2] 31)) (.map kindsMap 5)
  rwa [World.size_alloc] at this
 have hl := look_kinds _ _ hb 4
 have hl2 := look_kinds (((w.alloc (.cells #[.int .i64 4, .string a0_1, .string a0_2] 31)).alloc (.map kindsMap 5)).drew) (w.heap.size + 1) hb 4
 have hk : kindsFn 4 = .func (.func 78) #[] #[] := rfl
 rw [hk] at hl hl2
 have H := Aside0.mk h
 have hne := fun (f : Fn) (x y : Array Value) (W : World) => run_neq_func Tryz.underlying81 f x y W
 have hnn := fun (W : World) => run_neq_nilFunc Tryz.underlying81 W
 clear hb h hk
 go_enter Tryz.func32, Tryz.ntmps32
 go_wp2_with fail
 go_region_with (go_at_call 47; refine (term_kinds.calls _).mono ?_; rintro e w' ⟨rfl, rfl⟩)
 all_goals
  go_wp2_with (go_at_call 78; refine (term_kinds_4.calls k 4 a0_1 a0_2 r _ H.out).mono ?_; rintro e w1 ⟨rfl, hb1⟩)
  go_ret
  exact ⟨rfl, Below.trans z22_ (hb1.mono (by simp; try omega))⟩
set_option maxRecDepth 100000 in
set_option maxHeartbeats 2000000 in
theorem term_May.calls5 (k : Nat) (a0_1 : ByteArray) (a0_2 : ByteArray) (r : Bool) (w : World) (h : term_kinds_5.f 5 a0_1 a0_2 = some r) :
  Calls Tryz.prog 32 #[.agg #[.int .i64 5, .string a0_1, .string a0_2]] w fun e w' => e = .returned (.bool r) ∧ Below w.heap.size w w' := by
 have hb : ((w.alloc (.cells #[.int .i64 5, .string a0_1, .string a0_2] 31)).alloc (.map kindsMap 5)).heap[w.heap.size + 1]? = some (.map kindsMap 5) := by
  have := World.alloc_heap_new (w.alloc (.cells #[.int .i64 5, .string a0_1, .string a0_2] 31)) (.map kindsMap 5)
  rwa [World.size_alloc] at this
 have hl := look_kinds _ _ hb 5
 have hl2 := look_kinds (((w.alloc (.cells #[.int .i64 5, .string a0_1, .string a0_2] 31)).alloc (.map kindsMap 5)).drew) (w.heap.size + 1) hb 5
 have hk : kindsFn 5 = .func (.func 80) #[] #[] := rfl
 rw [hk] at hl hl2
 have H := Aside0.mk h
 have hne := fun (f : Fn) (x y : Array Value) (W : World) => run_neq_func Tryz.underlying81 f x y W
 have hnn := fun (W : World) => run_neq_nilFunc Tryz.underlying81 W
 clear hb h hk
 go_enter Tryz.func32, Tryz.ntmps32
 go_wp2_with fail
 go_region_with (go_at_call 47; refine (term_kinds.calls _).mono ?_; rintro e w' ⟨rfl, rfl⟩)
 all_goals
  go_wp2_with (go_at_call 80; refine (term_kinds_5.calls 5 a0_1 a0_2 r _ H.out).mono ?_; rintro e w1 ⟨rfl, hb1⟩)
  go_ret
  exact ⟨rfl, Below.trans z22_ (hb1.mono (by simp; try omega))⟩
set_option maxRecDepth 100000 in
set_option maxHeartbeats 2000000 in
theorem term_May.calls0 (a0_0 : Int) (a0_1 : ByteArray) (a0_2 : ByteArray) (w : World) (h : ¬ (a0_0 = 1 ∨ a0_0 = 2 ∨ a0_0 = 3 ∨ a0_0 = 4 ∨ a0_0 = 5)) :
  Calls Tryz.prog 32 #[.agg #[.int .i64 a0_0, .string a0_1, .string a0_2]] w fun e w' => e = .returned (.bool false) ∧ Below w.heap.size w w' := by
 have hb : ((w.alloc (.cells #[.int .i64 a0_0, .string a0_1, .string a0_2] 31)).alloc (.map kindsMap 5)).heap[w.heap.size + 1]? = some (.map kindsMap 5) := by
  have := World.alloc_heap_new (w.alloc (.cells #[.int .i64 a0_0, .string a0_1, .string a0_2] 31)) (.map kindsMap 5)
  rwa [World.size_alloc] at this
 have hl := look_kinds _ _ hb a0_0
 have hl2 := look_kinds (((w.alloc (.cells #[.int .i64 a0_0, .string a0_1, .string a0_2] 31)).alloc (.map kindsMap 5)).drew) (w.heap.size + 1) hb a0_0
 have hk : kindsFn a0_0 = .nilFunc := by
  unfold kindsFn
  rw [if_neg (by omega), if_neg (by omega), if_neg (by omega), if_neg (by omega), if_neg (by omega)]
 rw [hk] at hl hl2
 have hne := fun (f : Fn) (x y : Array Value) (W : World) => run_neq_func Tryz.underlying81 f x y W
 have hnn := fun (W : World) => run_neq_nilFunc Tryz.underlying81 W
 clear hb h hk
 go_enter Tryz.func32, Tryz.ntmps32
 go_wp2_with fail
 go_region_with (go_at_call 47; refine (term_kinds.calls _).mono ?_; rintro e w' ⟨rfl, rfl⟩)
 all_goals
  go_wp2
  go_ret
  exact ⟨rfl, z22_⟩
theorem term_May.calls (k : Nat) (a0_0 : Int) (a0_1 : ByteArray) (a0_2 : ByteArray) (r : Bool) (w : World) (h : term_May.f k a0_0 a0_1 a0_2 = some r) :
  Calls Tryz.prog 32 #[.agg #[.int .i64 a0_0, .string a0_1, .string a0_2]] w fun e w' => e = .returned (.bool r) ∧ Below w.heap.size w w' := by
 unfold term_May.f at h
 by_cases h1 : a0_0 = 1
 ·subst h1; rw [if_pos rfl] at h; exact term_May.calls1 k a0_1 a0_2 r w h
 rw [if_neg h1] at h
 by_cases h2 : a0_0 = 2
 ·subst h2; rw [if_pos rfl] at h; exact term_May.calls2 k a0_1 a0_2 r w h
 rw [if_neg h2] at h
 by_cases h3 : a0_0 = 3
 ·subst h3; rw [if_pos rfl] at h; exact term_May.calls3 k a0_1 a0_2 r w h
 rw [if_neg h3] at h
 by_cases h4 : a0_0 = 4
 ·subst h4; rw [if_pos rfl] at h; exact term_May.calls4 k a0_1 a0_2 r w h
 rw [if_neg h4] at h
 by_cases h5 : a0_0 = 5
 ·subst h5; rw [if_pos rfl] at h; exact term_May.calls5 k a0_1 a0_2 r w h
 rw [if_neg h5] at h
 obtain rfl := Option.some.inj h
 exact term_May.calls0 a0_0 a0_1 a0_2 w (by omega)
def lex_scanner_fail.f (s0_0 : ByteArray) (s0_1 : Int) (a1 : Int) : Option (ByteArray × Int) := none
theorem lex_scanner_fail.calls (g : Nat) (s0_0 : ByteArray) (s0_1 : Int) (a1 : Int) (r1 : ByteArray) (r2 : Int) (w0 w : World) (hI : IsS75 w0 w g s0_0 s0_1) (hB : Below w0.heap.size w0 w) (h : lex_scanner_fail.f s0_0 s0_1 a1 = some (r1, r2)) :
  Calls Tryz.prog 70 #[.pointer (some ⟨g, 0, none⟩), .int .i64 a1] w fun e w' => e = .returned (.tuple #[]) ∧ IsS75 w0 w' g r1 r2 ∧ Below w0.heap.size w0 w' ∧ KeepBut w w' g none := by
 cases h
def lex_scanner_escaped.f (_k : Nat) (_s0_0 : ByteArray) (_s0_1 : Int) (_a1 : Int) (_a2 : Bool) : Option (List Int × ByteArray × Int) := none
theorem lex_scanner_escaped.mono : ∀ a0 a1 a2 a3 k, LeO (lex_scanner_escaped.f k a0 a1 a2 a3) (lex_scanner_escaped.f (k + 1) a0 a1 a2 a3) := fun _ _ _ _ _ => LeO.refl _
theorem lex_scanner_escaped.calls (k : Nat) (g : Nat) (s0_0 : ByteArray) (s0_1 : Int) (a1 : Int) (a2 : Bool) (r1 : List Int) (r2 : ByteArray) (r3 : Int) (w0 w : World) (hI : IsS75 w0 w g s0_0 s0_1) (hB : Below w0.heap.size w0 w) (h : lex_scanner_escaped.f k s0_0 s0_1 a1 a2 = some (r1, r2, r3)) :
  Calls Tryz.prog 110 #[.pointer (some ⟨g, 0, none⟩), .int .i64 a1, .bool a2] w fun e w' => ∃ v0_ : Value, e = .returned (v0_) ∧ Kd.R (Kd.int .u8) 5 w' w.heap.size (fun _ => True) v0_ r1 ∧ IsS75 w0 w' g r2 r3 ∧ Below w0.heap.size w0 w' ∧ KeepBut w w' g none :=
 nomatch h
end Go.Proofs.YtjnhdamilbcmpaaGreatDoor.PWrit

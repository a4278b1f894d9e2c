import Derived.Test.YtpbphelaeleikaaGreatDoorXtPLtx0
import Derived.Test.YtpbphelaeleikaaGreatDoorXtPLtx1
import Derived.Test.YtpbphelaeleikaaGreatDoorXtPLtx2
import Derived.Test.YtpbphelaeleikaaGreatDoorXtPLtx7
import Derived.Test.YtpbphelaeleikaaGreatDoorXtPLtx8
import Derived.Test.YtpbphelaeleikaaGreatDoorXtPLtx14
namespace Go.Proofs.YtpbphelaeleikaaGreatDoor.PLt
open Go.RowKit Go.Proofs.YtpbphelaeleikaaGreatDoorW.PrintWords Go.Proofs.YtpbphelaeleikaaGreatDoorW.PrintLast Go.Proofs.YtpbphelaeleikaaGreatDoorW.PrintMore
attribute [local go_sem] max2_int min2_int max_two min_two max_three min_three max_four min_four
set_option linter.unusedVariables false
set_option linter.unusedSimpArgs false
set_option maxHeartbeats 8000000
set_option maxRecDepth 100000
def g4_Run.l0 : Nat → ByteArray → List (S43) → Int → Option ((List (S43)) × Int)
 | 0, _, _, _ => none
 | k + 1, x6, x7, x8 => if x8 < (x6.size : Int) then ((g4_One.f k x6 x8).bind fun bt329 => (if bt329.2.2.2.2.2.2 < 0 then (some (x7, x8)) else (if x7.length < 1954687338268 then ((g4_Skip.f k x6 bt329.2.2.2.2.2.2).bind fun t340 => (g4_Run.l0 k x6 (x7 ++ [(⟨bt329.1, bt329.2.1, (⟨bt329.2.2.1, bt329.2.2.2.1, bt329.2.2.2.2.1⟩ : S31), bt329.2.2.2.2.2.1⟩ : S43)]) t340)) else (none)))) else (some (x7, x8))
def g4_Run.f (k : Nat) (a0 : ByteArray) : Option ((List (S43)) × Int) := (g1r_Runes.f k a0).bind fun bt324 => (if 0 ≤ bt324.2 then (if bt324.2 ≤ (a0.size : Int) then ((g4_Skip.f k (a0.extract 0 (bt324.2 : Int).toNat) 0).bind fun t328 => (g4_Run.l0 k (a0.extract 0 (bt324.2 : Int).toNat) ([] : List (S43)) t328)) else (none)) else (none))
theorem g4_Run.calls (k : Nat) (a0 : ByteArray) (r1 : List (S43)) (r2 : Int) (w : World) (h : g4_Run.f k a0 = some (r1, r2)) :
  Calls Tryz.prog 4 #[.string a0] w fun e w' => ∃ v0_ : Value, e = .returned (.tuple #[v0_, .int .i64 r2]) ∧ Kd.R k43 43 w' w.heap.size (fun _ => True) v0_ r1 ∧ Below w.heap.size w w' := by
 have hu43 := Tryz.underlying43
 have HB := Ad.mk (Below.refl w.heap.size w)
 have H := h
 clear h
 unfold g4_Run.f at H
 obtain ⟨⟨t324, t325⟩, A2, H⟩ := bi_ H
 try dsimp only at H
 by_cases c3 : 0 ≤ t325
 ·rw [if_pos c3] at H
  have c3b0 := eq_true c3
  have c3b1 := decide_eq_true c3
  clear c3
  by_cases c4 : t325 ≤ (a0.size : Int)
  ·rw [if_pos c4] at H
   have c4b0 := eq_true c4
   have c4b1 := decide_eq_true c4
   clear c4
   obtain ⟨t328, A5, H⟩ := bi_ H
   have H' := Ad.mk H
   clear H
   go_enter Tryz.func4, Tryz.ntmps4
   go_wp2_with (first | ((with_reducible refine gate_callee (f := 14) rfl ?_); refine goesL_ (some 13) rfl rfl Tryz.func14 k1_ rfl #[.string a0] rfl g1_ ?_; (with_reducible refine (g1r_Runes.calls k a0 t324 t325 _ A2.out).mono ?_); rintro e w6 ⟨v326, rfl, ho0, hb⟩; refine ⟨_, rfl, ?_⟩; have HO327 := Ad.mk (Kd.R_lower ho0 (below_size b1_)); replace HB := Ad.mk (below_step b1_ hb); (try clear hb); (try clear hb2); (try clear hk); (try clear hi); (try clear ho0)) | ((with_reducible refine gate_callee (f := 15) rfl ?_); refine goesL_ (some 20) rfl rfl Tryz.func15 k1_ rfl #[.string (a0.extract 0 (t325 : Int).toNat), .int .i64 0] rfl g1_ ?_; (with_reducible refine (g4_Skip.calls k (a0.extract 0 (t325 : Int).toNat) 0 t328 _ A5.out).mono ?_); rintro e w' ⟨rfl, ⟨nd, rfl⟩⟩; refine ⟨_, rfl, ?_⟩))
   go_loopg [7, 8] k (fun kq v7 v8 w' => ∃ (x7_1 : List (S43)) (x8_1 : Int), v8 = .int .i64 x8_1 ∧ Ad (g4_Run.l0 kq (a0.extract 0 (t325 : Int).toNat) x7_1 x8_1 = some (r1, r2)) ∧ Ad (kq ≤ k) ∧ Ad (Kd.R k43 43 w' w.heap.size (fun _ => True) v7 x7_1) ∧ Ad (Below w.heap.size w w'))
   case atStart => exact ⟨(([] : List (S43))), (t328), e1_, H', ⟨Nat.le_refl _⟩, ⟨z24_⟩, ⟨b1_⟩⟩
   case round =>
    clear H'
    try clear c1
    try clear p2
    try clear c3
    try clear c3b0
    try clear c3b1
    try clear c4
    try clear c4b0
    try clear c4b1
    obtain ⟨x7_1, x8_1, rfl, HA, HK1, HO_7, HB⟩ := hrel
    cases gk with
    | zero => exact absurd HA.out (by simp [g4_Run.l0])
    | succ k1 =>
     have H := HA.out
     clear HA
     simp only [g4_Run.l0] at H
     by_cases c7 : x8_1 < ((a0.extract 0 (t325 : Int).toNat).size : Int)
     ·rw [if_pos c7] at H
      have c7b0 := decide_eq_true c7
      have c7b0x_ : decide (x8_1 < ((min (t325 : Int).toNat a0.size : Nat) : Int)) = true := by have h_ := c7b0; rw [ByteArray.size_extract, Nat.sub_zero] at h_; exact h_
      clear c7
      obtain ⟨⟨t329, t330, t331, t332, t333, t334, t335⟩, A8, H⟩ := bi_ H
      try dsimp only at H
      by_cases c9 : t335 < 0
      ·rw [if_pos c9] at H
       have c9b0 := decide_eq_true c9
       clear c9
       simp only [Option.some.injEq, Prod.mk.injEq] at H
       obtain ⟨rfl, rfl⟩ := H
       go_wp2_with (first | ((with_reducible refine gate_callee (f := 16) rfl ?_); refine goesL_ (some 28) rfl rfl Tryz.func16 k1_ rfl #[.string (a0.extract 0 (t325 : Int).toNat), .int .i64 x8_1] rfl g1_ ?_; (with_reducible refine (g4_One.calls k1 (a0.extract 0 (t325 : Int).toNat) x8_1 t329 t330 t331 t332 t333 t334 t335 _ A8.out).mono ?_); rintro e w10 ⟨rfl, hb⟩; refine ⟨_, rfl, ?_⟩; replace HO_7 := Ad.mk (Kd.R_below (by have G0 := HO_7; exact z3_) hb); replace HB := Ad.mk (below_step b1_ hb); clear hb) | ((with_reducible refine gate_dst (N := 9) rfl ?_); refine box_event r1_ (N := 9) r1_ (cs := #[.int .i64 0, .string ⟨#[]⟩, .int .i64 0, .string ⟨#[]⟩, .string ⟨#[]⟩, .int .i64 0]) (t := 43) r2_ ?_; intro gb336 hg w11 hbox hb; have BK336 := Ad.mk (hbox); have GW336 := Ad.mk (bs_ : w.heap.size ≤ gb336); have GE336 := Ad.mk (bs_ : w.heap.size ≤ gb336); replace HO_7 := Ad.mk (Kd.R_below (Kd.R_elderB (by have G0 := HO_7; exact z3_) gb336 (Nat.le_of_eq hg.symm)) hb); replace HB := Ad.mk (below_step b1_ hb); clear hb hbox hg; obtain ⟨⟨hcz12_0, hcz12_1, hcz12_2, hcz12_3, hcz12_4, hcz12_5⟩, hfz12_0, hfz12_1, hfz12_2, hfz12_3, hfz12_4, hfz12_5⟩ := c6_ BK336.out))
       go_ret2
       exact ⟨_, e2_, by (with_reducible repeat (first | apply Kd.R_alloc | apply Kd.R_drewN | apply Kd.R_drew)); exact Kd.R_mono (Kd.R_far (p := ⟨gb336, 5, none⟩) (Kd.R_far (p := ⟨gb336, 4, none⟩) (Kd.R_far (p := ⟨gb336, 3, none⟩) (Kd.R_far (p := ⟨gb336, 2, none⟩) (Kd.R_far (p := ⟨gb336, 1, none⟩) (Kd.R_far (p := ⟨gb336, 0, none⟩) (Kd.R_mono HO_7.out (fun k_ hk => (⟨hk, hk.2⟩ : _ ∧ k_ ≠ gb336))) (fun _ hk => hk.2) (.int .i64 t329)) (fun _ hk => hk.2) (.string t330)) (fun _ hk => hk.2) (.int .i64 t331)) (fun _ hk => hk.2) (.string t332)) (fun _ hk => hk.2) (.string t333)) (fun _ hk => hk.2) (.int .i64 t334)) (fun _ hk => trivial), by have G0 := GE336; exact z7_⟩
      rw [if_neg c9] at H
      have c9b0 := decide_eq_false c9
      clear c9
      by_cases c13 : x7_1.length < 1954687338268
      ·rw [if_pos c13] at H
       have LMc13 := Ad.mk c13
       clear c13
       generalize hy337 : (x7_1 ++ [(⟨t329, t330, (⟨t331, t332, t333⟩ : S31), t334⟩ : S43)]) = y337 at H
       replace hy337 := hy337.symm
       have Ny337 := Ad.mk hy337
       clear hy337
       obtain ⟨t340, A14, H⟩ := bi_ H
       have H' := Ad.mk H
       clear H
       go_wp2_with (first | ((with_reducible refine gate_callee (f := 16) rfl ?_); refine goesL_ (some 28) rfl rfl Tryz.func16 k1_ rfl #[.string (a0.extract 0 (t325 : Int).toNat), .int .i64 x8_1] rfl g1_ ?_; (with_reducible refine (g4_One.calls k1 (a0.extract 0 (t325 : Int).toNat) x8_1 t329 t330 t331 t332 t333 t334 t335 _ A8.out).mono ?_); rintro e w15 ⟨rfl, hb⟩; refine ⟨_, rfl, ?_⟩; replace HO_7 := Ad.mk (Kd.R_below (by have G0 := HO_7; exact z3_) hb); replace HB := Ad.mk (below_step b1_ hb); clear hb) | ((with_reducible refine gate_dst (N := 9) rfl ?_); refine box_event r1_ (N := 9) r1_ (cs := #[.int .i64 0, .string ⟨#[]⟩, .int .i64 0, .string ⟨#[]⟩, .string ⟨#[]⟩, .int .i64 0]) (t := 43) r2_ ?_; intro gb336 hg w16 hbox hb; have BK336 := Ad.mk (hbox); have GW336 := Ad.mk (bs_ : w.heap.size ≤ gb336); have GE336 := Ad.mk (bs_ : w.heap.size ≤ gb336); replace HO_7 := Ad.mk (Kd.R_below (Kd.R_elderB (by have G0 := HO_7; exact z3_) gb336 (Nat.le_of_eq hg.symm)) hb); replace HB := Ad.mk (below_step b1_ hb); clear hb hbox hg; obtain ⟨⟨hcz17_0, hcz17_1, hcz17_2, hcz17_3, hcz17_4, hcz17_5⟩, hfz17_0, hfz17_1, hfz17_2, hfz17_3, hfz17_4, hfz17_5⟩ := c6_ BK336.out) | ((with_reducible refine gate_builtin (b := .append) (xs := #[(.tmp 35), .tmp 37]) rfl ?_); at_builtin; refine Kd.R_append k43 (w0 := w) w.heap.size rfl (.tmp 35) (.tmp 37) 25 43 (.agg #[(.int .i64 0), (.string ⟨#[]⟩), (.int .i64 0), (.string ⟨#[]⟩), (.string ⟨#[]⟩), (.int .i64 0)]) 72 rfl Tryz.underlying25 info43 rfl (by decide) (by omega) u7 x7_1 (⟨t329, t330, (⟨t331, t332, t333⟩ : S31), t334⟩ : S43) [.int .i64 t329, .string t330, .int .i64 t331, .string t332, .string t333, .int .i64 t334] (fun k_ => k_ ≠ gb336) (fun _ => False) rfl (by first | (go_simp; done) | (go_simp; rfl)) ?aP (fun _ hk => hk.elim) ?aF ?aO ?aB ?aS ?aL ?_; (case aP => exact k43_mkM _ _ _ (⟨t329, t330, (⟨t331, t332, t333⟩ : S31), t334⟩ : S43)); (case aB => exact (by have GE := GE336; exact b2_)); (case aF => exact (fun k_ hk => Kd.freshB (g := gb336) (o := .cells #[.int .i64 t329, .string t330, .int .i64 t331, .string t332, .string t333, .int .i64 t334] 43 (0, 0)) (by have G0 := BK336; exact z85_) k_ hk)); (case aO => exact (by (with_reducible repeat (first | apply Kd.R_alloc | apply Kd.R_drewN | apply Kd.R_drew)); exact Kd.R_mono (Kd.R_far (p := ⟨gb336, 5, none⟩) (Kd.R_far (p := ⟨gb336, 4, none⟩) (Kd.R_far (p := ⟨gb336, 3, none⟩) (Kd.R_far (p := ⟨gb336, 2, none⟩) (Kd.R_far (p := ⟨gb336, 1, none⟩) (Kd.R_far (p := ⟨gb336, 0, none⟩) (Kd.R_mono HO_7.out (fun k_ hk => (⟨hk, hk.2⟩ : _ ∧ k_ ≠ gb336))) (fun _ hk => hk.2) (.int .i64 t329)) (fun _ hk => hk.2) (.string t330)) (fun _ hk => hk.2) (.int .i64 t331)) (fun _ hk => hk.2) (.string t332)) (fun _ hk => hk.2) (.string t333)) (fun _ hk => hk.2) (.int .i64 t334)) (fun _ hk => hk.1.2))); (case aS => exact (below_size (by have GE := GE336; exact b2_))); (case aL => have := LMc13.out; omega); intro v338 w18 ho hb hg hat; rw [← Ny337.out] at ho; have n0_ := Ad.mk (blk_grown (g := gb336) (o := .cells #[.int .i64 t329, .string t330, .int .i64 t331, .string t332, .string t333, .int .i64 t334] 43 (0, 0)) (by have G0 := BK336; exact z85_) hg (Kd.R_away HO_7.out (fun _ hk => hk.2))); have n1_ := Ad.mk (hb); have n2_ := Ad.mk (ho); clear BK336; clear HB; clear HO_7; have BK336 := n0_; have HB := n1_; have HO339 := n2_; clear n0_ n1_ n2_; clear ho hb hg hat) | ((with_reducible refine gate_callee (f := 15) rfl ?_); refine goesL_ (some 41) rfl rfl Tryz.func15 k1_ rfl #[.string (a0.extract 0 (t325 : Int).toNat), .int .i64 t335] rfl g1_ ?_; (with_reducible refine (g4_Skip.calls k1 (a0.extract 0 (t325 : Int).toNat) t335 t340 _ A14.out).mono ?_); rintro e w' ⟨rfl, ⟨nd, rfl⟩⟩; refine ⟨_, rfl, ?_⟩))
       go_roundg k1
       case measure => have := HK1.out; omega
       case rel => exact ⟨(y337), (t340), e1_, H', ⟨by have := HK1.out; omega⟩, ⟨by (with_reducible repeat (first | apply Kd.R_alloc | apply Kd.R_drewN | apply Kd.R_drew)); exact Kd.R_mono HO339.out (fun _ hk => trivial)⟩, ⟨by have G0 := GE336; exact z7_⟩⟩
      rw [if_neg c13] at H
      exact absurd H (by simp)
     rw [if_neg c7] at H
     have c7b0 := decide_eq_false c7
     have c7b0x_ : decide (x8_1 < ((min (t325 : Int).toNat a0.size : Nat) : Int)) = false := by have h_ := c7b0; rw [ByteArray.size_extract, Nat.sub_zero] at h_; exact h_
     clear c7
     simp only [Option.some.injEq, Prod.mk.injEq] at H
     obtain ⟨rfl, rfl⟩ := H
     go_wp2
     go_ret2
     exact ⟨_, e2_, by have G0 := HO_7; exact z3_, b1_⟩
  rw [if_neg c4] at H
  exact absurd H (by simp)
 rw [if_neg c3] at H
 exact absurd H (by simp)
def w4_num.f (a0 : Int) : Option (Int) := some a0
theorem w4_num.calls (a0 : Int) (r : Int) (w : World) (h : w4_num.f a0 = some r) :
  Calls Tryz.prog 9 #[.int .i64 a0] w fun e w' => e = .returned (.int .i64 r) ∧ Drawn0 w w' := by
 have H := h
 clear h
 unfold w4_num.f at H
 obtain rfl := Option.some.inj H
 go_enter Tryz.func9, Tryz.ntmps9
 go_wp2
 go_ret
 exact ⟨e1_, z1_⟩
def lex_Mark.f (a0_0 : Int) (a0_1 : ByteArray) (a0_2 : Int) (a0_3 : ByteArray) (a0_4 : ByteArray) (a0_5 : Int) (a1 : ByteArray) : Option (Bool) := if a0_0 = 8 then (some (a0_1.toList == a1.toList)) else (some false)
theorem lex_Mark.calls (a0_0 : Int) (a0_1 : ByteArray) (a0_2 : Int) (a0_3 : ByteArray) (a0_4 : ByteArray) (a0_5 : Int) (a1 : ByteArray) (r : Bool) (w : World) (h : lex_Mark.f a0_0 a0_1 a0_2 a0_3 a0_4 a0_5 a1 = some r) :
  Calls Tryz.prog 10 #[.agg #[.int .i64 a0_0, .string a0_1, .int .i64 a0_2, .string a0_3, .string a0_4, .int .i64 a0_5], .string a1] w fun e w' => e = .returned (.bool r) ∧ Below w.heap.size w w' := by
 have hu43 := Tryz.underlying43
 have HB := Ad.mk (Below.refl w.heap.size w)
 have H := h
 clear h
 unfold lex_Mark.f at H
 by_cases c3 : a0_0 = 8
 ·rw [if_pos c3] at H
  have c3b0 := beq_iff_eq.mpr c3
  have c3b1 := bne_eq_false_iff_eq.mpr c3
  clear c3
  obtain rfl := Option.some.inj H
  go_enter Tryz.func10, Tryz.ntmps10
  go_wp2_with (first | ((with_reducible refine gate_dst (N := 2) rfl ?_); refine box_event r1_ (N := 2) r1_ (cs := #[.int .i64 a0_0, .string a0_1, .int .i64 a0_2, .string a0_3, .string a0_4, .int .i64 a0_5]) (t := 43) r2_ ?_; intro gb341 hg w4 hbox hb; have BK341 := Ad.mk (hbox); have GW341 := Ad.mk (bs_ : w.heap.size ≤ gb341); have GE341 := Ad.mk (bs_ : w.heap.size ≤ gb341); replace HB := Ad.mk (below_step b1_ hb); clear hb hbox hg; obtain ⟨⟨hcz5_0, hcz5_1, hcz5_2, hcz5_3, hcz5_4, hcz5_5⟩, hfz5_0, hfz5_1, hfz5_2, hfz5_3, hfz5_4, hfz5_5⟩ := c6_ BK341.out))
  go_ret
  exact ⟨e2_, by have G0 := GE341; exact z7_⟩
 rw [if_neg c3] at H
 have c3b0 := beq_eq_false_iff_ne.mpr c3
 have c3b1 := bne_iff_ne.mpr c3
 obtain rfl := Option.some.inj H
 go_enter Tryz.func10, Tryz.ntmps10
 go_wp2_with (first | ((with_reducible refine gate_dst (N := 2) rfl ?_); refine box_event r1_ (N := 2) r1_ (cs := #[.int .i64 a0_0, .string a0_1, .int .i64 a0_2, .string a0_3, .string a0_4, .int .i64 a0_5]) (t := 43) r2_ ?_; intro gb341 hg w6 hbox hb; have BK341 := Ad.mk (hbox); have GW341 := Ad.mk (bs_ : w.heap.size ≤ gb341); have GE341 := Ad.mk (bs_ : w.heap.size ≤ gb341); replace HB := Ad.mk (below_step b1_ hb); clear hb hbox hg; obtain ⟨⟨hcz7_0, hcz7_1, hcz7_2, hcz7_3, hcz7_4, hcz7_5⟩, hfz7_0, hfz7_1, hfz7_2, hfz7_3, hfz7_4, hfz7_5⟩ := c6_ BK341.out))
 go_ret
 exact ⟨e2_, by have G0 := GE341; exact z7_⟩
def strings_EqualFold.f (a0 a1 : ByteArray) : Option Bool := if a0.size < 4294967281 ∧ a0.data.toList.all (fun b => decide (b.toNat < 128)) = true ∧ a1.data.toList.all (fun b => decide (b.toNat < 128)) = true then some (Lib.equalFold a0.data.toList a1.data.toList) else none
theorem strings_EqualFold.calls (a0 a1 : ByteArray) (r : Bool) (w : World) (h : strings_EqualFold.f a0 a1 = some r) :
  Calls Tryz.prog 22 #[.string a0, .string a1] w fun e w' => e = .returned (.bool r) ∧ Drawn0 w w' := by
 unfold strings_EqualFold.f at h
 by_cases c : a0.size < 4294967281 ∧ a0.data.toList.all (fun b => decide (b.toNat < 128)) = true ∧ a1.data.toList.all (fun b => decide (b.toNat < 128)) = true
 ·rw [if_pos c] at h
  obtain rfl := Option.some.inj h
  have key : ∀ {l : List UInt8}, l.all (fun b => decide (b.toNat < 128)) = true → ∀ (j : Nat) b, l[j]? = some b → b.toNat < 128 := fun {l} hl j b hb => by
   have := List.all_eq_true.1 hl b (List.mem_of_getElem? hb)
   simpa using this
  exact (Tryz.strings_EqualFold a0 a1 w c.1 (key c.2.1) (key c.2.2)).mono fun e w' ⟨he, hw⟩ => ⟨he, by rw [hw]; exact Drawn0.refl w⟩
 rw [if_neg c] at h
 cases h
def lex_Word.f (a0_0 : Int) (a0_1 : ByteArray) (a0_2 : Int) (a0_3 : ByteArray) (a0_4 : ByteArray) (a0_5 : Int) (a1 : ByteArray) : Option (Bool) := if a0_0 = 6 then (if (a0_1.size : Int) = (a1.size : Int) then ((strings_EqualFold.f a0_1 a1).bind fun t343 => (some t343)) else (some false)) else (some false)
theorem lex_Word.calls (a0_0 : Int) (a0_1 : ByteArray) (a0_2 : Int) (a0_3 : ByteArray) (a0_4 : ByteArray) (a0_5 : Int) (a1 : ByteArray) (r : Bool) (w : World) (h : lex_Word.f a0_0 a0_1 a0_2 a0_3 a0_4 a0_5 a1 = some r) :
  Calls Tryz.prog 12 #[.agg #[.int .i64 a0_0, .string a0_1, .int .i64 a0_2, .string a0_3, .string a0_4, .int .i64 a0_5], .string a1] w fun e w' => e = .returned (.bool r) ∧ Below w.heap.size w w' := by
 have hu43 := Tryz.underlying43
 have HB := Ad.mk (Below.refl w.heap.size w)
 have H := h
 clear h
 unfold lex_Word.f at H
 by_cases c3 : a0_0 = 6
 ·rw [if_pos c3] at H
  have c3b0 := beq_iff_eq.mpr c3
  have c3b1 := bne_eq_false_iff_eq.mpr c3
  clear c3
  by_cases c4 : (a0_1.size : Int) = (a1.size : Int)
  ·rw [if_pos c4] at H
   have c4b0 := beq_iff_eq.mpr c4
   have c4b1 := bne_eq_false_iff_eq.mpr c4
   have c4b2 : (a0_1.size == a1.size) = true := by first | simpa using c4 | (simp at c4 ⊢; omega)
   clear c4
   obtain ⟨t343, A5, H⟩ := bi_ H
   obtain rfl := Option.some.inj H
   go_enter Tryz.func12, Tryz.ntmps12
   go_wp2_with (first | ((with_reducible refine gate_dst (N := 2) rfl ?_); (try (refine gate_guard (by rfl) ?_; dsimp only)); refine box_event r1_ (N := 2) r1_ (cs := #[.int .i64 a0_0, .string a0_1, .int .i64 a0_2, .string a0_3, .string a0_4, .int .i64 a0_5]) (t := 43) r2_ ?_; intro gb342 hg w6 hbox hb; have BK342 := Ad.mk (hbox); have GW342 := Ad.mk (bs_ : w.heap.size ≤ gb342); have GE342 := Ad.mk (bs_ : w.heap.size ≤ gb342); replace HB := Ad.mk (below_step b1_ hb); clear hb hbox hg; obtain ⟨⟨hcz7_0, hcz7_1, hcz7_2, hcz7_3, hcz7_4, hcz7_5⟩, hfz7_0, hfz7_1, hfz7_2, hfz7_3, hfz7_4, hfz7_5⟩ := c6_ BK342.out) | (go_at_call 22; (with_reducible refine (strings_EqualFold.calls a0_1 a1 t343 _ A5.out).mono ?_); rintro e w' ⟨rfl, ⟨nd, rfl⟩⟩))
   go_ret
   exact ⟨e2_, by have G0 := GE342; exact z7_⟩
  rw [if_neg c4] at H
  have c4b0 := beq_eq_false_iff_ne.mpr c4
  have c4b1 := bne_iff_ne.mpr c4
  have c4b2 : (a0_1.size == a1.size) = false := by first | simpa using c4 | (simp at c4 ⊢; omega)
  obtain rfl := Option.some.inj H
  go_enter Tryz.func12, Tryz.ntmps12
  go_wp2_with (first | ((with_reducible refine gate_dst (N := 2) rfl ?_); (try (refine gate_guard (by rfl) ?_; dsimp only)); refine box_event r1_ (N := 2) r1_ (cs := #[.int .i64 a0_0, .string a0_1, .int .i64 a0_2, .string a0_3, .string a0_4, .int .i64 a0_5]) (t := 43) r2_ ?_; intro gb342 hg w8 hbox hb; have BK342 := Ad.mk (hbox); have GW342 := Ad.mk (bs_ : w.heap.size ≤ gb342); have GE342 := Ad.mk (bs_ : w.heap.size ≤ gb342); replace HB := Ad.mk (below_step b1_ hb); clear hb hbox hg; obtain ⟨⟨hcz9_0, hcz9_1, hcz9_2, hcz9_3, hcz9_4, hcz9_5⟩, hfz9_0, hfz9_1, hfz9_2, hfz9_3, hfz9_4, hfz9_5⟩ := c6_ BK342.out))
  go_ret
  exact ⟨e2_, by have G0 := GE342; exact z7_⟩
 rw [if_neg c3] at H
 have c3b0 := beq_eq_false_iff_ne.mpr c3
 have c3b1 := bne_iff_ne.mpr c3
 obtain rfl := Option.some.inj H
 go_enter Tryz.func12, Tryz.ntmps12
 go_wp2_with (first | ((with_reducible refine gate_dst (N := 2) rfl ?_); (try (refine gate_guard (by rfl) ?_; dsimp only)); refine box_event r1_ (N := 2) r1_ (cs := #[.int .i64 a0_0, .string a0_1, .int .i64 a0_2, .string a0_3, .string a0_4, .int .i64 a0_5]) (t := 43) r2_ ?_; intro gb342 hg w10 hbox hb; have BK342 := Ad.mk (hbox); have GW342 := Ad.mk (bs_ : w.heap.size ≤ gb342); have GE342 := Ad.mk (bs_ : w.heap.size ≤ gb342); replace HB := Ad.mk (below_step b1_ hb); clear hb hbox hg; obtain ⟨⟨hcz11_0, hcz11_1, hcz11_2, hcz11_3, hcz11_4, hcz11_5⟩, hfz11_0, hfz11_1, hfz11_2, hfz11_3, hfz11_4, hfz11_5⟩ := c6_ BK342.out))
 go_ret
 exact ⟨e2_, by have G0 := GE342; exact z7_⟩
theorem put_w {n : Int} (h0 : 0 ≤ n) (h1 : n ≤ 1000) : wrap64 n = n := by unfold wrap64; omega
theorem utf_size_le {a t : Int} (h : utf_size.f a = some t) : 1 ≤ t ∧ t ≤ 4 := by
 unfold utf_size.f at h
 repeat' split at h
 all_goals (have := Option.some.inj h; omega)
def utf_Put.f (a0 : Int) : Option (List Int × Int) := (utf_may.f a0).bind fun t344 => (if t344 = true then ((utf_size.f a0).bind fun t345 => (if t345 = 1 then (some ((([(a0) % 256] : List Int)), 0)) else (if 0 ≤ t345 then (if 0 ≤ (wrap64 (6 * (wrap64 (t345 - 1)))) then ((some (([(Go.bits .or .i64 (Go.bits .and .i64 (shr .i64 3840 t345) 255) (shr .i64 a0 (wrap64 (6 * (wrap64 (t345 - 1)))))) % 256] : List Int) : List Int)).bind fun y349 => (if t345 = 4 then (if y349.length < 140737488355328 then ((some (y349 ++ [(Go.bits .or .i64 128 (Go.bits .and .i64 (a0 / 4096) 63)) % 256] : List Int)).bind fun y352 => (if y352.length < 140737488355328 then ((some (y352 ++ [(Go.bits .or .i64 128 (Go.bits .and .i64 (a0 / 64) 63)) % 256] : List Int)).bind fun y355 => (if y355.length < 140737488355328 then (some ((y355 ++ [(Go.bits .or .i64 128 (Go.bits .and .i64 a0 63)) % 256]), 0)) else (none))) else (none))) else (none)) else (if t345 = 3 then (if y349.length < 140737488355328 then ((some (y349 ++ [(Go.bits .or .i64 128 (Go.bits .and .i64 (a0 / 64) 63)) % 256] : List Int)).bind fun y361 => (if y361.length < 140737488355328 then (some ((y361 ++ [(Go.bits .or .i64 128 (Go.bits .and .i64 a0 63)) % 256]), 0)) else (none))) else (none)) else (if y349.length < 140737488355328 then (some ((y349 ++ [(Go.bits .or .i64 128 (Go.bits .and .i64 a0 63)) % 256]), 0)) else (none))))) else (none)) else (none)))) else (some (([] : List Int), 2)))
def utf_Put.T6 : Bool × List (List Nat × List Nat) := (true, [([], []), ([0], [0]), ([1], [1]), ([], []), ([], []), ([4], [4]), ([5], [5]), ([3, 6], [3, 6]), ([2, 7], [2, 7]), ([8], [8]), ([9], [9]), ([10, 0, 1, 2, 3, 4, 5, 6, 7, 8, 9, 10], [10])])
def utf_Put.B6 : List Nat := [0, 1, 3, 0, 0, 16, 48, 120, 255, 511, 1023, 2047]
theorem utf_Put.tab6 : rtab .any (opsOf Tryz.f46 6) = utf_Put.T6 := by kernel_rfl
theorem utf_Put.bits6 : waitsOk utf_Put.T6.2 utf_Put.B6 = true := by kernel_rfl
theorem utf_Put.calls (a0 : Int) (r1 : List Int) (r2 : Int) (w : World) (h : utf_Put.f a0 = some (r1, r2)) :
  Calls Tryz.prog 46 #[.int .i64 a0] w fun e w' => ∃ v0_ : Value, e = .returned (.tuple #[v0_, .int .i64 r2]) ∧ Kd.R (Kd.int .u8) 5 w' w.heap.size (fun _ => True) v0_ r1 ∧ Below w.heap.size w w' := by
 have HB := Ad.mk (Below.refl w.heap.size w)
 have H := h
 clear h
 unfold utf_Put.f at H
 obtain ⟨t344, A2, H⟩ := bi_ H
 by_cases c3 : t344 = true
 ·subst c3
  rw [if_pos rfl] at H
  obtain ⟨t345, A4, H⟩ := bi_ H
  by_cases c5 : t345 = 1
  ·rw [if_pos c5] at H
   have c5b0 := beq_iff_eq.mpr c5
   have c5b1 := bne_eq_false_iff_eq.mpr c5
   clear c5
   generalize hy346 : (([(a0) % 256] : List Int)) = y346 at H
   replace hy346 := hy346.symm
   have Ny346 := Ad.mk hy346
   clear hy346
   simp only [Option.some.injEq, Prod.mk.injEq] at H
   obtain ⟨rfl, rfl⟩ := H
   go_enter Tryz.func46, Tryz.ntmps46
   go_wp2_with (first | ((with_reducible refine gate_callee (f := 66) rfl ?_); refine goesL_ (some 7) rfl rfl Tryz.func66 k1_ rfl #[.int .i64 a0] rfl g1_ ?_; (with_reducible refine (utf_may.calls a0 true _ A2.out).mono ?_); rintro e w' ⟨rfl, ⟨nd, rfl⟩⟩; refine ⟨_, rfl, ?_⟩) | ((with_reducible refine gate_callee (f := 67) rfl ?_); refine goesL_ (some 10) rfl rfl Tryz.func67 k1_ rfl #[.int .i64 a0] rfl g1_ ?_; (with_reducible refine (utf_size.calls a0 t345 _ A4.out).mono ?_); rintro e w' ⟨rfl, ⟨nd, rfl⟩⟩; refine ⟨_, rfl, ?_⟩) | ((with_reducible refine gate_dst (N := 15) rfl ?_); refine Kd.R_lit (Kd.int .u8) _ 5 r1_ (N := 15) r1_ (xs := ([(a0) % 256] : List Int)) (inner := [.int .u8 ((a0) % 256)]) (ok := fun _ => True) (okp := fun _ => True) r2_ ?hp (fun _ hk => hk) trivial (Below.refl _ _) (Nat.le_refl _) (by simp) ?_; (case hp => exact (Reps.one (show Kd.M (Kd.int .u8) _ _ _ ((a0) % 256) [.int .u8 ((a0) % 256)] from rfl) (Reps.none _ _))); intro v347 w6 ho7 hb hg_ hnew_; clear hg_ hnew_; (first | rw [← Ny346.out] at ho7 | (simp only [Int.reduceToNat] at ho7; rw [← Ny346.out] at ho7)); have HO348 := Ad.mk (Kd.R_lower ho7 (below_size b1_)); replace HB := Ad.mk (below_step b1_ hb); clear hb ho7))
   go_ret2
   exact ⟨_, e2_, by have G0 := HO348; exact z3_, b1_⟩
  rw [if_neg c5] at H
  have c5b0 := beq_eq_false_iff_ne.mpr c5
  have c5b1 := bne_iff_ne.mpr c5
  by_cases c8 : 0 ≤ t345
  ·rw [if_pos c8] at H
   have c8b0 := eq_true c8
   have c8b1 := decide_eq_true c8
   clear c8
   have hsz_ := utf_size_le A4.out
   have hsw_ : t345 ≤ 64 := by omega
   obtain ⟨ji9, hji9⟩ : ∃ j_ : Int, (shr .i64 3840 t345) = j_ := ⟨_, rfl⟩
   replace H : (if 0 ≤ (wrap64 (6 * (wrap64 (t345 - 1)))) then ((some (([(Go.bits .or .i64 (Go.bits .and .i64 (ji9) 255) (shr .i64 a0 (wrap64 (6 * (wrap64 (t345 - 1)))))) % 256] : List Int) : List Int)).bind fun y349 => (if t345 = 4 then (if y349.length < 140737488355328 then ((some (y349 ++ [(Go.bits .or .i64 128 (Go.bits .and .i64 (a0 / 4096) 63)) % 256] : List Int)).bind fun y352 => (if y352.length < 140737488355328 then ((some (y352 ++ [(Go.bits .or .i64 128 (Go.bits .and .i64 (a0 / 64) 63)) % 256] : List Int)).bind fun y355 => (if y355.length < 140737488355328 then (some ((y355 ++ [(Go.bits .or .i64 128 (Go.bits .and .i64 a0 63)) % 256]), 0)) else (none))) else (none))) else (none)) else (if t345 = 3 then (if y349.length < 140737488355328 then ((some (y349 ++ [(Go.bits .or .i64 128 (Go.bits .and .i64 (a0 / 64) 63)) % 256] : List Int)).bind fun y361 => (if y361.length < 140737488355328 then (some ((y361 ++ [(Go.bits .or .i64 128 (Go.bits .and .i64 a0 63)) % 256]), 0)) else (none))) else (none)) else (if y349.length < 140737488355328 then (some ((y349 ++ [(Go.bits .or .i64 128 (Go.bits .and .i64 a0 63)) % 256]), 0)) else (none))))) else (none)) = some (r1, r2) := by first | (rw [hji9] at H; exact H) | (simp only [hji9] at H ⊢; exact H)
   (try rw [hji9] at A2)
   (try rw [hji9] at A4)
   have hji9_ : (3840 / 2 ^ min t345.toNat 64) = ji9 := hji9
   have hji9z : t345 ≤ 64 → (3840 / 2 ^ t345.toNat) = ji9 := shr_small hji9
   obtain ⟨ji10, hji10⟩ : ∃ j_ : Int, (wrap64 (6 * (wrap64 (t345 - 1)))) = j_ := ⟨_, rfl⟩
   have hsx_ : ji10 ≤ 64 := by rw [← hji10, put_w (n := t345 - 1) (by omega) (by omega), put_w (by omega) (by omega)]; omega
   replace H : (if 0 ≤ (ji10) then ((some (([(Go.bits .or .i64 (Go.bits .and .i64 (ji9) 255) (shr .i64 a0 (ji10))) % 256] : List Int) : List Int)).bind fun y349 => (if t345 = 4 then (if y349.length < 140737488355328 then ((some (y349 ++ [(Go.bits .or .i64 128 (Go.bits .and .i64 (a0 / 4096) 63)) % 256] : List Int)).bind fun y352 => (if y352.length < 140737488355328 then ((some (y352 ++ [(Go.bits .or .i64 128 (Go.bits .and .i64 (a0 / 64) 63)) % 256] : List Int)).bind fun y355 => (if y355.length < 140737488355328 then (some ((y355 ++ [(Go.bits .or .i64 128 (Go.bits .and .i64 a0 63)) % 256]), 0)) else (none))) else (none))) else (none)) else (if t345 = 3 then (if y349.length < 140737488355328 then ((some (y349 ++ [(Go.bits .or .i64 128 (Go.bits .and .i64 (a0 / 64) 63)) % 256] : List Int)).bind fun y361 => (if y361.length < 140737488355328 then (some ((y361 ++ [(Go.bits .or .i64 128 (Go.bits .and .i64 a0 63)) % 256]), 0)) else (none))) else (none)) else (if y349.length < 140737488355328 then (some ((y349 ++ [(Go.bits .or .i64 128 (Go.bits .and .i64 a0 63)) % 256]), 0)) else (none))))) else (none)) = some (r1, r2) := by first | (rw [hji10] at H; exact H) | (simp only [hji10] at H ⊢; exact H)
   (try rw [hji10] at A2)
   (try rw [hji10] at A4)
   have hji10w : (IntKind.i64.wrap (6 * (wrap64 (t345 - 1)))) = ji10 := (i64_w _).trans hji10
   by_cases c11 : 0 ≤ (ji10)
   ·rw [if_pos c11] at H
    have c11b0 := eq_true c11
    have c11b1 := decide_eq_true c11
    clear c11
    obtain ⟨ji12, hji12⟩ : ∃ j_ : Int, (shr .i64 a0 (ji10)) = j_ := ⟨_, rfl⟩
    replace H : ((some (([(Go.bits .or .i64 (Go.bits .and .i64 (ji9) 255) (ji12)) % 256] : List Int) : List Int)).bind fun y349 => (if t345 = 4 then (if y349.length < 140737488355328 then ((some (y349 ++ [(Go.bits .or .i64 128 (Go.bits .and .i64 (a0 / 4096) 63)) % 256] : List Int)).bind fun y352 => (if y352.length < 140737488355328 then ((some (y352 ++ [(Go.bits .or .i64 128 (Go.bits .and .i64 (a0 / 64) 63)) % 256] : List Int)).bind fun y355 => (if y355.length < 140737488355328 then (some ((y355 ++ [(Go.bits .or .i64 128 (Go.bits .and .i64 a0 63)) % 256]), 0)) else (none))) else (none))) else (none)) else (if t345 = 3 then (if y349.length < 140737488355328 then ((some (y349 ++ [(Go.bits .or .i64 128 (Go.bits .and .i64 (a0 / 64) 63)) % 256] : List Int)).bind fun y361 => (if y361.length < 140737488355328 then (some ((y361 ++ [(Go.bits .or .i64 128 (Go.bits .and .i64 a0 63)) % 256]), 0)) else (none))) else (none)) else (if y349.length < 140737488355328 then (some ((y349 ++ [(Go.bits .or .i64 128 (Go.bits .and .i64 a0 63)) % 256]), 0)) else (none))))) = some (r1, r2) := by first | (rw [hji12] at H; exact H) | (simp only [hji12] at H ⊢; exact H)
    (try rw [hji12] at A2)
    (try rw [hji12] at A4)
    have hji12_ : (a0 / 2 ^ min (ji10).toNat 64) = ji12 := hji12
    have hji12z : (ji10) ≤ 64 → (a0 / 2 ^ (ji10).toNat) = ji12 := shr_small hji12
    replace H := yb_ H
    obtain ⟨y349, hy349, H⟩ := H
    have Ny349 := Ad.mk hy349
    clear hy349
    by_cases c13 : t345 = 4
    ·rw [if_pos c13] at H
     have c13b0 := beq_iff_eq.mpr c13
     have c13b1 := bne_eq_false_iff_eq.mpr c13
     clear c13
     by_cases c14 : y349.length < 140737488355328
     ·rw [if_pos c14] at H
      have LMc14 := Ad.mk c14
      clear c14
      replace H := yb_ H
      obtain ⟨y352, hy352, H⟩ := H
      have Ny352 := Ad.mk hy352
      clear hy352
      by_cases c15 : y352.length < 140737488355328
      ·rw [if_pos c15] at H
       have LMc15 := Ad.mk c15
       clear c15
       replace H := yb_ H
       obtain ⟨y355, hy355, H⟩ := H
       have Ny355 := Ad.mk hy355
       clear hy355
       by_cases c16 : y355.length < 140737488355328
       ·rw [if_pos c16] at H
        have LMc16 := Ad.mk c16
        clear c16
        generalize hy358 : (y355 ++ [(Go.bits .or .i64 128 (Go.bits .and .i64 a0 63)) % 256]) = y358 at H
        replace hy358 := hy358.symm
        have Ny358 := Ad.mk hy358
        clear hy358
        simp only [Option.some.injEq, Prod.mk.injEq] at H
        obtain ⟨rfl, rfl⟩ := H
        go_enter Tryz.func46, Tryz.ntmps46
        try go_wp2_with (first | ((with_reducible refine gate_callee (f := 66) rfl ?_); refine goesL_ (some 7) rfl rfl Tryz.func66 k1_ rfl #[.int .i64 a0] rfl g1_ ?_; (with_reducible refine (utf_may.calls a0 true _ A2.out).mono ?_); rintro e w' ⟨rfl, ⟨ndA, rfl⟩⟩; refine ⟨_, rfl, ?_⟩) | ((with_reducible refine gate_callee (f := 67) rfl ?_); refine goesL_ (some 10) rfl rfl Tryz.func67 k1_ rfl #[.int .i64 a0] rfl g1_ ?_; (with_reducible refine (utf_size.calls a0 t345 _ A4.out).mono ?_); rintro e w' ⟨rfl, ⟨ndB, rfl⟩⟩; refine ⟨_, rfl, ?_⟩))
        have n0_ := Ad.mk (below_drew1 HB.out)
        clear HB
        have HB := n0_
        clear n0_
        refine start_ (n := 12) (S := fun w' => True) (ds := []) #[false, false, false, false, false, false, false, false, false, false, false, false] k1_ rfl rfl trivial (fun hHeld => ?_); refine with_tabW utf_Put.tab6 utf_Put.bits6 (fun HT_ HW_ => ?_)
        clear HB
        have HB := Ad.mk (below_drew1 (pw_below_drewN (Below.refl w.heap.size w) (ndA + ndB)))
        generalize (w.drewN (ndA + ndB)).drew = w17 at HB hHeld ⊢
        refine pure_ (i := 0) (N := some 16) #[true, false, false, false, false, false, false, false, false, false, false, false] rfl rfl (any_of HT_.out k1_) (fun _ _ _ h => h) (Or.inl ⟨by rfl, py_⟩) pa_ ?_
        refine pure_ (i := 1) (N := some 17) #[true, true, false, false, false, false, false, false, false, false, false, false] rfl rfl (any_of HT_.out k1_) (fun _ _ _ h => h) (Or.inl ⟨by rfl, py_⟩) pa_ ?_
        refine pure_ (i := 2) (N := some 18) #[true, true, true, false, false, false, false, false, false, false, false, false] rfl rfl (any_of HT_.out k1_) (fun _ _ _ h => h) (Or.inl ⟨by rfl, py_⟩) pa_ ?_
        refine pure_ (i := 3) (N := some 19) #[true, true, true, true, false, false, false, false, false, false, false, false] rfl rfl (any_of HT_.out k1_) (fun _ _ _ h => h) (Or.inl ⟨by rfl, py_⟩) pa_ ?_
        refine pure_ (i := 4) (N := some 20) #[true, true, true, true, true, false, false, false, false, false, false, false] rfl rfl (any_of HT_.out k1_) (fun _ _ _ h => h) (Or.inl ⟨by rfl, py_⟩) pa_ ?_
        refine pure_ (i := 5) (N := some 21) #[true, true, true, true, true, true, false, false, false, false, false, false] rfl rfl (any_of HT_.out k1_) (fun _ _ _ h => h) (Or.inl ⟨by rfl, py_⟩) pa_ ?_
        refine pure_ (i := 6) (N := some 22) #[true, true, true, true, true, true, true, false, false, false, false, false] rfl rfl (any_of HT_.out k1_) (fun _ _ _ h => h) (Or.inl ⟨by rfl, py_⟩) pa_ ?_
        refine pure_ (i := 7) (N := some 23) #[true, true, true, true, true, true, true, true, false, false, false, false] rfl rfl (any_of HT_.out k1_) (fun _ _ _ h => h) (Or.inl ⟨by rfl, py_⟩) pa_ ?_
        refine pure_ (i := 8) (N := some 24) #[true, true, true, true, true, true, true, true, true, false, false, false] rfl rfl (any_of HT_.out k1_) (fun _ _ _ h => h) (Or.inl ⟨by rfl, py_⟩) pa_ ?_
        refine pure_ (i := 9) (N := some 25) #[true, true, true, true, true, true, true, true, true, true, false, false] rfl rfl (any_of HT_.out k1_) (fun _ _ _ h => h) (Or.inl ⟨by rfl, py_⟩) pa_ ?_
        refine one_ (i := 10) (N := some 26) #[true, true, true, true, true, true, true, true, true, true, true, false] rfl rfl (one_of HT_.out k1_) (by decide) (fun K hK => ?_)
        refine Kd.R_lit_step (Kd.int .u8) _ 5 ?hg (N := 26) ?hd (xs := ([(Go.bits .or .i64 (Go.bits .and .i64 (ji9) 255) (ji12)) % 256] : List Int)) (inner := [.int .u8 ((Go.bits .or .i64 (Go.bits .and .i64 (ji9) 255) (ji12)) % 256)]) (ok := fun _ => True) (okp := fun _ => True) ?hr ?hp (fun _ hk => hk) trivial (Below.refl _ _) (Nat.le_refl _) (by simp) ?_; (case hd => rfl); (case hg => rfl); (case hr => first | (go_simp; done) | (go_simp; rfl)); (case hp => exact (Reps.one (show Kd.M (Kd.int .u8) _ _ _ ((Go.bits .or .i64 (Go.bits .and .i64 (ji9) 255) (ji12)) % 256) [.int .u8 ((Go.bits .or .i64 (Go.bits .and .i64 (ji9) 255) (ji12)) % 256)] from rfl) (Reps.none _ _)))
        intro v350 w18 ho19 hb hg_ hnew_
        clear hg_ hnew_
        (first | rw [← Ny349.out] at ho19 | (simp only [Int.reduceToNat] at ho19; rw [← Ny349.out] at ho19))
        have n0_ := Ad.mk (Kd.R_lower ho19 (below_size b1_))
        have n1_ := Ad.mk (below_step b1_ hb)
        clear HB
        have HO351 := n0_
        have HB := n1_
        clear n0_ n1_
        clear hb ho19
        refine hK.out _ _ trivial (fun hHeld => ?_)
        clear hK K
        refine norm_ (a' := ?_) ?_ ?_
        rotate_left
        ·show Act.put _ (some 26) _ = _
         simp only [Act.put, List.setIfInBounds_toArray, List.set_cons_zero, List.set_cons_succ, i64_w, i32_w]
         rfl
        refine pure_ (i := 11) (N := some 5) #[true, true, true, true, true, true, true, true, true, true, true, true] rfl rfl (any_of HT_.out k1_) (fun _ _ _ h => h) (Or.inl ⟨by rfl, py_⟩) pa_ ?_
        refine done_ (done_of HT_.out k1_) ?_
        try go_wp2_with (first | ((with_reducible refine gate_builtin (b := .append) (xs := #[(.tmp 32), .tmp 38]) rfl ?_); at_builtin; refine Kd.R_append (Kd.int .u8) (w0 := w) w.heap.size rfl (.tmp 32) (.tmp 38) 88 5 (.int .u8 0) 1 rfl Tryz.underlying88 info5 rfl (by decide) (by omega) v350 y349 ((Go.bits .or .i64 128 (Go.bits .and .i64 (a0 / 4096) 63)) % 256) [.int .u8 ((Go.bits .or .i64 128 (Go.bits .and .i64 (a0 / 4096) 63)) % 256)] (fun _ => True) (fun _ => False) rfl rfl ?aP (fun _ hk => hk.elim) ?aF ?aO ?aB ?aS ?aL ?_; (case aP => exact rfl); (case aB => exact b1_); (case aF => exact (fun _ _ => trivial)); (case aO => exact (by have G0 := HO351; exact z3_)); (case aS => exact (below_size b1_)); (case aL => have := LMc14.out; omega); intro v353 w20 ho hb hg hat; rw [← Ny352.out] at ho; have n0_ := Ad.mk (hb); have n1_ := Ad.mk (ho); clear HB; clear HO351; have HB := n0_; have HO354 := n1_; clear n0_ n1_; clear ho hb hg hat) | ((with_reducible refine gate_builtin (b := .append) (xs := #[(.tmp 40), .tmp 46]) rfl ?_); at_builtin; refine Kd.R_append (Kd.int .u8) (w0 := w) w.heap.size rfl (.tmp 40) (.tmp 46) 88 5 (.int .u8 0) 1 rfl Tryz.underlying88 info5 rfl (by decide) (by omega) v353 y352 ((Go.bits .or .i64 128 (Go.bits .and .i64 (a0 / 64) 63)) % 256) [.int .u8 ((Go.bits .or .i64 128 (Go.bits .and .i64 (a0 / 64) 63)) % 256)] (fun _ => True) (fun _ => False) rfl rfl ?aP (fun _ hk => hk.elim) ?aF ?aO ?aB ?aS ?aL ?_; (case aP => exact rfl); (case aB => exact b1_); (case aF => exact (fun _ _ => trivial)); (case aO => exact (by have G0 := HO354; exact z3_)); (case aS => exact (below_size b1_)); (case aL => have := LMc15.out; omega); intro v356 w21 ho hb hg hat; rw [← Ny355.out] at ho; have n0_ := Ad.mk (hb); have n1_ := Ad.mk (ho); clear HB; clear HO354; have HB := n0_; have HO357 := n1_; clear n0_ n1_; clear ho hb hg hat) | ((with_reducible refine gate_builtin (b := .append) (xs := #[(.tmp 48), .tmp 53]) rfl ?_); at_builtin; refine Kd.R_append (Kd.int .u8) (w0 := w) w.heap.size rfl (.tmp 48) (.tmp 53) 88 5 (.int .u8 0) 1 rfl Tryz.underlying88 info5 rfl (by decide) (by omega) v356 y355 ((Go.bits .or .i64 128 (Go.bits .and .i64 a0 63)) % 256) [.int .u8 ((Go.bits .or .i64 128 (Go.bits .and .i64 a0 63)) % 256)] (fun _ => True) (fun _ => False) rfl rfl ?aP (fun _ hk => hk.elim) ?aF ?aO ?aB ?aS ?aL ?_; (case aP => exact rfl); (case aB => exact b1_); (case aF => exact (fun _ _ => trivial)); (case aO => exact (by have G0 := HO357; exact z3_)); (case aS => exact (below_size b1_)); (case aL => have := LMc16.out; omega); intro v359 w22 ho hb hg hat; rw [← Ny358.out] at ho; have n0_ := Ad.mk (hb); have n1_ := Ad.mk (ho); clear HB; clear HO357; have HB := n0_; have HO360 := n1_; clear n0_ n1_; clear ho hb hg hat))
        go_ret2
        exact ⟨_, z61_, by have G0 := HO360; exact z3_, b1_⟩
       rw [if_neg c16] at H
       exact absurd H (by simp)
      rw [if_neg c15] at H
      exact absurd H (by simp)
     rw [if_neg c14] at H
     exact absurd H (by simp)
    rw [if_neg c13] at H
    have c13b0 := beq_eq_false_iff_ne.mpr c13
    have c13b1 := bne_iff_ne.mpr c13
    by_cases c23 : t345 = 3
    ·rw [if_pos c23] at H
     have c23b0 := beq_iff_eq.mpr c23
     have c23b1 := bne_eq_false_iff_eq.mpr c23
     clear c23
     by_cases c24 : y349.length < 140737488355328
     ·rw [if_pos c24] at H
      have LMc24 := Ad.mk c24
      clear c24
      replace H := yb_ H
      obtain ⟨y361, hy361, H⟩ := H
      have Ny361 := Ad.mk hy361
      clear hy361
      by_cases c25 : y361.length < 140737488355328
      ·rw [if_pos c25] at H
       have LMc25 := Ad.mk c25
       clear c25
       generalize hy364 : (y361 ++ [(Go.bits .or .i64 128 (Go.bits .and .i64 a0 63)) % 256]) = y364 at H
       replace hy364 := hy364.symm
       have Ny364 := Ad.mk hy364
       clear hy364
       simp only [Option.some.injEq, Prod.mk.injEq] at H
       obtain ⟨rfl, rfl⟩ := H
       go_enter Tryz.func46, Tryz.ntmps46
       try go_wp2_with (first | ((with_reducible refine gate_callee (f := 66) rfl ?_); refine goesL_ (some 7) rfl rfl Tryz.func66 k1_ rfl #[.int .i64 a0] rfl g1_ ?_; (with_reducible refine (utf_may.calls a0 true _ A2.out).mono ?_); rintro e w' ⟨rfl, ⟨ndA, rfl⟩⟩; refine ⟨_, rfl, ?_⟩) | ((with_reducible refine gate_callee (f := 67) rfl ?_); refine goesL_ (some 10) rfl rfl Tryz.func67 k1_ rfl #[.int .i64 a0] rfl g1_ ?_; (with_reducible refine (utf_size.calls a0 t345 _ A4.out).mono ?_); rintro e w' ⟨rfl, ⟨ndB, rfl⟩⟩; refine ⟨_, rfl, ?_⟩))
       have n0_ := Ad.mk (below_drew1 HB.out)
       clear HB
       have HB := n0_
       clear n0_
       refine start_ (n := 12) (S := fun w' => True) (ds := []) #[false, false, false, false, false, false, false, false, false, false, false, false] k1_ rfl rfl trivial (fun hHeld => ?_); refine with_tabW utf_Put.tab6 utf_Put.bits6 (fun HT_ HW_ => ?_)
       clear HB
       have HB := Ad.mk (below_drew1 (pw_below_drewN (Below.refl w.heap.size w) (ndA + ndB)))
       generalize (w.drewN (ndA + ndB)).drew = w26 at HB hHeld ⊢
       refine pure_ (i := 0) (N := some 16) #[true, false, false, false, false, false, false, false, false, false, false, false] rfl rfl (any_of HT_.out k1_) (fun _ _ _ h => h) (Or.inl ⟨by rfl, py_⟩) pa_ ?_
       refine pure_ (i := 1) (N := some 17) #[true, true, false, false, false, false, false, false, false, false, false, false] rfl rfl (any_of HT_.out k1_) (fun _ _ _ h => h) (Or.inl ⟨by rfl, py_⟩) pa_ ?_
       refine pure_ (i := 2) (N := some 18) #[true, true, true, false, false, false, false, false, false, false, false, false] rfl rfl (any_of HT_.out k1_) (fun _ _ _ h => h) (Or.inl ⟨by rfl, py_⟩) pa_ ?_
       refine pure_ (i := 3) (N := some 19) #[true, true, true, true, false, false, false, false, false, false, false, false] rfl rfl (any_of HT_.out k1_) (fun _ _ _ h => h) (Or.inl ⟨by rfl, py_⟩) pa_ ?_
       refine pure_ (i := 4) (N := some 20) #[true, true, true, true, true, false, false, false, false, false, false, false] rfl rfl (any_of HT_.out k1_) (fun _ _ _ h => h) (Or.inl ⟨by rfl, py_⟩) pa_ ?_
       refine pure_ (i := 5) (N := some 21) #[true, true, true, true, true, true, false, false, false, false, false, false] rfl rfl (any_of HT_.out k1_) (fun _ _ _ h => h) (Or.inl ⟨by rfl, py_⟩) pa_ ?_
       refine pure_ (i := 6) (N := some 22) #[true, true, true, true, true, true, true, false, false, false, false, false] rfl rfl (any_of HT_.out k1_) (fun _ _ _ h => h) (Or.inl ⟨by rfl, py_⟩) pa_ ?_
       refine pure_ (i := 7) (N := some 23) #[true, true, true, true, true, true, true, true, false, false, false, false] rfl rfl (any_of HT_.out k1_) (fun _ _ _ h => h) (Or.inl ⟨by rfl, py_⟩) pa_ ?_
       refine pure_ (i := 8) (N := some 24) #[true, true, true, true, true, true, true, true, true, false, false, false] rfl rfl (any_of HT_.out k1_) (fun _ _ _ h => h) (Or.inl ⟨by rfl, py_⟩) pa_ ?_
       refine pure_ (i := 9) (N := some 25) #[true, true, true, true, true, true, true, true, true, true, false, false] rfl rfl (any_of HT_.out k1_) (fun _ _ _ h => h) (Or.inl ⟨by rfl, py_⟩) pa_ ?_
       refine one_ (i := 10) (N := some 26) #[true, true, true, true, true, true, true, true, true, true, true, false] rfl rfl (one_of HT_.out k1_) (by decide) (fun K hK => ?_)
       refine Kd.R_lit_step (Kd.int .u8) _ 5 ?hg (N := 26) ?hd (xs := ([(Go.bits .or .i64 (Go.bits .and .i64 (ji9) 255) (ji12)) % 256] : List Int)) (inner := [.int .u8 ((Go.bits .or .i64 (Go.bits .and .i64 (ji9) 255) (ji12)) % 256)]) (ok := fun _ => True) (okp := fun _ => True) ?hr ?hp (fun _ hk => hk) trivial (Below.refl _ _) (Nat.le_refl _) (by simp) ?_; (case hd => rfl); (case hg => rfl); (case hr => first | (go_simp; done) | (go_simp; rfl)); (case hp => exact (Reps.one (show Kd.M (Kd.int .u8) _ _ _ ((Go.bits .or .i64 (Go.bits .and .i64 (ji9) 255) (ji12)) % 256) [.int .u8 ((Go.bits .or .i64 (Go.bits .and .i64 (ji9) 255) (ji12)) % 256)] from rfl) (Reps.none _ _)))
       intro v350 w27 ho28 hb hg_ hnew_
       clear hg_ hnew_
       (first | rw [← Ny349.out] at ho28 | (simp only [Int.reduceToNat] at ho28; rw [← Ny349.out] at ho28))
       have n0_ := Ad.mk (Kd.R_lower ho28 (below_size b1_))
       have n1_ := Ad.mk (below_step b1_ hb)
       clear HB
       have HO351 := n0_
       have HB := n1_
       clear n0_ n1_
       clear hb ho28
       refine hK.out _ _ trivial (fun hHeld => ?_)
       clear hK K
       refine norm_ (a' := ?_) ?_ ?_
       rotate_left
       ·show Act.put _ (some 26) _ = _
        simp only [Act.put, List.setIfInBounds_toArray, List.set_cons_zero, List.set_cons_succ, i64_w, i32_w]
        rfl
       refine pure_ (i := 11) (N := some 5) #[true, true, true, true, true, true, true, true, true, true, true, true] rfl rfl (any_of HT_.out k1_) (fun _ _ _ h => h) (Or.inl ⟨by rfl, py_⟩) pa_ ?_
       refine done_ (done_of HT_.out k1_) ?_
       try go_wp2_with (first | ((with_reducible refine gate_builtin (b := .append) (xs := #[(.tmp 40), .tmp 46]) rfl ?_); at_builtin; refine Kd.R_append (Kd.int .u8) (w0 := w) w.heap.size rfl (.tmp 40) (.tmp 46) 88 5 (.int .u8 0) 1 rfl Tryz.underlying88 info5 rfl (by decide) (by omega) v350 y349 ((Go.bits .or .i64 128 (Go.bits .and .i64 (a0 / 64) 63)) % 256) [.int .u8 ((Go.bits .or .i64 128 (Go.bits .and .i64 (a0 / 64) 63)) % 256)] (fun _ => True) (fun _ => False) rfl rfl ?aP (fun _ hk => hk.elim) ?aF ?aO ?aB ?aS ?aL ?_; (case aP => exact rfl); (case aB => exact b1_); (case aF => exact (fun _ _ => trivial)); (case aO => exact (by have G0 := HO351; exact z3_)); (case aS => exact (below_size b1_)); (case aL => have := LMc24.out; omega); intro v362 w29 ho hb hg hat; rw [← Ny361.out] at ho; have n0_ := Ad.mk (hb); have n1_ := Ad.mk (ho); clear HB; clear HO351; have HB := n0_; have HO363 := n1_; clear n0_ n1_; clear ho hb hg hat) | ((with_reducible refine gate_builtin (b := .append) (xs := #[(.tmp 48), .tmp 53]) rfl ?_); at_builtin; refine Kd.R_append (Kd.int .u8) (w0 := w) w.heap.size rfl (.tmp 48) (.tmp 53) 88 5 (.int .u8 0) 1 rfl Tryz.underlying88 info5 rfl (by decide) (by omega) v362 y361 ((Go.bits .or .i64 128 (Go.bits .and .i64 a0 63)) % 256) [.int .u8 ((Go.bits .or .i64 128 (Go.bits .and .i64 a0 63)) % 256)] (fun _ => True) (fun _ => False) rfl rfl ?aP (fun _ hk => hk.elim) ?aF ?aO ?aB ?aS ?aL ?_; (case aP => exact rfl); (case aB => exact b1_); (case aF => exact (fun _ _ => trivial)); (case aO => exact (by have G0 := HO363; exact z3_)); (case aS => exact (below_size b1_)); (case aL => have := LMc25.out; omega); intro v365 w30 ho hb hg hat; rw [← Ny364.out] at ho; have n0_ := Ad.mk (hb); have n1_ := Ad.mk (ho); clear HB; clear HO363; have HB := n0_; have HO366 := n1_; clear n0_ n1_; clear ho hb hg hat))
       go_ret2
       exact ⟨_, z61_, by have G0 := HO366; exact z3_, b1_⟩
      rw [if_neg c25] at H
      exact absurd H (by simp)
     rw [if_neg c24] at H
     exact absurd H (by simp)
    rw [if_neg c23] at H
    have c23b0 := beq_eq_false_iff_ne.mpr c23
    have c23b1 := bne_iff_ne.mpr c23
    by_cases c31 : y349.length < 140737488355328
    ·rw [if_pos c31] at H
     have LMc31 := Ad.mk c31
     clear c31
     generalize hy367 : (y349 ++ [(Go.bits .or .i64 128 (Go.bits .and .i64 a0 63)) % 256]) = y367 at H
     replace hy367 := hy367.symm
     have Ny367 := Ad.mk hy367
     clear hy367
     simp only [Option.some.injEq, Prod.mk.injEq] at H
     obtain ⟨rfl, rfl⟩ := H
     go_enter Tryz.func46, Tryz.ntmps46
     try go_wp2_with (first | ((with_reducible refine gate_callee (f := 66) rfl ?_); refine goesL_ (some 7) rfl rfl Tryz.func66 k1_ rfl #[.int .i64 a0] rfl g1_ ?_; (with_reducible refine (utf_may.calls a0 true _ A2.out).mono ?_); rintro e w' ⟨rfl, ⟨ndA, rfl⟩⟩; refine ⟨_, rfl, ?_⟩) | ((with_reducible refine gate_callee (f := 67) rfl ?_); refine goesL_ (some 10) rfl rfl Tryz.func67 k1_ rfl #[.int .i64 a0] rfl g1_ ?_; (with_reducible refine (utf_size.calls a0 t345 _ A4.out).mono ?_); rintro e w' ⟨rfl, ⟨ndB, rfl⟩⟩; refine ⟨_, rfl, ?_⟩))
     have n0_ := Ad.mk (below_drew1 HB.out)
     clear HB
     have HB := n0_
     clear n0_
     refine start_ (n := 12) (S := fun w' => True) (ds := []) #[false, false, false, false, false, false, false, false, false, false, false, false] k1_ rfl rfl trivial (fun hHeld => ?_); refine with_tabW utf_Put.tab6 utf_Put.bits6 (fun HT_ HW_ => ?_)
     clear HB
     have HB := Ad.mk (below_drew1 (pw_below_drewN (Below.refl w.heap.size w) (ndA + ndB)))
     generalize (w.drewN (ndA + ndB)).drew = w32 at HB hHeld ⊢
     refine pure_ (i := 0) (N := some 16) #[true, false, false, false, false, false, false, false, false, false, false, false] rfl rfl (any_of HT_.out k1_) (fun _ _ _ h => h) (Or.inl ⟨by rfl, py_⟩) pa_ ?_
     refine pure_ (i := 1) (N := some 17) #[true, true, false, false, false, false, false, false, false, false, false, false] rfl rfl (any_of HT_.out k1_) (fun _ _ _ h => h) (Or.inl ⟨by rfl, py_⟩) pa_ ?_
     refine pure_ (i := 2) (N := some 18) #[true, true, true, false, false, false, false, false, false, false, false, false] rfl rfl (any_of HT_.out k1_) (fun _ _ _ h => h) (Or.inl ⟨by rfl, py_⟩) pa_ ?_
     refine pure_ (i := 3) (N := some 19) #[true, true, true, true, false, false, false, false, false, false, false, false] rfl rfl (any_of HT_.out k1_) (fun _ _ _ h => h) (Or.inl ⟨by rfl, py_⟩) pa_ ?_
     refine pure_ (i := 4) (N := some 20) #[true, true, true, true, true, false, false, false, false, false, false, false] rfl rfl (any_of HT_.out k1_) (fun _ _ _ h => h) (Or.inl ⟨by rfl, py_⟩) pa_ ?_
     refine pure_ (i := 5) (N := some 21) #[true, true, true, true, true, true, false, false, false, false, false, false] rfl rfl (any_of HT_.out k1_) (fun _ _ _ h => h) (Or.inl ⟨by rfl, py_⟩) pa_ ?_
     refine pure_ (i := 6) (N := some 22) #[true, true, true, true, true, true, true, false, false, false, false, false] rfl rfl (any_of HT_.out k1_) (fun _ _ _ h => h) (Or.inl ⟨by rfl, py_⟩) pa_ ?_
     refine pure_ (i := 7) (N := some 23) #[true, true, true, true, true, true, true, true, false, false, false, false] rfl rfl (any_of HT_.out k1_) (fun _ _ _ h => h) (Or.inl ⟨by rfl, py_⟩) pa_ ?_
     refine pure_ (i := 8) (N := some 24) #[true, true, true, true, true, true, true, true, true, false, false, false] rfl rfl (any_of HT_.out k1_) (fun _ _ _ h => h) (Or.inl ⟨by rfl, py_⟩) pa_ ?_
     refine pure_ (i := 9) (N := some 25) #[true, true, true, true, true, true, true, true, true, true, false, false] rfl rfl (any_of HT_.out k1_) (fun _ _ _ h => h) (Or.inl ⟨by rfl, py_⟩) pa_ ?_
     refine one_ (i := 10) (N := some 26) #[true, true, true, true, true, true, true, true, true, true, true, false] rfl rfl (one_of HT_.out k1_) (by decide) (fun K hK => ?_)
     refine Kd.R_lit_step (Kd.int .u8) _ 5 ?hg (N := 26) ?hd (xs := ([(Go.bits .or .i64 (Go.bits .and .i64 (ji9) 255) (ji12)) % 256] : List Int)) (inner := [.int .u8 ((Go.bits .or .i64 (Go.bits .and .i64 (ji9) 255) (ji12)) % 256)]) (ok := fun _ => True) (okp := fun _ => True) ?hr ?hp (fun _ hk => hk) trivial (Below.refl _ _) (Nat.le_refl _) (by simp) ?_; (case hd => rfl); (case hg => rfl); (case hr => first | (go_simp; done) | (go_simp; rfl)); (case hp => exact (Reps.one (show Kd.M (Kd.int .u8) _ _ _ ((Go.bits .or .i64 (Go.bits .and .i64 (ji9) 255) (ji12)) % 256) [.int .u8 ((Go.bits .or .i64 (Go.bits .and .i64 (ji9) 255) (ji12)) % 256)] from rfl) (Reps.none _ _)))
     intro v350 w33 ho34 hb hg_ hnew_
     clear hg_ hnew_
     (first | rw [← Ny349.out] at ho34 | (simp only [Int.reduceToNat] at ho34; rw [← Ny349.out] at ho34))
     have n0_ := Ad.mk (Kd.R_lower ho34 (below_size b1_))
     have n1_ := Ad.mk (below_step b1_ hb)
     clear HB
     have HO351 := n0_
     have HB := n1_
     clear n0_ n1_
     clear hb ho34
     refine hK.out _ _ trivial (fun hHeld => ?_)
     clear hK K
     refine norm_ (a' := ?_) ?_ ?_
     rotate_left
     ·show Act.put _ (some 26) _ = _
      simp only [Act.put, List.setIfInBounds_toArray, List.set_cons_zero, List.set_cons_succ, i64_w, i32_w]
      rfl
     refine pure_ (i := 11) (N := some 5) #[true, true, true, true, true, true, true, true, true, true, true, true] rfl rfl (any_of HT_.out k1_) (fun _ _ _ h => h) (Or.inl ⟨by rfl, py_⟩) pa_ ?_
     refine done_ (done_of HT_.out k1_) ?_
     try go_wp2_with (first | ((with_reducible refine gate_builtin (b := .append) (xs := #[(.tmp 48), .tmp 53]) rfl ?_); at_builtin; refine Kd.R_append (Kd.int .u8) (w0 := w) w.heap.size rfl (.tmp 48) (.tmp 53) 88 5 (.int .u8 0) 1 rfl Tryz.underlying88 info5 rfl (by decide) (by omega) v350 y349 ((Go.bits .or .i64 128 (Go.bits .and .i64 a0 63)) % 256) [.int .u8 ((Go.bits .or .i64 128 (Go.bits .and .i64 a0 63)) % 256)] (fun _ => True) (fun _ => False) rfl rfl ?aP (fun _ hk => hk.elim) ?aF ?aO ?aB ?aS ?aL ?_; (case aP => exact rfl); (case aB => exact b1_); (case aF => exact (fun _ _ => trivial)); (case aO => exact (by have G0 := HO351; exact z3_)); (case aS => exact (below_size b1_)); (case aL => have := LMc31.out; omega); intro v368 w35 ho hb hg hat; rw [← Ny367.out] at ho; have n0_ := Ad.mk (hb); have n1_ := Ad.mk (ho); clear HB; clear HO351; have HB := n0_; have HO369 := n1_; clear n0_ n1_; clear ho hb hg hat))
     go_ret2
     exact ⟨_, z61_, by have G0 := HO369; exact z3_, b1_⟩
    rw [if_neg c31] at H
    exact absurd H (by simp)
   rw [if_neg c11] at H
   exact absurd H (by simp)
  rw [if_neg c8] at H
  exact absurd H (by simp)
 replace c3 := Bool.eq_false_iff.mpr c3
 subst c3
 rw [if_neg (show ¬ (false = true) by decide)] at H
 simp only [Option.some.injEq, Prod.mk.injEq] at H
 obtain ⟨rfl, rfl⟩ := H
 go_enter Tryz.func46, Tryz.ntmps46
 go_wp2_with (first | ((with_reducible refine gate_callee (f := 66) rfl ?_); refine goesL_ (some 7) rfl rfl Tryz.func66 k1_ rfl #[.int .i64 a0] rfl g1_ ?_; (with_reducible refine (utf_may.calls a0 false _ A2.out).mono ?_); rintro e w' ⟨rfl, ⟨nd, rfl⟩⟩; refine ⟨_, rfl, ?_⟩))
 go_ret2
 exact ⟨_, e2_, z24_, b1_⟩
theorem utf_Put.total (r : Int) : ∃ b : List Int, ∃ e : Int, utf_Put.f r = some (b, e) := by
 obtain ⟨m, hm⟩ := utf_may.total r
 obtain ⟨n, hn, n1, n4⟩ := utf_size.total r
 unfold utf_Put.f
 rw [hm, hn]
 simp only [Option.bind_some]
 cases m with
 | false => exact ⟨_, _, rfl⟩
 | true =>
  rw [if_pos rfl]
  have h : n = 1 ∨ n = 2 ∨ n = 3 ∨ n = 4 := by omega
  rcases h with rfl | rfl | rfl | rfl
  ·exact ⟨_, _, rfl⟩
  all_goals
   simp only [List.length_append, List.length_cons, List.length_nil, wrap64]
   exact ⟨_, _, rfl⟩
def putT (r : Int) : List Int × Int := (utf_Put.f r).getD ([], 0)
theorem putT_eq (r : Int) : utf_Put.f r = some ((putT r).1, (putT r).2) := by
 obtain ⟨b, e, h⟩ := utf_Put.total r
 unfold putT
 rw [h]; rfl
def endP (l : List (Int × Int)) : Int := l.foldl (fun _ p => wrap64 (p.1 + ((putT p.2).1.length : Int))) 0
theorem endP_snoc (l : List (Int × Int)) (x : Int × Int) : endP (l ++ [x]) = wrap64 (x.1 + ((putT x.2).1.length : Int)) := by simp [endP]
theorem keepsOthers_below {W W' : World} (h : Below W.heap.size W W') : KeepsOthers W W' := KeepsOthers.of_grownBy (grown_of_below h none) (fun j o e => by cases e)
theorem keepsBox_below {b : Nat} {W W' : World} (h : Below W.heap.size W W') : KeepsBox b W W' := fun v hv => _root_.Go.cell_kept hv (grown_of_below h none) (fun r e => by cases e)
def lex_well.f (a0 : ByteArray) : Option ByteArray := if a0.size ≤ 140737488355328 ∧ 0 ≤ endP (runesOf a0) ∧ endP (runesOf a0) ≤ (a0.size : Int) then some (a0.extract 0 (endP (runesOf a0)).toNat) else none
section
attribute [local go_sem] Oper.semAt_some
set_option maxRecDepth 100000 in
set_option maxHeartbeats 2000000 in
theorem lex_well.calls (a0 : ByteArray) (r : ByteArray) (w : World) (h : lex_well.f a0 = some r) :
  Calls Tryz.prog 31 #[.string a0] w fun e w' => e = .returned (.string r) ∧ Below w.heap.size w w' := by
 unfold lex_well.f at h
 split at h
 ·rename_i hs3
  obtain ⟨hs, he0, he1⟩ := hs3
  obtain rfl := Option.some.inj h
  clear h
  refine (callsIn_wide (n := 5)).1 ?_
  refine callsIn_of_wp_marks Tryz.func31 rfl trivial ?_ rfl
  simp only [Tryz.ntmps31, List.size_toArray, List.length_cons, List.length_nil, Nat.reduceAdd, Nat.reduceSub, Array.replicate_succ, Array.replicate_zero, List.push_toArray, List.append_toArray, List.nil_append, List.cons_append]
  gi_wp2_with (refine ⟨trivial, ?_⟩; gi_at_call 45; refine (wide_of (utf_Runes.calls a0 _)).mono ?_; rintro e w' ⟨rfl, rfl⟩)
  have c0 := cellNew w (.int .i64 0) 3
  have c1 := cellNew (w.alloc (.cells #[.int .i64 0] 3)) (.string a0) 9
  rw [World.size_alloc] at c1
  have hB0 : Below w.heap.size w ((w.alloc (.cells #[.int .i64 0] 3)).alloc (.cells #[.string a0] 9)) := ((Below.refl _ w).alloc (Nat.le_refl _) _).alloc (by simp) _
  refine wpIn_rangeFunc_ownF rfl (by omega) (gf := 64) (lb := #[.pointer (some ⟨w.heap.size + 1, 0, none⟩)]) rfl trivial (enters_of Tryz.func64 k1_ rfl)
   (runes_stops 4 (by omega) a0 hs (w.heap.size + 1) _ (by simp) c1.1) keepsBox_t (fun W l o o' _ h hc _ => keepsBox_b W l o o' h hc) (Below.refl _ _) (fun _ => rfl)
   (fun pre W => (W.cell? ⟨w.heap.size, 0, none⟩ = some (.int .i64 (endP pre)) ∧ W.frozen? ⟨w.heap.size, 0, none⟩ = false) ∧ Below w.heap.size w W)
   (fun _ _ _ => False)
   (OwnFrom.and (Own.from (fun s A B row hs hg hr => ⟨_root_.Go.cell_kept hs.1 hg hr, (_root_.Go.frozen_kept hs.1 hg hr).trans hs.2⟩) _) (ownFrom_below (Nat.le_refl _) (by simp; omega)))
   (fun _ _ _ _ _ hs _ _ => hs)
   ⟨⟨cellAlloc _ c0.1, frozenAlloc _ c0.1 c0.2⟩, hB0⟩
   (fun x => { tmps := #[.string a0, undef, .string ⟨#[]⟩, .pointer (some ⟨w.heap.size, 0, none⟩), .int .i64 x.1, .int .i64 x.2, undef, undef, .string a0, .func (.func 64) #[] #[.pointer (some ⟨w.heap.size + 1, 0, none⟩)], .int .i64 x.1, .int .i64 x.2, undef, undef, undef, undef, undef, undef, undef, undef, undef, undef, undef, undef], defers := [] }) ?assign ?body ?done ?stop
  case assign =>
   intro l x W K hK
   gi_wp2
   exact hK
  case body =>
   rintro l pre x W ⟨⟨hc, hf⟩, hB⟩ _
   gi_wp2_with (refine ⟨trivial, ?_⟩; gi_at_call 46; refine (CallsIn.inRound l (wide_of (utf_Put.calls x.2 (putT x.2).1 (putT x.2).2 _ (putT_eq x.2)))).mono ?_; rintro e w' ⟨v, rfl, hr, hb⟩; obtain ⟨A_, c_, rfl⟩ := Kd.R_slice hr; have hc2 := _root_.Go.cell_kept hc (grown_of_below hb none) (fun r e => by cases e); have hf2 := (_root_.Go.frozen_kept hc (grown_of_below hb none) (fun r e => by cases e)).trans hf)
   refine ⟨(keepsOthers_below hb).trans (KeepsOthers.setCell _ _ _), keepsBox_t (keepsBox_below hb) (keepsBox_set _ _ _ (by simp)), ⟨?_, ?_⟩, (below_then hB hB.size hb).setCell (p := ⟨w.heap.size, 0, none⟩) (Nat.le_refl _) _⟩
   ·rw [endP_snoc]
    exact World.cell?_setCell_same' _ _ _ (by rw [hc2]; rfl)
   rw [World.frozen?_setCell]
   exact hf2
  case done =>
   rintro D ys W hD rfl ⟨⟨hc, _⟩, hB⟩ hK
   gi_wp2
   refine ⟨by simp, .inl ⟨_, _, rfl, run_takeDeferred hK, ?_⟩⟩
   exact ⟨_, results_tmp rfl _ _ _, rfl, hB.trans (belowK_b (w := w) (Nat.le_refl _) W D _ _ (by simp at hD; omega) hK rfl rfl)⟩
  case stop =>
   rintro D c pre W _ _ h _
   exact h.elim
 cases h
end
end Go.Proofs.YtpbphelaeleikaaGreatDoor.PLt

import Derived.Test.YtpbphelaeleikaaDoorMePMeanx0
import Derived.Test.YtpbphelaeleikaaDoorMePMeanx12
namespace Go.Proofs.YtpbphelaeleikaaDoor.PMean
open Go.RowKit Go.Proofs.YtpbphelaeleikaaDoorW.PrintWords Go.Proofs.YtpbphelaeleikaaDoorW.PrintLast Go.Proofs.YtpbphelaeleikaaDoorW.PrintMore
attribute [local go_sem] max2_int min2_int max_two min_two max_three min_three max_four min_four
set_option linter.unusedVariables false
set_option linter.unusedSimpArgs false
set_option maxHeartbeats 8000000
set_option maxRecDepth 100000
def rhizomelaw04_known.j0 : Nat → List (S38) → List (S38) → Bool → Option (Bool)
 | 0, _, _, _ => none
 | k + 1, x1, x4, x32 => if x32 = true then (none) else (if 0 < (x1.length : Int) then (if ((rd_T38 x1 0).f0) = 1 then (if 1 < (x1.length : Int) then ((lex_Mark.f ((rd_T38 x1 1).f0) ((rd_T38 x1 1).f1) ((rd_T38 x1 1).f2.f0) ((rd_T38 x1 1).f2.f1) ((rd_T38 x1 1).f2.f2) ((rd_T38 x1 1).f3) (⟨#[58, 45]⟩ : ByteArray)).bind fun t292 => (if t292 = true then (if 2 < (x1.length : Int) then (if ((rd_T38 x1 2).f1).toList = ([120] : List UInt8) then (if 3 < (x1.length : Int) then ((lex_Mark.f ((rd_T38 x1 3).f0) ((rd_T38 x1 3).f1) ((rd_T38 x1 3).f2.f0) ((rd_T38 x1 3).f2.f1) ((rd_T38 x1 3).f2.f2) ((rd_T38 x1 3).f3) (⟨#[33, 61]⟩ : ByteArray)).bind fun t295 => (if t295 = true then (if 4 < (x1.length : Int) then (if ((rd_T38 x1 4).f1).toList = ([98] : List UInt8) then (if 5 < (x1.length : Int) then (if ((rd_T38 x1 5).f1).toList = ([101, 110] : List UInt8) then (if 6 < (x1.length : Int) then ((lex_Mark.f ((rd_T38 x1 6).f0) ((rd_T38 x1 6).f1) ((rd_T38 x1 6).f2.f0) ((rd_T38 x1 6).f2.f1) ((rd_T38 x1 6).f2.f2) ((rd_T38 x1 6).f3) (⟨#[46]⟩ : ByteArray)).bind fun t299 => (if t299 = true then (if 0 < (x4.length : Int) then (if ((rd_T38 x4 0).f0) = 7 then (if ((rd_T38 x4 0).f1).toList = ([97, 58, 98, 45, 99] : List UInt8) then (if 1 < (x4.length : Int) then ((lex_Word.f ((rd_T38 x4 1).f0) ((rd_T38 x4 1).f1) ((rd_T38 x4 1).f2.f0) ((rd_T38 x4 1).f2.f1) ((rd_T38 x4 1).f2.f2) ((rd_T38 x4 1).f3) (⟨#[65]⟩ : ByteArray)).bind fun t303 => (if t303 = true then (if 2 < (x4.length : Int) then (some (((rd_T38 x4 2).f1).toList == ([58] : List UInt8))) else (none)) else (none))) else (none)) else (none)) else (none)) else (none)) else (none))) else (none)) else (none)) else (none)) else (none)) else (none)) else (none))) else (none)) else (none)) else (none)) else (none))) else (none)) else (none)) else (none))
def rhizomelaw04_known.f (k : Nat)  : Option (Bool) := (lex_All.f k (⟨#[60, 97, 62, 58, 45, 63, 120, 32, 33, 61, 32, 34, 98, 34, 64, 101, 110, 32, 46]⟩ : ByteArray)).bind fun bt278 => ((lex_All.f k (⟨#[97, 58, 98, 45, 99, 32, 97, 32, 58]⟩ : ByteArray)).bind fun bt283 => ((rhizomelaw04_num.f bt278.2.2).bind fun t288 => ((rhizomelaw04_num.f bt283.2.2).bind fun t289 => (if (wrap64 (t288 + t289)) = 0 then (if (bt278.1.length : Int) = 7 then (rhizomelaw04_known.j0 k bt278.1 bt283.1 ((bt283.1.length : Int) != 3)) else (none)) else (none)))))
theorem rhizomelaw04_known.mono_l : ∀ k, (∀ y0 y1 y2, LeO (rhizomelaw04_known.j0 k y0 y1 y2) (rhizomelaw04_known.j0 (k + 1) y0 y1 y2))
 | 0 => fun _ _ _ r h => by simp [rhizomelaw04_known.j0] at h
 | k + 1 => by
  have ih0 := rhizomelaw04_known.mono_l k
  ·intro y0 y1 y2
   unfold rhizomelaw04_known.j0
   repeat' first
   | (with_reducible exact ih0 _ _ _)
   | (with_reducible exact lex_All.mono _ _)
   | (with_reducible exact LeO.refl _)
   | (with_reducible exact LeO.none _)
   | (with_reducible refine LeO.ite ?_ ?_)
   | (with_reducible refine LeO.bind ?_ (fun _ => ?_))
   | exact ih0 _ _ _
   | exact lex_All.mono _ _
   | exact LeO.none _
   | refine LeO.ite ?_ ?_
   | refine LeO.bind ?_ (fun _ => ?_)
theorem rhizomelaw04_known.mono : ∀ k, LeO (rhizomelaw04_known.f k ) (rhizomelaw04_known.f (k + 1) ) := by
 intro  k
 have ih0 := rhizomelaw04_known.mono_l k
 unfold rhizomelaw04_known.f
 repeat' first
   | (with_reducible exact ih0 _ _ _)
   | (with_reducible exact lex_All.mono _ _)
   | (with_reducible exact LeO.refl _)
   | (with_reducible exact LeO.none _)
   | (with_reducible refine LeO.ite ?_ ?_)
   | (with_reducible refine LeO.bind ?_ (fun _ => ?_))
   | exact ih0 _ _ _
   | exact lex_All.mono _ _
   | exact LeO.none _
   | refine LeO.ite ?_ ?_
   | refine LeO.bind ?_ (fun _ => ?_)
theorem rhizomelaw04_known.calls (k : Nat)  (r : Bool) (w : World) (h : rhizomelaw04_known.f k  = some r) :
  Calls Tryd.prog 7 #[] w fun e w' => e = .returned (.bool r) ∧ Below w.heap.size w w' := by
 have hu38 := Tryd.underlying38
 have HB := Aside0.mk (Below.refl w.heap.size w)
 have H := h
 clear h
 unfold rhizomelaw04_known.f at H
 obtain ⟨⟨t278, t279, t280⟩, A1, H⟩ := bi_ H
 try dsimp only at H
 obtain ⟨⟨t283, t284, t285⟩, A2, H⟩ := bi_ H
 try dsimp only at H
 have HC3 := Aside0.mk H
 clear H
 go_enter Tryd.func7, Tryd.ntmps7
 go_upto_region 3 with (first | ((with_reducible refine gate_callee (f := 5) rfl ?_); refine goesL_ (some 8) rfl rfl Tryd.func5 k1_ rfl #[.string ⟨#[60, 97, 62, 58, 45, 63, 120, 32, 33, 61, 32, 34, 98, 34, 64, 101, 110, 32, 46]⟩] rfl g1_ ?_; (with_reducible refine (lex_All.calls k (⟨#[60, 97, 62, 58, 45, 63, 120, 32, 33, 61, 32, 34, 98, 34, 64, 101, 110, 32, 46]⟩ : ByteArray) t278 t279 t280 _ A1.out).mono ?_); rintro e w4 ⟨v281, rfl, ho0, hb⟩; refine ⟨_, rfl, ?_⟩; have HO282 := Aside0.mk (Kd.R_lower ho0 (below_size b1_)); replace HB := Aside0.mk (below_step b1_ hb); (try clear hb); (try clear hb2); (try clear hk); (try clear hi); (try clear ho0)) | ((with_reducible refine gate_callee (f := 5) rfl ?_); refine goesL_ (some 13) rfl rfl Tryd.func5 k1_ rfl #[.string ⟨#[97, 58, 98, 45, 99, 32, 97, 32, 58]⟩] rfl g1_ ?_; (with_reducible refine (lex_All.calls k (⟨#[97, 58, 98, 45, 99, 32, 97, 32, 58]⟩ : ByteArray) t283 t284 t285 _ A2.out).mono ?_); rintro e w5 ⟨v286, rfl, ho0, hb⟩; refine ⟨_, rfl, ?_⟩; have HO287 := Aside0.mk (Kd.R_lower (Kd.R_new' ho0 (Kd.R_lt (by have G0 := HO282; exact z1_))) (below_size b1_)); replace HO282 := Aside0.mk (Kd.R_elder' (by have G0 := HO282; exact z1_) (Kd.R_base ho0) hb); replace HB := Aside0.mk (below_step b1_ hb); (try clear hb); (try clear hb2); (try clear hk); (try clear hi); (try clear ho0)))
 (try simp only [Act.put, List.setIfInBounds_toArray, List.set_cons_zero, List.set_cons_succ])
 go_cut [32] (fun v32 wc => ∃ (kq : Nat) (x32_2 : Bool), v32 = .bool x32_2 ∧ Aside0 (rhizomelaw04_known.j0 kq t278 t283 x32_2 = some r) ∧ Aside0 (kq ≤ k) ∧ Aside0 (Kd.R k38 38 wc w.heap.size (fun k_ => some k_ ≠ (v286 : Value).ownBlock) v281 t278) ∧ Aside0 (Kd.R k38 38 wc w.heap.size (fun k_ => some k_ ≠ (v281 : Value).ownBlock) v286 t283) ∧ Aside0 (Below w.heap.size w wc))
 case first =>
  have H := HC3.out
  clear HC3
  obtain ⟨t288, A6, H⟩ := bi_ H
  obtain ⟨t289, A7, H⟩ := bi_ H
  by_cases c8 : (wrap64 (t288 + t289)) = 0
  ·rw [if_pos c8] at H
   have c8b0 := beq_iff_eq.mpr c8
   have c8b1 := bne_eq_false_iff_eq.mpr c8
   clear c8
   (first | rw [c8b0] | (simp only [i64_w, i32_w]; rw [c8b0]) | skip)
   by_cases c9 : (t278.length : Int) = 7
   ·rw [if_pos c9] at H
    have c9b0 := beq_iff_eq.mpr c9
    have c9b1 := bne_eq_false_iff_eq.mpr c9
    clear c9
    have H' := Aside0.mk H
    clear H
    go_wp2_with (first | ((with_reducible refine gate_callee (f := 6) rfl ?_); refine goesL_ (some 18) rfl rfl Tryd.func6 k1_ rfl #[.int .i64 t280] rfl g1_ ?_; (with_reducible refine (rhizomelaw04_num.calls t280 t288 _ A6.out).mono ?_); rintro e w' ⟨rfl, ⟨nd, rfl⟩⟩; refine ⟨_, rfl, ?_⟩) | ((with_reducible refine gate_callee (f := 6) rfl ?_); refine goesL_ (some 20) rfl rfl Tryd.func6 k1_ rfl #[.int .i64 t285] rfl g1_ ?_; (with_reducible refine (rhizomelaw04_num.calls t285 t289 _ A7.out).mono ?_); rintro e w' ⟨rfl, ⟨nd, rfl⟩⟩; refine ⟨_, rfl, ?_⟩; obtain ⟨Ao10, co10, eo10⟩ := Kd.R_slice HO282.out; subst eo10; obtain ⟨Ao11, co11, eo11⟩ := Kd.R_slice HO287.out; subst eo11))
    go_meet
    case rel => exact ⟨_, (((t283.length : Int) != 3)), e1_, H', ⟨z12_⟩, ⟨by have G0 := HO282; exact z21_⟩, ⟨by have G0 := HO287; exact z21_⟩, ⟨b1_⟩⟩
   rw [if_neg c9] at H
   exact absurd H (by simp)
  rw [if_neg c8] at H
  exact absurd H (by simp)
 case rest =>
  clear HC3
  obtain ⟨kq, x32_2, rfl, HA, HJ2, HO_1, HO_4, HB⟩ := hcut
  cases kq with
  | zero => exact absurd HA.out (by simp [rhizomelaw04_known.j0])
  | succ kj2 =>
   have H := HA.out
   clear HA
   simp only [rhizomelaw04_known.j0] at H
   by_cases c12 : x32_2 = true
   ·subst c12
    rw [if_pos rfl] at H
    exact absurd H (by simp)
   replace c12 := Bool.eq_false_iff.mpr c12
   subst c12
   rw [if_neg (show ¬ (false = true) by decide)] at H
   by_cases c13 : 0 < (t278.length : Int)
   ·rw [if_pos c13] at H
    have c13b0 := decide_eq_true c13
    have c13b1 : decide (0 < t278.length) = true := decide_eq_true (by omega)
    clear c13
    by_cases c14 : ((rd_T38 t278 0).f0) = 1
    ·rw [if_pos c14] at H
     have c14b0 := beq_iff_eq.mpr c14
     have c14b1 := bne_eq_false_iff_eq.mpr c14
     clear c14
     by_cases c15 : 1 < (t278.length : Int)
     ·rw [if_pos c15] at H
      have c15b0 := decide_eq_true c15
      have c15b1 : decide (1 < t278.length) = true := decide_eq_true (by omega)
      clear c15
      obtain ⟨t292, A16, H⟩ := bi_ H
      by_cases c17 : t292 = true
      ·subst c17
       rw [if_pos rfl] at H
       by_cases c18 : 2 < (t278.length : Int)
       ·rw [if_pos c18] at H
        have c18b0 := decide_eq_true c18
        have c18b1 : decide (2 < t278.length) = true := decide_eq_true (by omega)
        clear c18
        by_cases c19 : ((rd_T38 t278 2).f1).toList = ([120] : List UInt8)
        ·rw [if_pos c19] at H
         have c19b0 := beq_iff_eq.mpr c19
         have c19b1 := bne_eq_false_iff_eq.mpr c19
         clear c19
         by_cases c20 : 3 < (t278.length : Int)
         ·rw [if_pos c20] at H
          have c20b0 := decide_eq_true c20
          have c20b1 : decide (3 < t278.length) = true := decide_eq_true (by omega)
          clear c20
          obtain ⟨t295, A21, H⟩ := bi_ H
          by_cases c22 : t295 = true
          ·subst c22
           rw [if_pos rfl] at H
           by_cases c23 : 4 < (t278.length : Int)
           ·rw [if_pos c23] at H
            have c23b0 := decide_eq_true c23
            have c23b1 : decide (4 < t278.length) = true := decide_eq_true (by omega)
            clear c23
            by_cases c24 : ((rd_T38 t278 4).f1).toList = ([98] : List UInt8)
            ·rw [if_pos c24] at H
             have c24b0 := beq_iff_eq.mpr c24
             have c24b1 := bne_eq_false_iff_eq.mpr c24
             clear c24
             by_cases c25 : 5 < (t278.length : Int)
             ·rw [if_pos c25] at H
              have c25b0 := decide_eq_true c25
              have c25b1 : decide (5 < t278.length) = true := decide_eq_true (by omega)
              clear c25
              by_cases c26 : ((rd_T38 t278 5).f1).toList = ([101, 110] : List UInt8)
              ·rw [if_pos c26] at H
               have c26b0 := beq_iff_eq.mpr c26
               have c26b1 := bne_eq_false_iff_eq.mpr c26
               clear c26
               by_cases c27 : 6 < (t278.length : Int)
               ·rw [if_pos c27] at H
                have c27b0 := decide_eq_true c27
                have c27b1 : decide (6 < t278.length) = true := decide_eq_true (by omega)
                clear c27
                obtain ⟨t299, A28, H⟩ := bi_ H
                by_cases c29 : t299 = true
                ·subst c29
                 rw [if_pos rfl] at H
                 by_cases c30 : 0 < (t283.length : Int)
                 ·rw [if_pos c30] at H
                  have c30b0 := decide_eq_true c30
                  have c30b1 : decide (0 < t283.length) = true := decide_eq_true (by omega)
                  clear c30
                  by_cases c31 : ((rd_T38 t283 0).f0) = 7
                  ·rw [if_pos c31] at H
                   have c31b0 := beq_iff_eq.mpr c31
                   have c31b1 := bne_eq_false_iff_eq.mpr c31
                   clear c31
                   by_cases c32 : ((rd_T38 t283 0).f1).toList = ([97, 58, 98, 45, 99] : List UInt8)
                   ·rw [if_pos c32] at H
                    have c32b0 := beq_iff_eq.mpr c32
                    have c32b1 := bne_eq_false_iff_eq.mpr c32
                    clear c32
                    by_cases c33 : 1 < (t283.length : Int)
                    ·rw [if_pos c33] at H
                     have c33b0 := decide_eq_true c33
                     have c33b1 : decide (1 < t283.length) = true := decide_eq_true (by omega)
                     clear c33
                     obtain ⟨t303, A34, H⟩ := bi_ H
                     by_cases c35 : t303 = true
                     ·subst c35
                      rw [if_pos rfl] at H
                      by_cases c36 : 2 < (t283.length : Int)
                      ·rw [if_pos c36] at H
                       have c36b0 := decide_eq_true c36
                       have c36b1 : decide (2 < t283.length) = true := decide_eq_true (by omega)
                       clear c36
                       obtain rfl := Option.some.inj H
                       obtain ⟨Ao37, co37, eo37⟩ := Kd.R_slice HO_1.out
                       subst eo37
                       have p290 : 0 ≤ (0 : Int) := (by omega)
                       have q290 : 0 < (t278.length : Int) := of_decide_eq_true a1_
                       obtain ⟨ad290, e290, hx290_0, hx290_1, hx290_2, hx290_3, hx290_4, hx290_5⟩ := at_T38 (Kd.R_reads' HO_1.out).2.2 0 p290 q290
                       cases e290
                       have qi290 : (0 < t278.length) = True := eq_true (by omega)
                       (try simp only [show ((0 : Int)).toNat = 0 from rfl, show 0 * 6 = 0 from rfl, Addr.add_zero'] at hx290_0 hx290_1 hx290_2 hx290_3 hx290_4 hx290_5)
                       replace p290 := eq_true p290
                       replace q290 := eq_true q290
                       have p291 : 0 ≤ (1 : Int) := (by omega)
                       have q291 : 1 < (t278.length : Int) := of_decide_eq_true a1_
                       obtain ⟨ad291, e291, hx291_0, hx291_1, hx291_2, hx291_3, hx291_4, hx291_5⟩ := at_T38 (Kd.R_reads' HO_1.out).2.2 1 p291 q291
                       obtain rfl : ad290 = ad291 := (by injection e291)
                       (try simp only [show (1 : Int).toNat = 1 from rfl, Nat.reduceMul, Nat.reduceEqDiff, Go.Addr.add, ↓reduceIte] at hx291_0 hx291_1 hx291_2 hx291_3 hx291_4 hx291_5)
                       have qi291 : (1 < t278.length) = True := eq_true (by omega)
                       replace p291 := eq_true p291
                       replace q291 := eq_true q291
                       go_wp2_with (first | (go_at_call 15; (with_reducible refine (lex_Mark.calls ((rd_T38 t278 1).f0) ((rd_T38 t278 1).f1) ((rd_T38 t278 1).f2.f0) ((rd_T38 t278 1).f2.f1) ((rd_T38 t278 1).f2.f2) ((rd_T38 t278 1).f3) (⟨#[58, 45]⟩ : ByteArray) true _ A16.out).mono ?_); rintro e w38 ⟨rfl, hb⟩; replace HO_1 := Aside0.mk (Kd.R_below (by have G0 := HO_1; exact z1_) hb); replace HO_4 := Aside0.mk (Kd.R_below (by have G0 := HO_4; exact z1_) hb); replace HB := Aside0.mk (below_step b1_ hb); clear hb; have p293 : 0 ≤ (2 : Int) := (by omega); have q293 : 2 < (t278.length : Int) := of_decide_eq_true a1_; obtain ⟨ad293, e293, hx293_0, hx293_1, hx293_2, hx293_3, hx293_4, hx293_5⟩ := at_T38 (Kd.R_reads' HO_1.out).2.2 2 p293 q293; obtain rfl : ad290 = ad293 := (by injection e293); (try simp only [show (2 : Int).toNat = 2 from rfl, Nat.reduceMul, Nat.reduceEqDiff, Go.Addr.add, ↓reduceIte] at hx293_0 hx293_1 hx293_2 hx293_3 hx293_4 hx293_5); have qi293 : (2 < t278.length) = True := eq_true (by omega); replace p293 := eq_true p293; replace q293 := eq_true q293; have p294 : 0 ≤ (3 : Int) := (by omega); have q294 : 3 < (t278.length : Int) := of_decide_eq_true a1_; obtain ⟨ad294, e294, hx294_0, hx294_1, hx294_2, hx294_3, hx294_4, hx294_5⟩ := at_T38 (Kd.R_reads' HO_1.out).2.2 3 p294 q294; obtain rfl : ad290 = ad294 := (by injection e294); (try simp only [show (3 : Int).toNat = 3 from rfl, Nat.reduceMul, Nat.reduceEqDiff, Go.Addr.add, ↓reduceIte] at hx294_0 hx294_1 hx294_2 hx294_3 hx294_4 hx294_5); have qi294 : (3 < t278.length) = True := eq_true (by omega); replace p294 := eq_true p294; replace q294 := eq_true q294) | (go_at_call 15; (with_reducible refine (lex_Mark.calls ((rd_T38 t278 3).f0) ((rd_T38 t278 3).f1) ((rd_T38 t278 3).f2.f0) ((rd_T38 t278 3).f2.f1) ((rd_T38 t278 3).f2.f2) ((rd_T38 t278 3).f3) (⟨#[33, 61]⟩ : ByteArray) true _ A21.out).mono ?_); rintro e w39 ⟨rfl, hb⟩; replace HO_1 := Aside0.mk (Kd.R_below (by have G0 := HO_1; exact z1_) hb); replace HO_4 := Aside0.mk (Kd.R_below (by have G0 := HO_4; exact z1_) hb); replace HB := Aside0.mk (below_step b1_ hb); clear hb; have p296 : 0 ≤ (4 : Int) := (by omega); have q296 : 4 < (t278.length : Int) := of_decide_eq_true a1_; obtain ⟨ad296, e296, hx296_0, hx296_1, hx296_2, hx296_3, hx296_4, hx296_5⟩ := at_T38 (Kd.R_reads' HO_1.out).2.2 4 p296 q296; obtain rfl : ad290 = ad296 := (by injection e296); (try simp only [show (4 : Int).toNat = 4 from rfl, Nat.reduceMul, Nat.reduceEqDiff, Go.Addr.add, ↓reduceIte] at hx296_0 hx296_1 hx296_2 hx296_3 hx296_4 hx296_5); have qi296 : (4 < t278.length) = True := eq_true (by omega); replace p296 := eq_true p296; replace q296 := eq_true q296; have p297 : 0 ≤ (5 : Int) := (by omega); have q297 : 5 < (t278.length : Int) := of_decide_eq_true a1_; obtain ⟨ad297, e297, hx297_0, hx297_1, hx297_2, hx297_3, hx297_4, hx297_5⟩ := at_T38 (Kd.R_reads' HO_1.out).2.2 5 p297 q297; obtain rfl : ad290 = ad297 := (by injection e297); (try simp only [show (5 : Int).toNat = 5 from rfl, Nat.reduceMul, Nat.reduceEqDiff, Go.Addr.add, ↓reduceIte] at hx297_0 hx297_1 hx297_2 hx297_3 hx297_4 hx297_5); have qi297 : (5 < t278.length) = True := eq_true (by omega); replace p297 := eq_true p297; replace q297 := eq_true q297; have p298 : 0 ≤ (6 : Int) := (by omega); have q298 : 6 < (t278.length : Int) := of_decide_eq_true a1_; obtain ⟨ad298, e298, hx298_0, hx298_1, hx298_2, hx298_3, hx298_4, hx298_5⟩ := at_T38 (Kd.R_reads' HO_1.out).2.2 6 p298 q298; obtain rfl : ad290 = ad298 := (by injection e298); (try simp only [show (6 : Int).toNat = 6 from rfl, Nat.reduceMul, Nat.reduceEqDiff, Go.Addr.add, ↓reduceIte] at hx298_0 hx298_1 hx298_2 hx298_3 hx298_4 hx298_5); have qi298 : (6 < t278.length) = True := eq_true (by omega); replace p298 := eq_true p298; replace q298 := eq_true q298) | (go_at_call 15; (with_reducible refine (lex_Mark.calls ((rd_T38 t278 6).f0) ((rd_T38 t278 6).f1) ((rd_T38 t278 6).f2.f0) ((rd_T38 t278 6).f2.f1) ((rd_T38 t278 6).f2.f2) ((rd_T38 t278 6).f3) (⟨#[46]⟩ : ByteArray) true _ A28.out).mono ?_); rintro e w40 ⟨rfl, hb⟩; replace HO_1 := Aside0.mk (Kd.R_below (by have G0 := HO_1; exact z1_) hb); replace HO_4 := Aside0.mk (Kd.R_below (by have G0 := HO_4; exact z1_) hb); replace HB := Aside0.mk (below_step b1_ hb); clear hb; obtain ⟨Ao41, co41, eo41⟩ := Kd.R_slice HO_4.out; subst eo41; have p300 : 0 ≤ (0 : Int) := (by omega); have q300 : 0 < (t283.length : Int) := of_decide_eq_true a1_; obtain ⟨ad300, e300, hx300_0, hx300_1, hx300_2, hx300_3, hx300_4, hx300_5⟩ := at_T38 (Kd.R_reads' HO_4.out).2.2 0 p300 q300; cases e300; have qi300 : (0 < t283.length) = True := eq_true (by omega); (try simp only [show ((0 : Int)).toNat = 0 from rfl, show 0 * 6 = 0 from rfl, Addr.add_zero'] at hx300_0 hx300_1 hx300_2 hx300_3 hx300_4 hx300_5); replace p300 := eq_true p300; replace q300 := eq_true q300; have p301 : 0 ≤ (0 : Int) := (by omega); have q301 : 0 < (t283.length : Int) := of_decide_eq_true a1_; obtain ⟨ad301, e301, hx301_0, hx301_1, hx301_2, hx301_3, hx301_4, hx301_5⟩ := at_T38 (Kd.R_reads' HO_4.out).2.2 0 p301 q301; obtain rfl : ad300 = ad301 := (by injection e301); have qi301 : (0 < t283.length) = True := eq_true (by omega); (try simp only [show ((0 : Int)).toNat = 0 from rfl, show 0 * 6 = 0 from rfl, Addr.add_zero'] at hx301_0 hx301_1 hx301_2 hx301_3 hx301_4 hx301_5); replace p301 := eq_true p301; replace q301 := eq_true q301; have p302 : 0 ≤ (1 : Int) := (by omega); have q302 : 1 < (t283.length : Int) := of_decide_eq_true a1_; obtain ⟨ad302, e302, hx302_0, hx302_1, hx302_2, hx302_3, hx302_4, hx302_5⟩ := at_T38 (Kd.R_reads' HO_4.out).2.2 1 p302 q302; obtain rfl : ad300 = ad302 := (by injection e302); (try simp only [show (1 : Int).toNat = 1 from rfl, Nat.reduceMul, Nat.reduceEqDiff, Go.Addr.add, ↓reduceIte] at hx302_0 hx302_1 hx302_2 hx302_3 hx302_4 hx302_5); have qi302 : (1 < t283.length) = True := eq_true (by omega); replace p302 := eq_true p302; replace q302 := eq_true q302) | (go_at_call 16; (with_reducible refine (lex_Word.calls ((rd_T38 t283 1).f0) ((rd_T38 t283 1).f1) ((rd_T38 t283 1).f2.f0) ((rd_T38 t283 1).f2.f1) ((rd_T38 t283 1).f2.f2) ((rd_T38 t283 1).f3) (⟨#[65]⟩ : ByteArray) true _ A34.out).mono ?_); rintro e w42 ⟨rfl, hb⟩; replace HO_1 := Aside0.mk (Kd.R_below (by have G0 := HO_1; exact z1_) hb); replace HO_4 := Aside0.mk (Kd.R_below (by have G0 := HO_4; exact z1_) hb); replace HB := Aside0.mk (below_step b1_ hb); clear hb; have p304 : 0 ≤ (2 : Int) := (by omega); have q304 : 2 < (t283.length : Int) := of_decide_eq_true a1_; obtain ⟨ad304, e304, hx304_0, hx304_1, hx304_2, hx304_3, hx304_4, hx304_5⟩ := at_T38 (Kd.R_reads' HO_4.out).2.2 2 p304 q304; obtain rfl : ad300 = ad304 := (by injection e304); (try simp only [show (2 : Int).toNat = 2 from rfl, Nat.reduceMul, Nat.reduceEqDiff, Go.Addr.add, ↓reduceIte] at hx304_0 hx304_1 hx304_2 hx304_3 hx304_4 hx304_5); have qi304 : (2 < t283.length) = True := eq_true (by omega); replace p304 := eq_true p304; replace q304 := eq_true q304))
                       go_ret
                       exact ⟨e2_, b1_⟩
                      rw [if_neg c36] at H
                      exact absurd H (by simp)
                     replace c35 := Bool.eq_false_iff.mpr c35
                     subst c35
                     rw [if_neg (show ¬ (false = true) by decide)] at H
                     exact absurd H (by simp)
                    rw [if_neg c33] at H
                    exact absurd H (by simp)
                   rw [if_neg c32] at H
                   exact absurd H (by simp)
                  rw [if_neg c31] at H
                  exact absurd H (by simp)
                 rw [if_neg c30] at H
                 exact absurd H (by simp)
                replace c29 := Bool.eq_false_iff.mpr c29
                subst c29
                rw [if_neg (show ¬ (false = true) by decide)] at H
                exact absurd H (by simp)
               rw [if_neg c27] at H
               exact absurd H (by simp)
              rw [if_neg c26] at H
              exact absurd H (by simp)
             rw [if_neg c25] at H
             exact absurd H (by simp)
            rw [if_neg c24] at H
            exact absurd H (by simp)
           rw [if_neg c23] at H
           exact absurd H (by simp)
          replace c22 := Bool.eq_false_iff.mpr c22
          subst c22
          rw [if_neg (show ¬ (false = true) by decide)] at H
          exact absurd H (by simp)
         rw [if_neg c20] at H
         exact absurd H (by simp)
        rw [if_neg c19] at H
        exact absurd H (by simp)
       rw [if_neg c18] at H
       exact absurd H (by simp)
      replace c17 := Bool.eq_false_iff.mpr c17
      subst c17
      rw [if_neg (show ¬ (false = true) by decide)] at H
      exact absurd H (by simp)
     rw [if_neg c15] at H
     exact absurd H (by simp)
    rw [if_neg c14] at H
    exact absurd H (by simp)
   rw [if_neg c13] at H
   exact absurd H (by simp)
def rhizomeref02_Long.f (a0_0 : Int) (a0_1 : ByteArray) (a0_2 : ByteArray) : Option (Bool) := if (a0_1.size : Int) > 9000 then (some true) else (some (decide ((a0_2.size : Int) > 9000)))
theorem rhizomeref02_Long.calls (a0_0 : Int) (a0_1 : ByteArray) (a0_2 : ByteArray) (r : Bool) (w : World) (h : rhizomeref02_Long.f a0_0 a0_1 a0_2 = some r) :
  Calls Tryd.prog 8 #[.agg #[.int .i64 a0_0, .string a0_1, .string a0_2]] w fun e w' => e = .returned (.bool r) ∧ Below w.heap.size w w' := by
 have hu31 := Tryd.underlying31
 have HB := Aside0.mk (Below.refl w.heap.size w)
 have H := h
 clear h
 unfold rhizomeref02_Long.f at H
 by_cases c2 : (a0_1.size : Int) > 9000
 ·rw [if_pos c2] at H
  have c2b0 : decide (9000 < (a0_1.size : Int)) = true := decide_eq_true c2
  have c2b1 : decide (9000 < a0_1.size) = true := decide_eq_true (by omega)
  clear c2
  obtain rfl := Option.some.inj H
  go_enter Tryd.func8, Tryd.ntmps8
  go_wp2_with (first | ((with_reducible refine gate_dst (N := 1) rfl ?_); (try (refine gate_guard (by rfl) ?_; dsimp only)); refine box_event r1_ (N := 1) r1_ (cs := #[.int .i64 a0_0, .string a0_1, .string a0_2]) (t := 31) r2_ ?_; intro gb305 hg w3 hbox hb; have BK305 := Aside0.mk (hbox); have GW305 := Aside0.mk (bs_ : w.heap.size ≤ gb305); have GE305 := Aside0.mk (bs_ : w.heap.size ≤ gb305); replace HB := Aside0.mk (below_step b1_ hb); clear hb hbox hg; have hcz4_0 := cl_ (.int .i64 a0_0) BK305.out 0; have hcz4_1 := cl_ (.string a0_1) BK305.out 1; have hcz4_2 := cl_ (.string a0_2) BK305.out 2; have hfz4_0 := blk_frozen BK305.out 0; have hfz4_1 := blk_frozen BK305.out 1; have hfz4_2 := blk_frozen BK305.out 2))
  go_ret
  exact ⟨e2_, by have G0 := GE305; exact z10_⟩
 rw [if_neg c2] at H
 have c2b0 : decide (9000 < (a0_1.size : Int)) = false := decide_eq_false c2
 have c2b1 : decide (9000 < a0_1.size) = false := decide_eq_false (by omega)
 clear c2
 obtain rfl := Option.some.inj H
 go_enter Tryd.func8, Tryd.ntmps8
 go_wp2_with (first | ((with_reducible refine gate_dst (N := 1) rfl ?_); (try (refine gate_guard (by rfl) ?_; dsimp only)); refine box_event r1_ (N := 1) r1_ (cs := #[.int .i64 a0_0, .string a0_1, .string a0_2]) (t := 31) r2_ ?_; intro gb305 hg w5 hbox hb; have BK305 := Aside0.mk (hbox); have GW305 := Aside0.mk (bs_ : w.heap.size ≤ gb305); have GE305 := Aside0.mk (bs_ : w.heap.size ≤ gb305); replace HB := Aside0.mk (below_step b1_ hb); clear hb hbox hg; have hcz6_0 := cl_ (.int .i64 a0_0) BK305.out 0; have hcz6_1 := cl_ (.string a0_1) BK305.out 1; have hcz6_2 := cl_ (.string a0_2) BK305.out 2; have hfz6_0 := blk_frozen BK305.out 0; have hfz6_1 := blk_frozen BK305.out 1; have hfz6_2 := blk_frozen BK305.out 2))
 go_ret
 exact ⟨e2_, by have G0 := GE305; exact z10_⟩
def rhizomeref01_May.f (a0 : Int) : Option (Bool) := if a0 ≥ 0 then (if a0 ≤ 1114111 then (if a0 < 55296 then (some true) else (some (decide (a0 > 57343)))) else (some false)) else (some false)
theorem rhizomeref01_May.calls (a0 : Int) (r : Bool) (w : World) (h : rhizomeref01_May.f a0 = some r) :
  Calls Tryd.prog 75 #[.int .i64 a0] w fun e w' => e = .returned (.bool r) ∧ Drawn0 w w' := by
 have H := h
 clear h
 unfold rhizomeref01_May.f at H
 by_cases c2 : a0 ≥ 0
 ·rw [if_pos c2] at H
  have c2b0 : decide (0 ≤ a0) = true := decide_eq_true c2
  clear c2
  by_cases c3 : a0 ≤ 1114111
  ·rw [if_pos c3] at H
   have c3b0 := decide_eq_true c3
   clear c3
   by_cases c4 : a0 < 55296
   ·rw [if_pos c4] at H
    have c4b0 := decide_eq_true c4
    clear c4
    obtain rfl := Option.some.inj H
    go_enter Tryd.func75, Tryd.ntmps75
    go_wp2
    go_ret
    exact ⟨e1_, z4_⟩
   rw [if_neg c4] at H
   have c4b0 := decide_eq_false c4
   clear c4
   obtain rfl := Option.some.inj H
   go_enter Tryd.func75, Tryd.ntmps75
   go_wp2
   go_ret
   exact ⟨e1_, z4_⟩
  rw [if_neg c3] at H
  have c3b0 := decide_eq_false c3
  clear c3
  obtain rfl := Option.some.inj H
  go_enter Tryd.func75, Tryd.ntmps75
  go_wp2
  go_ret
  exact ⟨e1_, z4_⟩
 rw [if_neg c2] at H
 have c2b0 : decide (0 ≤ a0) = false := decide_eq_false c2
 clear c2
 obtain rfl := Option.some.inj H
 go_enter Tryd.func75, Tryd.ntmps75
 go_wp2
 go_ret
 exact ⟨e1_, z4_⟩
def rhizomeref01_Put.f (a0 : Int) : Option (List Int) := if a0 ≤ 127 then (some (([(a0) % 256] : List Int))) else (if a0 ≤ 2047 then (some (([(wrap64 (192 + (wrap64 (Int.tdiv a0 64)))) % 256, (wrap64 (128 + (Int.tmod a0 64))) % 256] : List Int))) else (if a0 ≤ 65535 then (some (([(wrap64 (224 + (wrap64 (Int.tdiv a0 4096)))) % 256, (wrap64 (128 + (Int.tmod (wrap64 (Int.tdiv a0 64)) 64))) % 256, (wrap64 (128 + (Int.tmod a0 64))) % 256] : List Int))) else (some (([(wrap64 (240 + (wrap64 (Int.tdiv a0 262144)))) % 256, (wrap64 (128 + (Int.tmod (wrap64 (Int.tdiv a0 4096)) 64))) % 256, (wrap64 (128 + (Int.tmod (wrap64 (Int.tdiv a0 64)) 64))) % 256, (wrap64 (128 + (Int.tmod a0 64))) % 256] : List Int)))))
theorem rhizomeref01_Put.calls (a0 : Int) (r : List Int) (w : World) (h : rhizomeref01_Put.f a0 = some r) :
  Calls Tryd.prog 76 #[.int .i64 a0] w fun e w' => ∃ v0_ : Value, e = .returned (v0_) ∧ Kd.R (Kd.int .u8) 5 w' w.heap.size (fun _ => True) v0_ r ∧ Below w.heap.size w w' := by
 have HB := Aside0.mk (Below.refl w.heap.size w)
 have H := h
 clear h
 unfold rhizomeref01_Put.f at H
 by_cases c2 : a0 ≤ 127
 ·rw [if_pos c2] at H
  have c2b0 := decide_eq_true c2
  clear c2
  obtain ⟨y306, hy306⟩ : ∃ y_ : List Int, y_ = (([(a0) % 256] : List Int)) := ⟨_, rfl⟩
  replace H : (some y306) = some r := by first | (rw [hy306]; with_reducible exact H) | (have H2_ := (Option.bind_some _ _).symm.trans H; rw [hy306]; with_reducible exact H2_) | (have H2_ := (Option.bind_some _ _).symm.trans H; with_reducible exact H2_) | with_reducible exact H | (rw [hy306]; exact H) | exact H
  have Ny306 := Aside0.mk hy306
  clear hy306
  obtain rfl := Option.some.inj H
  go_enter Tryd.func76, Tryd.ntmps76
  go_wp2_with (first | ((with_reducible refine gate_dst (N := 7) rfl ?_); refine Kd.R_lit (Kd.int .u8) _ 5 ?hg (N := 7) ?hd (xs := ([(a0) % 256] : List Int)) (inner := [.int .u8 ((a0) % 256)]) (ok := fun _ => True) (okp := fun _ => True) ?hr ?hp (fun _ hk => hk) trivial (Below.refl _ _) (Nat.le_refl _) (by simp) ?_; (case hd => rfl); (case hg => rfl); (case hr => first | (go_simp; done) | (go_simp; rfl)); (case hp => exact (Reps.one (show Kd.M (Kd.int .u8) _ _ _ ((a0) % 256) [.int .u8 ((a0) % 256)] from rfl) (Reps.none _ _))); intro v307 w3 ho4 hb hg_ hnew_; clear hg_ hnew_; (first | rw [← Ny306.out] at ho4 | (simp only [Int.reduceToNat] at ho4; rw [← Ny306.out] at ho4)); have HO308 := Aside0.mk (Kd.R_lower ho4 (below_size b1_)); replace HB := Aside0.mk (below_step b1_ hb); clear hb ho4))
  go_ret
  exact ⟨_, e2_, by have G0 := HO308; exact z1_, b1_⟩
 rw [if_neg c2] at H
 have c2b0 := decide_eq_false c2
 clear c2
 by_cases c5 : a0 ≤ 2047
 ·rw [if_pos c5] at H
  have c5b0 := decide_eq_true c5
  clear c5
  obtain ⟨y309, hy309⟩ : ∃ y_ : List Int, y_ = (([(wrap64 (192 + (wrap64 (Int.tdiv a0 64)))) % 256, (wrap64 (128 + (Int.tmod a0 64))) % 256] : List Int)) := ⟨_, rfl⟩
  replace H : (some y309) = some r := by first | (rw [hy309]; with_reducible exact H) | (have H2_ := (Option.bind_some _ _).symm.trans H; rw [hy309]; with_reducible exact H2_) | (have H2_ := (Option.bind_some _ _).symm.trans H; with_reducible exact H2_) | with_reducible exact H | (rw [hy309]; exact H) | exact H
  have Ny309 := Aside0.mk hy309
  clear hy309
  obtain rfl := Option.some.inj H
  go_enter Tryd.func76, Tryd.ntmps76
  go_wp2_with (first | ((with_reducible refine gate_dst (N := 18) rfl ?_); refine Kd.R_lit (Kd.int .u8) _ 5 ?hg (N := 18) ?hd (xs := ([(wrap64 (192 + (wrap64 (Int.tdiv a0 64)))) % 256, (wrap64 (128 + (Int.tmod a0 64))) % 256] : List Int)) (inner := [.int .u8 ((wrap64 (192 + (wrap64 (Int.tdiv a0 64)))) % 256), .int .u8 ((wrap64 (128 + (Int.tmod a0 64))) % 256)]) (ok := fun _ => True) (okp := fun _ => True) ?hr ?hp (fun _ hk => hk) trivial (Below.refl _ _) (Nat.le_refl _) (by simp) ?_; (case hd => rfl); (case hg => rfl); (case hr => first | (go_simp; done) | (go_simp; rfl)); (case hp => exact (Reps.one (show Kd.M (Kd.int .u8) _ _ _ ((wrap64 (192 + (wrap64 (Int.tdiv a0 64)))) % 256) [.int .u8 ((wrap64 (192 + (wrap64 (Int.tdiv a0 64)))) % 256)] from rfl) (Reps.one (show Kd.M (Kd.int .u8) _ _ _ ((wrap64 (128 + (Int.tmod a0 64))) % 256) [.int .u8 ((wrap64 (128 + (Int.tmod a0 64))) % 256)] from rfl) (Reps.none _ _)))); intro v310 w6 ho7 hb hg_ hnew_; clear hg_ hnew_; (first | rw [← Ny309.out] at ho7 | (simp only [Int.reduceToNat] at ho7; rw [← Ny309.out] at ho7)); have HO311 := Aside0.mk (Kd.R_lower ho7 (below_size b1_)); replace HB := Aside0.mk (below_step b1_ hb); clear hb ho7))
  go_ret
  exact ⟨_, e2_, by have G0 := HO311; exact z1_, b1_⟩
 rw [if_neg c5] at H
 have c5b0 := decide_eq_false c5
 clear c5
 by_cases c8 : a0 ≤ 65535
 ·rw [if_pos c8] at H
  have c8b0 := decide_eq_true c8
  clear c8
  obtain ⟨y312, hy312⟩ : ∃ y_ : List Int, y_ = (([(wrap64 (224 + (wrap64 (Int.tdiv a0 4096)))) % 256, (wrap64 (128 + (Int.tmod (wrap64 (Int.tdiv a0 64)) 64))) % 256, (wrap64 (128 + (Int.tmod a0 64))) % 256] : List Int)) := ⟨_, rfl⟩
  replace H : (some y312) = some r := by first | (rw [hy312]; with_reducible exact H) | (have H2_ := (Option.bind_some _ _).symm.trans H; rw [hy312]; with_reducible exact H2_) | (have H2_ := (Option.bind_some _ _).symm.trans H; with_reducible exact H2_) | with_reducible exact H | (rw [hy312]; exact H) | exact H
  have Ny312 := Aside0.mk hy312
  clear hy312
  obtain rfl := Option.some.inj H
  go_enter Tryd.func76, Tryd.ntmps76
  go_wp2_with (first | ((with_reducible refine gate_dst (N := 34) rfl ?_); refine Kd.R_lit (Kd.int .u8) _ 5 ?hg (N := 34) ?hd (xs := ([(wrap64 (224 + (wrap64 (Int.tdiv a0 4096)))) % 256, (wrap64 (128 + (Int.tmod (wrap64 (Int.tdiv a0 64)) 64))) % 256, (wrap64 (128 + (Int.tmod a0 64))) % 256] : List Int)) (inner := [.int .u8 ((wrap64 (224 + (wrap64 (Int.tdiv a0 4096)))) % 256), .int .u8 ((wrap64 (128 + (Int.tmod (wrap64 (Int.tdiv a0 64)) 64))) % 256), .int .u8 ((wrap64 (128 + (Int.tmod a0 64))) % 256)]) (ok := fun _ => True) (okp := fun _ => True) ?hr ?hp (fun _ hk => hk) trivial (Below.refl _ _) (Nat.le_refl _) (by simp) ?_; (case hd => rfl); (case hg => rfl); (case hr => first | (go_simp; done) | (go_simp; rfl)); (case hp => exact (Reps.one (show Kd.M (Kd.int .u8) _ _ _ ((wrap64 (224 + (wrap64 (Int.tdiv a0 4096)))) % 256) [.int .u8 ((wrap64 (224 + (wrap64 (Int.tdiv a0 4096)))) % 256)] from rfl) (Reps.one (show Kd.M (Kd.int .u8) _ _ _ ((wrap64 (128 + (Int.tmod (wrap64 (Int.tdiv a0 64)) 64))) % 256) [.int .u8 ((wrap64 (128 + (Int.tmod (wrap64 (Int.tdiv a0 64)) 64))) % 256)] from rfl) (Reps.one (show Kd.M (Kd.int .u8) _ _ _ ((wrap64 (128 + (Int.tmod a0 64))) % 256) [.int .u8 ((wrap64 (128 + (Int.tmod a0 64))) % 256)] from rfl) (Reps.none _ _))))); intro v313 w9 ho10 hb hg_ hnew_; clear hg_ hnew_; (first | rw [← Ny312.out] at ho10 | (simp only [Int.reduceToNat] at ho10; rw [← Ny312.out] at ho10)); have HO314 := Aside0.mk (Kd.R_lower ho10 (below_size b1_)); replace HB := Aside0.mk (below_step b1_ hb); clear hb ho10))
  go_ret
  exact ⟨_, e2_, by have G0 := HO314; exact z1_, b1_⟩
 rw [if_neg c8] at H
 have c8b0 := decide_eq_false c8
 clear c8
 obtain ⟨y315, hy315⟩ : ∃ y_ : List Int, y_ = (([(wrap64 (240 + (wrap64 (Int.tdiv a0 262144)))) % 256, (wrap64 (128 + (Int.tmod (wrap64 (Int.tdiv a0 4096)) 64))) % 256, (wrap64 (128 + (Int.tmod (wrap64 (Int.tdiv a0 64)) 64))) % 256, (wrap64 (128 + (Int.tmod a0 64))) % 256] : List Int)) := ⟨_, rfl⟩
 replace H : (some y315) = some r := by first | (rw [hy315]; with_reducible exact H) | (have H2_ := (Option.bind_some _ _).symm.trans H; rw [hy315]; with_reducible exact H2_) | (have H2_ := (Option.bind_some _ _).symm.trans H; with_reducible exact H2_) | with_reducible exact H | (rw [hy315]; exact H) | exact H
 have Ny315 := Aside0.mk hy315
 clear hy315
 obtain rfl := Option.some.inj H
 go_enter Tryd.func76, Tryd.ntmps76
 go_wp2_with (first | ((with_reducible refine gate_dst (N := 53) rfl ?_); refine Kd.R_lit (Kd.int .u8) _ 5 ?hg (N := 53) ?hd (xs := ([(wrap64 (240 + (wrap64 (Int.tdiv a0 262144)))) % 256, (wrap64 (128 + (Int.tmod (wrap64 (Int.tdiv a0 4096)) 64))) % 256, (wrap64 (128 + (Int.tmod (wrap64 (Int.tdiv a0 64)) 64))) % 256, (wrap64 (128 + (Int.tmod a0 64))) % 256] : List Int)) (inner := [.int .u8 ((wrap64 (240 + (wrap64 (Int.tdiv a0 262144)))) % 256), .int .u8 ((wrap64 (128 + (Int.tmod (wrap64 (Int.tdiv a0 4096)) 64))) % 256), .int .u8 ((wrap64 (128 + (Int.tmod (wrap64 (Int.tdiv a0 64)) 64))) % 256), .int .u8 ((wrap64 (128 + (Int.tmod a0 64))) % 256)]) (ok := fun _ => True) (okp := fun _ => True) ?hr ?hp (fun _ hk => hk) trivial (Below.refl _ _) (Nat.le_refl _) (by simp) ?_; (case hd => rfl); (case hg => rfl); (case hr => first | (go_simp; done) | (go_simp; rfl)); (case hp => exact (Reps.one (show Kd.M (Kd.int .u8) _ _ _ ((wrap64 (240 + (wrap64 (Int.tdiv a0 262144)))) % 256) [.int .u8 ((wrap64 (240 + (wrap64 (Int.tdiv a0 262144)))) % 256)] from rfl) (Reps.one (show Kd.M (Kd.int .u8) _ _ _ ((wrap64 (128 + (Int.tmod (wrap64 (Int.tdiv a0 4096)) 64))) % 256) [.int .u8 ((wrap64 (128 + (Int.tmod (wrap64 (Int.tdiv a0 4096)) 64))) % 256)] from rfl) (Reps.one (show Kd.M (Kd.int .u8) _ _ _ ((wrap64 (128 + (Int.tmod (wrap64 (Int.tdiv a0 64)) 64))) % 256) [.int .u8 ((wrap64 (128 + (Int.tmod (wrap64 (Int.tdiv a0 64)) 64))) % 256)] from rfl) (Reps.one (show Kd.M (Kd.int .u8) _ _ _ ((wrap64 (128 + (Int.tmod a0 64))) % 256) [.int .u8 ((wrap64 (128 + (Int.tmod a0 64))) % 256)] from rfl) (Reps.none _ _)))))); intro v316 w11 ho12 hb hg_ hnew_; clear hg_ hnew_; (first | rw [← Ny315.out] at ho12 | (simp only [Int.reduceToNat] at ho12; rw [← Ny315.out] at ho12)); have HO317 := Aside0.mk (Kd.R_lower ho12 (below_size b1_)); replace HB := Aside0.mk (below_step b1_ hb); clear hb ho12))
 go_ret
 exact ⟨_, e2_, by have G0 := HO317; exact z1_, b1_⟩
end Go.Proofs.YtpbphelaeleikaaDoor.PMean

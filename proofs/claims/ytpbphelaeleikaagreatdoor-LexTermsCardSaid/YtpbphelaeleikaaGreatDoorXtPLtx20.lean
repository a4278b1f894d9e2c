import Derived.Test.YtpbphelaeleikaaGreatDoorXtPLtx0
namespace Go.Proofs.YtpbphelaeleikaaGreatDoor.PLt
open Go.RowKit Go.Proofs.YtpbphelaeleikaaGreatDoorW.PrintWords Go.Proofs.YtpbphelaeleikaaGreatDoorW.PrintLast Go.Proofs.YtpbphelaeleikaaGreatDoorW.PrintMore
attribute [local go_sem] max2_int min2_int max_two min_two max_three min_three max_four min_four
set_option linter.unusedVariables false
set_option linter.unusedSimpArgs false
set_option maxHeartbeats 8000000
set_option maxRecDepth 100000
mutual
def g4_Word.j0 : Nat → ByteArray → Bool → Int → ByteArray → Int → ByteArray → ByteArray → Int → Option (Bool)
 | 0, _, _, _, _, _, _, _, _ => none
 | k + 1, x1, x18, x435000, x435001, x435002, x435003, x435004, x435005 => if x18 = true then (some false) else (g4_Word.l0 k x1 0 x435000 x435001 x435002 x435003 x435004 x435005)
def g4_Word.l0 : Nat → ByteArray → Int → Int → ByteArray → Int → ByteArray → ByteArray → Int → Option (Bool)
 | 0, _, _, _, _, _, _, _, _ => none
 | k + 1, x1, x5, x435000, x435001, x435002, x435003, x435004, x435005 => if x5 < (x1.size : Int) then (if 0 ≤ x5 then (if x5 < (x435001.size : Int) then (if (bt x435001 x5) ≥ 65 then (g4_Word.j2 k x1 x5 (bt x435001 x5) (bt x1 x5) (decide ((bt x435001 x5) ≤ 90)) x435000 x435001 x435002 x435003 x435004 x435005) else (g4_Word.j2 k x1 x5 (bt x435001 x5) (bt x1 x5) false x435000 x435001 x435002 x435003 x435004 x435005)) else (none)) else (none)) else (some true)
def g4_Word.j2 : Nat → ByteArray → Int → Int → Int → Bool → Int → ByteArray → Int → ByteArray → ByteArray → Int → Option (Bool)
 | 0, _, _, _, _, _, _, _, _, _, _, _ => none
 | k + 1, x1, x5, x6, x7, x37, x435000, x435001, x435002, x435003, x435004, x435005 => if x37 = true then (g4_Word.j3 k x1 x5 ((x6 + 32) % 256) x7 x435000 x435001 x435002 x435003 x435004 x435005) else (g4_Word.j3 k x1 x5 x6 x7 x435000 x435001 x435002 x435003 x435004 x435005)
def g4_Word.j3 : Nat → ByteArray → Int → Int → Int → Int → ByteArray → Int → ByteArray → ByteArray → Int → Option (Bool)
 | 0, _, _, _, _, _, _, _, _, _, _ => none
 | k + 1, x1, x5, x6, x7, x435000, x435001, x435002, x435003, x435004, x435005 => if x7 ≥ 65 then (g4_Word.j4 k x1 x5 x6 x7 (decide (x7 ≤ 90)) x435000 x435001 x435002 x435003 x435004 x435005) else (g4_Word.j4 k x1 x5 x6 x7 false x435000 x435001 x435002 x435003 x435004 x435005)
def g4_Word.j4 : Nat → ByteArray → Int → Int → Int → Bool → Int → ByteArray → Int → ByteArray → ByteArray → Int → Option (Bool)
 | 0, _, _, _, _, _, _, _, _, _, _, _ => none
 | k + 1, x1, x5, x6, x7, x45, x435000, x435001, x435002, x435003, x435004, x435005 => if x45 = true then (if x6 = ((x7 + 32) % 256) then (g4_Word.l0 k x1 (wrap64 (x5 + 1)) x435000 x435001 x435002 x435003 x435004 x435005) else (some false)) else (if x6 = x7 then (g4_Word.l0 k x1 (wrap64 (x5 + 1)) x435000 x435001 x435002 x435003 x435004 x435005) else (some false))
end
def g4_Word.f (k : Nat) (a0_0 : Int) (a0_1 : ByteArray) (a0_2 : Int) (a0_3 : ByteArray) (a0_4 : ByteArray) (a0_5 : Int) (a1 : ByteArray) : Option (Bool) := if a0_0 = 6 then (g4_Word.j0 k a1 ((a0_1.size : Int) != (a1.size : Int)) a0_0 a0_1 a0_2 a0_3 a0_4 a0_5) else (g4_Word.j0 k a1 true a0_0 a0_1 a0_2 a0_3 a0_4 a0_5)
theorem g4_Word.calls (k : Nat) (a0_0 : Int) (a0_1 : ByteArray) (a0_2 : Int) (a0_3 : ByteArray) (a0_4 : ByteArray) (a0_5 : Int) (a1 : ByteArray) (r : Bool) (w : World) (h : g4_Word.f k a0_0 a0_1 a0_2 a0_3 a0_4 a0_5 a1 = some r) :
  Calls Tryz.prog 13 #[.agg #[.int .i64 a0_0, .string a0_1, .int .i64 a0_2, .string a0_3, .string a0_4, .int .i64 a0_5], .string a1] w fun e w' => e = .returned (.bool r) ∧ Below w.heap.size w w' := by
 have hu43 := Tryz.underlying43
 have HB := Ad.mk (Below.refl w.heap.size w)
 have H := h
 clear h
 unfold g4_Word.f at H
 have HC3 := Ad.mk H
 clear H
 go_enter Tryz.func13, Tryz.ntmps13
 go_upto_region 1 with (first | ((with_reducible refine gate_dst (N := 2) rfl ?_); (try (refine gate_guard (by rfl) ?_; dsimp only)); refine box_event r1_ (N := 2) r1_ (cs := #[.int .i64 a0_0, .string a0_1, .int .i64 a0_2, .string a0_3, .string a0_4, .int .i64 a0_5]) (t := 43) r2_ ?_; intro gb434 hg w4 hbox hb; have BK434 := Ad.mk (hbox); have GW434 := Ad.mk (bs_ : w.heap.size ≤ gb434); have GE434 := Ad.mk (bs_ : w.heap.size ≤ gb434); replace HB := Ad.mk (below_step b1_ hb); clear hb hbox hg))
 repeat (go_quiet (first | ((with_reducible refine gate_dst (N := 2) rfl ?_); (try (refine gate_guard (by rfl) ?_; dsimp only)); refine box_event r1_ (N := 2) r1_ (cs := #[.int .i64 a0_0, .string a0_1, .int .i64 a0_2, .string a0_3, .string a0_4, .int .i64 a0_5]) (t := 43) r2_ ?_; intro gb434 hg w4 hbox hb; have BK434 := Ad.mk (hbox); have GW434 := Ad.mk (bs_ : w.heap.size ≤ gb434); have GE434 := Ad.mk (bs_ : w.heap.size ≤ gb434); replace HB := Ad.mk (below_step b1_ hb); clear hb hbox hg)); go_upto_region 1 with (first | ((with_reducible refine gate_dst (N := 2) rfl ?_); (try (refine gate_guard (by rfl) ?_; dsimp only)); refine box_event r1_ (N := 2) r1_ (cs := #[.int .i64 a0_0, .string a0_1, .int .i64 a0_2, .string a0_3, .string a0_4, .int .i64 a0_5]) (t := 43) r2_ ?_; intro gb434 hg w4 hbox hb; have BK434 := Ad.mk (hbox); have GW434 := Ad.mk (bs_ : w.heap.size ≤ gb434); have GE434 := Ad.mk (bs_ : w.heap.size ≤ gb434); replace HB := Ad.mk (below_step b1_ hb); clear hb hbox hg)))
 (try simp only [Act.put, List.setIfInBounds_toArray, List.set_cons_zero, List.set_cons_succ])
 go_cut [18] (fun v18 wc => ∃ (kq : Nat) (x18_2 : Bool), v18 = .bool x18_2 ∧ Ad (g4_Word.j0 kq a1 x18_2 a0_0 a0_1 a0_2 a0_3 a0_4 a0_5 = some r) ∧ Ad (kq ≤ k) ∧ Ad (wc.heap[gb434]? = some (.cells #[.int .i64 a0_0, .string a0_1, .int .i64 a0_2, .string a0_3, .string a0_4, .int .i64 a0_5] 43 (0, 0))) ∧ Ad (Below w.heap.size w wc))
 case first =>
  have H := HC3.out
  clear HC3
  by_cases c5 : a0_0 = 6
  ·rw [if_pos c5] at H
   have c5b0 := beq_iff_eq.mpr c5
   have c5b1 := bne_eq_false_iff_eq.mpr c5
   clear c5
   (first | rw [c5b0] | (simp only [i64_w, i32_w]; rw [c5b0]) | skip)
   have H' := Ad.mk H
   clear H
   obtain ⟨⟨hcz6_0, hcz6_1, hcz6_2, hcz6_3, hcz6_4, hcz6_5⟩, hfz6_0, hfz6_1, hfz6_2, hfz6_3, hfz6_4, hfz6_5⟩ := c6_ BK434.out
   go_wp2
   repeat (go_quiet (fail); try go_wp2)
   go_meet
   case rel => exact ⟨_, (((a0_1.size : Int) != (a1.size : Int))), e1_, H', ⟨z12_⟩, ⟨by refine bd_ ?_; exact BK434.out⟩, ⟨by have G0 := GE434; exact z7_⟩⟩
  rw [if_neg c5] at H
  have c5b0 := beq_eq_false_iff_ne.mpr c5
  have c5b1 := bne_iff_ne.mpr c5
  (first | rw [c5b0] | (simp only [i64_w, i32_w]; rw [c5b0]) | skip)
  have H' := Ad.mk H
  clear H
  obtain ⟨⟨hcz7_0, hcz7_1, hcz7_2, hcz7_3, hcz7_4, hcz7_5⟩, hfz7_0, hfz7_1, hfz7_2, hfz7_3, hfz7_4, hfz7_5⟩ := c6_ BK434.out
  go_wp2
  repeat (go_quiet (fail); try go_wp2)
  go_meet
  case rel => exact ⟨_, (true), e1_, H', ⟨z12_⟩, ⟨by refine bd_ ?_; exact BK434.out⟩, ⟨by have G0 := GE434; exact z7_⟩⟩
 case rest =>
  clear HC3
  obtain ⟨kq, x18_2, rfl, HA, HJ2, BK434, HB⟩ := hcut
  cases kq with
  | zero => exact absurd HA.out (by simp [g4_Word.j0])
  | succ kj2 =>
   have H := HA.out
   clear HA
   simp only [g4_Word.j0] at H
   by_cases c8 : x18_2 = true
   ·subst c8
    rw [if_pos rfl] at H
    obtain rfl := Option.some.inj H
    go_wp2
    repeat (go_quiet (fail); try go_wp2)
    go_ret
    exact ⟨e2_, by have G0 := GE434; exact z7_⟩
   replace c8 := Bool.eq_false_iff.mpr c8
   subst c8
   rw [if_neg (show ¬ (false = true) by decide)] at H
   have H' := Ad.mk H
   clear H
   go_wp2
   repeat (go_quiet (fail); try go_wp2)
   go_loopg [5] kj2 (fun kq v5 w' => ∃ (x5_2 : Int), v5 = .int .i64 x5_2 ∧ Ad (g4_Word.l0 kq a1 x5_2 a0_0 a0_1 a0_2 a0_3 a0_4 a0_5 = some r) ∧ Ad (kq ≤ kj2) ∧ Ad (w'.heap[gb434]? = some (.cells #[.int .i64 a0_0, .string a0_1, .int .i64 a0_2, .string a0_3, .string a0_4, .int .i64 a0_5] 43 (0, 0))) ∧ Ad (Below w.heap.size w w'))
   case atStart => exact ⟨(0), e1_, H', ⟨Nat.le_refl _⟩, ⟨by refine bd_ ?_; exact BK434.out⟩, ⟨by have G0 := GE434; exact z7_⟩⟩
   case round =>
    clear H'
    obtain ⟨x5_2, rfl, HA, HK2, BK434, HB⟩ := hrel
    cases gk with
    | zero => exact absurd HA.out (by simp [g4_Word.l0])
    | succ k2 =>
     have H := HA.out
     clear HA
     simp only [g4_Word.l0] at H
     by_cases c9 : x5_2 < (a1.size : Int)
     ·rw [if_pos c9] at H
      have c9b0 := decide_eq_true c9
      clear c9
      by_cases c10 : 0 ≤ x5_2
      ·rw [if_pos c10] at H
       have c10b0 := decide_eq_true c10
       clear c10
       by_cases c11 : x5_2 < (a0_1.size : Int)
       ·rw [if_pos c11] at H
        have c11b0 := decide_eq_true c11
        clear c11
        have HC14 := Ad.mk H
        clear H
        obtain ⟨⟨hcz15_0, hcz15_1, hcz15_2, hcz15_3, hcz15_4, hcz15_5⟩, hfz15_0, hfz15_1, hfz15_2, hfz15_3, hfz15_4, hfz15_5⟩ := c6_ BK434.out
        have p12 : 0 ≤ (x5_2 : Int) := of_decide_eq_true a1_
        have q12 : x5_2 < (a0_1.size : Int) := of_decide_eq_true a1_
        have hx12 := bt_at a0_1 x5_2
        replace p12 := eq_true p12
        replace q12 := eq_true q12
        have p13 : 0 ≤ (x5_2 : Int) := of_decide_eq_true a1_
        have q13 : x5_2 < (a1.size : Int) := of_decide_eq_true a1_
        have hx13 := bt_at a1 x5_2
        replace p13 := eq_true p13
        replace q13 := eq_true q13
        go_upto_region 7 with (fail)
        repeat (go_quiet (fail); go_upto_region 7 with (fail))
        go_cut [37] (fun v37 wc => ∃ (kq : Nat) (x37_13 : Bool), v37 = .bool x37_13 ∧ Ad (g4_Word.j2 kq a1 x5_2 (bt a0_1 x5_2) (bt a1 x5_2) x37_13 a0_0 a0_1 a0_2 a0_3 a0_4 a0_5 = some r) ∧ Ad (kq ≤ k2) ∧ Ad (wc.heap[gb434]? = some (.cells #[.int .i64 a0_0, .string a0_1, .int .i64 a0_2, .string a0_3, .string a0_4, .int .i64 a0_5] 43 (0, 0))) ∧ Ad (Below w.heap.size w wc))
        case first =>
         have H := HC14.out
         clear HC14
         by_cases c16 : (bt a0_1 x5_2) ≥ 65
         ·rw [if_pos c16] at H
          have c16b0 : decide (65 ≤ (bt a0_1 x5_2)) = true := decide_eq_true c16
          clear c16
          (first | rw [c16b0] | (simp only [i64_w, i32_w]; rw [c16b0]) | skip)
          have H' := Ad.mk H
          clear H
          go_wp2
          repeat (go_quiet (fail); try go_wp2)
          go_meet
          case rel => exact ⟨_, (decide ((bt a0_1 x5_2) ≤ 90)), e1_, H', ⟨by have := HJ2.out; have := HK2.out; first | omega | exact Nat.le_refl _⟩, ⟨by refine bd_ ?_; exact BK434.out⟩, ⟨by have G0 := GE434; exact z7_⟩⟩
         rw [if_neg c16] at H
         have c16b0 : decide (65 ≤ (bt a0_1 x5_2)) = false := decide_eq_false c16
         clear c16
         (first | rw [c16b0] | (simp only [i64_w, i32_w]; rw [c16b0]) | skip)
         have H' := Ad.mk H
         clear H
         go_wp2
         repeat (go_quiet (fail); try go_wp2)
         go_meet
         case rel => exact ⟨_, (false), e1_, H', ⟨by have := HJ2.out; have := HK2.out; first | omega | exact Nat.le_refl _⟩, ⟨by refine bd_ ?_; exact BK434.out⟩, ⟨by have G0 := GE434; exact z7_⟩⟩
        case rest =>
         clear HC14
         try clear c5
         try clear c5b0
         try clear c5b1
         try clear c8
         try clear c9
         try clear c9b0
         try clear c10
         try clear c10b0
         try clear c11
         try clear c11b0
         try clear p12
         try clear q12
         try clear hx12
         try clear p13
         try clear q13
         try clear hx13
         try clear hcz15_0
         try clear hcz15_1
         try clear hcz15_2
         try clear hcz15_3
         try clear hcz15_4
         try clear hcz15_5
         try clear hcz6_0
         try clear hcz6_1
         try clear hcz6_2
         try clear hcz6_3
         try clear hcz6_4
         try clear hcz6_5
         try clear hcz7_0
         try clear hcz7_1
         try clear hcz7_2
         try clear hcz7_3
         try clear hcz7_4
         try clear hcz7_5
         try clear hfz15_0
         try clear hfz15_1
         try clear hfz15_2
         try clear hfz15_3
         try clear hfz15_4
         try clear hfz15_5
         try clear hfz6_0
         try clear hfz6_1
         try clear hfz6_2
         try clear hfz6_3
         try clear hfz6_4
         try clear hfz6_5
         try clear hfz7_0
         try clear hfz7_1
         try clear hfz7_2
         try clear hfz7_3
         try clear hfz7_4
         try clear hfz7_5
         try clear p12
         try clear p13
         try clear q12
         try clear q13
         obtain ⟨kq, x37_13, rfl, HA, HJ13, BK434, HB⟩ := hcut
         cases kq with
         | zero => exact absurd HA.out (by simp [g4_Word.j2])
         | succ kj13 =>
          have H := HA.out
          clear HA
          simp only [g4_Word.j2] at H
          have HC17 := Ad.mk H
          clear H
          go_upto_if 37 with (fail)
          repeat (go_quiet (fail); go_upto_if 37 with (fail))
          go_cut [6] (fun v6 wc => ∃ (kq : Nat) (x6_16 : Int), v6 = .int .u8 x6_16 ∧ Ad (g4_Word.j3 kq a1 x5_2 x6_16 (bt a1 x5_2) a0_0 a0_1 a0_2 a0_3 a0_4 a0_5 = some r) ∧ Ad (kq ≤ kj13) ∧ Ad (wc.heap[gb434]? = some (.cells #[.int .i64 a0_0, .string a0_1, .int .i64 a0_2, .string a0_3, .string a0_4, .int .i64 a0_5] 43 (0, 0))) ∧ Ad (Below w.heap.size w wc))
          case first =>
           have H := HC17.out
           clear HC17
           by_cases c18 : x37_13 = true
           ·subst c18
            rw [if_pos rfl] at H
            have H' := Ad.mk H
            clear H
            go_wp2
            repeat (go_quiet (fail); try go_wp2)
            go_meet
            case rel => exact ⟨_, (((bt a0_1 x5_2) + 32) % 256), e1_, H', ⟨z82_⟩, ⟨by refine bd_ ?_; exact BK434.out⟩, ⟨by have G0 := GE434; exact z7_⟩⟩
           replace c18 := Bool.eq_false_iff.mpr c18
           subst c18
           rw [if_neg (show ¬ (false = true) by decide)] at H
           have H' := Ad.mk H
           clear H
           go_wp2
           repeat (go_quiet (fail); try go_wp2)
           go_meet
           case rel => exact ⟨_, ((bt a0_1 x5_2)), e1_, H', ⟨z82_⟩, ⟨by refine bd_ ?_; exact BK434.out⟩, ⟨by have G0 := GE434; exact z7_⟩⟩
          case rest =>
           clear HC17
           try clear c5
           try clear c5b0
           try clear c5b1
           try clear c8
           try clear c9
           try clear c9b0
           try clear c10
           try clear c10b0
           try clear c11
           try clear c11b0
           try clear p12
           try clear q12
           try clear hx12
           try clear p13
           try clear q13
           try clear hx13
           try clear c16
           try clear c16b0
           try clear hcz15_0
           try clear hcz15_1
           try clear hcz15_2
           try clear hcz15_3
           try clear hcz15_4
           try clear hcz15_5
           try clear hcz6_0
           try clear hcz6_1
           try clear hcz6_2
           try clear hcz6_3
           try clear hcz6_4
           try clear hcz6_5
           try clear hcz7_0
           try clear hcz7_1
           try clear hcz7_2
           try clear hcz7_3
           try clear hcz7_4
           try clear hcz7_5
           try clear hfz15_0
           try clear hfz15_1
           try clear hfz15_2
           try clear hfz15_3
           try clear hfz15_4
           try clear hfz15_5
           try clear hfz6_0
           try clear hfz6_1
           try clear hfz6_2
           try clear hfz6_3
           try clear hfz6_4
           try clear hfz6_5
           try clear hfz7_0
           try clear hfz7_1
           try clear hfz7_2
           try clear hfz7_3
           try clear hfz7_4
           try clear hfz7_5
           try clear p12
           try clear p13
           try clear q12
           try clear q13
           obtain ⟨kq, x6_16, rfl, HA, HJ16, BK434, HB⟩ := hcut
           cases kq with
           | zero => exact absurd HA.out (by simp [g4_Word.j3])
           | succ kj16 =>
            have H := HA.out
            clear HA
            simp only [g4_Word.j3] at H
            have HC19 := Ad.mk H
            clear H
            go_upto_region 9 with (fail)
            repeat (go_quiet (fail); go_upto_region 9 with (fail))
            go_cut [45] (fun v45 wc => ∃ (kq : Nat) (x45_18 : Bool), v45 = .bool x45_18 ∧ Ad (g4_Word.j4 kq a1 x5_2 x6_16 (bt a1 x5_2) x45_18 a0_0 a0_1 a0_2 a0_3 a0_4 a0_5 = some r) ∧ Ad (kq ≤ kj16) ∧ Ad (wc.heap[gb434]? = some (.cells #[.int .i64 a0_0, .string a0_1, .int .i64 a0_2, .string a0_3, .string a0_4, .int .i64 a0_5] 43 (0, 0))) ∧ Ad (Below w.heap.size w wc))
            case first =>
             have H := HC19.out
             clear HC19
             by_cases c20 : (bt a1 x5_2) ≥ 65
             ·rw [if_pos c20] at H
              have c20b0 : decide (65 ≤ (bt a1 x5_2)) = true := decide_eq_true c20
              clear c20
              (first | rw [c20b0] | (simp only [i64_w, i32_w]; rw [c20b0]) | skip)
              have H' := Ad.mk H
              clear H
              go_wp2
              repeat (go_quiet (fail); try go_wp2)
              go_meet
              case rel => exact ⟨_, (decide ((bt a1 x5_2) ≤ 90)), e1_, H', ⟨z83_⟩, ⟨by refine bd_ ?_; exact BK434.out⟩, ⟨by have G0 := GE434; exact z7_⟩⟩
             rw [if_neg c20] at H
             have c20b0 : decide (65 ≤ (bt a1 x5_2)) = false := decide_eq_false c20
             clear c20
             (first | rw [c20b0] | (simp only [i64_w, i32_w]; rw [c20b0]) | skip)
             have H' := Ad.mk H
             clear H
             go_wp2
             repeat (go_quiet (fail); try go_wp2)
             go_meet
             case rel => exact ⟨_, (false), e1_, H', ⟨z83_⟩, ⟨by refine bd_ ?_; exact BK434.out⟩, ⟨by have G0 := GE434; exact z7_⟩⟩
            case rest =>
             clear HC19
             try clear c5
             try clear c5b0
             try clear c5b1
             try clear c8
             try clear c9
             try clear c9b0
             try clear c10
             try clear c10b0
             try clear c11
             try clear c11b0
             try clear p12
             try clear q12
             try clear hx12
             try clear p13
             try clear q13
             try clear hx13
             try clear c16
             try clear c16b0
             try clear c18
             try clear hcz15_0
             try clear hcz15_1
             try clear hcz15_2
             try clear hcz15_3
             try clear hcz15_4
             try clear hcz15_5
             try clear hcz6_0
             try clear hcz6_1
             try clear hcz6_2
             try clear hcz6_3
             try clear hcz6_4
             try clear hcz6_5
             try clear hcz7_0
             try clear hcz7_1
             try clear hcz7_2
             try clear hcz7_3
             try clear hcz7_4
             try clear hcz7_5
             try clear hfz15_0
             try clear hfz15_1
             try clear hfz15_2
             try clear hfz15_3
             try clear hfz15_4
             try clear hfz15_5
             try clear hfz6_0
             try clear hfz6_1
             try clear hfz6_2
             try clear hfz6_3
             try clear hfz6_4
             try clear hfz6_5
             try clear hfz7_0
             try clear hfz7_1
             try clear hfz7_2
             try clear hfz7_3
             try clear hfz7_4
             try clear hfz7_5
             try clear p12
             try clear p13
             try clear q12
             try clear q13
             obtain ⟨kq, x45_18, rfl, HA, HJ18, BK434, HB⟩ := hcut
             cases kq with
             | zero => exact absurd HA.out (by simp [g4_Word.j4])
             | succ kj18 =>
              have H := HA.out
              clear HA
              simp only [g4_Word.j4] at H
              by_cases c21 : x45_18 = true
              ·subst c21
               rw [if_pos rfl] at H
               by_cases c22 : x6_16 = (((bt a1 x5_2) + 32) % 256)
               ·rw [if_pos c22] at H
                have c22b0 := beq_iff_eq.mpr c22
                have c22b1 := bne_eq_false_iff_eq.mpr c22
                clear c22
                have H' := Ad.mk H
                clear H
                go_wp2
                repeat (go_quiet (fail); try go_wp2)
                go_roundg kj18
                case measure => have := HJ2.out; have := HK2.out; have := HJ13.out; have := HJ16.out; have := HJ18.out; omega
                case rel => exact ⟨(wrap64 (x5_2 + 1)), e1_, H', ⟨z84_⟩, ⟨by refine bd_ ?_; exact BK434.out⟩, ⟨by have G0 := GE434; exact z7_⟩⟩
               rw [if_neg c22] at H
               have c22b0 := beq_eq_false_iff_ne.mpr c22
               have c22b1 := bne_iff_ne.mpr c22
               obtain rfl := Option.some.inj H
               go_wp2
               repeat (go_quiet (fail); try go_wp2)
               go_ret
               exact ⟨e2_, by have G0 := GE434; exact z7_⟩
              replace c21 := Bool.eq_false_iff.mpr c21
              subst c21
              rw [if_neg (show ¬ (false = true) by decide)] at H
              by_cases c23 : x6_16 = (bt a1 x5_2)
              ·rw [if_pos c23] at H
               have c23b0 := beq_iff_eq.mpr c23
               have c23b1 := bne_eq_false_iff_eq.mpr c23
               clear c23
               have H' := Ad.mk H
               clear H
               go_wp2
               repeat (go_quiet (fail); try go_wp2)
               go_roundg kj18
               case measure => have := HJ2.out; have := HK2.out; have := HJ13.out; have := HJ16.out; have := HJ18.out; omega
               case rel => exact ⟨(wrap64 (x5_2 + 1)), e1_, H', ⟨z84_⟩, ⟨by refine bd_ ?_; exact BK434.out⟩, ⟨by have G0 := GE434; exact z7_⟩⟩
              rw [if_neg c23] at H
              have c23b0 := beq_eq_false_iff_ne.mpr c23
              have c23b1 := bne_iff_ne.mpr c23
              obtain rfl := Option.some.inj H
              go_wp2
              repeat (go_quiet (fail); try go_wp2)
              go_ret
              exact ⟨e2_, by have G0 := GE434; exact z7_⟩
       rw [if_neg c11] at H
       exact absurd H (by simp)
      rw [if_neg c10] at H
      exact absurd H (by simp)
     rw [if_neg c9] at H
     have c9b0 := decide_eq_false c9
     clear c9
     obtain rfl := Option.some.inj H
     go_wp2
     repeat (go_quiet (fail); try go_wp2)
     go_ret
     exact ⟨e2_, by have G0 := GE434; exact z7_⟩
end Go.Proofs.YtpbphelaeleikaaGreatDoor.PLt

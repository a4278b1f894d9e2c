import Derived.Test.YtpbphelaeleikaaGreatDoorXtPLtx0
import Derived.Test.YtpbphelaeleikaaGreatDoorXtPLtx8
import Derived.Test.YtpbphelaeleikaaGreatDoorXtPLtx10
import Derived.Test.YtpbphelaeleikaaGreatDoorXtPLtx11
import Derived.Test.YtpbphelaeleikaaGreatDoorXtPLtx12
import Derived.Test.YtpbphelaeleikaaGreatDoorXtPLtx13
namespace Go.Proofs.YtpbphelaeleikaaGreatDoor.PLt
open Go.RowKit Go.Proofs.YtpbphelaeleikaaGreatDoorW.PrintWords Go.Proofs.YtpbphelaeleikaaGreatDoorW.PrintLast Go.Proofs.YtpbphelaeleikaaGreatDoorW.PrintMore
attribute [local go_sem] max2_int min2_int max_two min_two max_three min_three max_four min_four
set_option linter.unusedVariables false
set_option linter.unusedSimpArgs false
set_option maxHeartbeats 8000000
set_option maxRecDepth 100000
mutual
def g4_One.l0 : Nat → ByteArray → Int → Int → Int → Int → ByteArray → Int → ByteArray → ByteArray → Int → Option (Int × ByteArray × Int × ByteArray × ByteArray × Int × Int)
 | 0, _, _, _, _, _, _, _, _, _, _ => none
 | k + 1, x0, x1, x7, x8, x286000, x286001, x286002, x286003, x286004, x286005 => (g4_marks.f).bind fun t286 => (if x8 < (t286.length : Int) then ((g4_marks.f).bind fun t289 => (if 0 ≤ x8 then (if x8 < (t289.length : Int) then (if (wrap64 ((x0.size : Int) - x1)) ≥ ((rdOf ByteArray.empty t289 x8).size : Int) then (if 0 ≤ x1 then (if x1 ≤ (wrap64 (x1 + ((rdOf ByteArray.empty t289 x8).size : Int))) then (if (wrap64 (x1 + ((rdOf ByteArray.empty t289 x8).size : Int))) ≤ (x0.size : Int) then (if (x0.extract (x1 : Int).toNat ((wrap64 (x1 + ((rdOf ByteArray.empty t289 x8).size : Int))) : Int).toNat).toList = (rdOf ByteArray.empty t289 x8).toList then (some (8, rdOf ByteArray.empty t289 x8, x286002, x286003, x286004, x286005, wrap64 (x1 + ((rdOf ByteArray.empty t289 x8).size : Int)))) else (g4_One.l0 k x0 x1 x7 (wrap64 (x8 + 1)) x286000 x286001 x286002 x286003 x286004 x286005)) else (none)) else (none)) else (none)) else (g4_One.l0 k x0 x1 x7 (wrap64 (x8 + 1)) x286000 x286001 x286002 x286003 x286004 x286005)) else (none)) else (none))) else (if x7 = 60 then ((g4_quoted.f k x0 x1 62 false).bind fun bt293 => ((g4_may.f k 1 x286001 1 bt293.1 (⟨#[]⟩ : ByteArray) x286005 bt293.2).bind fun bt295 => (some (bt295.1, bt295.2.1, bt295.2.2.1, bt295.2.2.2.1, bt295.2.2.2.2.1, bt295.2.2.2.2.2.1, bt295.2.2.2.2.2.2)))) else (if x7 = 95 then ((g4_ch.f x0 (wrap64 (x1 + 1))).bind fun t302 => (g4_One.j1 k x0 x1 x7 (t302 == 58) x286000 x286001 x286002 x286003 x286004 x286005)) else (g4_One.j1 k x0 x1 x7 false x286000 x286001 x286002 x286003 x286004 x286005))))
def g4_One.j1 : Nat → ByteArray → Int → Int → Bool → Int → ByteArray → Int → ByteArray → ByteArray → Int → Option (Int × ByteArray × Int × ByteArray × ByteArray × Int × Int)
 | 0, _, _, _, _, _, _, _, _, _, _ => none
 | k + 1, x0, x1, x7, x76, x286000, x286001, x286002, x286003, x286004, x286005 => if x76 = true then ((g4_word.f k x0 (wrap64 (x1 + 2))).bind fun t303 => (if 0 ≤ (wrap64 (x1 + 2)) then (if (wrap64 (x1 + 2)) ≤ t303 then (if t303 ≤ (x0.size : Int) then ((g4_may.f k 2 x286001 2 (x0.extract ((wrap64 (x1 + 2)) : Int).toNat (t303 : Int).toNat) (⟨#[]⟩ : ByteArray) x286005 t303).bind fun bt304 => (some (bt304.1, bt304.2.1, bt304.2.2.1, bt304.2.2.2.1, bt304.2.2.2.2.1, bt304.2.2.2.2.2.1, bt304.2.2.2.2.2.2))) else (none)) else (none)) else (none))) else (if x7 = 34 then ((g4_quoted.f k x0 x1 34 true).bind fun bt311 => (some (3, bt311.1, x286002, x286003, x286004, x286005, bt311.2))) else (if x7 = 64 then (g4_One.l1 k x0 x1 (wrap64 (x1 + 1)) x286000 x286001 x286002 x286003 x286004 x286005) else (if x7 = 63 then ((g4_word.f k x0 (wrap64 (x1 + 1))).bind fun t316 => (if 0 ≤ (wrap64 (x1 + 1)) then (if (wrap64 (x1 + 1)) ≤ t316 then (if t316 ≤ (x0.size : Int) then (if t316 = (wrap64 (x1 + 1)) then (some (5, x0.extract ((wrap64 (x1 + 1)) : Int).toNat (t316 : Int).toNat, x286002, x286003, x286004, x286005, (-1))) else (if t316 > (wrap64 (x1 + 33)) then (some (5, x0.extract ((wrap64 (x1 + 1)) : Int).toNat (t316 : Int).toNat, x286002, x286003, x286004, x286005, (-1))) else (some (5, x0.extract ((wrap64 (x1 + 1)) : Int).toNat (t316 : Int).toNat, x286002, x286003, x286004, x286005, t316)))) else (none)) else (none)) else (none))) else ((g4_named.f k x0 x1 x286000 x286001 x286002 x286003 x286004 x286005).bind fun bt317 => (some (bt317.1, bt317.2.1, bt317.2.2.1, bt317.2.2.2.1, bt317.2.2.2.2.1, bt317.2.2.2.2.2.1, bt317.2.2.2.2.2.2))))))
def g4_One.j3 : Nat → ByteArray → Int → Int → Int → ByteArray → Int → ByteArray → ByteArray → Int → Option (Int × ByteArray × Int × ByteArray × ByteArray × Int × Int)
 | 0, _, _, _, _, _, _, _, _, _ => none
 | k + 1, x0, x1, x15, x286000, x286001, x286002, x286003, x286004, x286005 => if 0 ≤ (wrap64 (x1 + 1)) then (if (wrap64 (x1 + 1)) ≤ x15 then (if x15 ≤ (x0.size : Int) then ((g2_May.f k 4 (⟨#[]⟩ : ByteArray) (x0.extract ((wrap64 (x1 + 1)) : Int).toNat (x15 : Int).toNat)).bind fun t315 => (if t315 = true then (some (4, x0.extract ((wrap64 (x1 + 1)) : Int).toNat (x15 : Int).toNat, x286002, x286003, x286004, x286005, x15)) else (some (4, x0.extract ((wrap64 (x1 + 1)) : Int).toNat (x15 : Int).toNat, x286002, x286003, x286004, x286005, (-1))))) else (none)) else (none)) else (none)
def g4_One.l1 : Nat → ByteArray → Int → Int → Int → ByteArray → Int → ByteArray → ByteArray → Int → Option (Int × ByteArray × Int × ByteArray × ByteArray × Int × Int)
 | 0, _, _, _, _, _, _, _, _, _ => none
 | k + 1, x0, x1, x15, x286000, x286001, x286002, x286003, x286004, x286005 => if x15 < (x0.size : Int) then (if 0 ≤ x15 then (if (bt x0 x15) ≥ 97 then (if (bt x0 x15) ≤ 122 then (g4_One.l1 k x0 x1 (wrap64 (x15 + 1)) x286000 x286001 x286002 x286003 x286004 x286005) else ((g2_Digit.f (bt x0 x15)).bind fun t313 => (if t313 = true then (g4_One.l1 k x0 x1 (wrap64 (x15 + 1)) x286000 x286001 x286002 x286003 x286004 x286005) else (if (bt x0 x15) = 45 then (g4_One.l1 k x0 x1 (wrap64 (x15 + 1)) x286000 x286001 x286002 x286003 x286004 x286005) else (g4_One.j3 k x0 x1 x15 x286000 x286001 x286002 x286003 x286004 x286005))))) else ((g2_Digit.f (bt x0 x15)).bind fun t314 => (if t314 = true then (g4_One.l1 k x0 x1 (wrap64 (x15 + 1)) x286000 x286001 x286002 x286003 x286004 x286005) else (if (bt x0 x15) = 45 then (g4_One.l1 k x0 x1 (wrap64 (x15 + 1)) x286000 x286001 x286002 x286003 x286004 x286005) else (g4_One.j3 k x0 x1 x15 x286000 x286001 x286002 x286003 x286004 x286005))))) else (none)) else (g4_One.j3 k x0 x1 x15 x286000 x286001 x286002 x286003 x286004 x286005)
end
def g4_One.f (k : Nat) (a0 : ByteArray) (a1 : Int) : Option (Int × ByteArray × Int × ByteArray × ByteArray × Int × Int) := if 0 ≤ a1 then (if a1 < (a0.size : Int) then (g4_One.l0 k a0 a1 (bt a0 a1) 0 0 (⟨#[]⟩ : ByteArray) 0 (⟨#[]⟩ : ByteArray) (⟨#[]⟩ : ByteArray) a1) else (none)) else (none)
def g4_One.T16 : Bool × List (List Nat × List Nat) := (true, [([], []), ([], []), ([1], [1]), ([], []), ([0, 2, 3], [0, 2, 3]), ([4], [4]), ([], []), ([6], [6]), ([0, 1, 2, 3, 4, 5, 6, 7], []), ([8, 5, 7, 0, 1, 2, 3, 4, 5, 6, 7], [5, 8])])
def g4_One.B16 : List Nat := [0, 0, 2, 0, 15, 31, 0, 64, 255, 511]
theorem g4_One.tab16 : rtab .any (opsOf Tryz.f16 16) = g4_One.T16 := by kernel_rfl
theorem g4_One.bits16 : waitsOk g4_One.T16.2 g4_One.B16 = true := by kernel_rfl
def g4_One.T26 : Bool × List (List Nat × List Nat) := (true, [([], []), ([], []), ([1], [1]), ([], []), ([0, 2, 3], [0, 2, 3]), ([], []), ([5], [5]), ([0, 1, 2, 3, 4, 5, 6], []), ([7, 4, 6, 0, 1, 2, 3, 4, 5, 6], [4, 7])])
def g4_One.B26 : List Nat := [0, 0, 2, 0, 15, 0, 32, 127, 255]
theorem g4_One.tab26 : rtab .any (opsOf Tryz.f16 26) = g4_One.T26 := by kernel_rfl
theorem g4_One.bits26 : waitsOk g4_One.T26.2 g4_One.B26 = true := by kernel_rfl
def g4_One.T32 : Bool × List (List Nat × List Nat) := (true, [([], []), ([], []), ([1], [1]), ([], []), ([0, 2, 3], [0, 2, 3]), ([], []), ([5], [5]), ([0, 1, 2, 3, 4, 5, 6], []), ([7, 4, 6, 0, 1, 2, 3, 4, 5, 6], [4, 7])])
def g4_One.B32 : List Nat := [0, 0, 2, 0, 15, 0, 32, 127, 255]
theorem g4_One.tab32 : rtab .any (opsOf Tryz.f16 32) = g4_One.T32 := by kernel_rfl
theorem g4_One.bits32 : waitsOk g4_One.T32.2 g4_One.B32 = true := by kernel_rfl
theorem g4_One.calls (k : Nat) (a0 : ByteArray) (a1 : Int) (r1 : Int) (r2 : ByteArray) (r3 : Int) (r4 : ByteArray) (r5 : ByteArray) (r6 : Int) (r7 : Int) (w : World) (h : g4_One.f k a0 a1 = some (r1, r2, r3, r4, r5, r6, r7)) :
  Calls Tryz.prog 16 #[.string a0, .int .i64 a1] w fun e w' => e = .returned (.tuple #[.agg #[.int .i64 r1, .string r2, .int .i64 r3, .string r4, .string r5, .int .i64 r6], .int .i64 r7]) ∧ Below w.heap.size w w' := by
 have hu43 := Tryz.underlying43
 have hu31 := Tryz.underlying31
 have HB := Ad.mk (Below.refl w.heap.size w)
 have H := h
 clear h
 unfold g4_One.f at H
 by_cases c3 : 0 ≤ a1
 ·rw [if_pos c3] at H
  have c3b0 := decide_eq_true c3
  clear c3
  by_cases c4 : a1 < (a0.size : Int)
  ·rw [if_pos c4] at H
   have c4b0 := decide_eq_true c4
   clear c4
   have H' := Ad.mk H
   clear H
   go_enter Tryz.func16, Tryz.ntmps16
   go_wp2_with (first | ((with_reducible refine gate_dst (N := 4) rfl ?_); (try (refine gate_guard (by rfl) ?_; dsimp only)); refine box_event r1_ (N := 4) r1_ (cs := #[.int .i64 0, .string ⟨#[]⟩, .int .i64 0, .string ⟨#[]⟩, .string ⟨#[]⟩, .int .i64 0]) (t := 43) r2_ ?_; intro gb284 hg w6 hbox hb; have BK284 := Ad.mk (hbox); have GW284 := Ad.mk (bs_ : w.heap.size ≤ gb284); have GE284 := Ad.mk (bs_ : w.heap.size ≤ gb284); replace HB := Ad.mk (below_step b1_ hb); clear hb hbox hg) | ((with_reducible refine gate_dst (N := 6) rfl ?_); (try (refine gate_guard (by rfl) ?_; dsimp only)); refine box_event r1_ (N := 6) r1_ (cs := #[.int .i64 0, .string ⟨#[]⟩, .int .i64 0, .string ⟨#[]⟩, .string ⟨#[]⟩, .int .i64 0]) (t := 43) r2_ ?_; intro gb285 hg w7 hbox hb; have BK285 := Ad.mk (hbox); have GW285 := Ad.mk ((by rw [hg]; exact (below_size (by have GE := GE284; exact b2_)) : w.heap.size ≤ gb285)); have GE285 := Ad.mk ((by rw [hg]; exact (below_size (by have GE := GE284; exact b2_)) : w.heap.size ≤ gb285)); have NB284_285 := Ad.mk ((by rw [hg]; exact Nat.ne_of_lt (blk_lt (g := gb284) (o := .cells #[.int .i64 0, .string ⟨#[]⟩, .int .i64 0, .string ⟨#[]⟩, .string ⟨#[]⟩, .int .i64 0] 43 (0, 0)) (bd_ BK284.out)) : gb284 ≠ gb285)); have NB285_284 := Ad.mk ((by rw [hg]; exact Nat.ne_of_gt (blk_lt (g := gb284) (o := .cells #[.int .i64 0, .string ⟨#[]⟩, .int .i64 0, .string ⟨#[]⟩, .string ⟨#[]⟩, .int .i64 0] 43 (0, 0)) (bd_ BK284.out)) : gb285 ≠ gb284)); replace BK284 := Ad.mk (blk_below (g := gb284) (o := .cells #[.int .i64 0, .string ⟨#[]⟩, .int .i64 0, .string ⟨#[]⟩, .string ⟨#[]⟩, .int .i64 0] 43 (0, 0)) (bd_ BK284.out) hb); replace HB := Ad.mk (below_step (by have GE := GE284; exact b2_) hb); clear hb hbox hg; have hnb8 := NB285_284.out; have hnc8 := NB284_285.out; obtain ⟨⟨hcz9_0, hcz9_1, hcz9_2, hcz9_3, hcz9_4, hcz9_5⟩, hfz9_0, hfz9_1, hfz9_2, hfz9_3, hfz9_4, hfz9_5⟩ := c6_ BK285.out; have p5 : 0 ≤ (a1 : Int) := of_decide_eq_true a1_; have q5 : a1 < (a0.size : Int) := of_decide_eq_true a1_; have hx5 := bt_at a0 a1; replace p5 := eq_true p5; replace q5 := eq_true q5))
   go_loopg [8] k (fun kq v8 w' => ∃ (x8_1 : Int) (x285000_1 : Int) (x285001_1 : ByteArray) (x285002_1 : Int) (x285003_1 : ByteArray) (x285004_1 : ByteArray) (x285005_1 : Int) (x286000_1 : Int) (x286001_1 : ByteArray), v8 = .int .i64 x8_1 ∧ Ad (g4_One.l0 kq a0 a1 (bt a0 a1) x8_1 x286000_1 x286001_1 0 (⟨#[]⟩ : ByteArray) (⟨#[]⟩ : ByteArray) a1 = some (r1, r2, r3, r4, r5, r6, r7)) ∧ Ad (kq ≤ k) ∧ Ad (w'.heap[gb284]? = some (.cells #[.int .i64 x285000_1, .string x285001_1, .int .i64 x285002_1, .string x285003_1, .string x285004_1, .int .i64 x285005_1] 43 (0, 0))) ∧ Ad (w'.heap[gb285]? = some (.cells #[.int .i64 x286000_1, .string x286001_1, .int .i64 0, .string ⟨#[]⟩, .string ⟨#[]⟩, .int .i64 a1] 43 (0, 0))) ∧ Ad (Below w.heap.size w w'))
   case atStart => exact ⟨(0), (0), ((⟨#[]⟩ : ByteArray)), (0), ((⟨#[]⟩ : ByteArray)), ((⟨#[]⟩ : ByteArray)), (0), (0), ((⟨#[]⟩ : ByteArray)), e1_, H', ⟨Nat.le_refl _⟩, ⟨by refine bd_ ?_; refine blk_far ?_ NB284_285.out _; refine bd_ ?_; refine blk_far ?_ NB284_285.out _; refine bd_ ?_; refine blk_far ?_ NB284_285.out _; refine bd_ ?_; refine blk_far ?_ NB284_285.out _; refine bd_ ?_; refine blk_far ?_ NB284_285.out _; refine bd_ ?_; refine blk_far ?_ NB284_285.out _; refine bd_ ?_; exact BK284.out⟩, ⟨by refine bd_ ?_; refine blk_put (cs := #[.int .i64 0, .string ⟨#[]⟩, .int .i64 0, .string ⟨#[]⟩, .string ⟨#[]⟩, .int .i64 0]) ?_ 5 _ rfl; refine bd_ ?_; refine blk_put (cs := #[.int .i64 0, .string ⟨#[]⟩, .int .i64 0, .string ⟨#[]⟩, .string ⟨#[]⟩, .int .i64 0]) ?_ 4 _ rfl; refine bd_ ?_; refine blk_put (cs := #[.int .i64 0, .string ⟨#[]⟩, .int .i64 0, .string ⟨#[]⟩, .string ⟨#[]⟩, .int .i64 0]) ?_ 3 _ rfl; refine bd_ ?_; refine blk_put (cs := #[.int .i64 0, .string ⟨#[]⟩, .int .i64 0, .string ⟨#[]⟩, .string ⟨#[]⟩, .int .i64 0]) ?_ 2 _ rfl; refine bd_ ?_; refine blk_put (cs := #[.int .i64 0, .string ⟨#[]⟩, .int .i64 0, .string ⟨#[]⟩, .string ⟨#[]⟩, .int .i64 0]) ?_ 1 _ rfl; refine bd_ ?_; refine blk_put (cs := #[.int .i64 0, .string ⟨#[]⟩, .int .i64 0, .string ⟨#[]⟩, .string ⟨#[]⟩, .int .i64 0]) ?_ 0 _ rfl; refine bd_ ?_; exact BK285.out⟩, ⟨by have G0 := GE284; have G1 := GE285; exact z2_⟩⟩
   case round =>
    clear H'
    try clear c1
    try clear p2
    try clear c3
    try clear c3b0
    try clear c4
    try clear c4b0
    try clear p5
    try clear q5
    try clear hx5
    try clear c8
    try clear hcz9_0
    try clear hcz9_1
    try clear hcz9_2
    try clear hcz9_3
    try clear hcz9_4
    try clear hcz9_5
    try clear hfz9_0
    try clear hfz9_1
    try clear hfz9_2
    try clear hfz9_3
    try clear hfz9_4
    try clear hfz9_5
    try clear p5
    try clear q5
    obtain ⟨x8_1, x285000_1, x285001_1, x285002_1, x285003_1, x285004_1, x285005_1, x286000_1, x286001_1, rfl, HA, HK1, BK284, BK285, HB⟩ := hrel
    cases gk with
    | zero => exact absurd HA.out (by simp [g4_One.l0])
    | succ k1 =>
     have H := HA.out
     clear HA
     simp only [g4_One.l0] at H
     obtain ⟨t286, A10, H⟩ := bi_ H
     by_cases c11 : x8_1 < (t286.length : Int)
     ·rw [if_pos c11] at H
      have c11b0 := decide_eq_true c11
      clear c11
      obtain ⟨t289, A12, H⟩ := bi_ H
      by_cases c13 : 0 ≤ x8_1
      ·rw [if_pos c13] at H
       have c13b0 := decide_eq_true c13
       clear c13
       by_cases c14 : x8_1 < (t289.length : Int)
       ·rw [if_pos c14] at H
        have c14b0 := decide_eq_true c14
        clear c14
        by_cases c15 : (wrap64 ((a0.size : Int) - a1)) ≥ ((rdOf ByteArray.empty t289 x8_1).size : Int)
        ·rw [if_pos c15] at H
         have c15b0 : decide (((rdOf ByteArray.empty t289 x8_1).size : Int) ≤ (wrap64 ((a0.size : Int) - a1))) = true := decide_eq_true c15
         clear c15
         by_cases c16 : 0 ≤ a1
         ·rw [if_pos c16] at H
          have c16b0 := eq_true c16
          have c16b1 := decide_eq_true c16
          clear c16
          by_cases c17 : a1 ≤ (wrap64 (a1 + ((rdOf ByteArray.empty t289 x8_1).size : Int)))
          ·rw [if_pos c17] at H
           have c17b0 := eq_true c17
           have c17b1 := decide_eq_true c17
           by_cases c18 : (wrap64 (a1 + ((rdOf ByteArray.empty t289 x8_1).size : Int))) ≤ (a0.size : Int)
           ·rw [if_pos c18] at H
            have c18b0 := eq_true c18
            have c18b1 := decide_eq_true c18
            by_cases c19 : (a0.extract (a1 : Int).toNat ((wrap64 (a1 + ((rdOf ByteArray.empty t289 x8_1).size : Int))) : Int).toNat).toList = (rdOf ByteArray.empty t289 x8_1).toList
            ·rw [if_pos c19] at H
             have c19b0 := beq_iff_eq.mpr c19
             have c19b1 := bne_eq_false_iff_eq.mpr c19
             clear c19
             simp only [Option.some.injEq, Prod.mk.injEq] at H
             obtain ⟨rfl, rfl, rfl, rfl, rfl, rfl, rfl⟩ := H
             go_wp2_with (first | ((with_reducible refine gate_callee (f := 24) rfl ?_); refine goesL_ (some 23) rfl rfl Tryz.func24 k1_ rfl #[] rfl g1_ ?_; (with_reducible refine (g4_marks.calls  t286 _ A10.out).mono ?_); rintro e w20 ⟨v287, rfl, ho0, hb⟩; refine ⟨_, rfl, ?_⟩; have HO288 := Ad.mk (Kd.R_lower ho0 (below_size (by have G0 := GE284; have G1 := GE285; exact z2_))); replace BK284 := Ad.mk (blk_below (g := gb284) (o := .cells #[.int .i64 x285000_1, .string x285001_1, .int .i64 x285002_1, .string x285003_1, .string x285004_1, .int .i64 x285005_1] 43 (0, 0)) (bd_ BK284.out) hb); replace BK285 := Ad.mk (blk_below (g := gb285) (o := .cells #[.int .i64 x286000_1, .string x286001_1, .int .i64 0, .string ⟨#[]⟩, .string ⟨#[]⟩, .int .i64 a1] 43 (0, 0)) (bd_ BK285.out) hb); replace HB := Ad.mk (below_step (by have G0 := GE284; have G1 := GE285; exact z2_) hb); (try clear hb); (try clear hb2); (try clear hk); (try clear hi); (try clear ho0); obtain ⟨Ao21, co21, eo21⟩ := Kd.R_slice HO288.out; subst eo21) | ((with_reducible refine gate_callee (f := 24) rfl ?_); refine goesL_ (some 28) rfl rfl Tryz.func24 k1_ rfl #[] rfl g1_ ?_; (with_reducible refine (g4_marks.calls  t289 _ A12.out).mono ?_); rintro e w22 ⟨v290, rfl, ho0, hb⟩; refine ⟨_, rfl, ?_⟩; have HO291 := Ad.mk (Kd.R_lower (Kd.R_new' ho0 (Kd.R_lt (by have G0 := HO288; exact z3_))) (below_size (by have G0 := GE284; have G1 := GE285; exact z2_))); replace HO288 := Ad.mk (Kd.R_elder' (by have G0 := HO288; exact z3_) (Kd.R_base ho0) hb); replace BK284 := Ad.mk (blk_below (g := gb284) (o := .cells #[.int .i64 x285000_1, .string x285001_1, .int .i64 x285002_1, .string x285003_1, .string x285004_1, .int .i64 x285005_1] 43 (0, 0)) (bd_ BK284.out) hb); replace BK285 := Ad.mk (blk_below (g := gb285) (o := .cells #[.int .i64 x286000_1, .string x286001_1, .int .i64 0, .string ⟨#[]⟩, .string ⟨#[]⟩, .int .i64 a1] 43 (0, 0)) (bd_ BK285.out) hb); replace HB := Ad.mk (below_step (by have G0 := GE284; have G1 := GE285; exact z2_) hb); (try clear hb); (try clear hb2); (try clear hk); (try clear hi); (try clear ho0); obtain ⟨Ao23, co23, eo23⟩ := Kd.R_slice HO291.out; subst eo23; have p292 : 0 ≤ (x8_1 : Int) := of_decide_eq_true a1_; have q292 : x8_1 < (t289.length : Int) := of_decide_eq_true a1_; obtain ⟨ad292, e292, hx292_0⟩ := Kd.at_string (Kd.R_reads' HO291.out).2.2 x8_1 p292 q292; cases e292; replace p292 := eq_true p292; replace q292 := eq_true q292; have hnb24 := NB285_284.out; have hnc24 := NB284_285.out; obtain ⟨⟨hcz25_0, hcz25_1, hcz25_2, hcz25_3, hcz25_4, hcz25_5⟩, hfz25_0, hfz25_1, hfz25_2, hfz25_3, hfz25_4, hfz25_5⟩ := c6_ BK285.out; obtain ⟨⟨hcz26_0, hcz26_1, hcz26_2, hcz26_3, hcz26_4, hcz26_5⟩, hfz26_0, hfz26_1, hfz26_2, hfz26_3, hfz26_4, hfz26_5⟩ := c6_ BK284.out))
             refine bodyPost_ret (results_ct rfl _ _ gb284 43 #[.int .i64 8, .string (rdOf ByteArray.empty t289 x8_1), .int .i64 0, .string ⟨#[]⟩, .string ⟨#[]⟩, .int .i64 a1] (0, 0) _ rfl (by refine bd_ ?_; refine blk_put (cs := #[.int .i64 8, .string (rdOf ByteArray.empty t289 x8_1), .int .i64 0, .string ⟨#[]⟩, .string ⟨#[]⟩, .int .i64 x285005_1]) ?_ 5 _ rfl; refine bd_ ?_; refine blk_put (cs := #[.int .i64 8, .string (rdOf ByteArray.empty t289 x8_1), .int .i64 0, .string ⟨#[]⟩, .string x285004_1, .int .i64 x285005_1]) ?_ 4 _ rfl; refine bd_ ?_; refine blk_put (cs := #[.int .i64 8, .string (rdOf ByteArray.empty t289 x8_1), .int .i64 0, .string x285003_1, .string x285004_1, .int .i64 x285005_1]) ?_ 3 _ rfl; refine bd_ ?_; refine blk_put (cs := #[.int .i64 8, .string (rdOf ByteArray.empty t289 x8_1), .int .i64 x285002_1, .string x285003_1, .string x285004_1, .int .i64 x285005_1]) ?_ 2 _ rfl; refine bd_ ?_; refine blk_put (cs := #[.int .i64 8, .string x285001_1, .int .i64 x285002_1, .string x285003_1, .string x285004_1, .int .i64 x285005_1]) ?_ 1 _ rfl; refine bd_ ?_; refine blk_put (cs := #[.int .i64 x285000_1, .string x285001_1, .int .i64 x285002_1, .string x285003_1, .string x285004_1, .int .i64 x285005_1]) ?_ 0 _ rfl; refine bd_ ?_; refine blk_far ?_ NB284_285.out _; refine bd_ ?_; refine blk_far ?_ NB284_285.out _; refine bd_ ?_; exact BK284.out) Tryz.underlying43 rfl k1_) rfl ?_
             exact ⟨e2_, by have G0 := GE284; have G1 := GE285; exact z2_⟩
            rw [if_neg c19] at H
            have c19b0 := beq_eq_false_iff_ne.mpr c19
            have c19b1 := bne_iff_ne.mpr c19
            have H' := Ad.mk H
            clear H
            go_wp2_with (first | ((with_reducible refine gate_callee (f := 24) rfl ?_); refine goesL_ (some 23) rfl rfl Tryz.func24 k1_ rfl #[] rfl g1_ ?_; (with_reducible refine (g4_marks.calls  t286 _ A10.out).mono ?_); rintro e w27 ⟨v287, rfl, ho0, hb⟩; refine ⟨_, rfl, ?_⟩; have HO288 := Ad.mk (Kd.R_lower ho0 (below_size (by have G0 := GE284; have G1 := GE285; exact z2_))); replace BK284 := Ad.mk (blk_below (g := gb284) (o := .cells #[.int .i64 x285000_1, .string x285001_1, .int .i64 x285002_1, .string x285003_1, .string x285004_1, .int .i64 x285005_1] 43 (0, 0)) (bd_ BK284.out) hb); replace BK285 := Ad.mk (blk_below (g := gb285) (o := .cells #[.int .i64 x286000_1, .string x286001_1, .int .i64 0, .string ⟨#[]⟩, .string ⟨#[]⟩, .int .i64 a1] 43 (0, 0)) (bd_ BK285.out) hb); replace HB := Ad.mk (below_step (by have G0 := GE284; have G1 := GE285; exact z2_) hb); (try clear hb); (try clear hb2); (try clear hk); (try clear hi); (try clear ho0); obtain ⟨Ao28, co28, eo28⟩ := Kd.R_slice HO288.out; subst eo28) | ((with_reducible refine gate_callee (f := 24) rfl ?_); refine goesL_ (some 28) rfl rfl Tryz.func24 k1_ rfl #[] rfl g1_ ?_; (with_reducible refine (g4_marks.calls  t289 _ A12.out).mono ?_); rintro e w29 ⟨v290, rfl, ho0, hb⟩; refine ⟨_, rfl, ?_⟩; have HO291 := Ad.mk (Kd.R_lower (Kd.R_new' ho0 (Kd.R_lt (by have G0 := HO288; exact z3_))) (below_size (by have G0 := GE284; have G1 := GE285; exact z2_))); replace HO288 := Ad.mk (Kd.R_elder' (by have G0 := HO288; exact z3_) (Kd.R_base ho0) hb); replace BK284 := Ad.mk (blk_below (g := gb284) (o := .cells #[.int .i64 x285000_1, .string x285001_1, .int .i64 x285002_1, .string x285003_1, .string x285004_1, .int .i64 x285005_1] 43 (0, 0)) (bd_ BK284.out) hb); replace BK285 := Ad.mk (blk_below (g := gb285) (o := .cells #[.int .i64 x286000_1, .string x286001_1, .int .i64 0, .string ⟨#[]⟩, .string ⟨#[]⟩, .int .i64 a1] 43 (0, 0)) (bd_ BK285.out) hb); replace HB := Ad.mk (below_step (by have G0 := GE284; have G1 := GE285; exact z2_) hb); (try clear hb); (try clear hb2); (try clear hk); (try clear hi); (try clear ho0); obtain ⟨Ao30, co30, eo30⟩ := Kd.R_slice HO291.out; subst eo30; have p292 : 0 ≤ (x8_1 : Int) := of_decide_eq_true a1_; have q292 : x8_1 < (t289.length : Int) := of_decide_eq_true a1_; obtain ⟨ad292, e292, hx292_0⟩ := Kd.at_string (Kd.R_reads' HO291.out).2.2 x8_1 p292 q292; cases e292; replace p292 := eq_true p292; replace q292 := eq_true q292))
            go_roundg k1
            case measure => have := HK1.out; omega
            case rel => exact ⟨(wrap64 (x8_1 + 1)), (x285000_1), (x285001_1), (x285002_1), (x285003_1), (x285004_1), (x285005_1), (x286000_1), (x286001_1), e1_, H', ⟨by have := HK1.out; omega⟩, ⟨by refine bd_ ?_; exact BK284.out⟩, ⟨by refine bd_ ?_; exact BK285.out⟩, ⟨by have G0 := GE284; have G1 := GE285; exact z2_⟩⟩
           rw [if_neg c18] at H
           exact absurd H (by simp)
          rw [if_neg c17] at H
          exact absurd H (by simp)
         rw [if_neg c16] at H
         exact absurd H (by simp)
        rw [if_neg c15] at H
        have c15b0 : decide (((rdOf ByteArray.empty t289 x8_1).size : Int) ≤ (wrap64 ((a0.size : Int) - a1))) = false := decide_eq_false c15
        clear c15
        have H' := Ad.mk H
        clear H
        go_wp2_with (first | ((with_reducible refine gate_callee (f := 24) rfl ?_); refine goesL_ (some 23) rfl rfl Tryz.func24 k1_ rfl #[] rfl g1_ ?_; (with_reducible refine (g4_marks.calls  t286 _ A10.out).mono ?_); rintro e w31 ⟨v287, rfl, ho0, hb⟩; refine ⟨_, rfl, ?_⟩; have HO288 := Ad.mk (Kd.R_lower ho0 (below_size (by have G0 := GE284; have G1 := GE285; exact z2_))); replace BK284 := Ad.mk (blk_below (g := gb284) (o := .cells #[.int .i64 x285000_1, .string x285001_1, .int .i64 x285002_1, .string x285003_1, .string x285004_1, .int .i64 x285005_1] 43 (0, 0)) (bd_ BK284.out) hb); replace BK285 := Ad.mk (blk_below (g := gb285) (o := .cells #[.int .i64 x286000_1, .string x286001_1, .int .i64 0, .string ⟨#[]⟩, .string ⟨#[]⟩, .int .i64 a1] 43 (0, 0)) (bd_ BK285.out) hb); replace HB := Ad.mk (below_step (by have G0 := GE284; have G1 := GE285; exact z2_) hb); (try clear hb); (try clear hb2); (try clear hk); (try clear hi); (try clear ho0); obtain ⟨Ao32, co32, eo32⟩ := Kd.R_slice HO288.out; subst eo32) | ((with_reducible refine gate_callee (f := 24) rfl ?_); refine goesL_ (some 28) rfl rfl Tryz.func24 k1_ rfl #[] rfl g1_ ?_; (with_reducible refine (g4_marks.calls  t289 _ A12.out).mono ?_); rintro e w33 ⟨v290, rfl, ho0, hb⟩; refine ⟨_, rfl, ?_⟩; have HO291 := Ad.mk (Kd.R_lower (Kd.R_new' ho0 (Kd.R_lt (by have G0 := HO288; exact z3_))) (below_size (by have G0 := GE284; have G1 := GE285; exact z2_))); replace HO288 := Ad.mk (Kd.R_elder' (by have G0 := HO288; exact z3_) (Kd.R_base ho0) hb); replace BK284 := Ad.mk (blk_below (g := gb284) (o := .cells #[.int .i64 x285000_1, .string x285001_1, .int .i64 x285002_1, .string x285003_1, .string x285004_1, .int .i64 x285005_1] 43 (0, 0)) (bd_ BK284.out) hb); replace BK285 := Ad.mk (blk_below (g := gb285) (o := .cells #[.int .i64 x286000_1, .string x286001_1, .int .i64 0, .string ⟨#[]⟩, .string ⟨#[]⟩, .int .i64 a1] 43 (0, 0)) (bd_ BK285.out) hb); replace HB := Ad.mk (below_step (by have G0 := GE284; have G1 := GE285; exact z2_) hb); (try clear hb); (try clear hb2); (try clear hk); (try clear hi); (try clear ho0); obtain ⟨Ao34, co34, eo34⟩ := Kd.R_slice HO291.out; subst eo34; have p292 : 0 ≤ (x8_1 : Int) := of_decide_eq_true a1_; have q292 : x8_1 < (t289.length : Int) := of_decide_eq_true a1_; obtain ⟨ad292, e292, hx292_0⟩ := Kd.at_string (Kd.R_reads' HO291.out).2.2 x8_1 p292 q292; cases e292; replace p292 := eq_true p292; replace q292 := eq_true q292))
        go_roundg k1
        case measure => have := HK1.out; omega
        case rel => exact ⟨(wrap64 (x8_1 + 1)), (x285000_1), (x285001_1), (x285002_1), (x285003_1), (x285004_1), (x285005_1), (x286000_1), (x286001_1), e1_, H', ⟨by have := HK1.out; omega⟩, ⟨by refine bd_ ?_; exact BK284.out⟩, ⟨by refine bd_ ?_; exact BK285.out⟩, ⟨by have G0 := GE284; have G1 := GE285; exact z2_⟩⟩
       rw [if_neg c14] at H
       exact absurd H (by simp)
      rw [if_neg c13] at H
      exact absurd H (by simp)
     rw [if_neg c11] at H
     have c11b0 := decide_eq_false c11
     clear c11
     by_cases c35 : (bt a0 a1) = 60
     ·rw [if_pos c35] at H
      have c35b0 := beq_iff_eq.mpr c35
      have c35b1 := bne_eq_false_iff_eq.mpr c35
      clear c35
      obtain ⟨⟨t293, t294⟩, A36, H⟩ := bi_ H
      try dsimp only at H
      obtain ⟨⟨t295, t296, t297, t298, t299, t300, t301⟩, A37, H⟩ := bi_ H
      try dsimp only at H
      simp only [Option.some.injEq, Prod.mk.injEq] at H
      obtain ⟨rfl, rfl, rfl, rfl, rfl, rfl, rfl⟩ := H
      go_wp2_with (first | ((with_reducible refine gate_callee (f := 24) rfl ?_); refine goesL_ (some 23) rfl rfl Tryz.func24 k1_ rfl #[] rfl g1_ ?_; (with_reducible refine (g4_marks.calls  t286 _ A10.out).mono ?_); rintro e w38 ⟨v287, rfl, ho0, hb⟩; refine ⟨_, rfl, ?_⟩; have HO288 := Ad.mk (Kd.R_lower ho0 (below_size (by have G0 := GE284; have G1 := GE285; exact z2_))); replace BK284 := Ad.mk (blk_below (g := gb284) (o := .cells #[.int .i64 x285000_1, .string x285001_1, .int .i64 x285002_1, .string x285003_1, .string x285004_1, .int .i64 x285005_1] 43 (0, 0)) (bd_ BK284.out) hb); replace BK285 := Ad.mk (blk_below (g := gb285) (o := .cells #[.int .i64 x286000_1, .string x286001_1, .int .i64 0, .string ⟨#[]⟩, .string ⟨#[]⟩, .int .i64 a1] 43 (0, 0)) (bd_ BK285.out) hb); replace HB := Ad.mk (below_step (by have G0 := GE284; have G1 := GE285; exact z2_) hb); (try clear hb); (try clear hb2); (try clear hk); (try clear hi); (try clear ho0); obtain ⟨Ao39, co39, eo39⟩ := Kd.R_slice HO288.out; subst eo39) | ((with_reducible refine gate_callee (f := 25) rfl ?_); refine goesL_ (some 64) rfl rfl Tryz.func25 k1_ rfl #[.string a0, .int .i64 a1, .int .u8 62, .bool false] rfl g1_ ?_; (with_reducible refine (g4_quoted.calls k1 a0 a1 62 false t293 t294 _ A36.out).mono ?_); rintro e w40 ⟨rfl, hb⟩; refine ⟨_, rfl, ?_⟩; replace HO288 := Ad.mk (Kd.R_below (by have G0 := HO288; exact z3_) hb); replace BK284 := Ad.mk (blk_below (g := gb284) (o := .cells #[.int .i64 x285000_1, .string x285001_1, .int .i64 x285002_1, .string x285003_1, .string x285004_1, .int .i64 x285005_1] 43 (0, 0)) (bd_ BK284.out) hb); replace BK285 := Ad.mk (blk_below (g := gb285) (o := .cells #[.int .i64 x286000_1, .string x286001_1, .int .i64 0, .string ⟨#[]⟩, .string ⟨#[]⟩, .int .i64 a1] 43 (0, 0)) (bd_ BK285.out) hb); replace HB := Ad.mk (below_step (by have G0 := GE284; have G1 := GE285; exact z2_) hb); clear hb; have hnb41 := NB285_284.out; have hnc41 := NB284_285.out; obtain ⟨⟨hcz42_0, hcz42_1, hcz42_2, hcz42_3, hcz42_4, hcz42_5⟩, hfz42_0, hfz42_1, hfz42_2, hfz42_3, hfz42_4, hfz42_5⟩ := c6_ BK285.out) | ((with_reducible refine gate_callee (f := 26) rfl ?_); refine goesL_ (some 73) rfl rfl Tryz.func26 k1_ rfl #[.agg #[.int .i64 1, .string x286001_1, .int .i64 1, .string t293, .string ⟨#[]⟩, .int .i64 a1], .int .i64 t294] rfl g1_ ?_; (with_reducible refine (g4_may.calls k1 1 x286001_1 1 t293 (⟨#[]⟩ : ByteArray) a1 t294 t295 t296 t297 t298 t299 t300 t301 _ A37.out).mono ?_); rintro e w43 ⟨rfl, hb⟩; refine ⟨_, rfl, ?_⟩; replace HO288 := Ad.mk (Kd.R_below (by (with_reducible repeat (first | apply Kd.R_alloc | apply Kd.R_drewN | apply Kd.R_drew)); exact (Kd.R_mono (Kd.R_far (p := ⟨gb285, 4, none⟩) (Kd.R_far (p := ⟨gb285, 3, none⟩) (Kd.R_far (p := ⟨gb285, 2, none⟩) (Kd.R_far (p := ⟨gb285, 0, none⟩) (Kd.R_types HO288.out BK285.out (by decide)) (fun _ hk => hk.2) (.int .i64 1)) (fun _ hk => hk.2) (.int .i64 1)) (fun _ hk => hk.2) (.string t293)) (fun _ hk => hk.2) (.string ⟨#[]⟩)) (fun _ h_ => h_.1))) hb); replace BK284 := Ad.mk (blk_below (g := gb284) (o := .cells #[.int .i64 x285000_1, .string x285001_1, .int .i64 x285002_1, .string x285003_1, .string x285004_1, .int .i64 x285005_1] 43 (0, 0)) (by have G0 := NB284_285; have G1 := BK284; exact z89_) hb); replace BK285 := Ad.mk (blk_below (g := gb285) (o := .cells #[.int .i64 1, .string x286001_1, .int .i64 1, .string t293, .string ⟨#[]⟩, .int .i64 a1] 43 (0, 0)) (by refine bd_ ?_; refine blk_put (cs := #[.int .i64 1, .string x286001_1, .int .i64 1, .string t293, .string ⟨#[]⟩, .int .i64 a1]) ?_ 4 _ rfl; refine bd_ ?_; refine blk_put (cs := #[.int .i64 1, .string x286001_1, .int .i64 1, .string ⟨#[]⟩, .string ⟨#[]⟩, .int .i64 a1]) ?_ 3 _ rfl; refine bd_ ?_; refine blk_put (cs := #[.int .i64 1, .string x286001_1, .int .i64 0, .string ⟨#[]⟩, .string ⟨#[]⟩, .int .i64 a1]) ?_ 2 _ rfl; refine bd_ ?_; refine blk_put (cs := #[.int .i64 x286000_1, .string x286001_1, .int .i64 0, .string ⟨#[]⟩, .string ⟨#[]⟩, .int .i64 a1]) ?_ 0 _ rfl; refine bd_ ?_; exact BK285.out) hb); replace HB := Ad.mk (below_step (by have G0 := GE284; have G1 := GE285; exact z2_) hb); clear hb; obtain ⟨⟨hcz44_0, hcz44_1, hcz44_2, hcz44_3, hcz44_4, hcz44_5⟩, hfz44_0, hfz44_1, hfz44_2, hfz44_3, hfz44_4, hfz44_5⟩ := c6_ BK284.out))
      refine bodyPost_ret (results_ct rfl _ _ gb284 43 #[.int .i64 t295, .string t296, .int .i64 t297, .string t298, .string t299, .int .i64 t300] (0, 0) _ rfl (by refine bd_ ?_; refine blk_put (cs := #[.int .i64 t295, .string t296, .int .i64 t297, .string t298, .string t299, .int .i64 x285005_1]) ?_ 5 _ rfl; refine bd_ ?_; refine blk_put (cs := #[.int .i64 t295, .string t296, .int .i64 t297, .string t298, .string x285004_1, .int .i64 x285005_1]) ?_ 4 _ rfl; refine bd_ ?_; refine blk_put (cs := #[.int .i64 t295, .string t296, .int .i64 t297, .string x285003_1, .string x285004_1, .int .i64 x285005_1]) ?_ 3 _ rfl; refine bd_ ?_; refine blk_put (cs := #[.int .i64 t295, .string t296, .int .i64 x285002_1, .string x285003_1, .string x285004_1, .int .i64 x285005_1]) ?_ 2 _ rfl; refine bd_ ?_; refine blk_put (cs := #[.int .i64 t295, .string x285001_1, .int .i64 x285002_1, .string x285003_1, .string x285004_1, .int .i64 x285005_1]) ?_ 1 _ rfl; refine bd_ ?_; refine blk_put (cs := #[.int .i64 x285000_1, .string x285001_1, .int .i64 x285002_1, .string x285003_1, .string x285004_1, .int .i64 x285005_1]) ?_ 0 _ rfl; refine bd_ ?_; exact BK284.out) Tryz.underlying43 rfl k1_) rfl ?_
      exact ⟨e2_, by have G0 := GE284; have G1 := GE285; exact z2_⟩
     rw [if_neg c35] at H
     have c35b0 := beq_eq_false_iff_ne.mpr c35
     have c35b1 := bne_iff_ne.mpr c35
     have HC45 := Ad.mk H
     clear H
     go_upto_region 14 with (first | ((with_reducible refine gate_callee (f := 24) rfl ?_); refine goesL_ (some 23) rfl rfl Tryz.func24 k1_ rfl #[] rfl g1_ ?_; (with_reducible refine (g4_marks.calls  t286 _ A10.out).mono ?_); rintro e w46 ⟨v287, rfl, ho0, hb⟩; refine ⟨_, rfl, ?_⟩; have HO288 := Ad.mk (Kd.R_lower ho0 (below_size (by have G0 := GE284; have G1 := GE285; exact z2_))); replace BK284 := Ad.mk (blk_below (g := gb284) (o := .cells #[.int .i64 x285000_1, .string x285001_1, .int .i64 x285002_1, .string x285003_1, .string x285004_1, .int .i64 x285005_1] 43 (0, 0)) (bd_ BK284.out) hb); replace BK285 := Ad.mk (blk_below (g := gb285) (o := .cells #[.int .i64 x286000_1, .string x286001_1, .int .i64 0, .string ⟨#[]⟩, .string ⟨#[]⟩, .int .i64 a1] 43 (0, 0)) (bd_ BK285.out) hb); replace HB := Ad.mk (below_step (by have G0 := GE284; have G1 := GE285; exact z2_) hb); (try clear hb); (try clear hb2); (try clear hk); (try clear hi); (try clear ho0); obtain ⟨Ao47, co47, eo47⟩ := Kd.R_slice HO288.out; subst eo47))
     (try simp only [Act.put, List.setIfInBounds_toArray, List.set_cons_zero, List.set_cons_succ])
     go_cut [76] (fun v76 wc => ∃ (kq : Nat) (x76_44 : Bool), v76 = .bool x76_44 ∧ Ad (g4_One.j1 kq a0 a1 (bt a0 a1) x76_44 x286000_1 x286001_1 0 (⟨#[]⟩ : ByteArray) (⟨#[]⟩ : ByteArray) a1 = some (r1, r2, r3, r4, r5, r6, r7)) ∧ Ad (kq ≤ k1) ∧ Ad (wc.heap[gb284]? = some (.cells #[.int .i64 x285000_1, .string x285001_1, .int .i64 x285002_1, .string x285003_1, .string x285004_1, .int .i64 x285005_1] 43 (0, 0))) ∧ Ad (wc.heap[gb285]? = some (.cells #[.int .i64 x286000_1, .string x286001_1, .int .i64 0, .string ⟨#[]⟩, .string ⟨#[]⟩, .int .i64 a1] 43 (0, 0))) ∧ Ad (Below w.heap.size w wc))
     case first =>
      have H := HC45.out
      clear HC45
      by_cases c48 : (bt a0 a1) = 95
      ·rw [if_pos c48] at H
       have c48b0 := beq_iff_eq.mpr c48
       have c48b1 := bne_eq_false_iff_eq.mpr c48
       clear c48
       (first | rw [c48b0] | (simp only [i64_w, i32_w]; rw [c48b0]) | skip)
       obtain ⟨t302, A49, H⟩ := bi_ H
       have H' := Ad.mk H
       clear H
       go_wp2_with (first | (go_at_call 27; (with_reducible refine (g4_ch.calls a0 (wrap64 (a1 + 1)) t302 _ A49.out).mono ?_); rintro e w' ⟨rfl, ⟨nd, rfl⟩⟩))
       go_meet
       case rel => exact ⟨_, ((t302 == 58)), e1_, H', ⟨o1_⟩, ⟨by refine bd_ ?_; exact BK284.out⟩, ⟨by refine bd_ ?_; exact BK285.out⟩, ⟨by have G0 := GE284; have G1 := GE285; exact z2_⟩⟩
      rw [if_neg c48] at H
      have c48b0 := beq_eq_false_iff_ne.mpr c48
      have c48b1 := bne_iff_ne.mpr c48
      (first | rw [c48b0] | (simp only [i64_w, i32_w]; rw [c48b0]) | skip)
      have H' := Ad.mk H
      clear H
      go_wp2
      go_meet
      case rel => exact ⟨_, (false), e1_, H', ⟨o1_⟩, ⟨by refine bd_ ?_; exact BK284.out⟩, ⟨by refine bd_ ?_; exact BK285.out⟩, ⟨by have G0 := GE284; have G1 := GE285; exact z2_⟩⟩
     case rest =>
      clear HC45
      try clear c1
      try clear p2
      try clear c3
      try clear c3b0
      try clear c4
      try clear c4b0
      try clear p5
      try clear q5
      try clear hx5
      try clear c8
      try clear c11
      try clear c11b0
      try clear c13
      try clear c13b0
      try clear c14
      try clear c14b0
      try clear c15
      try clear c15b0
      try clear c16
      try clear c16b0
      try clear c16b1
      try clear c17
      try clear c17b0
      try clear c17b1
      try clear c18
      try clear c18b0
      try clear c18b1
      try clear c19
      try clear c19b0
      try clear c19b1
      try clear c35
      try clear c35b0
      try clear c35b1
      try clear hcz25_0
      try clear hcz25_1
      try clear hcz25_2
      try clear hcz25_3
      try clear hcz25_4
      try clear hcz25_5
      try clear hcz26_0
      try clear hcz26_1
      try clear hcz26_2
      try clear hcz26_3
      try clear hcz26_4
      try clear hcz26_5
      try clear hcz42_0
      try clear hcz42_1
      try clear hcz42_2
      try clear hcz42_3
      try clear hcz42_4
      try clear hcz42_5
      try clear hcz44_0
      try clear hcz44_1
      try clear hcz44_2
      try clear hcz44_3
      try clear hcz44_4
      try clear hcz44_5
      try clear hcz9_0
      try clear hcz9_1
      try clear hcz9_2
      try clear hcz9_3
      try clear hcz9_4
      try clear hcz9_5
      try clear hfz25_0
      try clear hfz25_1
      try clear hfz25_2
      try clear hfz25_3
      try clear hfz25_4
      try clear hfz25_5
      try clear hfz26_0
      try clear hfz26_1
      try clear hfz26_2
      try clear hfz26_3
      try clear hfz26_4
      try clear hfz26_5
      try clear hfz42_0
      try clear hfz42_1
      try clear hfz42_2
      try clear hfz42_3
      try clear hfz42_4
      try clear hfz42_5
      try clear hfz44_0
      try clear hfz44_1
      try clear hfz44_2
      try clear hfz44_3
      try clear hfz44_4
      try clear hfz44_5
      try clear hfz9_0
      try clear hfz9_1
      try clear hfz9_2
      try clear hfz9_3
      try clear hfz9_4
      try clear hfz9_5
      try clear hx292_0
      try clear p2
      try clear p292
      try clear p5
      try clear q292
      try clear q5
      obtain ⟨kq, x76_44, rfl, HA, HJ44, BK284, BK285, HB⟩ := hcut
      cases kq with
      | zero => exact absurd HA.out (by simp [g4_One.j1])
      | succ kj44 =>
       have H := HA.out
       clear HA
       simp only [g4_One.j1] at H
       by_cases c50 : x76_44 = true
       ·subst c50
        rw [if_pos rfl] at H
        obtain ⟨t303, A51, H⟩ := bi_ H
        obtain ⟨ji52, hji52⟩ : ∃ j_ : Int, (wrap64 (a1 + 2)) = j_ := ⟨_, rfl⟩
        replace H : (if 0 ≤ (ji52) then (if (ji52) ≤ t303 then (if t303 ≤ (a0.size : Int) then ((g4_may.f kj44 2 x286001_1 2 (a0.extract ((ji52) : Int).toNat (t303 : Int).toNat) (⟨#[]⟩ : ByteArray) a1 t303).bind fun bt304 => (some (bt304.1, bt304.2.1, bt304.2.2.1, bt304.2.2.2.1, bt304.2.2.2.2.1, bt304.2.2.2.2.2.1, bt304.2.2.2.2.2.2))) else (none)) else (none)) else (none)) = some (r1, r2, r3, r4, r5, r6, r7) := by first | (rw [hji52] at H; exact H) | (simp only [hji52] at H ⊢; exact H)
        (try rw [hji52] at A51)
        have hji52w : (IntKind.i64.wrap (a1 + 2)) = ji52 := (i64_w _).trans hji52
        by_cases c53 : 0 ≤ (ji52)
        ·rw [if_pos c53] at H
         have c53b0 := eq_true c53
         have c53b1 := decide_eq_true c53
         clear c53
         by_cases c54 : (ji52) ≤ t303
         ·rw [if_pos c54] at H
          have c54b0 := eq_true c54
          have c54b1 := decide_eq_true c54
          clear c54
          by_cases c55 : t303 ≤ (a0.size : Int)
          ·rw [if_pos c55] at H
           have c55b0 := eq_true c55
           have c55b1 := decide_eq_true c55
           clear c55
           obtain ⟨⟨t304, t305, t306, t307, t308, t309, t310⟩, A56, H⟩ := bi_ H
           try dsimp only at H
           simp only [Option.some.injEq, Prod.mk.injEq] at H
           obtain ⟨rfl, rfl, rfl, rfl, rfl, rfl, rfl⟩ := H
           try go_wp2_with (first | ((with_reducible refine gate_callee (f := 28) rfl ?_); refine goesL_ (some 89) rfl rfl Tryz.func28 k1_ rfl #[.string a0, .int .i64 ji52] rfl z90_ ?_; (with_reducible refine (g4_word.calls kj44 a0 ji52 t303 _ A51.out).mono ?_); rintro e w' ⟨rfl, ⟨nd, rfl⟩⟩; refine ⟨_, rfl, ?_⟩; (try (rw [drewN_self wc]; generalize hq_ : World.drewN wc _ = wc; have n0_ : Ad (wc.heap[gb284]? = some (.cells #[.int .i64 x285000_1, .string x285001_1, .int .i64 x285002_1, .string x285003_1, .string x285004_1, .int .i64 x285005_1] 43 (0, 0))) := ⟨by rw [← hq_]; exact (bd_ BK284.out)⟩; have n1_ : Ad (wc.heap[gb285]? = some (.cells #[.int .i64 x286000_1, .string x286001_1, .int .i64 0, .string ⟨#[]⟩, .string ⟨#[]⟩, .int .i64 a1] 43 (0, 0))) := ⟨by rw [← hq_]; exact (bd_ BK285.out)⟩; have n2_ : Ad (Below w.heap.size w wc) := ⟨by have G0 := GE284; have G1 := GE285; exact z28_⟩; clear BK284 BK285 HB hq_; have BK284 := n0_; have BK285 := n1_; have HB := n2_; clear n0_ n1_ n2_))))
           have n0_ := Ad.mk (blk_drew BK284.out)
           have n1_ := Ad.mk (blk_drew BK285.out)
           have n2_ := Ad.mk (below_drew1 HB.out)
           clear BK284
           clear BK285
           clear HB
           have BK284 := n0_
           have BK285 := n1_
           have HB := n2_
           clear n0_ n1_ n2_
           refine start_ (n := 10) (S := fun w' => True) (ds := []) #[false, false, false, false, false, false, false, false, false, false] k1_ rfl rfl trivial (fun hHeld => ?_); refine with_tabW g4_One.tab16 g4_One.bits16 (fun HT_ HW_ => ?_)
           generalize wc.drew = w57 at BK284 BK285 HB hHeld ⊢
           refine pure_ (i := 0) (N := some 90) #[true, false, false, false, false, false, false, false, false, false] rfl rfl (any_of HT_.out k1_) (fun _ _ _ h => h) (Or.inl ⟨by rfl, py_⟩) pa_ ?_
           refine pure_ (i := 1) (N := some 91) #[true, true, false, false, false, false, false, false, false, false] rfl rfl (any_of HT_.out k1_) (fun _ _ _ h => h) (Or.inl ⟨by rfl, py_⟩) pa_ ?_
           refine pure_ (i := 2) (N := some 92) #[true, true, true, false, false, false, false, false, false, false] rfl rfl (any_of HT_.out k1_) (fun _ _ _ h => h) (Or.inl ⟨by rfl, py_⟩) pa_ ?_
           refine pure_ (i := 3) (N := some 93) #[true, true, true, true, false, false, false, false, false, false] rfl rfl (any_of HT_.out k1_) (fun _ _ _ h => h) (Or.inl ⟨by rfl, py_⟩) pa_ ?_
           refine pure_ (i := 4) (N := some 94) #[true, true, true, true, true, false, false, false, false, false] rfl rfl (any_of HT_.out k1_) (fun _ _ _ h => h) (Or.inl ⟨by rfl, py_⟩) pa_ ?_
           refine pure_ (i := 5) (N := some 95) #[true, true, true, true, true, true, false, false, false, false] rfl rfl (any_of HT_.out k1_) (fun _ _ _ h => h) (Or.inl ⟨by rfl, py_⟩) pa_ ?_
           refine pure_ (i := 6) (N := some 96) #[true, true, true, true, true, true, true, false, false, false] rfl rfl (any_of HT_.out k1_) (fun _ _ _ h => h) (Or.inl ⟨by rfl, py_⟩) pa_ ?_
           refine one_ (i := 7) (N := none) #[true, true, true, true, true, true, true, true, false, false] rfl rfl (one_of HT_.out k1_) (by decide) (fun K hK => ?_)
           have hs58 : w57.cell? ⟨gb285, 0, none⟩ = some (.int .i64 x286000_1) := (blk_cell BK285.out 0).trans rfl
           have hfs58 := blk_frozen BK285.out 0
           have hns58_0 := NB284_285.out
           have hms58_0 := NB285_284.out
           refine skip_ (w1 := ?_) (by rfl) rfl ?_ ?_
           rotate_left
           ·go_simp
            rfl
           refine hK.out _ _ trivial (fun hHeld => ?_)
           clear hK K
           refine pure_ (i := 8) (N := some 97) #[true, true, true, true, true, true, true, true, true, false] rfl rfl (any_of HT_.out k1_) (fun _ _ _ h => h) (Or.inl ⟨by rfl, py_⟩) pa_ ?_
           refine one_ (i := 9) (N := none) #[true, true, true, true, true, true, true, true, true, true] rfl rfl (one_of HT_.out k1_) (by decide) (fun K hK => ?_)
           have hs59 : w57.cell? ⟨gb285, 2, none⟩ = some (.int .i64 0) := (blk_cell BK285.out 2).trans rfl
           have hfs59 := blk_frozen BK285.out 2
           have hns59_0 := NB284_285.out
           have hms59_0 := NB285_284.out
           have hs60 : w57.cell? ⟨gb285, 3, none⟩ = some (.string ⟨#[]⟩) := (blk_cell BK285.out 3).trans rfl
           have hfs60 := blk_frozen BK285.out 3
           have hns60_0 := NB284_285.out
           have hms60_0 := NB285_284.out
           have hs61 : w57.cell? ⟨gb285, 4, none⟩ = some (.string ⟨#[]⟩) := (blk_cell BK285.out 4).trans rfl
           have hfs61 := blk_frozen BK285.out 4
           have hns61_0 := NB284_285.out
           have hms61_0 := NB285_284.out
           refine skip_ (w1 := ?_) (by rfl) rfl ?_ ?_
           rotate_left
           ·go_simp
            rfl
           refine hK.out _ _ trivial (fun hHeld => ?_)
           clear hK K
           refine done_ (done_of HT_.out k1_) ?_
           have hnb62 := NB285_284.out
           have hnc62 := NB284_285.out
           obtain ⟨⟨hcz63_0, hcz63_1, hcz63_2, hcz63_3, hcz63_4, hcz63_5⟩, hfz63_0, hfz63_1, hfz63_2, hfz63_3, hfz63_4, hfz63_5⟩ := c6_ BK285.out
           try go_wp2_with (first | ((with_reducible refine gate_callee (f := 26) rfl ?_); refine goesL_ (some 100) rfl rfl Tryz.func26 k1_ rfl #[.agg #[.int .i64 2, .string x286001_1, .int .i64 2, .string (a0.extract ((ji52) : Int).toNat (t303 : Int).toNat), .string ⟨#[]⟩, .int .i64 a1], .int .i64 t303] rfl z90_ ?_; (with_reducible refine (g4_may.calls kj44 2 x286001_1 2 (a0.extract ((ji52) : Int).toNat (t303 : Int).toNat) (⟨#[]⟩ : ByteArray) a1 t303 t304 t305 t306 t307 t308 t309 t310 _ A56.out).mono ?_); rintro e w64 ⟨rfl, hb⟩; refine ⟨_, rfl, ?_⟩; replace BK284 := Ad.mk (blk_below (g := gb284) (o := .cells #[.int .i64 x285000_1, .string x285001_1, .int .i64 x285002_1, .string x285003_1, .string x285004_1, .int .i64 x285005_1] 43 (0, 0)) (by have G0 := NB284_285; have G1 := BK284; exact z89_) hb); replace BK285 := Ad.mk (blk_below (g := gb285) (o := .cells #[.int .i64 2, .string x286001_1, .int .i64 2, .string (a0.extract ((ji52) : Int).toNat (t303 : Int).toNat), .string ⟨#[]⟩, .int .i64 a1] 43 (0, 0)) (by refine bd_ ?_; refine blk_put (cs := #[.int .i64 2, .string x286001_1, .int .i64 2, .string (a0.extract ((ji52) : Int).toNat (t303 : Int).toNat), .string ⟨#[]⟩, .int .i64 a1]) ?_ 4 _ rfl; refine bd_ ?_; refine blk_put (cs := #[.int .i64 2, .string x286001_1, .int .i64 2, .string ⟨#[]⟩, .string ⟨#[]⟩, .int .i64 a1]) ?_ 3 _ rfl; refine bd_ ?_; refine blk_put (cs := #[.int .i64 2, .string x286001_1, .int .i64 0, .string ⟨#[]⟩, .string ⟨#[]⟩, .int .i64 a1]) ?_ 2 _ rfl; refine bd_ ?_; refine blk_put (cs := #[.int .i64 x286000_1, .string x286001_1, .int .i64 0, .string ⟨#[]⟩, .string ⟨#[]⟩, .int .i64 a1]) ?_ 0 _ rfl; refine bd_ ?_; exact BK285.out) hb); replace HB := Ad.mk (below_step (by have G0 := GE284; have G1 := GE285; exact z2_) hb); clear hb; obtain ⟨⟨hcz65_0, hcz65_1, hcz65_2, hcz65_3, hcz65_4, hcz65_5⟩, hfz65_0, hfz65_1, hfz65_2, hfz65_3, hfz65_4, hfz65_5⟩ := c6_ BK284.out))
           refine bodyPost_ret (results_ct rfl _ _ gb284 43 #[.int .i64 t304, .string t305, .int .i64 t306, .string t307, .string t308, .int .i64 t309] (0, 0) _ rfl (by refine bd_ ?_; refine blk_put (cs := #[.int .i64 t304, .string t305, .int .i64 t306, .string t307, .string t308, .int .i64 x285005_1]) ?_ 5 _ rfl; refine bd_ ?_; refine blk_put (cs := #[.int .i64 t304, .string t305, .int .i64 t306, .string t307, .string x285004_1, .int .i64 x285005_1]) ?_ 4 _ rfl; refine bd_ ?_; refine blk_put (cs := #[.int .i64 t304, .string t305, .int .i64 t306, .string x285003_1, .string x285004_1, .int .i64 x285005_1]) ?_ 3 _ rfl; refine bd_ ?_; refine blk_put (cs := #[.int .i64 t304, .string t305, .int .i64 x285002_1, .string x285003_1, .string x285004_1, .int .i64 x285005_1]) ?_ 2 _ rfl; refine bd_ ?_; refine blk_put (cs := #[.int .i64 t304, .string x285001_1, .int .i64 x285002_1, .string x285003_1, .string x285004_1, .int .i64 x285005_1]) ?_ 1 _ rfl; refine bd_ ?_; refine blk_put (cs := #[.int .i64 x285000_1, .string x285001_1, .int .i64 x285002_1, .string x285003_1, .string x285004_1, .int .i64 x285005_1]) ?_ 0 _ rfl; refine bd_ ?_; exact BK284.out) Tryz.underlying43 rfl k1_) rfl ?_
           exact ⟨by first | rfl | (simp [errW_none, errW_some] <;> rfl) | (simp only [← hji52]; first | rfl | (simp [errW_none, errW_some] <;> rfl)) | (simp [*, errW_none, errW_some] <;> rfl), by have G0 := GE284; have G1 := GE285; exact z2_⟩
          rw [if_neg c55] at H
          exact absurd H (by simp)
         rw [if_neg c54] at H
         exact absurd H (by simp)
        rw [if_neg c53] at H
        exact absurd H (by simp)
       replace c50 := Bool.eq_false_iff.mpr c50
       subst c50
       rw [if_neg (show ¬ (false = true) by decide)] at H
       by_cases c66 : (bt a0 a1) = 34
       ·rw [if_pos c66] at H
        have c66b0 := beq_iff_eq.mpr c66
        have c66b1 := bne_eq_false_iff_eq.mpr c66
        clear c66
        obtain ⟨⟨t311, t312⟩, A67, H⟩ := bi_ H
        try dsimp only at H
        simp only [Option.some.injEq, Prod.mk.injEq] at H
        obtain ⟨rfl, rfl, rfl, rfl, rfl, rfl, rfl⟩ := H
        go_wp2_with (first | ((with_reducible refine gate_callee (f := 25) rfl ?_); refine goesL_ (some 109) rfl rfl Tryz.func25 k1_ rfl #[.string a0, .int .i64 a1, .int .u8 34, .bool true] rfl g1_ ?_; (with_reducible refine (g4_quoted.calls kj44 a0 a1 34 true t311 t312 _ A67.out).mono ?_); rintro e w68 ⟨rfl, hb⟩; refine ⟨_, rfl, ?_⟩; replace BK284 := Ad.mk (blk_below (g := gb284) (o := .cells #[.int .i64 x285000_1, .string x285001_1, .int .i64 x285002_1, .string x285003_1, .string x285004_1, .int .i64 x285005_1] 43 (0, 0)) (bd_ BK284.out) hb); replace BK285 := Ad.mk (blk_below (g := gb285) (o := .cells #[.int .i64 x286000_1, .string x286001_1, .int .i64 0, .string ⟨#[]⟩, .string ⟨#[]⟩, .int .i64 a1] 43 (0, 0)) (bd_ BK285.out) hb); replace HB := Ad.mk (below_step (by have G0 := GE284; have G1 := GE285; exact z2_) hb); clear hb; have hnb69 := NB285_284.out; have hnc69 := NB284_285.out; obtain ⟨⟨hcz70_0, hcz70_1, hcz70_2, hcz70_3, hcz70_4, hcz70_5⟩, hfz70_0, hfz70_1, hfz70_2, hfz70_3, hfz70_4, hfz70_5⟩ := c6_ BK285.out; obtain ⟨⟨hcz71_0, hcz71_1, hcz71_2, hcz71_3, hcz71_4, hcz71_5⟩, hfz71_0, hfz71_1, hfz71_2, hfz71_3, hfz71_4, hfz71_5⟩ := c6_ BK284.out))
        refine bodyPost_ret (results_ct rfl _ _ gb284 43 #[.int .i64 3, .string t311, .int .i64 0, .string ⟨#[]⟩, .string ⟨#[]⟩, .int .i64 a1] (0, 0) _ rfl (by refine bd_ ?_; refine blk_put (cs := #[.int .i64 3, .string t311, .int .i64 0, .string ⟨#[]⟩, .string ⟨#[]⟩, .int .i64 x285005_1]) ?_ 5 _ rfl; refine bd_ ?_; refine blk_put (cs := #[.int .i64 3, .string t311, .int .i64 0, .string ⟨#[]⟩, .string x285004_1, .int .i64 x285005_1]) ?_ 4 _ rfl; refine bd_ ?_; refine blk_put (cs := #[.int .i64 3, .string t311, .int .i64 0, .string x285003_1, .string x285004_1, .int .i64 x285005_1]) ?_ 3 _ rfl; refine bd_ ?_; refine blk_put (cs := #[.int .i64 3, .string t311, .int .i64 x285002_1, .string x285003_1, .string x285004_1, .int .i64 x285005_1]) ?_ 2 _ rfl; refine bd_ ?_; refine blk_put (cs := #[.int .i64 3, .string x285001_1, .int .i64 x285002_1, .string x285003_1, .string x285004_1, .int .i64 x285005_1]) ?_ 1 _ rfl; refine bd_ ?_; refine blk_put (cs := #[.int .i64 x285000_1, .string x285001_1, .int .i64 x285002_1, .string x285003_1, .string x285004_1, .int .i64 x285005_1]) ?_ 0 _ rfl; refine bd_ ?_; refine blk_far ?_ NB284_285.out _; refine bd_ ?_; refine blk_far ?_ NB284_285.out _; refine bd_ ?_; exact BK284.out) Tryz.underlying43 rfl k1_) rfl ?_
        exact ⟨e2_, by have G0 := GE284; have G1 := GE285; exact z2_⟩
       rw [if_neg c66] at H
       have c66b0 := beq_eq_false_iff_ne.mpr c66
       have c66b1 := bne_iff_ne.mpr c66
       by_cases c72 : (bt a0 a1) = 64
       ·rw [if_pos c72] at H
        have c72b0 := beq_iff_eq.mpr c72
        have c72b1 := bne_eq_false_iff_eq.mpr c72
        clear c72
        have HC73 := Ad.mk H
        clear H
        go_upto_block 3 with (fail)
        go_cut [15] (fun v15 wc => ∃ (kq : Nat) (x15_72 : Int), v15 = .int .i64 x15_72 ∧ Ad (g4_One.j3 kq a0 a1 x15_72 x286000_1 x286001_1 0 (⟨#[]⟩ : ByteArray) (⟨#[]⟩ : ByteArray) a1 = some (r1, r2, r3, r4, r5, r6, r7)) ∧ Ad (kq ≤ kj44) ∧ Ad (wc.heap[gb284]? = some (.cells #[.int .i64 x285000_1, .string x285001_1, .int .i64 x285002_1, .string x285003_1, .string x285004_1, .int .i64 x285005_1] 43 (0, 0))) ∧ Ad (wc.heap[gb285]? = some (.cells #[.int .i64 x286000_1, .string x286001_1, .int .i64 0, .string ⟨#[]⟩, .string ⟨#[]⟩, .int .i64 a1] 43 (0, 0))) ∧ Ad (Below w.heap.size w wc))
        case first =>
         have H := HC73.out
         clear HC73
         have H' := Ad.mk H
         clear H
         go_wp2
         go_loopg [15] kj44 (fun kq v15 w' => ∃ (x15_3 : Int), v15 = .int .i64 x15_3 ∧ Ad (g4_One.l1 kq a0 a1 x15_3 x286000_1 x286001_1 0 (⟨#[]⟩ : ByteArray) (⟨#[]⟩ : ByteArray) a1 = some (r1, r2, r3, r4, r5, r6, r7)) ∧ Ad (kq ≤ kj44) ∧ Ad (w'.heap[gb284]? = some (.cells #[.int .i64 x285000_1, .string x285001_1, .int .i64 x285002_1, .string x285003_1, .string x285004_1, .int .i64 x285005_1] 43 (0, 0))) ∧ Ad (w'.heap[gb285]? = some (.cells #[.int .i64 x286000_1, .string x286001_1, .int .i64 0, .string ⟨#[]⟩, .string ⟨#[]⟩, .int .i64 a1] 43 (0, 0))) ∧ Ad (Below w.heap.size w w'))
         case atStart => exact ⟨(wrap64 (a1 + 1)), e1_, H', ⟨Nat.le_refl _⟩, ⟨by refine bd_ ?_; exact BK284.out⟩, ⟨by refine bd_ ?_; exact BK285.out⟩, ⟨by have G0 := GE284; have G1 := GE285; exact z2_⟩⟩
         case round =>
          clear H'
          try clear c1
          try clear p2
          try clear c3
          try clear c3b0
          try clear c4
          try clear c4b0
          try clear p5
          try clear q5
          try clear hx5
          try clear c8
          try clear c11
          try clear c11b0
          try clear c13
          try clear c13b0
          try clear c14
          try clear c14b0
          try clear c15
          try clear c15b0
          try clear c16
          try clear c16b0
          try clear c16b1
          try clear c17
          try clear c17b0
          try clear c17b1
          try clear c18
          try clear c18b0
          try clear c18b1
          try clear c19
          try clear c19b0
          try clear c19b1
          try clear c35
          try clear c35b0
          try clear c35b1
          try clear c48
          try clear c48b0
          try clear c48b1
          try clear c50
          try clear c53
          try clear c53b0
          try clear c53b1
          try clear c54
          try clear c54b0
          try clear c54b1
          try clear c55
          try clear c55b0
          try clear c55b1
          try clear c66
          try clear c66b0
          try clear c66b1
          try clear c72
          try clear c72b0
          try clear c72b1
          try clear hcz25_0
          try clear hcz25_1
          try clear hcz25_2
          try clear hcz25_3
          try clear hcz25_4
          try clear hcz25_5
          try clear hcz26_0
          try clear hcz26_1
          try clear hcz26_2
          try clear hcz26_3
          try clear hcz26_4
          try clear hcz26_5
          try clear hcz42_0
          try clear hcz42_1
          try clear hcz42_2
          try clear hcz42_3
          try clear hcz42_4
          try clear hcz42_5
          try clear hcz44_0
          try clear hcz44_1
          try clear hcz44_2
          try clear hcz44_3
          try clear hcz44_4
          try clear hcz44_5
          try clear hcz63_0
          try clear hcz63_1
          try clear hcz63_2
          try clear hcz63_3
          try clear hcz63_4
          try clear hcz63_5
          try clear hcz65_0
          try clear hcz65_1
          try clear hcz65_2
          try clear hcz65_3
          try clear hcz65_4
          try clear hcz65_5
          try clear hcz70_0
          try clear hcz70_1
          try clear hcz70_2
          try clear hcz70_3
          try clear hcz70_4
          try clear hcz70_5
          try clear hcz71_0
          try clear hcz71_1
          try clear hcz71_2
          try clear hcz71_3
          try clear hcz71_4
          try clear hcz71_5
          try clear hcz9_0
          try clear hcz9_1
          try clear hcz9_2
          try clear hcz9_3
          try clear hcz9_4
          try clear hcz9_5
          try clear hfz25_0
          try clear hfz25_1
          try clear hfz25_2
          try clear hfz25_3
          try clear hfz25_4
          try clear hfz25_5
          try clear hfz26_0
          try clear hfz26_1
          try clear hfz26_2
          try clear hfz26_3
          try clear hfz26_4
          try clear hfz26_5
          try clear hfz42_0
          try clear hfz42_1
          try clear hfz42_2
          try clear hfz42_3
          try clear hfz42_4
          try clear hfz42_5
          try clear hfz44_0
          try clear hfz44_1
          try clear hfz44_2
          try clear hfz44_3
          try clear hfz44_4
          try clear hfz44_5
          try clear hfz63_0
          try clear hfz63_1
          try clear hfz63_2
          try clear hfz63_3
          try clear hfz63_4
          try clear hfz63_5
          try clear hfz65_0
          try clear hfz65_1
          try clear hfz65_2
          try clear hfz65_3
          try clear hfz65_4
          try clear hfz65_5
          try clear hfz70_0
          try clear hfz70_1
          try clear hfz70_2
          try clear hfz70_3
          try clear hfz70_4
          try clear hfz70_5
          try clear hfz71_0
          try clear hfz71_1
          try clear hfz71_2
          try clear hfz71_3
          try clear hfz71_4
          try clear hfz71_5
          try clear hfz9_0
          try clear hfz9_1
          try clear hfz9_2
          try clear hfz9_3
          try clear hfz9_4
          try clear hfz9_5
          try clear hx292_0
          try clear p2
          try clear p292
          try clear p5
          try clear q292
          try clear q5
          obtain ⟨x15_3, rfl, HA, HK3, BK284, BK285, HB⟩ := hrel
          cases gk with
          | zero => exact absurd HA.out (by simp [g4_One.l1])
          | succ k3 =>
           have H := HA.out
           clear HA
           simp only [g4_One.l1] at H
           by_cases c74 : x15_3 < (a0.size : Int)
           ·rw [if_pos c74] at H
            have c74b0 := decide_eq_true c74
            clear c74
            (first | rw [c74b0] | (simp only [i64_w, i32_w]; rw [c74b0]) | skip)
            by_cases c75 : 0 ≤ x15_3
            ·rw [if_pos c75] at H
             have c75b0 := decide_eq_true c75
             clear c75
             by_cases c77 : (bt a0 x15_3) ≥ 97
             ·rw [if_pos c77] at H
              have c77b0 : decide (97 ≤ (bt a0 x15_3)) = true := decide_eq_true c77
              clear c77
              by_cases c79 : (bt a0 x15_3) ≤ 122
              ·rw [if_pos c79] at H
               have c79b0 := decide_eq_true c79
               clear c79
               have H' := Ad.mk H
               clear H
               have p76 : 0 ≤ (x15_3 : Int) := of_decide_eq_true a1_
               have q76 : x15_3 < (a0.size : Int) := of_decide_eq_true a1_
               have hx76 := bt_at a0 x15_3
               replace p76 := eq_true p76
               replace q76 := eq_true q76
               have p78 : 0 ≤ (x15_3 : Int) := of_decide_eq_true a1_
               have q78 : x15_3 < (a0.size : Int) := of_decide_eq_true a1_
               have hx78 := bt_at a0 x15_3
               replace p78 := eq_true p78
               replace q78 := eq_true q78
               go_wp2
               go_roundg k3
               case measure => have := HK1.out; have := HJ44.out; have := HK3.out; omega
               case rel => exact ⟨(wrap64 (x15_3 + 1)), e1_, H', ⟨z48_⟩, ⟨by refine bd_ ?_; exact BK284.out⟩, ⟨by refine bd_ ?_; exact BK285.out⟩, ⟨by have G0 := GE284; have G1 := GE285; exact z2_⟩⟩
              rw [if_neg c79] at H
              have c79b0 := decide_eq_false c79
              clear c79
              obtain ⟨t313, A81, H⟩ := bi_ H
              by_cases c82 : t313 = true
              ·subst c82
               rw [if_pos rfl] at H
               have H' := Ad.mk H
               clear H
               have p76 : 0 ≤ (x15_3 : Int) := of_decide_eq_true a1_
               have q76 : x15_3 < (a0.size : Int) := of_decide_eq_true a1_
               have hx76 := bt_at a0 x15_3
               replace p76 := eq_true p76
               replace q76 := eq_true q76
               have p78 : 0 ≤ (x15_3 : Int) := of_decide_eq_true a1_
               have q78 : x15_3 < (a0.size : Int) := of_decide_eq_true a1_
               have hx78 := bt_at a0 x15_3
               replace p78 := eq_true p78
               replace q78 := eq_true q78
               have p80 : 0 ≤ (x15_3 : Int) := of_decide_eq_true a1_
               have q80 : x15_3 < (a0.size : Int) := of_decide_eq_true a1_
               have hx80 := bt_at a0 x15_3
               replace p80 := eq_true p80
               replace q80 := eq_true q80
               go_wp2_with (first | (go_at_call 29; (with_reducible refine (g2_Digit.calls (bt a0 x15_3) true _ A81.out).mono ?_); rintro e w' ⟨rfl, ⟨nd, rfl⟩⟩))
               go_roundg k3
               case measure => have := HK1.out; have := HJ44.out; have := HK3.out; omega
               case rel => exact ⟨(wrap64 (x15_3 + 1)), e1_, H', ⟨z48_⟩, ⟨by refine bd_ ?_; exact BK284.out⟩, ⟨by refine bd_ ?_; exact BK285.out⟩, ⟨by have G0 := GE284; have G1 := GE285; exact z2_⟩⟩
              replace c82 := Bool.eq_false_iff.mpr c82
              subst c82
              rw [if_neg (show ¬ (false = true) by decide)] at H
              by_cases c84 : (bt a0 x15_3) = 45
              ·rw [if_pos c84] at H
               have c84b0 := beq_iff_eq.mpr c84
               have c84b1 := bne_eq_false_iff_eq.mpr c84
               clear c84
               have H' := Ad.mk H
               clear H
               have p76 : 0 ≤ (x15_3 : Int) := of_decide_eq_true a1_
               have q76 : x15_3 < (a0.size : Int) := of_decide_eq_true a1_
               have hx76 := bt_at a0 x15_3
               replace p76 := eq_true p76
               replace q76 := eq_true q76
               have p78 : 0 ≤ (x15_3 : Int) := of_decide_eq_true a1_
               have q78 : x15_3 < (a0.size : Int) := of_decide_eq_true a1_
               have hx78 := bt_at a0 x15_3
               replace p78 := eq_true p78
               replace q78 := eq_true q78
               have p80 : 0 ≤ (x15_3 : Int) := of_decide_eq_true a1_
               have q80 : x15_3 < (a0.size : Int) := of_decide_eq_true a1_
               have hx80 := bt_at a0 x15_3
               replace p80 := eq_true p80
               replace q80 := eq_true q80
               go_wp2_with (first | (go_at_call 29; (with_reducible refine (g2_Digit.calls (bt a0 x15_3) false _ A81.out).mono ?_); rintro e w' ⟨rfl, ⟨nd, rfl⟩⟩; have p83 : 0 ≤ (x15_3 : Int) := of_decide_eq_true a1_; have q83 : x15_3 < (a0.size : Int) := of_decide_eq_true a1_; have hx83 := bt_at a0 x15_3; replace p83 := eq_true p83; replace q83 := eq_true q83))
               go_roundg k3
               case measure => have := HK1.out; have := HJ44.out; have := HK3.out; omega
               case rel => exact ⟨(wrap64 (x15_3 + 1)), e1_, H', ⟨z48_⟩, ⟨by refine bd_ ?_; exact BK284.out⟩, ⟨by refine bd_ ?_; exact BK285.out⟩, ⟨by have G0 := GE284; have G1 := GE285; exact z2_⟩⟩
              rw [if_neg c84] at H
              have c84b0 := beq_eq_false_iff_ne.mpr c84
              have c84b1 := bne_iff_ne.mpr c84
              have H' := Ad.mk H
              clear H
              have p76 : 0 ≤ (x15_3 : Int) := of_decide_eq_true a1_
              have q76 : x15_3 < (a0.size : Int) := of_decide_eq_true a1_
              have hx76 := bt_at a0 x15_3
              replace p76 := eq_true p76
              replace q76 := eq_true q76
              have p78 : 0 ≤ (x15_3 : Int) := of_decide_eq_true a1_
              have q78 : x15_3 < (a0.size : Int) := of_decide_eq_true a1_
              have hx78 := bt_at a0 x15_3
              replace p78 := eq_true p78
              replace q78 := eq_true q78
              have p80 : 0 ≤ (x15_3 : Int) := of_decide_eq_true a1_
              have q80 : x15_3 < (a0.size : Int) := of_decide_eq_true a1_
              have hx80 := bt_at a0 x15_3
              replace p80 := eq_true p80
              replace q80 := eq_true q80
              go_wp2_with (first | (go_at_call 29; (with_reducible refine (g2_Digit.calls (bt a0 x15_3) false _ A81.out).mono ?_); rintro e w' ⟨rfl, ⟨nd, rfl⟩⟩; have p83 : 0 ≤ (x15_3 : Int) := of_decide_eq_true a1_; have q83 : x15_3 < (a0.size : Int) := of_decide_eq_true a1_; have hx83 := bt_at a0 x15_3; replace p83 := eq_true p83; replace q83 := eq_true q83))
              go_meet
              case rel => exact ⟨_, (x15_3), e1_, H', ⟨z67_⟩, ⟨by refine bd_ ?_; exact BK284.out⟩, ⟨by refine bd_ ?_; exact BK285.out⟩, ⟨by have G0 := GE284; have G1 := GE285; exact z2_⟩⟩
             rw [if_neg c77] at H
             have c77b0 : decide (97 ≤ (bt a0 x15_3)) = false := decide_eq_false c77
             clear c77
             obtain ⟨t314, A86, H⟩ := bi_ H
             by_cases c87 : t314 = true
             ·subst c87
              rw [if_pos rfl] at H
              have H' := Ad.mk H
              clear H
              have p76 : 0 ≤ (x15_3 : Int) := of_decide_eq_true a1_
              have q76 : x15_3 < (a0.size : Int) := of_decide_eq_true a1_
              have hx76 := bt_at a0 x15_3
              replace p76 := eq_true p76
              replace q76 := eq_true q76
              have p85 : 0 ≤ (x15_3 : Int) := of_decide_eq_true a1_
              have q85 : x15_3 < (a0.size : Int) := of_decide_eq_true a1_
              have hx85 := bt_at a0 x15_3
              replace p85 := eq_true p85
              replace q85 := eq_true q85
              go_wp2_with (first | (go_at_call 29; (with_reducible refine (g2_Digit.calls (bt a0 x15_3) true _ A86.out).mono ?_); rintro e w' ⟨rfl, ⟨nd, rfl⟩⟩))
              go_roundg k3
              case measure => have := HK1.out; have := HJ44.out; have := HK3.out; omega
              case rel => exact ⟨(wrap64 (x15_3 + 1)), e1_, H', ⟨z48_⟩, ⟨by refine bd_ ?_; exact BK284.out⟩, ⟨by refine bd_ ?_; exact BK285.out⟩, ⟨by have G0 := GE284; have G1 := GE285; exact z2_⟩⟩
             replace c87 := Bool.eq_false_iff.mpr c87
             subst c87
             rw [if_neg (show ¬ (false = true) by decide)] at H
             by_cases c89 : (bt a0 x15_3) = 45
             ·rw [if_pos c89] at H
              have c89b0 := beq_iff_eq.mpr c89
              have c89b1 := bne_eq_false_iff_eq.mpr c89
              clear c89
              have H' := Ad.mk H
              clear H
              have p76 : 0 ≤ (x15_3 : Int) := of_decide_eq_true a1_
              have q76 : x15_3 < (a0.size : Int) := of_decide_eq_true a1_
              have hx76 := bt_at a0 x15_3
              replace p76 := eq_true p76
              replace q76 := eq_true q76
              have p85 : 0 ≤ (x15_3 : Int) := of_decide_eq_true a1_
              have q85 : x15_3 < (a0.size : Int) := of_decide_eq_true a1_
              have hx85 := bt_at a0 x15_3
              replace p85 := eq_true p85
              replace q85 := eq_true q85
              go_wp2_with (first | (go_at_call 29; (with_reducible refine (g2_Digit.calls (bt a0 x15_3) false _ A86.out).mono ?_); rintro e w' ⟨rfl, ⟨nd, rfl⟩⟩; have p88 : 0 ≤ (x15_3 : Int) := of_decide_eq_true a1_; have q88 : x15_3 < (a0.size : Int) := of_decide_eq_true a1_; have hx88 := bt_at a0 x15_3; replace p88 := eq_true p88; replace q88 := eq_true q88))
              go_roundg k3
              case measure => have := HK1.out; have := HJ44.out; have := HK3.out; omega
              case rel => exact ⟨(wrap64 (x15_3 + 1)), e1_, H', ⟨z48_⟩, ⟨by refine bd_ ?_; exact BK284.out⟩, ⟨by refine bd_ ?_; exact BK285.out⟩, ⟨by have G0 := GE284; have G1 := GE285; exact z2_⟩⟩
             rw [if_neg c89] at H
             have c89b0 := beq_eq_false_iff_ne.mpr c89
             have c89b1 := bne_iff_ne.mpr c89
             have H' := Ad.mk H
             clear H
             have p76 : 0 ≤ (x15_3 : Int) := of_decide_eq_true a1_
             have q76 : x15_3 < (a0.size : Int) := of_decide_eq_true a1_
             have hx76 := bt_at a0 x15_3
             replace p76 := eq_true p76
             replace q76 := eq_true q76
             have p85 : 0 ≤ (x15_3 : Int) := of_decide_eq_true a1_
             have q85 : x15_3 < (a0.size : Int) := of_decide_eq_true a1_
             have hx85 := bt_at a0 x15_3
             replace p85 := eq_true p85
             replace q85 := eq_true q85
             go_wp2_with (first | (go_at_call 29; (with_reducible refine (g2_Digit.calls (bt a0 x15_3) false _ A86.out).mono ?_); rintro e w' ⟨rfl, ⟨nd, rfl⟩⟩; have p88 : 0 ≤ (x15_3 : Int) := of_decide_eq_true a1_; have q88 : x15_3 < (a0.size : Int) := of_decide_eq_true a1_; have hx88 := bt_at a0 x15_3; replace p88 := eq_true p88; replace q88 := eq_true q88))
             go_meet
             case rel => exact ⟨_, (x15_3), e1_, H', ⟨z67_⟩, ⟨by refine bd_ ?_; exact BK284.out⟩, ⟨by refine bd_ ?_; exact BK285.out⟩, ⟨by have G0 := GE284; have G1 := GE285; exact z2_⟩⟩
            rw [if_neg c75] at H
            exact absurd H (by simp)
           rw [if_neg c74] at H
           have c74b0 := decide_eq_false c74
           clear c74
           (first | rw [c74b0] | (simp only [i64_w, i32_w]; rw [c74b0]) | skip)
           have H' := Ad.mk H
           clear H
           go_wp2
           go_meet
           case rel => exact ⟨_, (x15_3), e1_, H', ⟨z67_⟩, ⟨by refine bd_ ?_; exact BK284.out⟩, ⟨by refine bd_ ?_; exact BK285.out⟩, ⟨by have G0 := GE284; have G1 := GE285; exact z2_⟩⟩
        case rest =>
         clear HC73
         try clear c1
         try clear p2
         try clear c3
         try clear c3b0
         try clear c4
         try clear c4b0
         try clear p5
         try clear q5
         try clear hx5
         try clear c8
         try clear c11
         try clear c11b0
         try clear c13
         try clear c13b0
         try clear c14
         try clear c14b0
         try clear c15
         try clear c15b0
         try clear c16
         try clear c16b0
         try clear c16b1
         try clear c17
         try clear c17b0
         try clear c17b1
         try clear c18
         try clear c18b0
         try clear c18b1
         try clear c19
         try clear c19b0
         try clear c19b1
         try clear c35
         try clear c35b0
         try clear c35b1
         try clear c48
         try clear c48b0
         try clear c48b1
         try clear c50
         try clear c53
         try clear c53b0
         try clear c53b1
         try clear c54
         try clear c54b0
         try clear c54b1
         try clear c55
         try clear c55b0
         try clear c55b1
         try clear c66
         try clear c66b0
         try clear c66b1
         try clear c72
         try clear c72b0
         try clear c72b1
         try clear hcz25_0
         try clear hcz25_1
         try clear hcz25_2
         try clear hcz25_3
         try clear hcz25_4
         try clear hcz25_5
         try clear hcz26_0
         try clear hcz26_1
         try clear hcz26_2
         try clear hcz26_3
         try clear hcz26_4
         try clear hcz26_5
         try clear hcz42_0
         try clear hcz42_1
         try clear hcz42_2
         try clear hcz42_3
         try clear hcz42_4
         try clear hcz42_5
         try clear hcz44_0
         try clear hcz44_1
         try clear hcz44_2
         try clear hcz44_3
         try clear hcz44_4
         try clear hcz44_5
         try clear hcz63_0
         try clear hcz63_1
         try clear hcz63_2
         try clear hcz63_3
         try clear hcz63_4
         try clear hcz63_5
         try clear hcz65_0
         try clear hcz65_1
         try clear hcz65_2
         try clear hcz65_3
         try clear hcz65_4
         try clear hcz65_5
         try clear hcz70_0
         try clear hcz70_1
         try clear hcz70_2
         try clear hcz70_3
         try clear hcz70_4
         try clear hcz70_5
         try clear hcz71_0
         try clear hcz71_1
         try clear hcz71_2
         try clear hcz71_3
         try clear hcz71_4
         try clear hcz71_5
         try clear hcz9_0
         try clear hcz9_1
         try clear hcz9_2
         try clear hcz9_3
         try clear hcz9_4
         try clear hcz9_5
         try clear hfz25_0
         try clear hfz25_1
         try clear hfz25_2
         try clear hfz25_3
         try clear hfz25_4
         try clear hfz25_5
         try clear hfz26_0
         try clear hfz26_1
         try clear hfz26_2
         try clear hfz26_3
         try clear hfz26_4
         try clear hfz26_5
         try clear hfz42_0
         try clear hfz42_1
         try clear hfz42_2
         try clear hfz42_3
         try clear hfz42_4
         try clear hfz42_5
         try clear hfz44_0
         try clear hfz44_1
         try clear hfz44_2
         try clear hfz44_3
         try clear hfz44_4
         try clear hfz44_5
         try clear hfz63_0
         try clear hfz63_1
         try clear hfz63_2
         try clear hfz63_3
         try clear hfz63_4
         try clear hfz63_5
         try clear hfz65_0
         try clear hfz65_1
         try clear hfz65_2
         try clear hfz65_3
         try clear hfz65_4
         try clear hfz65_5
         try clear hfz70_0
         try clear hfz70_1
         try clear hfz70_2
         try clear hfz70_3
         try clear hfz70_4
         try clear hfz70_5
         try clear hfz71_0
         try clear hfz71_1
         try clear hfz71_2
         try clear hfz71_3
         try clear hfz71_4
         try clear hfz71_5
         try clear hfz9_0
         try clear hfz9_1
         try clear hfz9_2
         try clear hfz9_3
         try clear hfz9_4
         try clear hfz9_5
         try clear hx292_0
         try clear p2
         try clear p292
         try clear p5
         try clear q292
         try clear q5
         obtain ⟨kq, x15_72, rfl, HA, HJ72, BK284, BK285, HB⟩ := hcut
         cases kq with
         | zero => exact absurd HA.out (by simp [g4_One.j3])
         | succ kj72 =>
          have H := HA.out
          clear HA
          simp only [g4_One.j3] at H
          obtain ⟨ji90, hji90⟩ : ∃ j_ : Int, (wrap64 (a1 + 1)) = j_ := ⟨_, rfl⟩
          replace H : (if 0 ≤ (ji90) then (if (ji90) ≤ x15_72 then (if x15_72 ≤ (a0.size : Int) then ((g2_May.f kj72 4 (⟨#[]⟩ : ByteArray) (a0.extract ((ji90) : Int).toNat (x15_72 : Int).toNat)).bind fun t315 => (if t315 = true then (some (4, a0.extract ((ji90) : Int).toNat (x15_72 : Int).toNat, 0, (⟨#[]⟩ : ByteArray), (⟨#[]⟩ : ByteArray), a1, x15_72)) else (some (4, a0.extract ((ji90) : Int).toNat (x15_72 : Int).toNat, 0, (⟨#[]⟩ : ByteArray), (⟨#[]⟩ : ByteArray), a1, (-1))))) else (none)) else (none)) else (none)) = some (r1, r2, r3, r4, r5, r6, r7) := by first | (rw [hji90] at H; exact H) | (simp only [hji90] at H ⊢; exact H)
          have hji90w : (IntKind.i64.wrap (a1 + 1)) = ji90 := (i64_w _).trans hji90
          by_cases c91 : 0 ≤ (ji90)
          ·rw [if_pos c91] at H
           have c91b0 := eq_true c91
           have c91b1 := decide_eq_true c91
           clear c91
           by_cases c92 : (ji90) ≤ x15_72
           ·rw [if_pos c92] at H
            have c92b0 := eq_true c92
            have c92b1 := decide_eq_true c92
            clear c92
            by_cases c93 : x15_72 ≤ (a0.size : Int)
            ·rw [if_pos c93] at H
             have c93b0 := eq_true c93
             have c93b1 := decide_eq_true c93
             clear c93
             obtain ⟨t315, A94, H⟩ := bi_ H
             by_cases c95 : t315 = true
             ·subst c95
              rw [if_pos rfl] at H
              simp only [Option.some.injEq, Prod.mk.injEq] at H
              obtain ⟨rfl, rfl, rfl, rfl, rfl, rfl, rfl⟩ := H
              try go_wp2
              have n0_ := Ad.mk (blk_drew BK284.out)
              have n1_ := Ad.mk (blk_drew BK285.out)
              have n2_ := Ad.mk (below_drew1 HB.out)
              clear BK284
              clear BK285
              clear HB
              have BK284 := n0_
              have BK285 := n1_
              have HB := n2_
              clear n0_ n1_ n2_
              refine start_ (n := 9) (S := fun w' => True) (ds := []) #[false, false, false, false, false, false, false, false, false] k1_ rfl rfl trivial (fun hHeld => ?_); refine with_tabW g4_One.tab26 g4_One.bits26 (fun HT_ HW_ => ?_)
              generalize wc.drew = w96 at BK284 BK285 HB hHeld ⊢
              refine pure_ (i := 0) (N := some 152) #[true, false, false, false, false, false, false, false, false] rfl rfl (any_of HT_.out k1_) (fun _ _ _ h => h) (Or.inl ⟨by rfl, py_⟩) pa_ ?_
              refine pure_ (i := 1) (N := some 153) #[true, true, false, false, false, false, false, false, false] rfl rfl (any_of HT_.out k1_) (fun _ _ _ h => h) (Or.inl ⟨by rfl, py_⟩) pa_ ?_
              refine pure_ (i := 2) (N := some 154) #[true, true, true, false, false, false, false, false, false] rfl rfl (any_of HT_.out k1_) (fun _ _ _ h => h) (Or.inl ⟨by rfl, py_⟩) pa_ ?_
              refine pure_ (i := 3) (N := some 155) #[true, true, true, true, false, false, false, false, false] rfl rfl (any_of HT_.out k1_) (fun _ _ _ h => h) (Or.inl ⟨by rfl, py_⟩) pa_ ?_
              refine pure_ (i := 4) (N := some 156) #[true, true, true, true, true, false, false, false, false] rfl rfl (any_of HT_.out k1_) (fun _ _ _ h => h) (Or.inl ⟨by rfl, py_⟩) pa_ ?_
              refine pure_ (i := 5) (N := some 157) #[true, true, true, true, true, true, false, false, false] rfl rfl (any_of HT_.out k1_) (fun _ _ _ h => h) (Or.inl ⟨by rfl, py_⟩) pa_ ?_
              refine one_ (i := 6) (N := none) #[true, true, true, true, true, true, true, false, false] rfl rfl (one_of HT_.out k1_) (by decide) (fun K hK => ?_)
              have hs97 : w96.cell? ⟨gb285, 0, none⟩ = some (.int .i64 x286000_1) := (blk_cell BK285.out 0).trans rfl
              have hfs97 := blk_frozen BK285.out 0
              have hns97_0 := NB284_285.out
              have hms97_0 := NB285_284.out
              refine skip_ (w1 := ?_) (by rfl) rfl ?_ ?_
              rotate_left
              ·go_simp
               rfl
              refine hK.out _ _ trivial (fun hHeld => ?_)
              clear hK K
              refine pure_ (i := 7) (N := some 158) #[true, true, true, true, true, true, true, true, false] rfl rfl (any_of HT_.out k1_) (fun _ _ _ h => h) (Or.inl ⟨by rfl, py_⟩) pa_ ?_
              refine one_ (i := 8) (N := none) #[true, true, true, true, true, true, true, true, true] rfl rfl (one_of HT_.out k1_) (by decide) (fun K hK => ?_)
              have hs98 : w96.cell? ⟨gb285, 1, none⟩ = some (.string x286001_1) := (blk_cell BK285.out 1).trans rfl
              have hfs98 := blk_frozen BK285.out 1
              have hns98_0 := NB284_285.out
              have hms98_0 := NB285_284.out
              refine skip_ (w1 := ?_) (by rfl) rfl ?_ ?_
              rotate_left
              ·go_simp
               rfl
              refine hK.out _ _ trivial (fun hHeld => ?_)
              clear hK K
              refine done_ (done_of HT_.out k1_) ?_
              have hnb99 := NB285_284.out
              have hnc99 := NB284_285.out
              obtain ⟨⟨hcz100_0, hcz100_1, hcz100_2, hcz100_3, hcz100_4, hcz100_5⟩, hfz100_0, hfz100_1, hfz100_2, hfz100_3, hfz100_4, hfz100_5⟩ := c6_ BK285.out
              try go_wp2_with (first | ((with_reducible refine gate_callee (f := 21) rfl ?_); refine goesL_ (some 162) rfl rfl Tryz.func21 k1_ rfl #[.agg #[.int .i64 4, .string ⟨#[]⟩, .string (a0.extract ((ji90) : Int).toNat (x15_72 : Int).toNat)]] rfl z91_ ?_; (with_reducible refine (g2_May.calls kj72 4 (⟨#[]⟩ : ByteArray) (a0.extract ((ji90) : Int).toNat (x15_72 : Int).toNat) true _ A94.out).mono ?_); rintro e w101 ⟨rfl, hb⟩; refine ⟨_, rfl, ?_⟩; replace BK284 := Ad.mk (blk_below (g := gb284) (o := .cells #[.int .i64 x285000_1, .string x285001_1, .int .i64 x285002_1, .string x285003_1, .string x285004_1, .int .i64 x285005_1] 43 (0, 0)) (by have G0 := NB284_285; have G1 := BK284; exact z30_) hb); replace BK285 := Ad.mk (blk_below (g := gb285) (o := .cells #[.int .i64 4, .string (a0.extract ((ji90) : Int).toNat (x15_72 : Int).toNat), .int .i64 0, .string ⟨#[]⟩, .string ⟨#[]⟩, .int .i64 a1] 43 (0, 0)) (by have G0 := BK285; exact z92_) hb); replace HB := Ad.mk (below_step (by have G0 := GE284; have G1 := GE285; exact z2_) hb); clear hb; have hcz102_0 := cl_ (.int .i64 4) BK285.out 0; have hcz102_1 := cl_ (.string (a0.extract ((ji90) : Int).toNat (x15_72 : Int).toNat)) BK285.out 1; have hcz102_2 := cl_ (.int .i64 0) BK285.out 2; have hcz102_3 := cl_ (.string ⟨#[]⟩) BK285.out 3; have hcz102_4 := cl_ (.string ⟨#[]⟩) BK285.out 4; have hcz102_5 := cl_ (.int .i64 a1) BK285.out 5; have hfz102_0 := blk_frozen BK285.out 0; have hfz102_1 := blk_frozen BK285.out 1; have hfz102_2 := blk_frozen BK285.out 2; have hfz102_3 := blk_frozen BK285.out 3; have hfz102_4 := blk_frozen BK285.out 4; have hfz102_5 := blk_frozen BK285.out 5; obtain ⟨⟨hcz103_0, hcz103_1, hcz103_2, hcz103_3, hcz103_4, hcz103_5⟩, hfz103_0, hfz103_1, hfz103_2, hfz103_3, hfz103_4, hfz103_5⟩ := c6_ BK284.out))
              refine bodyPost_ret (results_ct rfl _ _ gb284 43 #[.int .i64 4, .string (a0.extract ((ji90) : Int).toNat (x15_72 : Int).toNat), .int .i64 0, .string ⟨#[]⟩, .string ⟨#[]⟩, .int .i64 a1] (0, 0) _ rfl (by have G0 := BK284; exact z93_) Tryz.underlying43 rfl k1_) rfl ?_
              exact ⟨z94_, by have G0 := GE284; have G1 := GE285; exact z2_⟩
             replace c95 := Bool.eq_false_iff.mpr c95
             subst c95
             rw [if_neg (show ¬ (false = true) by decide)] at H
             simp only [Option.some.injEq, Prod.mk.injEq] at H
             obtain ⟨rfl, rfl, rfl, rfl, rfl, rfl, rfl⟩ := H
             try go_wp2
             have n0_ := Ad.mk (blk_drew BK284.out)
             have n1_ := Ad.mk (blk_drew BK285.out)
             have n2_ := Ad.mk (below_drew1 HB.out)
             clear BK284
             clear BK285
             clear HB
             have BK284 := n0_
             have BK285 := n1_
             have HB := n2_
             clear n0_ n1_ n2_
             refine start_ (n := 9) (S := fun w' => True) (ds := []) #[false, false, false, false, false, false, false, false, false] k1_ rfl rfl trivial (fun hHeld => ?_); refine with_tabW g4_One.tab26 g4_One.bits26 (fun HT_ HW_ => ?_)
             generalize wc.drew = w104 at BK284 BK285 HB hHeld ⊢
             refine pure_ (i := 0) (N := some 152) #[true, false, false, false, false, false, false, false, false] rfl rfl (any_of HT_.out k1_) (fun _ _ _ h => h) (Or.inl ⟨by rfl, py_⟩) pa_ ?_
             refine pure_ (i := 1) (N := some 153) #[true, true, false, false, false, false, false, false, false] rfl rfl (any_of HT_.out k1_) (fun _ _ _ h => h) (Or.inl ⟨by rfl, py_⟩) pa_ ?_
             refine pure_ (i := 2) (N := some 154) #[true, true, true, false, false, false, false, false, false] rfl rfl (any_of HT_.out k1_) (fun _ _ _ h => h) (Or.inl ⟨by rfl, py_⟩) pa_ ?_
             refine pure_ (i := 3) (N := some 155) #[true, true, true, true, false, false, false, false, false] rfl rfl (any_of HT_.out k1_) (fun _ _ _ h => h) (Or.inl ⟨by rfl, py_⟩) pa_ ?_
             refine pure_ (i := 4) (N := some 156) #[true, true, true, true, true, false, false, false, false] rfl rfl (any_of HT_.out k1_) (fun _ _ _ h => h) (Or.inl ⟨by rfl, py_⟩) pa_ ?_
             refine pure_ (i := 5) (N := some 157) #[true, true, true, true, true, true, false, false, false] rfl rfl (any_of HT_.out k1_) (fun _ _ _ h => h) (Or.inl ⟨by rfl, py_⟩) pa_ ?_
             refine one_ (i := 6) (N := none) #[true, true, true, true, true, true, true, false, false] rfl rfl (one_of HT_.out k1_) (by decide) (fun K hK => ?_)
             have hs105 : w104.cell? ⟨gb285, 0, none⟩ = some (.int .i64 x286000_1) := (blk_cell BK285.out 0).trans rfl
             have hfs105 := blk_frozen BK285.out 0
             have hns105_0 := NB284_285.out
             have hms105_0 := NB285_284.out
             refine skip_ (w1 := ?_) (by rfl) rfl ?_ ?_
             rotate_left
             ·go_simp
              rfl
             refine hK.out _ _ trivial (fun hHeld => ?_)
             clear hK K
             refine pure_ (i := 7) (N := some 158) #[true, true, true, true, true, true, true, true, false] rfl rfl (any_of HT_.out k1_) (fun _ _ _ h => h) (Or.inl ⟨by rfl, py_⟩) pa_ ?_
             refine one_ (i := 8) (N := none) #[true, true, true, true, true, true, true, true, true] rfl rfl (one_of HT_.out k1_) (by decide) (fun K hK => ?_)
             have hs106 : w104.cell? ⟨gb285, 1, none⟩ = some (.string x286001_1) := (blk_cell BK285.out 1).trans rfl
             have hfs106 := blk_frozen BK285.out 1
             have hns106_0 := NB284_285.out
             have hms106_0 := NB285_284.out
             refine skip_ (w1 := ?_) (by rfl) rfl ?_ ?_
             rotate_left
             ·go_simp
              rfl
             refine hK.out _ _ trivial (fun hHeld => ?_)
             clear hK K
             refine done_ (done_of HT_.out k1_) ?_
             have hnb107 := NB285_284.out
             have hnc107 := NB284_285.out
             obtain ⟨⟨hcz108_0, hcz108_1, hcz108_2, hcz108_3, hcz108_4, hcz108_5⟩, hfz108_0, hfz108_1, hfz108_2, hfz108_3, hfz108_4, hfz108_5⟩ := c6_ BK285.out
             try go_wp2_with (first | ((with_reducible refine gate_callee (f := 21) rfl ?_); refine goesL_ (some 162) rfl rfl Tryz.func21 k1_ rfl #[.agg #[.int .i64 4, .string ⟨#[]⟩, .string (a0.extract ((ji90) : Int).toNat (x15_72 : Int).toNat)]] rfl z91_ ?_; (with_reducible refine (g2_May.calls kj72 4 (⟨#[]⟩ : ByteArray) (a0.extract ((ji90) : Int).toNat (x15_72 : Int).toNat) false _ A94.out).mono ?_); rintro e w109 ⟨rfl, hb⟩; refine ⟨_, rfl, ?_⟩; replace BK284 := Ad.mk (blk_below (g := gb284) (o := .cells #[.int .i64 x285000_1, .string x285001_1, .int .i64 x285002_1, .string x285003_1, .string x285004_1, .int .i64 x285005_1] 43 (0, 0)) (by have G0 := NB284_285; have G1 := BK284; exact z30_) hb); replace BK285 := Ad.mk (blk_below (g := gb285) (o := .cells #[.int .i64 4, .string (a0.extract ((ji90) : Int).toNat (x15_72 : Int).toNat), .int .i64 0, .string ⟨#[]⟩, .string ⟨#[]⟩, .int .i64 a1] 43 (0, 0)) (by have G0 := BK285; exact z92_) hb); replace HB := Ad.mk (below_step (by have G0 := GE284; have G1 := GE285; exact z2_) hb); clear hb; have hcz110_0 := cl_ (.int .i64 4) BK285.out 0; have hcz110_1 := cl_ (.string (a0.extract ((ji90) : Int).toNat (x15_72 : Int).toNat)) BK285.out 1; have hcz110_2 := cl_ (.int .i64 0) BK285.out 2; have hcz110_3 := cl_ (.string ⟨#[]⟩) BK285.out 3; have hcz110_4 := cl_ (.string ⟨#[]⟩) BK285.out 4; have hcz110_5 := cl_ (.int .i64 a1) BK285.out 5; have hfz110_0 := blk_frozen BK285.out 0; have hfz110_1 := blk_frozen BK285.out 1; have hfz110_2 := blk_frozen BK285.out 2; have hfz110_3 := blk_frozen BK285.out 3; have hfz110_4 := blk_frozen BK285.out 4; have hfz110_5 := blk_frozen BK285.out 5; obtain ⟨⟨hcz111_0, hcz111_1, hcz111_2, hcz111_3, hcz111_4, hcz111_5⟩, hfz111_0, hfz111_1, hfz111_2, hfz111_3, hfz111_4, hfz111_5⟩ := c6_ BK284.out))
             refine bodyPost_ret (results_ct rfl _ _ gb284 43 #[.int .i64 4, .string (a0.extract ((ji90) : Int).toNat (x15_72 : Int).toNat), .int .i64 0, .string ⟨#[]⟩, .string ⟨#[]⟩, .int .i64 a1] (0, 0) _ rfl (by have G0 := BK284; exact z93_) Tryz.underlying43 rfl k1_) rfl ?_
             exact ⟨z94_, by have G0 := GE284; have G1 := GE285; exact z2_⟩
            rw [if_neg c93] at H
            exact absurd H (by simp)
           rw [if_neg c92] at H
           exact absurd H (by simp)
          rw [if_neg c91] at H
          exact absurd H (by simp)
       rw [if_neg c72] at H
       have c72b0 := beq_eq_false_iff_ne.mpr c72
       have c72b1 := bne_iff_ne.mpr c72
       by_cases c112 : (bt a0 a1) = 63
       ·rw [if_pos c112] at H
        have c112b0 := beq_iff_eq.mpr c112
        have c112b1 := bne_eq_false_iff_eq.mpr c112
        clear c112
        obtain ⟨t316, A113, H⟩ := bi_ H
        obtain ⟨ji114, hji114⟩ : ∃ j_ : Int, (wrap64 (a1 + 1)) = j_ := ⟨_, rfl⟩
        replace H : (if 0 ≤ (ji114) then (if (ji114) ≤ t316 then (if t316 ≤ (a0.size : Int) then (if t316 = (ji114) then (some (5, a0.extract ((ji114) : Int).toNat (t316 : Int).toNat, 0, (⟨#[]⟩ : ByteArray), (⟨#[]⟩ : ByteArray), a1, (-1))) else (if t316 > (wrap64 (a1 + 33)) then (some (5, a0.extract ((ji114) : Int).toNat (t316 : Int).toNat, 0, (⟨#[]⟩ : ByteArray), (⟨#[]⟩ : ByteArray), a1, (-1))) else (some (5, a0.extract ((ji114) : Int).toNat (t316 : Int).toNat, 0, (⟨#[]⟩ : ByteArray), (⟨#[]⟩ : ByteArray), a1, t316)))) else (none)) else (none)) else (none)) = some (r1, r2, r3, r4, r5, r6, r7) := by first | (rw [hji114] at H; exact H) | (simp only [hji114] at H ⊢; exact H)
        (try rw [hji114] at A113)
        have hji114w : (IntKind.i64.wrap (a1 + 1)) = ji114 := (i64_w _).trans hji114
        by_cases c115 : 0 ≤ (ji114)
        ·rw [if_pos c115] at H
         have c115b0 := eq_true c115
         have c115b1 := decide_eq_true c115
         clear c115
         by_cases c116 : (ji114) ≤ t316
         ·rw [if_pos c116] at H
          have c116b0 := eq_true c116
          have c116b1 := decide_eq_true c116
          clear c116
          by_cases c117 : t316 ≤ (a0.size : Int)
          ·rw [if_pos c117] at H
           have c117b0 := eq_true c117
           have c117b1 := decide_eq_true c117
           clear c117
           by_cases c118 : t316 = (ji114)
           ·rw [if_pos c118] at H
            have c118b0 := beq_iff_eq.mpr c118
            have c118b1 := bne_eq_false_iff_eq.mpr c118
            clear c118
            simp only [Option.some.injEq, Prod.mk.injEq] at H
            obtain ⟨rfl, rfl, rfl, rfl, rfl, rfl, rfl⟩ := H
            try go_wp2_with (first | ((with_reducible refine gate_callee (f := 28) rfl ?_); refine goesL_ (some 173) rfl rfl Tryz.func28 k1_ rfl #[.string a0, .int .i64 ji114] rfl z68_ ?_; (with_reducible refine (g4_word.calls kj44 a0 ji114 t316 _ A113.out).mono ?_); rintro e w' ⟨rfl, ⟨nd, rfl⟩⟩; refine ⟨_, rfl, ?_⟩; (try (rw [drewN_self wc]; generalize hq_ : World.drewN wc _ = wc; have n0_ : Ad (wc.heap[gb284]? = some (.cells #[.int .i64 x285000_1, .string x285001_1, .int .i64 x285002_1, .string x285003_1, .string x285004_1, .int .i64 x285005_1] 43 (0, 0))) := ⟨by rw [← hq_]; exact (bd_ BK284.out)⟩; have n1_ : Ad (wc.heap[gb285]? = some (.cells #[.int .i64 x286000_1, .string x286001_1, .int .i64 0, .string ⟨#[]⟩, .string ⟨#[]⟩, .int .i64 a1] 43 (0, 0))) := ⟨by rw [← hq_]; exact (bd_ BK285.out)⟩; have n2_ : Ad (Below w.heap.size w wc) := ⟨by have G0 := GE284; have G1 := GE285; exact z28_⟩; clear BK284 BK285 HB hq_; have BK284 := n0_; have BK285 := n1_; have HB := n2_; clear n0_ n1_ n2_))))
            have n0_ := Ad.mk (blk_drew BK284.out)
            have n1_ := Ad.mk (blk_drew BK285.out)
            have n2_ := Ad.mk (below_drew1 HB.out)
            clear BK284
            clear BK285
            clear HB
            have BK284 := n0_
            have BK285 := n1_
            have HB := n2_
            clear n0_ n1_ n2_
            refine start_ (n := 9) (S := fun w' => True) (ds := []) #[false, false, false, false, false, false, false, false, false] k1_ rfl rfl trivial (fun hHeld => ?_); refine with_tabW g4_One.tab32 g4_One.bits32 (fun HT_ HW_ => ?_)
            generalize wc.drew = w119 at BK284 BK285 HB hHeld ⊢
            refine pure_ (i := 0) (N := some 174) #[true, false, false, false, false, false, false, false, false] rfl rfl (any_of HT_.out k1_) (fun _ _ _ h => h) (Or.inl ⟨by rfl, py_⟩) pa_ ?_
            refine pure_ (i := 1) (N := some 175) #[true, true, false, false, false, false, false, false, false] rfl rfl (any_of HT_.out k1_) (fun _ _ _ h => h) (Or.inl ⟨by rfl, py_⟩) pa_ ?_
            refine pure_ (i := 2) (N := some 176) #[true, true, true, false, false, false, false, false, false] rfl rfl (any_of HT_.out k1_) (fun _ _ _ h => h) (Or.inl ⟨by rfl, py_⟩) pa_ ?_
            refine pure_ (i := 3) (N := some 177) #[true, true, true, true, false, false, false, false, false] rfl rfl (any_of HT_.out k1_) (fun _ _ _ h => h) (Or.inl ⟨by rfl, py_⟩) pa_ ?_
            refine pure_ (i := 4) (N := some 178) #[true, true, true, true, true, false, false, false, false] rfl rfl (any_of HT_.out k1_) (fun _ _ _ h => h) (Or.inl ⟨by rfl, py_⟩) pa_ ?_
            refine pure_ (i := 5) (N := some 179) #[true, true, true, true, true, true, false, false, false] rfl rfl (any_of HT_.out k1_) (fun _ _ _ h => h) (Or.inl ⟨by rfl, py_⟩) pa_ ?_
            refine one_ (i := 6) (N := none) #[true, true, true, true, true, true, true, false, false] rfl rfl (one_of HT_.out k1_) (by decide) (fun K hK => ?_)
            have hs120 : w119.cell? ⟨gb285, 0, none⟩ = some (.int .i64 x286000_1) := (blk_cell BK285.out 0).trans rfl
            have hfs120 := blk_frozen BK285.out 0
            have hns120_0 := NB284_285.out
            have hms120_0 := NB285_284.out
            refine skip_ (w1 := ?_) (by rfl) rfl ?_ ?_
            rotate_left
            ·go_simp
             rfl
            refine hK.out _ _ trivial (fun hHeld => ?_)
            clear hK K
            refine pure_ (i := 7) (N := some 180) #[true, true, true, true, true, true, true, true, false] rfl rfl (any_of HT_.out k1_) (fun _ _ _ h => h) (Or.inl ⟨by rfl, py_⟩) pa_ ?_
            refine one_ (i := 8) (N := none) #[true, true, true, true, true, true, true, true, true] rfl rfl (one_of HT_.out k1_) (by decide) (fun K hK => ?_)
            have hs121 : w119.cell? ⟨gb285, 1, none⟩ = some (.string x286001_1) := (blk_cell BK285.out 1).trans rfl
            have hfs121 := blk_frozen BK285.out 1
            have hns121_0 := NB284_285.out
            have hms121_0 := NB285_284.out
            refine skip_ (w1 := ?_) (by rfl) rfl ?_ ?_
            rotate_left
            ·go_simp
             rfl
            refine hK.out _ _ trivial (fun hHeld => ?_)
            clear hK K
            refine done_ (done_of HT_.out k1_) ?_
            have hnb122 := NB285_284.out
            have hnc122 := NB284_285.out
            obtain ⟨⟨hcz123_0, hcz123_1, hcz123_2, hcz123_3, hcz123_4, hcz123_5⟩, hfz123_0, hfz123_1, hfz123_2, hfz123_3, hfz123_4, hfz123_5⟩ := c6_ BK285.out
            obtain ⟨⟨hcz124_0, hcz124_1, hcz124_2, hcz124_3, hcz124_4, hcz124_5⟩, hfz124_0, hfz124_1, hfz124_2, hfz124_3, hfz124_4, hfz124_5⟩ := c6_ BK284.out
            try go_wp2
            refine bodyPost_ret (results_ct rfl _ _ gb284 43 #[.int .i64 5, .string (a0.extract ((ji114) : Int).toNat (t316 : Int).toNat), .int .i64 0, .string ⟨#[]⟩, .string ⟨#[]⟩, .int .i64 a1] (0, 0) _ rfl (by have G0 := NB284_285; have G1 := BK284; exact z69_) Tryz.underlying43 rfl k1_) rfl ?_
            exact ⟨z70_, by have G0 := GE284; have G1 := GE285; exact z2_⟩
           rw [if_neg c118] at H
           have c118b0 := beq_eq_false_iff_ne.mpr c118
           have c118b1 := bne_iff_ne.mpr c118
           by_cases c125 : t316 > (wrap64 (a1 + 33))
           ·rw [if_pos c125] at H
            have c125b0 : decide ((wrap64 (a1 + 33)) < t316) = true := decide_eq_true c125
            clear c125
            simp only [Option.some.injEq, Prod.mk.injEq] at H
            obtain ⟨rfl, rfl, rfl, rfl, rfl, rfl, rfl⟩ := H
            try go_wp2_with (first | ((with_reducible refine gate_callee (f := 28) rfl ?_); refine goesL_ (some 173) rfl rfl Tryz.func28 k1_ rfl #[.string a0, .int .i64 ji114] rfl z68_ ?_; (with_reducible refine (g4_word.calls kj44 a0 ji114 t316 _ A113.out).mono ?_); rintro e w' ⟨rfl, ⟨nd, rfl⟩⟩; refine ⟨_, rfl, ?_⟩; (try (rw [drewN_self wc]; generalize hq_ : World.drewN wc _ = wc; have n0_ : Ad (wc.heap[gb284]? = some (.cells #[.int .i64 x285000_1, .string x285001_1, .int .i64 x285002_1, .string x285003_1, .string x285004_1, .int .i64 x285005_1] 43 (0, 0))) := ⟨by rw [← hq_]; exact (bd_ BK284.out)⟩; have n1_ : Ad (wc.heap[gb285]? = some (.cells #[.int .i64 x286000_1, .string x286001_1, .int .i64 0, .string ⟨#[]⟩, .string ⟨#[]⟩, .int .i64 a1] 43 (0, 0))) := ⟨by rw [← hq_]; exact (bd_ BK285.out)⟩; have n2_ : Ad (Below w.heap.size w wc) := ⟨by have G0 := GE284; have G1 := GE285; exact z28_⟩; clear BK284 BK285 HB hq_; have BK284 := n0_; have BK285 := n1_; have HB := n2_; clear n0_ n1_ n2_))))
            have n0_ := Ad.mk (blk_drew BK284.out)
            have n1_ := Ad.mk (blk_drew BK285.out)
            have n2_ := Ad.mk (below_drew1 HB.out)
            clear BK284
            clear BK285
            clear HB
            have BK284 := n0_
            have BK285 := n1_
            have HB := n2_
            clear n0_ n1_ n2_
            refine start_ (n := 9) (S := fun w' => True) (ds := []) #[false, false, false, false, false, false, false, false, false] k1_ rfl rfl trivial (fun hHeld => ?_); refine with_tabW g4_One.tab32 g4_One.bits32 (fun HT_ HW_ => ?_)
            generalize wc.drew = w126 at BK284 BK285 HB hHeld ⊢
            refine pure_ (i := 0) (N := some 174) #[true, false, false, false, false, false, false, false, false] rfl rfl (any_of HT_.out k1_) (fun _ _ _ h => h) (Or.inl ⟨by rfl, py_⟩) pa_ ?_
            refine pure_ (i := 1) (N := some 175) #[true, true, false, false, false, false, false, false, false] rfl rfl (any_of HT_.out k1_) (fun _ _ _ h => h) (Or.inl ⟨by rfl, py_⟩) pa_ ?_
            refine pure_ (i := 2) (N := some 176) #[true, true, true, false, false, false, false, false, false] rfl rfl (any_of HT_.out k1_) (fun _ _ _ h => h) (Or.inl ⟨by rfl, py_⟩) pa_ ?_
            refine pure_ (i := 3) (N := some 177) #[true, true, true, true, false, false, false, false, false] rfl rfl (any_of HT_.out k1_) (fun _ _ _ h => h) (Or.inl ⟨by rfl, py_⟩) pa_ ?_
            refine pure_ (i := 4) (N := some 178) #[true, true, true, true, true, false, false, false, false] rfl rfl (any_of HT_.out k1_) (fun _ _ _ h => h) (Or.inl ⟨by rfl, py_⟩) pa_ ?_
            refine pure_ (i := 5) (N := some 179) #[true, true, true, true, true, true, false, false, false] rfl rfl (any_of HT_.out k1_) (fun _ _ _ h => h) (Or.inl ⟨by rfl, py_⟩) pa_ ?_
            refine one_ (i := 6) (N := none) #[true, true, true, true, true, true, true, false, false] rfl rfl (one_of HT_.out k1_) (by decide) (fun K hK => ?_)
            have hs127 : w126.cell? ⟨gb285, 0, none⟩ = some (.int .i64 x286000_1) := (blk_cell BK285.out 0).trans rfl
            have hfs127 := blk_frozen BK285.out 0
            have hns127_0 := NB284_285.out
            have hms127_0 := NB285_284.out
            refine skip_ (w1 := ?_) (by rfl) rfl ?_ ?_
            rotate_left
            ·go_simp
             rfl
            refine hK.out _ _ trivial (fun hHeld => ?_)
            clear hK K
            refine pure_ (i := 7) (N := some 180) #[true, true, true, true, true, true, true, true, false] rfl rfl (any_of HT_.out k1_) (fun _ _ _ h => h) (Or.inl ⟨by rfl, py_⟩) pa_ ?_
            refine one_ (i := 8) (N := none) #[true, true, true, true, true, true, true, true, true] rfl rfl (one_of HT_.out k1_) (by decide) (fun K hK => ?_)
            have hs128 : w126.cell? ⟨gb285, 1, none⟩ = some (.string x286001_1) := (blk_cell BK285.out 1).trans rfl
            have hfs128 := blk_frozen BK285.out 1
            have hns128_0 := NB284_285.out
            have hms128_0 := NB285_284.out
            refine skip_ (w1 := ?_) (by rfl) rfl ?_ ?_
            rotate_left
            ·go_simp
             rfl
            refine hK.out _ _ trivial (fun hHeld => ?_)
            clear hK K
            refine done_ (done_of HT_.out k1_) ?_
            have hnb129 := NB285_284.out
            have hnc129 := NB284_285.out
            obtain ⟨⟨hcz130_0, hcz130_1, hcz130_2, hcz130_3, hcz130_4, hcz130_5⟩, hfz130_0, hfz130_1, hfz130_2, hfz130_3, hfz130_4, hfz130_5⟩ := c6_ BK285.out
            obtain ⟨⟨hcz131_0, hcz131_1, hcz131_2, hcz131_3, hcz131_4, hcz131_5⟩, hfz131_0, hfz131_1, hfz131_2, hfz131_3, hfz131_4, hfz131_5⟩ := c6_ BK284.out
            try go_wp2
            refine bodyPost_ret (results_ct rfl _ _ gb284 43 #[.int .i64 5, .string (a0.extract ((ji114) : Int).toNat (t316 : Int).toNat), .int .i64 0, .string ⟨#[]⟩, .string ⟨#[]⟩, .int .i64 a1] (0, 0) _ rfl (by have G0 := NB284_285; have G1 := BK284; exact z69_) Tryz.underlying43 rfl k1_) rfl ?_
            exact ⟨z70_, by have G0 := GE284; have G1 := GE285; exact z2_⟩
           rw [if_neg c125] at H
           have c125b0 : decide ((wrap64 (a1 + 33)) < t316) = false := decide_eq_false c125
           clear c125
           simp only [Option.some.injEq, Prod.mk.injEq] at H
           obtain ⟨rfl, rfl, rfl, rfl, rfl, rfl, rfl⟩ := H
           try go_wp2_with (first | ((with_reducible refine gate_callee (f := 28) rfl ?_); refine goesL_ (some 173) rfl rfl Tryz.func28 k1_ rfl #[.string a0, .int .i64 ji114] rfl z68_ ?_; (with_reducible refine (g4_word.calls kj44 a0 ji114 t316 _ A113.out).mono ?_); rintro e w' ⟨rfl, ⟨nd, rfl⟩⟩; refine ⟨_, rfl, ?_⟩; (try (rw [drewN_self wc]; generalize hq_ : World.drewN wc _ = wc; have n0_ : Ad (wc.heap[gb284]? = some (.cells #[.int .i64 x285000_1, .string x285001_1, .int .i64 x285002_1, .string x285003_1, .string x285004_1, .int .i64 x285005_1] 43 (0, 0))) := ⟨by rw [← hq_]; exact (bd_ BK284.out)⟩; have n1_ : Ad (wc.heap[gb285]? = some (.cells #[.int .i64 x286000_1, .string x286001_1, .int .i64 0, .string ⟨#[]⟩, .string ⟨#[]⟩, .int .i64 a1] 43 (0, 0))) := ⟨by rw [← hq_]; exact (bd_ BK285.out)⟩; have n2_ : Ad (Below w.heap.size w wc) := ⟨by have G0 := GE284; have G1 := GE285; exact z28_⟩; clear BK284 BK285 HB hq_; have BK284 := n0_; have BK285 := n1_; have HB := n2_; clear n0_ n1_ n2_))))
           have n0_ := Ad.mk (blk_drew BK284.out)
           have n1_ := Ad.mk (blk_drew BK285.out)
           have n2_ := Ad.mk (below_drew1 HB.out)
           clear BK284
           clear BK285
           clear HB
           have BK284 := n0_
           have BK285 := n1_
           have HB := n2_
           clear n0_ n1_ n2_
           refine start_ (n := 9) (S := fun w' => True) (ds := []) #[false, false, false, false, false, false, false, false, false] k1_ rfl rfl trivial (fun hHeld => ?_); refine with_tabW g4_One.tab32 g4_One.bits32 (fun HT_ HW_ => ?_)
           generalize wc.drew = w132 at BK284 BK285 HB hHeld ⊢
           refine pure_ (i := 0) (N := some 174) #[true, false, false, false, false, false, false, false, false] rfl rfl (any_of HT_.out k1_) (fun _ _ _ h => h) (Or.inl ⟨by rfl, py_⟩) pa_ ?_
           refine pure_ (i := 1) (N := some 175) #[true, true, false, false, false, false, false, false, false] rfl rfl (any_of HT_.out k1_) (fun _ _ _ h => h) (Or.inl ⟨by rfl, py_⟩) pa_ ?_
           refine pure_ (i := 2) (N := some 176) #[true, true, true, false, false, false, false, false, false] rfl rfl (any_of HT_.out k1_) (fun _ _ _ h => h) (Or.inl ⟨by rfl, py_⟩) pa_ ?_
           refine pure_ (i := 3) (N := some 177) #[true, true, true, true, false, false, false, false, false] rfl rfl (any_of HT_.out k1_) (fun _ _ _ h => h) (Or.inl ⟨by rfl, py_⟩) pa_ ?_
           refine pure_ (i := 4) (N := some 178) #[true, true, true, true, true, false, false, false, false] rfl rfl (any_of HT_.out k1_) (fun _ _ _ h => h) (Or.inl ⟨by rfl, py_⟩) pa_ ?_
           refine pure_ (i := 5) (N := some 179) #[true, true, true, true, true, true, false, false, false] rfl rfl (any_of HT_.out k1_) (fun _ _ _ h => h) (Or.inl ⟨by rfl, py_⟩) pa_ ?_
           refine one_ (i := 6) (N := none) #[true, true, true, true, true, true, true, false, false] rfl rfl (one_of HT_.out k1_) (by decide) (fun K hK => ?_)
           have hs133 : w132.cell? ⟨gb285, 0, none⟩ = some (.int .i64 x286000_1) := (blk_cell BK285.out 0).trans rfl
           have hfs133 := blk_frozen BK285.out 0
           have hns133_0 := NB284_285.out
           have hms133_0 := NB285_284.out
           refine skip_ (w1 := ?_) (by rfl) rfl ?_ ?_
           rotate_left
           ·go_simp
            rfl
           refine hK.out _ _ trivial (fun hHeld => ?_)
           clear hK K
           refine pure_ (i := 7) (N := some 180) #[true, true, true, true, true, true, true, true, false] rfl rfl (any_of HT_.out k1_) (fun _ _ _ h => h) (Or.inl ⟨by rfl, py_⟩) pa_ ?_
           refine one_ (i := 8) (N := none) #[true, true, true, true, true, true, true, true, true] rfl rfl (one_of HT_.out k1_) (by decide) (fun K hK => ?_)
           have hs134 : w132.cell? ⟨gb285, 1, none⟩ = some (.string x286001_1) := (blk_cell BK285.out 1).trans rfl
           have hfs134 := blk_frozen BK285.out 1
           have hns134_0 := NB284_285.out
           have hms134_0 := NB285_284.out
           refine skip_ (w1 := ?_) (by rfl) rfl ?_ ?_
           rotate_left
           ·go_simp
            rfl
           refine hK.out _ _ trivial (fun hHeld => ?_)
           clear hK K
           refine done_ (done_of HT_.out k1_) ?_
           have hnb135 := NB285_284.out
           have hnc135 := NB284_285.out
           obtain ⟨⟨hcz136_0, hcz136_1, hcz136_2, hcz136_3, hcz136_4, hcz136_5⟩, hfz136_0, hfz136_1, hfz136_2, hfz136_3, hfz136_4, hfz136_5⟩ := c6_ BK285.out
           obtain ⟨⟨hcz137_0, hcz137_1, hcz137_2, hcz137_3, hcz137_4, hcz137_5⟩, hfz137_0, hfz137_1, hfz137_2, hfz137_3, hfz137_4, hfz137_5⟩ := c6_ BK284.out
           try go_wp2
           refine bodyPost_ret (results_ct rfl _ _ gb284 43 #[.int .i64 5, .string (a0.extract ((ji114) : Int).toNat (t316 : Int).toNat), .int .i64 0, .string ⟨#[]⟩, .string ⟨#[]⟩, .int .i64 a1] (0, 0) _ rfl (by have G0 := NB284_285; have G1 := BK284; exact z69_) Tryz.underlying43 rfl k1_) rfl ?_
           exact ⟨z70_, by have G0 := GE284; have G1 := GE285; exact z2_⟩
          rw [if_neg c117] at H
          exact absurd H (by simp)
         rw [if_neg c116] at H
         exact absurd H (by simp)
        rw [if_neg c115] at H
        exact absurd H (by simp)
       rw [if_neg c112] at H
       have c112b0 := beq_eq_false_iff_ne.mpr c112
       have c112b1 := bne_iff_ne.mpr c112
       obtain ⟨⟨t317, t318, t319, t320, t321, t322, t323⟩, A138, H⟩ := bi_ H
       try dsimp only at H
       simp only [Option.some.injEq, Prod.mk.injEq] at H
       obtain ⟨rfl, rfl, rfl, rfl, rfl, rfl, rfl⟩ := H
       have hnb139 := NB285_284.out
       have hnc139 := NB284_285.out
       obtain ⟨⟨hcz140_0, hcz140_1, hcz140_2, hcz140_3, hcz140_4, hcz140_5⟩, hfz140_0, hfz140_1, hfz140_2, hfz140_3, hfz140_4, hfz140_5⟩ := c6_ BK285.out
       go_wp2_with (first | ((with_reducible refine gate_callee (f := 30) rfl ?_); refine goesL_ (some 197) rfl rfl Tryz.func30 k1_ rfl #[.string a0, .int .i64 a1, .agg #[.int .i64 x286000_1, .string x286001_1, .int .i64 0, .string ⟨#[]⟩, .string ⟨#[]⟩, .int .i64 a1]] rfl g1_ ?_; (with_reducible refine (g4_named.calls kj44 a0 a1 x286000_1 x286001_1 0 (⟨#[]⟩ : ByteArray) (⟨#[]⟩ : ByteArray) a1 t317 t318 t319 t320 t321 t322 t323 _ A138.out).mono ?_); rintro e w141 ⟨rfl, hb⟩; refine ⟨_, rfl, ?_⟩; replace BK284 := Ad.mk (blk_below (g := gb284) (o := .cells #[.int .i64 x285000_1, .string x285001_1, .int .i64 x285002_1, .string x285003_1, .string x285004_1, .int .i64 x285005_1] 43 (0, 0)) (bd_ BK284.out) hb); replace BK285 := Ad.mk (blk_below (g := gb285) (o := .cells #[.int .i64 x286000_1, .string x286001_1, .int .i64 0, .string ⟨#[]⟩, .string ⟨#[]⟩, .int .i64 a1] 43 (0, 0)) (bd_ BK285.out) hb); replace HB := Ad.mk (below_step (by have G0 := GE284; have G1 := GE285; exact z2_) hb); clear hb; obtain ⟨⟨hcz142_0, hcz142_1, hcz142_2, hcz142_3, hcz142_4, hcz142_5⟩, hfz142_0, hfz142_1, hfz142_2, hfz142_3, hfz142_4, hfz142_5⟩ := c6_ BK284.out))
       refine bodyPost_ret (results_ct rfl _ _ gb284 43 #[.int .i64 t317, .string t318, .int .i64 t319, .string t320, .string t321, .int .i64 t322] (0, 0) _ rfl (by refine bd_ ?_; refine blk_put (cs := #[.int .i64 t317, .string t318, .int .i64 t319, .string t320, .string t321, .int .i64 x285005_1]) ?_ 5 _ rfl; refine bd_ ?_; refine blk_put (cs := #[.int .i64 t317, .string t318, .int .i64 t319, .string t320, .string x285004_1, .int .i64 x285005_1]) ?_ 4 _ rfl; refine bd_ ?_; refine blk_put (cs := #[.int .i64 t317, .string t318, .int .i64 t319, .string x285003_1, .string x285004_1, .int .i64 x285005_1]) ?_ 3 _ rfl; refine bd_ ?_; refine blk_put (cs := #[.int .i64 t317, .string t318, .int .i64 x285002_1, .string x285003_1, .string x285004_1, .int .i64 x285005_1]) ?_ 2 _ rfl; refine bd_ ?_; refine blk_put (cs := #[.int .i64 t317, .string x285001_1, .int .i64 x285002_1, .string x285003_1, .string x285004_1, .int .i64 x285005_1]) ?_ 1 _ rfl; refine bd_ ?_; refine blk_put (cs := #[.int .i64 x285000_1, .string x285001_1, .int .i64 x285002_1, .string x285003_1, .string x285004_1, .int .i64 x285005_1]) ?_ 0 _ rfl; refine bd_ ?_; exact BK284.out) Tryz.underlying43 rfl k1_) rfl ?_
       exact ⟨e2_, by have G0 := GE284; have G1 := GE285; exact z2_⟩
  rw [if_neg c4] at H
  exact absurd H (by simp)
 rw [if_neg c3] at H
 exact absurd H (by simp)
end Go.Proofs.YtpbphelaeleikaaGreatDoor.PLt

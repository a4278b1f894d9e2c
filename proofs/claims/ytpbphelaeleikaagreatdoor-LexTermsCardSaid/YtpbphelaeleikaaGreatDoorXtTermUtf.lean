import Derived.Test.YtpbphelaeleikaaGreatDoorXtPLtx4
import Derived.Test.YtpbphelaeleikaaGreatDoorXtPLtx10
set_option linter.unusedVariables false
set_option linter.unusedSimpArgs false
namespace Go.Proofs.YtpbphelaeleikaaGreatDoor.PLt
open Go.RowKit Go.Proofs.YtpbphelaeleikaaGreatDoorW.PrintWords Go.Proofs.YtpbphelaeleikaaGreatDoorW.PrintLast Go.Proofs.YtpbphelaeleikaaGreatDoorW.PrintMore
theorem byte_all (p : Int → Bool) (h : (List.range 256).all (fun c => p (c : Int)) = true) (c : Int) (hc : 0 ≤ c ∧ c ≤ 255) : p c = true := by
 obtain ⟨n, rfl⟩ := Int.eq_ofNat_of_zero_le hc.1
 exact List.all_eq_true.mp h n (List.mem_range.mpr (by omega))
theorem and_31 (c : Int) (hc : 0 ≤ c ∧ c ≤ 255) : Go.bits .and .u8 c 31 = c % 32 := by simpa using byte_all (fun c => Go.bits .and .u8 c 31 == c % 32) (by decide +kernel) c hc
theorem and_15 (c : Int) (hc : 0 ≤ c ∧ c ≤ 255) : Go.bits .and .u8 c 15 = c % 16 := by simpa using byte_all (fun c => Go.bits .and .u8 c 15 == c % 16) (by decide +kernel) c hc
theorem and_7 (c : Int) (hc : 0 ≤ c ∧ c ≤ 255) : Go.bits .and .u8 c 7 = c % 8 := by simpa using byte_all (fun c => Go.bits .and .u8 c 7 == c % 8) (by decide +kernel) c hc
theorem and_63 (c : Int) (hc : 0 ≤ c ∧ c ≤ 255) : Go.bits .and .u8 c 63 = c % 64 := by simpa using byte_all (fun c => Go.bits .and .u8 c 63 == c % 64) (by decide +kernel) c hc
theorem and_192 (c : Int) (hc : 0 ≤ c ∧ c ≤ 255) : Go.bits .and .u8 c 192 = c / 64 * 64 := by simpa using byte_all (fun c => Go.bits .and .u8 c 192 == c / 64 * 64) (by decide +kernel) c hc
theorem or_64 (a b : Nat) (ha : a < 16777216) (hb : b < 64) : Go.bits .or .i64 ((a * 64 : Nat) : Int) (b : Int) = ((a * 64 + b : Nat) : Int) := by
 have e : a * 64 ||| b = a * 64 + b := by
  have := Nat.shiftLeft_add_eq_or_of_lt (a := a) (b := b) (i := 6) (by omega)
  rw [Nat.shiftLeft_eq] at this
  exact this.symm
 show IntKind.i64.wrap ((BitVec.ofInt 64 ((a * 64 : Nat) : Int) ||| BitVec.ofInt 64 (b : Int)).toNat : Int) = _
 rw [BitVec.toNat_or, BitVec.ofInt_natCast, BitVec.ofInt_natCast, BitVec.toNat_ofNat, BitVec.toNat_ofNat, Nat.mod_eq_of_lt (by omega), Nat.mod_eq_of_lt (by omega), e]
 rw [IntKind.wrap_i64]
 omega
theorem or64 (a b : Int) (ha : 0 ≤ a ∧ a < 16777216) (hb : 0 ≤ b ∧ b < 64) : Go.bits .or .i64 (wrap64 (a * 64)) (wrap64 b) = 64 * a + b := by
 obtain ⟨x, rfl⟩ := Int.eq_ofNat_of_zero_le ha.1
 obtain ⟨y, rfl⟩ := Int.eq_ofNat_of_zero_le hb.1
 rw [w64n (by omega) (by omega), w64n (by omega) (by omega)]
 have := or_64 x y (by omega) (by omega)
 rw [show ((x : Int) * 64) = ((x * 64 : Nat) : Int) by omega, this]
 omega
def val (s : ByteArray) (n : Int) : Int :=
 if n = 1 then bt s 0 else if n = 2 then 64 * (bt s 0 % 32) + bt s 1 % 64 else if n = 3 then 64 * (64 * (bt s 0 % 16) + bt s 1 % 64) + bt s 2 % 64 else 64 * (64 * (64 * (bt s 0 % 8) + bt s 1 % 64) + bt s 2 % 64) + bt s 3 % 64
def tl (c : Int) : Bool := decide (128 ≤ c ∧ c < 192)
def okn (s : ByteArray) (n : Int) : Bool :=
 if n = 1 then decide (1 ≤ (s.size : Int) ∧ bt s 0 < 128)
 else if n = 2 then decide (2 ≤ (s.size : Int) ∧ 194 ≤ bt s 0 ∧ bt s 0 < 224) && tl (bt s 1)
 else if n = 3 then decide (3 ≤ (s.size : Int) ∧ 224 ≤ bt s 0 ∧ bt s 0 < 240) && tl (bt s 1) && tl (bt s 2) && decide (2048 ≤ val s 3 ∧ (val s 3 < 55296 ∨ 57343 < val s 3))
 else decide (4 ≤ (s.size : Int) ∧ 240 ≤ bt s 0 ∧ bt s 0 < 245) && tl (bt s 1) && tl (bt s 2) && tl (bt s 3) && decide (65536 ≤ val s 4 ∧ val s 4 ≤ 1114111)
def dec (s : ByteArray) : Int × Int := if okn s 1 then (val s 1, 1) else if okn s 2 then (val s 2, 2) else if okn s 3 then (val s 3, 3) else if okn s 4 then (val s 4, 4) else (0, 0)
theorem head_eq (k : Nat) (c : Int) (hc : 0 ≤ c ∧ c ≤ 255) (hk : 3 ≤ k) : utf_head.f k c = some (if c < 128 then (c, 0) else if 194 ≤ c ∧ c < 224 then (c % 32, 1) else if 224 ≤ c ∧ c < 240 then (c % 16, 2) else if 240 ≤ c ∧ c < 245 then (c % 8, 3) else (0, -1)) := by
 obtain ⟨k, rfl⟩ : ∃ m, k = m + 3 := ⟨k - 3, by omega⟩
 have w1 : wrap64 c = c := w64n (by omega) (by omega)
 have w2 : wrap64 (c % 32) = c % 32 := w64n (by omega) (by omega)
 have w3 : wrap64 (c % 16) = c % 16 := w64n (by omega) (by omega)
 have w4 : wrap64 (c % 8) = c % 8 := w64n (by omega) (by omega)
 unfold utf_head.f
 simp only [utf_head.j0, utf_head.j1, and_31 c hc, and_15 c hc, and_7 c hc, w1, w2, w3, w4, decide_eq_true_eq]
 repeat' split
 all_goals first | rfl | (exfalso; omega) | simp_all
theorem getl (k : Nat) (s : ByteArray) (more r i : Int) (hi : 0 ≤ i) (hs : i + 1 < (s.size : Int)) (h4 : i < 4) (hm : i < more) (hr : 0 ≤ r ∧ r < 16777216) :
  utf_Get.l0 (k + 1) s more r i = if tl (bt s (i + 1)) = true then utf_Get.l0 k s more (64 * r + bt s (i + 1) % 64) (i + 1) else some (0, 0, 4) := by
 have hb := bt_range s (i + 1)
 simp only [utf_Get.l0]
 rw [if_pos hm, w64n (n := i + 1) (by omega) (by omega), if_pos (by omega), if_pos (by omega), and_192 _ hb, and_63 _ hb, or64 r _ hr (by omega)]
 by_cases h : tl (bt s (i + 1)) = true
 ·rw [if_pos h, if_pos (by simp [tl] at h; omega)]
 ·rw [if_neg h, if_neg (by simp [tl] at h; omega)]
theorem getend (k : Nat) (s : ByteArray) (more r : Int) (hm : 0 ≤ more ∧ more ≤ 3) (hr : 0 ≤ r) :
  utf_Get.l0 (k + 1) s more r more = some (if r ≤ 1114111 ∧ (r < 55296 ∨ 57343 < r) ∧ (if r < 128 then (1 : Int) else if r < 2048 then 2 else if r < 65536 then 3 else 4) = more + 1 then (r, more + 1, 0) else (0, 0, 4)) := by
 simp only [utf_Get.l0]
 rw [if_neg (by omega), w64n (n := more + 1) (by omega) (by omega)]
 unfold utf_may.f utf_size.f
 repeat' split
 all_goals first | rfl | (exfalso; omega) | skip
 all_goals
  simp only [Option.bind_some, if_true, decide_eq_true_eq]
  (repeat' split) <;> first | rfl | (exfalso; omega)
theorem getT_dec (s : ByteArray) : getT s = if (dec s).2 = 0 then (0, 0, 4) else ((dec s).1, (dec s).2, 0) := by
 have hG := getT_eq s
 unfold utf_Get.f at hG
 have b0 := bt_range s 0
 have b1 := bt_range s 1
 have b2 := bt_range s 2
 have b3 := bt_range s 3
 have fin : ∀ {v : Int × Int × Int} {d : Int × Int}, some v = some (getT s) → dec s = d → v = (if d.2 = 0 then (0, 0, 4) else (d.1, d.2, 0)) → getT s = if (dec s).2 = 0 then (0, 0, 4) else ((dec s).1, (dec s).2, 0) := fun h1 h2 h3 => by rw [h2, ← Option.some.inj h1, h3]
 by_cases h0 : 0 < s.size
 ·rw [if_pos h0, head_eq 12 (bt s 0) (bt_range s 0) (by omega), Option.bind_some] at hG
  by_cases c1 : bt s 0 < 128
  ·rw [if_pos c1] at hG
   simp only [utf_Get.j0] at hG
   rw [if_neg (by omega), if_neg (by omega), getend 11 s 0 _ (by omega) (by omega)] at hG
   refine fin hG (d := (bt s 0, 1)) ?_ ?_
   ·unfold dec
    rw [if_pos (by simp [okn]; omega)]
    simp [val]
   ·rw [if_pos (by refine ⟨by omega, by omega, ?_⟩; rw [if_pos c1]; rfl)]
    simp
  ·have n1 : okn s 1 = false := by simp [okn]; omega
   rw [if_neg c1] at hG
   by_cases c2 : 194 ≤ bt s 0 ∧ bt s 0 < 224
   ·have n3 : okn s 3 = false := by simp [okn]; omega
    have n4 : okn s 4 = false := by simp [okn]; omega
    rw [if_pos c2] at hG
    simp only [utf_Get.j0] at hG
    rw [if_neg (by omega)] at hG
    by_cases l1 : (s.size : Int) ≤ 1
    ·rw [if_pos l1] at hG
     have n2 : okn s 2 = false := by simp [okn]; omega
     exact fin hG (d := (0, 0)) (by simp [dec, n1, n2, n3, n4]) rfl
    ·rw [if_neg l1, getl 11 s 1 _ 0 (by omega) (by omega) (by omega) (by omega) (by omega)] at hG
     simp only [Int.zero_add] at hG
     by_cases t1 : tl (bt s 1) = true
     ·rw [if_pos t1, getend 10 s 1 _ (by omega) (by omega)] at hG
      have n2 : okn s 2 = true := by simp [okn, t1]; omega
      refine fin hG (d := (val s 2, 2)) (by simp [dec, n1, n2]) ?_
      rw [if_pos (by refine ⟨by omega, by omega, ?_⟩; rw [if_neg (by omega), if_pos (by omega)]; rfl)]
      simp [val]
     ·rw [if_neg t1] at hG
      have n2 : okn s 2 = false := by simp [okn, t1]
      exact fin hG (d := (0, 0)) (by simp [dec, n1, n2, n3, n4]) rfl
   ·have n2 : okn s 2 = false := by simp [okn]; omega
    rw [if_neg c2] at hG
    by_cases c3 : 224 ≤ bt s 0 ∧ bt s 0 < 240
    ·have n4 : okn s 4 = false := by simp [okn]; omega
     rw [if_pos c3] at hG
     simp only [utf_Get.j0] at hG
     rw [if_neg (by omega)] at hG
     by_cases l1 : (s.size : Int) ≤ 2
     ·rw [if_pos l1] at hG
      have n3 : okn s 3 = false := by simp [okn]; omega
      exact fin hG (d := (0, 0)) (by simp [dec, n1, n2, n3, n4]) rfl
     ·rw [if_neg l1, getl 11 s 2 _ 0 (by omega) (by omega) (by omega) (by omega) (by omega)] at hG
      simp only [Int.zero_add] at hG
      by_cases t1 : tl (bt s 1) = true
      ·rw [if_pos t1, getl 10 s 2 _ 1 (by omega) (by omega) (by omega) (by omega) (by omega)] at hG
       simp only [Int.reduceAdd] at hG
       by_cases t2 : tl (bt s 2) = true
       ·rw [if_pos t2, getend 9 s 2 _ (by omega) (by omega)] at hG
        have hv : 64 * (64 * (bt s 0 % 16) + bt s 1 % 64) + bt s 2 % 64 = val s 3 := by simp [val]
        rw [hv] at hG
        by_cases r3 : 2048 ≤ val s 3 ∧ (val s 3 < 55296 ∨ 57343 < val s 3)
        ·have n3 : okn s 3 = true := by simp [okn, t1, t2]; omega
         refine fin hG (d := (val s 3, 3)) (by simp [dec, n1, n2, n3]) ?_
         rw [if_pos (by refine ⟨by omega, by omega, ?_⟩; rw [if_neg (by omega), if_neg (by omega), if_pos (by omega)]; rfl)]
         simp
        ·have n3 : okn s 3 = false := by simp [okn, t1, t2]; omega
         refine fin hG (d := (0, 0)) (by simp [dec, n1, n2, n3, n4]) ?_
         rw [if_neg (by rintro ⟨q1, q2, q3⟩; (repeat' split at q3) <;> omega)]
         rfl
       ·rw [if_neg t2] at hG
        have n3 : okn s 3 = false := by simp [okn, t2]
        exact fin hG (d := (0, 0)) (by simp [dec, n1, n2, n3, n4]) rfl
      ·rw [if_neg t1] at hG
       have n3 : okn s 3 = false := by simp [okn, t1]
       exact fin hG (d := (0, 0)) (by simp [dec, n1, n2, n3, n4]) rfl
    ·have n3 : okn s 3 = false := by simp [okn]; omega
     rw [if_neg c3] at hG
     by_cases c4 : 240 ≤ bt s 0 ∧ bt s 0 < 245
     ·rw [if_pos c4] at hG
      simp only [utf_Get.j0] at hG
      rw [if_neg (by omega)] at hG
      by_cases l1 : (s.size : Int) ≤ 3
      ·rw [if_pos l1] at hG
       have n4 : okn s 4 = false := by simp [okn]; omega
       exact fin hG (d := (0, 0)) (by simp [dec, n1, n2, n3, n4]) rfl
      ·rw [if_neg l1, getl 11 s 3 _ 0 (by omega) (by omega) (by omega) (by omega) (by omega)] at hG
       simp only [Int.zero_add] at hG
       by_cases t1 : tl (bt s 1) = true
       ·rw [if_pos t1, getl 10 s 3 _ 1 (by omega) (by omega) (by omega) (by omega) (by omega)] at hG
        simp only [Int.reduceAdd] at hG
        by_cases t2 : tl (bt s 2) = true
        ·rw [if_pos t2, getl 9 s 3 _ 2 (by omega) (by omega) (by omega) (by omega) (by omega)] at hG
         simp only [Int.reduceAdd] at hG
         by_cases t3 : tl (bt s 3) = true
         ·rw [if_pos t3, getend 8 s 3 _ (by omega) (by omega)] at hG
          have hv : 64 * (64 * (64 * (bt s 0 % 8) + bt s 1 % 64) + bt s 2 % 64) + bt s 3 % 64 = val s 4 := by simp [val]
          rw [hv] at hG
          by_cases r3 : 65536 ≤ val s 4 ∧ val s 4 ≤ 1114111
          ·have n4 : okn s 4 = true := by simp [okn, t1, t2, t3]; omega
           refine fin hG (d := (val s 4, 4)) (by simp [dec, n1, n2, n3, n4]) ?_
           rw [if_pos (by refine ⟨by omega, by omega, ?_⟩; rw [if_neg (by omega), if_neg (by omega), if_neg (by omega)]; rfl)]
           simp
          ·have n4 : okn s 4 = false := by simp [okn, t1, t2, t3]; omega
           refine fin hG (d := (0, 0)) (by simp [dec, n1, n2, n3, n4]) ?_
           rw [if_neg (by rintro ⟨q1, q2, q3⟩; (repeat' split at q3) <;> omega)]
           rfl
         ·rw [if_neg t3] at hG
          have n4 : okn s 4 = false := by simp [okn, t3]
          exact fin hG (d := (0, 0)) (by simp [dec, n1, n2, n3, n4]) rfl
        ·rw [if_neg t2] at hG
         have n4 : okn s 4 = false := by simp [okn, t2]
         exact fin hG (d := (0, 0)) (by simp [dec, n1, n2, n3, n4]) rfl
       ·rw [if_neg t1] at hG
        have n4 : okn s 4 = false := by simp [okn, t1]
        exact fin hG (d := (0, 0)) (by simp [dec, n1, n2, n3, n4]) rfl
     ·rw [if_neg c4] at hG
      have n4 : okn s 4 = false := by simp [okn]; omega
      simp only [utf_Get.j0] at hG
      rw [if_pos (by omega)] at hG
      exact fin hG (d := (0, 0)) (by simp [dec, n1, n2, n3, n4]) rfl
 ·rw [if_neg h0] at hG
  refine fin hG (d := (0, 0)) ?_ rfl
  have e : (s.size : Int) = 0 := by omega
  simp [dec, okn, e]
end Go.Proofs.YtpbphelaeleikaaGreatDoor.PLt

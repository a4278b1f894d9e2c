import Derived.Test.YtjnhdamilbcmpaaDoorCuPTmx16
import Derived.Test.YtjnhdamilbcmpaaDoorCuPTmx19
import Derived.Lib.Strings
set_option linter.unusedVariables false
set_option linter.unusedSimpArgs false
namespace Go.Proofs.YtjnhdamilbcmpaaDoor.PTm
open Go.RowKit Go.Proofs.YtjnhdamilbcmpaaDoorW.PrintWords Go.Proofs.YtjnhdamilbcmpaaDoorW.PrintLast Go.Proofs.YtjnhdamilbcmpaaDoorW.PrintMore
theorem byte_all (p : Int → Bool) (h : (List.range 256).all (fun c => p (c : Int)) = true) (c : Int) (hc : 0 ≤ c ∧ c ≤ 255) : p c = true := by
 obtain ⟨n, rfl⟩ := Int.eq_ofNat_of_zero_le hc.1
 exact List.all_eq_true.mp h n (List.mem_range.mpr (by omega))
theorem and_31 (c : Int) (hc : 0 ≤ c ∧ c ≤ 255) : Go.bits .and .u8 c 31 = c % 32 := by simpa using byte_all (fun c => Go.bits .and .u8 c 31 == c % 32) (by decide +kernel) c hc
theorem and_15 (c : Int) (hc : 0 ≤ c ∧ c ≤ 255) : Go.bits .and .u8 c 15 = c % 16 := by simpa using byte_all (fun c => Go.bits .and .u8 c 15 == c % 16) (by decide +kernel) c hc
theorem and_7 (c : Int) (hc : 0 ≤ c ∧ c ≤ 255) : Go.bits .and .u8 c 7 = c % 8 := by simpa using byte_all (fun c => Go.bits .and .u8 c 7 == c % 8) (by decide +kernel) c hc
theorem and_63 (c : Int) (hc : 0 ≤ c ∧ c ≤ 255) : Go.bits .and .u8 c 63 = c % 64 := by simpa using byte_all (fun c => Go.bits .and .u8 c 63 == c % 64) (by decide +kernel) c hc
theorem and_192 (c : Int) (hc : 0 ≤ c ∧ c ≤ 255) : Go.bits .and .u8 c 192 = c / 64 * 64 := by simpa using byte_all (fun c => Go.bits .and .u8 c 192 == c / 64 * 64) (by decide +kernel) c hc
theorem or_64 (a b : Nat) (ha : a < 16777216) (hb : b < 64) : Go.bits .or .i64 ((a * 64 : Nat) : Int) (b : Int) = ((a * 64 + b : Nat) : Int) := by
 have e : a * 64 ||| b = a * 64 + b := by
  have := Nat.shiftLeft_add_eq_or_of_lt (a := a) (b := b) (i := 6) (by omega)
  rw [Nat.shiftLeft_eq] at this
  exact this.symm
 show IntKind.i64.wrap ((BitVec.ofInt 64 ((a * 64 : Nat) : Int) ||| BitVec.ofInt 64 (b : Int)).toNat : Int) = _
 rw [BitVec.toNat_or, BitVec.ofInt_natCast, BitVec.ofInt_natCast, BitVec.toNat_ofNat, BitVec.toNat_ofNat, Nat.mod_eq_of_lt (by omega), Nat.mod_eq_of_lt (by omega), e]
 rw [IntKind.wrap_i64]
 omega
theorem or64 (a b : Int) (ha : 0 ≤ a ∧ a < 16777216) (hb : 0 ≤ b ∧ b < 64) : Go.bits .or .i64 (wrap64 (a * 64)) (wrap64 b) = 64 * a + b := by
 obtain ⟨x, rfl⟩ := Int.eq_ofNat_of_zero_le ha.1
 obtain ⟨y, rfl⟩ := Int.eq_ofNat_of_zero_le hb.1
 rw [w64n (by omega) (by omega), w64n (by omega) (by omega)]
 have := or_64 x y (by omega) (by omega)
 rw [show ((x : Int) * 64) = ((x * 64 : Nat) : Int) by omega, this]
 omega
def val (s : ByteArray) (n : Int) : Int :=
 if n = 1 then bt s 0 else if n = 2 then 64 * (bt s 0 % 32) + bt s 1 % 64 else if n = 3 then 64 * (64 * (bt s 0 % 16) + bt s 1 % 64) + bt s 2 % 64 else 64 * (64 * (64 * (bt s 0 % 8) + bt s 1 % 64) + bt s 2 % 64) + bt s 3 % 64
def tl (c : Int) : Bool := decide (128 ≤ c ∧ c < 192)
def okn (s : ByteArray) (n : Int) : Bool :=
 if n = 1 then decide (1 ≤ (s.size : Int) ∧ bt s 0 < 128)
 else if n = 2 then decide (2 ≤ (s.size : Int) ∧ 194 ≤ bt s 0 ∧ bt s 0 < 224) && tl (bt s 1)
 else if n = 3 then decide (3 ≤ (s.size : Int) ∧ 224 ≤ bt s 0 ∧ bt s 0 < 240) && tl (bt s 1) && tl (bt s 2) && decide (2048 ≤ val s 3 ∧ (val s 3 < 55296 ∨ 57343 < val s 3))
 else decide (4 ≤ (s.size : Int) ∧ 240 ≤ bt s 0 ∧ bt s 0 < 245) && tl (bt s 1) && tl (bt s 2) && tl (bt s 3) && decide (65536 ≤ val s 4 ∧ val s 4 ≤ 1114111)
def dec (s : ByteArray) : Int × Int := if okn s 1 then (val s 1, 1) else if okn s 2 then (val s 2, 2) else if okn s 3 then (val s 3, 3) else if okn s 4 then (val s 4, 4) else (0, 0)
theorem head_eq (k : Nat) (c : Int) (hc : 0 ≤ c ∧ c ≤ 255) (hk : 3 ≤ k) : utf_head.f k c = some (if c < 128 then (c, 0) else if 194 ≤ c ∧ c < 224 then (c % 32, 1) else if 224 ≤ c ∧ c < 240 then (c % 16, 2) else if 240 ≤ c ∧ c < 245 then (c % 8, 3) else (0, -1)) := by
 obtain ⟨k, rfl⟩ : ∃ m, k = m + 3 := ⟨k - 3, by omega⟩
 have w1 : wrap64 c = c := w64n (by omega) (by omega)
 have w2 : wrap64 (c % 32) = c % 32 := w64n (by omega) (by omega)
 have w3 : wrap64 (c % 16) = c % 16 := w64n (by omega) (by omega)
 have w4 : wrap64 (c % 8) = c % 8 := w64n (by omega) (by omega)
 unfold utf_head.f
 simp only [utf_head.j0, utf_head.j1, and_31 c hc, and_15 c hc, and_7 c hc, w1, w2, w3, w4, decide_eq_true_eq]
 repeat' split
 all_goals first | rfl | (exfalso; omega) | simp_all
theorem getl (k : Nat) (s : ByteArray) (more r i : Int) (hi : 0 ≤ i) (hs : i + 1 < (s.size : Int)) (h4 : i < 4) (hm : i < more) (hr : 0 ≤ r ∧ r < 16777216) :
  utf_Get.l0 (k + 1) s more r i = if tl (bt s (i + 1)) = true then utf_Get.l0 k s more (64 * r + bt s (i + 1) % 64) (i + 1) else some (0, 0, 4) := by
 have hb := bt_range s (i + 1)
 simp only [utf_Get.l0]
 rw [if_pos hm, w64n (n := i + 1) (by omega) (by omega), if_pos (by omega), if_pos (by omega), and_192 _ hb, and_63 _ hb, or64 r _ hr (by omega)]
 by_cases h : tl (bt s (i + 1)) = true
 ·rw [if_pos h, if_pos (by simp [tl] at h; omega)]
 ·rw [if_neg h, if_neg (by simp [tl] at h; omega)]
theorem getend (k : Nat) (s : ByteArray) (more r : Int) (hm : 0 ≤ more ∧ more ≤ 3) (hr : 0 ≤ r) :
  utf_Get.l0 (k + 1) s more r more = some (if r ≤ 1114111 ∧ (r < 55296 ∨ 57343 < r) ∧ (if r < 128 then (1 : Int) else if r < 2048 then 2 else if r < 65536 then 3 else 4) = more + 1 then (r, more + 1, 0) else (0, 0, 4)) := by
 simp only [utf_Get.l0]
 rw [if_neg (by omega), w64n (n := more + 1) (by omega) (by omega)]
 unfold utf_may.f utf_size.f
 repeat' split
 all_goals first | rfl | (exfalso; omega) | skip
 all_goals
  simp only [Option.bind_some, if_true, decide_eq_true_eq]
  (repeat' split) <;> first | rfl | (exfalso; omega)
theorem getT_dec (s : ByteArray) : getT s = if (dec s).2 = 0 then (0, 0, 4) else ((dec s).1, (dec s).2, 0) := by
 have hG := getT_eq s
 unfold utf_Get.f at hG
 have b0 := bt_range s 0
 have b1 := bt_range s 1
 have b2 := bt_range s 2
 have b3 := bt_range s 3
 have fin : ∀ {v : Int × Int × Int} {d : Int × Int}, some v = some (getT s) → dec s = d → v = (if d.2 = 0 then (0, 0, 4) else (d.1, d.2, 0)) → getT s = if (dec s).2 = 0 then (0, 0, 4) else ((dec s).1, (dec s).2, 0) := fun h1 h2 h3 => by rw [h2, ← Option.some.inj h1, h3]
 by_cases h0 : 0 < s.size
 ·rw [if_pos h0, head_eq 12 (bt s 0) (bt_range s 0) (by omega), Option.bind_some] at hG
  by_cases c1 : bt s 0 < 128
  ·rw [if_pos c1] at hG
   simp only [utf_Get.j0] at hG
   rw [if_neg (by omega), if_neg (by omega), getend 11 s 0 _ (by omega) (by omega)] at hG
   refine fin hG (d := (bt s 0, 1)) ?_ ?_
   ·unfold dec
    rw [if_pos (by simp [okn]; omega)]
    simp [val]
   ·rw [if_pos (by refine ⟨by omega, by omega, ?_⟩; rw [if_pos c1]; rfl)]
    simp
  ·have n1 : okn s 1 = false := by simp [okn]; omega
   rw [if_neg c1] at hG
   by_cases c2 : 194 ≤ bt s 0 ∧ bt s 0 < 224
   ·have n3 : okn s 3 = false := by simp [okn]; omega
    have n4 : okn s 4 = false := by simp [okn]; omega
    rw [if_pos c2] at hG
    simp only [utf_Get.j0] at hG
    rw [if_neg (by omega)] at hG
    by_cases l1 : (s.size : Int) ≤ 1
    ·rw [if_pos l1] at hG
     have n2 : okn s 2 = false := by simp [okn]; omega
     exact fin hG (d := (0, 0)) (by simp [dec, n1, n2, n3, n4]) rfl
    ·rw [if_neg l1, getl 11 s 1 _ 0 (by omega) (by omega) (by omega) (by omega) (by omega)] at hG
     simp only [Int.zero_add] at hG
     by_cases t1 : tl (bt s 1) = true
     ·rw [if_pos t1, getend 10 s 1 _ (by omega) (by omega)] at hG
      have n2 : okn s 2 = true := by simp [okn, t1]; omega
      refine fin hG (d := (val s 2, 2)) (by simp [dec, n1, n2]) ?_
      rw [if_pos (by refine ⟨by omega, by omega, ?_⟩; rw [if_neg (by omega), if_pos (by omega)]; rfl)]
      simp [val]
     ·rw [if_neg t1] at hG
      have n2 : okn s 2 = false := by simp [okn, t1]
      exact fin hG (d := (0, 0)) (by simp [dec, n1, n2, n3, n4]) rfl
   ·have n2 : okn s 2 = false := by simp [okn]; omega
    rw [if_neg c2] at hG
    by_cases c3 : 224 ≤ bt s 0 ∧ bt s 0 < 240
    ·have n4 : okn s 4 = false := by simp [okn]; omega
     rw [if_pos c3] at hG
     simp only [utf_Get.j0] at hG
     rw [if_neg (by omega)] at hG
     by_cases l1 : (s.size : Int) ≤ 2
     ·rw [if_pos l1] at hG
      have n3 : okn s 3 = false := by simp [okn]; omega
      exact fin hG (d := (0, 0)) (by simp [dec, n1, n2, n3, n4]) rfl
     ·rw [if_neg l1, getl 11 s 2 _ 0 (by omega) (by omega) (by omega) (by omega) (by omega)] at hG
      simp only [Int.zero_add] at hG
      by_cases t1 : tl (bt s 1) = true
      ·rw [if_pos t1, getl 10 s 2 _ 1 (by omega) (by omega) (by omega) (by omega) (by omega)] at hG
       simp only [Int.reduceAdd] at hG
       by_cases t2 : tl (bt s 2) = true
       ·rw [if_pos t2, getend 9 s 2 _ (by omega) (by omega)] at hG
        have hv : 64 * (64 * (bt s 0 % 16) + bt s 1 % 64) + bt s 2 % 64 = val s 3 := by simp [val]
        rw [hv] at hG
        by_cases r3 : 2048 ≤ val s 3 ∧ (val s 3 < 55296 ∨ 57343 < val s 3)
        ·have n3 : okn s 3 = true := by simp [okn, t1, t2]; omega
         refine fin hG (d := (val s 3, 3)) (by simp [dec, n1, n2, n3]) ?_
         rw [if_pos (by refine ⟨by omega, by omega, ?_⟩; rw [if_neg (by omega), if_neg (by omega), if_pos (by omega)]; rfl)]
         simp
        ·have n3 : okn s 3 = false := by simp [okn, t1, t2]; omega
         refine fin hG (d := (0, 0)) (by simp [dec, n1, n2, n3, n4]) ?_
         rw [if_neg (by rintro ⟨q1, q2, q3⟩; (repeat' split at q3) <;> omega)]
         rfl
       ·rw [if_neg t2] at hG
        have n3 : okn s 3 = false := by simp [okn, t2]
        exact fin hG (d := (0, 0)) (by simp [dec, n1, n2, n3, n4]) rfl
      ·rw [if_neg t1] at hG
       have n3 : okn s 3 = false := by simp [okn, t1]
       exact fin hG (d := (0, 0)) (by simp [dec, n1, n2, n3, n4]) rfl
    ·have n3 : okn s 3 = false := by simp [okn]; omega
     rw [if_neg c3] at hG
     by_cases c4 : 240 ≤ bt s 0 ∧ bt s 0 < 245
     ·rw [if_pos c4] at hG
      simp only [utf_Get.j0] at hG
      rw [if_neg (by omega)] at hG
      by_cases l1 : (s.size : Int) ≤ 3
      ·rw [if_pos l1] at hG
       have n4 : okn s 4 = false := by simp [okn]; omega
       exact fin hG (d := (0, 0)) (by simp [dec, n1, n2, n3, n4]) rfl
      ·rw [if_neg l1, getl 11 s 3 _ 0 (by omega) (by omega) (by omega) (by omega) (by omega)] at hG
       simp only [Int.zero_add] at hG
       by_cases t1 : tl (bt s 1) = true
       ·rw [if_pos t1, getl 10 s 3 _ 1 (by omega) (by omega) (by omega) (by omega) (by omega)] at hG
        simp only [Int.reduceAdd] at hG
        by_cases t2 : tl (bt s 2) = true
        ·rw [if_pos t2, getl 9 s 3 _ 2 (by omega) (by omega) (by omega) (by omega) (by omega)] at hG
         simp only [Int.reduceAdd] at hG
         by_cases t3 : tl (bt s 3) = true
         ·rw [if_pos t3, getend 8 s 3 _ (by omega) (by omega)] at hG
          have hv : 64 * (64 * (64 * (bt s 0 % 8) + bt s 1 % 64) + bt s 2 % 64) + bt s 3 % 64 = val s 4 := by simp [val]
          rw [hv] at hG
          by_cases r3 : 65536 ≤ val s 4 ∧ val s 4 ≤ 1114111
          ·have n4 : okn s 4 = true := by simp [okn, t1, t2, t3]; omega
           refine fin hG (d := (val s 4, 4)) (by simp [dec, n1, n2, n3, n4]) ?_
           rw [if_pos (by refine ⟨by omega, by omega, ?_⟩; rw [if_neg (by omega), if_neg (by omega), if_neg (by omega)]; rfl)]
           simp
          ·have n4 : okn s 4 = false := by simp [okn, t1, t2, t3]; omega
           refine fin hG (d := (0, 0)) (by simp [dec, n1, n2, n3, n4]) ?_
           rw [if_neg (by rintro ⟨q1, q2, q3⟩; (repeat' split at q3) <;> omega)]
           rfl
         ·rw [if_neg t3] at hG
          have n4 : okn s 4 = false := by simp [okn, t3]
          exact fin hG (d := (0, 0)) (by simp [dec, n1, n2, n3, n4]) rfl
        ·rw [if_neg t2] at hG
         have n4 : okn s 4 = false := by simp [okn, t2]
         exact fin hG (d := (0, 0)) (by simp [dec, n1, n2, n3, n4]) rfl
       ·rw [if_neg t1] at hG
        have n4 : okn s 4 = false := by simp [okn, t1]
        exact fin hG (d := (0, 0)) (by simp [dec, n1, n2, n3, n4]) rfl
     ·rw [if_neg c4] at hG
      have n4 : okn s 4 = false := by simp [okn]; omega
      simp only [utf_Get.j0] at hG
      rw [if_pos (by omega)] at hG
      exact fin hG (d := (0, 0)) (by simp [dec, n1, n2, n3, n4]) rfl
 ·rw [if_neg h0] at hG
  refine fin hG (d := (0, 0)) ?_ rfl
  have e : (s.size : Int) = 0 := by omega
  simp [dec, okn, e]
end Go.Proofs.YtjnhdamilbcmpaaDoor.PTm
set_option linter.unusedVariables false
set_option linter.unusedSimpArgs false
namespace Go.Proofs.YtjnhdamilbcmpaaDoor.PTm
open Go.RowKit Go.Proofs.YtjnhdamilbcmpaaDoorW.PrintWords Go.Proofs.YtjnhdamilbcmpaaDoorW.PrintLast Go.Proofs.YtjnhdamilbcmpaaDoorW.PrintMore
theorem bt_get (s : ByteArray) (i : Nat) (h : i < s.size) : s.data.toList[i]? = some (UInt8.ofNat (bt s i).toNat) := by
 have e : bt s i = ((s[i]'h).toNat : Int) := by unfold bt; rw [dif_pos (by simpa using h)]; rfl
 rw [e]
 have : s.data.toList[i]? = some (s[i]'h) := by
  rw [List.getElem?_eq_getElem (by rw [← Lib.size_eq]; exact h)]
  rfl
 rw [this]
 simp
def putL (r : Int) : List Int := if r ≤ 127 then [r] else if r ≤ 2047 then [192 + r / 64, 128 + r % 64] else if r ≤ 65535 then [224 + r / 4096, 128 + r / 64 % 64, 128 + r % 64] else [240 + r / 262144, 128 + r / 4096 % 64, 128 + r / 64 % 64, 128 + r % 64]
def okp (s : ByteArray) (n : Nat) (r : Int) : Prop := (0 ≤ r ∧ r ≤ 1114111 ∧ (r < 55296 ∨ 57343 < r)) ∧ (strOfNums (putL r)).toList = (s.extract 0 n).toList
end Go.Proofs.YtjnhdamilbcmpaaDoor.PTm
set_option linter.unusedVariables false
set_option linter.unusedSimpArgs false
namespace Go.Proofs.YtjnhdamilbcmpaaDoor.PTm
open Go.RowKit Go.Proofs.YtjnhdamilbcmpaaDoorW.PrintWords Go.Proofs.YtjnhdamilbcmpaaDoorW.PrintLast Go.Proofs.YtjnhdamilbcmpaaDoorW.PrintMore
theorem bt_extract (s : ByteArray) (a b i : Nat) (hb : b ≤ s.size) (hi : a + i < b) : bt (s.extract a b) (i : Nat) = bt s ((a + i : Nat) : Int) := by
 have h1 : i < (s.extract a b).size := by simp; omega
 have h2 : a + i < s.size := by omega
 unfold bt
 simp only [Int.toNat_natCast]
 rw [dif_pos h1, dif_pos h2]
 simp [ByteArray.getElem_extract]
theorem dec_cases (s : ByteArray) : dec s = (0, 0) ∨ (1 ≤ (dec s).2 ∧ (dec s).2 ≤ 4 ∧ (dec s).2 ≤ s.size ∧ okn s (dec s).2 = true ∧ (dec s).1 = val s (dec s).2) := by
 unfold dec
 split
 ·rename_i h
  refine .inr ⟨by simp, by simp, ?_, h, rfl⟩
  simp [okn] at h ⊢; omega
 ·split
  ·rename_i h
   refine .inr ⟨by simp, by simp, ?_, h, rfl⟩
   simp [okn] at h ⊢; omega
  ·split
   ·rename_i h
    refine .inr ⟨by simp, by simp, ?_, h, rfl⟩
    simp [okn] at h ⊢; omega
   ·split
    ·rename_i h
     refine .inr ⟨by simp, by simp, ?_, h, rfl⟩
     simp [okn] at h ⊢; omega
    ·exact .inl rfl
def stop (s : ByteArray) : Nat → Nat → Nat
 | 0, at_ => at_
 | k + 1, at_ => if at_ < s.size then (if (dec (s.extract at_ s.size)).2 = 0 then at_ else stop s k (at_ + (dec (s.extract at_ s.size)).2.toNat)) else at_
theorem dec_le (s : ByteArray) (i : Nat) (h : i < s.size) (h0 : ¬ (dec (s.extract i s.size)).2 = 0) : 1 ≤ (dec (s.extract i s.size)).2 ∧ (dec (s.extract i s.size)).2 ≤ 4 ∧ i + (dec (s.extract i s.size)).2.toNat ≤ s.size := by
 rcases dec_cases (s.extract i s.size) with e | ⟨h1, h2, h3, _⟩
 ·rw [e] at h0; exact absurd rfl h0
 ·rw [extract_size s i (by omega)] at h3
  exact ⟨h1, h2, by omega⟩
theorem runes_end (s : ByteArray) (hs : s.size ≤ 140737488355328) : ∀ (k i : Nat), i ≤ s.size → s.size - i ≤ k →
  (runesFrom s k i).foldl (fun _ p => wrap64 (p.1 + sizeT p.2)) (i : Int) = (stop s k i : Nat)
 | 0, i, hi, hk => rfl
 | k + 1, i, hi, hk => by
  simp only [runesFrom, stop]
  by_cases h : i < s.size
  ·rw [if_pos h, if_pos h]
   have hg := getT_dec (s.extract i s.size)
   have hok := getT_ok (s.extract i s.size)
   by_cases h0 : (dec (s.extract i s.size)).2 = 0
   ·rw [if_pos h0] at hg
    rw [hg, if_neg (by simp), if_pos h0]
    rfl
   ·rw [if_neg h0] at hg
    obtain ⟨d1, d2, d3⟩ := dec_le s i h h0
    rw [hg] at hok ⊢
    rw [if_pos rfl, if_neg h0, List.foldl_cons]
    rcases hok with ⟨_, _, _, _, hz⟩ | hz
    ·have hz2 : sizeT (dec (s.extract i s.size)).1 = (dec (s.extract i s.size)).2 := by unfold sizeT; rw [hz]; rfl
     rw [← runes_end s hs k (i + (dec (s.extract i s.size)).2.toNat) d3 (by omega)]
     congr 1
     rw [hz2, w64n (by omega) (by omega)]
     omega
    ·exact absurd (congrArg (fun v => v.2.1) hz) h0
  ·rw [if_neg h, if_neg h]
   rfl
theorem validB_stop (s : ByteArray) (hs : s.size ≤ 140737488355328) : validB s = decide (stop s s.size 0 = s.size) := by
 unfold validB endOf runesOf
 have := runes_end s hs s.size 0 (by omega) (by omega)
 rw [show ((0 : Nat) : Int) = 0 from rfl] at this
 rw [this, Bool.eq_iff_iff]
 simp
 omega
end Go.Proofs.YtjnhdamilbcmpaaDoor.PTm
set_option linter.unusedVariables false
set_option linter.unusedSimpArgs false
namespace Go.Proofs.YtjnhdamilbcmpaaDoor.PTm
open Go.RowKit Go.Proofs.YtjnhdamilbcmpaaDoorW.PrintWords Go.Proofs.YtjnhdamilbcmpaaDoorW.PrintLast Go.Proofs.YtjnhdamilbcmpaaDoorW.PrintMore
def bad (c : Int) : Bool := decide (c ≤ 32) || c == 60 || c == 62 || c == 123 || c == 125 || c == 124 || c == 94 || c == 34 || c == 92 || c == 96
theorem bad_high (c : Int) (h : 128 ≤ c) : bad c = false := by
 unfold bad
 simp
 omega
theorem badRune_high (r : Int) (h : 128 ≤ r) : badRune r = false := by
 unfold badRune
 rw [if_neg (by omega), if_neg (by omega)]
theorem badRune_low (r : Int) (h : 0 ≤ r ∧ r < 128) : badRune r = bad r := by
 obtain ⟨n, rfl⟩ := Int.eq_ofNat_of_zero_le h.1
 have := List.all_eq_true.mp (show (List.range 128).all (fun n => badRune (n : Int) == bad (n : Int)) = true by decide +kernel) n (List.mem_range.mpr (by omega))
 simpa using this
theorem okn_first (t : ByteArray) (n : Int) (h : n = 2 ∨ n = 3 ∨ n = 4) (ho : okn t n = true) : 128 ≤ val t n := by
 have b1 := bt_range t 1
 rcases h with rfl | rfl | rfl
 ·simp [okn] at ho; simp [val]; omega
 ·simp [okn] at ho; omega
 ·simp [okn] at ho; omega
theorem okn_bytes (t : ByteArray) (n : Int) (h : n = 2 ∨ n = 3 ∨ n = 4) (ho : okn t n = true) (q : Nat) (hq : (q : Int) < n) : 128 ≤ bt t (q : Nat) := by
 rcases h with rfl | rfl | rfl
 ·simp [okn, tl] at ho
  have : q = 0 ∨ q = 1 := by omega
  rcases this with rfl | rfl
  ·show 128 ≤ bt t 0; omega
  ·show 128 ≤ bt t 1; omega
 ·simp [okn, tl] at ho
  have : q = 0 ∨ q = 1 ∨ q = 2 := by omega
  rcases this with rfl | rfl | rfl
  ·show 128 ≤ bt t 0; omega
  ·show 128 ≤ bt t 1; omega
  ·show 128 ≤ bt t 2; omega
 ·simp [okn, tl] at ho
  have : q = 0 ∨ q = 1 ∨ q = 2 ∨ q = 3 := by omega
  rcases this with rfl | rfl | rfl | rfl
  ·show 128 ≤ bt t 0; omega
  ·show 128 ≤ bt t 1; omega
  ·show 128 ≤ bt t 2; omega
  ·show 128 ≤ bt t 3; omega
theorem runes_bad (s : ByteArray) : ∀ (k i : Nat), i ≤ s.size → s.size - i ≤ k → stop s k i = s.size →
  ((runesFrom s k i).any (fun p => badRune p.2) = true ↔ ∃ j, i ≤ j ∧ j < s.size ∧ bad (bt s (j : Nat)) = true)
 | 0, i, hi, hk, hs => by
  simp only [runesFrom, List.any_nil, Bool.false_eq_true, false_iff]
  rintro ⟨j, h1, h2, _⟩
  omega
 | k + 1, i, hi, hk, hs => by
  simp only [stop] at hs
  simp only [runesFrom]
  by_cases h : i < s.size
  ·rw [if_pos h] at hs ⊢
   have hg := getT_dec (s.extract i s.size)
   by_cases h0 : (dec (s.extract i s.size)).2 = 0
   ·rw [if_pos h0] at hs; omega
   ·rw [if_neg h0] at hs hg
    obtain ⟨d1, d2, d3⟩ := dec_le s i h h0
    rw [hg, if_pos rfl, List.any_cons, Bool.or_eq_true, runes_bad s k _ d3 (by omega) hs]
    obtain ⟨e1, e2, e3, e4, e5⟩ : 1 ≤ (dec (s.extract i s.size)).2 ∧ (dec (s.extract i s.size)).2 ≤ 4 ∧ (dec (s.extract i s.size)).2 ≤ (s.extract i s.size).size ∧ okn (s.extract i s.size) (dec (s.extract i s.size)).2 = true ∧ (dec (s.extract i s.size)).1 = val (s.extract i s.size) (dec (s.extract i s.size)).2 := by
     rcases dec_cases (s.extract i s.size) with e | e
     ·rw [e] at h0; exact absurd rfl h0
     ·exact e
    have hbt : ∀ q : Nat, i + q < s.size → bt (s.extract i s.size) (q : Nat) = bt s ((i + q : Nat) : Int) := fun q hq => bt_extract s i s.size q (Nat.le_refl _) hq
    generalize hn : (dec (s.extract i s.size)).2 = n at *
    by_cases hn1 : n = 1
    ·subst hn1
     have hv : (dec (s.extract i s.size)).1 = bt s (i : Nat) := by
      rw [e5]
      have := hbt 0 (by omega)
      simpa [val] using this
     have hlow : bt s (i : Nat) < 128 := by
      have := hbt 0 (by omega)
      simp [okn] at e4
      rw [show ((0 : Nat) : Int) = 0 from rfl] at this
      rw [Nat.add_zero] at this
      omega
     have hb := bt_range s (i : Nat)
     simp only [hv]
     rw [badRune_low _ ⟨hb.1, hlow⟩]
     constructor
     ·rintro (h1 | ⟨j, j1, j2, j3⟩)
      ·exact ⟨i, Nat.le_refl _, h, h1⟩
      ·exact ⟨j, by simp at j1; omega, j2, j3⟩
     ·rintro ⟨j, j1, j2, j3⟩
      by_cases hj : j = i
      ·subst hj; exact .inl j3
      ·exact .inr ⟨j, by simp; omega, j2, j3⟩
    ·have hh : n = 2 ∨ n = 3 ∨ n = 4 := by omega
     have hv := okn_first _ n hh e4
     have hby := okn_bytes _ n hh e4
     simp only [e5]
     rw [badRune_high _ hv]
     constructor
     ·rintro (h1 | ⟨j, j1, j2, j3⟩)
      ·cases h1
      ·exact ⟨j, by omega, j2, j3⟩
     ·rintro ⟨j, j1, j2, j3⟩
      refine .inr ⟨j, ?_, j2, j3⟩
      by_cases hj : i + n.toNat ≤ j
      ·exact hj
      ·exfalso
       have hq := hby (j - i) (by omega)
       rw [hbt (j - i) (by omega), show i + (j - i) = j by omega] at hq
       rw [bad_high _ hq] at j3
       cases j3
  ·rw [if_neg h]
   simp only [List.any_nil, Bool.false_eq_true, false_iff]
   rintro ⟨j, h1, h2, _⟩
   omega
def iriP (s : ByteArray) : Prop := 1 ≤ s.size ∧ s.size ≤ 1000 ∧ stop s s.size 0 = s.size ∧ ∀ j, j < s.size → bad (bt s (j : Nat)) = false
theorem iriB_iff (s : ByteArray) : iriB s = true ↔ iriP s := by
 unfold iriB iriP
 by_cases h1 : s.size < 1
 ·rw [if_pos h1]
  simp; omega
 ·rw [if_neg h1]
  by_cases h2 : 1000 < s.size
  ·rw [if_pos h2]
   simp; omega
  ·rw [if_neg h2, validB_stop s (by omega)]
   by_cases h3 : stop s s.size 0 = s.size
   ·rw [if_pos (by simpa using h3)]
    have h4 := runes_bad s s.size 0 (by omega) (by omega) h3
    unfold runesOf
    constructor
    ·intro h
     refine ⟨by omega, by omega, h3, fun j hj => ?_⟩
     cases hb : bad (bt s (j : Nat)) with
     | false => rfl
     | true =>
      rw [h4.2 ⟨j, by omega, hj, hb⟩] at h
      cases h
    ·rintro ⟨_, _, _, h⟩
     cases ha : (runesFrom s s.size 0).any (fun p => badRune p.2) with
     | false => rfl
     | true =>
      obtain ⟨j, _, j2, j3⟩ := h4.1 ha
      rw [h j j2] at j3
      cases j3
   ·rw [if_neg (by simpa using h3)]
    simp [h3]
end Go.Proofs.YtjnhdamilbcmpaaDoor.PTm

import Derived.Test.YtpbphelaeleikaaDoorMePMeanx12
import Derived.Test.YtpbphelaeleikaaDoorMePMeanx17
import Derived.Lib.Strings
set_option linter.unusedVariables false
set_option linter.unusedSimpArgs false
namespace Go.Proofs.YtpbphelaeleikaaDoor.PMean
open Go.RowKit Go.Proofs.YtpbphelaeleikaaDoorW.PrintWords Go.Proofs.YtpbphelaeleikaaDoorW.PrintLast Go.Proofs.YtpbphelaeleikaaDoorW.PrintMore
theorem byte_all (p : Int → Bool) (h : (List.range 256).all (fun c => p (c : Int)) = true) (c : Int) (hc : 0 ≤ c ∧ c ≤ 255) : p c = true := by
 obtain ⟨n, rfl⟩ := Int.eq_ofNat_of_zero_le hc.1
 exact List.all_eq_true.mp h n (List.mem_range.mpr (by omega))
theorem and_31 (c : Int) (hc : 0 ≤ c ∧ c ≤ 255) : Go.bits .and .u8 c 31 = c % 32 := by simpa using byte_all (fun c => Go.bits .and .u8 c 31 == c % 32) (by decide +kernel) c hc
theorem and_15 (c : Int) (hc : 0 ≤ c ∧ c ≤ 255) : Go.bits .and .u8 c 15 = c % 16 := by simpa using byte_all (fun c => Go.bits .and .u8 c 15 == c % 16) (by decide +kernel) c hc
theorem and_7 (c : Int) (hc : 0 ≤ c ∧ c ≤ 255) : Go.bits .and .u8 c 7 = c % 8 := by simpa using byte_all (fun c => Go.bits .and .u8 c 7 == c % 8) (by decide +kernel) c hc
theorem and_63 (c : Int) (hc : 0 ≤ c ∧ c ≤ 255) : Go.bits .and .u8 c 63 = c % 64 := by simpa using byte_all (fun c => Go.bits .and .u8 c 63 == c % 64) (by decide +kernel) c hc
theorem and_192 (c : Int) (hc : 0 ≤ c ∧ c ≤ 255) : Go.bits .and .u8 c 192 = c / 64 * 64 := by simpa using byte_all (fun c => Go.bits .and .u8 c 192 == c / 64 * 64) (by decide +kernel) c hc
theorem or_64 (a b : Nat) (ha : a < 16777216) (hb : b < 64) : Go.bits .or .i64 ((a * 64 : Nat) : Int) (b : Int) = ((a * 64 + b : Nat) : Int) := by
 have e : a * 64 ||| b = a * 64 + b := by
  have := Nat.shiftLeft_add_eq_or_of_lt (a := a) (b := b) (i := 6) (by omega)
  rw [Nat.shiftLeft_eq] at this
  exact this.symm
 show IntKind.i64.wrap ((BitVec.ofInt 64 ((a * 64 : Nat) : Int) ||| BitVec.ofInt 64 (b : Int)).toNat : Int) = _
 rw [BitVec.toNat_or, BitVec.ofInt_natCast, BitVec.ofInt_natCast, BitVec.toNat_ofNat, BitVec.toNat_ofNat, Nat.mod_eq_of_lt (by omega), Nat.mod_eq_of_lt (by omega), e]
 rw [IntKind.wrap_i64]
 omega
theorem or64 (a b : Int) (ha : 0 ≤ a ∧ a < 16777216) (hb : 0 ≤ b ∧ b < 64) : Go.bits .or .i64 (wrap64 (a * 64)) (wrap64 b) = 64 * a + b := by
 obtain ⟨x, rfl⟩ := Int.eq_ofNat_of_zero_le ha.1
 obtain ⟨y, rfl⟩ := Int.eq_ofNat_of_zero_le hb.1
 rw [w64n (by omega) (by omega), w64n (by omega) (by omega)]
 have := or_64 x y (by omega) (by omega)
 rw [show ((x : Int) * 64) = ((x * 64 : Nat) : Int) by omega, this]
 omega
def val (s : ByteArray) (n : Int) : Int :=
 if n = 1 then bt s 0 else if n = 2 then 64 * (bt s 0 % 32) + bt s 1 % 64 else if n = 3 then 64 * (64 * (bt s 0 % 16) + bt s 1 % 64) + bt s 2 % 64 else 64 * (64 * (64 * (bt s 0 % 8) + bt s 1 % 64) + bt s 2 % 64) + bt s 3 % 64
def tl (c : Int) : Bool := decide (128 ≤ c ∧ c < 192)
def okn (s : ByteArray) (n : Int) : Bool :=
 if n = 1 then decide (1 ≤ (s.size : Int) ∧ bt s 0 < 128)
 else if n = 2 then decide (2 ≤ (s.size : Int) ∧ 194 ≤ bt s 0 ∧ bt s 0 < 224) && tl (bt s 1)
 else if n = 3 then decide (3 ≤ (s.size : Int) ∧ 224 ≤ bt s 0 ∧ bt s 0 < 240) && tl (bt s 1) && tl (bt s 2) && decide (2048 ≤ val s 3 ∧ (val s 3 < 55296 ∨ 57343 < val s 3))
 else decide (4 ≤ (s.size : Int) ∧ 240 ≤ bt s 0 ∧ bt s 0 < 245) && tl (bt s 1) && tl (bt s 2) && tl (bt s 3) && decide (65536 ≤ val s 4 ∧ val s 4 ≤ 1114111)
def dec (s : ByteArray) : Int × Int := if okn s 1 then (val s 1, 1) else if okn s 2 then (val s 2, 2) else if okn s 3 then (val s 3, 3) else if okn s 4 then (val s 4, 4) else (0, 0)
theorem head_eq (k : Nat) (c : Int) (hc : 0 ≤ c ∧ c ≤ 255) (hk : 3 ≤ k) : utf_head.f k c = some (if c < 128 then (c, 0) else if 194 ≤ c ∧ c < 224 then (c % 32, 1) else if 224 ≤ c ∧ c < 240 then (c % 16, 2) else if 240 ≤ c ∧ c < 245 then (c % 8, 3) else (0, -1)) := by
 obtain ⟨k, rfl⟩ : ∃ m, k = m + 3 := ⟨k - 3, by omega⟩
 have w1 : wrap64 c = c := w64n (by omega) (by omega)
 have w2 : wrap64 (c % 32) = c % 32 := w64n (by omega) (by omega)
 have w3 : wrap64 (c % 16) = c % 16 := w64n (by omega) (by omega)
 have w4 : wrap64 (c % 8) = c % 8 := w64n (by omega) (by omega)
 unfold utf_head.f
 simp only [utf_head.j0, utf_head.j1, and_31 c hc, and_15 c hc, and_7 c hc, w1, w2, w3, w4, decide_eq_true_eq]
 repeat' split
 all_goals first | rfl | (exfalso; omega) | simp_all
theorem getl (k : Nat) (s : ByteArray) (more r i : Int) (hi : 0 ≤ i) (hs : i + 1 < (s.size : Int)) (h4 : i < 4) (hm : i < more) (hr : 0 ≤ r ∧ r < 16777216) :
  utf_Get.l0 (k + 1) s more r i = if tl (bt s (i + 1)) = true then utf_Get.l0 k s more (64 * r + bt s (i + 1) % 64) (i + 1) else some (0, 0, 4) := by
 have hb := bt_range s (i + 1)
 simp only [utf_Get.l0]
 rw [if_pos hm, w64n (n := i + 1) (by omega) (by omega), if_pos (by omega), if_pos (by omega), and_192 _ hb, and_63 _ hb, or64 r _ hr (by omega)]
 by_cases h : tl (bt s (i + 1)) = true
 ·rw [if_pos h, if_pos (by simp [tl] at h; omega)]
 ·rw [if_neg h, if_neg (by simp [tl] at h; omega)]
theorem getend (k : Nat) (s : ByteArray) (more r : Int) (hm : 0 ≤ more ∧ more ≤ 3) (hr : 0 ≤ r) :
  utf_Get.l0 (k + 1) s more r more = some (if r ≤ 1114111 ∧ (r < 55296 ∨ 57343 < r) ∧ (if r < 128 then (1 : Int) else if r < 2048 then 2 else if r < 65536 then 3 else 4) = more + 1 then (r, more + 1, 0) else (0, 0, 4)) := by
 simp only [utf_Get.l0]
 rw [if_neg (by omega), w64n (n := more + 1) (by omega) (by omega)]
 unfold utf_may.f utf_size.f
 repeat' split
 all_goals first | rfl | (exfalso; omega) | skip
 all_goals
  simp only [Option.bind_some, if_true, decide_eq_true_eq]
  (repeat' split) <;> first | rfl | (exfalso; omega)
theorem getT_dec (s : ByteArray) : getT s = if (dec s).2 = 0 then (0, 0, 4) else ((dec s).1, (dec s).2, 0) := by
 have hG := getT_eq s
 unfold utf_Get.f at hG
 have b0 := bt_range s 0
 have b1 := bt_range s 1
 have b2 := bt_range s 2
 have b3 := bt_range s 3
 have fin : ∀ {v : Int × Int × Int} {d : Int × Int}, some v = some (getT s) → dec s = d → v = (if d.2 = 0 then (0, 0, 4) else (d.1, d.2, 0)) → getT s = if (dec s).2 = 0 then (0, 0, 4) else ((dec s).1, (dec s).2, 0) := fun h1 h2 h3 => by rw [h2, ← Option.some.inj h1, h3]
 by_cases h0 : 0 < s.size
 ·rw [if_pos h0, head_eq 12 (bt s 0) (bt_range s 0) (by omega), Option.bind_some] at hG
  by_cases c1 : bt s 0 < 128
  ·rw [if_pos c1] at hG
   simp only [utf_Get.j0] at hG
   rw [if_neg (by omega), if_neg (by omega), getend 11 s 0 _ (by omega) (by omega)] at hG
   refine fin hG (d := (bt s 0, 1)) ?_ ?_
   ·unfold dec
    rw [if_pos (by simp [okn]; omega)]
    simp [val]
   ·rw [if_pos (by refine ⟨by omega, by omega, ?_⟩; rw [if_pos c1]; rfl)]
    simp
  ·have n1 : okn s 1 = false := by simp [okn]; omega
   rw [if_neg c1] at hG
   by_cases c2 : 194 ≤ bt s 0 ∧ bt s 0 < 224
   ·have n3 : okn s 3 = false := by simp [okn]; omega
    have n4 : okn s 4 = false := by simp [okn]; omega
    rw [if_pos c2] at hG
    simp only [utf_Get.j0] at hG
    rw [if_neg (by omega)] at hG
    by_cases l1 : (s.size : Int) ≤ 1
    ·rw [if_pos l1] at hG
     have n2 : okn s 2 = false := by simp [okn]; omega
     exact fin hG (d := (0, 0)) (by simp [dec, n1, n2, n3, n4]) rfl
    ·rw [if_neg l1, getl 11 s 1 _ 0 (by omega) (by omega) (by omega) (by omega) (by omega)] at hG
     simp only [Int.zero_add] at hG
     by_cases t1 : tl (bt s 1) = true
     ·rw [if_pos t1, getend 10 s 1 _ (by omega) (by omega)] at hG
      have n2 : okn s 2 = true := by simp [okn, t1]; omega
      refine fin hG (d := (val s 2, 2)) (by simp [dec, n1, n2]) ?_
      rw [if_pos (by refine ⟨by omega, by omega, ?_⟩; rw [if_neg (by omega), if_pos (by omega)]; rfl)]
      simp [val]
     ·rw [if_neg t1] at hG
      have n2 : okn s 2 = false := by simp [okn, t1]
      exact fin hG (d := (0, 0)) (by simp [dec, n1, n2, n3, n4]) rfl
   ·have n2 : okn s 2 = false := by simp [okn]; omega
    rw [if_neg c2] at hG
    by_cases c3 : 224 ≤ bt s 0 ∧ bt s 0 < 240
    ·have n4 : okn s 4 = false := by simp [okn]; omega
     rw [if_pos c3] at hG
     simp only [utf_Get.j0] at hG
     rw [if_neg (by omega)] at hG
     by_cases l1 : (s.size : Int) ≤ 2
     ·rw [if_pos l1] at hG
      have n3 : okn s 3 = false := by simp [okn]; omega
      exact fin hG (d := (0, 0)) (by simp [dec, n1, n2, n3, n4]) rfl
     ·rw [if_neg l1, getl 11 s 2 _ 0 (by omega) (by omega) (by omega) (by omega) (by omega)] at hG
      simp only [Int.zero_add] at hG
      by_cases t1 : tl (bt s 1) = true
      ·rw [if_pos t1, getl 10 s 2 _ 1 (by omega) (by omega) (by omega) (by omega) (by omega)] at hG
       simp only [Int.reduceAdd] at hG
       by_cases t2 : tl (bt s 2) = true
       ·rw [if_pos t2, getend 9 s 2 _ (by omega) (by omega)] at hG
        have hv : 64 * (64 * (bt s 0 % 16) + bt s 1 % 64) + bt s 2 % 64 = val s 3 := by simp [val]
        rw [hv] at hG
        by_cases r3 : 2048 ≤ val s 3 ∧ (val s 3 < 55296 ∨ 57343 < val s 3)
        ·have n3 : okn s 3 = true := by simp [okn, t1, t2]; omega
         refine fin hG (d := (val s 3, 3)) (by simp [dec, n1, n2, n3]) ?_
         rw [if_pos (by refine ⟨by omega, by omega, ?_⟩; rw [if_neg (by omega), if_neg (by omega), if_pos (by omega)]; rfl)]
         simp
        ·have n3 : okn s 3 = false := by simp [okn, t1, t2]; omega
         refine fin hG (d := (0, 0)) (by simp [dec, n1, n2, n3, n4]) ?_
         rw [if_neg (by rintro ⟨q1, q2, q3⟩; (repeat' split at q3) <;> omega)]
         rfl
       ·rw [if_neg t2] at hG
        have n3 : okn s 3 = false := by simp [okn, t2]
        exact fin hG (d := (0, 0)) (by simp [dec, n1, n2, n3, n4]) rfl
      ·rw [if_neg t1] at hG
       have n3 : okn s 3 = false := by simp [okn, t1]
       exact fin hG (d := (0, 0)) (by simp [dec, n1, n2, n3, n4]) rfl
    ·have n3 : okn s 3 = false := by simp [okn]; omega
     rw [if_neg c3] at hG
     by_cases c4 : 240 ≤ bt s 0 ∧ bt s 0 < 245
     ·rw [if_pos c4] at hG
      simp only [utf_Get.j0] at hG
      rw [if_neg (by omega)] at hG
      by_cases l1 : (s.size : Int) ≤ 3
      ·rw [if_pos l1] at hG
       have n4 : okn s 4 = false := by simp [okn]; omega
       exact fin hG (d := (0, 0)) (by simp [dec, n1, n2, n3, n4]) rfl
      ·rw [if_neg l1, getl 11 s 3 _ 0 (by omega) (by omega) (by omega) (by omega) (by omega)] at hG
       simp only [Int.zero_add] at hG
       by_cases t1 : tl (bt s 1) = true
       ·rw [if_pos t1, getl 10 s 3 _ 1 (by omega) (by omega) (by omega) (by omega) (by omega)] at hG
        simp only [Int.reduceAdd] at hG
        by_cases t2 : tl (bt s 2) = true
        ·rw [if_pos t2, getl 9 s 3 _ 2 (by omega) (by omega) (by omega) (by omega) (by omega)] at hG
         simp only [Int.reduceAdd] at hG
         by_cases t3 : tl (bt s 3) = true
         ·rw [if_pos t3, getend 8 s 3 _ (by omega) (by omega)] at hG
          have hv : 64 * (64 * (64 * (bt s 0 % 8) + bt s 1 % 64) + bt s 2 % 64) + bt s 3 % 64 = val s 4 := by simp [val]
          rw [hv] at hG
          by_cases r3 : 65536 ≤ val s 4 ∧ val s 4 ≤ 1114111
          ·have n4 : okn s 4 = true := by simp [okn, t1, t2, t3]; omega
           refine fin hG (d := (val s 4, 4)) (by simp [dec, n1, n2, n3, n4]) ?_
           rw [if_pos (by refine ⟨by omega, by omega, ?_⟩; rw [if_neg (by omega), if_neg (by omega), if_neg (by omega)]; rfl)]
           simp
          ·have n4 : okn s 4 = false := by simp [okn, t1, t2, t3]; omega
           refine fin hG (d := (0, 0)) (by simp [dec, n1, n2, n3, n4]) ?_
           rw [if_neg (by rintro ⟨q1, q2, q3⟩; (repeat' split at q3) <;> omega)]
           rfl
         ·rw [if_neg t3] at hG
          have n4 : okn s 4 = false := by simp [okn, t3]
          exact fin hG (d := (0, 0)) (by simp [dec, n1, n2, n3, n4]) rfl
        ·rw [if_neg t2] at hG
         have n4 : okn s 4 = false := by simp [okn, t2]
         exact fin hG (d := (0, 0)) (by simp [dec, n1, n2, n3, n4]) rfl
       ·rw [if_neg t1] at hG
        have n4 : okn s 4 = false := by simp [okn, t1]
        exact fin hG (d := (0, 0)) (by simp [dec, n1, n2, n3, n4]) rfl
     ·rw [if_neg c4] at hG
      have n4 : okn s 4 = false := by simp [okn]; omega
      simp only [utf_Get.j0] at hG
      rw [if_pos (by omega)] at hG
      exact fin hG (d := (0, 0)) (by simp [dec, n1, n2, n3, n4]) rfl
 ·rw [if_neg h0] at hG
  refine fin hG (d := (0, 0)) ?_ rfl
  have e : (s.size : Int) = 0 := by omega
  simp [dec, okn, e]
end Go.Proofs.YtpbphelaeleikaaDoor.PMean
set_option linter.unusedVariables false
set_option linter.unusedSimpArgs false
namespace Go.Proofs.YtpbphelaeleikaaDoor.PMean
open Go.RowKit Go.Proofs.YtpbphelaeleikaaDoorW.PrintWords Go.Proofs.YtpbphelaeleikaaDoorW.PrintLast Go.Proofs.YtpbphelaeleikaaDoorW.PrintMore
theorem bt_get (s : ByteArray) (i : Nat) (h : i < s.size) : s.data.toList[i]? = some (UInt8.ofNat (bt s i).toNat) := by
 have e : bt s i = ((s[i]'h).toNat : Int) := by unfold bt; rw [dif_pos (by simpa using h)]; rfl
 rw [e]
 have : s.data.toList[i]? = some (s[i]'h) := by
  rw [List.getElem?_eq_getElem (by rw [← Lib.size_eq]; exact h)]
  rfl
 rw [this]
 simp
theorem ofNat_inj {a b : Int} (ha : 0 ≤ a ∧ a ≤ 255) (hb : 0 ≤ b ∧ b ≤ 255) (h : UInt8.ofNat a.toNat = UInt8.ofNat b.toNat) : a = b := by
 have h2 := congrArg UInt8.toNat h
 rw [UInt8.toNat_ofNat', UInt8.toNat_ofNat'] at h2
 omega
theorem take_eq (s : ByteArray) (xs : List Int) (hr : ∀ x ∈ xs, 0 ≤ x ∧ x ≤ 255) (hs : xs.length ≤ s.size) :
  ((strOfNums xs).toList = (s.extract 0 xs.length).toList) ↔ ∀ i, i < xs.length → bt s (i : Nat) = xs.getD i 0 := by
 rw [Lib.toList_data, strOfNums_data, Lib.extract_toList]
 simp only [List.drop_zero, Nat.sub_zero]
 constructor
 ·intro h i hi
  have h1 := congrArg (fun l : List UInt8 => l[i]?) h
  simp only [List.getElem?_map, List.getElem?_take, if_pos hi, bt_get s i (by omega), List.getElem?_eq_getElem hi, Option.map_some, Option.some.injEq] at h1
  have hx := hr _ (List.getElem_mem hi)
  rw [List.getD_eq_getElem?_getD, List.getElem?_eq_getElem hi]
  exact (ofNat_inj hx (bt_range s i) h1).symm
 ·intro h
  apply List.ext_getElem?
  intro i
  by_cases hi : i < xs.length
  ·have h1 := h i hi
   rw [List.getD_eq_getElem?_getD, List.getElem?_eq_getElem hi] at h1
   simp only [List.getElem?_map, List.getElem?_take, if_pos hi, bt_get s i (by omega), List.getElem?_eq_getElem hi, Option.map_some, Option.some.injEq]
   rw [h1]; rfl
  ·have hz : (s.data.toList.take xs.length)[i]? = none := by simp; omega
   rw [hz, List.getElem?_eq_none (by simpa using hi)]
theorem take_ne (s : ByteArray) (xs : List Int) (n : Nat) (hn : n ≤ s.size) (hl : xs.length ≠ n) : ¬ (strOfNums xs).toList = (s.extract 0 n).toList := by
 rw [Lib.toList_data, strOfNums_data, Lib.extract_toList]
 intro h
 have h1 := congrArg List.length h
 simp only [List.length_map, List.drop_zero, Nat.sub_zero, List.length_take, ← Lib.size_eq] at h1
 omega
def putL (r : Int) : List Int := if r ≤ 127 then [r] else if r ≤ 2047 then [192 + r / 64, 128 + r % 64] else if r ≤ 65535 then [224 + r / 4096, 128 + r / 64 % 64, 128 + r % 64] else [240 + r / 262144, 128 + r / 4096 % 64, 128 + r / 64 % 64, 128 + r % 64]
theorem put_eq (r : Int) (h0 : 0 ≤ r) (h1 : r ≤ 1114111) : rhizomeref01_Put.f r = some (putL r) := by
 have q1 : Int.tdiv r 64 = r / 64 := Int.tdiv_eq_ediv_of_nonneg h0
 have q2 : Int.tdiv r 4096 = r / 4096 := Int.tdiv_eq_ediv_of_nonneg h0
 have q3 : Int.tdiv r 262144 = r / 262144 := Int.tdiv_eq_ediv_of_nonneg h0
 have m1 : Int.tmod r 64 = r % 64 := Int.tmod_eq_emod_of_nonneg h0
 have w1 : wrap64 (r / 64) = r / 64 := w64n (by omega) (by omega)
 have w2 : wrap64 (r / 4096) = r / 4096 := w64n (by omega) (by omega)
 have w3 : wrap64 (r / 262144) = r / 262144 := w64n (by omega) (by omega)
 have m2 : Int.tmod (r / 64) 64 = r / 64 % 64 := Int.tmod_eq_emod_of_nonneg (by omega)
 have m3 : Int.tmod (r / 4096) 64 = r / 4096 % 64 := Int.tmod_eq_emod_of_nonneg (by omega)
 have v1 : wrap64 (192 + r / 64) = 192 + r / 64 := w64n (by omega) (by omega)
 have v2 : wrap64 (128 + r % 64) = 128 + r % 64 := w64n (by omega) (by omega)
 have v3 : wrap64 (224 + r / 4096) = 224 + r / 4096 := w64n (by omega) (by omega)
 have v4 : wrap64 (128 + r / 64 % 64) = 128 + r / 64 % 64 := w64n (by omega) (by omega)
 have v5 : wrap64 (240 + r / 262144) = 240 + r / 262144 := w64n (by omega) (by omega)
 have v6 : wrap64 (128 + r / 4096 % 64) = 128 + r / 4096 % 64 := w64n (by omega) (by omega)
 unfold rhizomeref01_Put.f putL
 simp only [q1, q2, q3, m1, w1, w2, w3, m2, m3, v1, v2, v3, v4, v5, v6]
 split
 ·rw [show r % 256 = r by omega]
 ·split
  ·rw [show (192 + r / 64) % 256 = 192 + r / 64 by omega, show (128 + r % 64) % 256 = 128 + r % 64 by omega]
  ·split
   ·rw [show (224 + r / 4096) % 256 = 224 + r / 4096 by omega, show (128 + r / 64 % 64) % 256 = 128 + r / 64 % 64 by omega, show (128 + r % 64) % 256 = 128 + r % 64 by omega]
   ·rw [show (240 + r / 262144) % 256 = 240 + r / 262144 by omega, show (128 + r / 4096 % 64) % 256 = 128 + r / 4096 % 64 by omega, show (128 + r / 64 % 64) % 256 = 128 + r / 64 % 64 by omega, show (128 + r % 64) % 256 = 128 + r % 64 by omega]
def okp (s : ByteArray) (n : Nat) (r : Int) : Prop := (0 ≤ r ∧ r ≤ 1114111 ∧ (r < 55296 ∨ 57343 < r)) ∧ (strOfNums (putL r)).toList = (s.extract 0 n).toList
theorem may_eq (r : Int) : rhizomeref01_May.f r = some (decide (0 ≤ r ∧ r ≤ 1114111 ∧ (r < 55296 ∨ 57343 < r))) := by
 unfold rhizomeref01_May.f
 repeat' split
 all_goals first | (congr 1; exact decide_eq_decide.mpr (by omega)) | (congr 1; symm; rw [decide_eq_true_eq]; omega) | (congr 1; symm; rw [decide_eq_false_iff_not]; omega)
theorem rg_end (k : Nat) (s : ByteArray) (n : Nat) (r : Int) (hn : n ≤ s.size) (h4 : n ≤ 4) : (okp s n r → rhizomeref01_Get.l1 (k + 1) s n r n = some (r, (n : Int))) ∧ (¬ okp s n r → rhizomeref01_Get.l1 (k + 1) s n r n = rhizomeref01_Get.l0 k s ((n : Int) + 1)) := by
 have e : rhizomeref01_Get.l1 (k + 1) s n r n = if (0 ≤ r ∧ r ≤ 1114111 ∧ (r < 55296 ∨ 57343 < r)) then (if (strOfNums (putL r)).toList = (s.extract 0 n).toList then some (r, (n : Int)) else rhizomeref01_Get.l0 k s ((n : Int) + 1)) else rhizomeref01_Get.l0 k s ((n : Int) + 1) := by
  simp only [rhizomeref01_Get.l1]
  rw [if_neg (by omega), may_eq, Option.bind_some, w64n (n := (n : Int) + 1) (by omega) (by omega)]
  by_cases h : (0 ≤ r ∧ r ≤ 1114111 ∧ (r < 55296 ∨ 57343 < r))
  ·rw [if_pos (by simpa using h), if_pos h, put_eq r h.1 h.2.1, Option.bind_some, if_pos (by omega), if_pos (by omega)]
   simp only [Int.toNat_natCast]
  ·rw [if_neg (by simpa using h), if_neg h]
 rw [e]
 unfold okp
 constructor
 ·rintro ⟨h1, h2⟩
  rw [if_pos h1, if_pos h2]
 ·intro h
  by_cases h1 : (0 ≤ r ∧ r ≤ 1114111 ∧ (r < 55296 ∨ 57343 < r))
  ·rw [if_pos h1, if_neg (fun h2 => h ⟨h1, h2⟩)]
  ·rw [if_neg h1]
theorem rg_start (k : Nat) (s : ByteArray) (n : Nat) (h1 : n ≤ 4) : rhizomeref01_Get.l0 (k + 2) s n = if n ≤ s.size then rhizomeref01_Get.l1 k s n 0 0 else some (0, 0) := by
 simp only [rhizomeref01_Get.l0, rhizomeref01_Get.j1]
 rw [if_pos (by omega)]
 by_cases h : n ≤ s.size
 ·rw [if_pos h, if_pos (by simpa using h)]
 ·rw [if_neg h, if_neg (by simpa using h)]
theorem rg_first1 (k : Nat) (s : ByteArray) (hs : 1 ≤ s.size) : rhizomeref01_Get.l1 (k + 2) s 1 0 0 = rhizomeref01_Get.l1 k s 1 (bt s 0) 1 := by
 have b0 := bt_range s 0
 simp only [rhizomeref01_Get.l1, rhizomeref01_Get.j3]
 rw [if_pos (by omega), if_pos (by omega), if_pos (by omega)]
 simp only [Int.lt_irrefl, gt_iff_lt, decide_false, Bool.false_eq_true, if_false, if_true, Int.mul_zero]
 rw [w64n (n := bt s 0) (by omega) (by omega), w64n (n := 0) (by omega) (by omega), Int.zero_add, w64n (n := bt s 0) (by omega) (by omega), w64n (n := 0 + 1) (by omega) (by omega)]
 rfl
theorem rg_firstn (k : Nat) (s : ByteArray) (n m : Int) (h1 : 1 < n) (h4 : n ≤ 4) (hs : n ≤ s.size) (hm : m = if n = 2 then 32 else if n = 3 then 16 else 8) : rhizomeref01_Get.l1 (k + 2) s n 0 0 = rhizomeref01_Get.l1 k s n (bt s 0 % m) 1 := by
 have b0 := bt_range s 0
 have hrd : rd [1, 1, 32, 16, 8] n = m := by
  have : n = 2 ∨ n = 3 ∨ n = 4 := by omega
  rcases this with rfl | rfl | rfl <;> simpa [rd] using hm.symm
 have hm0 : 0 < m ∧ m ≤ 32 := by rw [hm]; repeat' split <;> omega
 have hmm : 0 ≤ bt s 0 % m ∧ bt s 0 % m < m := ⟨Int.emod_nonneg _ (by omega), Int.emod_lt_of_pos _ (by omega)⟩
 have htm : Int.tmod (bt s 0) m = bt s 0 % m := Int.tmod_eq_emod_of_nonneg b0.1
 simp only [rhizomeref01_Get.l1, rhizomeref01_Get.j3]
 rw [if_pos (by omega), if_pos (by omega), if_pos (by omega), if_pos trivial, if_pos (by simpa using h1), Option.bind_some, if_pos (by omega), if_pos (by simp; omega), hrd, if_neg (by omega), if_neg (by omega)]
 rw [w64n (n := bt s 0) (by omega) (by omega), htm, Int.mul_zero, w64n (n := 0) (by omega) (by omega), Int.zero_add, w64n (n := bt s 0 % m) (by omega) (by omega), w64n (n := 0 + 1) (by omega) (by omega)]
 rfl
theorem rg_next (k : Nat) (s : ByteArray) (n r i : Int) (hr : 0 ≤ r ∧ r < 16777216) (hi : 0 < i) (hn : i < n) (h4 : n ≤ 4) (hs : n ≤ s.size) : rhizomeref01_Get.l1 (k + 2) s n r i = rhizomeref01_Get.l1 k s n (64 * r + bt s i % 64) (i + 1) := by
 have b0 := bt_range s i
 have htm : Int.tmod (bt s i) 64 = bt s i % 64 := Int.tmod_eq_emod_of_nonneg b0.1
 simp only [rhizomeref01_Get.l1, rhizomeref01_Get.j3]
 rw [if_pos (by omega), if_pos (by omega), if_pos (by omega), if_neg (by omega)]
 simp only [Bool.false_eq_true, if_false]
 rw [if_pos (by omega), w64n (n := bt s i) (by omega) (by omega), htm, w64n (n := 64 * r) (by omega) (by omega), w64n (n := 64 * r + bt s i % 64) (by omega) (by omega), w64n (n := i + 1) (by omega) (by omega)]
theorem okp_len {s : ByteArray} {n : Nat} {r : Int} (hn : n ≤ s.size) (h : okp s n r) : (putL r).length = n := by
 by_cases e : (putL r).length = n
 ·exact e
 ·exact absurd h.2 (take_ne s _ n hn e)
theorem putL_range (r : Int) (h0 : 0 ≤ r) (h1 : r ≤ 1114111) : ∀ x ∈ putL r, 0 ≤ x ∧ x ≤ 255 := by
 intro x hx
 unfold putL at hx
 repeat' split at hx
 all_goals
  simp only [List.mem_cons, List.not_mem_nil, or_false] at hx
  omega
theorem okp_iff (s : ByteArray) (n : Nat) (r : Int) (hn : n ≤ s.size) : okp s n r ↔ (0 ≤ r ∧ r ≤ 1114111 ∧ (r < 55296 ∨ 57343 < r)) ∧ (putL r).length = n ∧ ∀ i, i < n → bt s (i : Nat) = (putL r).getD i 0 := by
 constructor
 ·intro h
  have hl := okp_len hn h
  refine ⟨h.1, hl, ?_⟩
  have h2 := h.2
  rw [← hl] at h2 ⊢
  exact (take_eq s (putL r) (putL_range r h.1.1 h.1.2.1) (by omega)).1 h2
 ·rintro ⟨h1, rfl, h3⟩
  exact ⟨h1, (take_eq s (putL r) (putL_range r h1.1 h1.2.1) hn).2 h3⟩
theorem okp1 (s : ByteArray) (h : 1 ≤ s.size) : okp s 1 (bt s 0) ↔ okn s 1 = true := by
 have b0 := bt_range s 0
 rw [okp_iff s 1 _ h]
 simp only [okn, if_true, decide_eq_true_eq]
 constructor
 ·rintro ⟨_, hl, _⟩
  unfold putL at hl
  repeat' split at hl
  all_goals first | omega | (simp at hl)
 ·rintro ⟨_, hc⟩
  have e : putL (bt s 0) = [bt s 0] := by unfold putL; rw [if_pos (by omega)]
  refine ⟨by omega, by rw [e]; rfl, ?_⟩
  intro i hi
  obtain rfl : i = 0 := by omega
  rw [e]; rfl
theorem okp2 (s : ByteArray) (h : 2 ≤ s.size) : okp s 2 (64 * (bt s 0 % 32) + bt s 1 % 64) ↔ okn s 2 = true := by
 have b0 := bt_range s 0
 have b1 := bt_range s 1
 rw [okp_iff s 2 _ h]
 simp only [okn, tl, if_true, Bool.and_eq_true, decide_eq_true_eq, show ((2 : Int) = 1) = False by simp, if_false]
 generalize hv : 64 * (bt s 0 % 32) + bt s 1 % 64 = v
 constructor
 ·rintro ⟨_, hl, hb⟩
  have e0 := hb 0 (by omega)
  have e1 := hb 1 (by omega)
  unfold putL at hl e0 e1
  split at hl
  ·simp at hl
  ·rename_i g1
   rw [if_neg g1] at e0 e1
   split at hl
   ·rename_i g2
    rw [if_pos g2] at e0 e1
    simp at e0 e1
    omega
   ·split at hl <;> simp at hl
 ·rintro ⟨⟨_, g0, g1⟩, g2, g3⟩
  have e : putL v = [192 + v / 64, 128 + v % 64] := by unfold putL; rw [if_neg (by omega), if_pos (by omega)]
  refine ⟨by omega, by rw [e]; rfl, ?_⟩
  intro i hi
  rw [e]
  match i, hi with
  | 0, _ => simp; omega
  | 1, _ => simp; omega
theorem okp3 (s : ByteArray) (h : 3 ≤ s.size) : okp s 3 (64 * (64 * (bt s 0 % 16) + bt s 1 % 64) + bt s 2 % 64) ↔ okn s 3 = true := by
 have b0 := bt_range s 0
 have b1 := bt_range s 1
 have b2 := bt_range s 2
 rw [okp_iff s 3 _ h]
 have hv3 : val s 3 = 64 * (64 * (bt s 0 % 16) + bt s 1 % 64) + bt s 2 % 64 := by simp [val]
 simp only [okn, tl, if_true, Bool.and_eq_true, decide_eq_true_eq, show ((3 : Int) = 1) = False by simp, show ((3 : Int) = 2) = False by simp, if_false, hv3]
 generalize hv : 64 * (64 * (bt s 0 % 16) + bt s 1 % 64) + bt s 2 % 64 = v
 constructor
 ·rintro ⟨_, hl, hb⟩
  have e0 := hb 0 (by omega)
  have e1 := hb 1 (by omega)
  have e2 := hb 2 (by omega)
  unfold putL at hl e0 e1 e2
  split at hl
  ·simp at hl
  ·rename_i g1
   rw [if_neg g1] at e0 e1 e2
   split at hl
   ·simp at hl
   ·rename_i g2
    rw [if_neg g2] at e0 e1 e2
    split at hl
    ·rename_i g3
     rw [if_pos g3] at e0 e1 e2
     simp at e0 e1 e2
     omega
    ·simp at hl
 ·rintro ⟨⟨⟨⟨_, g0, g1⟩, g2, g3⟩, g4, g5⟩, g6, g7⟩
  have e : putL v = [224 + v / 4096, 128 + v / 64 % 64, 128 + v % 64] := by unfold putL; rw [if_neg (by omega), if_neg (by omega), if_pos (by omega)]
  refine ⟨by omega, by rw [e]; rfl, ?_⟩
  intro i hi
  rw [e]
  match i, hi with
  | 0, _ => simp; omega
  | 1, _ => simp; omega
  | 2, _ => simp; omega
theorem okp4 (s : ByteArray) (h : 4 ≤ s.size) : okp s 4 (64 * (64 * (64 * (bt s 0 % 8) + bt s 1 % 64) + bt s 2 % 64) + bt s 3 % 64) ↔ okn s 4 = true := by
 have b0 := bt_range s 0
 have b1 := bt_range s 1
 have b2 := bt_range s 2
 have b3 := bt_range s 3
 rw [okp_iff s 4 _ h]
 have hv3 : val s 4 = 64 * (64 * (64 * (bt s 0 % 8) + bt s 1 % 64) + bt s 2 % 64) + bt s 3 % 64 := by simp [val]
 simp only [okn, tl, if_true, Bool.and_eq_true, decide_eq_true_eq, show ((4 : Int) = 1) = False by simp, show ((4 : Int) = 2) = False by simp, show ((4 : Int) = 3) = False by simp, if_false, hv3]
 generalize hv : 64 * (64 * (64 * (bt s 0 % 8) + bt s 1 % 64) + bt s 2 % 64) + bt s 3 % 64 = v
 constructor
 ·rintro ⟨_, hl, hb⟩
  have e0 := hb 0 (by omega)
  have e1 := hb 1 (by omega)
  have e2 := hb 2 (by omega)
  have e3 := hb 3 (by omega)
  unfold putL at hl e0 e1 e2 e3
  split at hl
  ·simp at hl
  ·rename_i g1
   rw [if_neg g1] at e0 e1 e2 e3
   split at hl
   ·simp at hl
   ·rename_i g2
    rw [if_neg g2] at e0 e1 e2 e3
    split at hl
    ·simp at hl
    ·rename_i g3
     rw [if_neg g3] at e0 e1 e2 e3
     simp at e0 e1 e2 e3
     omega
 ·rintro ⟨⟨⟨⟨⟨_, g0, g1⟩, g2, g3⟩, g4, g5⟩, g6, g7⟩, g8, g9⟩
  have e : putL v = [240 + v / 262144, 128 + v / 4096 % 64, 128 + v / 64 % 64, 128 + v % 64] := by unfold putL; rw [if_neg (by omega), if_neg (by omega), if_neg (by omega)]
  refine ⟨by omega, by rw [e]; rfl, ?_⟩
  intro i hi
  rw [e]
  match i, hi with
  | 0, _ => simp; omega
  | 1, _ => simp; omega
  | 2, _ => simp; omega
  | 3, _ => simp; omega
theorem okn_small (s : ByteArray) (n : Nat) (h1 : 1 ≤ n) (h4 : n ≤ 4) (h : ¬ n ≤ s.size) : okn s n = false := by
 have : n = 1 ∨ n = 2 ∨ n = 3 ∨ n = 4 := by omega
 rcases this with rfl | rfl | rfl | rfl <;> (simp [okn]; omega)
theorem rget_eq (k : Nat) (s : ByteArray) (hk : 40 ≤ k) : rhizomeref01_Get.f k s = some (dec s) := by
 obtain ⟨m, rfl⟩ : ∃ m, k = m + 40 := ⟨k - 40, by omega⟩
 have b0 := bt_range s 0
 have b1 := bt_range s 1
 have b2 := bt_range s 2
 have b3 := bt_range s 3
 unfold rhizomeref01_Get.f
 have s1 := rg_start (m + 38) s 1 (by omega)
 have s2 := rg_start (m + 33) s 2 (by omega)
 have s3 := rg_start (m + 26) s 3 (by omega)
 have s4 := rg_start (m + 17) s 4 (by omega)
 rw [show ((1 : Int)) = ((1 : Nat) : Int) by rfl, s1]
 by_cases h1 : 1 ≤ s.size
 ·rw [if_pos h1]
  have f1 := rg_first1 (m + 36) s h1
  have e1 := rg_end (m + 35) s 1 (bt s 0) h1 (by omega)
  rw [show (((1 : Nat)) : Int) = 1 by rfl] at e1 ⊢
  rw [f1]
  by_cases o1 : okn s 1 = true
  ·rw [e1.1 ((okp1 s h1).2 o1)]
   simp [dec, o1, val]
  ·rw [e1.2 (fun h => o1 ((okp1 s h1).1 h)), show ((1 : Int) + 1) = ((2 : Nat) : Int) by rfl, s2]
   by_cases h2 : 2 ≤ s.size
   ·rw [if_pos h2]
    have f2 := rg_firstn (m + 31) s 2 32 (by omega) (by omega) (by omega) rfl
    have g2 := rg_next (m + 29) s 2 (bt s 0 % 32) 1 (by omega) (by omega) (by omega) (by omega) (by omega)
    have e2 := rg_end (m + 28) s 2 (64 * (bt s 0 % 32) + bt s 1 % 64) h2 (by omega)
    rw [show (((2 : Nat)) : Int) = 2 by rfl] at e2 ⊢
    rw [f2, g2]
    by_cases o2 : okn s 2 = true
    ·rw [show ((1 : Int) + 1) = 2 by rfl, e2.1 ((okp2 s h2).2 o2)]
     simp [dec, o1, o2, val]
    ·rw [show ((1 : Int) + 1) = 2 by rfl, e2.2 (fun h => o2 ((okp2 s h2).1 h)), show ((2 : Int) + 1) = ((3 : Nat) : Int) by rfl, s3]
     by_cases h3 : 3 ≤ s.size
     ·rw [if_pos h3]
      have f3 := rg_firstn (m + 24) s 3 16 (by omega) (by omega) (by omega) rfl
      have g3 := rg_next (m + 22) s 3 (bt s 0 % 16) 1 (by omega) (by omega) (by omega) (by omega) (by omega)
      have g3b := rg_next (m + 20) s 3 (64 * (bt s 0 % 16) + bt s 1 % 64) 2 (by omega) (by omega) (by omega) (by omega) (by omega)
      have e3 := rg_end (m + 19) s 3 (64 * (64 * (bt s 0 % 16) + bt s 1 % 64) + bt s 2 % 64) h3 (by omega)
      rw [show (((3 : Nat)) : Int) = 3 by rfl] at e3 ⊢
      rw [f3, g3, show ((1 : Int) + 1) = 2 by rfl, g3b, show ((2 : Int) + 1) = 3 by rfl]
      by_cases o3 : okn s 3 = true
      ·rw [e3.1 ((okp3 s h3).2 o3)]
       simp [dec, o1, o2, o3, val]
      ·rw [e3.2 (fun h => o3 ((okp3 s h3).1 h)), show ((3 : Int) + 1) = ((4 : Nat) : Int) by rfl, s4]
       by_cases h4 : 4 ≤ s.size
       ·rw [if_pos h4]
        have f4 := rg_firstn (m + 15) s 4 8 (by omega) (by omega) (by omega) rfl
        have g4 := rg_next (m + 13) s 4 (bt s 0 % 8) 1 (by omega) (by omega) (by omega) (by omega) (by omega)
        have g4b := rg_next (m + 11) s 4 (64 * (bt s 0 % 8) + bt s 1 % 64) 2 (by omega) (by omega) (by omega) (by omega) (by omega)
        have g4c := rg_next (m + 9) s 4 (64 * (64 * (bt s 0 % 8) + bt s 1 % 64) + bt s 2 % 64) 3 (by omega) (by omega) (by omega) (by omega) (by omega)
        have e4 := rg_end (m + 8) s 4 (64 * (64 * (64 * (bt s 0 % 8) + bt s 1 % 64) + bt s 2 % 64) + bt s 3 % 64) h4 (by omega)
        rw [show (((4 : Nat)) : Int) = 4 by rfl] at e4 ⊢
        rw [f4, g4, show ((1 : Int) + 1) = 2 by rfl, g4b, show ((2 : Int) + 1) = 3 by rfl, g4c, show ((3 : Int) + 1) = 4 by rfl]
        by_cases o4 : okn s 4 = true
        ·rw [e4.1 ((okp4 s h4).2 o4)]
         simp [dec, o1, o2, o3, o4, val]
        ·rw [e4.2 (fun h => o4 ((okp4 s h4).1 h))]
         simp only [rhizomeref01_Get.l0, rhizomeref01_Get.j1]
         simp [dec, o1, o2, o3, o4]
       ·have o4 := okn_small s 4 (by omega) (by omega) h4
        rw [if_neg h4]
        simp [dec, o1, o2, o3, show okn s 4 = false from o4]
     ·have o3 := okn_small s 3 (by omega) (by omega) h3
      have o4 := okn_small s 4 (by omega) (by omega) (by omega)
      rw [if_neg h3]
      simp [dec, o1, o2, show okn s 3 = false from o3, show okn s 4 = false from o4]
   ·have o2 := okn_small s 2 (by omega) (by omega) h2
    have o3 := okn_small s 3 (by omega) (by omega) (by omega)
    have o4 := okn_small s 4 (by omega) (by omega) (by omega)
    rw [if_neg h2]
    simp [dec, o1, show okn s 2 = false from o2, show okn s 3 = false from o3, show okn s 4 = false from o4]
 ·have o1 := okn_small s 1 (by omega) (by omega) h1
  have o2 := okn_small s 2 (by omega) (by omega) (by omega)
  have o3 := okn_small s 3 (by omega) (by omega) (by omega)
  have o4 := okn_small s 4 (by omega) (by omega) (by omega)
  rw [if_neg h1]
  simp [dec, show okn s 1 = false from o1, show okn s 2 = false from o2, show okn s 3 = false from o3, show okn s 4 = false from o4]
end Go.Proofs.YtpbphelaeleikaaDoor.PMean
set_option linter.unusedVariables false
set_option linter.unusedSimpArgs false
namespace Go.Proofs.YtpbphelaeleikaaDoor.PMean
open Go.RowKit Go.Proofs.YtpbphelaeleikaaDoorW.PrintWords Go.Proofs.YtpbphelaeleikaaDoorW.PrintLast Go.Proofs.YtpbphelaeleikaaDoorW.PrintMore
theorem bt_extract (s : ByteArray) (a b i : Nat) (hb : b ≤ s.size) (hi : a + i < b) : bt (s.extract a b) (i : Nat) = bt s ((a + i : Nat) : Int) := by
 have h1 : i < (s.extract a b).size := by simp; omega
 have h2 : a + i < s.size := by omega
 unfold bt
 simp only [Int.toNat_natCast]
 rw [dif_pos h1, dif_pos h2]
 simp [ByteArray.getElem_extract]
theorem dec_cong (s t : ByteArray) (hs : 1 ≤ s.size) (ht : 1 ≤ t.size) (hz : s.size = t.size ∨ (4 ≤ s.size ∧ 4 ≤ t.size)) (hb : ∀ i, i < 4 → i < s.size → bt s (i : Nat) = bt t (i : Nat)) : dec s = dec t := by
 have e0 : bt s 0 = bt t 0 := hb 0 (by omega) (by omega)
 have e1 : 2 ≤ s.size → bt s 1 = bt t 1 := fun h => hb 1 (by omega) (by omega)
 have e2 : 3 ≤ s.size → bt s 2 = bt t 2 := fun h => hb 2 (by omega) (by omega)
 have e3 : 4 ≤ s.size → bt s 3 = bt t 3 := fun h => hb 3 (by omega) (by omega)
 have hn : ∀ n, n ≤ 4 → (n ≤ s.size ↔ n ≤ t.size) := fun n h => by omega
 have k1 : okn s 1 = okn t 1 := by
  simp only [okn, if_true, e0]
  have := hn 1 (by omega)
  exact decide_eq_decide.mpr (by omega)
 have k2 : okn s 2 = okn t 2 ∧ (okn s 2 = true → val s 2 = val t 2) := by
  by_cases h : 2 ≤ s.size
  ·have h' := (hn 2 (by omega)).1 h
   simp only [okn, val, e0, e1 h]
   refine ⟨?_, fun _ => by first | trivial | simp⟩
   have hd : decide (2 ≤ (s.size : Int)) = decide (2 ≤ (t.size : Int)) := decide_eq_decide.mpr (by omega)
   simp [hd]
  ·rw [show okn s 2 = false from okn_small s 2 (by omega) (by omega) h, show okn t 2 = false from okn_small t 2 (by omega) (by omega) (fun h' => h ((hn 2 (by omega)).2 h'))]
   exact ⟨rfl, fun h => by cases h⟩
 have k3 : okn s 3 = okn t 3 ∧ (okn s 3 = true → val s 3 = val t 3) := by
  by_cases h : 3 ≤ s.size
  ·have h' := (hn 3 (by omega)).1 h
   have hd : decide (3 ≤ (s.size : Int)) = decide (3 ≤ (t.size : Int)) := decide_eq_decide.mpr (by omega)
   simp only [okn, val, e0, e1 (by omega), e2 h]
   refine ⟨?_, fun _ => by first | trivial | simp⟩
   simp [hd]
  ·rw [show okn s 3 = false from okn_small s 3 (by omega) (by omega) h, show okn t 3 = false from okn_small t 3 (by omega) (by omega) (fun h' => h ((hn 3 (by omega)).2 h'))]
   exact ⟨rfl, fun h => by cases h⟩
 have k4 : okn s 4 = okn t 4 ∧ (okn s 4 = true → val s 4 = val t 4) := by
  by_cases h : 4 ≤ s.size
  ·have h' := (hn 4 (by omega)).1 h
   simp only [okn, val, e0, e1 (by omega), e2 (by omega), e3 h]
   refine ⟨?_, fun _ => by first | trivial | simp⟩
   have hd : decide (4 ≤ (s.size : Int)) = decide (4 ≤ (t.size : Int)) := decide_eq_decide.mpr (by omega)
   simp [hd]
  ·rw [show okn s 4 = false from okn_small s 4 (by omega) (by omega) h, show okn t 4 = false from okn_small t 4 (by omega) (by omega) (fun h' => h ((hn 4 (by omega)).2 h'))]
   exact ⟨rfl, fun h => by cases h⟩
 have v1 : val s 1 = val t 1 := by simp [val, e0]
 unfold dec
 rw [← k1, ← k2.1, ← k3.1, ← k4.1, v1]
 split
 ·rfl
 ·split
  ·rename_i h; rw [k2.2 h]
  ·split
   ·rename_i h; rw [k3.2 h]
   ·split
    ·rename_i h; rw [k4.2 h]
    ·rfl
theorem dec_window (s : ByteArray) (i : Nat) (h : i < s.size) : dec (s.extract i (min s.size (i + 4))) = dec (s.extract i s.size) := by
 apply dec_cong
 ·simp; omega
 ·simp; omega
 ·simp; omega
 ·intro j h4 hj
  have hj' : i + j < min s.size (i + 4) := by simp at hj; omega
  rw [bt_extract s i _ j (by omega) hj', bt_extract s i s.size j (Nat.le_refl _) (by omega)]
theorem dec_cases (s : ByteArray) : dec s = (0, 0) ∨ (1 ≤ (dec s).2 ∧ (dec s).2 ≤ 4 ∧ (dec s).2 ≤ s.size ∧ okn s (dec s).2 = true ∧ (dec s).1 = val s (dec s).2) := by
 unfold dec
 split
 ·rename_i h
  refine .inr ⟨by simp, by simp, ?_, h, rfl⟩
  simp [okn] at h ⊢; omega
 ·split
  ·rename_i h
   refine .inr ⟨by simp, by simp, ?_, h, rfl⟩
   simp [okn] at h ⊢; omega
  ·split
   ·rename_i h
    refine .inr ⟨by simp, by simp, ?_, h, rfl⟩
    simp [okn] at h ⊢; omega
   ·split
    ·rename_i h
     refine .inr ⟨by simp, by simp, ?_, h, rfl⟩
     simp [okn] at h ⊢; omega
    ·exact .inl rfl
def stop (s : ByteArray) : Nat → Nat → Nat
 | 0, at_ => at_
 | k + 1, at_ => if at_ < s.size then (if (dec (s.extract at_ s.size)).2 = 0 then at_ else stop s k (at_ + (dec (s.extract at_ s.size)).2.toNat)) else at_
theorem dec_le (s : ByteArray) (i : Nat) (h : i < s.size) (h0 : ¬ (dec (s.extract i s.size)).2 = 0) : 1 ≤ (dec (s.extract i s.size)).2 ∧ (dec (s.extract i s.size)).2 ≤ 4 ∧ i + (dec (s.extract i s.size)).2.toNat ≤ s.size := by
 rcases dec_cases (s.extract i s.size) with e | ⟨h1, h2, h3, _⟩
 ·rw [e] at h0; exact absurd rfl h0
 ·rw [extract_size s i (by omega)] at h3
  exact ⟨h1, h2, by omega⟩
theorem runes_end (s : ByteArray) (hs : s.size ≤ 140737488355328) : ∀ (k i : Nat), i ≤ s.size → s.size - i ≤ k →
  (runesFrom s k i).foldl (fun _ p => wrap64 (p.1 + sizeT p.2)) (i : Int) = (stop s k i : Nat)
 | 0, i, hi, hk => rfl
 | k + 1, i, hi, hk => by
  simp only [runesFrom, stop]
  by_cases h : i < s.size
  ·rw [if_pos h, if_pos h]
   have hg := getT_dec (s.extract i s.size)
   have hok := getT_ok (s.extract i s.size)
   by_cases h0 : (dec (s.extract i s.size)).2 = 0
   ·rw [if_pos h0] at hg
    rw [hg, if_neg (by simp), if_pos h0]
    rfl
   ·rw [if_neg h0] at hg
    obtain ⟨d1, d2, d3⟩ := dec_le s i h h0
    rw [hg] at hok ⊢
    rw [if_pos rfl, if_neg h0, List.foldl_cons]
    rcases hok with ⟨_, _, _, _, hz⟩ | hz
    ·have hz2 : sizeT (dec (s.extract i s.size)).1 = (dec (s.extract i s.size)).2 := by unfold sizeT; rw [hz]; rfl
     rw [← runes_end s hs k (i + (dec (s.extract i s.size)).2.toNat) d3 (by omega)]
     congr 1
     rw [hz2, w64n (by omega) (by omega)]
     omega
    ·exact absurd (congrArg (fun v => v.2.1) hz) h0
  ·rw [if_neg h, if_neg h]
   rfl
theorem validB_stop (s : ByteArray) (hs : s.size ≤ 140737488355328) : validB s = decide (stop s s.size 0 = s.size) := by
 unfold validB endOf runesOf
 have := runes_end s hs s.size 0 (by omega) (by omega)
 rw [show ((0 : Nat) : Int) = 0 from rfl] at this
 rw [this, Bool.eq_iff_iff]
 simp
 omega
theorem refRunes (s : ByteArray) (hs : s.size ≤ 1000000000000) (m : Nat) : ∀ (k i : Nat) (l : List S88), i ≤ s.size → s.size - i ≤ k → l.length ≤ i →
  ∃ l', rhizomeref01_Runes.l0 (k + 1 + 40 + m) s l i = some (l', ((stop s k i : Nat) : Int))
 | 0, i, l, hi, hk, hl => by
  rw [show 0 + 1 + 40 + m = (40 + m) + 1 by omega]
  simp only [rhizomeref01_Runes.l0, stop]
  rw [if_neg (by omega)]
  exact ⟨l, rfl⟩
 | k + 1, i, l, hi, hk, hl => by
  rw [show k + 1 + 1 + 40 + m = (k + 1 + 40 + m) + 1 by omega]
  simp only [rhizomeref01_Runes.l0, stop]
  by_cases h : i < s.size
  ·have hw : wrap64 ((i : Int) + 4) = ((i + 4 : Nat) : Int) := by rw [w64n (by omega) (by omega)]; omega
   have hmn : mn (s.size : Int) ((i + 4 : Nat) : Int) = ((min s.size (i + 4) : Nat) : Int) := by unfold mn; split <;> omega
   rw [if_pos (by omega), if_pos (by omega), hw, hmn, if_pos (by omega), if_pos (by omega), if_pos h]
   simp only [Int.toNat_natCast]
   rw [rget_eq _ _ (by omega), Option.bind_some, dec_window s i h]
   by_cases h0 : (dec (s.extract i s.size)).2 = 0
   ·rw [if_pos h0, if_pos h0]
    exact ⟨l, rfl⟩
   ·obtain ⟨d1, d2, d3⟩ := dec_le s i h h0
    rw [if_neg h0, if_neg h0, if_pos (by omega)]
    obtain ⟨l', e⟩ := refRunes s hs m k (i + (dec (s.extract i s.size)).2.toNat) (l ++ [⟨i, (dec (s.extract i s.size)).1⟩]) d3 (by omega) (by simp; omega)
    refine ⟨l', ?_⟩
    rw [← e, w64n (by omega) (by omega)]
    congr 1
    omega
  ·rw [if_neg (by omega), if_neg h]
   exact ⟨l, rfl⟩
theorem refValid (s : ByteArray) (hs : s.size ≤ 1000000000000) (k : Nat) (hk : s.size + 41 ≤ k) : rhizomeref01_Valid.f k s = some (validB s) := by
 obtain ⟨m, rfl⟩ : ∃ m, k = s.size + 1 + 40 + m := ⟨k - s.size - 41, by omega⟩
 unfold rhizomeref01_Valid.f rhizomeref01_Runes.f
 obtain ⟨l', e⟩ := refRunes s hs m s.size 0 [] (by omega) (by omega) (by simp)
 rw [show (0 : Int) = ((0 : Nat) : Int) from rfl, e, Option.bind_some, validB_stop s (by omega)]
 congr 1
 rw [Bool.eq_iff_iff]
 simp
 omega
end Go.Proofs.YtpbphelaeleikaaDoor.PMean
set_option linter.unusedVariables false
set_option linter.unusedSimpArgs false
namespace Go.Proofs.YtpbphelaeleikaaDoor.PMean
open Go.RowKit Go.Proofs.YtpbphelaeleikaaDoorW.PrintWords Go.Proofs.YtpbphelaeleikaaDoorW.PrintLast Go.Proofs.YtpbphelaeleikaaDoorW.PrintMore
def bad (c : Int) : Bool := decide (c ≤ 32) || c == 60 || c == 62 || c == 123 || c == 125 || c == 124 || c == 94 || c == 34 || c == 92 || c == 96
theorem bad_high (c : Int) (h : 128 ≤ c) : bad c = false := by
 unfold bad
 simp
 omega
theorem badRune_high (r : Int) (h : 128 ≤ r) : badRune r = false := by
 unfold badRune
 rw [if_neg (by omega), if_neg (by omega)]
theorem badRune_low (r : Int) (h : 0 ≤ r ∧ r < 128) : badRune r = bad r := by
 obtain ⟨n, rfl⟩ := Int.eq_ofNat_of_zero_le h.1
 have := List.all_eq_true.mp (show (List.range 128).all (fun n => badRune (n : Int) == bad (n : Int)) = true by decide +kernel) n (List.mem_range.mpr (by omega))
 simpa using this
theorem okn_first (t : ByteArray) (n : Int) (h : n = 2 ∨ n = 3 ∨ n = 4) (ho : okn t n = true) : 128 ≤ val t n := by
 have b1 := bt_range t 1
 rcases h with rfl | rfl | rfl
 ·simp [okn] at ho; simp [val]; omega
 ·simp [okn] at ho; omega
 ·simp [okn] at ho; omega
theorem okn_bytes (t : ByteArray) (n : Int) (h : n = 2 ∨ n = 3 ∨ n = 4) (ho : okn t n = true) (q : Nat) (hq : (q : Int) < n) : 128 ≤ bt t (q : Nat) := by
 rcases h with rfl | rfl | rfl
 ·simp [okn, tl] at ho
  have : q = 0 ∨ q = 1 := by omega
  rcases this with rfl | rfl
  ·show 128 ≤ bt t 0; omega
  ·show 128 ≤ bt t 1; omega
 ·simp [okn, tl] at ho
  have : q = 0 ∨ q = 1 ∨ q = 2 := by omega
  rcases this with rfl | rfl | rfl
  ·show 128 ≤ bt t 0; omega
  ·show 128 ≤ bt t 1; omega
  ·show 128 ≤ bt t 2; omega
 ·simp [okn, tl] at ho
  have : q = 0 ∨ q = 1 ∨ q = 2 ∨ q = 3 := by omega
  rcases this with rfl | rfl | rfl | rfl
  ·show 128 ≤ bt t 0; omega
  ·show 128 ≤ bt t 1; omega
  ·show 128 ≤ bt t 2; omega
  ·show 128 ≤ bt t 3; omega
theorem runes_bad (s : ByteArray) : ∀ (k i : Nat), i ≤ s.size → s.size - i ≤ k → stop s k i = s.size →
  ((runesFrom s k i).any (fun p => badRune p.2) = true ↔ ∃ j, i ≤ j ∧ j < s.size ∧ bad (bt s (j : Nat)) = true)
 | 0, i, hi, hk, hs => by
  simp only [runesFrom, List.any_nil, Bool.false_eq_true, false_iff]
  rintro ⟨j, h1, h2, _⟩
  omega
 | k + 1, i, hi, hk, hs => by
  simp only [stop] at hs
  simp only [runesFrom]
  by_cases h : i < s.size
  ·rw [if_pos h] at hs ⊢
   have hg := getT_dec (s.extract i s.size)
   by_cases h0 : (dec (s.extract i s.size)).2 = 0
   ·rw [if_pos h0] at hs; omega
   ·rw [if_neg h0] at hs hg
    obtain ⟨d1, d2, d3⟩ := dec_le s i h h0
    rw [hg, if_pos rfl, List.any_cons, Bool.or_eq_true, runes_bad s k _ d3 (by omega) hs]
    obtain ⟨e1, e2, e3, e4, e5⟩ : 1 ≤ (dec (s.extract i s.size)).2 ∧ (dec (s.extract i s.size)).2 ≤ 4 ∧ (dec (s.extract i s.size)).2 ≤ (s.extract i s.size).size ∧ okn (s.extract i s.size) (dec (s.extract i s.size)).2 = true ∧ (dec (s.extract i s.size)).1 = val (s.extract i s.size) (dec (s.extract i s.size)).2 := by
     rcases dec_cases (s.extract i s.size) with e | e
     ·rw [e] at h0; exact absurd rfl h0
     ·exact e
    have hbt : ∀ q : Nat, i + q < s.size → bt (s.extract i s.size) (q : Nat) = bt s ((i + q : Nat) : Int) := fun q hq => bt_extract s i s.size q (Nat.le_refl _) hq
    generalize hn : (dec (s.extract i s.size)).2 = n at *
    by_cases hn1 : n = 1
    ·subst hn1
     have hv : (dec (s.extract i s.size)).1 = bt s (i : Nat) := by
      rw [e5]
      have := hbt 0 (by omega)
      simpa [val] using this
     have hlow : bt s (i : Nat) < 128 := by
      have := hbt 0 (by omega)
      simp [okn] at e4
      rw [show ((0 : Nat) : Int) = 0 from rfl] at this
      rw [Nat.add_zero] at this
      omega
     have hb := bt_range s (i : Nat)
     simp only [hv]
     rw [badRune_low _ ⟨hb.1, hlow⟩]
     constructor
     ·rintro (h1 | ⟨j, j1, j2, j3⟩)
      ·exact ⟨i, Nat.le_refl _, h, h1⟩
      ·exact ⟨j, by simp at j1; omega, j2, j3⟩
     ·rintro ⟨j, j1, j2, j3⟩
      by_cases hj : j = i
      ·subst hj; exact .inl j3
      ·exact .inr ⟨j, by simp; omega, j2, j3⟩
    ·have hh : n = 2 ∨ n = 3 ∨ n = 4 := by omega
     have hv := okn_first _ n hh e4
     have hby := okn_bytes _ n hh e4
     simp only [e5]
     rw [badRune_high _ hv]
     constructor
     ·rintro (h1 | ⟨j, j1, j2, j3⟩)
      ·cases h1
      ·exact ⟨j, by omega, j2, j3⟩
     ·rintro ⟨j, j1, j2, j3⟩
      refine .inr ⟨j, ?_, j2, j3⟩
      by_cases hj : i + n.toNat ≤ j
      ·exact hj
      ·exfalso
       have hq := hby (j - i) (by omega)
       rw [hbt (j - i) (by omega), show i + (j - i) = j by omega] at hq
       rw [bad_high _ hq] at j3
       cases j3
  ·rw [if_neg h]
   simp only [List.any_nil, Bool.false_eq_true, false_iff]
   rintro ⟨j, h1, h2, _⟩
   omega
def iriP (s : ByteArray) : Prop := 1 ≤ s.size ∧ s.size ≤ 1000 ∧ stop s s.size 0 = s.size ∧ ∀ j, j < s.size → bad (bt s (j : Nat)) = false
theorem iriB_iff (s : ByteArray) : iriB s = true ↔ iriP s := by
 unfold iriB iriP
 by_cases h1 : s.size < 1
 ·rw [if_pos h1]
  simp; omega
 ·rw [if_neg h1]
  by_cases h2 : 1000 < s.size
  ·rw [if_pos h2]
   simp; omega
  ·rw [if_neg h2, validB_stop s (by omega)]
   by_cases h3 : stop s s.size 0 = s.size
   ·rw [if_pos (by simpa using h3)]
    have h4 := runes_bad s s.size 0 (by omega) (by omega) h3
    unfold runesOf
    constructor
    ·intro h
     refine ⟨by omega, by omega, h3, fun j hj => ?_⟩
     cases hb : bad (bt s (j : Nat)) with
     | false => rfl
     | true =>
      rw [h4.2 ⟨j, by omega, hj, hb⟩] at h
      cases h
    ·rintro ⟨_, _, _, h⟩
     cases ha : (runesFrom s s.size 0).any (fun p => badRune p.2) with
     | false => rfl
     | true =>
      obtain ⟨j, _, j2, j3⟩ := h4.1 ha
      rw [h j j2] at j3
      cases j3
   ·rw [if_neg (by simpa using h3)]
    simp [h3]
theorem in_eq (k : Nat) (c : Int) (hk : 8 ≤ k) : rhizomeref02_in.f k c (⟨#[60, 62, 123, 125, 124, 94]⟩ : ByteArray) = some (c == 60 || c == 62 || c == 123 || c == 125 || c == 124 || c == 94) := by
 obtain ⟨m, rfl⟩ : ∃ m, k = m + 8 := ⟨k - 8, by omega⟩
 have hz : ((⟨#[60, 62, 123, 125, 124, 94]⟩ : ByteArray).size : Int) = 6 := rfl
 have b0 : bt (⟨#[60, 62, 123, 125, 124, 94]⟩ : ByteArray) 0 = 60 := by decide +kernel
 have b1 : bt (⟨#[60, 62, 123, 125, 124, 94]⟩ : ByteArray) 1 = 62 := by decide +kernel
 have b2 : bt (⟨#[60, 62, 123, 125, 124, 94]⟩ : ByteArray) 2 = 123 := by decide +kernel
 have b3 : bt (⟨#[60, 62, 123, 125, 124, 94]⟩ : ByteArray) 3 = 125 := by decide +kernel
 have b4 : bt (⟨#[60, 62, 123, 125, 124, 94]⟩ : ByteArray) 4 = 124 := by decide +kernel
 have b5 : bt (⟨#[60, 62, 123, 125, 124, 94]⟩ : ByteArray) 5 = 94 := by decide +kernel
 have w0 : wrap64 (0 + 1) = 1 := by decide +kernel
 have w1 : wrap64 (1 + 1) = 2 := by decide +kernel
 have w2 : wrap64 (2 + 1) = 3 := by decide +kernel
 have w3 : wrap64 (3 + 1) = 4 := by decide +kernel
 have w4 : wrap64 (4 + 1) = 5 := by decide +kernel
 have w5 : wrap64 (5 + 1) = 6 := by decide +kernel
 unfold rhizomeref02_in.f
 simp only [rhizomeref02_in.l0, hz, b0, b1, b2, b3, b4, b5, w0, w1, w2, w3, w4, w5, Int.reduceLT, Int.reduceLE, if_true, Int.lt_irrefl, if_false]
 by_cases c0 : c = 60
 ·subst c0; rfl
 by_cases c1 : c = 62
 ·subst c1; rfl
 by_cases c2 : c = 123
 ·subst c2; rfl
 by_cases c3 : c = 125
 ·subst c3; rfl
 by_cases c4 : c = 124
 ·subst c4; rfl
 by_cases c5 : c = 94
 ·subst c5; rfl
 rw [if_neg (fun e => c0 e.symm), if_neg (fun e => c1 e.symm), if_neg (fun e => c2 e.symm), if_neg (fun e => c3 e.symm), if_neg (fun e => c4 e.symm), if_neg (fun e => c5 e.symm)]
 simp [c0, c1, c2, c3, c4, c5]
theorem refIRI_loop (s : ByteArray) (hs : s.size ≤ 1000000000000) : ∀ (d k i : Nat), s.size - i = d → d + 10 ≤ k → i ≤ s.size →
  ((∀ j, i ≤ j → j < s.size → bad (bt s (j : Nat)) = false) → rhizomeref02_IRI.l0 k s i = some true) ∧ ((∃ j, i ≤ j ∧ j < s.size ∧ bad (bt s (j : Nat)) = true) → rhizomeref02_IRI.l0 k s i = some false)
 | 0, k, i, hd, hk, hi => by
  obtain ⟨m, rfl⟩ : ∃ m, k = m + 1 := ⟨k - 1, by omega⟩
  simp only [rhizomeref02_IRI.l0]
  rw [if_neg (by omega)]
  exact ⟨fun _ => rfl, fun ⟨j, h1, h2, _⟩ => by omega⟩
 | d + 1, k, i, hd, hk, hi => by
  obtain ⟨m, rfl⟩ : ∃ m, k = m + 1 := ⟨k - 1, by omega⟩
  have ih := refIRI_loop s hs d m (i + 1) (by omega) (by omega) (by omega)
  have e : rhizomeref02_IRI.l0 (m + 1) s i = if bad (bt s (i : Nat)) = true then some false else rhizomeref02_IRI.l0 m s ((i + 1 : Nat) : Int) := by
   simp only [rhizomeref02_IRI.l0]
   rw [if_pos (by omega), if_pos (by omega), in_eq m _ (by omega), Option.bind_some, w64n (n := (i : Int) + 1) (by omega) (by omega), show ((i : Int) + 1) = ((i + 1 : Nat) : Int) by omega]
   generalize bt s (i : Nat) = c
   generalize rhizomeref02_IRI.l0 m s ((i + 1 : Nat) : Int) = x
   unfold bad
   by_cases c0 : c ≤ 32
   ·simp [c0]
   ·rw [if_neg c0]
    simp only [c0, decide_false, Bool.false_or]
    cases hq : (c == 60 || c == 62 || c == 123 || c == 125 || c == 124 || c == 94)
    ·simp only [Bool.false_eq_true, if_false, Bool.false_or]
     by_cases c1 : c = 34
     ·subst c1; rfl
     by_cases c2 : c = 92
     ·subst c2; rfl
     by_cases c3 : c = 96
     ·subst c3; rfl
     simp [c1, c2, c3]
    ·simp
  rw [e]
  constructor
  ·intro h
   rw [if_neg (by rw [h i (Nat.le_refl _) (by omega)]; simp)]
   exact ih.1 fun j h1 h2 => h j (by omega) h2
  ·rintro ⟨j, h1, h2, h3⟩
   by_cases hb : bad (bt s (i : Nat)) = true
   ·rw [if_pos hb]
   ·rw [if_neg hb]
    refine ih.2 ⟨j, ?_, h2, h3⟩
    by_cases hj : j = i
    ·subst hj; exact absurd h3 hb
    ·omega
theorem refIRI (s : ByteArray) (hs : s.size ≤ 1000000000000) (k : Nat) (hk : s.size + 60 ≤ k) : rhizomeref02_IRI.f k s = some (iriB s) := by
 have hiff := iriB_iff s
 have hfalse : ¬ iriP s → iriB s = false := fun h => by
  cases hb : iriB s with
  | false => rfl
  | true => exact absurd (hiff.1 hb) h
 obtain ⟨m, rfl⟩ : ∃ m, k = m + 1 := ⟨k - 1, by omega⟩
 unfold rhizomeref02_IRI.f
 simp only [rhizomeref02_IRI.j0]
 by_cases h1 : (s.size : Int) < 1
 ·rw [if_pos h1, if_pos trivial, hfalse (fun h => by have := h.1; omega)]
 ·rw [if_neg h1]
  by_cases h2 : (s.size : Int) > 1000
  ·rw [if_pos h2, if_pos trivial, hfalse (fun h => by have := h.2.1; omega)]
  ·rw [if_neg h2, refValid s hs _ (by omega), Option.bind_some, validB_stop s (by omega)]
   by_cases h3 : stop s s.size 0 = s.size
   ·rw [if_neg (by simp [h3])]
    have hl := refIRI_loop s hs s.size m 0 (by omega) (by omega) (by omega)
    by_cases h4 : ∃ j, 0 ≤ j ∧ j < s.size ∧ bad (bt s (j : Nat)) = true
    ·rw [show (0 : Int) = ((0 : Nat) : Int) from rfl, hl.2 h4, hfalse]
     rintro ⟨_, _, _, h⟩
     obtain ⟨j, _, j2, j3⟩ := h4
     rw [h j j2] at j3; cases j3
    ·have h5 : ∀ j, 0 ≤ j → j < s.size → bad (bt s (j : Nat)) = false := fun j _ hj => by
      cases hb : bad (bt s (j : Nat)) with
      | false => rfl
      | true => exact absurd ⟨j, by omega, hj, hb⟩ h4
     rw [show (0 : Int) = ((0 : Nat) : Int) from rfl, hl.1 h5, hiff.2 ⟨by omega, by omega, h3, fun j hj => h5 j (by omega) hj⟩]
   ·rw [if_pos (by simp [h3]), hfalse (fun h => h3 h.2.2.1)]
end Go.Proofs.YtpbphelaeleikaaDoor.PMean

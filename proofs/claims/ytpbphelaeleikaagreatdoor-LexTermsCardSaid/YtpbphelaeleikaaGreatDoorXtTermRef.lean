import Derived.Test.YtpbphelaeleikaaGreatDoorXtTermUtf
import Derived.Lib.Strings
set_option linter.unusedVariables false
set_option linter.unusedSimpArgs false
namespace Go.Proofs.YtpbphelaeleikaaGreatDoor.PLt
open Go.RowKit Go.Proofs.YtpbphelaeleikaaGreatDoorW.PrintWords Go.Proofs.YtpbphelaeleikaaGreatDoorW.PrintLast Go.Proofs.YtpbphelaeleikaaGreatDoorW.PrintMore
theorem bt_get (s : ByteArray) (i : Nat) (h : i < s.size) : s.data.toList[i]? = some (UInt8.ofNat (bt s i).toNat) := by
 have e : bt s i = ((s[i]'h).toNat : Int) := by unfold bt; rw [dif_pos (by simpa using h)]; rfl
 rw [e]
 have : s.data.toList[i]? = some (s[i]'h) := by
  rw [List.getElem?_eq_getElem (by rw [← Lib.size_eq]; exact h)]
  rfl
 rw [this]
 simp
theorem ofNat_inj {a b : Int} (ha : 0 ≤ a ∧ a ≤ 255) (hb : 0 ≤ b ∧ b ≤ 255) (h : UInt8.ofNat a.toNat = UInt8.ofNat b.toNat) : a = b := by
 have h2 := congrArg UInt8.toNat h
 rw [UInt8.toNat_ofNat', UInt8.toNat_ofNat'] at h2
 omega
theorem take_eq (s : ByteArray) (xs : List Int) (hr : ∀ x ∈ xs, 0 ≤ x ∧ x ≤ 255) (hs : xs.length ≤ s.size) :
  ((strOfNums xs).toList = (s.extract 0 xs.length).toList) ↔ ∀ i, i < xs.length → bt s (i : Nat) = xs.getD i 0 := by
 rw [Lib.toList_data, strOfNums_data, Lib.extract_toList]
 simp only [List.drop_zero, Nat.sub_zero]
 constructor
 ·intro h i hi
  have h1 := congrArg (fun l : List UInt8 => l[i]?) h
  simp only [List.getElem?_map, List.getElem?_take, if_pos hi, bt_get s i (by omega), List.getElem?_eq_getElem hi, Option.map_some, Option.some.injEq] at h1
  have hx := hr _ (List.getElem_mem hi)
  rw [List.getD_eq_getElem?_getD, List.getElem?_eq_getElem hi]
  exact (ofNat_inj hx (bt_range s i) h1).symm
 ·intro h
  apply List.ext_getElem?
  intro i
  by_cases hi : i < xs.length
  ·have h1 := h i hi
   rw [List.getD_eq_getElem?_getD, List.getElem?_eq_getElem hi] at h1
   simp only [List.getElem?_map, List.getElem?_take, if_pos hi, bt_get s i (by omega), List.getElem?_eq_getElem hi, Option.map_some, Option.some.injEq]
   rw [h1]; rfl
  ·have hz : (s.data.toList.take xs.length)[i]? = none := by simp; omega
   rw [hz, List.getElem?_eq_none (by simpa using hi)]
theorem take_ne (s : ByteArray) (xs : List Int) (n : Nat) (hn : n ≤ s.size) (hl : xs.length ≠ n) : ¬ (strOfNums xs).toList = (s.extract 0 n).toList := by
 rw [Lib.toList_data, strOfNums_data, Lib.extract_toList]
 intro h
 have h1 := congrArg List.length h
 simp only [List.length_map, List.drop_zero, Nat.sub_zero, List.length_take, ← Lib.size_eq] at h1
 omega
def putL (r : Int) : List Int := if r ≤ 127 then [r] else if r ≤ 2047 then [192 + r / 64, 128 + r % 64] else if r ≤ 65535 then [224 + r / 4096, 128 + r / 64 % 64, 128 + r % 64] else [240 + r / 262144, 128 + r / 4096 % 64, 128 + r / 64 % 64, 128 + r % 64]
theorem put_eq (r : Int) (h0 : 0 ≤ r) (h1 : r ≤ 1114111) : g1r_Put.f r = some (putL r) := by
 have q1 : Int.tdiv r 64 = r / 64 := Int.tdiv_eq_ediv_of_nonneg h0
 have q2 : Int.tdiv r 4096 = r / 4096 := Int.tdiv_eq_ediv_of_nonneg h0
 have q3 : Int.tdiv r 262144 = r / 262144 := Int.tdiv_eq_ediv_of_nonneg h0
 have m1 : Int.tmod r 64 = r % 64 := Int.tmod_eq_emod_of_nonneg h0
 have w1 : wrap64 (r / 64) = r / 64 := w64n (by omega) (by omega)
 have w2 : wrap64 (r / 4096) = r / 4096 := w64n (by omega) (by omega)
 have w3 : wrap64 (r / 262144) = r / 262144 := w64n (by omega) (by omega)
 have m2 : Int.tmod (r / 64) 64 = r / 64 % 64 := Int.tmod_eq_emod_of_nonneg (by omega)
 have m3 : Int.tmod (r / 4096) 64 = r / 4096 % 64 := Int.tmod_eq_emod_of_nonneg (by omega)
 have v1 : wrap64 (192 + r / 64) = 192 + r / 64 := w64n (by omega) (by omega)
 have v2 : wrap64 (128 + r % 64) = 128 + r % 64 := w64n (by omega) (by omega)
 have v3 : wrap64 (224 + r / 4096) = 224 + r / 4096 := w64n (by omega) (by omega)
 have v4 : wrap64 (128 + r / 64 % 64) = 128 + r / 64 % 64 := w64n (by omega) (by omega)
 have v5 : wrap64 (240 + r / 262144) = 240 + r / 262144 := w64n (by omega) (by omega)
 have v6 : wrap64 (128 + r / 4096 % 64) = 128 + r / 4096 % 64 := w64n (by omega) (by omega)
 unfold g1r_Put.f putL
 simp only [q1, q2, q3, m1, w1, w2, w3, m2, m3, v1, v2, v3, v4, v5, v6]
 split
 ·rw [show r % 256 = r by omega]
 ·split
  ·rw [show (192 + r / 64) % 256 = 192 + r / 64 by omega, show (128 + r % 64) % 256 = 128 + r % 64 by omega]
  ·split
   ·rw [show (224 + r / 4096) % 256 = 224 + r / 4096 by omega, show (128 + r / 64 % 64) % 256 = 128 + r / 64 % 64 by omega, show (128 + r % 64) % 256 = 128 + r % 64 by omega]
   ·rw [show (240 + r / 262144) % 256 = 240 + r / 262144 by omega, show (128 + r / 4096 % 64) % 256 = 128 + r / 4096 % 64 by omega, show (128 + r / 64 % 64) % 256 = 128 + r / 64 % 64 by omega, show (128 + r % 64) % 256 = 128 + r % 64 by omega]
def okp (s : ByteArray) (n : Nat) (r : Int) : Prop := (0 ≤ r ∧ r ≤ 1114111 ∧ (r < 55296 ∨ 57343 < r)) ∧ (strOfNums (putL r)).toList = (s.extract 0 n).toList
theorem may_eq (r : Int) : g1r_May.f r = some (decide (0 ≤ r ∧ r ≤ 1114111 ∧ (r < 55296 ∨ 57343 < r))) := by
 unfold g1r_May.f
 repeat' split
 all_goals first | (congr 1; exact decide_eq_decide.mpr (by omega)) | (congr 1; symm; rw [decide_eq_true_eq]; omega) | (congr 1; symm; rw [decide_eq_false_iff_not]; omega)
theorem rg_end (k : Nat) (s : ByteArray) (n : Nat) (r : Int) (hn : n ≤ s.size) (h4 : n ≤ 4) : (okp s n r → g1r_Get.l1 (k + 1) s n r n = some (r, (n : Int))) ∧ (¬ okp s n r → g1r_Get.l1 (k + 1) s n r n = g1r_Get.l0 k s ((n : Int) + 1)) := by
 have e : g1r_Get.l1 (k + 1) s n r n = if (0 ≤ r ∧ r ≤ 1114111 ∧ (r < 55296 ∨ 57343 < r)) then (if (strOfNums (putL r)).toList = (s.extract 0 n).toList then some (r, (n : Int)) else g1r_Get.l0 k s ((n : Int) + 1)) else g1r_Get.l0 k s ((n : Int) + 1) := by
  simp only [g1r_Get.l1]
  rw [if_neg (by omega), may_eq, Option.bind_some, w64n (n := (n : Int) + 1) (by omega) (by omega)]
  by_cases h : (0 ≤ r ∧ r ≤ 1114111 ∧ (r < 55296 ∨ 57343 < r))
  ·rw [if_pos (by simpa using h), if_pos h, put_eq r h.1 h.2.1, Option.bind_some, if_pos (by omega), if_pos (by omega)]
   simp only [Int.toNat_natCast]
  ·rw [if_neg (by simpa using h), if_neg h]
 rw [e]
 unfold okp
 constructor
 ·rintro ⟨h1, h2⟩
  rw [if_pos h1, if_pos h2]
 ·intro h
  by_cases h1 : (0 ≤ r ∧ r ≤ 1114111 ∧ (r < 55296 ∨ 57343 < r))
  ·rw [if_pos h1, if_neg (fun h2 => h ⟨h1, h2⟩)]
  ·rw [if_neg h1]
theorem rg_start (k : Nat) (s : ByteArray) (n : Nat) (h1 : n ≤ 4) : g1r_Get.l0 (k + 2) s n = if n ≤ s.size then g1r_Get.l1 k s n 0 0 else some (0, 0) := by
 simp only [g1r_Get.l0, g1r_Get.j1]
 rw [if_pos (by omega)]
 by_cases h : n ≤ s.size
 ·rw [if_pos h, if_pos (by simpa using h)]
 ·rw [if_neg h, if_neg (by simpa using h)]
theorem rg_first1 (k : Nat) (s : ByteArray) (hs : 1 ≤ s.size) : g1r_Get.l1 (k + 2) s 1 0 0 = g1r_Get.l1 k s 1 (bt s 0) 1 := by
 have b0 := bt_range s 0
 simp only [g1r_Get.l1, g1r_Get.j3]
 rw [if_pos (by omega), if_pos (by omega), if_pos (by omega)]
 simp only [Int.lt_irrefl, gt_iff_lt, decide_false, Bool.false_eq_true, if_false, if_true, Int.mul_zero]
 rw [w64n (n := bt s 0) (by omega) (by omega), w64n (n := 0) (by omega) (by omega), Int.zero_add, w64n (n := bt s 0) (by omega) (by omega), w64n (n := 0 + 1) (by omega) (by omega)]
 rfl
theorem rg_firstn (k : Nat) (s : ByteArray) (n m : Int) (h1 : 1 < n) (h4 : n ≤ 4) (hs : n ≤ s.size) (hm : m = if n = 2 then 32 else if n = 3 then 16 else 8) : g1r_Get.l1 (k + 2) s n 0 0 = g1r_Get.l1 k s n (bt s 0 % m) 1 := by
 have b0 := bt_range s 0
 have hrd : rd [1, 1, 32, 16, 8] n = m := by
  have : n = 2 ∨ n = 3 ∨ n = 4 := by omega
  rcases this with rfl | rfl | rfl <;> simpa [rd] using hm.symm
 have hm0 : 0 < m ∧ m ≤ 32 := by rw [hm]; repeat' split <;> omega
 have hmm : 0 ≤ bt s 0 % m ∧ bt s 0 % m < m := ⟨Int.emod_nonneg _ (by omega), Int.emod_lt_of_pos _ (by omega)⟩
 have htm : Int.tmod (bt s 0) m = bt s 0 % m := Int.tmod_eq_emod_of_nonneg b0.1
 simp only [g1r_Get.l1, g1r_Get.j3]
 rw [if_pos (by omega), if_pos (by omega), if_pos (by omega), if_pos trivial, if_pos (by simpa using h1), Option.bind_some, if_pos (by omega), if_pos (by simp; omega), hrd, if_neg (by omega), if_neg (by omega)]
 rw [w64n (n := bt s 0) (by omega) (by omega), htm, Int.mul_zero, w64n (n := 0) (by omega) (by omega), Int.zero_add, w64n (n := bt s 0 % m) (by omega) (by omega), w64n (n := 0 + 1) (by omega) (by omega)]
 rfl
theorem rg_next (k : Nat) (s : ByteArray) (n r i : Int) (hr : 0 ≤ r ∧ r < 16777216) (hi : 0 < i) (hn : i < n) (h4 : n ≤ 4) (hs : n ≤ s.size) : g1r_Get.l1 (k + 2) s n r i = g1r_Get.l1 k s n (64 * r + bt s i % 64) (i + 1) := by
 have b0 := bt_range s i
 have htm : Int.tmod (bt s i) 64 = bt s i % 64 := Int.tmod_eq_emod_of_nonneg b0.1
 simp only [g1r_Get.l1, g1r_Get.j3]
 rw [if_pos (by omega), if_pos (by omega), if_pos (by omega), if_neg (by omega)]
 simp only [Bool.false_eq_true, if_false]
 rw [if_pos (by omega), w64n (n := bt s i) (by omega) (by omega), htm, w64n (n := 64 * r) (by omega) (by omega), w64n (n := 64 * r + bt s i % 64) (by omega) (by omega), w64n (n := i + 1) (by omega) (by omega)]
theorem okp_len {s : ByteArray} {n : Nat} {r : Int} (hn : n ≤ s.size) (h : okp s n r) : (putL r).length = n := by
 by_cases e : (putL r).length = n
 ·exact e
 ·exact absurd h.2 (take_ne s _ n hn e)
theorem putL_range (r : Int) (h0 : 0 ≤ r) (h1 : r ≤ 1114111) : ∀ x ∈ putL r, 0 ≤ x ∧ x ≤ 255 := by
 intro x hx
 unfold putL at hx
 repeat' split at hx
 all_goals
  simp only [List.mem_cons, List.not_mem_nil, or_false] at hx
  omega
theorem okp_iff (s : ByteArray) (n : Nat) (r : Int) (hn : n ≤ s.size) : okp s n r ↔ (0 ≤ r ∧ r ≤ 1114111 ∧ (r < 55296 ∨ 57343 < r)) ∧ (putL r).length = n ∧ ∀ i, i < n → bt s (i : Nat) = (putL r).getD i 0 := by
 constructor
 ·intro h
  have hl := okp_len hn h
  refine ⟨h.1, hl, ?_⟩
  have h2 := h.2
  rw [← hl] at h2 ⊢
  exact (take_eq s (putL r) (putL_range r h.1.1 h.1.2.1) (by omega)).1 h2
 ·rintro ⟨h1, rfl, h3⟩
  exact ⟨h1, (take_eq s (putL r) (putL_range r h1.1 h1.2.1) hn).2 h3⟩
theorem okp1 (s : ByteArray) (h : 1 ≤ s.size) : okp s 1 (bt s 0) ↔ okn s 1 = true := by
 have b0 := bt_range s 0
 rw [okp_iff s 1 _ h]
 simp only [okn, if_true, decide_eq_true_eq]
 constructor
 ·rintro ⟨_, hl, _⟩
  unfold putL at hl
  repeat' split at hl
  all_goals first | omega | (simp at hl)
 ·rintro ⟨_, hc⟩
  have e : putL (bt s 0) = [bt s 0] := by unfold putL; rw [if_pos (by omega)]
  refine ⟨by omega, by rw [e]; rfl, ?_⟩
  intro i hi
  obtain rfl : i = 0 := by omega
  rw [e]; rfl
theorem okp2 (s : ByteArray) (h : 2 ≤ s.size) : okp s 2 (64 * (bt s 0 % 32) + bt s 1 % 64) ↔ okn s 2 = true := by
 have b0 := bt_range s 0
 have b1 := bt_range s 1
 rw [okp_iff s 2 _ h]
 simp only [okn, tl, if_true, Bool.and_eq_true, decide_eq_true_eq, show ((2 : Int) = 1) = False by simp, if_false]
 generalize hv : 64 * (bt s 0 % 32) + bt s 1 % 64 = v
 constructor
 ·rintro ⟨_, hl, hb⟩
  have e0 := hb 0 (by omega)
  have e1 := hb 1 (by omega)
  unfold putL at hl e0 e1
  split at hl
  ·simp at hl
  ·rename_i g1
   rw [if_neg g1] at e0 e1
   split at hl
   ·rename_i g2
    rw [if_pos g2] at e0 e1
    simp at e0 e1
    omega
   ·split at hl <;> simp at hl
 ·rintro ⟨⟨_, g0, g1⟩, g2, g3⟩
  have e : putL v = [192 + v / 64, 128 + v % 64] := by unfold putL; rw [if_neg (by omega), if_pos (by omega)]
  refine ⟨by omega, by rw [e]; rfl, ?_⟩
  intro i hi
  rw [e]
  match i, hi with
  | 0, _ => simp; omega
  | 1, _ => simp; omega
theorem okp3 (s : ByteArray) (h : 3 ≤ s.size) : okp s 3 (64 * (64 * (bt s 0 % 16) + bt s 1 % 64) + bt s 2 % 64) ↔ okn s 3 = true := by
 have b0 := bt_range s 0
 have b1 := bt_range s 1
 have b2 := bt_range s 2
 rw [okp_iff s 3 _ h]
 have hv3 : val s 3 = 64 * (64 * (bt s 0 % 16) + bt s 1 % 64) + bt s 2 % 64 := by simp [val]
 simp only [okn, tl, if_true, Bool.and_eq_true, decide_eq_true_eq, show ((3 : Int) = 1) = False by simp, show ((3 : Int) = 2) = False by simp, if_false, hv3]
 generalize hv : 64 * (64 * (bt s 0 % 16) + bt s 1 % 64) + bt s 2 % 64 = v
 constructor
 ·rintro ⟨_, hl, hb⟩
  have e0 := hb 0 (by omega)
  have e1 := hb 1 (by omega)
  have e2 := hb 2 (by omega)
  unfold putL at hl e0 e1 e2
  split at hl
  ·simp at hl
  ·rename_i g1
   rw [if_neg g1] at e0 e1 e2
   split at hl
   ·simp at hl
   ·rename_i g2
    rw [if_neg g2] at e0 e1 e2
    split at hl
    ·rename_i g3
     rw [if_pos g3] at e0 e1 e2
     simp at e0 e1 e2
     omega
    ·simp at hl
 ·rintro ⟨⟨⟨⟨_, g0, g1⟩, g2, g3⟩, g4, g5⟩, g6, g7⟩
  have e : putL v = [224 + v / 4096, 128 + v / 64 % 64, 128 + v % 64] := by unfold putL; rw [if_neg (by omega), if_neg (by omega), if_pos (by omega)]
  refine ⟨by omega, by rw [e]; rfl, ?_⟩
  intro i hi
  rw [e]
  match i, hi with
  | 0, _ => simp; omega
  | 1, _ => simp; omega
  | 2, _ => simp; omega
theorem okp4 (s : ByteArray) (h : 4 ≤ s.size) : okp s 4 (64 * (64 * (64 * (bt s 0 % 8) + bt s 1 % 64) + bt s 2 % 64) + bt s 3 % 64) ↔ okn s 4 = true := by
 have b0 := bt_range s 0
 have b1 := bt_range s 1
 have b2 := bt_range s 2
 have b3 := bt_range s 3
 rw [okp_iff s 4 _ h]
 have hv3 : val s 4 = 64 * (64 * (64 * (bt s 0 % 8) + bt s 1 % 64) + bt s 2 % 64) + bt s 3 % 64 := by simp [val]
 simp only [okn, tl, if_true, Bool.and_eq_true, decide_eq_true_eq, show ((4 : Int) = 1) = False by simp, show ((4 : Int) = 2) = False by simp, show ((4 : Int) = 3) = False by simp, if_false, hv3]
 generalize hv : 64 * (64 * (64 * (bt s 0 % 8) + bt s 1 % 64) + bt s 2 % 64) + bt s 3 % 64 = v
 constructor
 ·rintro ⟨_, hl, hb⟩
  have e0 := hb 0 (by omega)
  have e1 := hb 1 (by omega)
  have e2 := hb 2 (by omega)
  have e3 := hb 3 (by omega)
  unfold putL at hl e0 e1 e2 e3
  split at hl
  ·simp at hl
  ·rename_i g1
   rw [if_neg g1] at e0 e1 e2 e3
   split at hl
   ·simp at hl
   ·rename_i g2
    rw [if_neg g2] at e0 e1 e2 e3
    split at hl
    ·simp at hl
    ·rename_i g3
     rw [if_neg g3] at e0 e1 e2 e3
     simp at e0 e1 e2 e3
     omega
 ·rintro ⟨⟨⟨⟨⟨_, g0, g1⟩, g2, g3⟩, g4, g5⟩, g6, g7⟩, g8, g9⟩
  have e : putL v = [240 + v / 262144, 128 + v / 4096 % 64, 128 + v / 64 % 64, 128 + v % 64] := by unfold putL; rw [if_neg (by omega), if_neg (by omega), if_neg (by omega)]
  refine ⟨by omega, by rw [e]; rfl, ?_⟩
  intro i hi
  rw [e]
  match i, hi with
  | 0, _ => simp; omega
  | 1, _ => simp; omega
  | 2, _ => simp; omega
  | 3, _ => simp; omega
theorem okn_small (s : ByteArray) (n : Nat) (h1 : 1 ≤ n) (h4 : n ≤ 4) (h : ¬ n ≤ s.size) : okn s n = false := by
 have : n = 1 ∨ n = 2 ∨ n = 3 ∨ n = 4 := by omega
 rcases this with rfl | rfl | rfl | rfl <;> (simp [okn]; omega)
theorem rget_eq (k : Nat) (s : ByteArray) (hk : 40 ≤ k) : g1r_Get.f k s = some (dec s) := by
 obtain ⟨m, rfl⟩ : ∃ m, k = m + 40 := ⟨k - 40, by omega⟩
 have b0 := bt_range s 0
 have b1 := bt_range s 1
 have b2 := bt_range s 2
 have b3 := bt_range s 3
 unfold g1r_Get.f
 have s1 := rg_start (m + 38) s 1 (by omega)
 have s2 := rg_start (m + 33) s 2 (by omega)
 have s3 := rg_start (m + 26) s 3 (by omega)
 have s4 := rg_start (m + 17) s 4 (by omega)
 rw [show ((1 : Int)) = ((1 : Nat) : Int) by rfl, s1]
 by_cases h1 : 1 ≤ s.size
 ·rw [if_pos h1]
  have f1 := rg_first1 (m + 36) s h1
  have e1 := rg_end (m + 35) s 1 (bt s 0) h1 (by omega)
  rw [show (((1 : Nat)) : Int) = 1 by rfl] at e1 ⊢
  rw [f1]
  by_cases o1 : okn s 1 = true
  ·rw [e1.1 ((okp1 s h1).2 o1)]
   simp [dec, o1, val]
  ·rw [e1.2 (fun h => o1 ((okp1 s h1).1 h)), show ((1 : Int) + 1) = ((2 : Nat) : Int) by rfl, s2]
   by_cases h2 : 2 ≤ s.size
   ·rw [if_pos h2]
    have f2 := rg_firstn (m + 31) s 2 32 (by omega) (by omega) (by omega) rfl
    have g2 := rg_next (m + 29) s 2 (bt s 0 % 32) 1 (by omega) (by omega) (by omega) (by omega) (by omega)
    have e2 := rg_end (m + 28) s 2 (64 * (bt s 0 % 32) + bt s 1 % 64) h2 (by omega)
    rw [show (((2 : Nat)) : Int) = 2 by rfl] at e2 ⊢
    rw [f2, g2]
    by_cases o2 : okn s 2 = true
    ·rw [show ((1 : Int) + 1) = 2 by rfl, e2.1 ((okp2 s h2).2 o2)]
     simp [dec, o1, o2, val]
    ·rw [show ((1 : Int) + 1) = 2 by rfl, e2.2 (fun h => o2 ((okp2 s h2).1 h)), show ((2 : Int) + 1) = ((3 : Nat) : Int) by rfl, s3]
     by_cases h3 : 3 ≤ s.size
     ·rw [if_pos h3]
      have f3 := rg_firstn (m + 24) s 3 16 (by omega) (by omega) (by omega) rfl
      have g3 := rg_next (m + 22) s 3 (bt s 0 % 16) 1 (by omega) (by omega) (by omega) (by omega) (by omega)
      have g3b := rg_next (m + 20) s 3 (64 * (bt s 0 % 16) + bt s 1 % 64) 2 (by omega) (by omega) (by omega) (by omega) (by omega)
      have e3 := rg_end (m + 19) s 3 (64 * (64 * (bt s 0 % 16) + bt s 1 % 64) + bt s 2 % 64) h3 (by omega)
      rw [show (((3 : Nat)) : Int) = 3 by rfl] at e3 ⊢
      rw [f3, g3, show ((1 : Int) + 1) = 2 by rfl, g3b, show ((2 : Int) + 1) = 3 by rfl]
      by_cases o3 : okn s 3 = true
      ·rw [e3.1 ((okp3 s h3).2 o3)]
       simp [dec, o1, o2, o3, val]
      ·rw [e3.2 (fun h => o3 ((okp3 s h3).1 h)), show ((3 : Int) + 1) = ((4 : Nat) : Int) by rfl, s4]
       by_cases h4 : 4 ≤ s.size
       ·rw [if_pos h4]
        have f4 := rg_firstn (m + 15) s 4 8 (by omega) (by omega) (by omega) rfl
        have g4 := rg_next (m + 13) s 4 (bt s 0 % 8) 1 (by omega) (by omega) (by omega) (by omega) (by omega)
        have g4b := rg_next (m + 11) s 4 (64 * (bt s 0 % 8) + bt s 1 % 64) 2 (by omega) (by omega) (by omega) (by omega) (by omega)
        have g4c := rg_next (m + 9) s 4 (64 * (64 * (bt s 0 % 8) + bt s 1 % 64) + bt s 2 % 64) 3 (by omega) (by omega) (by omega) (by omega) (by omega)
        have e4 := rg_end (m + 8) s 4 (64 * (64 * (64 * (bt s 0 % 8) + bt s 1 % 64) + bt s 2 % 64) + bt s 3 % 64) h4 (by omega)
        rw [show (((4 : Nat)) : Int) = 4 by rfl] at e4 ⊢
        rw [f4, g4, show ((1 : Int) + 1) = 2 by rfl, g4b, show ((2 : Int) + 1) = 3 by rfl, g4c, show ((3 : Int) + 1) = 4 by rfl]
        by_cases o4 : okn s 4 = true
        ·rw [e4.1 ((okp4 s h4).2 o4)]
         simp [dec, o1, o2, o3, o4, val]
        ·rw [e4.2 (fun h => o4 ((okp4 s h4).1 h))]
         simp only [g1r_Get.l0, g1r_Get.j1]
         simp [dec, o1, o2, o3, o4]
       ·have o4 := okn_small s 4 (by omega) (by omega) h4
        rw [if_neg h4]
        simp [dec, o1, o2, o3, show okn s 4 = false from o4]
     ·have o3 := okn_small s 3 (by omega) (by omega) h3
      have o4 := okn_small s 4 (by omega) (by omega) (by omega)
      rw [if_neg h3]
      simp [dec, o1, o2, show okn s 3 = false from o3, show okn s 4 = false from o4]
   ·have o2 := okn_small s 2 (by omega) (by omega) h2
    have o3 := okn_small s 3 (by omega) (by omega) (by omega)
    have o4 := okn_small s 4 (by omega) (by omega) (by omega)
    rw [if_neg h2]
    simp [dec, o1, show okn s 2 = false from o2, show okn s 3 = false from o3, show okn s 4 = false from o4]
 ·have o1 := okn_small s 1 (by omega) (by omega) h1
  have o2 := okn_small s 2 (by omega) (by omega) (by omega)
  have o3 := okn_small s 3 (by omega) (by omega) (by omega)
  have o4 := okn_small s 4 (by omega) (by omega) (by omega)
  rw [if_neg h1]
  simp [dec, show okn s 1 = false from o1, show okn s 2 = false from o2, show okn s 3 = false from o3, show okn s 4 = false from o4]
end Go.Proofs.YtpbphelaeleikaaGreatDoor.PLt

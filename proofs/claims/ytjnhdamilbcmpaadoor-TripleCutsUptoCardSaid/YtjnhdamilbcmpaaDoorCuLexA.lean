import Derived.Test.YtjnhdamilbcmpaaDoorCuTermTag
set_option linter.unusedVariables false
set_option linter.unusedSimpArgs false
namespace Go.Proofs.YtjnhdamilbcmpaaDoor.PTm
open Go.RowKit Go.Proofs.YtjnhdamilbcmpaaDoorW.PrintWords Go.Proofs.YtjnhdamilbcmpaaDoorW.PrintLast Go.Proofs.YtjnhdamilbcmpaaDoorW.PrintMore
def hd0 : List Int → Int
 | [] => 0
 | c :: _ => c
def at_ (s : ByteArray) (a : Nat) : List Int := (bys s).drop a
theorem at_nil {s : ByteArray} {a : Nat} (h : s.size ≤ a) : at_ s a = [] := List.drop_eq_nil_of_le (by rw [bys_length]; exact h)
theorem at_cons {s : ByteArray} {a : Nat} (h : a < s.size) : at_ s a = bt s ((a : Nat) : Int) :: at_ s (a + 1) := bys_drop s a h
theorem at_len (s : ByteArray) (a : Nat) : (at_ s a).length = s.size - a := by unfold at_; rw [List.length_drop, bys_length]
theorem at_drop (s : ByteArray) (a n : Nat) : (at_ s a).drop n = at_ s (a + n) := by unfold at_; rw [List.drop_drop]
theorem w1 {a : Nat} (h : a ≤ 4000000000000) (n : Nat) (hn : n ≤ 1000) : wrap64 ((a : Int) + (n : Int)) = ((a + n : Nat) : Int) := by
 rw [w64n (by omega) (by omega)]
 omega
theorem w1_1 {a : Nat} (h : a ≤ 4000000000000) : wrap64 ((a : Int) + 1) = ((a + 1 : Nat) : Int) := w1 h 1 (by decide)
theorem w1_2 {a : Nat} (h : a ≤ 4000000000000) : wrap64 ((a : Int) + 2) = ((a + 2 : Nat) : Int) := w1 h 2 (by decide)
theorem ch_at (s : ByteArray) (p : Int) (a : Nat) : ls_ch.f s p ((a : Nat) : Int) = some (hd0 (at_ s a), s, p) := by
 unfold ls_ch.f
 by_cases h : a < s.size
 ·rw [if_pos (by omega), if_pos (by omega), at_cons h]
  rfl
 ·rw [if_neg (by omega), at_nil (by omega)]
  rfl
theorem chv_at (s : ByteArray) (a : Nat) : chv s ((a : Nat) : Int) = some (hd0 (at_ s a)) := by
 unfold chv
 by_cases h : a < s.size
 ·rw [if_pos (by omega), if_pos (by omega), at_cons h]
  rfl
 ·rw [if_neg (by omega), at_nil (by omega)]
  rfl
theorem ext_at (s : ByteArray) (a e : Nat) (h : a ≤ e) (he : e ≤ s.size) : s.extract a e = strOfNums ((at_ s a).take (e - a)) := by
 have key : (s.extract a e).data.toList = (s.data.toList.drop a).take (e - a) := by
  simp [ByteArray.data_extract, List.drop_take]
 have e2 : ((at_ s a).take (e - a)) = ((s.extract a e).data.toList).map fun u => (u.toNat : Int) := by
  unfold at_ bys
  rw [key, ← List.map_drop, ← List.map_take]
 rw [e2]
 unfold strOfNums
 rw [List.map_map, show ((fun n : Int => UInt8.ofNat n.toNat) ∘ fun u : UInt8 => (u.toNat : Int)) = id from funext fun u => by simp, List.map_id]
def skipL : Bool → List Int → List Int
 | _, [] => []
 | true, c :: r => skipL (decide (c ≠ 10)) r
 | false, c :: r => if c = 35 then skipL true r else if c = 9 ∨ c = 10 ∨ c = 13 ∨ c = 32 then skipL false r else c :: r
theorem skip_com : ∀ l : List UInt8, (Lib.indexByte l 10 = -1 → skipL true (l.map fun u => (u.toNat : Int)) = []) ∧ ∀ n : Nat, Lib.indexByte l 10 = (n : Int) → n < l.length ∧ skipL true (l.map fun u => (u.toNat : Int)) = skipL false ((l.map fun u => (u.toNat : Int)).drop n)
 | [] => ⟨fun _ => rfl, fun n h => by simp [Lib.indexByte] at h⟩
 | b :: l => by
  obtain ⟨i1, i2⟩ := skip_com l
  have hge := Lib.indexByte_ge l 10
  rw [List.map_cons]
  unfold Lib.indexByte
  by_cases c : b = 10
  ·subst c
   simp only [beq_self_eq_true, if_true]
   refine ⟨fun h => by omega, fun n h => ?_⟩
   obtain rfl : n = 0 := by omega
   exact ⟨by simp, rfl⟩
  ·have hb : ((b.toNat : Int) ≠ 10) := fun h => c (by apply UInt8.toNat_inj.1; show b.toNat = 10; omega)
   rw [if_neg (by simpa using c)]
   have hs : skipL true ((b.toNat : Int) :: l.map fun u => (u.toNat : Int)) = skipL true (l.map fun u => (u.toNat : Int)) := by
    rw [skipL, decide_eq_true hb]
   rw [hs]
   by_cases d : Lib.indexByte l 10 = -1
   ·rw [if_pos (by simpa using d)]
    exact ⟨fun _ => i1 d, fun n h => by omega⟩
   ·rw [if_neg (by simpa using d)]
    refine ⟨fun h => by omega, fun n h => ?_⟩
    obtain ⟨m, rfl⟩ : ∃ m, n = m + 1 := ⟨n - 1, by omega⟩
    obtain ⟨j1, j2⟩ := i2 m (by omega)
    exact ⟨by simp only [List.length_cons]; omega, j2⟩
theorem skip_at (s : ByteArray) (hs : s.size ≤ 1000000000000) : ∀ (d a k : Nat), s.size - a ≤ d → a ≤ s.size → d + 1 ≤ k → ∃ e : Nat, a ≤ e ∧ e ≤ s.size ∧ at_ s e = skipL false (at_ s a) ∧ ls_skip.l0 k s ((a : Nat) : Int) = some (s, ((e : Nat) : Int))
 | 0, a, k, hd, ha, hk => by
  obtain ⟨k, rfl⟩ : ∃ q, k = q + 1 := ⟨k - 1, by omega⟩
  refine ⟨a, Nat.le_refl _, ha, by rw [at_nil (by omega)]; rfl, ?_⟩
  rw [ls_skip.l0, if_neg (by omega)]
 | d + 1, a, k, hd, ha, hk => by
  obtain ⟨k, rfl⟩ : ∃ q, k = q + 1 := ⟨k - 1, by omega⟩
  by_cases hlt : a < s.size
  ·have hc := at_cons hlt
   have next : ∃ e : Nat, a ≤ e ∧ e ≤ s.size ∧ at_ s e = skipL false (at_ s (a + 1)) ∧ ls_skip.l0 k s (wrap64 ((a : Int) + 1)) = some (s, ((e : Nat) : Int)) := by
    obtain ⟨e, h1, h2, h3, h4⟩ := skip_at s hs d (a + 1) k (by omega) (by omega) (by omega)
    rw [w1_1 (by omega)]
    exact ⟨e, by omega, h2, h3, h4⟩
   rw [ls_skip.l0, if_pos (by omega), if_pos (by omega)]
   have hm : ((s.data.toList.drop a).map fun u => (u.toNat : Int)) = at_ s a := by
    unfold at_ bys
    rw [List.map_drop]
   have hd2 := at_drop s a
   rw [hc] at hm hd2 ⊢
   generalize bt s ((a : Nat) : Int) = c at hc hm hd2 ⊢
   by_cases c35 : c = 35
   ·rw [if_pos c35, if_pos (by omega), skipL, if_pos c35]
    have hx : (s.extract a s.size).data.toList = s.data.toList.drop a := by
     simp [ByteArray.data_extract, List.drop_take]
     rw [List.take_of_length_le]
     rw [List.length_drop, ← Lib.size_eq]
     exact Nat.le_refl _
    obtain ⟨j1, j2⟩ := skip_com (s.data.toList.drop a)
    rw [hm] at j1 j2
    have hone : skipL true (c :: at_ s (a + 1)) = skipL true (at_ s (a + 1)) := by rw [skipL, c35]; rfl
    rw [hone] at j1 j2
    unfold strings_IndexByte.f
    rw [Int.toNat_natCast, hx, show ((10 : Int).toNat.toUInt8) = 10 from rfl, Option.bind_some]
    have hge := Lib.indexByte_ge (s.data.toList.drop a) 10
    by_cases hn : Lib.indexByte (s.data.toList.drop a) 10 ≥ 0
    ·rw [if_pos hn]
     obtain ⟨n, hn'⟩ : ∃ n : Nat, Lib.indexByte (s.data.toList.drop a) 10 = (n : Int) := ⟨(Lib.indexByte (s.data.toList.drop a) 10).toNat, by omega⟩
     obtain ⟨q1, q2⟩ := j2 n hn'
     rw [List.length_drop, ← Lib.size_eq] at q1
     have hn0 : n ≠ 0 := by
      rintro rfl
      have := (Lib.indexByte_some hn').1
      have h2 : ((s.data.toList.drop a).map fun u => (u.toNat : Int))[0]? = some 10 := by rw [List.getElem?_map, this]; rfl
      rw [hm, List.getElem?_cons_zero] at h2
      have := Option.some.inj h2
      omega
     obtain ⟨e, h1, h2, h3, h4⟩ := skip_at s hs d (a + n) k (by omega) (by omega) (by omega)
     rw [hn', w64n (by omega) (by omega), show ((a : Int) + (n : Int)) = ((a + n : Nat) : Int) by omega, h4]
     refine ⟨e, by omega, h2, ?_, rfl⟩
     rw [h3, q2, hd2]
    ·rw [if_neg hn]
     obtain ⟨e, h1, h2, h3, h4⟩ := skip_at s hs d s.size k (by omega) (by omega) (by omega)
     refine ⟨e, by omega, h2, ?_, h4⟩
     rw [h3, at_nil (Nat.le_refl _), j1 (by omega)]
     rfl
   ·rw [if_neg c35, skipL, if_neg c35]
    by_cases c9 : c = 9
    ·rw [if_pos c9, if_pos (.inl c9)]
     exact next
    rw [if_neg c9]
    by_cases c10 : c = 10
    ·rw [if_pos c10, if_pos (.inr (.inl c10))]
     exact next
    rw [if_neg c10]
    by_cases c13 : c = 13
    ·rw [if_pos c13, if_pos (.inr (.inr (.inl c13)))]
     exact next
    rw [if_neg c13]
    by_cases c32 : c = 32
    ·rw [if_pos c32, if_pos (.inr (.inr (.inr c32)))]
     exact next
    rw [if_neg c32, if_neg (by omega)]
    exact ⟨a, Nat.le_refl _, ha, hc, rfl⟩
  ·refine ⟨a, Nat.le_refl _, ha, by rw [at_nil (by omega)]; rfl, ?_⟩
   rw [ls_skip.l0, if_neg (by omega)]
def spanF (f : Bool → Int → Bool) : Bool → List Int → List Int × List Int
 | _, [] => ([], [])
 | b, c :: r => if f b c = true then (c :: (spanF f true r).1, (spanF f true r).2) else ([], c :: r)
def namedF (b : Bool) (c : Int) : Bool := letterB c || (b && digitB c)
def langF (_ : Bool) (c : Int) : Bool := smallB c || (digitB c || c == 45)
def restF (_ : Bool) (c : Int) : Bool := letterB c || (digitB c || (c == 45 || c == 95))
theorem lex_letter_eq (c : Int) : lex_letter.f c = some (letterB c) := letter_eq c
theorem lex_digit_eq (c : Int) : lex_digit.f c = some (digitB c) := digit_eq c
theorem is_named (i c : Int) : ls_run.is 66 i c = some (namedF (decide (0 < i)) c) := by
 unfold ls_run.is lex_named.f namedF
 rw [if_pos rfl, lex_letter_eq, lex_digit_eq]
 cases letterB c <;> by_cases h : 0 < i <;> simp [h]
theorem is_lang (i c : Int) : ls_run.is 67 i c = some (langF (decide (0 < i)) c) := by
 unfold ls_run.is ls_lang_1.f langF smallB
 rw [if_neg (by decide), if_pos rfl, lex_digit_eq]
 by_cases h1 : c ≥ 97 <;> by_cases h2 : c ≤ 122 <;> cases digitB c <;> simp [h1, h2]
theorem is_rest (i c : Int) : ls_run.is 70 i c = some (restF (decide (0 < i)) c) := by
 unfold ls_run.is ls_word_1.f restF
 rw [if_neg (by decide), if_neg (by decide), if_pos rfl, lex_letter_eq, lex_digit_eq]
 cases letterB c <;> cases digitB c <;> by_cases h : c = 45 <;> simp [h]
theorem span_len (f : Bool → Int → Bool) : ∀ (b : Bool) (r : List Int), (spanF f b r).1 ++ (spanF f b r).2 = r
 | _, [] => rfl
 | b, c :: r => by
  rw [spanF]
  by_cases h : f b c = true
  ·rw [if_pos h, List.cons_append, span_len f true r]
  ·rw [if_neg h]
   rfl
theorem run_at (s : ByteArray) (hs : s.size ≤ 1000000000000) (fn : Nat) (f : Bool → Int → Bool) (hf : ∀ i c, ls_run.is fn i c = some (f (decide (0 < i)) c)) (b0 : Nat) : ∀ (d a k : Nat), s.size - a = d → a ≤ s.size → b0 ≤ a → d + 1 ≤ k →
  ∃ e : Nat, a ≤ e ∧ e ≤ s.size ∧ at_ s e = (spanF f (decide (b0 < a)) (at_ s a)).2 ∧ (at_ s a).take (e - a) = (spanF f (decide (b0 < a)) (at_ s a)).1 ∧ ls_run.l0 k fn ((b0 : Nat) : Int) s ((a : Nat) : Int) = some ((e : Nat) : Int)
 | 0, a, k, hd, ha, hb, hk => by
  obtain ⟨k, rfl⟩ : ∃ q, k = q + 1 := ⟨k - 1, by omega⟩
  refine ⟨a, Nat.le_refl _, ha, by rw [at_nil (by omega)]; rfl, by rw [at_nil (by omega), Nat.sub_self]; rfl, ?_⟩
  rw [ls_run.l0, if_neg (by omega)]
 | d + 1, a, k, hd, ha, hb, hk => by
  obtain ⟨k, rfl⟩ : ∃ q, k = q + 1 := ⟨k - 1, by omega⟩
  have hlt : a < s.size := by omega
  rw [ls_run.l0, if_pos (by omega), if_pos (by omega), hf, Option.bind_some, w64n (n := (a : Int) - (b0 : Int)) (by omega) (by omega), show decide (0 < (a : Int) - (b0 : Int)) = decide (b0 < a) from decide_eq_decide.mpr (by omega), at_cons hlt, spanF]
  by_cases h : f (decide (b0 < a)) (bt s ((a : Nat) : Int)) = true
  ·obtain ⟨e, h1, h2, h3, h4, h5⟩ := run_at s hs fn f hf b0 d (a + 1) k (by omega) (by omega) (by omega) (by omega)
   rw [decide_eq_true (show b0 < a + 1 by omega)] at h3 h4
   rw [if_pos h, if_pos h, w1_1 (by omega), h5]
   refine ⟨e, by omega, h2, h3, ?_, rfl⟩
   rw [show e - a = (e - (a + 1)) + 1 by omega, List.take_succ_cons, h4]
  ·rw [if_neg h, if_neg h]
   refine ⟨a, Nat.le_refl _, ha, at_cons hlt, by rw [Nat.sub_self]; rfl, rfl⟩
end Go.Proofs.YtjnhdamilbcmpaaDoor.PTm
set_option linter.unusedVariables false
set_option linter.unusedSimpArgs false
namespace Go.Proofs.YtjnhdamilbcmpaaDoor.PTm
open Go.RowKit Go.Proofs.YtjnhdamilbcmpaaDoorW.PrintWords Go.Proofs.YtjnhdamilbcmpaaDoorW.PrintLast Go.Proofs.YtjnhdamilbcmpaaDoorW.PrintMore
def hexv (c : Int) : Option Int := if digitB c = true then some ((c - 48) % 256) else if 65 ≤ c ∧ c ≤ 70 then some ((((c - 65) % 256) + 10) % 256) else if 97 ≤ c ∧ c ≤ 102 then some ((((c - 97) % 256) + 10) % 256) else none
def digL : Nat → Int → List Int → Option (Int × List Int)
 | 0, acc, r => some (acc, r)
 | n + 1, acc, r => match hexv (hd0 r) with
  | none => none
  | some v => digL n (Go.bits .or .i64 (wrap64 (acc * 16)) v) (r.drop 1)
theorem hexv_zero : hexv 0 = none := by decide
theorem at_tail (s : ByteArray) (a : Nat) : (at_ s a).drop 1 = at_ s (a + 1) := at_drop s a 1
theorem hd_in {s : ByteArray} {a : Nat} (h : hd0 (at_ s a) ≠ 0) : a < s.size := by
 by_cases c : a < s.size
 ·exact c
 ·rw [at_nil (by omega)] at h
  exact absurd rfl h
theorem dig_at (s : ByteArray) (hs : s.size ≤ 1000000000000) (m : Nat) (hm : m ≤ 100) : ∀ (n i a k : Nat) (acc : Int), i + n = m → a ≤ s.size → 2 * n + 1 ≤ k →
  (digL n acc (at_ s a) = none → ∃ p : Int, ls_digits.l0 k acc (m : Nat) (i : Nat) s ((a : Nat) : Int) = some (-1, s, p)) ∧
  ∀ v r', digL n acc (at_ s a) = some (v, r') → ∃ e : Nat, a ≤ e ∧ e ≤ s.size ∧ at_ s e = r' ∧ ls_digits.l0 k acc (m : Nat) (i : Nat) s ((a : Nat) : Int) = some (v, s, ((e : Nat) : Int))
 | 0, i, a, k, acc, hi, ha, hk => by
  obtain ⟨k, rfl⟩ : ∃ q, k = q + 1 := ⟨k - 1, by omega⟩
  rw [ls_digits.l0, if_neg (by omega)]
  refine ⟨fun h => (by cases h), fun v r' h => ?_⟩
  cases h
  exact ⟨a, Nat.le_refl _, ha, rfl, rfl⟩
 | n + 1, i, a, k, acc, hi, ha, hk => by
  obtain ⟨k, rfl⟩ : ∃ q, k = q + 1 + 1 := ⟨k - 2, by omega⟩
  rw [digL, at_tail]
  have hi1 : wrap64 ((i : Int) + 1) = ((i + 1 : Nat) : Int) := w1_1 (by omega)
  have ha1 : wrap64 ((a : Int) + 1) = ((a + 1 : Nat) : Int) := w1_1 (by omega)
  rw [ls_digits.l0, if_pos (by omega), ch_at, Option.bind_some, lex_digit_eq, Option.bind_some]
  dsimp only
  have hz := fun h : hd0 (at_ s a) ≠ 0 => hd_in h
  generalize hd0 (at_ s a) = c at hz ⊢
  by_cases c1 : digitB c = true
  ·have hc0 : c ≠ 0 := by rintro rfl; revert c1; decide
   rw [if_pos c1, show hexv c = some ((c - 48) % 256) from if_pos c1, hi1, ha1]
   have hlt := hz hc0
   obtain ⟨j1, j2⟩ := dig_at s hs m hm n (i + 1) (a + 1) (k + 1) (Go.bits .or .i64 (wrap64 (acc * 16)) ((c - 48) % 256)) (by omega) (by omega) (by omega)
   exact ⟨j1, fun v r' h => by obtain ⟨e, h1, h2, h3, h4⟩ := j2 v r' h; exact ⟨e, by omega, h2, h3, h4⟩⟩
  ·rw [if_neg c1]
   by_cases c2 : 65 ≤ c ∧ c ≤ 70
   ·have hv : hexv c = some ((((c - 65) % 256) + 10) % 256) := by unfold hexv; rw [if_neg c1, if_pos c2]
    have hlt := hz (by omega)
    rw [if_pos (by omega), hv, ls_digits.j1, if_pos (by simpa using c2.2), hi1, ha1]
    obtain ⟨j1, j2⟩ := dig_at s hs m hm n (i + 1) (a + 1) k (Go.bits .or .i64 (wrap64 (acc * 16)) ((((c - 65) % 256) + 10) % 256)) (by omega) (by omega) (by omega)
    exact ⟨j1, fun v r' h => by obtain ⟨e, h1, h2, h3, h4⟩ := j2 v r' h; exact ⟨e, by omega, h2, h3, h4⟩⟩
   ·have key : ∀ b : Bool, b = false → (if c ≥ 65 then ls_digits.j1 (k + 1) acc c (m : Nat) (i : Nat) (decide (c ≤ 70)) s ((a : Nat) : Int) else ls_digits.j1 (k + 1) acc c (m : Nat) (i : Nat) false s ((a : Nat) : Int)) = ls_digits.j1 (k + 1) acc c (m : Nat) (i : Nat) b s ((a : Nat) : Int) := by
     rintro b rfl
     split
     ·rw [decide_eq_false (by omega)]
     ·rfl
    rw [key false rfl, ls_digits.j1, if_neg (by decide)]
    by_cases c3 : 97 ≤ c ∧ c ≤ 102
    ·have hv : hexv c = some ((((c - 97) % 256) + 10) % 256) := by unfold hexv; rw [if_neg c1, if_neg c2, if_pos c3]
     have hlt := hz (by omega)
     rw [if_pos (by omega), if_pos (by omega), hv, hi1, ha1]
     obtain ⟨j1, j2⟩ := dig_at s hs m hm n (i + 1) (a + 1) k (Go.bits .or .i64 (wrap64 (acc * 16)) ((((c - 97) % 256) + 10) % 256)) (by omega) (by omega) (by omega)
     exact ⟨j1, fun v r' h => by obtain ⟨e, h1, h2, h3, h4⟩ := j2 v r' h; exact ⟨e, by omega, h2, h3, h4⟩⟩
    ·have hv : hexv c = none := by unfold hexv; rw [if_neg c1, if_neg c2, if_neg c3]
     rw [hv]
     refine ⟨fun _ => ⟨((a : Nat) : Int), ?_⟩, fun v r' h => by cases h⟩
     split
     ·rw [if_neg (by omega)]
     ·rfl
theorem put_neg : ¬ (putT (-1)).2 = 0 := by decide +kernel
theorem put_len_f {r : Int} {b : List Int} {e : Int} (h : utf_Put.f r = some (b, e)) : b.length ≤ 4 := by
 obtain ⟨m, hm⟩ := utf_may.total r
 obtain ⟨n, hn, n1, n4⟩ := utf_size.total r
 have key : ∀ l : List Int, l.length ≤ 4 → some (l, (0 : Int)) = some (b, e) → b.length ≤ 4 := fun l hl h => by
  cases h
  exact hl
 unfold utf_Put.f at h
 rw [hm, hn] at h
 simp only [Option.bind_some] at h
 cases m with
 | false =>
  rw [if_neg (by decide)] at h
  cases h
  exact Nat.zero_le _
 | true =>
  rw [if_pos rfl] at h
  have hc : n = 1 ∨ n = 2 ∨ n = 3 ∨ n = 4 := by omega
  rcases hc with rfl | rfl | rfl | rfl
  ·exact key _ (by simp) h
  all_goals
   simp only [List.length_append, List.length_cons, List.length_nil, wrap64] at h
   refine key _ ?_ h
   simp
theorem put_len (r : Int) : (putT r).1.length ≤ 4 := put_len_f (putT_eq r)
def escI (c : Int) : Int := Lib.indexByte [116, 98, 110, 114, 102, 34, 39, 92] c.toNat.toUInt8
def escV (c : Int) : Int := wrap64 (bt (⟨#[9, 8, 10, 13, 12, 34, 39, 92]⟩ : ByteArray) (escI c))
def escO (r : List Int) (v : Int) : Option (List Int × List Int) := if (putT v).2 = 0 then some ((putT v).1, r) else none
def escP (all : Bool) (r : List Int) : Option (List Int × List Int) :=
 if hd0 r = 117 then (match digL 4 0 (r.drop 1) with | none => none | some x => escO x.2 x.1)
 else if hd0 r = 85 then (match digL 8 0 (r.drop 1) with | none => none | some x => escO x.2 x.1)
 else if all = true ∧ hd0 r > 0 ∧ escI (hd0 r) ≥ 0 then escO (r.drop 1) (escV (hd0 r)) else none
theorem escI_lt (c : Int) : escI c < 8 := by
 unfold escI
 generalize hq : Lib.indexByte [116, 98, 110, 114, 102, 34, 39, 92] c.toNat.toUInt8 = q
 by_cases h : 0 ≤ q
 ·obtain ⟨n, rfl⟩ : ∃ n : Nat, q = (n : Int) := ⟨q.toNat, by omega⟩
  have := (Lib.indexByte_some hq).1
  have h2 := (List.getElem?_eq_some_iff.1 this).1
  simp at h2
  omega
 ·omega
theorem escI_eq (c : Int) : strings_IndexByte.f (⟨#[116, 98, 110, 114, 102, 34, 39, 92]⟩ : ByteArray) c = some (escI c) := rfl
theorem esc_fin (s : ByteArray) (a at0 : Int) (k : Nat) (all : Bool) (v : Int) (p : Int) (h : escaped_r k s a all = some (v, s, p)) (g : ∀ k', k = k' + 1 → ls_escaped.f k s a at0 all = ls_escaped.j0 k at0 v s p) (hk : 1 ≤ k) :
  ((putT v).2 ≠ 0 → escaped_b k s a at0 all = some at0) ∧ ((putT v).2 = 0 → escaped_b k s a at0 all = none ∧ ls_escaped.f k s a at0 all = some ((putT v).1, s, p)) := by
 obtain ⟨k, rfl⟩ : ∃ q, k = q + 1 := ⟨k - 1, by omega⟩
 unfold escaped_b
 rw [h, g k rfl, Option.bind_some, ls_escaped.j0]
 dsimp only
 rw [putT_eq, Option.bind_some]
 dsimp only
 refine ⟨fun c => if_neg c, fun c => ⟨if_pos c, ?_⟩⟩
 rw [Option.bind_some, if_pos c]
theorem esc_at (s : ByteArray) (hs : s.size ≤ 1000000000000) (a k : Nat) (at0 : Int) (all : Bool) (ha : a < s.size) (hk : 40 ≤ k) :
  (escP all (at_ s (a + 1)) = none → escaped_b k s ((a : Nat) : Int) at0 all = some at0) ∧
  ∀ b r', escP all (at_ s (a + 1)) = some (b, r') → escaped_b k s ((a : Nat) : Int) at0 all = none ∧ b.length ≤ 4 ∧ ∃ e : Nat, a < e ∧ e ≤ s.size ∧ at_ s e = r' ∧ ls_escaped.f k s ((a : Nat) : Int) at0 all = some (b, s, ((e : Nat) : Int)) := by
 have ha1 : wrap64 ((a : Int) + 1) = ((a + 1 : Nat) : Int) := w1_1 (by omega)
 have ha2 : wrap64 (((a + 1 : Nat) : Int) + 1) = ((a + 2 : Nat) : Int) := w1_1 (by omega)
 have hz := fun h : hd0 (at_ s (a + 1)) ≠ 0 => hd_in h
 have hr : ∀ r p, escaped_r k s ((a : Nat) : Int) all = some (r, s, p) → True := fun _ _ _ => trivial
 have fin : ∀ (v : Int) (e : Nat), a < e → e ≤ s.size → escaped_r k s ((a : Nat) : Int) all = some (v, s, ((e : Nat) : Int)) → ls_escaped.f k s ((a : Nat) : Int) at0 all = ls_escaped.j0 k at0 v s ((e : Nat) : Int) →
   (escO (at_ s e) v = none → escaped_b k s ((a : Nat) : Int) at0 all = some at0) ∧ ∀ b r', escO (at_ s e) v = some (b, r') → escaped_b k s ((a : Nat) : Int) at0 all = none ∧ b.length ≤ 4 ∧ ∃ e : Nat, a < e ∧ e ≤ s.size ∧ at_ s e = r' ∧ ls_escaped.f k s ((a : Nat) : Int) at0 all = some (b, s, ((e : Nat) : Int)) := by
  intro v e h1 h2 h3 h4
  obtain ⟨q1, q2⟩ := esc_fin s _ at0 k all v _ h3 (fun _ _ => h4) (by omega)
  unfold escO
  by_cases c : (putT v).2 = 0
  ·rw [if_pos c]
   refine ⟨fun h => (by cases h), fun b r' h => ?_⟩
   cases h
   exact ⟨(q2 c).1, put_len v, e, h1, h2, rfl, (q2 c).2⟩
  ·rw [if_neg c]
   exact ⟨fun _ => q1 c, fun b r' h => by cases h⟩
 have wrong : ∀ p : Int, escaped_r k s ((a : Nat) : Int) all = some (-1, s, p) → escaped_b k s ((a : Nat) : Int) at0 all = some at0 := by
  intro p h
  unfold escaped_b
  rw [h, Option.bind_some, putT_eq, Option.bind_some]
  exact if_neg put_neg
 have hu : ∀ n : Nat, n ≤ 8 → hd0 (at_ s (a + 1)) ≠ 0 → (∀ x, ls_digits.f k s ((a + 2 : Nat) : Int) n = some x → escaped_r k s ((a : Nat) : Int) all = some x ∧ ls_escaped.f k s ((a : Nat) : Int) at0 all = ls_escaped.j0 k at0 x.1 x.2.1 x.2.2) →
   ((match digL n 0 ((at_ s (a + 1)).drop 1) with | none => none | some x => escO x.2 x.1) = none → escaped_b k s ((a : Nat) : Int) at0 all = some at0) ∧
   ∀ b r', (match digL n 0 ((at_ s (a + 1)).drop 1) with | none => none | some x => escO x.2 x.1) = some (b, r') → escaped_b k s ((a : Nat) : Int) at0 all = none ∧ b.length ≤ 4 ∧ ∃ e : Nat, a < e ∧ e ≤ s.size ∧ at_ s e = r' ∧ ls_escaped.f k s ((a : Nat) : Int) at0 all = some (b, s, ((e : Nat) : Int)) := by
  intro n hn hc hx
  have hlt := hz hc
  obtain ⟨j1, j2⟩ := dig_at s hs n (by omega) n 0 (a + 2) k 0 (by omega) (by omega) (by omega)
  rw [at_tail]
  cases hd : digL n 0 (at_ s (a + 1 + 1)) with
  | none =>
   obtain ⟨p, hp⟩ := j1 hd
   exact ⟨fun _ => wrong p (hx _ hp).1, fun b r' h => by cases h⟩
  | some x =>
   obtain ⟨v, r'⟩ := x
   obtain ⟨e, h1, h2, h3, h4⟩ := j2 v r' hd
   subst h3
   exact fin v e (by omega) h2 (hx _ h4).1 (hx _ h4).2
 unfold escP
 by_cases c1 : hd0 (at_ s (a + 1)) = 117
 ·rw [if_pos c1]
  refine hu 4 (by decide) (by rw [c1]; decide) fun x hx => ?_
  unfold escaped_r ls_escaped.f
  rw [ha1, chv_at, ch_at, Option.bind_some, Option.bind_some]
  dsimp only
  rw [if_pos c1, if_pos c1, ha2]
  exact ⟨hx, by rw [show ls_digits.f k s ((a + 2 : Nat) : Int) 4 = some x from hx, Option.bind_some]⟩
 by_cases c2 : hd0 (at_ s (a + 1)) = 85
 ·rw [if_neg c1, if_pos c2]
  refine hu 8 (by decide) (by rw [c2]; decide) fun x hx => ?_
  unfold escaped_r ls_escaped.f
  rw [ha1, chv_at, ch_at, Option.bind_some, Option.bind_some]
  dsimp only
  rw [if_neg c1, if_neg c1, if_pos c2, if_pos c2, ha2]
  exact ⟨hx, by rw [show ls_digits.f k s ((a + 2 : Nat) : Int) 8 = some x from hx, Option.bind_some]⟩
 rw [if_neg c1, if_neg c2]
 have er : escaped_r k s ((a : Nat) : Int) all = if all = true ∧ hd0 (at_ s (a + 1)) > 0 ∧ escI (hd0 (at_ s (a + 1))) ≥ 0 then some (escV (hd0 (at_ s (a + 1))), s, ((a + 2 : Nat) : Int)) else some (-1, s, ((a + 2 : Nat) : Int)) := by
  unfold escaped_r
  rw [ha1, chv_at, Option.bind_some, if_neg c1, if_neg c2, escI_eq, Option.bind_some, ha2]
  split
  ·exact if_pos (escI_lt _)
  ·rfl
 have ef : ls_escaped.f k s ((a : Nat) : Int) at0 all = if all = true ∧ hd0 (at_ s (a + 1)) > 0 ∧ escI (hd0 (at_ s (a + 1))) ≥ 0 then ls_escaped.j0 k at0 (escV (hd0 (at_ s (a + 1)))) s ((a + 2 : Nat) : Int) else ls_escaped.j0 k at0 (-1) s ((a + 2 : Nat) : Int) := by
  unfold ls_escaped.f
  rw [ha1, ch_at, Option.bind_some]
  dsimp only
  rw [if_neg c1, if_neg c2, escI_eq, Option.bind_some, ha2]
  have hlt := escI_lt (hd0 (at_ s (a + 1)))
  by_cases d1 : all = true
  ·by_cases d2 : hd0 (at_ s (a + 1)) > 0
   ·by_cases d3 : escI (hd0 (at_ s (a + 1))) ≥ 0
    ·rw [if_pos d1, if_pos d2, if_pos d3, if_pos d3, if_pos hlt, if_pos ⟨d1, d2, d3⟩]
     rfl
    ·rw [if_pos d1, if_pos d2, if_neg d3, if_neg (fun h => d3 h.2.2)]
   ·rw [if_pos d1, if_neg d2, if_neg (fun h => d2 h.2.1)]
  ·rw [if_neg d1, if_neg (fun h => d1 h.1)]
 by_cases c3 : all = true ∧ hd0 (at_ s (a + 1)) > 0 ∧ escI (hd0 (at_ s (a + 1))) ≥ 0
 ·rw [if_pos c3] at er ef ⊢
  have hlt := hz (by omega)
  rw [at_tail]
  exact fin _ (a + 2) (by omega) (by omega) er ef
 ·rw [if_neg c3] at er ⊢
  exact ⟨fun _ => wrong _ er, fun b r' h => by cases h⟩
end Go.Proofs.YtjnhdamilbcmpaaDoor.PTm
set_option linter.unusedVariables false
set_option linter.unusedSimpArgs false
namespace Go.Proofs.YtjnhdamilbcmpaaDoor.PTm
open Go.RowKit Go.Proofs.YtjnhdamilbcmpaaDoorW.PrintWords Go.Proofs.YtjnhdamilbcmpaaDoorW.PrintLast Go.Proofs.YtjnhdamilbcmpaaDoorW.PrintMore
def quotedL (en : Int) (all : Bool) : Nat → List Int → Option (List Int × List Int)
 | 0, _ => none
 | _ + 1, [] => none
 | k + 1, c :: t => if c = en then some ([], t) else if all = true ∧ (c = 10 ∨ c = 13) then none else if c = 92 then (match escP all t with
  | none => none
  | some x => match quotedL en all k x.2 with
   | none => none
   | some y => some (x.1 ++ y.1, y.2)) else (match quotedL en all k t with
  | none => none
  | some y => some (c :: y.1, y.2))
theorem str_len (l : List Int) : (strOfNums l).size = l.length := by
 unfold strOfNums
 show ((l.map _).toArray).size = l.length
 simp
theorem quoted_at (s : ByteArray) (hs : s.size ≤ 10000000) (en : Int) (hen : en ≠ 0) (all : Bool) (at0 : Int) : ∀ (d a k n : Nat) (acc : List Int), s.size - a ≤ d → a ≤ s.size → 2 * d + 60 ≤ k → acc.length ≤ 4 * a → n = acc.length →
  (quotedL en all (d + 1) (at_ s a) = none → quoted_b k s en all at0 n ((a : Nat) : Int) = some at0) ∧
  ∀ x r', quotedL en all (d + 1) (at_ s a) = some (x, r') → quoted_b k s en all at0 n ((a : Nat) : Int) = none ∧ ∃ e : Nat, a < e ∧ e ≤ s.size ∧ at_ s e = r' ∧ ls_quoted.l0 k en all at0 acc s ((a : Nat) : Int) = some (strOfNums (acc ++ x), s, ((e : Nat) : Int))
 | d, a, k, n, acc, hd, ha, hk, hl, hn => by
  obtain ⟨k, rfl⟩ : ∃ q, k = q + 1 + 1 := ⟨k - 2, by omega⟩
  by_cases hlt : a < s.size
  ·have ha1 : wrap64 ((a : Int) + 1) = ((a + 1 : Nat) : Int) := w1_1 (by omega)
   have hh : hd0 (at_ s a) = bt s ((a : Nat) : Int) := by rw [at_cons hlt]; rfl
   rw [at_cons hlt, quotedL, quoted_b, ls_quoted.l0, chv_at, Option.bind_some, ch_at, Option.bind_some, hh]
   dsimp only
   generalize bt s ((a : Nat) : Int) = c at hh ⊢
   by_cases c1 : c = en
   ·rw [if_pos c1, if_pos c1, if_pos c1, ha1]
    refine ⟨fun h => (by cases h), fun x r' h => ?_⟩
    cases h
    exact ⟨rfl, a + 1, by omega, by omega, rfl, by rw [List.append_nil]⟩
   rw [if_neg c1, if_neg c1, if_neg c1, ch_at, Option.bind_some, hh]
   dsimp only
   rw [if_neg (show ¬ ((a : Int) ≥ (s.size : Int)) by omega)]
   by_cases c2 : all = true ∧ (c = 10 ∨ c = 13)
   ·rw [if_pos c2, if_pos (.inr c2)]
    exact ⟨fun _ => rfl, fun x r' h => by cases h⟩
   rw [if_neg c2, if_neg (show ¬ ((a : Int) ≥ (s.size : Int) ∨ (all = true ∧ (c = 10 ∨ c = 13))) from fun h => h.elim (fun h => by omega) c2)]
   have hj : (if all = true then (if c = 10 then ls_quoted.j1 (k + 1) en all at0 acc c true s ((a : Nat) : Int) else ls_quoted.j1 (k + 1) en all at0 acc c (c == 13) s ((a : Nat) : Int)) else ls_quoted.j1 (k + 1) en all at0 acc c false s ((a : Nat) : Int)) = ls_quoted.j1 (k + 1) en all at0 acc c false s ((a : Nat) : Int) := by
    by_cases e1 : all = true
    ·rw [if_pos e1, if_neg (fun h => c2 ⟨e1, .inl h⟩), show (c == 13) = false from beq_eq_false_iff_ne.2 (fun h => c2 ⟨e1, .inr h⟩)]
    ·rw [if_neg e1]
   rw [hj, ls_quoted.j1, if_neg Bool.false_ne_true]
   obtain ⟨d, rfl⟩ : ∃ q, d = q + 1 := ⟨d - 1, by omega⟩
   by_cases c3 : c = 92
   ·rw [if_pos c3, if_pos c3, if_pos c3]
    obtain ⟨j1, j2⟩ := esc_at s (by omega) a (k + 1) at0 all hlt (by omega)
    obtain ⟨g1, g2⟩ := esc_at s (by omega) a k at0 all hlt (by omega)
    cases hp : escP all (at_ s (a + 1)) with
    | none =>
     rw [j1 hp]
     exact ⟨fun _ => rfl, fun x r' h => by cases h⟩
    | some y =>
     obtain ⟨b, r1⟩ := y
     obtain ⟨p1, p2, e, p3, p4, p5, p6⟩ := j2 b r1 hp
     obtain ⟨_, _, e', _, _, p5', p6'⟩ := g2 b r1 hp
     have he : e' = e := by
      have l1 := at_len s e
      have l2 := at_len s e'
      rw [p5] at l1
      rw [p5'] at l2
      omega
     subst he
     subst p5
     rw [p1, p6, p6', Option.bind_some, Option.bind_some]
     dsimp only
     rw [if_pos rfl, if_pos (by omega), if_pos (by omega)]
     obtain ⟨q1, q2⟩ := quoted_at s hs en hen all at0 d e' (k + 1) (n + b.length) (acc ++ b) (by omega) p4 (by omega) (by rw [List.length_append]; omega) (by rw [List.length_append, hn])
     obtain ⟨u1, u2⟩ := quoted_at s hs en hen all at0 d e' k (n + b.length) (acc ++ b) (by omega) p4 (by omega) (by rw [List.length_append]; omega) (by rw [List.length_append, hn])
     cases hq : quotedL en all (d + 1) (at_ s e') with
     | none => exact ⟨fun _ => q1 hq, fun x r' h => by cases h⟩
     | some z =>
      obtain ⟨x2, r2⟩ := z
      refine ⟨fun h => (by cases h), fun x r' h => ?_⟩
      cases h
      obtain ⟨v1, _⟩ := q2 x2 r2 hq
      obtain ⟨_, e2, v2, v3, v4, v5⟩ := u2 x2 r2 hq
      rw [List.append_assoc] at v5
      exact ⟨v1, e2, by omega, v3, v4, v5⟩
   ·rw [if_neg c3, if_neg c3, if_neg c3, if_pos (by omega), if_pos (by omega), ha1]
    obtain ⟨q1, q2⟩ := quoted_at s hs en hen all at0 d (a + 1) (k + 1) (n + 1) (acc ++ [c]) (by omega) (by omega) (by omega) (by rw [List.length_append]; simp only [List.length_cons, List.length_nil]; omega) (by rw [List.length_append, hn]; rfl)
    obtain ⟨u1, u2⟩ := quoted_at s hs en hen all at0 d (a + 1) k (n + 1) (acc ++ [c]) (by omega) (by omega) (by omega) (by rw [List.length_append]; simp only [List.length_cons, List.length_nil]; omega) (by rw [List.length_append, hn]; rfl)
    cases hq : quotedL en all (d + 1) (at_ s (a + 1)) with
    | none => exact ⟨fun _ => q1 hq, fun x r' h => by cases h⟩
    | some z =>
     obtain ⟨x2, r2⟩ := z
     refine ⟨fun h => (by cases h), fun x r' h => ?_⟩
     cases h
     obtain ⟨v1, _⟩ := q2 x2 r2 hq
     obtain ⟨_, e2, v2, v3, v4, v5⟩ := u2 x2 r2 hq
     rw [List.append_assoc] at v5
     exact ⟨v1, e2, by omega, v3, v4, v5⟩
  ·rw [at_nil (by omega), quotedL, quoted_b, chv_at, Option.bind_some, at_nil (by omega)]
   refine ⟨fun _ => ?_, fun x r' h => by cases h⟩
   rw [if_neg (fun h => hen h.symm), if_pos (.inl (by omega))]
 termination_by d => d
end Go.Proofs.YtjnhdamilbcmpaaDoor.PTm

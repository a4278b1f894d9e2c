import Derived.Test.YtpbphelaeleikaaGreatDoorXtTermWalk
set_option linter.unusedVariables false
set_option linter.unusedSimpArgs false
namespace Go.Proofs.YtpbphelaeleikaaGreatDoor.PLt
open Go.RowKit Go.Proofs.YtpbphelaeleikaaGreatDoorW.PrintWords Go.Proofs.YtpbphelaeleikaaGreatDoorW.PrintLast Go.Proofs.YtpbphelaeleikaaGreatDoorW.PrintMore
def bad (c : Int) : Bool := decide (c ≤ 32) || c == 60 || c == 62 || c == 123 || c == 125 || c == 124 || c == 94 || c == 34 || c == 92 || c == 96
theorem bad_high (c : Int) (h : 128 ≤ c) : bad c = false := by
 unfold bad
 simp
 omega
theorem badRune_high (r : Int) (h : 128 ≤ r) : badRune r = false := by
 unfold badRune
 rw [if_neg (by omega), if_neg (by omega)]
theorem badRune_low (r : Int) (h : 0 ≤ r ∧ r < 128) : badRune r = bad r := by
 obtain ⟨n, rfl⟩ := Int.eq_ofNat_of_zero_le h.1
 have := List.all_eq_true.mp (show (List.range 128).all (fun n => badRune (n : Int) == bad (n : Int)) = true by decide +kernel) n (List.mem_range.mpr (by omega))
 simpa using this
theorem okn_first (t : ByteArray) (n : Int) (h : n = 2 ∨ n = 3 ∨ n = 4) (ho : okn t n = true) : 128 ≤ val t n := by
 have b1 := bt_range t 1
 rcases h with rfl | rfl | rfl
 ·simp [okn] at ho; simp [val]; omega
 ·simp [okn] at ho; omega
 ·simp [okn] at ho; omega
theorem okn_bytes (t : ByteArray) (n : Int) (h : n = 2 ∨ n = 3 ∨ n = 4) (ho : okn t n = true) (q : Nat) (hq : (q : Int) < n) : 128 ≤ bt t (q : Nat) := by
 rcases h with rfl | rfl | rfl
 ·simp [okn, tl] at ho
  have : q = 0 ∨ q = 1 := by omega
  rcases this with rfl | rfl
  ·show 128 ≤ bt t 0; omega
  ·show 128 ≤ bt t 1; omega
 ·simp [okn, tl] at ho
  have : q = 0 ∨ q = 1 ∨ q = 2 := by omega
  rcases this with rfl | rfl | rfl
  ·show 128 ≤ bt t 0; omega
  ·show 128 ≤ bt t 1; omega
  ·show 128 ≤ bt t 2; omega
 ·simp [okn, tl] at ho
  have : q = 0 ∨ q = 1 ∨ q = 2 ∨ q = 3 := by omega
  rcases this with rfl | rfl | rfl | rfl
  ·show 128 ≤ bt t 0; omega
  ·show 128 ≤ bt t 1; omega
  ·show 128 ≤ bt t 2; omega
  ·show 128 ≤ bt t 3; omega
theorem runes_bad (s : ByteArray) : ∀ (k i : Nat), i ≤ s.size → s.size - i ≤ k → stop s k i = s.size →
  ((runesFrom s k i).any (fun p => badRune p.2) = true ↔ ∃ j, i ≤ j ∧ j < s.size ∧ bad (bt s (j : Nat)) = true)
 | 0, i, hi, hk, hs => by
  simp only [runesFrom, List.any_nil, Bool.false_eq_true, false_iff]
  rintro ⟨j, h1, h2, _⟩
  omega
 | k + 1, i, hi, hk, hs => by
  simp only [stop] at hs
  simp only [runesFrom]
  by_cases h : i < s.size
  ·rw [if_pos h] at hs ⊢
   have hg := getT_dec (s.extract i s.size)
   by_cases h0 : (dec (s.extract i s.size)).2 = 0
   ·rw [if_pos h0] at hs; omega
   ·rw [if_neg h0] at hs hg
    obtain ⟨d1, d2, d3⟩ := dec_le s i h h0
    rw [hg, if_pos rfl, List.any_cons, Bool.or_eq_true, runes_bad s k _ d3 (by omega) hs]
    obtain ⟨e1, e2, e3, e4, e5⟩ : 1 ≤ (dec (s.extract i s.size)).2 ∧ (dec (s.extract i s.size)).2 ≤ 4 ∧ (dec (s.extract i s.size)).2 ≤ (s.extract i s.size).size ∧ okn (s.extract i s.size) (dec (s.extract i s.size)).2 = true ∧ (dec (s.extract i s.size)).1 = val (s.extract i s.size) (dec (s.extract i s.size)).2 := by
     rcases dec_cases (s.extract i s.size) with e | e
     ·rw [e] at h0; exact absurd rfl h0
     ·exact e
    have hbt : ∀ q : Nat, i + q < s.size → bt (s.extract i s.size) (q : Nat) = bt s ((i + q : Nat) : Int) := fun q hq => bt_extract s i s.size q (Nat.le_refl _) hq
    generalize hn : (dec (s.extract i s.size)).2 = n at *
    by_cases hn1 : n = 1
    ·subst hn1
     have hv : (dec (s.extract i s.size)).1 = bt s (i : Nat) := by
      rw [e5]
      have := hbt 0 (by omega)
      simpa [val] using this
     have hlow : bt s (i : Nat) < 128 := by
      have := hbt 0 (by omega)
      simp [okn] at e4
      rw [show ((0 : Nat) : Int) = 0 from rfl] at this
      rw [Nat.add_zero] at this
      omega
     have hb := bt_range s (i : Nat)
     simp only [hv]
     rw [badRune_low _ ⟨hb.1, hlow⟩]
     constructor
     ·rintro (h1 | ⟨j, j1, j2, j3⟩)
      ·exact ⟨i, Nat.le_refl _, h, h1⟩
      ·exact ⟨j, by simp at j1; omega, j2, j3⟩
     ·rintro ⟨j, j1, j2, j3⟩
      by_cases hj : j = i
      ·subst hj; exact .inl j3
      ·exact .inr ⟨j, by simp; omega, j2, j3⟩
    ·have hh : n = 2 ∨ n = 3 ∨ n = 4 := by omega
     have hv := okn_first _ n hh e4
     have hby := okn_bytes _ n hh e4
     simp only [e5]
     rw [badRune_high _ hv]
     constructor
     ·rintro (h1 | ⟨j, j1, j2, j3⟩)
      ·cases h1
      ·exact ⟨j, by omega, j2, j3⟩
     ·rintro ⟨j, j1, j2, j3⟩
      refine .inr ⟨j, ?_, j2, j3⟩
      by_cases hj : i + n.toNat ≤ j
      ·exact hj
      ·exfalso
       have hq := hby (j - i) (by omega)
       rw [hbt (j - i) (by omega), show i + (j - i) = j by omega] at hq
       rw [bad_high _ hq] at j3
       cases j3
  ·rw [if_neg h]
   simp only [List.any_nil, Bool.false_eq_true, false_iff]
   rintro ⟨j, h1, h2, _⟩
   omega
def iriP (s : ByteArray) : Prop := 1 ≤ s.size ∧ s.size ≤ 1000 ∧ stop s s.size 0 = s.size ∧ ∀ j, j < s.size → bad (bt s (j : Nat)) = false
theorem iriB_iff (s : ByteArray) : iriB s = true ↔ iriP s := by
 unfold iriB iriP
 by_cases h1 : s.size < 1
 ·rw [if_pos h1]
  simp; omega
 ·rw [if_neg h1]
  by_cases h2 : 1000 < s.size
  ·rw [if_pos h2]
   simp; omega
  ·rw [if_neg h2, validB_stop s (by omega)]
   by_cases h3 : stop s s.size 0 = s.size
   ·rw [if_pos (by simpa using h3)]
    have h4 := runes_bad s s.size 0 (by omega) (by omega) h3
    unfold runesOf
    constructor
    ·intro h
     refine ⟨by omega, by omega, h3, fun j hj => ?_⟩
     cases hb : bad (bt s (j : Nat)) with
     | false => rfl
     | true =>
      rw [h4.2 ⟨j, by omega, hj, hb⟩] at h
      cases h
    ·rintro ⟨_, _, _, h⟩
     cases ha : (runesFrom s s.size 0).any (fun p => badRune p.2) with
     | false => rfl
     | true =>
      obtain ⟨j, _, j2, j3⟩ := h4.1 ha
      rw [h j j2] at j3
      cases j3
   ·rw [if_neg (by simpa using h3)]
    simp [h3]
theorem in_eq (k : Nat) (c : Int) (hk : 8 ≤ k) : g2_in.f k c (⟨#[60, 62, 123, 125, 124, 94]⟩ : ByteArray) = some (c == 60 || c == 62 || c == 123 || c == 125 || c == 124 || c == 94) := by
 obtain ⟨m, rfl⟩ : ∃ m, k = m + 8 := ⟨k - 8, by omega⟩
 have hz : ((⟨#[60, 62, 123, 125, 124, 94]⟩ : ByteArray).size : Int) = 6 := rfl
 have b0 : bt (⟨#[60, 62, 123, 125, 124, 94]⟩ : ByteArray) 0 = 60 := by decide +kernel
 have b1 : bt (⟨#[60, 62, 123, 125, 124, 94]⟩ : ByteArray) 1 = 62 := by decide +kernel
 have b2 : bt (⟨#[60, 62, 123, 125, 124, 94]⟩ : ByteArray) 2 = 123 := by decide +kernel
 have b3 : bt (⟨#[60, 62, 123, 125, 124, 94]⟩ : ByteArray) 3 = 125 := by decide +kernel
 have b4 : bt (⟨#[60, 62, 123, 125, 124, 94]⟩ : ByteArray) 4 = 124 := by decide +kernel
 have b5 : bt (⟨#[60, 62, 123, 125, 124, 94]⟩ : ByteArray) 5 = 94 := by decide +kernel
 have w0 : wrap64 (0 + 1) = 1 := by decide +kernel
 have w1 : wrap64 (1 + 1) = 2 := by decide +kernel
 have w2 : wrap64 (2 + 1) = 3 := by decide +kernel
 have w3 : wrap64 (3 + 1) = 4 := by decide +kernel
 have w4 : wrap64 (4 + 1) = 5 := by decide +kernel
 have w5 : wrap64 (5 + 1) = 6 := by decide +kernel
 unfold g2_in.f
 simp only [g2_in.l0, hz, b0, b1, b2, b3, b4, b5, w0, w1, w2, w3, w4, w5, Int.reduceLT, Int.reduceLE, if_true, Int.lt_irrefl, if_false]
 by_cases c0 : c = 60
 ·subst c0; rfl
 by_cases c1 : c = 62
 ·subst c1; rfl
 by_cases c2 : c = 123
 ·subst c2; rfl
 by_cases c3 : c = 125
 ·subst c3; rfl
 by_cases c4 : c = 124
 ·subst c4; rfl
 by_cases c5 : c = 94
 ·subst c5; rfl
 rw [if_neg (fun e => c0 e.symm), if_neg (fun e => c1 e.symm), if_neg (fun e => c2 e.symm), if_neg (fun e => c3 e.symm), if_neg (fun e => c4 e.symm), if_neg (fun e => c5 e.symm)]
 simp [c0, c1, c2, c3, c4, c5]
theorem refIRI_loop (s : ByteArray) (hs : s.size ≤ 1000000000000) : ∀ (d k i : Nat), s.size - i = d → d + 10 ≤ k → i ≤ s.size →
  ((∀ j, i ≤ j → j < s.size → bad (bt s (j : Nat)) = false) → g2_IRI.l0 k s i = some true) ∧ ((∃ j, i ≤ j ∧ j < s.size ∧ bad (bt s (j : Nat)) = true) → g2_IRI.l0 k s i = some false)
 | 0, k, i, hd, hk, hi => by
  obtain ⟨m, rfl⟩ : ∃ m, k = m + 1 := ⟨k - 1, by omega⟩
  simp only [g2_IRI.l0]
  rw [if_neg (by omega)]
  exact ⟨fun _ => rfl, fun ⟨j, h1, h2, _⟩ => by omega⟩
 | d + 1, k, i, hd, hk, hi => by
  obtain ⟨m, rfl⟩ : ∃ m, k = m + 1 := ⟨k - 1, by omega⟩
  have ih := refIRI_loop s hs d m (i + 1) (by omega) (by omega) (by omega)
  have e : g2_IRI.l0 (m + 1) s i = if bad (bt s (i : Nat)) = true then some false else g2_IRI.l0 m s ((i + 1 : Nat) : Int) := by
   simp only [g2_IRI.l0]
   rw [if_pos (by omega), if_pos (by omega), in_eq m _ (by omega), Option.bind_some, w64n (n := (i : Int) + 1) (by omega) (by omega), show ((i : Int) + 1) = ((i + 1 : Nat) : Int) by omega]
   generalize bt s (i : Nat) = c
   generalize g2_IRI.l0 m s ((i + 1 : Nat) : Int) = x
   unfold bad
   by_cases c0 : c ≤ 32
   ·simp [c0]
   ·rw [if_neg c0]
    simp only [c0, decide_false, Bool.false_or]
    cases hq : (c == 60 || c == 62 || c == 123 || c == 125 || c == 124 || c == 94)
    ·simp only [Bool.false_eq_true, if_false, Bool.false_or]
     by_cases c1 : c = 34
     ·subst c1; rfl
     by_cases c2 : c = 92
     ·subst c2; rfl
     by_cases c3 : c = 96
     ·subst c3; rfl
     simp [c1, c2, c3]
    ·simp
  rw [e]
  constructor
  ·intro h
   rw [if_neg (by rw [h i (Nat.le_refl _) (by omega)]; simp)]
   exact ih.1 fun j h1 h2 => h j (by omega) h2
  ·rintro ⟨j, h1, h2, h3⟩
   by_cases hb : bad (bt s (i : Nat)) = true
   ·rw [if_pos hb]
   ·rw [if_neg hb]
    refine ih.2 ⟨j, ?_, h2, h3⟩
    by_cases hj : j = i
    ·subst hj; exact absurd h3 hb
    ·omega
theorem refIRI (s : ByteArray) (hs : s.size ≤ 1000000000000) (k : Nat) (hk : s.size + 60 ≤ k) : g2_IRI.f k s = some (iriB s) := by
 have hiff := iriB_iff s
 have hfalse : ¬ iriP s → iriB s = false := fun h => by
  cases hb : iriB s with
  | false => rfl
  | true => exact absurd (hiff.1 hb) h
 obtain ⟨m, rfl⟩ : ∃ m, k = m + 1 := ⟨k - 1, by omega⟩
 unfold g2_IRI.f
 simp only [g2_IRI.j0]
 by_cases h1 : (s.size : Int) < 1
 ·rw [if_pos h1, if_pos trivial, hfalse (fun h => by have := h.1; omega)]
 ·rw [if_neg h1]
  by_cases h2 : (s.size : Int) > 1000
  ·rw [if_pos h2, if_pos trivial, hfalse (fun h => by have := h.2.1; omega)]
  ·rw [if_neg h2, refValid s hs _ (by omega), Option.bind_some, validB_stop s (by omega)]
   by_cases h3 : stop s s.size 0 = s.size
   ·rw [if_neg (by simp [h3])]
    have hl := refIRI_loop s hs s.size m 0 (by omega) (by omega) (by omega)
    by_cases h4 : ∃ j, 0 ≤ j ∧ j < s.size ∧ bad (bt s (j : Nat)) = true
    ·rw [show (0 : Int) = ((0 : Nat) : Int) from rfl, hl.2 h4, hfalse]
     rintro ⟨_, _, _, h⟩
     obtain ⟨j, _, j2, j3⟩ := h4
     rw [h j j2] at j3; cases j3
    ·have h5 : ∀ j, 0 ≤ j → j < s.size → bad (bt s (j : Nat)) = false := fun j _ hj => by
      cases hb : bad (bt s (j : Nat)) with
      | false => rfl
      | true => exact absurd ⟨j, by omega, hj, hb⟩ h4
     rw [show (0 : Int) = ((0 : Nat) : Int) from rfl, hl.1 h5, hiff.2 ⟨by omega, by omega, h3, fun j hj => h5 j (by omega) hj⟩]
   ·rw [if_pos (by simp [h3]), hfalse (fun h => h3 h.2.2.1)]
end Go.Proofs.YtpbphelaeleikaaGreatDoor.PLt

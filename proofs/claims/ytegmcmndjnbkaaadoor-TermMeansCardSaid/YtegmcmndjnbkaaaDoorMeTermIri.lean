import Derived.Test.YtegmcmndjnbkaaaDoorMeTermWalk
set_option linter.unusedVariables false
set_option linter.unusedSimpArgs false
namespace Go.Proofs.YtegmcmndjnbkaaaDoor.PTerm
open Go.RowKit Go.Proofs.YtegmcmndjnbkaaaDoorW.PrintWords Go.Proofs.YtegmcmndjnbkaaaDoorW.PrintLast Go.Proofs.YtegmcmndjnbkaaaDoorW.PrintMore
def bad (c : Int) : Bool := decide (c ≤ 32) || c == 60 || c == 62 || c == 123 || c == 125 || c == 124 || c == 94 || c == 34 || c == 92 || c == 96
theorem bad_high (c : Int) (h : 128 ≤ c) : bad c = false := by
  unfold bad
  simp
  omega
theorem badRune_high (r : Int) (h : 128 ≤ r) : badRune r = false := by
  unfold badRune
  rw [if_neg (by omega), if_neg (by omega)]
theorem badRune_low (r : Int) (h : 0 ≤ r ∧ r < 128) : badRune r = bad r := by
  obtain ⟨n, rfl⟩ := Int.eq_ofNat_of_zero_le h.1
  have := List.all_eq_true.mp (show (List.range 128).all (fun n => badRune (n : Int) == bad (n : Int)) = true by decide +kernel) n (List.mem_range.mpr (by omega))
  simpa using this
theorem okn_first (t : ByteArray) (n : Int) (h : n = 2 ∨ n = 3 ∨ n = 4) (ho : okn t n = true) : 128 ≤ val t n := by
  have b1 := bt_range t 1
  rcases h with rfl | rfl | rfl
  · simp [okn] at ho; simp [val]; omega
  · simp [okn] at ho; omega
  · simp [okn] at ho; omega
theorem okn_bytes (t : ByteArray) (n : Int) (h : n = 2 ∨ n = 3 ∨ n = 4) (ho : okn t n = true) (q : Nat) (hq : (q : Int) < n) : 128 ≤ bt t (q : Nat) := by
  rcases h with rfl | rfl | rfl
  · simp [okn, tl] at ho
    have : q = 0 ∨ q = 1 := by omega
    rcases this with rfl | rfl
    · show 128 ≤ bt t 0; omega
    · show 128 ≤ bt t 1; omega
  · simp [okn, tl] at ho
    have : q = 0 ∨ q = 1 ∨ q = 2 := by omega
    rcases this with rfl | rfl | rfl
    · show 128 ≤ bt t 0; omega
    · show 128 ≤ bt t 1; omega
    · show 128 ≤ bt t 2; omega
  · simp [okn, tl] at ho
    have : q = 0 ∨ q = 1 ∨ q = 2 ∨ q = 3 := by omega
    rcases this with rfl | rfl | rfl | rfl
    · show 128 ≤ bt t 0; omega
    · show 128 ≤ bt t 1; omega
    · show 128 ≤ bt t 2; omega
    · show 128 ≤ bt t 3; omega
theorem runes_bad (s : ByteArray) : ∀ (k i : Nat), i ≤ s.size → s.size - i ≤ k → stop s k i = s.size →
    ((runesFrom s k i).any (fun p => badRune p.2) = true ↔ ∃ j, i ≤ j ∧ j < s.size ∧ bad (bt s (j : Nat)) = true)
  | 0, i, hi, hk, hs => by
    simp only [runesFrom, List.any_nil, Bool.false_eq_true, false_iff]
    rintro ⟨j, h1, h2, _⟩
    omega
  | k + 1, i, hi, hk, hs => by
    simp only [stop] at hs
    simp only [runesFrom]
    by_cases h : i < s.size
    · rw [if_pos h] at hs ⊢
      have hg := getT_dec (s.extract i s.size)
      by_cases h0 : (dec (s.extract i s.size)).2 = 0
      · rw [if_pos h0] at hs; omega
      · rw [if_neg h0] at hs hg
        obtain ⟨d1, d2, d3⟩ := dec_le s i h h0
        rw [hg, if_pos rfl, List.any_cons, Bool.or_eq_true, runes_bad s k _ d3 (by omega) hs]
        obtain ⟨e1, e2, e3, e4, e5⟩ : 1 ≤ (dec (s.extract i s.size)).2 ∧ (dec (s.extract i s.size)).2 ≤ 4 ∧ (dec (s.extract i s.size)).2 ≤ (s.extract i s.size).size ∧ okn (s.extract i s.size) (dec (s.extract i s.size)).2 = true ∧ (dec (s.extract i s.size)).1 = val (s.extract i s.size) (dec (s.extract i s.size)).2 := by
          rcases dec_cases (s.extract i s.size) with e | e
          · rw [e] at h0; exact absurd rfl h0
          · exact e
        have hbt : ∀ q : Nat, i + q < s.size → bt (s.extract i s.size) (q : Nat) = bt s ((i + q : Nat) : Int) := fun q hq => bt_extract s i s.size q (Nat.le_refl _) hq
        generalize hn : (dec (s.extract i s.size)).2 = n at *
        by_cases hn1 : n = 1
        · subst hn1
          have hv : (dec (s.extract i s.size)).1 = bt s (i : Nat) := by
            rw [e5]
            have := hbt 0 (by omega)
            simpa [val] using this
          have hlow : bt s (i : Nat) < 128 := by
            have := hbt 0 (by omega)
            simp [okn] at e4
            rw [show ((0 : Nat) : Int) = 0 from rfl] at this
            rw [Nat.add_zero] at this
            omega
          have hb := bt_range s (i : Nat)
          simp only [hv]
          rw [badRune_low _ ⟨hb.1, hlow⟩]
          constructor
          · rintro (h1 | ⟨j, j1, j2, j3⟩)
            · exact ⟨i, Nat.le_refl _, h, h1⟩
            · exact ⟨j, by simp at j1; omega, j2, j3⟩
          · rintro ⟨j, j1, j2, j3⟩
            by_cases hj : j = i
            · subst hj; exact .inl j3
            · exact .inr ⟨j, by simp; omega, j2, j3⟩
        · have hh : n = 2 ∨ n = 3 ∨ n = 4 := by omega
          have hv := okn_first _ n hh e4
          have hby := okn_bytes _ n hh e4
          simp only [e5]
          rw [badRune_high _ hv]
          constructor
          · rintro (h1 | ⟨j, j1, j2, j3⟩)
            · cases h1
            · exact ⟨j, by omega, j2, j3⟩
          · rintro ⟨j, j1, j2, j3⟩
            refine .inr ⟨j, ?_, j2, j3⟩
            by_cases hj : i + n.toNat ≤ j
            · exact hj
            · exfalso
              have hq := hby (j - i) (by omega)
              rw [hbt (j - i) (by omega), show i + (j - i) = j by omega] at hq
              rw [bad_high _ hq] at j3
              cases j3
    · rw [if_neg h]
      simp only [List.any_nil, Bool.false_eq_true, false_iff]
      rintro ⟨j, h1, h2, _⟩
      omega
def iriP (s : ByteArray) : Prop := 1 ≤ s.size ∧ s.size ≤ 1000 ∧ stop s s.size 0 = s.size ∧ ∀ j, j < s.size → bad (bt s (j : Nat)) = false
theorem iriB_iff (s : ByteArray) : iriB s = true ↔ iriP s := by
  unfold iriB iriP
  by_cases h1 : s.size < 1
  · rw [if_pos h1]
    simp; omega
  · rw [if_neg h1]
    by_cases h2 : 1000 < s.size
    · rw [if_pos h2]
      simp; omega
    · rw [if_neg h2, validB_stop s (by omega)]
      by_cases h3 : stop s s.size 0 = s.size
      · rw [if_pos (by simpa using h3)]
        have h4 := runes_bad s s.size 0 (by omega) (by omega) h3
        unfold runesOf
        constructor
        · intro h
          refine ⟨by omega, by omega, h3, fun j hj => ?_⟩
          cases hb : bad (bt s (j : Nat)) with
          | false => rfl
          | true =>
            rw [h4.2 ⟨j, by omega, hj, hb⟩] at h
            cases h
        · rintro ⟨_, _, _, h⟩
          cases ha : (runesFrom s s.size 0).any (fun p => badRune p.2) with
          | false => rfl
          | true =>
            obtain ⟨j, _, j2, j3⟩ := h4.1 ha
            rw [h j j2] at j3
            cases j3
      · rw [if_neg (by simpa using h3)]
        simp [h3]
end Go.Proofs.YtegmcmndjnbkaaaDoor.PTerm

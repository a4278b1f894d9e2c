import Derived.Test.YtegmcmndjnbkaaaDoorMeTermRef
set_option linter.unusedVariables false
set_option linter.unusedSimpArgs false
namespace Go.Proofs.YtegmcmndjnbkaaaDoor.PTerm
open Go.RowKit Go.Proofs.YtegmcmndjnbkaaaDoorW.PrintWords Go.Proofs.YtegmcmndjnbkaaaDoorW.PrintLast Go.Proofs.YtegmcmndjnbkaaaDoorW.PrintMore
theorem bt_extract (s : ByteArray) (a b i : Nat) (hb : b ≤ s.size) (hi : a + i < b) : bt (s.extract a b) (i : Nat) = bt s ((a + i : Nat) : Int) := by
  have h1 : i < (s.extract a b).size := by simp; omega
  have h2 : a + i < s.size := by omega
  unfold bt
  simp only [Int.toNat_natCast]
  rw [dif_pos h1, dif_pos h2]
  simp [ByteArray.getElem_extract]
theorem dec_cases (s : ByteArray) : dec s = (0, 0) ∨ (1 ≤ (dec s).2 ∧ (dec s).2 ≤ 4 ∧ (dec s).2 ≤ s.size ∧ okn s (dec s).2 = true ∧ (dec s).1 = val s (dec s).2) := by
  unfold dec
  split
  · rename_i h
    refine .inr ⟨by simp, by simp, ?_, h, rfl⟩
    simp [okn] at h ⊢; omega
  · split
    · rename_i h
      refine .inr ⟨by simp, by simp, ?_, h, rfl⟩
      simp [okn] at h ⊢; omega
    · split
      · rename_i h
        refine .inr ⟨by simp, by simp, ?_, h, rfl⟩
        simp [okn] at h ⊢; omega
      · split
        · rename_i h
          refine .inr ⟨by simp, by simp, ?_, h, rfl⟩
          simp [okn] at h ⊢; omega
        · exact .inl rfl
def stop (s : ByteArray) : Nat → Nat → Nat
  | 0, at_ => at_
  | k + 1, at_ => if at_ < s.size then (if (dec (s.extract at_ s.size)).2 = 0 then at_ else stop s k (at_ + (dec (s.extract at_ s.size)).2.toNat)) else at_
theorem dec_le (s : ByteArray) (i : Nat) (h : i < s.size) (h0 : ¬ (dec (s.extract i s.size)).2 = 0) : 1 ≤ (dec (s.extract i s.size)).2 ∧ (dec (s.extract i s.size)).2 ≤ 4 ∧ i + (dec (s.extract i s.size)).2.toNat ≤ s.size := by
  rcases dec_cases (s.extract i s.size) with e | ⟨h1, h2, h3, _⟩
  · rw [e] at h0; exact absurd rfl h0
  · rw [extract_size s i (by omega)] at h3
    exact ⟨h1, h2, by omega⟩
theorem runes_end (s : ByteArray) (hs : s.size ≤ 140737488355328) : ∀ (k i : Nat), i ≤ s.size → s.size - i ≤ k →
    (runesFrom s k i).foldl (fun _ p => wrap64 (p.1 + sizeT p.2)) (i : Int) = (stop s k i : Nat)
  | 0, i, hi, hk => rfl
  | k + 1, i, hi, hk => by
    simp only [runesFrom, stop]
    by_cases h : i < s.size
    · rw [if_pos h, if_pos h]
      have hg := getT_dec (s.extract i s.size)
      have hok := getT_ok (s.extract i s.size)
      by_cases h0 : (dec (s.extract i s.size)).2 = 0
      · rw [if_pos h0] at hg
        rw [hg, if_neg (by simp), if_pos h0]
        rfl
      · rw [if_neg h0] at hg
        obtain ⟨d1, d2, d3⟩ := dec_le s i h h0
        rw [hg] at hok ⊢
        rw [if_pos rfl, if_neg h0, List.foldl_cons]
        rcases hok with ⟨_, _, _, _, hz⟩ | hz
        · have hz2 : sizeT (dec (s.extract i s.size)).1 = (dec (s.extract i s.size)).2 := by unfold sizeT; rw [hz]; rfl
          rw [← runes_end s hs k (i + (dec (s.extract i s.size)).2.toNat) d3 (by omega)]
          congr 1
          rw [hz2, w64n (by omega) (by omega)]
          omega
        · exact absurd (congrArg (fun v => v.2.1) hz) h0
    · rw [if_neg h, if_neg h]
      rfl
theorem validB_stop (s : ByteArray) (hs : s.size ≤ 140737488355328) : validB s = decide (stop s s.size 0 = s.size) := by
  unfold validB endOf runesOf
  have := runes_end s hs s.size 0 (by omega) (by omega)
  rw [show ((0 : Nat) : Int) = 0 from rfl] at this
  rw [this, Bool.eq_iff_iff]
  simp
  omega
end Go.Proofs.YtegmcmndjnbkaaaDoor.PTerm

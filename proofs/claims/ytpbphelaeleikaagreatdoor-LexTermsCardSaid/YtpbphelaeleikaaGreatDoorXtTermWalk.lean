import Derived.Test.YtpbphelaeleikaaGreatDoorXtTermRef
set_option linter.unusedVariables false
set_option linter.unusedSimpArgs false
namespace Go.Proofs.YtpbphelaeleikaaGreatDoor.PLt
open Go.RowKit Go.Proofs.YtpbphelaeleikaaGreatDoorW.PrintWords Go.Proofs.YtpbphelaeleikaaGreatDoorW.PrintLast Go.Proofs.YtpbphelaeleikaaGreatDoorW.PrintMore
theorem bt_extract (s : ByteArray) (a b i : Nat) (hb : b ≤ s.size) (hi : a + i < b) : bt (s.extract a b) (i : Nat) = bt s ((a + i : Nat) : Int) := by
 have h1 : i < (s.extract a b).size := by simp; omega
 have h2 : a + i < s.size := by omega
 unfold bt
 simp only [Int.toNat_natCast]
 rw [dif_pos h1, dif_pos h2]
 simp [ByteArray.getElem_extract]
theorem dec_cong (s t : ByteArray) (hs : 1 ≤ s.size) (ht : 1 ≤ t.size) (hz : s.size = t.size ∨ (4 ≤ s.size ∧ 4 ≤ t.size)) (hb : ∀ i, i < 4 → i < s.size → bt s (i : Nat) = bt t (i : Nat)) : dec s = dec t := by
 have e0 : bt s 0 = bt t 0 := hb 0 (by omega) (by omega)
 have e1 : 2 ≤ s.size → bt s 1 = bt t 1 := fun h => hb 1 (by omega) (by omega)
 have e2 : 3 ≤ s.size → bt s 2 = bt t 2 := fun h => hb 2 (by omega) (by omega)
 have e3 : 4 ≤ s.size → bt s 3 = bt t 3 := fun h => hb 3 (by omega) (by omega)
 have hn : ∀ n, n ≤ 4 → (n ≤ s.size ↔ n ≤ t.size) := fun n h => by omega
 have k1 : okn s 1 = okn t 1 := by
  simp only [okn, if_true, e0]
  have := hn 1 (by omega)
  exact decide_eq_decide.mpr (by omega)
 have k2 : okn s 2 = okn t 2 ∧ (okn s 2 = true → val s 2 = val t 2) := by
  by_cases h : 2 ≤ s.size
  ·have h' := (hn 2 (by omega)).1 h
   simp only [okn, val, e0, e1 h]
   refine ⟨?_, fun _ => by first | trivial | simp⟩
   have hd : decide (2 ≤ (s.size : Int)) = decide (2 ≤ (t.size : Int)) := decide_eq_decide.mpr (by omega)
   simp [hd]
  ·rw [show okn s 2 = false from okn_small s 2 (by omega) (by omega) h, show okn t 2 = false from okn_small t 2 (by omega) (by omega) (fun h' => h ((hn 2 (by omega)).2 h'))]
   exact ⟨rfl, fun h => by cases h⟩
 have k3 : okn s 3 = okn t 3 ∧ (okn s 3 = true → val s 3 = val t 3) := by
  by_cases h : 3 ≤ s.size
  ·have h' := (hn 3 (by omega)).1 h
   have hd : decide (3 ≤ (s.size : Int)) = decide (3 ≤ (t.size : Int)) := decide_eq_decide.mpr (by omega)
   simp only [okn, val, e0, e1 (by omega), e2 h]
   refine ⟨?_, fun _ => by first | trivial | simp⟩
   simp [hd]
  ·rw [show okn s 3 = false from okn_small s 3 (by omega) (by omega) h, show okn t 3 = false from okn_small t 3 (by omega) (by omega) (fun h' => h ((hn 3 (by omega)).2 h'))]
   exact ⟨rfl, fun h => by cases h⟩
 have k4 : okn s 4 = okn t 4 ∧ (okn s 4 = true → val s 4 = val t 4) := by
  by_cases h : 4 ≤ s.size
  ·have h' := (hn 4 (by omega)).1 h
   simp only [okn, val, e0, e1 (by omega), e2 (by omega), e3 h]
   refine ⟨?_, fun _ => by first | trivial | simp⟩
   have hd : decide (4 ≤ (s.size : Int)) = decide (4 ≤ (t.size : Int)) := decide_eq_decide.mpr (by omega)
   simp [hd]
  ·rw [show okn s 4 = false from okn_small s 4 (by omega) (by omega) h, show okn t 4 = false from okn_small t 4 (by omega) (by omega) (fun h' => h ((hn 4 (by omega)).2 h'))]
   exact ⟨rfl, fun h => by cases h⟩
 have v1 : val s 1 = val t 1 := by simp [val, e0]
 unfold dec
 rw [← k1, ← k2.1, ← k3.1, ← k4.1, v1]
 split
 ·rfl
 ·split
  ·rename_i h; rw [k2.2 h]
  ·split
   ·rename_i h; rw [k3.2 h]
   ·split
    ·rename_i h; rw [k4.2 h]
    ·rfl
theorem dec_window (s : ByteArray) (i : Nat) (h : i < s.size) : dec (s.extract i (min s.size (i + 4))) = dec (s.extract i s.size) := by
 apply dec_cong
 ·simp; omega
 ·simp; omega
 ·simp; omega
 ·intro j h4 hj
  have hj' : i + j < min s.size (i + 4) := by simp at hj; omega
  rw [bt_extract s i _ j (by omega) hj', bt_extract s i s.size j (Nat.le_refl _) (by omega)]
theorem dec_cases (s : ByteArray) : dec s = (0, 0) ∨ (1 ≤ (dec s).2 ∧ (dec s).2 ≤ 4 ∧ (dec s).2 ≤ s.size ∧ okn s (dec s).2 = true ∧ (dec s).1 = val s (dec s).2) := by
 unfold dec
 split
 ·rename_i h
  refine .inr ⟨by simp, by simp, ?_, h, rfl⟩
  simp [okn] at h ⊢; omega
 ·split
  ·rename_i h
   refine .inr ⟨by simp, by simp, ?_, h, rfl⟩
   simp [okn] at h ⊢; omega
  ·split
   ·rename_i h
    refine .inr ⟨by simp, by simp, ?_, h, rfl⟩
    simp [okn] at h ⊢; omega
   ·split
    ·rename_i h
     refine .inr ⟨by simp, by simp, ?_, h, rfl⟩
     simp [okn] at h ⊢; omega
    ·exact .inl rfl
def stop (s : ByteArray) : Nat → Nat → Nat
 | 0, at_ => at_
 | k + 1, at_ => if at_ < s.size then (if (dec (s.extract at_ s.size)).2 = 0 then at_ else stop s k (at_ + (dec (s.extract at_ s.size)).2.toNat)) else at_
theorem dec_le (s : ByteArray) (i : Nat) (h : i < s.size) (h0 : ¬ (dec (s.extract i s.size)).2 = 0) : 1 ≤ (dec (s.extract i s.size)).2 ∧ (dec (s.extract i s.size)).2 ≤ 4 ∧ i + (dec (s.extract i s.size)).2.toNat ≤ s.size := by
 rcases dec_cases (s.extract i s.size) with e | ⟨h1, h2, h3, _⟩
 ·rw [e] at h0; exact absurd rfl h0
 ·rw [extract_size s i (by omega)] at h3
  exact ⟨h1, h2, by omega⟩
theorem runes_end (s : ByteArray) (hs : s.size ≤ 140737488355328) : ∀ (k i : Nat), i ≤ s.size → s.size - i ≤ k →
  (runesFrom s k i).foldl (fun _ p => wrap64 (p.1 + sizeT p.2)) (i : Int) = (stop s k i : Nat)
 | 0, i, hi, hk => rfl
 | k + 1, i, hi, hk => by
  simp only [runesFrom, stop]
  by_cases h : i < s.size
  ·rw [if_pos h, if_pos h]
   have hg := getT_dec (s.extract i s.size)
   have hok := getT_ok (s.extract i s.size)
   by_cases h0 : (dec (s.extract i s.size)).2 = 0
   ·rw [if_pos h0] at hg
    rw [hg, if_neg (by simp), if_pos h0]
    rfl
   ·rw [if_neg h0] at hg
    obtain ⟨d1, d2, d3⟩ := dec_le s i h h0
    rw [hg] at hok ⊢
    rw [if_pos rfl, if_neg h0, List.foldl_cons]
    rcases hok with ⟨_, _, _, _, hz⟩ | hz
    ·have hz2 : sizeT (dec (s.extract i s.size)).1 = (dec (s.extract i s.size)).2 := by unfold sizeT; rw [hz]; rfl
     rw [← runes_end s hs k (i + (dec (s.extract i s.size)).2.toNat) d3 (by omega)]
     congr 1
     rw [hz2, w64n (by omega) (by omega)]
     omega
    ·exact absurd (congrArg (fun v => v.2.1) hz) h0
  ·rw [if_neg h, if_neg h]
   rfl
theorem validB_stop (s : ByteArray) (hs : s.size ≤ 140737488355328) : validB s = decide (stop s s.size 0 = s.size) := by
 unfold validB endOf runesOf
 have := runes_end s hs s.size 0 (by omega) (by omega)
 rw [show ((0 : Nat) : Int) = 0 from rfl] at this
 rw [this, Bool.eq_iff_iff]
 simp
 omega
theorem refRunes (s : ByteArray) (hs : s.size ≤ 1000000000000) (m : Nat) : ∀ (k i : Nat) (l : List S61), i ≤ s.size → s.size - i ≤ k → l.length ≤ i →
  ∃ l', g1r_Runes.l0 (k + 1 + 40 + m) s l i = some (l', ((stop s k i : Nat) : Int))
 | 0, i, l, hi, hk, hl => by
  rw [show 0 + 1 + 40 + m = (40 + m) + 1 by omega]
  simp only [g1r_Runes.l0, stop]
  rw [if_neg (by omega)]
  exact ⟨l, rfl⟩
 | k + 1, i, l, hi, hk, hl => by
  rw [show k + 1 + 1 + 40 + m = (k + 1 + 40 + m) + 1 by omega]
  simp only [g1r_Runes.l0, stop]
  by_cases h : i < s.size
  ·have hw : wrap64 ((i : Int) + 4) = ((i + 4 : Nat) : Int) := by rw [w64n (by omega) (by omega)]; omega
   have hmn : mn (s.size : Int) ((i + 4 : Nat) : Int) = ((min s.size (i + 4) : Nat) : Int) := by unfold mn; split <;> omega
   rw [if_pos (by omega), if_pos (by omega), hw, hmn, if_pos (by omega), if_pos (by omega), if_pos h]
   simp only [Int.toNat_natCast]
   rw [rget_eq _ _ (by omega), Option.bind_some, dec_window s i h]
   by_cases h0 : (dec (s.extract i s.size)).2 = 0
   ·rw [if_pos h0, if_pos h0]
    exact ⟨l, rfl⟩
   ·obtain ⟨d1, d2, d3⟩ := dec_le s i h h0
    rw [if_neg h0, if_neg h0, if_pos (by omega)]
    obtain ⟨l', e⟩ := refRunes s hs m k (i + (dec (s.extract i s.size)).2.toNat) (l ++ [⟨i, (dec (s.extract i s.size)).1⟩]) d3 (by omega) (by simp; omega)
    refine ⟨l', ?_⟩
    rw [← e, w64n (by omega) (by omega)]
    congr 1
    omega
  ·rw [if_neg (by omega), if_neg h]
   exact ⟨l, rfl⟩
theorem refValid (s : ByteArray) (hs : s.size ≤ 1000000000000) (k : Nat) (hk : s.size + 41 ≤ k) : g1r_Valid.f k s = some (validB s) := by
 obtain ⟨m, rfl⟩ : ∃ m, k = s.size + 1 + 40 + m := ⟨k - s.size - 41, by omega⟩
 unfold g1r_Valid.f g1r_Runes.f
 obtain ⟨l', e⟩ := refRunes s hs m s.size 0 [] (by omega) (by omega) (by simp)
 rw [show (0 : Int) = ((0 : Nat) : Int) from rfl, e, Option.bind_some, validB_stop s (by omega)]
 congr 1
 rw [Bool.eq_iff_iff]
 simp
 omega
end Go.Proofs.YtpbphelaeleikaaGreatDoor.PLt

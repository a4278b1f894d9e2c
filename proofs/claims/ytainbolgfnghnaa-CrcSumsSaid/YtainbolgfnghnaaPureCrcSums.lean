/- For any two slices of bytes, any two words, any byte and any number the checksum's functions answer what the reference answers, bit by bit. No condition. -/
import Derived.Test.YtainbolgfnghnaaCrcFns
namespace Go.Proofs.Ytainbolgfnghnaa.Pure
open Go.RowKit Go.Proofs.Ytainbolgfnghnaa.PCrc Go.Proofs.YtainbolgfnghnaaW.PrintWords Go.Proofs.YtainbolgfnghnaaW.PrintLast Go.Proofs.Ytainbolgfnghnaa.CrcF Go.Proofs.CrcM

theorem known_f : rhizomelaw24_known.f = some true := rfl
theorem CrcSums : rhizomelaw24_CrcSums.Pure := by
  intro l0 l1 a2 a3 a4 a5 hm0 hy0 hw0 hm1 hy1 hw1 h2 h3 h4 h5
  obtain ⟨m0, rfl, hc0, hn0⟩ := bytes_of l0 hw0
  obtain ⟨m1, rfl, hc1, hn1⟩ := bytes_of l1 hw1
  have b2 := bounds_u32 h2; have b3 := bounds_u32 h3; have b4 := bounds_u8 h4
  obtain ⟨r2, rfl⟩ := Int.eq_ofNat_of_zero_le b2.1
  obtain ⟨r3, rfl⟩ := Int.eq_ofNat_of_zero_le b3.1
  obtain ⟨r4, rfl⟩ := Int.eq_ofNat_of_zero_le b4.1
  refine ⟨m0.length + m1.length + 20 + 1, ?_⟩
  unfold rhizomelaw24_CrcSums.f
  have hj : ∀ b : Bool, (b = false → m0.length ≤ 9000 ∧ m1.length ≤ 9000) → rhizomelaw24_CrcSums.j0 (m0.length + m1.length + 20 + 1) (ints m0) (ints m1) r2 r3 r4 a5 b = some true := by
    intro b hb
    simp only [rhizomelaw24_CrcSums.j0]
    cases b with
    | true => rfl
    | false =>
      obtain ⟨q0, q1⟩ := hb rfl
      rw [if_neg (by decide)]
      have hs := sum_f [m0, m1] (m0.length + m1.length) (by intro l hl; simp at hl; rcases hl with rfl | rfl; exact ⟨hc0, by omega⟩; exact ⟨hc1, by omega⟩) (by omega) (by simp) (m0.length + m1.length + 20) (by simp; omega)
      have hr := rsum_f (m0 ++ m1) (by intro c hc; rcases List.mem_append.1 hc with h | h; exact hc0 c h; exact hc1 c h) (by rw [List.length_append]; omega) (m0.length + m1.length + 20) (by rw [List.length_append]; omega)
      have e : sumup 0 [m0, m1] = not32 (upd (not32 0) (m0 ++ m1)) := by
        show not32 (upd (not32 (not32 (upd (not32 0) m0))) m1) = _
        rw [not_not, upd_app]
      rw [show ([ints m0, ints m1] : List (List Int)) = [m0, m1].map ints from rfl, hs]
      simp only [Option.bind_some]
      have hl0 := ints_len m0
      have hl1 := ints_len m1
      have hy0' : m0.length ≤ 140737488351232 := by omega
      have hy1' : m1.length ≤ 140737488351232 := by omega
      rw [if_pos (by simp; omega), if_pos (by simp; omega)]
      rw [show (([] : List Int) ++ ints m0 ++ ints m1) = ints (m0 ++ m1) by simp [ints], hr, ← e]
      simp only [Option.bind_some, if_true]
      rw [step_f _ r2 r4 (by omega) (by omega) (by omega), rstep_f _ r2 r4 (by omega) (by omega) (by omega)]
      simp only [Option.bind_some, if_true]
      rw [upd_f m0 hc0 hy0' _ r3 (by omega) (by omega), rupd_f m0 hc0 hy0' _ r3 (by omega) (by omega)]
      simp only [Option.bind_some, if_true]
      rw [rentry_f _ a5 (by omega)]
      obtain ⟨v, hv⟩ := entry_some (m0.length + m1.length + 20) a5 (by omega)
      rw [hv]
      simp only [Option.bind_some, if_true]
      rw [known_f]; rfl
  rw [ints_len, ints_len]
  split
  · exact hj true (by simp)
  · rename_i hq
    exact hj _ (fun h => by have := of_decide_eq_false h; omega)
end Go.Proofs.Ytainbolgfnghnaa.Pure

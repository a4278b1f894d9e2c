/- For any two words and any two bytes: a register behind a byte tells the register ahead, the byte too, and four bytes make any register of any other one. No condition. -/
import Derived.Test.YtainbolgfnghnaaCrcFns
namespace Go.Proofs.Ytainbolgfnghnaa.Pure
set_option linter.unusedVariables false
open Go.RowKit Go.Proofs.Ytainbolgfnghnaa.PCrc Go.Proofs.YtainbolgfnghnaaW.PrintWords Go.Proofs.YtainbolgfnghnaaW.PrintLast Go.Proofs.YtainbolgfnghnaaW.PrintMore Go.Proofs.Ytainbolgfnghnaa.CrcF Go.Proofs.CrcM

/-- The step back over a nought: the entry that has the register's highest byte, first found. -/
theorem tops : ∀ t : Nat, t < 256 → ∃ k : Nat, k < 256 ∧ T8 k / 16777216 = t := by decide +kernel
theorem first_of (p : Nat → Bool) : ∀ n, (∃ k, k < n ∧ p k = true) → ∃ k, k < n ∧ p k = true ∧ ∀ j, j < k → p j = false
  | 0, ⟨k, h, _⟩ => by omega
  | n + 1, h => by
    by_cases h' : ∃ k, k < n ∧ p k = true
    · obtain ⟨k, h1, h2⟩ := first_of p n h'
      exact ⟨k, by omega, h2⟩
    · obtain ⟨k, h1, h2⟩ := h
      refine ⟨k, h1, h2, fun j hj => ?_⟩
      cases hp : p j with
      | false => rfl
      | true => exact absurd ⟨j, by omega, hp⟩ h'
def fits (r k : Nat) : Bool := decide (T8 k / 16777216 = r / 16777216)
theorem has_fit (r : Nat) (h : r < 4294967296) : ∃ k, k < 256 ∧ fits r k = true ∧ ∀ j, j < k → fits r j = false := by
  obtain ⟨k, hk, e⟩ := tops (r / 16777216) (by omega)
  exact first_of (fits r) 256 ⟨k, hk, decide_eq_true e⟩
def back (r k : Nat) : Nat := ((r ^^^ T8 k) * 256) % 4294967296 ||| k
theorem back_lt (r k : Nat) (hk : k < 256) : back r k < 4294967296 := Nat.or_lt_two_pow (n := 32) (by omega) (by omega)
theorem or_low (a k : Nat) (hk : k < 256) : (a * 256) ||| k = a * 256 + k := by
  have := Nat.two_pow_add_eq_or_of_lt (i := 8) (b := k) (by omega) a
  rw [show 2 ^ 8 * a = a * 256 by omega] at this
  exact this.symm
theorem back_step (r k : Nat) (hk : k < 256) (hf : fits r k = true) : T8 (back r k) = r := by
  have e : T8 k / 16777216 = r / 16777216 := of_decide_eq_true hf
  have hx : (r ^^^ T8 k) / 16777216 = 0 := by
    have := @Nat.xor_div_two_pow r (T8 k) 24
    rw [show (2 : Nat) ^ 24 = 16777216 from rfl] at this
    rw [this, e, Nat.xor_self]
  have hl : r ^^^ T8 k < 16777216 := by omega
  have hb : back r k = (r ^^^ T8 k) * 256 + k := by
    unfold back
    rw [Nat.mod_eq_of_lt (by omega), or_low _ _ hk]
  rw [T8_split, hb, show ((r ^^^ T8 k) * 256 + k) / 256 = r ^^^ T8 k by omega, show ((r ^^^ T8 k) * 256 + k) % 256 = k by omega, Nat.xor_assoc, Nat.xor_self, Nat.xor_zero]
theorem l1_back (a b r k i : Nat) (hr : r < 4294967296) (hk : k < 256) (hf : fits r k = true) (hn : ∀ j, j < k → fits r j = false) (hi : i < 4) :
    ∀ (d K j : Nat), k - j = d → j ≤ k → d + 12 ≤ K → ∃ K', K - d - 1 = K' ∧ rhizomelaw24_CrcBacks.l1 K (a : Int) (b : Int) (r : Int) (i : Int) (j : Int) = rhizomelaw24_CrcBacks.l0 K' (a : Int) (b : Int) ((back r k : Nat) : Int) ((i + 1 : Nat) : Int)
  | 0, K, j, hd, hj, hK => by
    obtain ⟨K, rfl⟩ : ∃ m, K = m + 1 := ⟨K - 1, by omega⟩
    obtain rfl : j = k := by omega
    refine ⟨K, by omega, ?_⟩
    simp only [rhizomelaw24_CrcBacks.l1]
    rw [if_pos (by omega), entry_f K j hk (by omega)]
    simp only [Option.bind_some]
    have e : T8 j / 16777216 = r / 16777216 := of_decide_eq_true hf
    have ht := T8_lt j (by omega)
    have hx : r ^^^ T8 j < 4294967296 := Nat.xor_lt_two_pow (n := 32) hr ht
    rw [if_pos (by omega), u32_xor_nat _ _ hr ht]
    rw [show (((r ^^^ T8 j : Nat) : Int) * 256) % 4294967296 = (((r ^^^ T8 j) * 256 % 4294967296 : Nat) : Int) by omega, show (j : Int) % 4294967296 = (j : Int) by omega, u32_or_nat _ _ (by omega) (by omega), w64 (by omega) (by omega)]
    rfl
  | d + 1, K, j, hd, hj, hK => by
    obtain ⟨K, rfl⟩ : ∃ m, K = m + 1 := ⟨K - 1, by omega⟩
    obtain ⟨K', e', h'⟩ := l1_back a b r k i hr hk hf hn hi d K (j + 1) (by omega) (by omega) (by omega)
    refine ⟨K', by omega, ?_⟩
    simp only [rhizomelaw24_CrcBacks.l1]
    rw [if_pos (by omega), entry_f K j (by omega) (by omega)]
    simp only [Option.bind_some]
    have e : ¬ T8 j / 16777216 = r / 16777216 := of_decide_eq_false (hn j (by omega))
    rw [if_neg (by omega), w64 (by omega) (by omega)]
    exact h'
theorem l0_back (a b r i K : Nat) (hr : r < 4294967296) (hi : i < 4) (hK : 280 ≤ K) : ∃ (r' K' : Nat), K ≤ K' + 258 ∧ r' < 4294967296 ∧ T8 r' = r ∧
    rhizomelaw24_CrcBacks.l0 K (a : Int) (b : Int) (r : Int) (i : Int) = rhizomelaw24_CrcBacks.l0 K' (a : Int) (b : Int) (r' : Int) ((i + 1 : Nat) : Int) := by
  obtain ⟨K, rfl⟩ : ∃ m, K = m + 1 := ⟨K - 1, by omega⟩
  obtain ⟨k, hk, hf, hn⟩ := has_fit r hr
  obtain ⟨K', e', h'⟩ := l1_back a b r k i hr hk hf hn hi k K 0 (by omega) (by omega) (by omega)
  refine ⟨back r k, K', by omega, back_lt r k hk, back_step r k hk hf, ?_⟩
  conv => lhs; simp only [rhizomelaw24_CrcBacks.l0]
  rw [if_pos (by omega)]
  exact h'
/-- Four bytes of x, its lowest first. -/
theorem four (a x : Nat) (hx : x < 4294967296) : stp (stp (stp (stp a (x % 256)) (x / 256 % 256)) (x / 65536 % 256)) (x / 16777216 % 256) = T8 (T8 (T8 (T8 (a ^^^ x)))) := by
  have one : ∀ s y : Nat, T8 (s ^^^ y) = stp s (y % 256) ^^^ (y / 256) := by
    intro s y
    have e := split256 y
    unfold stp
    conv => lhs; rw [e]
    rw [Nat.xor_comm (y / 256 * 256), ← Nat.xor_assoc, T8_xor, T8_256]
  rw [one a x, one, one, one]
  rw [show x / 256 / 256 = x / 65536 by omega, show x / 65536 / 256 = x / 16777216 by omega, show x / 16777216 / 256 = 0 by omega, Nat.xor_zero]
theorem l2_e (K b x s : Nat) (he : s = b) (hK : 1 ≤ K) : rhizomelaw24_CrcBacks.l2 K (b : Int) (x : Int) (s : Int) ((4 : Nat) : Int) = some true := by
  obtain ⟨K, rfl⟩ : ∃ m, K = m + 1 := ⟨K - 1, by omega⟩
  simp only [rhizomelaw24_CrcBacks.l2]
  rw [if_neg (by omega), if_pos (by omega)]
  rfl
theorem shr_u32 (x n : Nat) (hn : n < 32) : shr .u32 (x : Int) (n : Int) = ((x / 2 ^ n : Nat) : Int) := by
  unfold shr
  rw [Int.toNat_natCast, show IntKind.u32.bits = 32 from rfl, Nat.min_eq_left (by omega), Int.natCast_ediv, Int.natCast_pow]
  rfl
theorem l2_s (K b x s i : Nat) (hx : x < 4294967296) (hs : s < 4294967296) (hi : i < 4) (hK : 12 ≤ K) : rhizomelaw24_CrcBacks.l2 (K + 1) (b : Int) (x : Int) (s : Int) (i : Int) =
    rhizomelaw24_CrcBacks.l2 K (b : Int) (x : Int) ((stp s (x / 2 ^ (8 * i) % 256) : Nat) : Int) ((i + 1 : Nat) : Int) := by
  conv => lhs; simp only [rhizomelaw24_CrcBacks.l2]
  have e1 : IntKind.u64.wrap (wrap64 (8 * (i : Int))) = ((8 * i : Nat) : Int) := by
    rw [w64 (by omega) (by omega)]
    have : ∀ n : Int, IntKind.u64.wrap n = n % 18446744073709551616 := fun n => by simp [IntKind.wrap, IntKind.bits, IntKind.signed]
    rw [this]; omega
  rw [if_pos (by omega), e1, if_pos (by omega), shr_u32 _ _ (by omega)]
  rw [show ((x / 2 ^ (8 * i) : Nat) : Int) % 256 = ((x / 2 ^ (8 * i) % 256 : Nat) : Int) by omega, step_f K s _ hs (by omega) (by omega)]
  simp only [Option.bind_some]
  rw [w64 (by omega) (by omega)]; rfl
theorem CrcBacks : rhizomelaw24_CrcBacks.Pure := by
  intro a0 a1 a2 a3 h0 h1 h2 h3
  have b0 := bounds_u32 h0; have b1 := bounds_u32 h1; have b2 := bounds_u8 h2; have b3 := bounds_u8 h3
  obtain ⟨a, rfl⟩ := Int.eq_ofNat_of_zero_le b0.1
  obtain ⟨b, rfl⟩ := Int.eq_ofNat_of_zero_le b1.1
  obtain ⟨c, rfl⟩ := Int.eq_ofNat_of_zero_le b2.1
  obtain ⟨d, rfl⟩ := Int.eq_ofNat_of_zero_le b3.1
  refine ⟨2000, ?_⟩
  have hj : rhizomelaw24_CrcBacks.j0 2000 (a : Int) (b : Int) false = some true := by
    simp only [rhizomelaw24_CrcBacks.j0]
    rw [if_neg (by decide), show (0 : Int) = ((0 : Nat) : Int) from rfl]
    obtain ⟨r1, K1, k1, g1, t1, e1⟩ := l0_back a b b 0 1999 (by omega) (by omega) (by omega)
    obtain ⟨r2, K2, k2, g2, t2, e2⟩ := l0_back a b r1 1 K1 g1 (by omega) (by omega)
    obtain ⟨r3, K3, k3, g3, t3, e3⟩ := l0_back a b r2 2 K2 g2 (by omega) (by omega)
    obtain ⟨r4, K4, k4, g4, t4, e4⟩ := l0_back a b r3 3 K3 g3 (by omega) (by omega)
    rw [e1, e2, e3, e4]
    obtain ⟨K, rfl⟩ : ∃ m, K4 = m + 1 := ⟨K4 - 1, by omega⟩
    simp only [rhizomelaw24_CrcBacks.l0]
    have hx : a ^^^ r4 < 4294967296 := Nat.xor_lt_two_pow (n := 32) (by omega) g4
    rw [if_neg (by omega), u32_xor_nat _ _ (by omega) g4, show (0 : Int) = ((0 : Nat) : Int) from rfl]
    obtain ⟨K, rfl⟩ : ∃ m, K = m + 20 := ⟨K - 20, by omega⟩
    have s1 := stp_lt a ((a ^^^ r4) / 2 ^ (8 * 0) % 256) (by omega) (by omega)
    have s2 := stp_lt _ ((a ^^^ r4) / 2 ^ (8 * 1) % 256) s1 (by omega)
    have s3 := stp_lt _ ((a ^^^ r4) / 2 ^ (8 * 2) % 256) s2 (by omega)
    rw [l2_s (K + 19) b _ a 0 hx (by omega) (by omega) (by omega), l2_s (K + 18) b _ _ 1 hx s1 (by omega) (by omega), l2_s (K + 17) b _ _ 2 hx s2 (by omega) (by omega), l2_s (K + 16) b _ _ 3 hx s3 (by omega) (by omega)]
    refine l2_e _ _ _ _ ?_ (by omega)
    have f := four a (a ^^^ r4) hx
    rw [xor_twice, t4, t3, t2, t1] at f
    simpa using f
  unfold rhizomelaw24_CrcBacks.f
  rw [step_f _ a c (by omega) (by omega) (by omega), step_f _ b c (by omega) (by omega) (by omega), step_f _ a d (by omega) (by omega) (by omega)]
  simp only [Option.bind_some]
  have q1 : ((((stp a c : Nat) : Int) == ((stp b c : Nat) : Int)) != ((a : Int) == (b : Int))) = false := by
    have := stp_reg a b c (by omega) (by omega) (by omega)
    rw [bne_eq_false_iff_eq, Bool.eq_iff_iff, beq_iff_eq, beq_iff_eq]
    omega
  have q2 : ((((stp a c : Nat) : Int) == ((stp a d : Nat) : Int)) != ((c : Int) == (d : Int))) = false := by
    have := stp_byte a c d (by omega) (by omega) (by omega)
    rw [bne_eq_false_iff_eq, Bool.eq_iff_iff, beq_iff_eq, beq_iff_eq]
    omega
  rw [q1, q2, if_neg (by decide)]
  exact hj
end Go.Proofs.Ytainbolgfnghnaa.Pure

/- Plain facts on the checksum's one-bit stp over natural numbers: it respects xor, nothing but zero goes to zero. -/
import Derived.Laws.BitsAllLaws
namespace Go.Proofs.CrcM
def P : Nat := 3988292384
def T (x : Nat) : Nat := (x / 2) ^^^ (if x % 2 = 1 then P else 0)
def T8 (x : Nat) : Nat := T (T (T (T (T (T (T (T x)))))))
def stp (r c : Nat) : Nat := T8 (r ^^^ c)
def upd (r : Nat) : List Nat → Nat
  | [] => r
  | c :: l => upd (stp r c) l

theorem xac (a b c d : Nat) : (a ^^^ b) ^^^ (c ^^^ d) = (a ^^^ c) ^^^ (b ^^^ d) := by
  rw [Nat.xor_assoc, ← Nat.xor_assoc b, Nat.xor_comm b c, Nat.xor_assoc c, ← Nat.xor_assoc a]
theorem eq_of_xor0 (a b : Nat) (h : a ^^^ b = 0) : a = b := by
  have h2 : (a ^^^ b) ^^^ b = b := by rw [h, Nat.zero_xor]
  rwa [Nat.xor_assoc, Nat.xor_self, Nat.xor_zero] at h2
theorem T_xor (a b : Nat) : T (a ^^^ b) = T a ^^^ T b := by
  unfold T
  rw [Nat.xor_div_two, xac]
  congr 1
  have h := @Nat.xor_mod_two_eq_one a b
  by_cases ha : a % 2 = 1 <;> by_cases hb : b % 2 = 1
  · rw [if_pos ha, if_pos hb, if_neg (by rw [h]; simp [ha, hb])]; simp
  · rw [if_pos ha, if_neg hb, if_pos (by rw [h]; simp [ha, hb])]; simp
  · rw [if_neg ha, if_pos hb, if_pos (by rw [h]; simp [ha, hb])]; simp
  · rw [if_neg ha, if_neg hb, if_neg (by rw [h]; simp [ha, hb])]; simp
theorem T8_xor (a b : Nat) : T8 (a ^^^ b) = T8 a ^^^ T8 b := by
  unfold T8; simp only [T_xor]
theorem T_zero : T 0 = 0 := by decide
theorem T8_zero : T8 0 = 0 := by decide
theorem T_lt (x : Nat) (h : x < 4294967296) : T x < 4294967296 := by
  unfold T
  refine Nat.xor_lt_two_pow (n := 32) (by omega) ?_
  split
  · decide
  · decide
theorem T8_lt (x : Nat) (h : x < 4294967296) : T8 x < 4294967296 := by
  unfold T8; exact T_lt _ (T_lt _ (T_lt _ (T_lt _ (T_lt _ (T_lt _ (T_lt _ (T_lt _ h)))))))
theorem T_ker (x : Nat) (h : x < 4294967296) (h0 : T x = 0) : x = 0 := by
  unfold T at h0
  by_cases ho : x % 2 = 1
  · rw [if_pos ho] at h0
    have e := eq_of_xor0 _ _ h0
    unfold P at e
    omega
  · rw [if_neg ho] at h0
    simp at h0
    omega
theorem T8_ker (x : Nat) (h : x < 4294967296) (h0 : T8 x = 0) : x = 0 := by
  unfold T8 at h0
  have l1 := T_lt _ h; have l2 := T_lt _ l1; have l3 := T_lt _ l2; have l4 := T_lt _ l3; have l5 := T_lt _ l4; have l6 := T_lt _ l5; have l7 := T_lt _ l6
  exact T_ker _ h (T_ker _ l1 (T_ker _ l2 (T_ker _ l3 (T_ker _ l4 (T_ker _ l5 (T_ker _ l6 (T_ker _ l7 h0)))))))
theorem T_even (x : Nat) : T (x * 2) = x := by
  unfold T
  rw [if_neg (by omega), Nat.mul_div_cancel _ (by decide)]; simp
theorem T8_256 (x : Nat) : T8 (x * 256) = x := by
  have e : x * 256 = x * 2 * 2 * 2 * 2 * 2 * 2 * 2 * 2 := by omega
  rw [e]
  unfold T8
  rw [T_even (x*2*2*2*2*2*2*2), T_even (x*2*2*2*2*2*2), T_even (x*2*2*2*2*2), T_even (x*2*2*2*2), T_even (x*2*2*2), T_even (x*2*2), T_even (x*2), T_even x]
theorem split256 (x : Nat) : x = (x / 256 * 256) ^^^ (x % 256) := by
  have h : (x / 256 * 256) ^^^ (x % 256) = (x / 256 * 256) + (x % 256) := by
    have := Nat.two_pow_add_eq_or_of_lt (i := 8) (b := x % 256) (by omega) (x / 256)
    rw [show 2 ^ 8 * (x / 256) = x / 256 * 256 by omega] at this
    rw [this]
    apply Nat.eq_of_testBit_eq
    intro i
    rw [Nat.testBit_xor, Nat.testBit_or]
    by_cases hi : i < 8
    · have e : (x / 256 * 256).testBit i = false := by
        show ((x/256) * 2 ^ 8).testBit i = false
        rw [Nat.testBit_mul_two_pow]
        simp; omega
      rw [e]; simp
    · have e : (x % 256).testBit i = false := by
        show (x % 2 ^ 8).testBit i = false
        rw [Nat.testBit_mod_two_pow]
        simp [hi]
      rw [e]; simp
  omega
theorem T8_split (x : Nat) : T8 x = (x / 256) ^^^ T8 (x % 256) := by
  conv => lhs; rw [split256 x]
  rw [T8_xor, T8_256]
theorem stp_xor (r s c d : Nat) : stp (r ^^^ s) (c ^^^ d) = stp r c ^^^ stp s d := by
  unfold stp; rw [xac, T8_xor]
theorem stp_lt (r c : Nat) (hr : r < 4294967296) (hc : c < 256) : stp r c < 4294967296 :=
  T8_lt _ (Nat.xor_lt_two_pow (n := 32) hr (by omega))
theorem xor_eq_iff (a b : Nat) : a ^^^ b = 0 ↔ a = b := ⟨eq_of_xor0 _ _, fun h => by rw [h]; simp⟩
theorem T8_inj (a b : Nat) (ha : a < 4294967296) (hb : b < 4294967296) (h : T8 a = T8 b) : a = b := by
  have := T8_ker (a ^^^ b) (Nat.xor_lt_two_pow (n := 32) ha hb) (by rw [T8_xor, h]; simp)
  exact (xor_eq_iff _ _).1 this
theorem xor_cancel_left (a b c : Nat) (h : a ^^^ b = a ^^^ c) : b = c := by
  have : a ^^^ (a ^^^ b) = a ^^^ (a ^^^ c) := by rw [h]
  rwa [← Nat.xor_assoc, ← Nat.xor_assoc, Nat.xor_self, Nat.zero_xor, Nat.zero_xor] at this
theorem stp_reg (a b c : Nat) (ha : a < 4294967296) (hb : b < 4294967296) (hc : c < 256) : stp a c = stp b c ↔ a = b := by
  refine ⟨fun h => ?_, fun h => by rw [h]⟩
  have := T8_inj _ _ (Nat.xor_lt_two_pow (n := 32) ha (by omega)) (Nat.xor_lt_two_pow (n := 32) hb (by omega)) h
  rw [Nat.xor_comm a, Nat.xor_comm b] at this
  exact xor_cancel_left _ _ _ this
theorem stp_byte (a c d : Nat) (ha : a < 4294967296) (hc : c < 256) (hd : d < 256) : stp a c = stp a d ↔ c = d := by
  refine ⟨fun h => ?_, fun h => by rw [h]⟩
  have := T8_inj _ _ (Nat.xor_lt_two_pow (n := 32) ha (by omega)) (Nat.xor_lt_two_pow (n := 32) ha (by omega)) h
  exact xor_cancel_left _ _ _ this
end Go.Proofs.CrcM

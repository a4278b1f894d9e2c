/- Plain facts on the checksum's one-bit step, iterated: it respects xor; a run of 32 bits, moved by up to 7, doesn't go to zero. -/
import Derived.Test.YtainbolgfnghnaaCrcMath
namespace Go.Proofs.CrcM
set_option linter.unusedVariables false
def Tn : Nat → Nat → Nat
  | 0, x => x
  | n + 1, x => Tn n (T x)
theorem Tn_xor : ∀ (n a b : Nat), Tn n (a ^^^ b) = Tn n a ^^^ Tn n b
  | 0, _, _ => rfl
  | n + 1, a, b => by show Tn n (T (a ^^^ b)) = Tn n (T a) ^^^ Tn n (T b); rw [T_xor, Tn_xor n]
theorem Tn_lt : ∀ (n x : Nat), x < 4294967296 → Tn n x < 4294967296
  | 0, _, h => h
  | n + 1, x, h => Tn_lt n _ (T_lt x h)
theorem Tn_ker : ∀ (n x : Nat), x < 4294967296 → Tn n x = 0 → x = 0
  | 0, _, _, h => h
  | n + 1, x, h, h0 => T_ker x h (Tn_ker n _ (T_lt x h) h0)
theorem Tn_shift : ∀ (n x : Nat), Tn n (x * 2 ^ n) = x
  | 0, x => by show x * 2 ^ 0 = x; omega
  | n + 1, x => by
    show Tn n (T (x * 2 ^ (n + 1))) = x
    rw [show x * 2 ^ (n + 1) = (x * 2 ^ n) * 2 by rw [Nat.pow_succ, Nat.mul_assoc], T_even, Tn_shift n]
theorem Tn_add : ∀ (m n x : Nat), Tn (m + n) x = Tn n (Tn m x)
  | 0, n, x => by rw [Nat.zero_add]; rfl
  | m + 1, n, x => by rw [show m + 1 + n = (m + n) + 1 by omega]; show Tn (m + n) (T x) = Tn n (Tn m (T x)); exact Tn_add m n (T x)
theorem T8_Tn (x : Nat) : T8 x = Tn 8 x := rfl
theorem upd_zip : ∀ (l m : List Nat) (r s : Nat), l.length = m.length → upd (r ^^^ s) (List.zipWith (fun a b => a ^^^ b) l m) = upd r l ^^^ upd s m
  | [], [], _, _, _ => rfl
  | [], _ :: _, _, _, h => by simp at h
  | _ :: _, [], _, _, h => by simp at h
  | a :: l, b :: m, r, s, h => by
    show upd (stp (r ^^^ s) (a ^^^ b)) (List.zipWith _ l m) = upd (stp r a) l ^^^ upd (stp s b) m
    rw [stp_xor, upd_zip l m _ _ (by simpa using h)]
theorem stp_zero (s : Nat) : stp s 0 = T8 s := by unfold stp; rw [Nat.xor_zero]
theorem upd_zeros_ker : ∀ (n s : Nat), s < 4294967296 → upd s (List.replicate n 0) = 0 → s = 0
  | 0, _, _, h => h
  | n + 1, s, hs, h => by
    rw [List.replicate_succ] at h
    have h2 : upd (stp s 0) (List.replicate n 0) = 0 := h
    rw [stp_zero] at h2
    exact T8_ker s hs (upd_zeros_ker n _ (T8_lt s hs) h2)
theorem upd_zeros : ∀ (n : Nat), upd 0 (List.replicate n 0) = 0
  | 0 => rfl
  | n + 1 => by rw [List.replicate_succ]; show upd (stp 0 0) (List.replicate n 0) = 0; rw [stp_zero, T8_zero]; exact upd_zeros n
/-- The register behind a word's four bytes, lowest first: the word, and 32 steps. -/
theorem four (x : Nat) (h : x < 4294967296) : stp (stp (stp (stp 0 (x % 256)) (x / 256 % 256)) (x / 65536 % 256)) (x / 16777216) = Tn 32 x := by
  rw [show 32 = 8 + (8 + (8 + 8)) from rfl, Tn_add, Tn_add, Tn_add, ← T8_Tn, ← T8_Tn, ← T8_Tn, ← T8_Tn]
  have c : ∀ r y : Nat, T8 (T8 (r ^^^ y)) = T8 (stp r (y % 256) ^^^ (y / 256)) := by
    intro r y
    conv => lhs; rw [T8_xor, T8_split y]
    unfold stp
    rw [T8_xor r, Nat.xor_assoc, Nat.xor_comm (T8 (y % 256))]
  have e0 := c 0 x
  rw [Nat.zero_xor] at e0
  rw [e0]
  have e1 := c (stp 0 (x % 256)) (x / 256)
  rw [e1]
  have e2 := c (stp (stp 0 (x % 256)) (x / 256 % 256)) (x / 256 / 256)
  rw [e2, Nat.div_div_eq_div_mul, Nat.div_div_eq_div_mul]
  rfl
theorem run_ker (run s : Nat) (hr : run < 4294967296) (hs : s ≤ 7) (h : Tn 32 (run * 2 ^ s % 4294967296) = run * 2 ^ s / 4294967296) : run = 0 := by
  have hp : 2 ^ s * 2 ^ (32 - s) = 4294967296 := by rw [← Nat.pow_add, show s + (32 - s) = 32 by omega]
  have e1 : run * 2 ^ s % 4294967296 = (run % 2 ^ (32 - s)) * 2 ^ s := by
    rw [← hp, Nat.mul_comm run, Nat.mul_mod_mul_left, Nat.mul_comm]
  have e2 : run * 2 ^ s / 4294967296 = run / 2 ^ (32 - s) := by
    rw [← hp, Nat.mul_comm run, Nat.mul_div_mul_left _ _ (Nat.two_pow_pos s)]
  have e3 : Tn 32 ((run % 2 ^ (32 - s)) * 2 ^ s) = Tn (32 - s) (run % 2 ^ (32 - s)) := by
    rw [show Tn 32 ((run % 2 ^ (32 - s)) * 2 ^ s) = Tn (s + (32 - s)) ((run % 2 ^ (32 - s)) * 2 ^ s) by rw [show s + (32 - s) = 32 by omega], Tn_add, Tn_shift]
  rw [e1, e2, e3] at h
  have e4 := Tn_shift (32 - s) (run / 2 ^ (32 - s))
  have hlo : run % 2 ^ (32 - s) < 2 ^ (32 - s) := Nat.mod_lt _ (Nat.two_pow_pos _)
  have hpl : 2 ^ (32 - s) ≤ 2 ^ 32 := Nat.pow_le_pow_right (by decide) (by omega)
  have hdm := Nat.div_add_mod run (2 ^ (32 - s))
  rw [Nat.mul_comm] at hdm
  have hlt1 : run % 2 ^ (32 - s) < 2 ^ 32 := by omega
  have hlt2 : run / 2 ^ (32 - s) * 2 ^ (32 - s) < 2 ^ 32 := by omega
  have hz := Tn_ker (32 - s) ((run % 2 ^ (32 - s)) ^^^ (run / 2 ^ (32 - s) * 2 ^ (32 - s))) (Nat.xor_lt_two_pow (n := 32) hlt1 hlt2) (by rw [Tn_xor, e4, h, Nat.xor_self])
  have he := eq_of_xor0 _ _ hz
  have h0 : run / 2 ^ (32 - s) = 0 := by
    rcases Nat.eq_zero_or_pos (run / 2 ^ (32 - s)) with h | h
    · exact h
    · have := Nat.le_mul_of_pos_left (2 ^ (32 - s)) h
      omega
  rw [h0] at he hdm
  omega
/-- Five bytes of a run of 32 bits, moved by up to 7, don't leave the register as it was. -/
theorem five (run s : Nat) (hr : run < 4294967296) (hs : s ≤ 7) (b : Nat) (hb : b = run * 2 ^ s) (h : upd 0 [b % 256, b / 256 % 256, b / 65536 % 256, b / 16777216 % 256, b / 4294967296] = 0) : run = 0 := by
  have hb2 : b < 4294967296 * 128 := by
    have := Nat.pow_le_pow_right (show 0 < 2 by decide) hs
    rw [hb]; exact Nat.lt_of_lt_of_le (Nat.mul_lt_mul_of_pos_right hr (Nat.two_pow_pos s)) (Nat.mul_le_mul_left _ this)
  have f := four (b % 4294967296) (by omega)
  rw [show b % 4294967296 % 256 = b % 256 by omega, show b % 4294967296 / 256 % 256 = b / 256 % 256 by omega, show b % 4294967296 / 65536 % 256 = b / 65536 % 256 by omega, show b % 4294967296 / 16777216 = b / 16777216 % 256 by omega] at f
  have h2 : stp (stp (stp (stp (stp 0 (b % 256)) (b / 256 % 256)) (b / 65536 % 256)) (b / 16777216 % 256)) (b / 4294967296) = 0 := h
  rw [f] at h2
  have hl := Tn_lt 32 (b % 4294967296) (by omega)
  have hz := T8_ker _ (Nat.xor_lt_two_pow (n := 32) hl (show b / 4294967296 < 2 ^ 32 by omega)) h2
  have := eq_of_xor0 _ _ hz
  rw [hb] at this
  exact run_ker run s hr hs this
end Go.Proofs.CrcM

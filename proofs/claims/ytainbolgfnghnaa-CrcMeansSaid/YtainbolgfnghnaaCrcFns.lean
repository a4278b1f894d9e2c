/- What each printed function of the checksum comes to, in terms of the one-bit step. -/
import Derived.Test.YtainbolgfnghnaaCrcMath
import Derived.Test.YtainbolgfnghnaaPCrcx1
import Derived.OpenShut
namespace Go.Proofs.Ytainbolgfnghnaa.CrcF
open Go.RowKit Go.Proofs.Ytainbolgfnghnaa.PCrc Go.Proofs.YtainbolgfnghnaaW.PrintWords Go.Proofs.YtainbolgfnghnaaW.PrintLast Go.Proofs.CrcM

theorem w64 {n : Int} (h0 : -9223372036854775808 ≤ n) (h : n ≤ 9223372036854775807) : wrap64 n = n := by unfold wrap64; omega
theorem T_int (x : Nat) (h : x < 4294967296) : Go.bits .xor .u32 ((x : Int) / 2) ((3988292384 * (Go.bits .and .u32 (x : Int) 1)) % 4294967296) = ((T x : Nat) : Int) := by
  have h1 := u32_and_nat x 1 h (by decide)
  rw [Nat.and_one_is_mod] at h1
  rw [show (1 : Int) = ((1 : Nat) : Int) from rfl, h1]
  have e2 : (x : Int) / 2 = ((x / 2 : Nat) : Int) := by omega
  have e3 : (3988292384 * ((x % 2 : Nat) : Int)) % 4294967296 = (((if x % 2 = 1 then P else 0) : Nat) : Int) := by
    unfold P; split <;> omega
  rw [e2, e3, u32_xor_nat _ _ (by omega) (by unfold P; split <;> omega)]
  rfl
theorem entry_l (k x i : Nat) (hx : x < 4294967296) (hi : i < 8) : crc_Entry.l0 (k + 1) (x : Int) (i : Int) = crc_Entry.l0 k ((T x : Nat) : Int) ((i + 1 : Nat) : Int) := by
  simp only [crc_Entry.l0]
  rw [if_pos (by omega), T_int x hx, w64 (by omega) (by omega)]; rfl
theorem entry_e (k x : Nat) : crc_Entry.l0 (k + 1) (x : Int) ((8 : Nat) : Int) = some (x : Int) := by
  simp only [crc_Entry.l0]
  rw [if_neg (by omega)]
theorem entry_f (k i : Nat) (hi : i < 256) (hk : 10 ≤ k) : crc_Entry.f k (i : Int) = some ((T8 i : Nat) : Int) := by
  obtain ⟨k, rfl⟩ : ∃ m, k = m + 10 := ⟨k - 10, by omega⟩
  unfold crc_Entry.f
  rw [if_neg (by omega), show decide ((i : Int) > 255) = false from decide_eq_false (by omega)]
  simp only [crc_Entry.j0]
  rw [if_neg (by decide), show (i : Int) % 4294967296 = (i : Int) by omega, show (0 : Int) = ((0 : Nat) : Int) from rfl]
  have l0 : i < 4294967296 := by omega
  have l1 := T_lt _ l0; have l2 := T_lt _ l1; have l3 := T_lt _ l2; have l4 := T_lt _ l3; have l5 := T_lt _ l4; have l6 := T_lt _ l5; have l7 := T_lt _ l6
  rw [entry_l _ _ 0 l0 (by omega), entry_l _ _ 1 l1 (by omega), entry_l _ _ 2 l2 (by omega), entry_l _ _ 3 l3 (by omega), entry_l _ _ 4 l4 (by omega), entry_l _ _ 5 l5 (by omega), entry_l _ _ 6 l6 (by omega), entry_l _ _ 7 l7 (by omega), entry_e]
  rfl
theorem entry_out (k : Nat) (i : Int) (hi : i < 0 ∨ 255 < i) (hk : 1 ≤ k) : crc_Entry.f k i = some 0 := by
  obtain ⟨k, rfl⟩ : ∃ m, k = m + 1 := ⟨k - 1, by omega⟩
  unfold crc_Entry.f
  by_cases h : i < 0
  · rw [if_pos h]; simp [crc_Entry.j0]
  · rw [if_neg h, show decide (i > 255) = true from decide_eq_true (by omega)]; simp [crc_Entry.j0]
theorem xor_mod (r c : Nat) (hc : c < 256) : (r ^^^ c) % 256 = (r % 256) ^^^ c := by
  have := @Nat.xor_mod_two_pow r c 8
  rw [show (2 : Nat) ^ 8 = 256 from rfl] at this
  rw [this, Nat.mod_eq_of_lt hc]
theorem xor_div (r c : Nat) (hc : c < 256) : (r ^^^ c) / 256 = r / 256 := by
  have := @Nat.xor_div_two_pow r c 8
  rw [show (2 : Nat) ^ 8 = 256 from rfl] at this
  rw [this, Nat.div_eq_of_lt hc, Nat.xor_zero]
theorem stp_eq (r c : Nat) (hc : c < 256) : stp r c = (r / 256) ^^^ T8 ((r % 256) ^^^ c) := by
  unfold stp
  conv => lhs; rw [T8_split]
  rw [xor_div _ _ hc, xor_mod _ _ hc]
theorem step_f (k r c : Nat) (hr : r < 4294967296) (hc : c < 256) (hk : 10 ≤ k) : crc_Step.f k (r : Int) (c : Int) = some ((stp r c : Nat) : Int) := by
  unfold crc_Step.f
  have hx : (r % 256) ^^^ c < 256 := Nat.xor_lt_two_pow (n := 8) (by omega) hc
  have ha : (r : Int) % 256 = ((r % 256 : Nat) : Int) := by omega
  rw [ha, u8_xor_nat _ _ (by omega) hc, w64 (by omega) (by omega), entry_f k _ hx hk]
  simp only [Option.bind_some]
  have hd : (r : Int) / 256 = ((r / 256 : Nat) : Int) := by omega
  rw [hd, u32_xor_nat _ _ (by omega) (T8_lt _ (by omega)), stp_eq r c hc]
def ONES : Nat := 4294967295
theorem ones_int : (4294967295 : Int) = ((ONES : Nat) : Int) := rfl
theorem ones_lt : ONES < 4294967296 := by decide
def not32 (x : Nat) : Nat := ONES ^^^ x
theorem not32_lt (x : Nat) (h : x < 4294967296) : not32 x < 4294967296 := Nat.xor_lt_two_pow (n := 32) ones_lt h
theorem not32_int (x : Nat) (h : x < 4294967296) : Go.bits .xor .u32 4294967295 (x : Int) = ((not32 x : Nat) : Int) := by
  rw [ones_int, u32_xor_nat ONES x ones_lt h]; rfl
theorem upd_lt : ∀ (l : List Nat) (r : Nat), r < 4294967296 → (∀ c ∈ l, c < 256) → upd r l < 4294967296
  | [], _, h, _ => h
  | c :: l, r, h, hl => upd_lt l _ (stp_lt r c h (hl c (by simp))) (fun x hx => hl x (by simp [hx]))
def ints (l : List Nat) : List Int := l.map fun (n : Nat) => (n : Int)
theorem ints_len (l : List Nat) : (ints l).length = l.length := by simp [ints]
theorem rd_ints (l : List Nat) (i : Nat) (h : i < l.length) : rd (ints l) (i : Int) = ((l.getD i 0 : Nat) : Int) := by
  unfold rd
  simp only [Int.toNat_natCast, List.getD_eq_getElem?_getD, ints, List.getElem?_map]
  rw [List.getElem?_eq_getElem h]; rfl
theorem drop_get (l : List Nat) (i : Nat) (h : i < l.length) : l.drop i = l.getD i 0 :: l.drop (i + 1) := by
  rw [List.getD_eq_getElem?_getD, List.getElem?_eq_getElem h]
  exact List.drop_eq_getElem_cons h
theorem mem_get (l : List Nat) (i : Nat) (h : i < l.length) : l.getD i 0 ∈ l := by
  rw [List.getD_eq_getElem?_getD, List.getElem?_eq_getElem h]; exact List.getElem_mem h
theorem upd_l (l : List Nat) (hl : ∀ c ∈ l, c < 256) (hm : l.length ≤ 140737488351232) : ∀ (d k i r : Nat), l.length - i = d → i ≤ l.length → r < 4294967296 → d + 11 ≤ k →
    crc_Update.l0 k (r : Int) (ints l) ((ints l).length : Int) (i : Int) = some ((not32 (upd r (l.drop i)) : Nat) : Int)
  | 0, k, i, r, hd, hi, hr, hk => by
    obtain ⟨k, rfl⟩ : ∃ m, k = m + 1 := ⟨k - 1, by omega⟩
    simp only [crc_Update.l0]
    rw [ints_len, if_neg (by omega), not32_int r hr, List.drop_eq_nil_of_le (by omega)]
    rfl
  | d + 1, k, i, r, hd, hi, hr, hk => by
    obtain ⟨k, rfl⟩ : ∃ m, k = m + 1 := ⟨k - 1, by omega⟩
    have hlt : i < l.length := by omega
    have hc := hl _ (mem_get l i hlt)
    simp only [crc_Update.l0]
    rw [ints_len, if_pos (by omega), if_pos (by omega), if_pos (by omega), rd_ints l i hlt, step_f k r _ hr hc (by omega)]
    simp only [Option.bind_some]
    rw [w64 (by omega) (by omega), drop_get l i hlt]
    have := upd_l l hl hm d k (i + 1) _ (by omega) (by omega) (stp_lt r _ hr hc) (by omega)
    rw [ints_len] at this
    exact this
theorem upd_f (l : List Nat) (hl : ∀ c ∈ l, c < 256) (hm : l.length ≤ 140737488351232) (k s : Nat) (hs : s < 4294967296) (hk : l.length + 11 ≤ k) :
    crc_Update.f k (s : Int) (ints l) = some ((not32 (upd (not32 s) l) : Nat) : Int) := by
  unfold crc_Update.f
  rw [not32_int s hs]
  exact upd_l l hl hm l.length k 0 (not32 s) (by omega) (by omega) (not32_lt s hs) hk
def sumup (s : Nat) : List (List Nat) → Nat
  | [] => s
  | l :: r => sumup (not32 (upd (not32 s) l)) r
theorem rd_L (p : List (List Nat)) (i : Nat) (h : i < p.length) : rd_L1 (p.map ints) (i : Int) = ints (p.getD i []) := by
  unfold rd_L1
  simp only [Int.toNat_natCast, List.getD_eq_getElem?_getD, List.getElem?_map]
  rw [List.getElem?_eq_getElem h]; rfl
theorem dropL_get (l : List (List Nat)) (i : Nat) (h : i < l.length) : l.drop i = l.getD i [] :: l.drop (i + 1) := by
  rw [List.getD_eq_getElem?_getD, List.getElem?_eq_getElem h]
  exact List.drop_eq_getElem_cons h
theorem memL_get (l : List (List Nat)) (i : Nat) (h : i < l.length) : l.getD i [] ∈ l := by
  rw [List.getD_eq_getElem?_getD, List.getElem?_eq_getElem h]; exact List.getElem_mem h
theorem sum_l (p : List (List Nat)) (N : Nat) (hl : ∀ l ∈ p, (∀ c ∈ l, c < 256) ∧ l.length ≤ N) (hN : N ≤ 140737488351232) (hm : p.length ≤ 140737488351232) : ∀ (d k i s : Nat), p.length - i = d → i ≤ p.length → s < 4294967296 → d + N + 12 ≤ k →
    crc_Sum.l0 k (s : Int) (p.map ints) ((p.map ints).length : Int) (i : Int) = some ((sumup s (p.drop i) : Nat) : Int)
  | 0, k, i, s, hd, hi, hs, hk => by
    obtain ⟨k, rfl⟩ : ∃ m, k = m + 1 := ⟨k - 1, by omega⟩
    simp only [crc_Sum.l0]
    rw [List.length_map, if_neg (by omega), List.drop_eq_nil_of_le (by omega)]
    rfl
  | d + 1, k, i, s, hd, hi, hs, hk => by
    obtain ⟨k, rfl⟩ : ∃ m, k = m + 1 := ⟨k - 1, by omega⟩
    have hlt : i < p.length := by omega
    obtain ⟨hc, hn⟩ := hl _ (memL_get p i hlt)
    simp only [crc_Sum.l0]
    rw [List.length_map, if_pos (by omega), if_pos (by omega), if_pos (by omega), rd_L p i hlt, upd_f _ hc (by omega) k s hs (by omega)]
    simp only [Option.bind_some]
    rw [w64 (by omega) (by omega), dropL_get p i hlt]
    have := sum_l p N hl hN hm d k (i + 1) _ (by omega) (by omega) (not32_lt _ (upd_lt _ _ (not32_lt s hs) hc)) (by omega)
    rw [List.length_map] at this
    exact this
theorem sum_f (p : List (List Nat)) (N : Nat) (hl : ∀ l ∈ p, (∀ c ∈ l, c < 256) ∧ l.length ≤ N) (hN : N ≤ 140737488351232) (hm : p.length ≤ 140737488351232) (k : Nat) (hk : p.length + N + 12 ≤ k) :
    crc_Sum.f k (p.map ints) = some ((sumup 0 p : Nat) : Int) := by
  unfold crc_Sum.f
  exact sum_l p N hl hN hm p.length k 0 0 (by omega) (by omega) (by decide) hk
/-! the reference -/
theorem rstep_l (k x i : Nat) (hx : x < 4294967296) (hi : i < 8) : rhizomeref24_Step.l0 (k + 1) (x : Int) (i : Int) = rhizomeref24_Step.l0 k ((T x : Nat) : Int) ((i + 1 : Nat) : Int) := by
  simp only [rhizomeref24_Step.l0]
  have e1 : Int.tmod (x : Int) 2 = ((x % 2 : Nat) : Int) := by rw [Int.tmod_eq_emod_of_nonneg (by omega)]; omega
  have e2 : (Int.tdiv (x : Int) 2) % 4294967296 = ((x / 2 : Nat) : Int) := by rw [Int.tdiv_eq_ediv_of_nonneg (by omega)]; omega
  rw [if_pos (by omega), e1, e2, w64 (by omega) (by omega)]
  unfold T
  by_cases h : x % 2 = 1
  · rw [if_pos (by omega), if_pos h]
    have := u32_xor_nat (x / 2) P (by omega) (by decide)
    rw [show ((P : Nat) : Int) = 3988292384 from rfl] at this
    rw [this]; rfl
  · rw [if_neg (by omega), if_neg h, Nat.xor_zero]; rfl
theorem rstep_e (k x : Nat) : rhizomeref24_Step.l0 (k + 1) (x : Int) ((8 : Nat) : Int) = some (x : Int) := by
  simp only [rhizomeref24_Step.l0]
  rw [if_neg (by omega)]
theorem rstep_f (k r c : Nat) (hr : r < 4294967296) (hc : c < 256) (hk : 10 ≤ k) : rhizomeref24_Step.f k (r : Int) (c : Int) = some ((stp r c : Nat) : Int) := by
  obtain ⟨k, rfl⟩ : ∃ m, k = m + 10 := ⟨k - 10, by omega⟩
  unfold rhizomeref24_Step.f
  have l0 : r ^^^ c < 4294967296 := Nat.xor_lt_two_pow (n := 32) hr (by omega)
  rw [show (c : Int) % 4294967296 = (c : Int) by omega, u32_xor_nat r c hr (by omega), show (0 : Int) = ((0 : Nat) : Int) from rfl]
  have l1 := T_lt _ l0; have l2 := T_lt _ l1; have l3 := T_lt _ l2; have l4 := T_lt _ l3; have l5 := T_lt _ l4; have l6 := T_lt _ l5; have l7 := T_lt _ l6
  rw [rstep_l _ _ 0 l0 (by omega), rstep_l _ _ 1 l1 (by omega), rstep_l _ _ 2 l2 (by omega), rstep_l _ _ 3 l3 (by omega), rstep_l _ _ 4 l4 (by omega), rstep_l _ _ 5 l5 (by omega), rstep_l _ _ 6 l6 (by omega), rstep_l _ _ 7 l7 (by omega), rstep_e]
  rfl
theorem xor_ones (x : Nat) (h : x < 4294967296) : not32 x = 4294967295 - x := by
  unfold not32
  apply Nat.eq_of_testBit_eq
  intro i
  rw [Nat.testBit_xor, show 4294967295 - x = 2 ^ 32 - (x + 1) by omega, Nat.testBit_two_pow_sub_succ h, show ONES = 2 ^ 32 - 1 from rfl, Nat.testBit_two_pow_sub_one]
  by_cases hi : i < 32
  · simp [hi]
  · have : x.testBit i = false := Nat.testBit_lt_two_pow (Nat.lt_of_lt_of_le (show x < 2 ^ 32 from h) (Nat.pow_le_pow_right (show 0 < 2 by decide) (show 32 ≤ i by omega)))
    simp [hi, this]
theorem rnot_int (x : Nat) (h : x < 4294967296) : (4294967295 - (x : Int)) % 4294967296 = ((not32 x : Nat) : Int) := by
  rw [xor_ones x h]; omega
theorem rupd_l (l : List Nat) (hl : ∀ c ∈ l, c < 256) (hm : l.length ≤ 140737488351232) : ∀ (d k i r : Nat), l.length - i = d → i ≤ l.length → r < 4294967296 → d + 11 ≤ k →
    rhizomeref24_Update.l0 k (ints l) (r : Int) (i : Int) = some ((not32 (upd r (l.drop i)) : Nat) : Int)
  | 0, k, i, r, hd, hi, hr, hk => by
    obtain ⟨k, rfl⟩ : ∃ m, k = m + 1 := ⟨k - 1, by omega⟩
    simp only [rhizomeref24_Update.l0]
    rw [ints_len, if_neg (by omega), rnot_int r hr, List.drop_eq_nil_of_le (by omega)]
    rfl
  | d + 1, k, i, r, hd, hi, hr, hk => by
    obtain ⟨k, rfl⟩ : ∃ m, k = m + 1 := ⟨k - 1, by omega⟩
    have hlt : i < l.length := by omega
    have hc := hl _ (mem_get l i hlt)
    simp only [rhizomeref24_Update.l0]
    rw [ints_len, if_pos (by omega), if_pos (by omega), rd_ints l i hlt, rstep_f k r _ hr hc (by omega)]
    simp only [Option.bind_some]
    rw [w64 (by omega) (by omega), drop_get l i hlt]
    exact rupd_l l hl hm d k (i + 1) _ (by omega) (by omega) (stp_lt r _ hr hc) (by omega)
theorem rupd_f (l : List Nat) (hl : ∀ c ∈ l, c < 256) (hm : l.length ≤ 140737488351232) (k s : Nat) (hs : s < 4294967296) (hk : l.length + 11 ≤ k) :
    rhizomeref24_Update.f k (s : Int) (ints l) = some ((not32 (upd (not32 s) l) : Nat) : Int) := by
  unfold rhizomeref24_Update.f
  rw [rnot_int s hs]
  exact rupd_l l hl hm l.length k 0 (not32 s) (by omega) (by omega) (not32_lt s hs) hk
theorem rsum_f (l : List Nat) (hl : ∀ c ∈ l, c < 256) (hm : l.length ≤ 140737488351232) (k : Nat) (hk : l.length + 11 ≤ k) :
    rhizomeref24_Sum.f k (ints l) = some ((not32 (upd (not32 0) l) : Nat) : Int) := by
  unfold rhizomeref24_Sum.f
  rw [show (0 : Int) = ((0 : Nat) : Int) from rfl, rupd_f l hl hm k 0 (by decide) hk]
  rfl
theorem rentry_f (k : Nat) (i : Int) (hk : 10 ≤ k) : rhizomeref24_Entry.f k i = crc_Entry.f k i := by
  unfold rhizomeref24_Entry.f
  by_cases h0 : i < 0
  · rw [if_pos h0, entry_out k i (.inl h0) (by omega)]
  · rw [if_neg h0]
    by_cases h1 : i > 255
    · rw [if_pos h1, entry_out k i (.inr h1) (by omega)]
    · rw [if_neg h1]
      obtain ⟨n, rfl⟩ := Int.eq_ofNat_of_zero_le (show 0 ≤ i by omega)
      rw [show (n : Int) % 4294967296 = (n : Int) by omega, show (0 : Int) = ((0 : Nat) : Int) from rfl, rstep_f k n 0 (by omega) (by decide) hk, entry_f k n (by omega) hk]
      unfold stp
      rw [Nat.xor_zero]; rfl
theorem entry_some (k : Nat) (i : Int) (hk : 10 ≤ k) : ∃ v, crc_Entry.f k i = some v := by
  by_cases h0 : i < 0
  · exact ⟨_, entry_out k i (.inl h0) (by omega)⟩
  · by_cases h1 : 255 < i
    · exact ⟨_, entry_out k i (.inr h1) (by omega)⟩
    · obtain ⟨n, rfl⟩ := Int.eq_ofNat_of_zero_le (show 0 ≤ i by omega)
      exact ⟨_, entry_f k n (by omega) hk⟩
theorem upd_app : ∀ (l m : List Nat) (r : Nat), upd r (l ++ m) = upd (upd r l) m
  | [], _, _ => rfl
  | c :: l, m, r => upd_app l m (stp r c)
theorem xor_twice (a x : Nat) : a ^^^ (a ^^^ x) = x := by
  rw [← Nat.xor_assoc, Nat.xor_self, Nat.zero_xor]
theorem not_eq (y : Nat) : not32 y = ONES ^^^ y := rfl
theorem not_not (x : Nat) : not32 (not32 x) = x := by
  rw [not_eq, not_eq]
  exact xor_twice ONES x
/-- A slice of bytes, as a list of numbers below 256. -/
theorem bytes_of (l : List Int) (h : ∀ x ∈ l, (Lit.int .u8 x).wf = true) : ∃ n : List Nat, l = ints n ∧ (∀ c ∈ n, c < 256) ∧ n.length = l.length := by
  refine ⟨l.map Int.toNat, ?_, ?_, by simp⟩
  · unfold ints
    rw [List.map_map]
    conv => lhs; rw [← List.map_id l]
    apply List.map_congr_left
    intro x hx
    have := bounds_u8 (h x hx)
    show x = ((x.toNat : Nat) : Int)
    omega
  · intro c hc
    obtain ⟨x, hx, rfl⟩ := List.mem_map.1 hc
    have := bounds_u8 (h x hx)
    omega
end Go.Proofs.Ytainbolgfnghnaa.CrcF

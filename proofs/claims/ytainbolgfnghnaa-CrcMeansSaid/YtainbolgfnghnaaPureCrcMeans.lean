/- For any three slices of bytes, any word and any two numbers the checksum goes on from part to part, respects xor, and tells bytes that differ in a run of 32 bits from one another. No condition. -/
import Derived.Test.YtainbolgfnghnaaCrcFns
import Derived.Test.YtainbolgfnghnaaCrcLin
import Derived.Test.YtainbolgfnghnaaPCrcx3
namespace Go.Proofs.Ytainbolgfnghnaa.Pure
set_option linter.unusedVariables false
open Go.RowKit Go.Proofs.Ytainbolgfnghnaa.PCrc Go.Proofs.YtainbolgfnghnaaW.PrintWords Go.Proofs.YtainbolgfnghnaaW.PrintLast Go.Proofs.YtainbolgfnghnaaW.PrintMore Go.Proofs.Ytainbolgfnghnaa.CrcF Go.Proofs.CrcM

theorem known_m : rhizomelaw24_known.f = some true := rfl
theorem not0 : not32 0 = ONES := by decide
theorem not32_inj (a b : Nat) (h : not32 a = not32 b) : a = b := by
  have := congrArg not32 h
  rwa [not_not, not_not] at this
theorem setInts (l : List Nat) (i n : Nat) : (ints l).set i (n : Int) = ints (l.set i n) := by simp [ints, List.map_set]
theorem sum1 (l : List Nat) (hl : ∀ c ∈ l, c < 256) (hm : l.length ≤ 3000) (k : Nat) (hk : 4000 ≤ k) : crc_Sum.f k [ints l] = some ((not32 (upd ONES l) : Nat) : Int) := by
  have h := sum_f [l] l.length (by intro x hx; simp at hx; subst hx; exact ⟨hl, Nat.le_refl _⟩) (by omega) (by simp) k (by simp; omega)
  rw [← not0]; exact h
/-- One round of the second loop. -/
theorem l1_round (k : Nat) (a : List Int) (p i B : Nat) (x : List Nat) (hi : i < 5) (hlt : p + i < x.length) (hx : ∀ c ∈ x, c < 256) (hn : x.length ≤ 3000) :
    rhizomelaw24_CrcMeans.l1 (k + 1) a (p : Int) (ints x) (B : Int) (i : Int) = rhizomelaw24_CrcMeans.l1 k a (p : Int) (ints (x.set (p + i) (x.getD (p + i) 0 ^^^ (B / 2 ^ (8 * i) % 256)))) (B : Int) ((i + 1 : Nat) : Int) := by
  have e1 : wrap64 ((p : Int) + (i : Int)) = ((p + i : Nat) : Int) := by rw [w64 (by omega) (by omega)]; omega
  have e2 : IntKind.u64.wrap (wrap64 (8 * (i : Int))) = ((8 * i : Nat) : Int) := by rw [w64 (by omega) (by omega)]; simp [IntKind.wrap, IntKind.bits, IntKind.signed]; omega
  have e3 : wrap64 ((i : Int) + 1) = ((i + 1 : Nat) : Int) := by rw [w64 (by omega) (by omega)]; omega
  have e4 : shr .u64 (B : Int) ((8 * i : Nat) : Int) % 256 = ((B / 2 ^ (8 * i) % 256 : Nat) : Int) := by
    unfold shr
    rw [Int.toNat_natCast, show min (8 * i) IntKind.u64.bits = 8 * i by simp [IntKind.bits]; omega]
    generalize 8 * i = j
    rw [show ((2 : Int) ^ j) = ((2 ^ j : Nat) : Int) from (Int.natCast_pow 2 j).symm]
    omega
  simp only [rhizomelaw24_CrcMeans.l1]
  rw [if_pos (by omega), e1, e2, e3, e4, if_pos (by omega), ints_len, if_pos (by omega), if_pos (by omega), rd_ints x _ hlt, u8_xor_nat _ _ (hx _ (mem_get x _ hlt)) (Nat.mod_lt _ (by decide)), Int.toNat_natCast, setInts]
theorem l1_end (k : Nat) (p B : Nat) (m x : List Nat) (hm : ∀ c ∈ m, c < 256) (hx : ∀ c ∈ x, c < 256) (hn : m.length ≤ 3000) (hl : x.length ≤ 3000) (hk : 4000 ≤ k) (hne : upd ONES x ≠ upd ONES m) :
    rhizomelaw24_CrcMeans.l1 (k + 1) (ints m) (p : Int) (ints x) (B : Int) ((5 : Nat) : Int) = some true := by
  simp only [rhizomelaw24_CrcMeans.l1]
  rw [if_neg (by omega), sum1 x hx hl k hk]
  simp only [Option.bind_some]
  rw [sum1 m hm hn k hk]
  simp only [Option.bind_some]
  have : ((not32 (upd ONES x) : Nat) : Int) ≠ ((not32 (upd ONES m) : Nat) : Int) := fun h => hne (not32_inj _ _ (by omega))
  simp [this]
theorem upd_run (p q : List Nat) (c0 c1 c2 c3 c4 d0 d1 d2 d3 d4 : Nat) (hd : upd 0 [d0, d1, d2, d3, d4] ≠ 0) (hlt : upd 0 [d0, d1, d2, d3, d4] < 4294967296) (r : Nat) :
    upd r (p ++ (c0 ^^^ d0) :: (c1 ^^^ d1) :: (c2 ^^^ d2) :: (c3 ^^^ d3) :: (c4 ^^^ d4) :: q) ≠ upd r (p ++ c0 :: c1 :: c2 :: c3 :: c4 :: q) := by
  rw [upd_app, upd_app]
  generalize upd r p = R
  have z := upd_zip [c0, c1, c2, c3, c4] [d0, d1, d2, d3, d4] R 0 rfl
  rw [Nat.xor_zero] at z
  have e1 : upd R ((c0 ^^^ d0) :: (c1 ^^^ d1) :: (c2 ^^^ d2) :: (c3 ^^^ d3) :: (c4 ^^^ d4) :: q) = upd (upd R (List.zipWith (fun a b => a ^^^ b) [c0, c1, c2, c3, c4] [d0, d1, d2, d3, d4])) q := rfl
  have e2 : upd R (c0 :: c1 :: c2 :: c3 :: c4 :: q) = upd (upd R [c0, c1, c2, c3, c4]) q := rfl
  rw [e1, e2, z]
  have zq : ∀ l : List Nat, List.zipWith (fun a b => a ^^^ b) l (List.replicate l.length 0) = l := by
    intro l
    induction l with
    | nil => rfl
    | cons a l ih => rw [List.length_cons, List.replicate_succ, List.zipWith_cons_cons, ih, Nat.xor_zero]
  have y := upd_zip q (List.replicate q.length 0) (upd R [c0, c1, c2, c3, c4]) (upd 0 [d0, d1, d2, d3, d4]) (by simp)
  rw [zq] at y
  rw [y]
  intro h
  have h2 : upd (upd R [c0, c1, c2, c3, c4]) q ^^^ upd (upd 0 [d0, d1, d2, d3, d4]) (List.replicate q.length 0) = upd (upd R [c0, c1, c2, c3, c4]) q ^^^ 0 := by rw [h, Nat.xor_zero]
  exact hd (upd_zeros_ker _ _ hlt (xor_cancel_left _ _ _ h2))
theorem getP (P l : List Nat) (i : Nat) : (P ++ l).getD (P.length + i) 0 = l.getD i 0 := by
  simp [List.getD_eq_getElem?_getD, List.getElem?_append_right (Nat.le_add_right P.length i)]
theorem setP (P l : List Nat) (i v : Nat) : (P ++ l).set (P.length + i) v = P ++ l.set i v := by
  rw [List.set_append_right _ _ (Nat.le_add_right _ _)]; simp
theorem dec (m : List Nat) (p : Nat) (h : p + 5 ≤ m.length) : ∃ P c0 c1 c2 c3 c4 q, m = P ++ c0 :: c1 :: c2 :: c3 :: c4 :: q ∧ P.length = p := by
  have e := (List.take_append_drop p m).symm
  rw [drop_get m p (by omega), drop_get m (p + 1) (by omega), drop_get m (p + 1 + 1) (by omega), drop_get m (p + 1 + 1 + 1) (by omega), drop_get m (p + 1 + 1 + 1 + 1) (by omega)] at e
  exact ⟨m.take p, _, _, _, _, _, _, e, by simp; omega⟩
theorem l1_f (P q : List Nat) (c0 c1 c2 c3 c4 B run s : Nat) (hP : ∀ c ∈ P, c < 256) (hq : ∀ c ∈ q, c < 256) (h0 : c0 < 256) (h1 : c1 < 256) (h2 : c2 < 256) (h3 : c3 < 256) (h4 : c4 < 256)
    (hn : (P ++ c0 :: c1 :: c2 :: c3 :: c4 :: q).length ≤ 3000) (hr : run < 4294967296) (hr0 : run ≠ 0) (hs : s ≤ 7) (hB : B = run * 2 ^ s) (k : Nat) (hk : 4000 ≤ k) :
    rhizomelaw24_CrcMeans.l1 (k + 1 + 1 + 1 + 1 + 1 + 1) (ints (P ++ c0 :: c1 :: c2 :: c3 :: c4 :: q)) ((P.length : Nat) : Int) (ints (P ++ c0 :: c1 :: c2 :: c3 :: c4 :: q)) (B : Int) ((0 : Nat) : Int) = some true := by
  have hlen : (P ++ c0 :: c1 :: c2 :: c3 :: c4 :: q).length = P.length + q.length + 5 := by simp; omega
  rw [hlen] at hn
  have lt : ∀ c d : Nat, c < 256 → c ^^^ (d % 256) < 256 := fun c d h => Nat.xor_lt_two_pow (n := 8) h (Nat.mod_lt _ (by decide))
  have g0 := lt c0 (B / 2 ^ (8 * 0)) h0; have g1 := lt c1 (B / 2 ^ (8 * 1)) h1; have g2 := lt c2 (B / 2 ^ (8 * 2)) h2; have g3 := lt c3 (B / 2 ^ (8 * 3)) h3; have g4 := lt c4 (B / 2 ^ (8 * 4)) h4
  have all : ∀ a b c d e : Nat, a < 256 → b < 256 → c < 256 → d < 256 → e < 256 → ∀ x ∈ P ++ a :: b :: c :: d :: e :: q, x < 256 := by
    intro a b c d e ha hb hc hd he x hx
    simp only [List.mem_append, List.mem_cons] at hx
    rcases hx with h | rfl | rfl | rfl | rfl | rfl | h
    · exact hP _ h
    · exact ha
    · exact hb
    · exact hc
    · exact hd
    · exact he
    · exact hq _ h
  have hB2 : B < 4294967296 * 128 := by
    have := Nat.pow_le_pow_right (show 0 < 2 by decide) hs
    rw [hB]; exact Nat.lt_of_lt_of_le (Nat.mul_lt_mul_of_pos_right hr (Nat.two_pow_pos s)) (Nat.mul_le_mul_left _ this)
  rw [l1_round _ _ _ 0 B _ (by decide) (by rw [hlen]; omega) (all _ _ _ _ _ h0 h1 h2 h3 h4) (by rw [hlen]; omega), getP, setP]
  simp only [List.getD_cons_zero, List.set_cons_zero]
  rw [l1_round _ _ _ (0 + 1) B _ (by decide) (by simp) (all _ _ _ _ _ g0 h1 h2 h3 h4) (by simp; omega), getP, setP]
  simp only [List.getD_cons_zero, List.getD_cons_succ, List.set_cons_zero, List.set_cons_succ]
  rw [l1_round _ _ _ (0 + 1 + 1) B _ (by decide) (by simp) (all _ _ _ _ _ g0 g1 h2 h3 h4) (by simp; omega), getP, setP]
  simp only [List.getD_cons_zero, List.getD_cons_succ, List.set_cons_zero, List.set_cons_succ]
  rw [l1_round _ _ _ (0 + 1 + 1 + 1) B _ (by decide) (by simp) (all _ _ _ _ _ g0 g1 g2 h3 h4) (by simp; omega), getP, setP]
  simp only [List.getD_cons_zero, List.getD_cons_succ, List.set_cons_zero, List.set_cons_succ]
  rw [l1_round _ _ _ (0 + 1 + 1 + 1 + 1) B _ (by decide) (by simp) (all _ _ _ _ _ g0 g1 g2 g3 h4) (by simp; omega), getP, setP]
  simp only [List.getD_cons_zero, List.getD_cons_succ, List.set_cons_zero, List.set_cons_succ]
  refine l1_end _ _ _ _ _ (all _ _ _ _ _ h0 h1 h2 h3 h4) (all _ _ _ _ _ g0 g1 g2 g3 g4) (by rw [hlen]; exact hn) (by simp; omega) hk ?_
  have hd : [B / 2 ^ (8 * 0) % 256, B / 2 ^ (8 * (0 + 1)) % 256, B / 2 ^ (8 * (0 + 1 + 1)) % 256, B / 2 ^ (8 * (0 + 1 + 1 + 1)) % 256, B / 2 ^ (8 * (0 + 1 + 1 + 1 + 1)) % 256] = [B % 256, B / 256 % 256, B / 65536 % 256, B / 16777216 % 256, B / 4294967296] := by
    simp; omega
  refine upd_run P q c0 c1 c2 c3 c4 _ _ _ _ _ ?_ (upd_lt _ _ (by decide) ?_) ONES
  · rw [hd]
    exact fun h => hr0 (five run s hr hs B hB h)
  · intro c hc
    simp only [List.mem_cons, List.not_mem_nil, or_false] at hc
    rcases hc with rfl | rfl | rfl | rfl | rfl <;> exact Nat.mod_lt _ (by decide)
theorem wrapu (n : Nat) (h : n < 18446744073709551616) : IntKind.u64.wrap (n : Int) = (n : Int) := by
  simp [IntKind.wrap, IntKind.bits, IntKind.signed]; omega
theorem j2_f (m : List Nat) (hm : ∀ c ∈ m, c < 256) (hn : m.length ≤ 3000) (x3 x4 x5 : Int) (b3 : 0 ≤ x3 ∧ x3 < 4294967296) (fl : Bool) (hb : fl = false → x3 ≠ 0 ∧ 0 ≤ x4 ∧ x4 ≤ 7 ∧ 0 ≤ x5 ∧ x5 ≤ (m.length : Int) - 5) (k : Nat) (hk : 4010 ≤ k) :
    rhizomelaw24_CrcMeans.j2 k (ints m) x3 x4 x5 fl = some true := by
  obtain ⟨k, rfl⟩ : ∃ j, k = j + 1 + 1 + 1 + 1 + 1 + 1 + 1 := ⟨k - 7, by omega⟩
  cases fl with
  | true => simp only [rhizomelaw24_CrcMeans.j2]; rfl
  | false =>
    obtain ⟨n3, g0, g7, p0, p1⟩ := hb rfl
    obtain ⟨run, rfl⟩ := Int.eq_ofNat_of_zero_le b3.1
    obtain ⟨s, rfl⟩ := Int.eq_ofNat_of_zero_le g0
    obtain ⟨p, rfl⟩ := Int.eq_ofNat_of_zero_le p0
    have hB2 : run * 2 ^ s < 4294967296 * 128 := by
      have := Nat.pow_le_pow_right (show 0 < 2 by decide) (show s ≤ 7 by omega)
      exact Nat.lt_of_lt_of_le (Nat.mul_lt_mul_of_pos_right (show run < 4294967296 by omega) (Nat.two_pow_pos s)) (Nat.mul_le_mul_left _ this)
    have e1 : shl .u64 (run : Int) (s : Int) = ((run * 2 ^ s : Nat) : Int) := by
      unfold shl
      rw [Int.toNat_natCast, show min s IntKind.u64.bits = s by simp [IntKind.bits]; omega, show ((run : Int) * 2 ^ s) = ((run * 2 ^ s : Nat) : Int) by rw [Int.natCast_mul, Int.natCast_pow]; rfl, wrapu _ (by omega)]
    obtain ⟨P, c0, c1, c2, c3, c4, q, rfl, rfl⟩ := dec m p (by omega)
    rw [rhizomelaw24_CrcMeans.j2]
    rw [if_neg (by decide), if_pos (by rw [ints_len]; simp at hn ⊢; omega), wrapu s (by omega), if_pos (by omega), wrapu run (by omega), e1, List.nil_append]
    refine l1_f P q c0 c1 c2 c3 c4 _ run s ?_ ?_ ?_ ?_ ?_ ?_ ?_ hn (by omega) (by omega) (by omega) rfl k (by omega)
    · intro c hc; exact hm c (by simp [hc])
    · intro c hc; exact hm c (by simp [hc])
    · exact hm _ (by simp)
    · exact hm _ (by simp)
    · exact hm _ (by simp)
    · exact hm _ (by simp)
    · exact hm _ (by simp)
def X3 (a b c : List Nat) : List Nat := List.zipWith (fun x y => x ^^^ y) (List.zipWith (fun x y => x ^^^ y) a b) c
theorem zip_lt : ∀ (l m : List Nat), (∀ c ∈ l, c < 256) → (∀ c ∈ m, c < 256) → ∀ x ∈ List.zipWith (fun a b => a ^^^ b) l m, x < 256
  | [], _, _, _, x, h => by simp at h
  | _ :: _, [], _, _, x, h => by simp at h
  | a :: l, b :: m, hl, hm, x, h => by
    rw [List.zipWith_cons_cons, List.mem_cons] at h
    rcases h with rfl | h
    · exact Nat.xor_lt_two_pow (n := 8) (hl a (by simp)) (hm b (by simp))
    · exact zip_lt l m (fun c hc => hl c (by simp [hc])) (fun c hc => hm c (by simp [hc])) x h
theorem not3 (A B C : Nat) : not32 ((A ^^^ B) ^^^ C) = (not32 A ^^^ not32 B) ^^^ not32 C := by
  have h : not32 A ^^^ not32 B = A ^^^ B := by unfold not32; rw [xac, Nat.xor_self, Nat.zero_xor]
  rw [h]; unfold not32
  generalize A ^^^ B = X
  rw [← Nat.xor_assoc, Nat.xor_comm ONES X, Nat.xor_assoc]
theorem sum3 (a b c : List Nat) (h1 : a.length = b.length) (h2 : a.length = c.length) : not32 (upd ONES (X3 a b c)) = (not32 (upd ONES a) ^^^ not32 (upd ONES b)) ^^^ not32 (upd ONES c) := by
  have e1 := upd_zip a b ONES ONES h1
  have e2 := upd_zip (List.zipWith (fun x y => x ^^^ y) a b) c (ONES ^^^ ONES) ONES (by rw [List.length_zipWith]; omega)
  rw [e1, show (ONES ^^^ ONES) ^^^ ONES = ONES by decide] at e2
  show not32 (upd ONES (List.zipWith _ (List.zipWith _ a b) c)) = _
  rw [e2, not3]
theorem l0_f (a b c : List Nat) (ha : ∀ x ∈ a, x < 256) (hb : ∀ x ∈ b, x < 256) (hc : ∀ x ∈ c, x < 256) (na : a.length ≤ 3000) (nb : b.length ≤ 3000) (nc : c.length ≤ 3000) (n : Nat) (n1 : n ≤ a.length) (n2 : n ≤ b.length) (n3 : n ≤ c.length)
    (x3 x4 x5 : Int) (b3 : 0 ≤ x3 ∧ x3 < 4294967296) : ∀ (d k i : Nat), n - i = d → i ≤ n → 4020 + d ≤ k →
    rhizomelaw24_CrcMeans.l0 k (ints a) (ints b) (ints c) x3 x4 x5 (n : Int) (ints ((X3 (a.take n) (b.take n) (c.take n)).take i ++ List.replicate (n - i) 0)) (i : Int) = some true := by
  have ta : (a.take n).length = n := by rw [List.length_take]; omega
  have tb : (b.take n).length = n := by rw [List.length_take]; omega
  have tc : (c.take n).length = n := by rw [List.length_take]; omega
  have la : ∀ x ∈ a.take n, x < 256 := fun x h => ha x (List.mem_of_mem_take h)
  have lb : ∀ x ∈ b.take n, x < 256 := fun x h => hb x (List.mem_of_mem_take h)
  have lc : ∀ x ∈ c.take n, x < 256 := fun x h => hc x (List.mem_of_mem_take h)
  have hX : (X3 (a.take n) (b.take n) (c.take n)).length = n := by unfold X3; rw [List.length_zipWith, List.length_zipWith]; omega
  have lX : ∀ x ∈ X3 (a.take n) (b.take n) (c.take n), x < 256 := zip_lt _ _ (zip_lt _ _ la lb) lc
  have tk : ∀ l : List Nat, (ints l).take n = ints (l.take n) := fun l => by simp [ints, List.map_take]
  intro d
  induction d with
  | zero =>
    intro k i hd hi hk
    obtain ⟨k, rfl⟩ : ∃ j, k = j + 1 := ⟨k - 1, by omega⟩
    obtain rfl : i = n := by omega
    rw [Nat.sub_self, List.replicate_zero, List.append_nil, List.take_of_length_le (by omega)]
    rw [rhizomelaw24_CrcMeans.l0]
    rw [if_neg (by omega), sum1 _ lX (by omega) k (by omega)]
    simp only [Option.bind_some]
    rw [if_pos (by omega), ints_len, if_pos (by omega), Int.toNat_natCast, tk, sum1 _ la (by omega) k (by omega)]
    simp only [Option.bind_some]
    rw [ints_len, if_pos (by omega), tk, sum1 _ lb (by omega) k (by omega)]
    simp only [Option.bind_some]
    rw [ints_len, if_pos (by omega), tk, sum1 _ lc (by omega) k (by omega)]
    simp only [Option.bind_some]
    have q : ∀ l : List Nat, (∀ x ∈ l, x < 256) → not32 (upd ONES l) < 4294967296 := fun l h => not32_lt _ (upd_lt l _ ones_lt h)
    rw [u32_xor_nat _ _ (q _ la) (q _ lb), u32_xor_nat _ _ (Nat.xor_lt_two_pow (n := 32) (q _ la) (q _ lb)) (q _ lc), sum3 _ _ _ (by omega) (by omega), if_pos rfl]
    have jt := j2_f a ha na x3 x4 x5 b3 true (by simp) k (by omega)
    by_cases h3 : x3 = 0
    · rw [if_pos h3]; exact jt
    rw [if_neg h3]
    by_cases h4 : x4 < 0
    · rw [if_pos h4]; exact jt
    rw [if_neg h4]
    by_cases h5 : x4 > 7
    · rw [if_pos h5]; exact jt
    rw [if_neg h5]
    by_cases h6 : x5 < 0
    · rw [if_pos h6]; exact jt
    rw [if_neg h6, w64 (by omega) (by omega)]
    exact j2_f a ha na x3 x4 x5 b3 _ (fun h => by have := of_decide_eq_false h; omega) k (by omega)
  | succ d ih =>
    intro k i hd hi hk
    obtain ⟨k, rfl⟩ : ∃ j, k = j + 1 := ⟨k - 1, by omega⟩
    have hl : (X3 (a.take n) (b.take n) (c.take n)).take i = (X3 (a.take n) (b.take n) (c.take n)).take i := rfl
    have hti : ((X3 (a.take n) (b.take n) (c.take n)).take i).length = i := by rw [List.length_take]; omega
    have g : ∀ l : List Nat, n ≤ l.length → (l.take n)[i]? = some (l.getD i 0) := by
      intro l h
      rw [List.getElem?_take_of_lt (by omega), List.getD_eq_getElem?_getD, List.getElem?_eq_getElem (by omega)]; rfl
    have gx : (X3 (a.take n) (b.take n) (c.take n))[i]? = some ((a.getD i 0 ^^^ b.getD i 0) ^^^ c.getD i 0) := by
      unfold X3
      rw [List.getElem?_zipWith, List.getElem?_zipWith, g a n1, g b n2, g c n3]
    have st : ((X3 (a.take n) (b.take n) (c.take n)).take i ++ List.replicate (n - i) 0).set i ((a.getD i 0 ^^^ b.getD i 0) ^^^ c.getD i 0) = (X3 (a.take n) (b.take n) (c.take n)).take (i + 1) ++ List.replicate (n - (i + 1)) 0 := by
      rw [show n - i = (n - (i + 1)) + 1 by omega, List.replicate_succ]
      have e := setP ((X3 (a.take n) (b.take n) (c.take n)).take i) (0 :: List.replicate (n - (i + 1)) 0) 0 ((a.getD i 0 ^^^ b.getD i 0) ^^^ c.getD i 0)
      rw [hti] at e
      refine Eq.trans e ?_
      rw [List.take_add_one, gx]
      simp
    rw [rhizomelaw24_CrcMeans.l0]
    have z8 := ha _ (mem_get a i (by omega)); have z9 := hb _ (mem_get b i (by omega)); have z7 := hc _ (mem_get c i (by omega))
    rw [if_pos (by omega), if_pos (by omega), if_pos (by rw [ints_len]; omega), if_pos (by rw [ints_len]; omega), if_pos (by rw [ints_len]; omega), if_pos (by rw [ints_len, List.length_append, hti, List.length_replicate]; omega)]
    rw [rd_ints a i (by omega), rd_ints b i (by omega), rd_ints c i (by omega), u8_xor_nat _ _ z8 z9, u8_xor_nat _ _ (Nat.xor_lt_two_pow (n := 8) z8 z9) z7, Int.toNat_natCast, setInts, st, w64 (by omega) (by omega)]
    exact ih k (i + 1) (by omega) (by omega) (by omega)
theorem CrcMeans : rhizomelaw24_CrcMeans.Pure := by
  intro l0 l1 l2 a3 a4 a5 hm0 hy0 hw0 hm1 hy1 hw1 hm2 hy2 hw2 h3 h4 h5
  obtain ⟨m0, rfl, hc0, hn0⟩ := bytes_of l0 hw0
  obtain ⟨m1, rfl, hc1, hn1⟩ := bytes_of l1 hw1
  obtain ⟨m2, rfl, hc2, hn2⟩ := bytes_of l2 hw2
  have b3 := bounds_u32 h3
  refine ⟨10000 + 1, ?_⟩
  have hj : ∀ b : Bool, (b = false → m0.length ≤ 3000 ∧ m1.length ≤ 3000 ∧ m2.length ≤ 3000) → rhizomelaw24_CrcMeans.j0 (10000 + 1) (ints m0) (ints m1) (ints m2) a3 a4 a5 b = some true := by
    intro b hb
    rw [rhizomelaw24_CrcMeans.j0]
    cases b with
    | true => rfl
    | false =>
      obtain ⟨q0, q1, q2⟩ := hb rfl
      rw [if_neg (by decide), sum1 m0 hc0 q0 _ (by omega)]
      have l0 := not32_lt _ (upd_lt m0 _ ones_lt hc0)
      simp only [Option.bind_some]
      rw [upd_f m1 hc1 (by omega) _ _ l0 (by omega), not_not]
      simp only [Option.bind_some]
      have l1 := not32_lt _ (upd_lt m1 _ (upd_lt m0 _ ones_lt hc0) hc1)
      rw [upd_f m2 hc2 (by omega) _ _ l1 (by omega), not_not]
      simp only [Option.bind_some]
      have hs := sum_f [m0, m1, m2] 3000 (by intro l hl; simp at hl; rcases hl with rfl | rfl | rfl; exact ⟨hc0, q0⟩; exact ⟨hc1, q1⟩; exact ⟨hc2, q2⟩) (by omega) (by simp) 10000 (by simp)
      have e : sumup 0 [m0, m1, m2] = not32 (upd (upd (upd ONES m0) m1) m2) := by
        show not32 (upd (not32 (not32 (upd (not32 (not32 (upd (not32 0) m0))) m1))) m2) = _
        rw [not_not, not_not, not0]
      rw [e] at hs
      rw [show ([ints m0, ints m1, ints m2] : List (List Int)) = [m0, m1, m2].map ints from rfl, hs]
      simp only [Option.bind_some]
      rw [if_pos trivial]
      have em : mn (mn ((ints m0).length : Int) ((ints m1).length : Int)) ((ints m2).length : Int) = ((min (min m0.length m1.length) m2.length : Nat) : Int) := by
        rw [ints_len, ints_len, ints_len]; unfold mn; split <;> split <;> omega
      rw [em]
      rw [if_pos (by omega), Int.toNat_natCast, if_pos (by omega)]
      have h := l0_f m0 m1 m2 hc0 hc1 hc2 q0 q1 q2 (min (min m0.length m1.length) m2.length) (by omega) (by omega) (by omega) a3 a4 a5 (by omega) _ 10000 0 rfl (by omega) (by omega)
      rw [List.take_zero, List.nil_append, Nat.sub_zero] at h
      have er : ∀ n : Nat, ints (List.replicate n 0) = List.replicate n (0 : Int) := fun n => by simp [ints]
      rw [er] at h
      exact h
  unfold rhizomelaw24_CrcMeans.f
  rw [known_m]
  simp only [Option.bind_some, if_true]
  rw [ints_len, ints_len, ints_len]
  split
  · exact hj true (by simp)
  · split
    · exact hj true (by simp)
    · rename_i q r
      exact hj _ (fun h => by have := of_decide_eq_false h; omega)
end Go.Proofs.Ytainbolgfnghnaa.Pure

import Derived.Test.YtpbphelaeleikaaGreatDoorXtTermTag
import Derived.Test.YtpbphelaeleikaaGreatDoorXtPLtx0
import Derived.Test.YtpbphelaeleikaaGreatDoorXtPLtx1
import Derived.Test.YtpbphelaeleikaaGreatDoorXtPLtx2
import Derived.Test.YtpbphelaeleikaaGreatDoorXtPLtx3
import Derived.Test.YtpbphelaeleikaaGreatDoorXtPLtx4
import Derived.Test.YtpbphelaeleikaaGreatDoorXtPLtx5
import Derived.Test.YtpbphelaeleikaaGreatDoorXtPLtx6
import Derived.Test.YtpbphelaeleikaaGreatDoorXtPLtx7
import Derived.Test.YtpbphelaeleikaaGreatDoorXtPLtx8
import Derived.Test.YtpbphelaeleikaaGreatDoorXtPLtx9
import Derived.Test.YtpbphelaeleikaaGreatDoorXtPLtx10
import Derived.Test.YtpbphelaeleikaaGreatDoorXtPLtx11
import Derived.Test.YtpbphelaeleikaaGreatDoorXtPLtx12
import Derived.Test.YtpbphelaeleikaaGreatDoorXtPLtx13
import Derived.Test.YtpbphelaeleikaaGreatDoorXtPLtx14
import Derived.Test.YtpbphelaeleikaaGreatDoorXtPLtx15
import Derived.Test.YtpbphelaeleikaaGreatDoorXtPLtx16
import Derived.Test.YtpbphelaeleikaaGreatDoorXtPLtx17
import Derived.Test.YtpbphelaeleikaaGreatDoorXtPLtx18
import Derived.Test.YtpbphelaeleikaaGreatDoorXtPLtx19
import Derived.Test.YtpbphelaeleikaaGreatDoorXtPLtx20
namespace Go.Proofs.YtpbphelaeleikaaGreatDoor.PLt
open Go.RowKit Go.Proofs.YtpbphelaeleikaaGreatDoorW.PrintWords Go.Proofs.YtpbphelaeleikaaGreatDoorW.PrintLast Go.Proofs.YtpbphelaeleikaaGreatDoorW.PrintMore
set_option linter.unusedVariables false
set_option linter.unusedSimpArgs false
set_option maxRecDepth 10000
theorem wn1 {n : Nat} (h : n ≤ 100000) : wrap64 ((n : Int) + 1) = ((n + 1 : Nat) : Int) := by rw [w64n (by omega) (by omega)]; omega
theorem wnk {n : Nat} (c : Nat) (h : n ≤ 100000) (hc : c ≤ 100000) : wrap64 ((n : Int) + (c : Int)) = ((n + c : Nat) : Int) := by rw [w64n (by omega) (by omega)]; omega
theorem skip_tot (s : ByteArray) (hs : s.size ≤ 20000) : ∀ (d a : Nat), s.size - a ≤ d → a ≤ s.size →
  (∀ k, 4 * d + 4 ≤ k → ∃ r : Nat, g4_Skip.l0 k s a = some (r : Int) ∧ a ≤ r ∧ r ≤ s.size) ∧ (∀ k, 4 * d + 6 ≤ k → ∃ r : Nat, g4_Skip.l1 k s a = some (r : Int) ∧ a ≤ r ∧ r ≤ s.size)
 | 0, a, hd, ha => by
  have e : a = s.size := by omega
  subst e
  refine ⟨fun k hk => ?_, fun k hk => ?_⟩
  ·obtain ⟨k, rfl⟩ : ∃ m, k = m + 1 := ⟨k - 1, by omega⟩
   simp only [g4_Skip.l0]
   rw [if_neg (by omega)]
   exact ⟨_, rfl, by omega, by omega⟩
  ·obtain ⟨k, rfl⟩ : ∃ m, k = m + 2 := ⟨k - 2, by omega⟩
   rw [g4_Skip.l1, if_neg (by omega), g4_Skip.l0, if_neg (by omega)]
   exact ⟨_, rfl, by omega, by omega⟩
 | d + 1, a, hd, ha => by
  by_cases he : a = s.size
  ·obtain ⟨h1, h2⟩ := skip_tot s hs 0 a (by omega) ha
   exact ⟨fun k hk => h1 k (by omega), fun k hk => h2 k (by omega)⟩
  have hlt : a < s.size := by omega
  obtain ⟨i1, i2⟩ := skip_tot s hs d (a + 1) (by omega) (by omega)
  have l0 : ∀ k, 4 * (d + 1) + 4 ≤ k → ∃ r : Nat, g4_Skip.l0 k s a = some (r : Int) ∧ a ≤ r ∧ r ≤ s.size := fun k hk => by
   obtain ⟨k, rfl⟩ : ∃ m, k = m + 2 := ⟨k - 2, by omega⟩
   rw [g4_Skip.l0]
   rw [if_pos (by omega), if_pos (by omega)]
   by_cases c : bt s a = 35
   ·rw [if_pos c, g4_Skip.l1, if_pos (by omega), if_pos (by omega), if_neg (by omega), wn1 (by omega)]
    obtain ⟨r, h1, h2, h3⟩ := i2 k (by omega)
    exact ⟨r, h1, by omega, h3⟩
   ·rw [if_neg c, wn1 (by omega)]
    obtain ⟨r, h1, h2, h3⟩ := i1 (k + 1) (by omega)
    repeat' split
    all_goals first
     | exact ⟨r, h1, by omega, h3⟩
     | exact ⟨a, rfl, by omega, by omega⟩
  refine ⟨l0, fun k hk => ?_⟩
  obtain ⟨k, rfl⟩ : ∃ m, k = m + 1 := ⟨k - 1, by omega⟩
  rw [g4_Skip.l1, if_pos (by omega), if_pos (by omega)]
  split
  ·exact l0 k (by omega)
  ·rw [wn1 (by omega)]
   obtain ⟨r, h1, h2, h3⟩ := i2 k (by omega)
   exact ⟨r, h1, by omega, h3⟩
theorem skip_f (s : ByteArray) (hs : s.size ≤ 20000) (a : Nat) (ha : a ≤ s.size) (k : Nat) (hk : 4 * s.size + 4 ≤ k) : ∃ r : Nat, g4_Skip.f k s a = some (r : Int) ∧ a ≤ r ∧ r ≤ s.size :=
 (skip_tot s hs s.size a (by omega) ha).1 k hk
theorem letter_tot (c : Int) : ∃ b, g2_Letter.f c = some b ∧ (b = true → c < 128) := by
 unfold g2_Letter.f
 repeat' split
 all_goals exact ⟨_, rfl, fun h => by first | omega | (have := of_decide_eq_true h; omega) | cases h⟩
theorem digit_tot (c : Int) : ∃ b, g2_Digit.f c = some b ∧ (b = true → c < 128) := by
 unfold g2_Digit.f
 repeat' split
 all_goals exact ⟨_, rfl, fun h => by first | omega | (have := of_decide_eq_true h; omega) | cases h⟩
theorem word_tot (s : ByteArray) (hs : s.size ≤ 20000) (x5 : Int) : ∀ (d a : Nat), s.size - a ≤ d → a ≤ s.size → ∀ k, d + 1 ≤ k →
  ∃ r : Nat, g4_word.l0 k s a x5 = some (r : Int) ∧ a ≤ r ∧ r ≤ s.size ∧ ∀ i : Nat, a ≤ i → i < r → bt s i < 128
 | d, a, hd, ha, k, hk => by
  obtain ⟨k, rfl⟩ : ∃ m, k = m + 1 := ⟨k - 1, by omega⟩
  rw [g4_word.l0]
  by_cases hlt : a < s.size
  ·cases d with
   | zero => omega
   | succ d =>
    rw [if_pos (by omega), if_pos (by omega)]
    obtain ⟨b, e, hb⟩ := letter_tot (bt s a)
    obtain ⟨c, f, hc⟩ := digit_tot (bt s a)
    rw [e, f]
    simp only [Option.bind_some]
    obtain ⟨r, h1, h2, h3, h4⟩ := word_tot s hs x5 d (a + 1) (by omega) (by omega) k (by omega)
    rw [wn1 (by omega)]
    have fin : ∀ i : Nat, a ≤ i → i < a → bt s i < 128 := fun i _ _ => by omega
    repeat' split
    all_goals first
     | exact ⟨a, rfl, by omega, by omega, fin⟩
     | exact ⟨r, h1, by omega, h3, fun i hi hr => by
       by_cases hia : i = a
       ·subst hia; first | exact hb ‹_› | exact hc ‹_›
       ·exact h4 i (by omega) hr⟩
  ·rw [if_neg (by omega)]
   exact ⟨a, rfl, by omega, by omega, fun i _ _ => by omega⟩
theorem word_f (s : ByteArray) (hs : s.size ≤ 20000) (a : Nat) (ha : a ≤ s.size) (k : Nat) (hk : s.size + 1 ≤ k) :
  ∃ r : Nat, g4_word.f k s a = some (r : Int) ∧ a ≤ r ∧ r ≤ s.size ∧ ∀ i : Nat, a ≤ i → i < r → bt s i < 128 :=
 word_tot s hs a s.size a (by omega) ha k hk
theorem ch_tot (s : ByteArray) (a : Int) (ha : 0 ≤ a) : ∃ c, g4_ch.f s a = some c := by
 unfold g4_ch.f
 repeat' split
 all_goals first | exact ⟨_, rfl⟩ | omega
theorem hex_tot (c : Int) (k : Nat) (hk : 2 ≤ k) : ∃ r, g4_hex.f k c = some r := by
 obtain ⟨k, rfl⟩ : ∃ m, k = m + 2 := ⟨k - 2, by omega⟩
 have h1 : ∀ b, ∃ r, g4_hex.j1 (k + 1) c b = some r := fun b => by
  rw [g4_hex.j1]
  repeat' split
  all_goals exact ⟨_, rfl⟩
 have h0 : ∀ b, ∃ r, g4_hex.j0 (k + 2) c b = some r := fun b => by
  rw [g4_hex.j0]
  repeat' split
  all_goals first | exact ⟨_, rfl⟩ | exact h1 _
 unfold g4_hex.f
 split <;> exact h0 _
theorem may1_tot (r : Int) : ∃ b, g1r_May.f r = some b := by
 unfold g1r_May.f
 repeat' split
 all_goals exact ⟨_, rfl⟩
theorem put1_tot (r : Int) : ∃ l, g1r_Put.f r = some l ∧ l.length ≤ 4 := by
 unfold g1r_Put.f
 repeat' split
 all_goals exact ⟨_, rfl, by simp⟩
def EscOk (a : Nat) (v : List Int × Int) : Prop := v.1.length ≤ 4 ∧ (v.2 < 0 ∨ ∃ m : Nat, v.2 = (m : Int) ∧ a < m ∧ m ≤ a + 10)
theorem esc_l0 (s : ByteArray) (hs : s.size ≤ 20000) (a n : Nat) (ha : a ≤ 20100) (hn : n ≤ 8) : ∀ (d i : Nat) (x10 : Int), n - i ≤ d → i ≤ n → ∀ k, d + 4 ≤ k → ∃ v, g4_escape.l0 k s a n x10 i = some v ∧ EscOk a v
 | d, i, x10, hd, hi, k, hk => by
  obtain ⟨k, rfl⟩ : ∃ m, k = m + 1 := ⟨k - 1, by omega⟩
  rw [g4_escape.l0]
  have e2 : wrap64 ((a : Int) + 2) = ((a + 2 : Nat) : Int) := wnk 2 (by omega) (by omega)
  by_cases hlt : i < n
  ·cases d with
   | zero => omega
   | succ d =>
    rw [if_pos (by omega), e2, wnk i (by omega) (by omega)]
    obtain ⟨c, hc⟩ := ch_tot s ((a + 2 + i : Nat) : Int) (by omega)
    obtain ⟨h, hh⟩ := hex_tot c k (by omega)
    rw [hc]
    simp only [Option.bind_some]
    rw [hh]
    simp only [Option.bind_some]
    split
    ·exact ⟨_, rfl, by simp, .inl (by decide)⟩
    ·rw [wn1 (by omega)]
     exact esc_l0 s hs a n ha hn d (i + 1) _ (by omega) (by omega) k (by omega)
  ·rw [if_neg (by omega)]
   obtain ⟨b, hb⟩ := may1_tot x10
   obtain ⟨l, hl, hl4⟩ := put1_tot x10
   rw [hb]
   simp only [Option.bind_some]
   split
   ·rw [hl]
    simp only [Option.bind_some]
    refine ⟨_, rfl, hl4, .inr ⟨a + 2 + n, ?_, by omega, by omega⟩⟩
    rw [e2, wnk n (by omega) (by omega)]
   ·exact ⟨_, rfl, by simp, .inl (by decide)⟩
theorem esc_l1 (a : Nat) (x8 : Int) (ha : a ≤ 20100) : ∀ (d i : Nat), 8 - i ≤ d → i ≤ 8 → ∀ k, d + 1 ≤ k → ∃ v, g4_escape.l1 k a x8 (⟨#[116, 98, 110, 114, 102, 34, 39, 92]⟩ : ByteArray) (⟨#[9, 8, 10, 13, 12, 34, 39, 92]⟩ : ByteArray) i = some v ∧ EscOk a v
 | d, i, hd, hi, k, hk => by
  obtain ⟨k, rfl⟩ : ∃ m, k = m + 1 := ⟨k - 1, by omega⟩
  rw [g4_escape.l1]
  have z1 : (⟨#[116, 98, 110, 114, 102, 34, 39, 92]⟩ : ByteArray).size = 8 := rfl
  have z2 : (⟨#[9, 8, 10, 13, 12, 34, 39, 92]⟩ : ByteArray).size = 8 := rfl
  rw [z1, z2]
  by_cases hlt : i < 8
  ·cases d with
   | zero => omega
   | succ d =>
    rw [if_pos (by omega), if_pos (by omega)]
    split
    ·rw [if_pos (by omega)]
     exact ⟨_, rfl, by simp, .inr ⟨a + 2, wnk 2 (by omega) (by omega), by omega, by omega⟩⟩
    ·rw [wn1 (by omega)]
     exact esc_l1 a x8 ha d (i + 1) (by omega) (by omega) k (by omega)
  ·rw [if_neg (by omega)]
   exact ⟨_, rfl, by simp, .inl (by decide)⟩
theorem esc_tot (s : ByteArray) (hs : s.size ≤ 20000) (a : Nat) (ha : a ≤ 20100) (all : Bool) (k : Nat) (hk : 16 ≤ k) : ∃ v, g4_escape.f k s a all = some v ∧ EscOk a v := by
 obtain ⟨k, rfl⟩ : ∃ m, k = m + 2 := ⟨k - 2, by omega⟩
 have h1 : ∀ (x8 : Int) (n : Nat), n ≤ 8 → ∃ v, g4_escape.j1 (k + 1) s a all x8 n = some v ∧ EscOk a v := fun x8 n hn => by
  rw [g4_escape.j1]
  split
  ·exact esc_l0 s hs a n ha hn 8 0 0 (by omega) (by omega) k (by omega)
  ·split
   ·exact esc_l1 a x8 ha 8 0 (by omega) (by omega) k (by omega)
   ·exact ⟨_, rfl, by simp, .inl (by decide)⟩
 have h0 : ∀ (x8 : Int) (n : Nat), n ≤ 8 → ∃ v, g4_escape.j0 (k + 2) s a all x8 n = some v ∧ EscOk a v := fun x8 n hn => by
  rw [g4_escape.j0]
  split
  ·exact h1 x8 8 (by omega)
  ·exact h1 x8 n hn
 unfold g4_escape.f
 rw [wn1 (by omega)]
 obtain ⟨c, hc⟩ := ch_tot s ((a + 1 : Nat) : Int) (by omega)
 rw [hc]
 simp only [Option.bind_some]
 split
 ·exact h0 c 4 (by omega)
 ·exact h0 c 0 (by omega)
theorem strOfNums_size (l : List Int) : (strOfNums l).size = l.length := by
 unfold strOfNums
 simp [ByteArray.size]
def QuoOk (s : ByteArray) (a : Nat) (v : ByteArray × Int) : Prop := v.1.size ≤ 4 * s.size + 40 ∧ (v.2 = -1 ∨ ∃ m : Nat, v.2 = (m : Int) ∧ a < m ∧ m ≤ s.size)
theorem quo_tot (s : ByteArray) (hs : s.size ≤ 20000) (en : Int) (all : Bool) : ∀ (d a : Nat) (xs : List Int), s.size + 10 - a ≤ d → a ≤ s.size + 10 → xs.length ≤ 4 * a → ∀ k, 3 * d + 20 ≤ k → ∃ v, g4_quoted.l0 k s a en all xs = some v ∧ QuoOk s a v
 | d, a, xs, hd, ha, hx, k, hk => by
  obtain ⟨k, rfl⟩ : ∃ m, k = m + 3 := ⟨k - 3, by omega⟩
  have bad : QuoOk s a ((⟨#[]⟩ : ByteArray), (-1)) := ⟨by show 0 ≤ _; omega, .inl rfl⟩
  by_cases hlt : a < s.size
  ·cases d with
   | zero => omega
   | succ d =>
    have h2 : ∀ b, ∃ v, g4_quoted.j2 (k + 1) s a en all xs b = some v ∧ QuoOk s a v := fun b => by
     rw [g4_quoted.j2]
     split
     ·exact ⟨_, rfl, bad⟩
     rw [if_pos (by omega), if_pos (by omega)]
     split
     ·obtain ⟨⟨l, n⟩, he, hl, hn⟩ := esc_tot s hs a (by omega) all k (by omega)
      rw [he]
      simp only [Option.bind_some]
      split
      ·exact ⟨_, rfl, bad⟩
      ·obtain ⟨m, hm, h3, h4⟩ : ∃ m : Nat, n = (m : Int) ∧ a < m ∧ m ≤ a + 10 := hn.resolve_left ‹_›
       simp only at hl
       subst hm
       rw [if_pos (by omega)]
       obtain ⟨v, hv, g1, g2⟩ := quo_tot s hs en all d m (xs ++ l) (by omega) (by omega) (by simp; omega) k (by omega)
       exact ⟨v, hv, g1, g2.imp id (fun ⟨q, q1, q2, q3⟩ => ⟨q, q1, by omega, q3⟩)⟩
     ·rw [if_pos (by omega), wn1 (by omega)]
      obtain ⟨v, hv, g1, g2⟩ := quo_tot s hs en all d (a + 1) (xs ++ [bt s a]) (by omega) (by omega) (by simp; omega) k (by omega)
      exact ⟨v, hv, g1, g2.imp id (fun ⟨q, q1, q2, q3⟩ => ⟨q, q1, by omega, q3⟩)⟩
    have h1 : ∀ b, ∃ v, g4_quoted.j1 (k + 2) s a en all xs b = some v ∧ QuoOk s a v := fun b => by
     rw [g4_quoted.j1]
     split
     ·split
      ·rw [if_pos (by omega), if_pos (by omega)]
       split <;> exact h2 _
      ·exact h2 _
     ·rw [if_neg (by omega), wn1 (by omega)]
      exact ⟨_, rfl, by simp only [strOfNums_size]; omega, .inr ⟨a + 1, rfl, by omega, by omega⟩⟩
    rw [g4_quoted.l0, if_pos (by omega), if_pos (by omega)]
    exact h1 _
  ·rw [g4_quoted.l0, if_neg (by omega), g4_quoted.j1, if_neg (by decide), if_pos (by omega)]
   exact ⟨_, rfl, bad⟩
theorem quo_f (s : ByteArray) (hs : s.size ≤ 20000) (en : Int) (all : Bool) (a : Nat) (ha : a < s.size) (k : Nat) (hk : 3 * s.size + 60 ≤ k) : ∃ v, g4_quoted.f k s a en all = some v ∧ QuoOk s a v := by
 unfold g4_quoted.f
 rw [wn1 (by omega)]
 obtain ⟨v, hv, h1, h2⟩ := quo_tot s hs en all (s.size + 10) (a + 1) [] (by omega) (by omega) (by simp) k (by omega)
 exact ⟨v, hv, h1, h2.imp id (fun ⟨q, q1, q2, q3⟩ => ⟨q, q1, by omega, q3⟩)⟩
end Go.Proofs.YtpbphelaeleikaaGreatDoor.PLt

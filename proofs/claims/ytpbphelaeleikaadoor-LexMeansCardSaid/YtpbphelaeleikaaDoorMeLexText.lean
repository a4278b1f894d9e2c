import Derived.Test.YtpbphelaeleikaaDoorMeTermTag
import Derived.Test.YtpbphelaeleikaaDoorMePMeanx0
import Derived.Test.YtpbphelaeleikaaDoorMePMeanx1
import Derived.Test.YtpbphelaeleikaaDoorMePMeanx2
import Derived.Test.YtpbphelaeleikaaDoorMePMeanx3
import Derived.Test.YtpbphelaeleikaaDoorMePMeanx4
import Derived.Test.YtpbphelaeleikaaDoorMePMeanx5
import Derived.Test.YtpbphelaeleikaaDoorMePMeanx6
import Derived.Test.YtpbphelaeleikaaDoorMePMeanx7
import Derived.Test.YtpbphelaeleikaaDoorMePMeanx8
import Derived.Test.YtpbphelaeleikaaDoorMePMeanx9
import Derived.Test.YtpbphelaeleikaaDoorMePMeanx10
import Derived.Test.YtpbphelaeleikaaDoorMePMeanx11
import Derived.Test.YtpbphelaeleikaaDoorMePMeanx12
import Derived.Test.YtpbphelaeleikaaDoorMePMeanx13
import Derived.Test.YtpbphelaeleikaaDoorMePMeanx14
import Derived.Test.YtpbphelaeleikaaDoorMePMeanx15
import Derived.Test.YtpbphelaeleikaaDoorMePMeanx16
import Derived.Test.YtpbphelaeleikaaDoorMePMeanx17
import Derived.Test.YtpbphelaeleikaaDoorMePMeanx18
import Derived.Test.YtpbphelaeleikaaDoorMePMeanx19
import Derived.Test.YtpbphelaeleikaaDoorMePMeanx20
import Derived.Test.YtpbphelaeleikaaDoorMePMeanx21
set_option linter.unusedVariables false
set_option linter.unusedSimpArgs false
namespace Go.Proofs.YtpbphelaeleikaaDoor.PMean
open Go.RowKit Go.Proofs.YtpbphelaeleikaaDoorW.PrintWords Go.Proofs.YtpbphelaeleikaaDoorW.PrintLast Go.Proofs.YtpbphelaeleikaaDoorW.PrintMore
def hexd : ByteArray := ⟨#[48, 49, 50, 51, 52, 53, 54, 55, 56, 57, 65, 66, 67, 68, 69, 70]⟩
def escL (c : Int) : List Int :=
 if c = 34 ∨ c = 92 then [92, c] else if c = 8 then [92, 98] else if c = 9 then [92, 116] else if c = 10 then [92, 110] else if c = 12 then [92, 102] else if c = 13 then [92, 114]
 else if c < 32 ∨ c = 127 then [92, 117, 48, 48, bt hexd (c / 16), bt hexd (c % 16)] else [c]
def writtenL (s : ByteArray) : List Int := [34] ++ (bys s).flatMap escL ++ [34]
def writtenB (s : ByteArray) : ByteArray := strOfNums (writtenL s)
theorem escL_len (c : Int) : 1 ≤ (escL c).length ∧ (escL c).length ≤ 6 := by
 unfold escL
 repeat' split
 all_goals simp
theorem rwritten_step (k : Nat) (s : ByteArray) (acc : List Int) (i : Nat) (hi : i < s.size) (hs : s.size ≤ 1000000000000) (ha : acc.length ≤ 100000000000000) :
  rhizomeref02_written.l0 (k + 2) s hexd acc (i : Nat) = rhizomeref02_written.l0 k s hexd (acc ++ escL (bt s (i : Nat))) ((i + 1 : Nat) : Int) := by
 have hc := bt_range s (i : Nat)
 have hz : (hexd.size : Int) = 16 := rfl
 have d1 : Int.tdiv (bt s (i : Nat)) 16 = bt s (i : Nat) / 16 := Int.tdiv_eq_ediv_of_nonneg hc.1
 have d2 : Int.tmod (bt s (i : Nat)) 16 = bt s (i : Nat) % 16 := Int.tmod_eq_emod_of_nonneg hc.1
 simp only [rhizomeref02_written.l0, rhizomeref02_written.j1]
 rw [if_pos (by omega), if_pos (by omega), w64n (n := (i : Int) + 1) (by omega) (by omega), show ((i : Int) + 1) = ((i + 1 : Nat) : Int) by omega, d1, d2, hz]
 generalize bt s (i : Nat) = c at hc ⊢
 have q0 : c / 16 % 256 = c / 16 := by omega
 have q1 : 0 ≤ c / 16 := by omega
 have q2 : c / 16 < 16 := by omega
 have q3 : 0 ≤ c % 16 := by omega
 have q4 : c % 16 < 16 := by omega
 rw [q0]
 unfold escL
 by_cases h1 : c = 34
 ·subst h1
  rw [if_pos rfl, if_pos trivial, Option.bind_some, if_pos (by simp; omega), if_pos (show (34 : Int) = 34 ∨ (34 : Int) = 92 from .inl rfl)]
 rw [if_neg h1]
 by_cases h2 : c = 92
 ·subst h2
  rw [if_pos (by rfl), Option.bind_some, if_pos (by simp; omega), if_pos (show (92 : Int) = 34 ∨ (92 : Int) = 92 from .inr rfl)]
 rw [if_neg (by simpa using h2), if_neg (show ¬ (c = 34 ∨ c = 92) by omega)]
 by_cases h3 : c = 8
 ·rw [if_pos h3, if_pos h3, Option.bind_some, if_pos (by simp; omega)]
 rw [if_neg h3, if_neg h3]
 by_cases h4 : c = 9
 ·rw [if_pos h4, if_pos h4, Option.bind_some, if_pos (by simp; omega)]
 rw [if_neg h4, if_neg h4]
 by_cases h5 : c = 10
 ·rw [if_pos h5, if_pos h5, Option.bind_some, if_pos (by simp; omega)]
 rw [if_neg h5, if_neg h5]
 by_cases h6 : c = 12
 ·rw [if_pos h6, if_pos h6, Option.bind_some, if_pos (by simp; omega)]
 rw [if_neg h6, if_neg h6]
 by_cases h7 : c = 13
 ·rw [if_pos h7, if_pos h7, Option.bind_some, if_pos (by simp; omega)]
 rw [if_neg h7, if_neg h7]
 by_cases h8 : c < 32
 ·rw [if_pos h8, if_pos q1, if_pos q2, if_pos q3, if_pos q4, Option.bind_some, if_pos (by simp; omega), if_pos (.inl h8)]
 rw [if_neg h8]
 by_cases h9 : c = 127
 ·rw [if_pos h9, if_pos q1, if_pos q2, if_pos q3, if_pos q4, Option.bind_some, if_pos (by simp; omega), if_pos (.inr h9)]
 rw [if_neg h9, if_pos (show acc.length < 140737488355328 by omega), if_neg (show ¬ (c < 32 ∨ c = 127) by omega)]
theorem rwritten_loop (s : ByteArray) (hs : s.size ≤ 1000000000000) : ∀ (d k i : Nat) (acc : List Int), s.size - i = d → i ≤ s.size → 2 * d + 1 ≤ k → acc.length ≤ 6 * i + 1 →
  rhizomeref02_written.l0 k s hexd acc (i : Nat) = some (strOfNums (acc ++ ((bys s).drop i).flatMap escL ++ [34]))
 | 0, k, i, acc, hd, hi, hk, ha => by
  obtain ⟨m, rfl⟩ : ∃ m, k = m + 1 := ⟨k - 1, by omega⟩
  simp only [rhizomeref02_written.l0]
  rw [if_neg (by omega), if_pos (by omega), List.drop_eq_nil_of_le (by rw [bys_length]; omega)]
  simp
 | d + 1, k, i, acc, hd, hi, hk, ha => by
  obtain ⟨m, rfl⟩ : ∃ m, k = m + 2 := ⟨k - 2, by omega⟩
  have hl := escL_len (bt s (i : Nat))
  rw [rwritten_step m s acc i (by omega) hs (by omega), rwritten_loop s hs d m (i + 1) _ (by omega) (by omega) (by omega) (by rw [List.length_append]; omega), bys_drop s i (by omega), List.flatMap_cons]
  simp
theorem rwritten_eq (s : ByteArray) (hs : s.size ≤ 1000000000000) (k : Nat) (hk : 2 * s.size + 1 ≤ k) : rhizomeref02_written.f k s = some (writtenB s) := by
 unfold rhizomeref02_written.f
 have := rwritten_loop s hs s.size k 0 [34] (by omega) (by omega) (by omega) (by simp)
 rw [show ((0 : Nat) : Int) = 0 from rfl] at this
 show rhizomeref02_written.l0 k s hexd [34] 0 = _
 rw [this, List.drop_zero]
 rfl
theorem written_size (s : ByteArray) : (writtenB s).size ≤ 6 * s.size + 2 := by
 unfold writtenB writtenL
 rw [strOfNums_size]
 have : ∀ l : List Int, (l.flatMap escL).length ≤ 6 * l.length := by
  intro l
  induction l with
  | nil => simp
  | cons c l ih =>
   rw [List.flatMap_cons, List.length_append, List.length_cons]
   have := (escL_len c).2
   omega
 have h := this (bys s)
 rw [bys_length] at h
 simp only [List.length_append, List.length_cons, List.length_nil]
 omega
def textB (n : Int) (t x : ByteArray) : ByteArray :=
 if n = 1 then ((⟨#[60]⟩ : ByteArray) ++ t) ++ (⟨#[62]⟩ : ByteArray) else if n = 2 then (⟨#[95, 58]⟩ : ByteArray) ++ t else if n = 4 then (writtenB t ++ (⟨#[64]⟩ : ByteArray)) ++ x
 else if n = 5 then ((writtenB t ++ (⟨#[94, 94, 60]⟩ : ByteArray)) ++ x) ++ (⟨#[62]⟩ : ByteArray) else writtenB t
theorem lit1 (a : UInt8) : (⟨#[a]⟩ : ByteArray).size = 1 := rfl
theorem lit2 (a b : UInt8) : (⟨#[a, b]⟩ : ByteArray).size = 2 := rfl
theorem lit3 (a b c : UInt8) : (⟨#[a, b, c]⟩ : ByteArray).size = 3 := rfl
theorem text_size (n : Int) (t x : ByteArray) : (textB n t x).size ≤ 6 * t.size + x.size + 10 := by
 have := written_size t
 unfold textB
 repeat' split
 all_goals first | omega | (simp only [ByteArray.size_append, lit1, lit2, lit3]; omega)
theorem rtext_eq (n : Int) (t x : ByteArray) (ht : t.size ≤ 1000000) (hx : x.size ≤ 1000000) (k : Nat) (hk : 2 * t.size + 1 ≤ k) : rhizomeref02_Text.f k n t x = some (textB n t x) := by
 have hw := written_size t
 unfold rhizomeref02_Text.f textB
 rw [rwritten_eq t (by omega) k hk]
 simp only [Option.bind_some, ByteArray.size_append, lit1, lit2, lit3]
 repeat' split
 all_goals first | rfl | (exfalso; omega)
end Go.Proofs.YtpbphelaeleikaaDoor.PMean

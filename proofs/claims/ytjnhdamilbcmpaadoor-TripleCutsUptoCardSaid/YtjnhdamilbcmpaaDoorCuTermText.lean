import Derived.Test.YtjnhdamilbcmpaaDoorCuTermTag
set_option linter.unusedVariables false
set_option linter.unusedSimpArgs false
namespace Go.Proofs.YtjnhdamilbcmpaaDoor.PTm
open Go.RowKit Go.Proofs.YtjnhdamilbcmpaaDoorW.PrintWords Go.Proofs.YtjnhdamilbcmpaaDoorW.PrintLast Go.Proofs.YtjnhdamilbcmpaaDoorW.PrintMore
def hexd : ByteArray := ⟨#[48, 49, 50, 51, 52, 53, 54, 55, 56, 57, 65, 66, 67, 68, 69, 70]⟩
def escL (c : Int) : List Int :=
 if c = 34 ∨ c = 92 then [92, c] else if c = 8 then [92, 98] else if c = 9 then [92, 116] else if c = 10 then [92, 110] else if c = 12 then [92, 102] else if c = 13 then [92, 114]
 else if c < 32 ∨ c = 127 then [92, 117, 48, 48, bt hexd (c / 16), bt hexd (c % 16)] else [c]
def writtenL (s : ByteArray) : List Int := [34] ++ (bys s).flatMap escL ++ [34]
def writtenB (s : ByteArray) : ByteArray := strOfNums (writtenL s)
theorem escL_short (c : Int) (hc : 0 ≤ c ∧ c ≤ 255) (h : ¬ bt wtab c = 0) : escL c = [92, bt wtab c] := by
 have := byte_all (fun c => bt wtab c == 0 || escL c == [92, bt wtab c]) (by decide +kernel) c hc
 simpa [h] using this
theorem escL_long (c : Int) (hc : 0 ≤ c ∧ c ≤ 255) (h : bt wtab c = 0) : escL c = if c < 32 ∨ c = 127 then [92, 117, 48, 48, bt hexd (c / 16), bt hexd (c % 16)] else [c] := by
 have := byte_all (fun c => bt wtab c != 0 || escL c == if c < 32 ∨ c = 127 then [92, 117, 48, 48, bt hexd (c / 16), bt hexd (c % 16)] else [c]) (by decide +kernel) c hc
 simpa [h] using this
theorem escL_len (c : Int) : 1 ≤ (escL c).length ∧ (escL c).length ≤ 6 := by
 unfold escL
 repeat' split
 all_goals simp
theorem written_step (k : Nat) (s : ByteArray) (acc : List Int) (i : Nat) (hi : i < s.size) (hs : s.size ≤ 1000000000000) (ha : acc.length ≤ 100000000000000) :
  term_written.l0 (k + 1) s acc (s.size : Nat) (i : Nat) = term_written.l0 k s (acc ++ escL (bt s (i : Nat))) (s.size : Nat) ((i + 1 : Nat) : Int) := by
 have hc := bt_range s (i : Nat)
 simp only [term_written.l0]
 rw [if_pos (by omega), if_pos (by omega), if_pos (by omega), if_pos (by omega), if_pos (by omega), w64n (n := (i : Int) + 1) (by omega) (by omega), show ((i : Int) + 1) = ((i + 1 : Nat) : Int) by omega, and_15 _ hc]
 generalize bt s (i : Nat) = c at hc ⊢
 by_cases h0 : bt wtab c = 0
 ·rw [if_pos h0, escL_long c hc h0]
  have q1 : 0 ≤ c / 16 := by omega
  have q2 : c / 16 < 16 := by omega
  have q3 : 0 ≤ c % 16 := by omega
  have q4 : c % 16 < 16 := by omega
  by_cases h1 : c < 32
  ·rw [if_pos h1, if_pos q1, if_pos q2, if_pos q3, if_pos q4, Option.bind_some, if_pos (by simp; omega), if_pos (.inl h1)]
   rfl
  ·rw [if_neg h1]
   by_cases h2 : c = 127
   ·rw [if_pos h2, if_pos q1, if_pos q2, if_pos q3, if_pos q4, Option.bind_some, if_pos (by simp; omega), if_pos (.inr h2)]
    rfl
   ·rw [if_neg h2, if_pos (show acc.length < 140737488355328 by omega), if_neg (show ¬ (c < 32 ∨ c = 127) by omega)]
 ·rw [if_neg h0, escL_short c hc h0, Option.bind_some, if_pos (by simp; omega)]
theorem written_loop (s : ByteArray) (hs : s.size ≤ 1000000000000) : ∀ (d k i : Nat) (acc : List Int), s.size - i = d → i ≤ s.size → d + 1 ≤ k → acc.length ≤ 6 * i + 1 →
  term_written.l0 k s acc (s.size : Nat) (i : Nat) = some (strOfNums (acc ++ ((bys s).drop i).flatMap escL ++ [34]))
 | 0, k, i, acc, hd, hi, hk, ha => by
  obtain ⟨m, rfl⟩ : ∃ m, k = m + 1 := ⟨k - 1, by omega⟩
  simp only [term_written.l0]
  rw [if_neg (by omega), if_pos (by omega), List.drop_eq_nil_of_le (by rw [bys_length]; omega)]
  simp
 | d + 1, k, i, acc, hd, hi, hk, ha => by
  obtain ⟨m, rfl⟩ : ∃ m, k = m + 1 := ⟨k - 1, by omega⟩
  have hl := escL_len (bt s (i : Nat))
  rw [written_step m s acc i (by omega) hs (by omega), written_loop s hs d m (i + 1) _ (by omega) (by omega) (by omega) (by rw [List.length_append]; omega), bys_drop s i (by omega), List.flatMap_cons]
  simp
theorem written_eq (s : ByteArray) (hs : s.size ≤ 1000000000000) (k : Nat) (hk : s.size + 1 ≤ k) : term_written.f k s = some (writtenB s) := by
 unfold term_written.f
 have := written_loop s hs s.size k 0 [34] (by omega) (by omega) (by omega) (by simp)
 rw [show ((0 : Nat) : Int) = 0 from rfl] at this
 rw [this, List.drop_zero]
 rfl
theorem rwritten_step (k : Nat) (s : ByteArray) (acc : List Int) (i : Nat) (hi : i < s.size) (hs : s.size ≤ 1000000000000) (ha : acc.length ≤ 100000000000000) :
  g2_written.l0 (k + 2) s hexd acc (i : Nat) = g2_written.l0 k s hexd (acc ++ escL (bt s (i : Nat))) ((i + 1 : Nat) : Int) := by
 have hc := bt_range s (i : Nat)
 have hz : (hexd.size : Int) = 16 := rfl
 have d1 : Int.tdiv (bt s (i : Nat)) 16 = bt s (i : Nat) / 16 := Int.tdiv_eq_ediv_of_nonneg hc.1
 have d2 : Int.tmod (bt s (i : Nat)) 16 = bt s (i : Nat) % 16 := Int.tmod_eq_emod_of_nonneg hc.1
 simp only [g2_written.l0, g2_written.j1]
 rw [if_pos (by omega), if_pos (by omega), w64n (n := (i : Int) + 1) (by omega) (by omega), show ((i : Int) + 1) = ((i + 1 : Nat) : Int) by omega, d1, d2, hz]
 generalize bt s (i : Nat) = c at hc ⊢
 have q0 : c / 16 % 256 = c / 16 := by omega
 have q1 : 0 ≤ c / 16 := by omega
 have q2 : c / 16 < 16 := by omega
 have q3 : 0 ≤ c % 16 := by omega
 have q4 : c % 16 < 16 := by omega
 rw [q0]
 unfold escL
 by_cases h1 : c = 34
 ·subst h1
  rw [if_pos rfl, if_pos trivial, Option.bind_some, if_pos (by simp; omega), if_pos (show (34 : Int) = 34 ∨ (34 : Int) = 92 from .inl rfl)]
 rw [if_neg h1]
 by_cases h2 : c = 92
 ·subst h2
  rw [if_pos (by rfl), Option.bind_some, if_pos (by simp; omega), if_pos (show (92 : Int) = 34 ∨ (92 : Int) = 92 from .inr rfl)]
 rw [if_neg (by simpa using h2), if_neg (show ¬ (c = 34 ∨ c = 92) by omega)]
 by_cases h3 : c = 8
 ·rw [if_pos h3, if_pos h3, Option.bind_some, if_pos (by simp; omega)]
 rw [if_neg h3, if_neg h3]
 by_cases h4 : c = 9
 ·rw [if_pos h4, if_pos h4, Option.bind_some, if_pos (by simp; omega)]
 rw [if_neg h4, if_neg h4]
 by_cases h5 : c = 10
 ·rw [if_pos h5, if_pos h5, Option.bind_some, if_pos (by simp; omega)]
 rw [if_neg h5, if_neg h5]
 by_cases h6 : c = 12
 ·rw [if_pos h6, if_pos h6, Option.bind_some, if_pos (by simp; omega)]
 rw [if_neg h6, if_neg h6]
 by_cases h7 : c = 13
 ·rw [if_pos h7, if_pos h7, Option.bind_some, if_pos (by simp; omega)]
 rw [if_neg h7, if_neg h7]
 by_cases h8 : c < 32
 ·rw [if_pos h8, if_pos q1, if_pos q2, if_pos q3, if_pos q4, Option.bind_some, if_pos (by simp; omega), if_pos (.inl h8)]
 rw [if_neg h8]
 by_cases h9 : c = 127
 ·rw [if_pos h9, if_pos q1, if_pos q2, if_pos q3, if_pos q4, Option.bind_some, if_pos (by simp; omega), if_pos (.inr h9)]
 rw [if_neg h9, if_pos (show acc.length < 140737488355328 by omega), if_neg (show ¬ (c < 32 ∨ c = 127) by omega)]
theorem rwritten_loop (s : ByteArray) (hs : s.size ≤ 1000000000000) : ∀ (d k i : Nat) (acc : List Int), s.size - i = d → i ≤ s.size → 2 * d + 1 ≤ k → acc.length ≤ 6 * i + 1 →
  g2_written.l0 k s hexd acc (i : Nat) = some (strOfNums (acc ++ ((bys s).drop i).flatMap escL ++ [34]))
 | 0, k, i, acc, hd, hi, hk, ha => by
  obtain ⟨m, rfl⟩ : ∃ m, k = m + 1 := ⟨k - 1, by omega⟩
  simp only [g2_written.l0]
  rw [if_neg (by omega), if_pos (by omega), List.drop_eq_nil_of_le (by rw [bys_length]; omega)]
  simp
 | d + 1, k, i, acc, hd, hi, hk, ha => by
  obtain ⟨m, rfl⟩ : ∃ m, k = m + 2 := ⟨k - 2, by omega⟩
  have hl := escL_len (bt s (i : Nat))
  rw [rwritten_step m s acc i (by omega) hs (by omega), rwritten_loop s hs d m (i + 1) _ (by omega) (by omega) (by omega) (by rw [List.length_append]; omega), bys_drop s i (by omega), List.flatMap_cons]
  simp
theorem rwritten_eq (s : ByteArray) (hs : s.size ≤ 1000000000000) (k : Nat) (hk : 2 * s.size + 1 ≤ k) : g2_written.f k s = some (writtenB s) := by
 unfold g2_written.f
 have := rwritten_loop s hs s.size k 0 [34] (by omega) (by omega) (by omega) (by simp)
 rw [show ((0 : Nat) : Int) = 0 from rfl] at this
 show g2_written.l0 k s hexd [34] 0 = _
 rw [this, List.drop_zero]
 rfl
theorem written_size (s : ByteArray) : (writtenB s).size ≤ 6 * s.size + 2 := by
 unfold writtenB writtenL
 rw [strOfNums_size]
 have : ∀ l : List Int, (l.flatMap escL).length ≤ 6 * l.length := by
  intro l
  induction l with
  | nil => simp
  | cons c l ih =>
   rw [List.flatMap_cons, List.length_append, List.length_cons]
   have := (escL_len c).2
   omega
 have h := this (bys s)
 rw [bys_length] at h
 simp only [List.length_append, List.length_cons, List.length_nil]
 omega
def textB (n : Int) (t x : ByteArray) : ByteArray :=
 if n = 1 then ((⟨#[60]⟩ : ByteArray) ++ t) ++ (⟨#[62]⟩ : ByteArray) else if n = 2 then (⟨#[95, 58]⟩ : ByteArray) ++ t else if n = 4 then (writtenB t ++ (⟨#[64]⟩ : ByteArray)) ++ x
 else if n = 5 then ((writtenB t ++ (⟨#[94, 94, 60]⟩ : ByteArray)) ++ x) ++ (⟨#[62]⟩ : ByteArray) else writtenB t
theorem lit1 (a : UInt8) : (⟨#[a]⟩ : ByteArray).size = 1 := rfl
theorem lit2 (a b : UInt8) : (⟨#[a, b]⟩ : ByteArray).size = 2 := rfl
theorem lit3 (a b c : UInt8) : (⟨#[a, b, c]⟩ : ByteArray).size = 3 := rfl
theorem text_size (n : Int) (t x : ByteArray) : (textB n t x).size ≤ 6 * t.size + x.size + 10 := by
 have := written_size t
 unfold textB
 repeat' split
 all_goals first | omega | (simp only [ByteArray.size_append, lit1, lit2, lit3]; omega)
theorem text_eq (n : Int) (t x : ByteArray) (ht : t.size ≤ 1100000) (hx : x.size ≤ 1100000) (k : Nat) (hk : t.size + 1 ≤ k) : term_text.f k n t x = some (textB n t x) := by
 have hw := written_size t
 unfold term_text.f textB
 rw [written_eq t (by omega) k hk]
 simp only [Option.bind_some, ByteArray.size_append, lit1, lit2, lit3]
 repeat' split
 all_goals first | rfl | (exfalso; omega)
theorem rtext_eq (n : Int) (t x : ByteArray) (ht : t.size ≤ 1100000) (hx : x.size ≤ 1100000) (k : Nat) (hk : 2 * t.size + 1 ≤ k) : g2_Text.f k n t x = some (textB n t x) := by
 have hw := written_size t
 unfold g2_Text.f textB
 rw [rwritten_eq t (by omega) k hk]
 simp only [Option.bind_some, ByteArray.size_append, lit1, lit2, lit3]
 repeat' split
 all_goals first | rfl | (exfalso; omega)
def sp1 : ByteArray := ⟨#[32]⟩
def tripleB (n1 : Int) (t1 x1 : ByteArray) (n2 : Int) (t2 x2 : ByteArray) (n3 : Int) (t3 x3 : ByteArray) : ByteArray :=
 ((((textB n1 t1 x1 ++ sp1) ++ textB n2 t2 x2) ++ sp1) ++ textB n3 t3 x3) ++ (⟨#[32, 46]⟩ : ByteArray)
def follB (n1 : Int) (t1 x1 : ByteArray) (n2 : Int) (t2 x2 : ByteArray) (n3 : Int) (t3 x3 : ByteArray) : Bool := mayB n1 t1 x1 && (mayB n2 t2 x2 && mayB n3 t3 x3)
section
variable (n1 : Int) (t1 x1 : ByteArray) (n2 : Int) (t2 x2 : ByteArray) (n3 : Int) (t3 x3 : ByteArray) (h1 : t1.size ≤ 1100000) (g1 : x1.size ≤ 1100000) (h2 : t2.size ≤ 1100000) (g2 : x2.size ≤ 1100000) (h3 : t3.size ≤ 1100000) (g3 : x3.size ≤ 1100000)
include h1 g1 h2 g2 h3 g3
end
end Go.Proofs.YtjnhdamilbcmpaaDoor.PTm

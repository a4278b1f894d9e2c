import Derived.Test.YtjnhdamilbcmpaaDoorCuLexK
import Derived.Test.YtjnhdamilbcmpaaDoorCuPTmx13
import Derived.Test.YtjnhdamilbcmpaaDoorCuLexI
set_option linter.unusedVariables false
set_option linter.unusedSimpArgs false
namespace Go.Proofs.YtjnhdamilbcmpaaDoor.PTm
open Go.RowKit Go.Proofs.YtjnhdamilbcmpaaDoorW.PrintWords Go.Proofs.YtjnhdamilbcmpaaDoorW.PrintLast Go.Proofs.YtjnhdamilbcmpaaDoorW.PrintMore
theorem nil_of {x : ByteArray} (h : x.toList = ([] : List UInt8)) : x = nob := bys_inj (List.eq_nil_of_length_eq_zero (by rw [bys_length]; exact (toList_nil x).1 h))
theorem nob_nil : nob.toList = ([] : List UInt8) := (toList_nil nob).2 rfl
theorem hd0_cons (c : Int) (t : List Int) : hd0 (c :: t) = c := rfl
theorem iri_tok (t : ByteArray) (ht : iriB t = true) (q : List Int) : tokL (60 :: (bys t ++ 62 :: q)) = some ((1, nob, 1, t, nob), q) := by
 have hb := ((iriB_iff t).1 ht).2.2.2
 have hl : ∀ c ∈ bys t, c ≠ 62 ∧ c ≠ 92 := by
  intro c hc
  obtain ⟨j, hj, rfl⟩ := List.mem_iff_getElem.1 hc
  rw [bys_length] at hj
  have e := bys_get t j hj
  have e2 := (List.getElem?_eq_some_iff.1 e).2
  rw [e2]
  have := hb j hj
  constructor
  ·intro h
   rw [h] at this
   revert this
   decide
  ·intro h
   rw [h] at this
   revert this
   decide
 have hm : mayB 1 t nob = true := by
  unfold mayB
  rw [if_pos rfl, ht, nob_nil]
  rfl
 have hi : iriO (60 :: (bys t ++ 62 :: q)) = some (some ((1, nob, 1, t, nob), q)) := by
  unfold iriO
  rw [hd0_cons, if_pos rfl, show (60 :: (bys t ++ 62 :: q)).drop 1 = bys t ++ 62 :: q from rfl, plain_back 62 q (bys t) hl _ (by rw [List.length_cons, List.length_append]; omega)]
  dsimp only
  rw [str_bys, if_pos hm]
 rw [tokL_eq, hi]
 rfl
theorem text_tok (t : ByteArray) (q : List Int) : tokL (34 :: ((bys t).flatMap escL ++ 34 :: q)) = some ((3, t, 0, nob, nob), q) := by
 have hi : textO (34 :: ((bys t).flatMap escL ++ 34 :: q)) = some (some ((3, t, 0, nob, nob), q)) := by
  have hlen : (bys t).length ≤ ((bys t).flatMap escL).length := by
   have : ∀ l : List Int, l.length ≤ (l.flatMap escL).length := by
    intro l
    induction l with
    | nil => exact Nat.le_refl _
    | cons c l ih =>
     rw [List.flatMap_cons, List.length_append, List.length_cons]
     have := (escL_len c).1
     omega
   exact this _
  unfold textO
  rw [hd0_cons, if_pos rfl, show (34 :: ((bys t).flatMap escL ++ 34 :: q)).drop 1 = (bys t).flatMap escL ++ 34 :: q from rfl, quoted_back q (bys t) (fun c hc => bys_in t c hc) _ (by rw [List.length_cons, List.length_append]; omega)]
  dsimp only
  rw [str_bys]
 rw [tokL_eq, hi]
 rfl
theorem span_all (f : Bool → Int → Bool) : ∀ (l : List Int) (b : Bool), (∀ j : Nat, j < l.length → f (b || decide (0 < j)) (l.getD j 0) = true) → spanF f b l = (l, [])
 | [], b, h => rfl
 | c :: l, b, h => by
  have h0 := h 0 (by rw [List.length_cons]; omega)
  rw [show decide (0 < 0) = false from rfl, Bool.or_false, List.getD_cons_zero] at h0
  rw [spanF, if_pos h0, span_all f l true (fun j hj => by
   have := h (j + 1) (by rw [List.length_cons]; omega)
   rw [List.getD_cons_succ, decide_eq_true (by omega), Bool.or_true] at this
   rw [Bool.true_or]
   exact this)]
theorem bys_getD (t : ByteArray) (j : Nat) (h : j < t.size) : (bys t).getD j 0 = bt t ((j : Nat) : Int) := by
 rw [List.getD_eq_getElem?_getD, bys_get t j h]
 rfl
theorem tagM_all : ∀ (l : List Int) (f e b : Bool), tagM f e l = true → ∀ c ∈ l, langF b c = true
 | [], _, _, _, _, c, hc => by cases hc
 | d :: l, f, e, b, h, c, hc => by
  rw [tagM_cons] at h
  by_cases hd : d = 45
  ·rw [if_pos hd, Bool.and_eq_true] at h
   rcases List.mem_cons.1 hc with rfl | hc
   ·rw [hd]
    unfold langF
    simp
   ·exact tagM_all l _ _ b h.2 c hc
  ·rw [if_neg hd, Bool.and_eq_true] at h
   rcases List.mem_cons.1 hc with rfl | hc
   ·have := h.1
    unfold tok at this
    unfold langF
    rw [Bool.or_eq_true, Bool.and_eq_true] at this
    rcases this with g | g
    ·rw [g, Bool.true_or]
    ·rw [g.2, Bool.true_or, Bool.or_true]
   ·exact tagM_all l _ _ b h.2 c hc
theorem caret_tok (q : List Int) : tokL (94 :: 94 :: q) = some ((8, (⟨#[94, 94]⟩ : ByteArray), 0, nob, nob), q) := by
 have hw : wordO (94 :: 94 :: q) = none := by
  unfold wordO
  rw [if_neg]
  rintro (h | h)
  ·revert h
   show ¬ letterB 94 = true
   decide
  ·exact absurd h.1 (by show ¬ (94 : Int) = 58; decide)
 rw [tokL_eq, hw]
 rfl
theorem cut_total (s : ByteArray) (hs : s.size ≤ 1000000000) : ∃ b, strings_Cut.f s (⟨#[58]⟩ : ByteArray) = some b ∧ b.2.1.size ≤ s.size := by
 have hge := Lib.indexByte_ge s.data.toList 58
 have hi : stringslite_Index.f s (⟨#[58]⟩ : ByteArray) = some (Lib.indexByte s.data.toList 58) := rfl
 unfold strings_Cut.f stringslite_Cut.f
 rw [hi, Option.bind_some]
 by_cases h : Lib.indexByte s.data.toList 58 ≥ 0
 ·obtain ⟨n, hn⟩ : ∃ n : Nat, Lib.indexByte s.data.toList 58 = (n : Int) := ⟨(Lib.indexByte s.data.toList 58).toNat, by omega⟩
  have hlt := (List.getElem?_eq_some_iff.1 (Lib.indexByte_some hn).1).1
  rw [← Lib.size_eq] at hlt
  have h1 : (⟨#[58]⟩ : ByteArray).size = 1 := rfl
  rw [hn, if_pos (by omega), if_pos (by omega), if_pos (by omega), h1, w64n (by omega) (by omega), if_pos (by omega), if_pos (by omega), Option.bind_some]
  exact ⟨_, rfl, by dsimp only; simp⟩
 ·rw [if_neg h, Option.bind_some]
  exact ⟨_, rfl, by dsimp only; exact Nat.zero_le _⟩
end Go.Proofs.YtjnhdamilbcmpaaDoor.PTm

import Derived.Test.YtpbphelaeleikaaDoorMeLexK
import Derived.Test.YtpbphelaeleikaaDoorMeLexJ
set_option linter.unusedVariables false
set_option linter.unusedSimpArgs false
namespace Go.Proofs.YtpbphelaeleikaaDoor.PMean
open Go.RowKit Go.Proofs.YtpbphelaeleikaaDoorW.PrintWords Go.Proofs.YtpbphelaeleikaaDoorW.PrintLast Go.Proofs.YtpbphelaeleikaaDoorW.PrintMore
theorem nil_of {x : ByteArray} (h : x.toList = ([] : List UInt8)) : x = nob := bys_inj (List.eq_nil_of_length_eq_zero (by rw [bys_length]; exact (toList_nil x).1 h))
theorem nob_nil : nob.toList = ([] : List UInt8) := (toList_nil nob).2 rfl
theorem hd0_cons (c : Int) (t : List Int) : hd0 (c :: t) = c := rfl
theorem iri_tok (t : ByteArray) (ht : iriB t = true) (q : List Int) : tokL (60 :: (bys t ++ 62 :: q)) = some ((1, nob, 1, t, nob), q) := by
 have hb := ((iriB_iff t).1 ht).2.2.2
 have hl : ∀ c ∈ bys t, c ≠ 62 ∧ c ≠ 92 := by
  intro c hc
  obtain ⟨j, hj, rfl⟩ := List.mem_iff_getElem.1 hc
  rw [bys_length] at hj
  have e := bys_get t j hj
  have e2 := (List.getElem?_eq_some_iff.1 e).2
  rw [e2]
  have := hb j hj
  constructor
  ·intro h
   rw [h] at this
   revert this
   decide
  ·intro h
   rw [h] at this
   revert this
   decide
 have hm : mayB 1 t nob = true := by
  unfold mayB
  rw [if_pos rfl, ht, nob_nil]
  rfl
 have hi : iriO (60 :: (bys t ++ 62 :: q)) = some (some ((1, nob, 1, t, nob), q)) := by
  unfold iriO
  rw [hd0_cons, if_pos rfl, show (60 :: (bys t ++ 62 :: q)).drop 1 = bys t ++ 62 :: q from rfl, plain_back 62 q (bys t) hl _ (by rw [List.length_cons, List.length_append]; omega)]
  dsimp only
  rw [str_bys, if_pos hm]
 rw [tokL_eq, hi]
 rfl
theorem text_tok (t : ByteArray) (q : List Int) : tokL (34 :: ((bys t).flatMap escL ++ 34 :: q)) = some ((3, t, 0, nob, nob), q) := by
 have hi : textO (34 :: ((bys t).flatMap escL ++ 34 :: q)) = some (some ((3, t, 0, nob, nob), q)) := by
  have hlen : (bys t).length ≤ ((bys t).flatMap escL).length := by
   have : ∀ l : List Int, l.length ≤ (l.flatMap escL).length := by
    intro l
    induction l with
    | nil => exact Nat.le_refl _
    | cons c l ih =>
     rw [List.flatMap_cons, List.length_append, List.length_cons]
     have := (escL_len c).1
     omega
   exact this _
  unfold textO
  rw [hd0_cons, if_pos rfl, show (34 :: ((bys t).flatMap escL ++ 34 :: q)).drop 1 = (bys t).flatMap escL ++ 34 :: q from rfl, quoted_back q (bys t) (fun c hc => bys_in t c hc) _ (by rw [List.length_cons, List.length_append]; omega)]
  dsimp only
  rw [str_bys]
 rw [tokL_eq, hi]
 rfl
theorem span_all (f : Bool → Int → Bool) : ∀ (l : List Int) (b : Bool), (∀ j : Nat, j < l.length → f (b || decide (0 < j)) (l.getD j 0) = true) → spanF f b l = (l, [])
 | [], b, h => rfl
 | c :: l, b, h => by
  have h0 := h 0 (by rw [List.length_cons]; omega)
  rw [show decide (0 < 0) = false from rfl, Bool.or_false, List.getD_cons_zero] at h0
  rw [spanF, if_pos h0, span_all f l true (fun j hj => by
   have := h (j + 1) (by rw [List.length_cons]; omega)
   rw [List.getD_cons_succ, decide_eq_true (by omega), Bool.or_true] at this
   rw [Bool.true_or]
   exact this)]
theorem bys_getD (t : ByteArray) (j : Nat) (h : j < t.size) : (bys t).getD j 0 = bt t ((j : Nat) : Int) := by
 rw [List.getD_eq_getElem?_getD, bys_get t j h]
 rfl
theorem blank_tok (t : ByteArray) (ht : blankB t = true) : tokL (95 :: 58 :: bys t) = some ((2, nob, 2, t, nob), []) := by
 have hb := ht
 unfold blankB at hb
 rw [Bool.and_eq_true, decide_eq_true_eq] at hb
 have hs : spanF namedF false (bys t) = (bys t, []) := by
  refine span_all namedF _ false fun j hj => ?_
  rw [bys_length] at hj
  have := List.all_eq_true.1 hb.2 j (List.mem_range.2 hj)
  rw [bys_getD t j hj, Bool.false_or]
  unfold okB at this
  unfold namedF
  rw [show decide (0 < j) = (j != 0) by cases j <;> simp]
  exact this
 have hm : mayB 2 t nob = true := by
  unfold mayB
  rw [if_neg (by decide), if_pos rfl, ht, nob_nil]
  rfl
 have hi : blankO (95 :: 58 :: bys t) = some (some ((2, nob, 2, t, nob), [])) := by
  unfold blankO
  rw [hd0_cons, if_pos rfl, show (95 :: 58 :: bys t).drop 1 = 58 :: bys t from rfl, hd0_cons, if_pos rfl, show (95 :: 58 :: bys t).drop 2 = bys t from rfl, hs]
  dsimp only
  rw [if_neg (by rw [bys_length]; omega), str_bys, if_pos hm]
 rw [tokL_eq, hi]
 rfl
theorem tagM_all : ∀ (l : List Int) (f e b : Bool), tagM f e l = true → ∀ c ∈ l, langF b c = true
 | [], _, _, _, _, c, hc => by cases hc
 | d :: l, f, e, b, h, c, hc => by
  rw [tagM_cons] at h
  by_cases hd : d = 45
  ·rw [if_pos hd, Bool.and_eq_true] at h
   rcases List.mem_cons.1 hc with rfl | hc
   ·rw [hd]
    unfold langF
    simp
   ·exact tagM_all l _ _ b h.2 c hc
  ·rw [if_neg hd, Bool.and_eq_true] at h
   rcases List.mem_cons.1 hc with rfl | hc
   ·have := h.1
    unfold tok at this
    unfold langF
    rw [Bool.or_eq_true, Bool.and_eq_true] at this
    rcases this with g | g
    ·rw [g, Bool.true_or]
    ·rw [g.2, Bool.true_or, Bool.or_true]
   ·exact tagM_all l _ _ b h.2 c hc
theorem lang_tok (x : ByteArray) (hx : tagB x = true) : tokL (64 :: bys x) = some ((4, x, 0, nob, nob), []) := by
 have hb := hx
 unfold tagB at hb
 rw [Bool.and_eq_true, decide_eq_true_eq, tagQ_Qe, tagQe_M] at hb
 have hs : spanF langF false (bys x) = (bys x, []) := by
  refine span_all langF _ false fun j hj => ?_
  refine tagM_all (bys x) true true _ hb.1 _ ?_
  rw [List.getD_eq_getElem?_getD, List.getElem?_eq_getElem hj]
  exact List.getElem_mem hj
 have hm : mayB 4 nob x = true := by
  unfold mayB
  rw [if_neg (by decide), if_neg (by decide), if_neg (by decide), if_pos rfl, hx]
  decide +kernel
 have hi : langO (64 :: bys x) = some (some ((4, x, 0, nob, nob), [])) := by
  unfold langO
  rw [hd0_cons, if_pos rfl, show (64 :: bys x).drop 1 = bys x from rfl, hs]
  dsimp only
  rw [if_neg (by rw [bys_length]; omega), str_bys, if_pos hm]
 rw [tokL_eq, hi]
 rfl
theorem caret_tok (q : List Int) : tokL (94 :: 94 :: q) = some ((8, (⟨#[94, 94]⟩ : ByteArray), 0, nob, nob), q) := by
 have hw : wordO (94 :: 94 :: q) = none := by
  unfold wordO
  rw [if_neg]
  rintro (h | h)
  ·revert h
   show ¬ letterB 94 = true
   decide
  ·exact absurd h.1 (by show ¬ (94 : Int) = 58; decide)
 rw [tokL_eq, hw]
 rfl
def mkS (y : Sy) (p : Nat) : S38 := ⟨y.1, y.2.1, (⟨y.2.2.1, y.2.2.2.1, y.2.2.2.2⟩ : S31), (p : Int)⟩
theorem all_tok (n k : Nat) (c : Int) (t : List Int) (y : Sy) (r' : List Int) (h1 : c ≠ 35) (h2 : ¬ (c = 9 ∨ c = 10 ∨ c = 13 ∨ c = 32)) (h : tokL (c :: t) = some (y, r')) : allL n (k + 1) (c :: t) = (mkS y (n - (t.length + 1)) :: (allL n k r').1, (allL n k r').2) := by
 rw [allL_step, skipL, if_neg h1, if_neg h2]
 dsimp only
 rw [h]
 rfl
theorem all_end (n k : Nat) : allL n (k + 1) [] = ([], none) := rfl
theorem cut_total (s : ByteArray) (hs : s.size ≤ 1000000000) : ∃ b, strings_Cut.f s (⟨#[58]⟩ : ByteArray) = some b ∧ b.2.1.size ≤ s.size := by
 have hge := Lib.indexByte_ge s.data.toList 58
 have hi : stringslite_Index.f s (⟨#[58]⟩ : ByteArray) = some (Lib.indexByte s.data.toList 58) := rfl
 unfold strings_Cut.f stringslite_Cut.f
 rw [hi, Option.bind_some]
 by_cases h : Lib.indexByte s.data.toList 58 ≥ 0
 ·obtain ⟨n, hn⟩ : ∃ n : Nat, Lib.indexByte s.data.toList 58 = (n : Int) := ⟨(Lib.indexByte s.data.toList 58).toNat, by omega⟩
  have hlt := (List.getElem?_eq_some_iff.1 (Lib.indexByte_some hn).1).1
  rw [← Lib.size_eq] at hlt
  have h1 : (⟨#[58]⟩ : ByteArray).size = 1 := rfl
  rw [hn, if_pos (by omega), if_pos (by omega), if_pos (by omega), h1, w64n (by omega) (by omega), if_pos (by omega), if_pos (by omega), Option.bind_some]
  exact ⟨_, rfl, by dsimp only; simp⟩
 ·rw [if_neg h, Option.bind_some]
  exact ⟨_, rfl, by dsimp only; exact Nat.zero_le _⟩
theorem res_total (k : Nat) (n : Int) (t : ByteArray) (a : Int) (b c : ByteArray) (p : Int) (ht : t.size ≤ 1000000000) (hn : n ≠ 1) : ∃ v, lex_resource.f k n t a b c p [] = some v := by
 obtain ⟨q, h1, h2⟩ := cut_total t ht
 unfold lex_resource.f
 rw [if_neg hn, h1, Option.bind_some, show lookM [] q.1 = none from rfl, if_pos (by show (⟨#[]⟩ : ByteArray).size + _ ≤ _; have : (⟨#[]⟩ : ByteArray).size = 0 := rfl; omega), if_neg (fun h => absurd h.2 (by decide))]
 exact ⟨_, rfl⟩
theorem read_iri (k p : Nat) (t : ByteArray) : lex_Read.f k [mkS (1, nob, 1, t, nob) p] none = some (1, t, nob, 1, 0) := by
 unfold lex_Read.f lex_Read.fm lex_resource.f
 rfl
theorem read_blank (k p : Nat) (t : ByteArray) : lex_Read.f k [mkS (2, nob, 2, t, nob) p] none = some (2, t, nob, 1, 0) := by
 obtain ⟨v, hv⟩ := res_total k 2 nob 2 t nob (p : Int) (by decide) (by decide)
 have e : lex_resource.f k ((rd_T38 [mkS (2, nob, 2, t, nob) p] 0).f0) ((rd_T38 [mkS (2, nob, 2, t, nob) p] 0).f1) ((rd_T38 [mkS (2, nob, 2, t, nob) p] 0).f2.f0) ((rd_T38 [mkS (2, nob, 2, t, nob) p] 0).f2.f1) ((rd_T38 [mkS (2, nob, 2, t, nob) p] 0).f2.f2) ((rd_T38 [mkS (2, nob, 2, t, nob) p] 0).f3) [] = some v := hv
 unfold lex_Read.f lex_Read.fm
 rw [if_pos rfl, if_pos (by rw [List.length_cons]; omega), e, Option.bind_some]
 rfl
theorem read_text (k p : Nat) (t : ByteArray) (ht : t.size ≤ 1000000) (l : List S38) (b : Int × ByteArray × Int) (n : Int) (x : ByteArray) (hx : x.size ≤ 1000000) (hk : t.size + 3 * x.size + 4 ≤ k)
  (hB : lex_Read.B k (mkS (3, t, 0, nob, nob) p :: l) [] (lex_Read.A (mkS (3, t, 0, nob, nob) p :: l)) = some b) (hC : lex_Read.C b = (n, x)) (hm : mayB n t x = true) :
  lex_Read.f k (mkS (3, t, 0, nob, nob) p :: l) none = some (n, t, x, b.2.2, 0) := by
 obtain ⟨v, hv⟩ := res_total k 3 t 0 nob nob (p : Int) (by omega) (by decide)
 unfold lex_Read.f lex_Read.fm
 rw [if_pos rfl, if_pos (by rw [List.length_cons]; omega)]
 rw [show rd_T38 (mkS (3, t, 0, nob, nob) p :: l) 0 = mkS (3, t, 0, nob, nob) p from rfl]
 rw [show lex_resource.f k (mkS (3, t, 0, nob, nob) p).f0 (mkS (3, t, 0, nob, nob) p).f1 (mkS (3, t, 0, nob, nob) p).f2.f0 (mkS (3, t, 0, nob, nob) p).f2.f1 (mkS (3, t, 0, nob, nob) p).f2.f2 (mkS (3, t, 0, nob, nob) p).f3 [] = some v from hv, Option.bind_some]
 rw [if_neg (show ¬ (mkS (3, t, 0, nob, nob) p).f0 = 2 by show ¬ (3 : Int) = 2; decide), if_pos (show (mkS (3, t, 0, nob, nob) p).f0 = 3 from rfl), hB, Option.bind_some, hC]
 rw [show (mkS (3, t, 0, nob, nob) p).f1 = t from rfl, may_q n t x ht hx k hk, Option.bind_some, if_pos hm]
end Go.Proofs.YtpbphelaeleikaaDoor.PMean

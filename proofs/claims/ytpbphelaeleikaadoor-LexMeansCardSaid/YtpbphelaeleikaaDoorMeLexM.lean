import Derived.Test.YtpbphelaeleikaaDoorMeLexL
set_option linter.unusedVariables false
set_option linter.unusedSimpArgs false
namespace Go.Proofs.YtpbphelaeleikaaDoor.PMean
open Go.RowKit Go.Proofs.YtpbphelaeleikaaDoorW.PrintWords Go.Proofs.YtpbphelaeleikaaDoorW.PrintLast Go.Proofs.YtpbphelaeleikaaDoorW.PrintMore
theorem all_well (s : ByteArray) (hs : s.size ≤ 200000) (hw : Well s) (l : List S38) (h : allL s.size (s.size + 1) (bys s) = (l, none)) (k : Nat) : lex_All.f k s = some (l, 0, 0) := by
 unfold Well at hw
 rw [all_any s hs k, if_neg (by omega), h]
theorem all_tokp (n k : Nat) (c : Int) (t : List Int) (y : Sy) (r' : List Int) (p : Nat) (h1 : c ≠ 35) (h2 : ¬ (c = 9 ∨ c = 10 ∨ c = 13 ∨ c = 32)) (h : tokL (c :: t) = some (y, r')) (hp : n - (t.length + 1) = p) : allL n (k + 1) (c :: t) = (mkS y p :: (allL n k r').1, (allL n k r').2) := by
 rw [all_tok n k c t y r' h1 h2 h, hp]
theorem stop_ascii (t : ByteArray) (h : ∀ j : Nat, j < t.size → bt t ((j : Nat) : Int) < 128) : ∀ (k i : Nat), i ≤ t.size → t.size - i ≤ k → stop t k i = t.size
 | 0, i, hi, hk => by
  show i = t.size
  omega
 | k + 1, i, hi, hk => by
  simp only [stop]
  by_cases hlt : i < t.size
  ·have hd : dec (t.extract i t.size) = (val (t.extract i t.size) 1, 1) := by
    unfold dec
    rw [if_pos]
    rw [okn1, decide_eq_true_eq, extract_size t i hi]
    have := bt_extract t i t.size 0 (Nat.le_refl _) (by omega)
    have h2 := h i hlt
    rw [show ((0 : Nat) : Int) = 0 from rfl, Nat.add_zero] at this
    rw [this]
    omega
   rw [if_pos hlt, hd]
   dsimp only
   rw [if_neg (by decide)]
   exact stop_ascii t h k (i + 1) (by omega) (by omega)
  ·rw [if_neg hlt]
   omega
theorem well_ascii (t : ByteArray) (h : ∀ j : Nat, j < t.size → bt t ((j : Nat) : Int) < 128) : Well t := stop_ascii t h t.size 0 (Nat.zero_le _) (Nat.le_refl _)
theorem well_lit1 (c : UInt8) (h : c.toNat < 128) : Well (⟨#[c]⟩ : ByteArray) := by
 refine well_ascii _ fun j hj => ?_
 obtain rfl : j = 0 := by
  have : (⟨#[c]⟩ : ByteArray).size = 1 := rfl
  omega
 show ((c.toNat : Nat) : Int) < 128
 omega
theorem letter_lt (c : Int) (h : letterB c = true) : c < 128 := by
 unfold letterB at h
 rw [decide_eq_true_eq] at h
 omega
theorem digit_lt (c : Int) (h : digitB c = true) : c < 128 := by
 unfold digitB at h
 rw [decide_eq_true_eq] at h
 omega
theorem well_blank (t : ByteArray) (ht : blankB t = true) : Well t := by
 unfold blankB at ht
 rw [Bool.and_eq_true] at ht
 refine well_ascii t fun j hj => ?_
 have := List.all_eq_true.1 ht.2 j (List.mem_range.2 hj)
 unfold okB at this
 rw [Bool.or_eq_true, Bool.and_eq_true] at this
 rcases this with h | h
 ·exact letter_lt _ h
 ·exact digit_lt _ h.2
theorem well_tag (x : ByteArray) (hx : tagB x = true) : Well x := by
 unfold tagB at hx
 rw [Bool.and_eq_true, tagQ_Qe, tagQe_M] at hx
 refine well_ascii x fun j hj => ?_
 have hj2 : j < (bys x).length := by rw [bys_length]; exact hj
 have e := (List.getElem?_eq_some_iff.1 (bys_get x j hj)).2
 have := tagM_all (bys x) true true true hx.1 _ (List.getElem_mem hj2)
 rw [e] at this
 unfold langF smallB at this
 simp only [Bool.or_eq_true, decide_eq_true_eq, beq_iff_eq] at this
 rcases this with h | h | h
 ·omega
 ·exact digit_lt _ h
 ·omega
theorem well_iri (t : ByteArray) (ht : iriB t = true) : Well t := ((iriB_iff t).1 ht).2.2.1
theorem well_val (t : ByteArray) (hs : t.size ≤ 1000000) (ht : valB t = true) : Well t := by
 unfold valB at ht
 rw [Bool.and_eq_true, validB_stop t (by omega), decide_eq_true_eq, decide_eq_true_eq] at ht
 exact ht.2
theorem well_written (t : ByteArray) (hs : t.size ≤ 1000000) (ht : Well t) : Well (writtenB t) := by
 unfold writtenB writtenL
 rw [str_append, str_append]
 refine well_app (well_app (well_lit1 34 (by decide)) ?_) (well_lit1 34 (by decide))
 exact escaped_well t (by omega) t.size 0 (Nat.zero_le _) (Nat.le_refl _) ht
theorem term_pure (n : Int) (t x : ByteArray) (ht : t.size ≤ 9000) (hx : x.size ≤ 9000) (hm : mayB n t x = true) (k : Nat) (hk : 100000 ≤ k) :
  ∃ l : List S38, lex_All.f k (textB n t x) = some (l, 0, 0) ∧ lex_Read.f k l none = some (n, t, x, (l.length : Int), 0) := by
 have hsz := text_size n t x
 have hm0 := hm
 unfold mayB at hm
 by_cases n1 : n = 1
 ·subst n1
  rw [if_pos rfl, Bool.and_eq_true, beq_iff_eq] at hm
  obtain rfl := nil_of hm.2
  have hb : bys (textB 1 t nob) = 60 :: (bys t ++ 62 :: []) := by
   unfold textB
   rw [if_pos rfl, bys_append, bys_append]
   rfl
  have hw : Well (textB 1 t nob) := by
   unfold textB
   rw [if_pos rfl]
   exact well_app (well_app (well_lit1 60 (by decide)) (well_iri t hm.1)) (well_lit1 62 (by decide))
  have hl : (textB 1 t nob).size = t.size + 2 := by
   rw [← bys_length, hb, List.length_cons, List.length_append, bys_length]
   rfl
  refine ⟨[mkS (1, nob, 1, t, nob) 0], all_well _ (by omega) hw _ ?_ k, read_iri k 0 t⟩
  rw [hb, hl, all_tokp _ _ 60 _ _ _ 0 (by decide) (by decide) (iri_tok t hm.1 []) (by rw [List.length_append, bys_length]; simp only [List.length_cons, List.length_nil]; omega), all_end]
 rw [if_neg n1] at hm
 by_cases n2 : n = 2
 ·subst n2
  rw [if_pos rfl, Bool.and_eq_true, beq_iff_eq] at hm
  obtain rfl := nil_of hm.2
  have hb : bys (textB 2 t nob) = 95 :: 58 :: bys t := by
   unfold textB
   rw [if_neg (by decide), if_pos rfl, bys_append]
   rfl
  have hw : Well (textB 2 t nob) := by
   unfold textB
   rw [if_neg (by decide), if_pos rfl]
   exact well_app (well_app (p := (⟨#[95]⟩ : ByteArray)) (q := (⟨#[58]⟩ : ByteArray)) (well_lit1 95 (by decide)) (well_lit1 58 (by decide))) (well_blank t hm.1)
  have hl : (textB 2 t nob).size = t.size + 2 := by
   rw [← bys_length, hb, List.length_cons, List.length_cons, bys_length]
  refine ⟨[mkS (2, nob, 2, t, nob) 0], all_well _ (by omega) hw _ ?_ k, read_blank k 0 t⟩
  rw [hb, hl, all_tokp _ _ 95 _ _ _ 0 (by decide) (by decide) (blank_tok t hm.1) (by rw [List.length_cons, bys_length]; omega), all_end]
 rw [if_neg n2] at hm
 have hwr := bys_written t
 have hlw : (writtenB t).size = ((bys t).flatMap escL).length + 2 := by
  rw [← bys_length, hwr, List.length_cons, List.length_append]
  rfl
 by_cases n3 : n = 3
 ·subst n3
  rw [if_pos rfl, Bool.and_eq_true, beq_iff_eq] at hm
  obtain rfl := nil_of hm.2
  have hT : textB 3 t nob = writtenB t := by
   unfold textB
   rw [if_neg (by decide), if_neg (by decide), if_neg (by decide), if_neg (by decide)]
  rw [hT] at hsz ⊢
  refine ⟨[mkS (3, t, 0, nob, nob) 0], all_well _ (by omega) (well_written t (by omega) (well_val t (by omega) hm.1)) _ ?_ k, ?_⟩
  ·rw [hwr, hlw, all_tokp _ _ 34 _ _ _ 0 (by decide) (by decide) (text_tok t []) (by rw [List.length_append]; simp only [List.length_cons, List.length_nil]; omega), all_end]
  ·exact read_text k 0 t (by omega) [] (3, nob, 1) 3 nob (by decide) (by show t.size + 3 * 0 + 4 ≤ k; omega) rfl (by unfold lex_Read.C; rw [if_neg (fun h => absurd h.2 (by decide))]) hm0
 rw [if_neg n3] at hm
 by_cases n4 : n = 4
 ·subst n4
  rw [if_pos rfl, Bool.and_eq_true] at hm
  have hT : textB 4 t x = (writtenB t ++ (⟨#[64]⟩ : ByteArray)) ++ x := by
   unfold textB
   rw [if_neg (by decide), if_neg (by decide), if_pos rfl]
  have hb : bys (textB 4 t x) = 34 :: ((bys t).flatMap escL ++ 34 :: (64 :: bys x)) := by
   rw [hT, bys_append, bys_append, hwr, show bys (⟨#[64]⟩ : ByteArray) = [64] from rfl]
   simp only [List.cons_append, List.append_assoc, List.nil_append]
  have hw : Well (textB 4 t x) := by
   rw [hT]
   exact well_app (well_app (well_written t (by omega) (well_val t (by omega) hm.1)) (well_lit1 64 (by decide))) (well_tag x hm.2)
  have hl : (textB 4 t x).size = ((bys t).flatMap escL).length + 3 + x.size := by
   rw [hT, ByteArray.size_append, ByteArray.size_append, hlw]
   rfl
  refine ⟨[mkS (3, t, 0, nob, nob) 0, mkS (4, x, 0, nob, nob) (((bys t).flatMap escL).length + 2)], all_well _ (by omega) hw _ ?_ k, ?_⟩
  ·rw [hb, hl, show ((bys t).flatMap escL).length + 3 + x.size + 1 = (((bys t).flatMap escL).length + 1 + x.size) + 1 + 1 + 1 by omega]
   rw [all_tokp _ _ 34 _ _ _ 0 (by decide) (by decide) (text_tok t _) (by rw [List.length_append]; simp only [List.length_cons, bys_length]; omega)]
   rw [all_tokp _ _ 64 _ _ _ (((bys t).flatMap escL).length + 2) (by decide) (by decide) (lang_tok x hm.2) (by rw [bys_length]; omega), all_end]
  ·exact read_text k 0 t (by omega) _ (4, x, 2) 4 x (by omega) (by omega) rfl (by unfold lex_Read.C; rw [if_neg (fun h => absurd h.2 (by show ¬ (4 : Int) = 5; decide))]) hm0
 rw [if_neg n4] at hm
 by_cases n5 : n = 5
 ·subst n5
  rw [if_pos rfl, Bool.and_eq_true, Bool.and_eq_true, bne_iff_ne] at hm
  have hT : textB 5 t x = ((writtenB t ++ (⟨#[94, 94, 60]⟩ : ByteArray)) ++ x) ++ (⟨#[62]⟩ : ByteArray) := by
   unfold textB
   rw [if_neg (by decide), if_neg (by decide), if_neg (by decide), if_pos rfl]
  have hb : bys (textB 5 t x) = 34 :: ((bys t).flatMap escL ++ 34 :: (94 :: 94 :: (60 :: (bys x ++ 62 :: [])))) := by
   rw [hT, bys_append, bys_append, bys_append, hwr, show bys (⟨#[94, 94, 60]⟩ : ByteArray) = [94, 94, 60] from rfl, show bys (⟨#[62]⟩ : ByteArray) = [62] from rfl]
   simp only [List.cons_append, List.append_assoc, List.nil_append]
  have hw : Well (textB 5 t x) := by
   rw [hT]
   exact well_app (well_app (well_app (well_written t (by omega) (well_val t (by omega) hm.1)) (well_app (p := (⟨#[94]⟩ : ByteArray)) (q := (⟨#[94, 60]⟩ : ByteArray)) (well_lit1 94 (by decide)) (well_app (p := (⟨#[94]⟩ : ByteArray)) (q := (⟨#[60]⟩ : ByteArray)) (well_lit1 94 (by decide)) (well_lit1 60 (by decide))))) (well_iri x hm.2.1)) (well_lit1 62 (by decide))
  have hl : (textB 5 t x).size = ((bys t).flatMap escL).length + 6 + x.size := by
   rw [hT, ByteArray.size_append, ByteArray.size_append, ByteArray.size_append, hlw, show (⟨#[94, 94, 60]⟩ : ByteArray).size = 3 from rfl, show (⟨#[62]⟩ : ByteArray).size = 1 from rfl]
   omega
  refine ⟨[mkS (3, t, 0, nob, nob) 0, mkS (8, (⟨#[94, 94]⟩ : ByteArray), 0, nob, nob) (((bys t).flatMap escL).length + 2), mkS (1, nob, 1, x, nob) (((bys t).flatMap escL).length + 4)], all_well _ (by omega) hw _ ?_ k, ?_⟩
  ·have e1 : (bys x ++ [(62 : Int)]).length = x.size + 1 := by rw [List.length_append, bys_length]; rfl
   rw [hb, hl, show ((bys t).flatMap escL).length + 6 + x.size + 1 = (((bys t).flatMap escL).length + 3 + x.size) + 1 + 1 + 1 + 1 by omega]
   rw [all_tokp _ _ 34 _ _ _ 0 (by decide) (by decide) (text_tok t _) (by rw [List.length_append, List.length_cons, List.length_cons, List.length_cons, List.length_cons, e1]; omega)]
   rw [all_tokp _ _ 94 _ _ _ (((bys t).flatMap escL).length + 2) (by decide) (by decide) (caret_tok _) (by rw [List.length_cons, List.length_cons, e1]; omega), all_tokp _ _ 60 _ _ _ (((bys t).flatMap escL).length + 4) (by decide) (by decide) (iri_tok x hm.2.1 []) (by rw [e1]; omega), all_end]
  ·exact read_text k 0 t (by omega) _ (5, x, 3) 5 x (by omega) (by omega) (by
    have hmk : ∀ p : Int, lex_Mark.f 8 (⟨#[94, 94]⟩ : ByteArray) 0 nob nob p (⟨#[94, 94]⟩ : ByteArray) = some true := fun p => by
     unfold lex_Mark.f
     rw [if_pos rfl, beq_self_eq_true]
    unfold lex_Read.B
    rw [if_pos (by simp only [List.length_cons, List.length_nil]; omega)]
    rw [show ∀ q : S38, ∀ w : List S38, ∀ v : S38, rd_T38 (v :: q :: w) 1 = q from fun _ _ _ => rfl]
    refine (congrArg (fun o => Option.bind o _) (hmk _)).trans ?_
    rfl) (by unfold lex_Read.C; rw [if_neg (fun h => absurd h.1 hm.2.2)]) hm0
 ·rw [if_neg n5] at hm
  cases hm
end Go.Proofs.YtpbphelaeleikaaDoor.PMean

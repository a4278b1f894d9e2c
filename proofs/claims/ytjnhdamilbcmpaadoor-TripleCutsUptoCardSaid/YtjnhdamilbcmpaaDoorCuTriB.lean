import Derived.Test.YtjnhdamilbcmpaaDoorCuLexM
import Derived.Test.YtjnhdamilbcmpaaDoorCuTriA
set_option linter.unusedVariables false
set_option linter.unusedSimpArgs false
namespace Go.Proofs.YtjnhdamilbcmpaaDoor.PTm
open Go.RowKit Go.Proofs.YtjnhdamilbcmpaaDoorW.PrintWords Go.Proofs.YtjnhdamilbcmpaaDoorW.PrintLast Go.Proofs.YtjnhdamilbcmpaaDoorW.PrintMore
def unS (q : Sm) : Sy := (q.f0, q.f1, q.f2.f0, q.f2.f1, q.f2.f2)
theorem lexN_tok (N : Nat) (c : Int) (t : List Int) (y : Sy) (r' : List Int) (h1 : c ≠ 35) (h2 : ¬ (c = 9 ∨ c = 10 ∨ c = 13 ∨ c = 32)) (h : tokL (c :: t) = some (y, r')) : ((lexN N (c :: t)).1.map unS = y :: (lexN N r').1.map unS) ∧ (lexN N (c :: t)).2 = (lexN N r').2 := by
 rw [lexN_step, skipL, if_neg h1, if_neg h2]
 dsimp only
 rw [h]
 exact ⟨rfl, rfl⟩
theorem lexN_sp (N : Nat) (q : List Int) : lexN N (32 :: q) = lexN N q := lexN_skip N _ _ (by rw [skipL, if_neg (by decide), if_pos (by decide)])
theorem lexN_nl (N : Nat) (q : List Int) : lexN N (10 :: q) = lexN N q := lexN_skip N _ _ (by rw [skipL, if_neg (by decide), if_pos (by decide)])
theorem span_all32 (f : Bool → Int → Bool) (hf : ∀ b, f b 32 = false) (q : List Int) : ∀ (l : List Int) (b : Bool), spanF f b l = (l, []) → spanF f b (l ++ 32 :: q) = (l, 32 :: q)
 | [], b, _ => by rw [List.nil_append, spanF, if_neg (by rw [hf b]; decide)]
 | c :: l, b, h => by
  rw [spanF] at h
  by_cases hc : f b c = true
  ·rw [if_pos hc] at h
   have h1 := congrArg Prod.fst h
   have h2 := congrArg Prod.snd h
   dsimp only at h1 h2
   have h3 := (List.cons.inj h1).2
   rw [List.cons_append, spanF, if_pos hc, span_all32 f hf q l true (Prod.ext h3 h2)]
  ·rw [if_neg hc] at h
   cases h
theorem blank_tok32 (t : ByteArray) (ht : blankB t = true) (q : List Int) : tokL (95 :: 58 :: (bys t ++ 32 :: q)) = some ((2, nob, 2, t, nob), 32 :: q) := by
 have hb := ht
 unfold blankB at hb
 rw [Bool.and_eq_true, decide_eq_true_eq] at hb
 have hs0 : spanF namedF false (bys t) = (bys t, []) := by
  refine span_all namedF _ false fun j hj => ?_
  rw [bys_length] at hj
  have := List.all_eq_true.1 hb.2 j (List.mem_range.2 hj)
  rw [bys_getD t j hj, Bool.false_or]
  unfold okB at this
  unfold namedF
  rw [show decide (0 < j) = (j != 0) by cases j <;> simp]
  exact this
 have hs := span_all32 namedF (by decide) q _ _ hs0
 have hm : mayB 2 t nob = true := by
  unfold mayB
  rw [if_neg (by decide), if_pos rfl, ht, nob_nil]
  rfl
 have hi : blankO (95 :: 58 :: (bys t ++ 32 :: q)) = some (some ((2, nob, 2, t, nob), 32 :: q)) := by
  unfold blankO
  rw [hd0_cons, if_pos rfl, show (95 :: 58 :: (bys t ++ 32 :: q)).drop 1 = 58 :: (bys t ++ 32 :: q) from rfl, hd0_cons, if_pos rfl, show (95 :: 58 :: (bys t ++ 32 :: q)).drop 2 = bys t ++ 32 :: q from rfl, hs]
  dsimp only
  rw [if_neg (by rw [bys_length]; omega), str_bys, if_pos hm]
 rw [tokL_eq, hi]
 rfl
theorem lang_tok32 (x : ByteArray) (hx : tagB x = true) (q : List Int) : tokL (64 :: (bys x ++ 32 :: q)) = some ((4, x, 0, nob, nob), 32 :: q) := by
 have hb := hx
 unfold tagB at hb
 rw [Bool.and_eq_true, decide_eq_true_eq, tagQ_Qe, tagQe_M] at hb
 have hs0 : spanF langF false (bys x) = (bys x, []) := by
  refine span_all langF _ false fun j hj => ?_
  refine tagM_all (bys x) true true _ hb.1 _ ?_
  rw [List.getD_eq_getElem?_getD, List.getElem?_eq_getElem hj]
  exact List.getElem_mem hj
 have hs := span_all32 langF (by decide) q _ _ hs0
 have hm : mayB 4 nob x = true := by
  unfold mayB
  rw [if_neg (by decide), if_neg (by decide), if_neg (by decide), if_pos rfl, hx]
  decide +kernel
 have hi : langO (64 :: (bys x ++ 32 :: q)) = some (some ((4, x, 0, nob, nob), 32 :: q)) := by
  unfold langO
  rw [hd0_cons, if_pos rfl, show (64 :: (bys x ++ 32 :: q)).drop 1 = bys x ++ 32 :: q from rfl, hs]
  dsimp only
  rw [if_neg (by rw [bys_length]; omega), str_bys, if_pos hm]
 rw [tokL_eq, hi]
 rfl
theorem dot_tok (q : List Int) : tokL (46 :: q) = some ((8, (⟨#[46]⟩ : ByteArray), 0, nob, nob), q) := by
 have hw : wordO (46 :: q) = none := by
  unfold wordO
  rw [if_neg]
  rintro (h | h)
  ·revert h
   show ¬ letterB 46 = true
   decide
  ·exact absurd h.1 (by show ¬ (46 : Int) = 58; decide)
 rw [tokL_eq, hw]
 rfl
def symT (n : Int) (t x : ByteArray) : List Sy := if n = 1 then [(1, nob, 1, t, nob)] else if n = 2 then [(2, nob, 2, t, nob)] else if n = 3 then [(3, t, 0, nob, nob)] else if n = 4 then [(3, t, 0, nob, nob), (4, x, 0, nob, nob)] else [(3, t, 0, nob, nob), (8, caret, 0, nob, nob), (1, nob, 1, x, nob)]
theorem lex_term (N : Nat) (n : Int) (t x : ByteArray) (hm : mayB n t x = true) (q : List Int) : ((lexN N (bys (textB n t x) ++ 32 :: q)).1.map unS = symT n t x ++ (lexN N q).1.map unS) ∧ (lexN N (bys (textB n t x) ++ 32 :: q)).2 = (lexN N q).2 := by
 unfold mayB at hm
 by_cases n1 : n = 1
 ·subst n1
  rw [if_pos rfl, Bool.and_eq_true, beq_iff_eq] at hm
  have hb : bys (textB 1 t x) ++ 32 :: q = 60 :: (bys t ++ 62 :: 32 :: q) := by
   unfold textB
   rw [if_pos rfl, bys_append, bys_append]
   simp only [List.append_assoc]
   rfl
  obtain ⟨e1, e2⟩ := lexN_tok N 60 _ _ _ (by decide) (by decide) (iri_tok t hm.1 (32 :: q))
  rw [hb, e1, e2, lexN_sp]
  exact ⟨rfl, rfl⟩
 rw [if_neg n1] at hm
 by_cases n2 : n = 2
 ·subst n2
  rw [if_pos rfl, Bool.and_eq_true, beq_iff_eq] at hm
  have hb : bys (textB 2 t x) ++ 32 :: q = 95 :: 58 :: (bys t ++ 32 :: q) := by
   unfold textB
   rw [if_neg (by decide), if_pos rfl, bys_append]
   simp only [List.append_assoc]
   rfl
  obtain ⟨e1, e2⟩ := lexN_tok N 95 _ _ _ (by decide) (by decide) (blank_tok32 t hm.1 q)
  rw [hb, e1, e2, lexN_sp]
  exact ⟨rfl, rfl⟩
 rw [if_neg n2] at hm
 have hwr := bys_written t
 by_cases n3 : n = 3
 ·subst n3
  have hT : textB 3 t x = writtenB t := by
   unfold textB
   rw [if_neg (by decide), if_neg (by decide), if_neg (by decide), if_neg (by decide)]
  have hb : bys (textB 3 t x) ++ 32 :: q = 34 :: ((bys t).flatMap escL ++ 34 :: 32 :: q) := by
   rw [hT, hwr]
   simp only [List.cons_append, List.append_assoc, List.nil_append]
  obtain ⟨e1, e2⟩ := lexN_tok N 34 _ _ _ (by decide) (by decide) (text_tok t (32 :: q))
  rw [hb, e1, e2, lexN_sp]
  exact ⟨rfl, rfl⟩
 rw [if_neg n3] at hm
 by_cases n4 : n = 4
 ·subst n4
  rw [if_pos rfl, Bool.and_eq_true] at hm
  have hT : textB 4 t x = (writtenB t ++ (⟨#[64]⟩ : ByteArray)) ++ x := by
   unfold textB
   rw [if_neg (by decide), if_neg (by decide), if_pos rfl]
  have hb : bys (textB 4 t x) ++ 32 :: q = 34 :: ((bys t).flatMap escL ++ 34 :: (64 :: (bys x ++ 32 :: q))) := by
   rw [hT, bys_append, bys_append, hwr, show bys (⟨#[64]⟩ : ByteArray) = [64] from rfl]
   simp only [List.cons_append, List.append_assoc, List.nil_append]
  obtain ⟨e1, e2⟩ := lexN_tok N 34 _ _ _ (by decide) (by decide) (text_tok t (64 :: (bys x ++ 32 :: q)))
  obtain ⟨e3, e4⟩ := lexN_tok N 64 _ _ _ (by decide) (by decide) (lang_tok32 x hm.2 q)
  rw [hb, e1, e2, e3, e4, lexN_sp]
  exact ⟨rfl, rfl⟩
 rw [if_neg n4] at hm
 by_cases n5 : n = 5
 ·subst n5
  rw [if_pos rfl, Bool.and_eq_true, Bool.and_eq_true, bne_iff_ne] at hm
  have hT : textB 5 t x = ((writtenB t ++ (⟨#[94, 94, 60]⟩ : ByteArray)) ++ x) ++ (⟨#[62]⟩ : ByteArray) := by
   unfold textB
   rw [if_neg (by decide), if_neg (by decide), if_neg (by decide), if_pos rfl]
  have hb : bys (textB 5 t x) ++ 32 :: q = 34 :: ((bys t).flatMap escL ++ 34 :: (94 :: 94 :: (60 :: (bys x ++ 62 :: 32 :: q)))) := by
   rw [hT, bys_append, bys_append, bys_append, hwr, show bys (⟨#[94, 94, 60]⟩ : ByteArray) = [94, 94, 60] from rfl, show bys (⟨#[62]⟩ : ByteArray) = [62] from rfl]
   simp only [List.cons_append, List.append_assoc, List.nil_append]
  obtain ⟨e1, e2⟩ := lexN_tok N 34 _ _ _ (by decide) (by decide) (text_tok t (94 :: 94 :: (60 :: (bys x ++ 62 :: 32 :: q))))
  obtain ⟨e3, e4⟩ := lexN_tok N 94 _ _ _ (by decide) (by decide) (caret_tok (60 :: (bys x ++ 62 :: 32 :: q)))
  obtain ⟨e5, e6⟩ := lexN_tok N 60 _ _ _ (by decide) (by decide) (iri_tok x hm.2.1 (32 :: q))
  rw [hb, e1, e2, e3, e4, e5, e6, lexN_sp]
  exact ⟨rfl, rfl⟩
 ·rw [if_neg n5] at hm
  cases hm
def dotY : Sy := (8, (⟨#[46]⟩ : ByteArray), 0, nob, nob)
def symX (x : Tr) : List Sy := symT x.f0.f0 x.f0.f1 x.f0.f2 ++ (symT x.f1.f0 x.f1.f1 x.f1.f2 ++ (symT x.f2.f0 x.f2.f1 x.f2.f2 ++ [dotY]))
theorem lex_trip (N : Nat) (x : Tr) (h : addB x = true) (q : List Int) : ((lexN N (bys (tripB x) ++ 10 :: q)).1.map unS = symX x ++ (lexN N q).1.map unS) ∧ (lexN N (bys (tripB x) ++ 10 :: q)).2 = (lexN N q).2 := by
 obtain ⟨m1, m2, m3⟩ := may_of h
 have hb : bys (tripB x) ++ 10 :: q = bys (textB x.f0.f0 x.f0.f1 x.f0.f2) ++ 32 :: (bys (textB x.f1.f0 x.f1.f1 x.f1.f2) ++ 32 :: (bys (textB x.f2.f0 x.f2.f1 x.f2.f2) ++ 32 :: (46 :: 10 :: q))) := by
  unfold tripB tripleB
  simp only [bys_append, List.append_assoc]
  rfl
 obtain ⟨a1, b1⟩ := lex_term N _ _ _ m1 (bys (textB x.f1.f0 x.f1.f1 x.f1.f2) ++ 32 :: (bys (textB x.f2.f0 x.f2.f1 x.f2.f2) ++ 32 :: (46 :: 10 :: q)))
 obtain ⟨a2, b2⟩ := lex_term N _ _ _ m2 (bys (textB x.f2.f0 x.f2.f1 x.f2.f2) ++ 32 :: (46 :: 10 :: q))
 obtain ⟨a3, b3⟩ := lex_term N _ _ _ m3 (46 :: 10 :: q)
 obtain ⟨a4, b4⟩ := lexN_tok N 46 _ _ _ (by decide) (by decide) (dot_tok (10 :: q))
 rw [hb, a1, a2, a3, a4, b1, b2, b3, b4, lexN_nl]
 refine ⟨?_, rfl⟩
 unfold symX
 simp only [List.append_assoc]
 rfl
def docB : List Tr → ByteArray
 | [] => nob
 | x :: l => tripB x ++ (⟨#[10]⟩ : ByteArray) ++ docB l
theorem un_eq {q : Sm} {a b c d e} (h : unS q = (a, b, c, d, e)) : q.f0 = a ∧ q.f1 = b ∧ q.f2 = ⟨c, d, e⟩ := by
 unfold unS at h
 obtain ⟨⟨h3, h4, h5⟩⟩ : True ∧ True := ⟨trivial, trivial⟩
 simp only [Prod.mk.injEq] at h
 obtain ⟨rfl, rfl, rfl, rfl, rfl⟩ := h
 exact ⟨rfl, rfl, rfl⟩
theorem map_cons {ls : List Sm} {y : Sy} {ys : List Sy} (h : ls.map unS = y :: ys) : ∃ q r, ls = q :: r ∧ unS q = y ∧ r.map unS = ys := by
 cases ls with
 | nil => cases h
 | cons q r =>
  rw [List.map_cons] at h
  exact ⟨q, r, rfl, (List.cons.inj h).1, (List.cons.inj h).2⟩
def Fine (ys : List Sy) : Prop := ∀ y r, ys = y :: r → y.1 ≠ 4 ∧ ¬ (y.1 = 8 ∧ y.2.1 = caret)
theorem ext_plain {r : List Sm} {ys : List Sy} (h : r.map unS = ys) (hf : Fine ys) : extL r = (3, nob, 1) := by
 match r, h with
 | [], _ => rfl
 | [q1], h =>
  obtain ⟨f1, f2⟩ := hf (unS q1) [] h.symm
  rw [ext1]
  exact if_neg f1
 | q1 :: q2 :: r', h =>
  obtain ⟨f1, f2⟩ := hf (unS q1) _ h.symm
  have g1 : ¬ q1.f0 = 4 := f1
  have g2 : ¬ (q1.f0 = 8 ∧ q1.f1 = caret ∧ q2.f0 = 1) := fun g => f2 ⟨g.1, g.2.1⟩
  rw [ext2, if_neg g1, if_neg g2]
theorem read_sym (n : Int) (t x : ByteArray) (hm : mayB n t x = true) (ys : List Sy) (hf : Fine ys) (ls : List Sm) (h : ls.map unS = symT n t x ++ ys) : readL ls = some (⟨n, t, x⟩, (symT n t x).length) ∧ (ls.drop (symT n t x).length).map unS = ys := by
 refine ⟨?_, by rw [List.map_drop, h, List.drop_left]⟩
 have hm0 := hm
 unfold mayB at hm
 unfold symT at h ⊢
 by_cases n1 : n = 1
 ·subst n1
  rw [if_pos rfl, Bool.and_eq_true, beq_iff_eq] at hm
  obtain rfl := nil_of hm.2
  rw [if_pos rfl] at h ⊢
  obtain ⟨q, r, rfl, h1, h2⟩ := map_cons h
  obtain ⟨e0, e1, e2⟩ := un_eq h1
  rw [readL_cons]
  rw [e0, if_neg (by decide), if_neg (by decide), if_pos rfl, e2]
  rfl
 rw [if_neg n1] at hm h ⊢
 by_cases n2 : n = 2
 ·subst n2
  rw [if_pos rfl, Bool.and_eq_true, beq_iff_eq] at hm
  obtain rfl := nil_of hm.2
  rw [if_pos rfl] at h ⊢
  obtain ⟨q, r, rfl, h1, h2⟩ := map_cons h
  obtain ⟨e0, e1, e2⟩ := un_eq h1
  rw [readL_cons]
  rw [e0, if_pos rfl, e2]
  rfl
 rw [if_neg n2] at hm h ⊢
 by_cases n3 : n = 3
 ·subst n3
  rw [if_pos rfl, Bool.and_eq_true, beq_iff_eq] at hm
  obtain rfl := nil_of hm.2
  rw [if_pos rfl] at h ⊢
  obtain ⟨q, r, rfl, h1, h2⟩ := map_cons h
  obtain ⟨e0, e1, e2⟩ := un_eq h1
  rw [readL_cons]
  rw [e0, if_neg (by decide), if_pos rfl, ext_plain h2 hf, e1, show fixL (3, nob, 1) = (3, nob) from by unfold fixL; rw [if_neg (fun g => absurd g.2 (by decide))], if_pos hm0]
  rfl
 rw [if_neg n3] at hm h ⊢
 by_cases n4 : n = 4
 ·subst n4
  rw [if_pos rfl] at h ⊢
  obtain ⟨q, r, rfl, h1, h2⟩ := map_cons h
  obtain ⟨q1, r1, rfl, h3, h4⟩ := map_cons h2
  obtain ⟨e0, e1, e2⟩ := un_eq h1
  obtain ⟨g0, g1, g2⟩ := un_eq h3
  have hx : extL (q1 :: r1) = (4, x, 2) := by
   cases r1 with
   | nil => rw [ext1, if_pos g0, g1]
   | cons q2 r2 => rw [ext2, if_pos g0, g1]
  rw [readL_cons]
  rw [e0, if_neg (by decide), if_pos rfl, hx, e1, show fixL (4, x, 2) = (4, x) from by unfold fixL; rw [if_neg (fun g => absurd g.2 (by show ¬ (4 : Int) = 5; decide))], if_pos hm0]
  rfl
 rw [if_neg n4] at hm h ⊢
 by_cases n5 : n = 5
 ·subst n5
  rw [if_pos rfl, Bool.and_eq_true, Bool.and_eq_true, bne_iff_ne] at hm
  obtain ⟨q, r, rfl, h1, h2⟩ := map_cons h
  obtain ⟨q1, r1, rfl, h3, h4⟩ := map_cons h2
  obtain ⟨q2, r2, rfl, h5, h6⟩ := map_cons h4
  obtain ⟨e0, e1, e2⟩ := un_eq h1
  obtain ⟨g0, g1, g2⟩ := un_eq h3
  obtain ⟨k0, k1, k2⟩ := un_eq h5
  have hx : extL (q1 :: q2 :: r2) = (5, x, 3) := by
   rw [ext2]
   rw [if_neg (by rw [g0]; decide), if_pos ⟨g0, g1, k0⟩, k2]
  rw [readL_cons]
  rw [e0, if_neg (by decide), if_pos rfl, hx, e1, show fixL (5, x, 3) = (5, x) from by unfold fixL; rw [if_neg (fun g => hm.2.2 g.1)], if_pos hm0]
  rfl
 ·rw [if_neg n5] at hm
  cases hm
theorem sym_head (n : Int) (t x : ByteArray) (ys : List Sy) : Fine (symT n t x ++ ys) := by
 intro y r h
 unfold symT at h
 split at h
 ·cases h; exact ⟨by show (1 : Int) ≠ 4; decide, fun g => absurd g.1 (by show ¬ (1 : Int) = 8; decide)⟩
 ·split at h
  ·cases h; exact ⟨by show (2 : Int) ≠ 4; decide, fun g => absurd g.1 (by show ¬ (2 : Int) = 8; decide)⟩
  ·split at h
   ·cases h; exact ⟨by show (3 : Int) ≠ 4; decide, fun g => absurd g.1 (by show ¬ (3 : Int) = 8; decide)⟩
   ·split at h
    ·cases h; exact ⟨by show (3 : Int) ≠ 4; decide, fun g => absurd g.1 (by show ¬ (3 : Int) = 8; decide)⟩
    ·cases h; exact ⟨by show (3 : Int) ≠ 4; decide, fun g => absurd g.1 (by show ¬ (3 : Int) = 8; decide)⟩
theorem dot_head (ys : List Sy) : Fine (dotY :: ys) := by
 intro y r h
 cases h
 exact ⟨by decide, fun g => absurd g.2 (by decide)⟩
theorem rd3_sym (x : Tr) (h : addB x = true) (ys : List Sy) (ls : List Sm) (hl : ls.map unS = symX x ++ ys) : ∃ q l4, rd3 ls = .inl (x.f0, x.f1, x.f2, q :: l4) ∧ dotS q ∧ l4.map unS = ys := by
 obtain ⟨m1, m2, m3⟩ := may_of h
 unfold symX at hl
 rw [List.append_assoc, List.append_assoc, List.append_assoc] at hl
 obtain ⟨r1, d1⟩ := read_sym _ _ _ m1 _ (sym_head _ _ _ _) ls hl
 obtain ⟨r2, d2⟩ := read_sym _ _ _ m2 _ (sym_head _ _ _ _) _ d1
 obtain ⟨r3, d3⟩ := read_sym _ _ _ m3 _ (dot_head _) _ d2
 obtain ⟨q, l4, e, hq, h4⟩ := map_cons d3
 refine ⟨q, l4, ?_, ?_, h4⟩
 ·unfold rd3
  rw [r1]
  dsimp only
  rw [r2]
  dsimp only
  rw [r3]
  dsimp only
  rw [e]
 ·obtain ⟨e0, e1, _⟩ := un_eq hq
  exact ⟨e0, e1⟩
theorem parse_sym : ∀ (l : List Tr), (∀ x ∈ l, addB x = true) → ∀ (d : Nat) (ls : List Sm) (out : List Tr), l.length < d → ls.map unS = l.flatMap symX → parseL d ls out = .inl (out ++ l)
 | [], _, d, ls, out, hd, hl => by
  obtain ⟨d, rfl⟩ : ∃ q, d = q + 1 := ⟨d - 1, by omega⟩
  obtain rfl : ls = [] := List.map_eq_nil_iff.1 hl
  rw [parseL, List.append_nil]
 | x :: l, h, d, ls, out, hd, hl => by
  obtain ⟨d, rfl⟩ : ∃ q, d = q + 1 := ⟨d - 1, by omega⟩
  rw [List.length_cons] at hd
  rw [List.flatMap_cons] at hl
  have hx := h x (List.mem_cons_self ..)
  obtain ⟨q, l4, h3, hq, h4⟩ := rd3_sym x hx _ ls hl
  cases ls with
  | nil => cases h3
  | cons q0 r0 =>
   rw [parseL]
   rw [h3]
   dsimp only
   rw [if_pos hx, if_pos hq, parse_sym l (fun y hy => h y (List.mem_cons_of_mem _ hy)) d l4 _ (by omega) h4, List.append_assoc]
   rfl
end Go.Proofs.YtjnhdamilbcmpaaDoor.PTm

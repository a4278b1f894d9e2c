import Derived.Test.YtjnhdamilbcmpaaDoorCuTriB
set_option linter.unusedVariables false
set_option linter.unusedSimpArgs false
namespace Go.Proofs.YtjnhdamilbcmpaaDoor.PTm
open Go.RowKit Go.Proofs.YtjnhdamilbcmpaaDoorW.PrintWords Go.Proofs.YtjnhdamilbcmpaaDoorW.PrintLast Go.Proofs.YtjnhdamilbcmpaaDoorW.PrintMore
def dotYP (y : Sy) : Prop := y.1 = 8 ∧ y.2.1 = (⟨#[46]⟩ : ByteArray)
def NoDot (o : List Sm × Option Nat) : Prop := o.2 = none → ∀ y ∈ o.1.map unS, ¬ dotYP y
theorem nd_nil (N : Nat) : NoDot (lexN N []) := fun _ y h => by cases h
theorem nd_err (N : Nat) (c : Int) (t : List Int) (h1 : c ≠ 35) (h2 : ¬ (c = 9 ∨ c = 10 ∨ c = 13 ∨ c = 32)) (h : tokL (c :: t) = none) : NoDot (lexN N (c :: t)) := by
 intro e
 rw [lexN_step, skipL, if_neg h1, if_neg h2] at e
 dsimp only at e
 rw [h] at e
 cases e
theorem nd_tok (N : Nat) (c : Int) (t : List Int) (y : Sy) (r' : List Int) (h1 : c ≠ 35) (h2 : ¬ (c = 9 ∨ c = 10 ∨ c = 13 ∨ c = 32)) (h : tokL (c :: t) = some (y, r')) (hy : ¬ dotYP y) (hr : NoDot (lexN N r')) : NoDot (lexN N (c :: t)) := by
 obtain ⟨e1, e2⟩ := lexN_tok N c t y r' h1 h2 h
 intro e z hz
 rw [e2] at e
 rw [e1] at hz
 rcases List.mem_cons.1 hz with rfl | hz
 ·exact hy
 ·exact hr e z hz
theorem nd_of (N : Nat) (c : Int) (t : List Int) (h1 : c ≠ 35) (h2 : ¬ (c = 9 ∨ c = 10 ∨ c = 13 ∨ c = 32)) (h : ∀ y r', tokL (c :: t) = some (y, r') → ¬ dotYP y ∧ NoDot (lexN N r')) : NoDot (lexN N (c :: t)) := by
 cases ht : tokL (c :: t) with
 | none => exact nd_err N c t h1 h2 ht
 | some z => exact nd_tok N c t z.1 z.2 h1 h2 ht (h z.1 z.2 ht).1 (h z.1 z.2 ht).2
theorem pre_app_or {p a b : List Int} (h : p <+: a ++ b) : p <+: a ∨ ∃ q, p = a ++ q ∧ q <+: b := by
 induction a generalizing p with
 | nil => exact .inr ⟨p, rfl, h⟩
 | cons c a ih =>
  cases p with
  | nil => exact .inl (List.nil_prefix)
  | cons d p =>
   rw [List.cons_append, List.cons_prefix_cons] at h
   obtain ⟨rfl, h⟩ := h
   rcases ih h with h | ⟨q, rfl, hq⟩
   ·exact .inl (List.cons_prefix_cons.2 ⟨rfl, h⟩)
   ·exact .inr ⟨q, rfl, hq⟩
theorem pre_cons {p b : List Int} {c : Int} (h : p <+: c :: b) : p = [] ∨ ∃ q, p = c :: q ∧ q <+: b := by
 cases p with
 | nil => exact .inl rfl
 | cons d p =>
  obtain ⟨rfl, h2⟩ := List.cons_prefix_cons.1 h
  exact .inr ⟨p, rfl, h2⟩
theorem plain_cut (en : Int) : ∀ (l : List Int), (∀ c ∈ l, c ≠ en ∧ c ≠ 92) → ∀ k, quotedL en false k l = none
 | _, _, 0 => rfl
 | [], _, k + 1 => rfl
 | c :: l, h, k + 1 => by
  have ih := plain_cut en l (fun d hd => h d (List.mem_cons_of_mem _ hd)) k
  obtain ⟨h1, h2⟩ := h c List.mem_cons_self
  rw [quotedL, if_neg h1, if_neg (fun h => absurd h.1 (by decide)), if_neg h2, ih]
theorem esc_cut0 (c : Int) (h : 0 ≤ c ∧ c ≤ 255) : ∀ i : Nat, i + 1 < (escL c).length → escP true (((escL c).drop 1).take i) = none := by
 have key := byte_all (fun c => (List.range 6).all fun i => !(decide (i + 1 < (escL c).length)) || (escP true (((escL c).drop 1).take i)).isNone) (by decide +kernel) c h
 intro i hi
 have h6 := (escL_len c).2
 have := List.all_eq_true.1 key i (List.mem_range.2 (by omega))
 rw [decide_eq_true hi] at this
 simpa using this
theorem quoted_cut : ∀ (l : List Int), (∀ c ∈ l, 0 ≤ c ∧ c ≤ 255) → ∀ p, p <+: l.flatMap escL → ∀ k, quotedL 34 true k p = none
 | _, _, p, _, 0 => rfl
 | [], _, p, hp, k + 1 => by
  rw [List.flatMap_nil] at hp
  rw [List.prefix_nil.1 hp]
  rfl
 | c :: l, h, p, hp, k + 1 => by
  have ih := fun p hp => quoted_cut l (fun d hd => h d (List.mem_cons_of_mem _ hd)) p hp k
  have hc := h c List.mem_cons_self
  rw [List.flatMap_cons] at hp
  rcases esc_back c hc with ⟨e, h1, h2, h3, h4⟩ | ⟨r, e, hr⟩
  ·rw [e] at hp
   rcases pre_cons hp with rfl | ⟨q, rfl, hq⟩
   ·rfl
   ·replace hq : q <+: l.flatMap escL := hq
    rw [quotedL, if_neg h1, if_neg (fun h => h.2.elim h3 h4), if_neg h2, ih q hq]
  ·have hcut := esc_cut0 c hc
   rw [e] at hp hcut
   rw [List.cons_append] at hp
   rcases pre_cons hp with rfl | ⟨q, rfl, hq⟩
   ·rfl
   ·rw [quotedL, if_neg (by decide), if_neg (fun h => absurd h.2 (by decide)), if_pos rfl]
    rcases pre_app_or hq with hq | ⟨q2, rfl, hq2⟩
    ·obtain ⟨m, rfl⟩ := hq
     by_cases hm : m = []
     ·subst hm
      rw [List.append_nil] at hr
      rw [hr]
      dsimp only
      rw [ih [] List.nil_prefix]
     ·have hlen : 1 ≤ m.length := by
       cases m with
       | nil => exact absurd rfl hm
       | cons a m => rw [List.length_cons]; omega
      have := hcut q.length (by rw [List.length_cons, List.length_append]; omega)
      rw [List.drop_succ_cons, List.drop_zero, List.take_left] at this
      rw [this]
    ·have ha := esc_app true q2 r _ _ hr
     rw [List.nil_append] at ha
     rw [ha]
     dsimp only
     rw [ih q2 hq2]
theorem span_pre (f : Bool → Int → Bool) : ∀ (l : List Int) (b : Bool), spanF f b l = (l, []) → ∀ p, p <+: l → spanF f b p = (p, [])
 | l, b, _, [], _ => by cases b <;> rfl
 | [], b, _, c :: p, hp => by cases List.prefix_nil.1 hp
 | d :: l, b, h, c :: p, hp => by
  obtain ⟨rfl, hp2⟩ := List.cons_prefix_cons.1 hp
  rw [spanF] at h ⊢
  by_cases hc : f b c = true
  ·rw [if_pos hc] at h ⊢
   have h1 := congrArg Prod.fst h
   have h2 := congrArg Prod.snd h
   dsimp only at h1 h2
   rw [span_pre f l true (Prod.ext (List.cons.inj h1).2 h2) p hp2]
  ·rw [if_neg hc] at h
   cases h
theorem iri_chars (t : ByteArray) (ht : iriB t = true) : ∀ c ∈ bys t, c ≠ 62 ∧ c ≠ 92 := by
 have hb := ((iriB_iff t).1 ht).2.2.2
 intro c hc
 obtain ⟨j, hj, rfl⟩ := List.mem_iff_getElem.1 hc
 rw [bys_length] at hj
 have e := bys_get t j hj
 have e2 := (List.getElem?_eq_some_iff.1 e).2
 rw [e2]
 have := hb j hj
 constructor
 ·intro h
  rw [h] at this
  revert this
  decide
 ·intro h
  rw [h] at this
  revert this
  decide
theorem kind_nd {y : Sy} (h : y.1 ≠ 8) : ¬ dotYP y := fun g => h g.1
theorem cut_iri (N : Nat) (t : ByteArray) (ht : iriB t = true) (p : List Int) (hp : p <+: bys t ++ [62]) : NoDot (lexN N (60 :: p)) := by
 rcases pre_app_or hp with hp | ⟨q, rfl, hq⟩
 ·refine nd_err N 60 p (by decide) (by decide) ?_
  have hi : iriO (60 :: p) = some none := by
   unfold iriO
   rw [hd0_cons, if_pos rfl, show (60 :: p).drop 1 = p from rfl, plain_cut 62 p (fun c hc => iri_chars t ht c (hp.subset hc))]
  rw [tokL_eq, hi]
  rfl
 ·rcases pre_cons hq with rfl | ⟨q2, rfl, hq2⟩
  ·refine nd_err N 60 _ (by decide) (by decide) ?_
   have hi : iriO (60 :: (bys t ++ [])) = some none := by
    unfold iriO
    rw [hd0_cons, if_pos rfl, show (60 :: (bys t ++ [])).drop 1 = bys t ++ [] from rfl, List.append_nil, plain_cut 62 _ (iri_chars t ht)]
   rw [tokL_eq, hi]
   rfl
  ·rw [List.prefix_nil.1 hq2]
   exact nd_tok N 60 _ _ _ (by decide) (by decide) (iri_tok t ht []) (kind_nd (by show (1 : Int) ≠ 8; decide)) (nd_nil N)
theorem quoted_end (N : Nat) (t : ByteArray) (p : List Int) (hp : p <+: (bys t).flatMap escL) : NoDot (lexN N (34 :: p)) := by
 refine nd_err N 34 p (by decide) (by decide) ?_
 have hi : textO (34 :: p) = some none := by
  unfold textO
  rw [hd0_cons, if_pos rfl, show (34 :: p).drop 1 = p from rfl, quoted_cut (bys t) (fun c hc => bys_in t c hc) p hp]
 rw [tokL_eq, hi]
 rfl
theorem cut_quoted (N : Nat) (t : ByteArray) (q : List Int) (H : ∀ p, p <+: q → NoDot (lexN N p)) (p : List Int) (hp : p <+: (bys t).flatMap escL ++ 34 :: q) : NoDot (lexN N (34 :: p)) := by
 rcases pre_app_or hp with hp | ⟨q1, rfl, hq⟩
 ·exact quoted_end N t p hp
 ·rcases pre_cons hq with rfl | ⟨q2, rfl, hq2⟩
  ·rw [List.append_nil]
   exact quoted_end N t _ (List.prefix_refl _)
  ·exact nd_tok N 34 _ _ _ (by decide) (by decide) (text_tok t q2) (kind_nd (by show (3 : Int) ≠ 8; decide)) (H q2 hq2)
theorem cut_lang (N : Nat) (x : ByteArray) (hx : tagB x = true) (p : List Int) (hp : p <+: 64 :: bys x) : NoDot (lexN N p) := by
 rcases pre_cons hp with rfl | ⟨q, rfl, hq⟩
 ·exact nd_nil N
 have hb := hx
 unfold tagB at hb
 rw [Bool.and_eq_true, decide_eq_true_eq, tagQ_Qe, tagQe_M] at hb
 have hs0 : spanF langF false (bys x) = (bys x, []) := by
  refine span_all langF _ false fun j hj => ?_
  refine tagM_all (bys x) true true _ hb.1 _ ?_
  rw [List.getD_eq_getElem?_getD, List.getElem?_eq_getElem hj]
  exact List.getElem_mem hj
 have hs := span_pre langF _ _ hs0 q hq
 refine nd_of N 64 q (by decide) (by decide) fun y r' h => ?_
 have hi : langO (64 :: q) = some (if q.length > 35 then none else if mayB 4 nob (strOfNums q) = true then some ((4, strOfNums q, 0, nob, nob), []) else none) := by
  unfold langO
  rw [hd0_cons, if_pos rfl, show (64 :: q).drop 1 = q from rfl, hs]
 have hk : tokL (64 :: q) = if q.length > 35 then none else if mayB 4 nob (strOfNums q) = true then some ((4, strOfNums q, 0, nob, nob), []) else none := by
  rw [tokL_eq, hi]
  rfl
 rw [hk] at h
 split at h
 ·cases h
 ·split at h
  ·cases h
   exact ⟨kind_nd (by show (4 : Int) ≠ 8; decide), nd_nil N⟩
  ·cases h
theorem cut_blank (N : Nat) (t : ByteArray) (ht : blankB t = true) (p : List Int) (hp : p <+: 95 :: 58 :: bys t) : NoDot (lexN N p) := by
 rcases pre_cons hp with rfl | ⟨q0, rfl, hq0⟩
 ·exact nd_nil N
 rcases pre_cons hq0 with rfl | ⟨q, rfl, hq⟩
 ·exact nd_err N 95 [] (by decide) (by decide) (by decide +kernel)
 have hb := ht
 unfold blankB at hb
 rw [Bool.and_eq_true, decide_eq_true_eq] at hb
 have hs0 : spanF namedF false (bys t) = (bys t, []) := by
  refine span_all namedF _ false fun j hj => ?_
  rw [bys_length] at hj
  have := List.all_eq_true.1 hb.2 j (List.mem_range.2 hj)
  rw [bys_getD t j hj, Bool.false_or]
  unfold okB at this
  unfold namedF
  rw [show decide (0 < j) = (j != 0) by cases j <;> simp]
  exact this
 have hs := span_pre namedF _ _ hs0 q hq
 refine nd_of N 95 (58 :: q) (by decide) (by decide) fun y r' h => ?_
 have hi : blankO (95 :: 58 :: q) = some (if q.length > 64 then none else if mayB 2 (strOfNums q) nob = true then some ((2, nob, 2, strOfNums q, nob), []) else none) := by
  unfold blankO
  rw [hd0_cons, if_pos rfl, show (95 :: 58 :: q).drop 1 = 58 :: q from rfl, hd0_cons, if_pos rfl, show (95 :: 58 :: q).drop 2 = q from rfl, hs]
 have hk : tokL (95 :: 58 :: q) = if q.length > 64 then none else if mayB 2 (strOfNums q) nob = true then some ((2, nob, 2, strOfNums q, nob), []) else none := by
  rw [tokL_eq, hi]
  rfl
 rw [hk] at h
 split at h
 ·cases h
 ·split at h
  ·cases h
   exact ⟨kind_nd (by show (2 : Int) ≠ 8; decide), nd_nil N⟩
  ·cases h
theorem caret_nd : ¬ dotYP (8, (⟨#[94, 94]⟩ : ByteArray), 0, nob, nob) := fun g => absurd g.2 (by decide)
theorem cut_typed (N : Nat) (x : ByteArray) (hx : iriB x = true) (p : List Int) (hp : p <+: 94 :: 94 :: 60 :: (bys x ++ [62])) : NoDot (lexN N p) := by
 rcases pre_cons hp with rfl | ⟨q0, rfl, hq0⟩
 ·exact nd_nil N
 rcases pre_cons hq0 with rfl | ⟨q1, rfl, hq1⟩
 ·exact nd_err N 94 [] (by decide) (by decide) (by decide +kernel)
 rcases pre_cons hq1 with rfl | ⟨q, rfl, hq⟩
 ·exact nd_tok N 94 _ _ _ (by decide) (by decide) (caret_tok []) caret_nd (nd_nil N)
 ·exact nd_tok N 94 _ _ _ (by decide) (by decide) (caret_tok (60 :: q)) caret_nd (cut_iri N x hx q hq)
theorem cut_term (N : Nat) (n : Int) (t x : ByteArray) (hm : mayB n t x = true) (p : List Int) (hp : p <+: bys (textB n t x)) : NoDot (lexN N p) := by
 unfold mayB at hm
 by_cases n1 : n = 1
 ·subst n1
  rw [if_pos rfl, Bool.and_eq_true, beq_iff_eq] at hm
  have hb : bys (textB 1 t x) = 60 :: (bys t ++ [62]) := by
   unfold textB
   rw [if_pos rfl, bys_append, bys_append]
   rfl
  rw [hb] at hp
  rcases pre_cons hp with rfl | ⟨q, rfl, hq⟩
  ·exact nd_nil N
  ·exact cut_iri N t hm.1 q hq
 rw [if_neg n1] at hm
 by_cases n2 : n = 2
 ·subst n2
  rw [if_pos rfl, Bool.and_eq_true, beq_iff_eq] at hm
  have hb : bys (textB 2 t x) = 95 :: 58 :: bys t := by
   unfold textB
   rw [if_neg (by decide), if_pos rfl, bys_append]
   rfl
  rw [hb] at hp
  exact cut_blank N t hm.1 p hp
 rw [if_neg n2] at hm
 have hwr := bys_written t
 by_cases n3 : n = 3
 ·subst n3
  have hT : textB 3 t x = writtenB t := by
   unfold textB
   rw [if_neg (by decide), if_neg (by decide), if_neg (by decide), if_neg (by decide)]
  rw [hT, hwr] at hp
  rcases pre_cons hp with rfl | ⟨q, rfl, hq⟩
  ·exact nd_nil N
  ·refine cut_quoted N t [] (fun p hp => ?_) q hq
   rw [List.prefix_nil.1 hp]
   exact nd_nil N
 rw [if_neg n3] at hm
 by_cases n4 : n = 4
 ·subst n4
  rw [if_pos rfl, Bool.and_eq_true] at hm
  have hb : bys (textB 4 t x) = 34 :: ((bys t).flatMap escL ++ 34 :: (64 :: bys x)) := by
   unfold textB
   rw [if_neg (by decide), if_neg (by decide), if_pos rfl, bys_append, bys_append, hwr, show bys (⟨#[64]⟩ : ByteArray) = [64] from rfl]
   simp only [List.cons_append, List.append_assoc, List.nil_append]
  rw [hb] at hp
  rcases pre_cons hp with rfl | ⟨q, rfl, hq⟩
  ·exact nd_nil N
  ·exact cut_quoted N t _ (fun p hp => cut_lang N x hm.2 p hp) q hq
 rw [if_neg n4] at hm
 by_cases n5 : n = 5
 ·subst n5
  rw [if_pos rfl, Bool.and_eq_true, Bool.and_eq_true, bne_iff_ne] at hm
  have hb : bys (textB 5 t x) = 34 :: ((bys t).flatMap escL ++ 34 :: (94 :: 94 :: 60 :: (bys x ++ [62]))) := by
   unfold textB
   rw [if_neg (by decide), if_neg (by decide), if_neg (by decide), if_pos rfl, bys_append, bys_append, bys_append, hwr, show bys (⟨#[94, 94, 60]⟩ : ByteArray) = [94, 94, 60] from rfl, show bys (⟨#[62]⟩ : ByteArray) = [62] from rfl]
   simp only [List.cons_append, List.append_assoc, List.nil_append]
  rw [hb] at hp
  rcases pre_cons hp with rfl | ⟨q, rfl, hq⟩
  ·exact nd_nil N
  ·exact cut_quoted N t _ (fun p hp => cut_typed N x hm.2.1 p hp) q hq
 ·rw [if_neg n5] at hm
  cases hm
theorem sym_nd (n : Int) (t x : ByteArray) : ∀ y ∈ symT n t x, ¬ dotYP y := by
 intro y h
 unfold symT at h
 split at h
 ·obtain rfl := List.mem_singleton.1 h
  exact kind_nd (by show (1 : Int) ≠ 8; decide)
 ·split at h
  ·obtain rfl := List.mem_singleton.1 h
   exact kind_nd (by show (2 : Int) ≠ 8; decide)
  ·split at h
   ·obtain rfl := List.mem_singleton.1 h
    exact kind_nd (by show (3 : Int) ≠ 8; decide)
   ·split at h
    ·rcases List.mem_cons.1 h with rfl | h
     ·exact kind_nd (by show (3 : Int) ≠ 8; decide)
     ·obtain rfl := List.mem_singleton.1 h
      exact kind_nd (by show (4 : Int) ≠ 8; decide)
    ·rcases List.mem_cons.1 h with rfl | h
     ·exact kind_nd (by show (3 : Int) ≠ 8; decide)
     ·rcases List.mem_cons.1 h with rfl | h
      ·exact caret_nd
      ·obtain rfl := List.mem_singleton.1 h
       exact kind_nd (by show (1 : Int) ≠ 8; decide)
theorem cut_next (N : Nat) (n : Int) (t x : ByteArray) (hm : mayB n t x = true) (q : List Int) (H : ∀ p, p <+: q → NoDot (lexN N p)) (p : List Int) (hp : p <+: bys (textB n t x) ++ 32 :: q) : NoDot (lexN N p) := by
 rcases pre_app_or hp with hp | ⟨q1, rfl, hq⟩
 ·exact cut_term N n t x hm p hp
 ·rcases pre_cons hq with rfl | ⟨q2, rfl, hq2⟩
  ·rw [List.append_nil]
   exact cut_term N n t x hm _ (List.prefix_refl _)
  ·obtain ⟨e1, e2⟩ := lex_term N n t x hm q2
   intro e y hy
   rw [e2] at e
   rw [e1] at hy
   rcases List.mem_append.1 hy with hy | hy
   ·exact sym_nd n t x y hy
   ·exact H q2 hq2 e y hy
theorem cut_trip (N : Nat) (x : Tr) (h : addB x = true) (p : List Int) (hp : p <+: bys (tripB x)) (hl : p.length < (tripB x).size) : NoDot (lexN N p) := by
 obtain ⟨m1, m2, m3⟩ := may_of h
 have hb : bys (tripB x) = (bys (textB x.f0.f0 x.f0.f1 x.f0.f2) ++ 32 :: (bys (textB x.f1.f0 x.f1.f1 x.f1.f2) ++ 32 :: (bys (textB x.f2.f0 x.f2.f1 x.f2.f2) ++ 32 :: []))) ++ [46] := by
  unfold tripB tripleB
  simp only [bys_append, List.append_assoc, List.cons_append, List.nil_append]
  rfl
 rw [← bys_length, hb] at hl
 rw [hb] at hp
 rcases pre_app_or hp with hp | ⟨q, rfl, hq⟩
 ·refine cut_next N _ _ _ m1 _ (fun p hp => cut_next N _ _ _ m2 _ (fun p hp => cut_next N _ _ _ m3 [] (fun p hp => ?_) p hp) p hp) p hp
  rw [List.prefix_nil.1 hp]
  exact nd_nil N
 ·rcases pre_cons hq with rfl | ⟨q2, rfl, hq2⟩
  ·refine cut_next N _ _ _ m1 _ (fun p hp => cut_next N _ _ _ m2 _ (fun p hp => cut_next N _ _ _ m3 [] (fun p hp => ?_) p hp) p hp) _ (by rw [List.append_nil]; exact List.prefix_refl _)
   rw [List.prefix_nil.1 hp]
   exact nd_nil N
  ·exfalso
   simp only [List.length_append, List.length_cons, List.length_nil] at hl
   omega
end Go.Proofs.YtjnhdamilbcmpaaDoor.PTm

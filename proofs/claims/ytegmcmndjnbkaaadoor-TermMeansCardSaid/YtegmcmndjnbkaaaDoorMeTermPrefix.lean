import Derived.Test.YtegmcmndjnbkaaaDoorMeTermOrd
set_option linter.unusedVariables false
set_option linter.unusedSimpArgs false
namespace Go.Proofs.YtegmcmndjnbkaaaDoor.PTerm
open Go.RowKit Go.Proofs.YtegmcmndjnbkaaaDoorW.PrintWords Go.Proofs.YtegmcmndjnbkaaaDoorW.PrintLast Go.Proofs.YtegmcmndjnbkaaaDoorW.PrintMore
theorem bys_append (a b : ByteArray) : bys (a ++ b) = bys a ++ bys b := by simp [bys]
theorem bys_inj {a b : ByteArray} (h : bys a = bys b) : a = b := by
  unfold bys at h
  have : a.data.toList = b.data.toList := by
    refine List.map_inj_right (f := fun u : UInt8 => (u.toNat : Int)) ?_ |>.1 h
    intro x y e
    have e2 : (x.toNat : Int) = (y.toNat : Int) := e
    exact UInt8.toNat_inj.mp (by omega)
  obtain ⟨⟨l⟩⟩ := a
  obtain ⟨⟨m⟩⟩ := b
  simp at this
  rw [this]
theorem cut_at (c : Int) : ∀ (a b r q : List Int), (∀ x ∈ a, x ≠ c) → (∀ x ∈ b, x ≠ c) → a ++ c :: r <+: b ++ c :: q → a = b ∧ r <+: q
  | [], [], r, q, _, _, h => ⟨rfl, by simpa using h⟩
  | [], y :: b, r, q, _, hb, h => by
    simp only [List.nil_append, List.cons_append, List.cons_prefix_cons] at h
    exact absurd h.1.symm (hb y (by simp))
  | x :: a, [], r, q, ha, _, h => by
    simp only [List.nil_append, List.cons_append, List.cons_prefix_cons] at h
    exact absurd h.1 (ha x (by simp))
  | x :: a, y :: b, r, q, ha, hb, h => by
    simp only [List.cons_append, List.cons_prefix_cons] at h
    obtain ⟨rfl, h⟩ := h
    obtain ⟨rfl, h2⟩ := cut_at c a b r q (fun z hz => ha z (by simp [hz])) (fun z hz => hb z (by simp [hz])) h
    exact ⟨rfl, h2⟩
theorem esc_code : (List.range 256).all (fun a => (List.range 256).all fun b => !(escL (a : Int)).isPrefixOf (escL (b : Int)) || a == b) = true := by decide +kernel
theorem esc_quote : (List.range 256).all (fun a => (escL (a : Int)).head? != some 34) = true := by decide +kernel
theorem esc_pre {a b : Int} (ha : 0 ≤ a ∧ a ≤ 255) (hb : 0 ≤ b ∧ b ≤ 255) (h : escL a <+: escL b) : a = b := by
  obtain ⟨m, rfl⟩ := Int.eq_ofNat_of_zero_le ha.1
  obtain ⟨n, rfl⟩ := Int.eq_ofNat_of_zero_le hb.1
  have h1 := List.all_eq_true.mp (List.all_eq_true.mp esc_code m (List.mem_range.mpr (by omega))) n (List.mem_range.mpr (by omega))
  have h2 : (escL (m : Int)).isPrefixOf (escL (n : Int)) = true := List.isPrefixOf_iff_prefix.mpr h
  rw [h2] at h1
  simp at h1
  rw [h1]
theorem esc_head {a : Int} (ha : 0 ≤ a ∧ a ≤ 255) : ∃ x l, escL a = x :: l ∧ x ≠ 34 := by
  obtain ⟨m, rfl⟩ := Int.eq_ofNat_of_zero_le ha.1
  have h1 := List.all_eq_true.mp esc_quote m (List.mem_range.mpr (by omega))
  cases he : escL (m : Int) with
  | nil => have := (escL_len (m : Int)).1; rw [he] at this; simp at this
  | cons x l =>
    refine ⟨x, l, rfl, ?_⟩
    rintro rfl
    rw [he] at h1
    simp at h1
theorem pre_or {u v : List Int} : ∀ {a b : List Int}, u ++ a <+: v ++ b → u <+: v ∨ v <+: u := by
  intro a b h
  have h1 : u <+: v ++ b := (List.prefix_append u a).trans h
  exact List.prefix_or_prefix_of_prefix h1 (List.prefix_append v b)
theorem esc_cut : ∀ (a b r q : List Int), (∀ x ∈ a, 0 ≤ x ∧ x ≤ 255) → (∀ x ∈ b, 0 ≤ x ∧ x ≤ 255) → a.flatMap escL ++ 34 :: r <+: b.flatMap escL ++ 34 :: q → a = b ∧ r <+: q
  | [], [], r, q, _, _, h => ⟨rfl, by simpa using h⟩
  | [], y :: b, r, q, _, hb, h => by
    obtain ⟨z, l, he, hz⟩ := esc_head (hb y (by simp))
    simp only [List.flatMap_nil, List.nil_append, List.flatMap_cons, he, List.cons_append, List.cons_prefix_cons] at h
    exact absurd h.1.symm hz
  | x :: a, [], r, q, ha, _, h => by
    obtain ⟨z, l, he, hz⟩ := esc_head (ha x (by simp))
    simp only [List.flatMap_nil, List.nil_append, List.flatMap_cons, he, List.cons_append, List.cons_prefix_cons] at h
    exact absurd h.1 hz
  | x :: a, y :: b, r, q, ha, hb, h => by
    rw [List.flatMap_cons, List.flatMap_cons, List.append_assoc, List.append_assoc] at h
    have hxy : x = y := by
      rcases pre_or h with g | g
      · exact esc_pre (ha x (by simp)) (hb y (by simp)) g
      · exact (esc_pre (hb y (by simp)) (ha x (by simp)) g).symm
    subst hxy
    rw [List.prefix_append_right_inj] at h
    obtain ⟨rfl, h2⟩ := esc_cut a b r q (fun z hz => ha z (by simp [hz])) (fun z hz => hb z (by simp [hz])) h
    exact ⟨rfl, h2⟩
theorem bys_mem {s : ByteArray} {c : Int} (h : c ∈ bys s) : ∃ j, j < s.size ∧ c = bt s (j : Nat) := by
  obtain ⟨j, hj, rfl⟩ := List.getElem_of_mem h
  have hj2 : j < s.size := by rw [bys_length] at hj; exact hj
  refine ⟨j, hj2, ?_⟩
  have h2 := bys_get s j hj2
  rw [List.getElem?_eq_getElem hj] at h2
  exact Option.some.inj h2
theorem bys_rng (s : ByteArray) : ∀ c ∈ bys s, 0 ≤ c ∧ c ≤ 255 := by
  intro c hc
  obtain ⟨j, _, rfl⟩ := bys_mem hc
  exact bt_range _ _
theorem bys_nums (xs : List Int) (h : ∀ x ∈ xs, 0 ≤ x ∧ x ≤ 255) : bys (strOfNums xs) = xs := by
  unfold bys
  rw [strOfNums_data, List.map_map]
  conv => rhs; rw [← List.map_id xs]
  apply List.map_congr_left
  intro x hx
  have := h x hx
  simp only [Function.comp, id, UInt8.toNat_ofNat']
  omega
theorem esc_rng {c : Int} (hc : 0 ≤ c ∧ c ≤ 255) : ∀ x ∈ escL c, 0 ≤ x ∧ x ≤ 255 := by
  have := byte_all (fun c => (escL c).all fun x => decide (0 ≤ x ∧ x ≤ 255)) (by decide +kernel) c hc
  intro x hx
  simpa using List.all_eq_true.mp this x hx
theorem bys_written (s : ByteArray) : bys (writtenB s) = 34 :: ((bys s).flatMap escL ++ [34]) := by
  unfold writtenB
  rw [bys_nums]
  · simp [writtenL]
  · intro x hx
    simp only [writtenL, List.mem_append, List.mem_singleton, List.mem_flatMap] at hx
    rcases hx with (rfl | ⟨c, hc, hx⟩) | rfl
    · omega
    · exact esc_rng (bys_rng s c hc) x hx
    · omega
theorem iri_no (s : ByteArray) (h : iriB s = true) : ∀ c ∈ bys s, c ≠ 62 ∧ c ≠ 32 := by
  intro c hc
  obtain ⟨j, hj, rfl⟩ := bys_mem hc
  have := ((iriB_iff s).1 h).2.2.2 j hj
  constructor
  · intro e; rw [e] at this; simp [bad] at this
  · intro e; rw [e] at this; simp [bad] at this
theorem blank_no (s : ByteArray) (h : blankB s = true) : ∀ c ∈ bys s, c ≠ 32 := by
  intro c hc
  obtain ⟨j, hj, rfl⟩ := bys_mem hc
  unfold blankB at h
  rw [Bool.and_eq_true] at h
  have := List.all_eq_true.mp h.2 j (List.mem_range.mpr hj)
  intro e
  unfold okB at this
  rw [e] at this
  simp [letterB, digitB] at this
theorem tagM_no : ∀ (l : List Int) (f e : Bool), tagM f e l = true → ∀ c ∈ l, c ≠ 32
  | [], _, _, _, c, hc => by cases hc
  | x :: l, f, e, h, c, hc => by
    rw [tagM_cons] at h
    by_cases hx : x = 45
    · rw [if_pos hx, Bool.and_eq_true] at h
      rcases List.mem_cons.1 hc with rfl | hc
      · omega
      · exact tagM_no l _ _ h.2 c hc
    · rw [if_neg hx, Bool.and_eq_true] at h
      rcases List.mem_cons.1 hc with rfl | hc
      · intro e2
        subst e2
        have := h.1
        simp [tok, smallB, digitB] at this
      · exact tagM_no l _ _ h.2 c hc
theorem tag_no (s : ByteArray) (h : tagB s = true) : ∀ c ∈ bys s, c ≠ 32 := by
  have hM : tagB s = (tagM true true (bys s) && decide (s.size ≤ 35)) := by unfold tagB; rw [tagQ_Qe, tagQe_M]
  rw [hM, Bool.and_eq_true] at h
  exact tagM_no _ _ _ h.1
theorem empty_of {x : ByteArray} (h : (x.toList == ([] : List UInt8)) = true) : x = ⟨#[]⟩ := by
  have h := beq_iff_eq.1 h
  rw [Lib.toList_data] at h
  obtain ⟨⟨l⟩⟩ := x
  simp at h
  rw [h]
theorem may_cases {n : Int} {t x : ByteArray} (h : mayB n t x = true) :
    (n = 1 ∧ x = ⟨#[]⟩ ∧ (∀ c ∈ bys t, c ≠ 62 ∧ c ≠ 32) ∧ bys (textB n t x) = 60 :: (bys t ++ [62])) ∨
    (n = 2 ∧ x = ⟨#[]⟩ ∧ (∀ c ∈ bys t, c ≠ 32) ∧ bys (textB n t x) = 95 :: 58 :: bys t) ∨
    (n = 3 ∧ x = ⟨#[]⟩ ∧ bys (textB n t x) = 34 :: ((bys t).flatMap escL ++ [34])) ∨
    (n = 4 ∧ (∀ c ∈ bys x, c ≠ 32) ∧ bys (textB n t x) = 34 :: ((bys t).flatMap escL ++ 34 :: 64 :: bys x)) ∨
    (n = 5 ∧ (∀ c ∈ bys x, c ≠ 62 ∧ c ≠ 32) ∧ bys (textB n t x) = 34 :: ((bys t).flatMap escL ++ 34 :: 94 :: 94 :: 60 :: (bys x ++ [62]))) := by
  unfold mayB at h
  by_cases c1 : n = 1
  · subst c1
    rw [if_pos rfl, Bool.and_eq_true] at h
    refine .inl ⟨rfl, empty_of h.2, iri_no t h.1, ?_⟩
    simp [textB, bys_append]
    rfl
  by_cases c2 : n = 2
  · subst c2
    rw [if_neg (by decide), if_pos rfl, Bool.and_eq_true] at h
    refine .inr (.inl ⟨rfl, empty_of h.2, blank_no t h.1, ?_⟩)
    simp [textB, bys_append]
    rfl
  by_cases c3 : n = 3
  · subst c3
    rw [if_neg (by decide), if_neg (by decide), if_pos rfl, Bool.and_eq_true] at h
    refine .inr (.inr (.inl ⟨rfl, empty_of h.2, ?_⟩))
    simp [textB, bys_written]
  by_cases c4 : n = 4
  · subst c4
    rw [if_neg (by decide), if_neg (by decide), if_neg (by decide), if_pos rfl, Bool.and_eq_true] at h
    refine .inr (.inr (.inr (.inl ⟨rfl, tag_no x h.2, ?_⟩)))
    simp [textB, bys_append, bys_written]
    rfl
  by_cases c5 : n = 5
  · subst c5
    rw [if_neg (by decide), if_neg (by decide), if_neg (by decide), if_neg (by decide), if_pos rfl, Bool.and_eq_true, Bool.and_eq_true] at h
    refine .inr (.inr (.inr (.inr ⟨rfl, iri_no x h.2.1, ?_⟩)))
    simp [textB, bys_append, bys_written]
    rfl
  · rw [if_neg c1, if_neg c2, if_neg c3, if_neg c4, if_neg c5] at h
    cases h
theorem text_pre {n m : Int} {t x s y : ByteArray} {r q : List Int} (h : mayB n t x = true) (g : mayB m s y = true) (hp : bys (textB n t x) ++ 32 :: r <+: bys (textB m s y) ++ 32 :: q) :
    n = m ∧ t = s ∧ x = y ∧ r <+: q := by
  have rt := bys_rng t
  have rs := bys_rng s
  rcases may_cases h with ⟨rfl, rfl, ht, e⟩ | ⟨rfl, rfl, ht, e⟩ | ⟨rfl, rfl, e⟩ | ⟨rfl, ht, e⟩ | ⟨rfl, ht, e⟩ <;>
  rcases may_cases g with ⟨rfl, rfl, hs, e2⟩ | ⟨rfl, rfl, hs, e2⟩ | ⟨rfl, rfl, e2⟩ | ⟨rfl, hs, e2⟩ | ⟨rfl, hs, e2⟩ <;>
  rw [e, e2] at hp <;>
  simp only [List.cons_append, List.append_assoc, List.cons_prefix_cons, List.nil_append, Int.reduceEq, false_and, true_and] at hp
  · obtain ⟨e3, e4⟩ := cut_at 62 _ _ _ _ (fun c hc => (ht c hc).1) (fun c hc => (hs c hc).1) hp
    exact ⟨rfl, bys_inj e3, rfl, by simpa using e4⟩
  · obtain ⟨e3, e4⟩ := cut_at 32 _ _ _ _ ht hs hp
    exact ⟨rfl, bys_inj e3, rfl, e4⟩
  · obtain ⟨e3, e4⟩ := esc_cut _ _ _ _ rt rs hp
    exact ⟨rfl, bys_inj e3, rfl, by simpa using e4⟩
  · obtain ⟨e3, e4⟩ := esc_cut _ _ _ _ rt rs hp
    simp at e4
  · obtain ⟨e3, e4⟩ := esc_cut _ _ _ _ rt rs hp
    simp at e4
  · obtain ⟨e3, e4⟩ := esc_cut _ _ _ _ rt rs hp
    simp at e4
  · obtain ⟨e3, e4⟩ := esc_cut _ _ _ _ rt rs hp
    simp only [List.cons_prefix_cons, true_and] at e4
    obtain ⟨e5, e6⟩ := cut_at 32 _ _ _ _ ht hs e4
    exact ⟨rfl, bys_inj e3, bys_inj e5, e6⟩
  · obtain ⟨e3, e4⟩ := esc_cut _ _ _ _ rt rs hp
    simp at e4
  · obtain ⟨e3, e4⟩ := esc_cut _ _ _ _ rt rs hp
    simp at e4
  · obtain ⟨e3, e4⟩ := esc_cut _ _ _ _ rt rs hp
    simp at e4
  · obtain ⟨e3, e4⟩ := esc_cut _ _ _ _ rt rs hp
    simp only [List.cons_prefix_cons, true_and] at e4
    obtain ⟨e5, e6⟩ := cut_at 62 _ _ _ _ (fun c hc => (ht c hc).1) (fun c hc => (hs c hc).1) e4
    simp only [List.cons_prefix_cons, true_and] at e6
    exact ⟨rfl, bys_inj e3, bys_inj e5, e6⟩
theorem text_inj {n m : Int} {t x s y : ByteArray} (h : mayB n t x = true) (g : mayB m s y = true) (he : textB n t x = textB m s y) : n = m ∧ t = s ∧ x = y := by
  have := text_pre (r := []) (q := []) h g (by rw [he]; exact List.prefix_rfl)
  exact ⟨this.1, this.2.1, this.2.2.1⟩
theorem bys_triple (n1 : Int) (t1 x1 : ByteArray) (n2 : Int) (t2 x2 : ByteArray) (n3 : Int) (t3 x3 : ByteArray) :
    bys (tripleB n1 t1 x1 n2 t2 x2 n3 t3 x3) = bys (textB n1 t1 x1) ++ 32 :: (bys (textB n2 t2 x2) ++ 32 :: (bys (textB n3 t3 x3) ++ 32 :: [46])) := by
  have e1 : bys sp1 = [32] := rfl
  have e2 : bys (⟨#[32, 46]⟩ : ByteArray) = [32, 46] := rfl
  simp [tripleB, bys_append, e1, e2]
theorem triple_inj {n1 : Int} {t1 x1 : ByteArray} {n2 : Int} {t2 x2 : ByteArray} {n3 : Int} {t3 x3 : ByteArray} {m1 : Int} {s1 y1 : ByteArray} {m2 : Int} {s2 y2 : ByteArray} {m3 : Int} {s3 y3 : ByteArray}
    (h : follB n1 t1 x1 n2 t2 x2 n3 t3 x3 = true) (g : follB m1 s1 y1 m2 s2 y2 m3 s3 y3 = true) (he : tripleB n1 t1 x1 n2 t2 x2 n3 t3 x3 = tripleB m1 s1 y1 m2 s2 y2 m3 s3 y3) :
    (n1 = m1 ∧ t1 = s1 ∧ x1 = y1) ∧ (n2 = m2 ∧ t2 = s2 ∧ x2 = y2) ∧ (n3 = m3 ∧ t3 = s3 ∧ x3 = y3) := by
  unfold follB at h g
  rw [Bool.and_eq_true, Bool.and_eq_true] at h g
  have hb := congrArg bys he
  rw [bys_triple, bys_triple] at hb
  obtain ⟨a1, a2, a3, a4⟩ := text_pre h.1 g.1 (by rw [hb]; exact List.prefix_rfl)
  obtain ⟨b1, b2, b3, b4⟩ := text_pre h.2.1 g.2.1 a4
  obtain ⟨c1, c2, c3, _⟩ := text_pre h.2.2 g.2.2 b4
  exact ⟨⟨a1, a2, a3⟩, ⟨b1, b2, b3⟩, c1, c2, c3⟩
theorem bys_take (s : ByteArray) (n : Nat) : bys (s.extract 0 n) = (bys s).take n := by
  unfold bys
  rw [← Lib.toList_data, Lib.extract_toList]
  simp [List.map_take]
end Go.Proofs.YtegmcmndjnbkaaaDoor.PTerm

import Derived.Test.YtjnhdamilbcmpaaDoorMeLexF
set_option linter.unusedVariables false
set_option linter.unusedSimpArgs false
namespace Go.Proofs.YtjnhdamilbcmpaaDoor.PTm
open Go.RowKit Go.Proofs.YtjnhdamilbcmpaaDoorW.PrintWords Go.Proofs.YtjnhdamilbcmpaaDoorW.PrintLast Go.Proofs.YtjnhdamilbcmpaaDoorW.PrintMore
theorem skip_app (m : List Int) : ∀ (r : List Int) (b : Bool), (skipL b r = [] → skipL b (r ++ 10 :: m) = skipL false m) ∧ (skipL b r ≠ [] → skipL b (r ++ 10 :: m) = skipL b r ++ 10 :: m)
 | [], true => ⟨fun _ => rfl, fun h => absurd rfl h⟩
 | [], false => ⟨fun _ => rfl, fun h => absurd rfl h⟩
 | c :: r, true => skip_app m r (decide (c ≠ 10))
 | c :: r, false => by
  rw [List.cons_append, skipL, skipL]
  by_cases c1 : c = 35
  ·rw [if_pos c1, if_pos c1]
   exact skip_app m r true
  rw [if_neg c1, if_neg c1]
  by_cases c2 : c = 9 ∨ c = 10 ∨ c = 13 ∨ c = 32
  ·rw [if_pos c2, if_pos c2]
   exact skip_app m r false
  rw [if_neg c2, if_neg c2]
  exact ⟨fun h => (by cases h), fun _ => rfl⟩
theorem span_app (f : Bool → Int → Bool) (hf : ∀ b, f b 10 = false) (m : List Int) : ∀ (r : List Int) (b : Bool), spanF f b (r ++ 10 :: m) = ((spanF f b r).1, (spanF f b r).2 ++ 10 :: m)
 | [], b => by
  show spanF f b (10 :: m) = ([], 10 :: m)
  rw [spanF, hf, if_neg Bool.false_ne_true]
 | c :: r, b => by
  rw [List.cons_append, spanF, spanF]
  by_cases h : f b c = true
  ·rw [if_pos h, if_pos h, span_app f hf m r true]
  ·rw [if_neg h, if_neg h]
   rfl
theorem named10 : ∀ b, namedF b 10 = false := by decide
theorem lang10 : ∀ b, langF b 10 = false := by decide
theorem rest10 : ∀ b, restF b 10 = false := by decide
theorem hd_app {r : List Int} (h : r ≠ []) (q : List Int) : hd0 (r ++ q) = hd0 r := by
 cases r with
 | nil => exact absurd rfl h
 | cons c t => rfl
theorem hd_ne {r : List Int} (h : hd0 r ≠ 0) : r ≠ [] := by
 rintro rfl
 exact h rfl
theorem hd_q (r m : List Int) (v : Int) (h0 : v ≠ 0) (h1 : v ≠ 10) : hd0 (r ++ 10 :: m) = v ↔ hd0 r = v := by
 cases r with
 | nil => exact ⟨fun h => absurd h.symm h1, fun h => absurd h.symm h0⟩
 | cons c t => exact Iff.rfl
theorem drop_app {r : List Int} (h : r ≠ []) (q : List Int) : (r ++ q).drop 1 = r.drop 1 ++ q := by
 cases r with
 | nil => exact absurd rfl h
 | cons c t => rfl
theorem dig_app (q : List Int) : ∀ (n : Nat) (acc : Int) (r : List Int) (v : Int) (r' : List Int), digL n acc r = some (v, r') → digL n acc (r ++ q) = some (v, r' ++ q)
 | 0, acc, r, v, r', h => by
  cases h
  rfl
 | n + 1, acc, r, v, r', h => by
  rw [digL] at h
  have hr : r ≠ [] := by
   rintro rfl
   rw [show hd0 [] = 0 from rfl, hexv_zero] at h
   cases h
  rw [digL, hd_app hr, drop_app hr]
  cases hv : hexv (hd0 r) with
  | none => rw [hv] at h; cases h
  | some x =>
   rw [hv] at h
   exact dig_app q n _ _ v r' h
theorem escO_app (q r : List Int) (v : Int) (b r' : List Int) (h : escO r v = some (b, r')) : escO (r ++ q) v = some (b, r' ++ q) := by
 unfold escO at h ⊢
 by_cases c : (putT v).2 = 0
 ·rw [if_pos c] at h ⊢
  cases h
  rfl
 ·rw [if_neg c] at h
  cases h
theorem esc_app (all : Bool) (q r b r' : List Int) (h : escP all r = some (b, r')) : escP all (r ++ q) = some (b, r' ++ q) := by
 have hr : r ≠ [] := by
  rintro rfl
  unfold escP at h
  rw [show hd0 [] = 0 from rfl, if_neg (by decide), if_neg (by decide), if_neg (fun h => absurd h.2.1 (by decide))] at h
  cases h
 unfold escP at h ⊢
 rw [hd_app hr, drop_app hr]
 by_cases c1 : hd0 r = 117
 ·rw [if_pos c1] at h ⊢
  cases hd : digL 4 0 (r.drop 1) with
  | none => rw [hd] at h; cases h
  | some x =>
   rw [hd] at h
   rw [dig_app q 4 0 _ x.1 x.2 hd]
   exact escO_app q _ _ _ _ h
 rw [if_neg c1] at h ⊢
 by_cases c2 : hd0 r = 85
 ·rw [if_pos c2] at h ⊢
  cases hd : digL 8 0 (r.drop 1) with
  | none => rw [hd] at h; cases h
  | some x =>
   rw [hd] at h
   rw [dig_app q 8 0 _ x.1 x.2 hd]
   exact escO_app q _ _ _ _ h
 rw [if_neg c2] at h ⊢
 by_cases c3 : all = true ∧ hd0 r > 0 ∧ escI (hd0 r) ≥ 0
 ·rw [if_pos c3] at h ⊢
  exact escO_app q _ _ _ _ h
 ·rw [if_neg c3] at h
  cases h
theorem quoted_app (en : Int) (all : Bool) (q : List Int) : ∀ (k K : Nat) (r x r' : List Int), quotedL en all k r = some (x, r') → k ≤ K → quotedL en all K (r ++ q) = some (x, r' ++ q)
 | 0, K, r, x, r', h, hK => by cases h
 | k + 1, K, [], x, r', h, hK => by cases h
 | k + 1, K, c :: t, x, r', h, hK => by
  obtain ⟨K, rfl⟩ : ∃ j, K = j + 1 := ⟨K - 1, by omega⟩
  rw [quotedL] at h
  rw [List.cons_append, quotedL]
  by_cases c1 : c = en
  ·rw [if_pos c1] at h ⊢
   cases h
   rfl
  rw [if_neg c1] at h ⊢
  by_cases c2 : all = true ∧ (c = 10 ∨ c = 13)
  ·rw [if_pos c2] at h
   cases h
  rw [if_neg c2] at h ⊢
  by_cases c3 : c = 92
  ·rw [if_pos c3] at h ⊢
   cases he : escP all t with
   | none => rw [he] at h; cases h
   | some y =>
    rw [he] at h
    rw [esc_app all q t y.1 y.2 he]
    dsimp only at h ⊢
    cases hq : quotedL en all k y.2 with
    | none => rw [hq] at h; cases h
    | some z =>
     rw [hq] at h
     rw [quoted_app en all q k K y.2 z.1 z.2 hq (by omega)]
     cases h
     rfl
  ·rw [if_neg c3] at h ⊢
   cases hq : quotedL en all k t with
   | none => rw [hq] at h; cases h
   | some z =>
    rw [hq] at h
    rw [quoted_app en all q k K t z.1 z.2 hq (by omega)]
    cases h
    rfl
def Ext (q : List Int) (o o' : Out) : Prop := (o = none → o' = none) ∧ ∀ y r', o = some (some (y, r')) → o' = some (some (y, r' ++ q))
theorem ext_oK {q : List Int} {o o' : Out} {p p' : Option (Sy × List Int)} (h : Ext q o o') (hp : ∀ y r', p = some (y, r') → p' = some (y, r' ++ q)) : ∀ y r', oK o p = some (y, r') → oK o' p' = some (y, r' ++ q) := by
 intro y r' e
 match o, h with
 | none, h =>
  rw [h.1 rfl]
  exact hp y r' e
 | some none, h => cases e
 | some (some z), h =>
  cases e
  rw [h.2 y r' rfl]
  rfl
theorem look_app (m w : List Int) : (hd0 (w ++ 10 :: m) = 58 ∧ hd0 ((w ++ 10 :: m).drop 1) ≠ 45) ↔ (hd0 w = 58 ∧ hd0 (w.drop 1) ≠ 45) := by
 cases w with
 | nil => exact ⟨fun h => absurd h.1 (by show ¬ (10 : Int) = 58; decide), fun h => absurd h.1 (by show ¬ (0 : Int) = 58; decide)⟩
 | cons c t =>
  rw [drop_app (by intro h; cases h), hd_app (by intro h; cases h)]
  constructor
  ·rintro ⟨h1, h2⟩
   exact ⟨h1, fun h => h2 ((hd_q _ _ 45 (by decide) (by decide)).2 h)⟩
  ·rintro ⟨h1, h2⟩
   exact ⟨h1, fun h => h2 ((hd_q _ _ 45 (by decide) (by decide)).1 h)⟩
section
variable (r : List Int) (hr : r ≠ []) (m : List Int)
include hr
theorem iri_ext : Ext (10 :: m) (iriO r) (iriO (r ++ 10 :: m)) := by
 unfold iriO
 rw [hd_app hr, drop_app hr]
 by_cases c : hd0 r = 60
 ·rw [if_pos c, if_pos c]
  refine ⟨fun h => (by cases h), fun y r' h => ?_⟩
  cases hq : quotedL 62 false r.length (r.drop 1) with
  | none => rw [hq] at h; cases h
  | some x =>
   rw [hq] at h
   rw [quoted_app 62 false (10 :: m) r.length _ _ x.1 x.2 hq (by rw [List.length_append]; omega)]
   dsimp only at h ⊢
   by_cases c2 : mayB 1 (strOfNums x.1) nob = true
   ·rw [if_pos c2] at h ⊢
    cases h
    rfl
   ·rw [if_neg c2] at h
    cases h
 ·rw [if_neg c, if_neg c]
  exact ⟨fun _ => rfl, fun y r' h => by cases h⟩
theorem text_ext : Ext (10 :: m) (textO r) (textO (r ++ 10 :: m)) := by
 unfold textO
 rw [hd_app hr, drop_app hr]
 by_cases c : hd0 r = 34
 ·rw [if_pos c, if_pos c]
  refine ⟨fun h => (by cases h), fun y r' h => ?_⟩
  cases hq : quotedL 34 true r.length (r.drop 1) with
  | none => rw [hq] at h; cases h
  | some x =>
   rw [hq] at h
   rw [quoted_app 34 true (10 :: m) r.length _ _ x.1 x.2 hq (by rw [List.length_append]; omega)]
   cases h
   rfl
 ·rw [if_neg c, if_neg c]
  exact ⟨fun _ => rfl, fun y r' h => by cases h⟩
theorem blank_ext : Ext (10 :: m) (blankO r) (blankO (r ++ 10 :: m)) := by
 unfold blankO
 rw [hd_app hr, drop_app hr]
 by_cases c : hd0 r = 95
 ·rw [if_pos c, if_pos c]
  by_cases c2 : hd0 (r.drop 1) = 58
  ·have h1 : r.drop 1 ≠ [] := hd_ne (by rw [c2]; decide)
   have h2 : (r ++ 10 :: m).drop 2 = r.drop 2 ++ 10 :: m := by
    rw [show (r ++ 10 :: m).drop 2 = ((r ++ 10 :: m).drop 1).drop 1 by rw [List.drop_drop], drop_app hr, drop_app h1, List.drop_drop]
   rw [if_pos c2, if_pos ((hd_q _ _ 58 (by decide) (by decide)).2 c2), h2, span_app namedF named10]
   refine ⟨fun h => (by cases h), fun y r' h => ?_⟩
   dsimp only
   by_cases c3 : (spanF namedF false (r.drop 2)).1.length > 64
   ·rw [if_pos c3] at h; cases h
   rw [if_neg c3] at h ⊢
   by_cases c4 : mayB 2 (strOfNums (spanF namedF false (r.drop 2)).1) nob = true
   ·rw [if_pos c4] at h ⊢
    cases h
    rfl
   ·rw [if_neg c4] at h
    cases h
  ·rw [if_neg c2, if_neg (fun h => c2 ((hd_q _ _ 58 (by decide) (by decide)).1 h))]
   exact ⟨fun _ => rfl, fun y r' h => by cases h⟩
 ·rw [if_neg c, if_neg c]
  exact ⟨fun _ => rfl, fun y r' h => by cases h⟩
theorem lang_ext : Ext (10 :: m) (langO r) (langO (r ++ 10 :: m)) := by
 unfold langO
 rw [hd_app hr, drop_app hr, span_app langF lang10]
 by_cases c : hd0 r = 64
 ·rw [if_pos c, if_pos c]
  refine ⟨fun h => (by cases h), fun y r' h => ?_⟩
  dsimp only
  by_cases c3 : (spanF langF false (r.drop 1)).1.length > 35
  ·rw [if_pos c3] at h; cases h
  rw [if_neg c3] at h ⊢
  by_cases c4 : mayB 4 nob (strOfNums (spanF langF false (r.drop 1)).1) = true
  ·rw [if_pos c4] at h ⊢
   cases h
   rfl
  ·rw [if_neg c4] at h
   cases h
 ·rw [if_neg c, if_neg c]
  exact ⟨fun _ => rfl, fun y r' h => by cases h⟩
theorem var_ext : Ext (10 :: m) (varO r) (varO (r ++ 10 :: m)) := by
 unfold varO
 rw [hd_app hr, drop_app hr, span_app namedF named10]
 by_cases c : hd0 r = 63
 ·rw [if_pos c, if_pos c]
  refine ⟨fun h => (by cases h), fun y r' h => ?_⟩
  dsimp only
  by_cases c3 : (spanF namedF false (r.drop 1)).1.length > 32
  ·rw [if_pos c3] at h; cases h
  rw [if_neg c3] at h ⊢
  by_cases c4 : (spanF namedF false (r.drop 1)).1 = []
  ·rw [if_pos c4] at h; cases h
  ·rw [if_neg c4] at h ⊢
   cases h
   rfl
 ·rw [if_neg c, if_neg c]
  exact ⟨fun _ => rfl, fun y r' h => by cases h⟩
theorem word_ext : Ext (10 :: m) (wordO r) (wordO (r ++ 10 :: m)) := by
 have hl := look_app m r
 unfold wordO
 rw [span_app namedF named10]
 have hh : (letterB (hd0 (r ++ 10 :: m)) = true ∨ (hd0 (r ++ 10 :: m) = 58 ∧ hd0 ((r ++ 10 :: m).drop 1) ≠ 45)) ↔ (letterB (hd0 r) = true ∨ (hd0 r = 58 ∧ hd0 (r.drop 1) ≠ 45)) := by
  rw [hl, hd_app hr]
 by_cases c : letterB (hd0 r) = true ∨ (hd0 r = 58 ∧ hd0 (r.drop 1) ≠ 45)
 ·rw [if_pos c, if_pos (hh.2 c)]
  refine ⟨fun h => (by cases h), fun y r' h => ?_⟩
  unfold wordG at h ⊢
  dsimp only
  generalize spanF namedF false r = w at h ⊢
  have hw := look_app m w.2
  by_cases c3 : w.1.length > 32
  ·rw [if_pos c3] at h; cases h
  rw [if_neg c3] at h ⊢
  by_cases c4 : hd0 w.2 = 58 ∧ hd0 (w.2.drop 1) ≠ 45
  ·have h1 : w.2 ≠ [] := hd_ne (by rw [c4.1]; decide)
   rw [if_pos c4] at h
   rw [if_pos (hw.2 c4), drop_app h1, span_app restF rest10]
   dsimp only
   by_cases c5 : (spanF restF false (w.2.drop 1)).1.length > 64
   ·rw [if_pos c5] at h; cases h
   ·rw [if_neg c5] at h ⊢
    cases h
    rfl
  ·rw [if_neg c4] at h
   rw [if_neg (fun h => c4 (hw.1 h))]
   cases h
   rfl
 ·rw [if_neg c, if_neg (fun h => c (hh.1 h))]
  exact ⟨fun _ => rfl, fun y r' h => by cases h⟩
end
theorem pre_app (x r m : List Int) (hx : x.length ≤ r.length ∨ ∀ c ∈ x, c ≠ 10) : x.isPrefixOf (r ++ 10 :: m) = x.isPrefixOf r := by
 induction x generalizing r with
 | nil => simp
 | cons a x ih =>
  cases r with
  | nil =>
   rcases hx with h | h
   ·simp at h
   ·have := h a List.mem_cons_self
    simp [List.isPrefixOf, this]
  | cons c t =>
   rw [List.cons_append, List.isPrefixOf_cons_cons, List.isPrefixOf_cons_cons, ih t (hx.elim (fun h => .inl (by simpa using h)) (fun h => .inr fun d hd => h d (List.mem_cons_of_mem _ hd)))]
theorem mark_ext (m : List Int) : ∀ (ms : List ByteArray), (∀ x ∈ ms, ∀ c ∈ bys x, c ≠ 10) → ∀ r, Ext (10 :: m) (markL ms r) (markL ms (r ++ 10 :: m))
 | [], _, r => ⟨fun _ => rfl, fun y r' h => by cases h⟩
 | x :: ms, hm, r => by
  rw [markL, markL, pre_app (bys x) r m (.inr (hm x List.mem_cons_self))]
  by_cases c : (bys x).isPrefixOf r = true
  ·rw [if_pos c, if_pos c]
   refine ⟨fun h => (by cases h), fun y r' h => ?_⟩
   cases h
   have hl := (List.isPrefixOf_iff_prefix.1 c).length_le
   rw [bys_length] at hl
   rw [List.drop_append_of_le_length hl]
  ·rw [if_neg c, if_neg c]
   exact mark_ext m ms (fun z hz => hm z (List.mem_cons_of_mem _ hz)) r
theorem marks10 : ∀ x ∈ marks, ∀ c ∈ bys x, c ≠ 10 := by
 intro m hm
 simp only [marks, List.mem_cons, List.mem_nil_iff, or_false] at hm
 rcases hm with rfl | rfl | rfl | rfl | rfl | rfl | rfl | rfl | rfl | rfl <;> decide
theorem tok_app (r : List Int) (hr : r ≠ []) (m : List Int) : ∀ y r', tokL r = some (y, r') → tokL (r ++ 10 :: m) = some (y, r' ++ 10 :: m) := by
 rw [tokL_eq, tokL_eq]
 refine ext_oK (iri_ext r hr m) (ext_oK (blank_ext r hr m) (ext_oK (text_ext r hr m) (ext_oK (lang_ext r hr m) (ext_oK (var_ext r hr m) (ext_oK (word_ext r hr m) (ext_oK (mark_ext m marks marks10 r) ?_))))))
 intro y r' h
 cases h
end Go.Proofs.YtjnhdamilbcmpaaDoor.PTm

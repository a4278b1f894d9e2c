import Derived.Test.YtjnhdamilbcmpaaDoorCuLexA
set_option linter.unusedVariables false
set_option linter.unusedSimpArgs false
namespace Go.Proofs.YtjnhdamilbcmpaaDoor.PTm
open Go.RowKit Go.Proofs.YtjnhdamilbcmpaaDoorW.PrintWords Go.Proofs.YtjnhdamilbcmpaaDoorW.PrintLast Go.Proofs.YtjnhdamilbcmpaaDoorW.PrintMore
def sizes (l : List ByteArray) : Nat := (l.map fun p => p.size + 2).sum
theorem tag_l0q (s : ByteArray) (parts : List ByteArray) (hn : parts.length ≤ 1000000000) (hp : ∀ p ∈ parts, p.size ≤ 1000000000000) : ∀ (d i k : Nat), parts.length - i = d → i ≤ parts.length → 1 + sizes (parts.drop i) ≤ k →
  term_tag.l0 k s parts (parts.length : Nat) (i : Nat) = some (tagQ (i == 0) ((parts.drop i).map bys) && decide (s.size ≤ 35))
 | 0, i, k, hd, hi, hk => by
  obtain ⟨m, rfl⟩ : ∃ m, k = m + 1 := ⟨k - 1, by omega⟩
  simp only [term_tag.l0]
  rw [if_neg (by omega), List.drop_eq_nil_of_le (by omega)]
  simp only [List.map_nil, tagQ, Bool.true_and]
  congr 1
  exact decide_eq_decide.mpr (by omega)
 | d + 1, i, k, hd, hi, hk => by
  have hlt : i < parts.length := by omega
  have hsum : sizes (parts.drop i) = parts[i].size + 2 + sizes (parts.drop (i + 1)) := by
   unfold sizes
   rw [List.drop_eq_getElem_cons hlt, List.map_cons, List.sum_cons]
  rw [hsum] at hk
  have hK : ∀ k, 1 + sizes (parts.drop (i + 1)) ≤ k → _ := fun k hk => tag_l0q s parts hn hp d (i + 1) k (by omega) (by omega) hk
  obtain ⟨m, rfl⟩ : ∃ m, k = m + 1 := ⟨k - 1, by omega⟩
  have hrd : rdOf ByteArray.empty parts (i : Nat) = parts[i] := by simp [rdOf, List.getD_eq_getElem?_getD, List.getElem?_eq_getElem hlt]
  have hsz := hp parts[i] (List.getElem_mem hlt)
  have h1 := tag_l1 s parts parts.length i parts[i] hsz (by omega) _ _ hK parts[i].size 0 m (by omega) (by omega) (by omega)
  simp only [term_tag.l0]
  rw [if_pos (by omega), if_pos (by omega), if_pos (by omega), hrd, List.drop_eq_getElem_cons hlt, List.map_cons]
  by_cases h0 : parts[i].size = 0
  ·rw [if_pos ((toList_nil _).2 h0)]
   have hb : bys parts[i] = [] := List.eq_nil_of_length_eq_zero (by rw [bys_length]; exact h0)
   simp [tagQ, hb]
  ·rw [if_neg (fun h => h0 ((toList_nil _).1 h))]
   rw [show (0 : Int) = ((0 : Nat) : Int) from rfl, h1]
   have hb : (bys parts[i]).isEmpty = false := by
    cases hq : bys parts[i] with
    | nil => have := bys_length parts[i]; rw [hq] at this; simp at this; omega
    | cons _ _ => rfl
   simp only [tagQ, hb, List.drop_zero, Bool.not_false, Bool.true_and]
   rw [show (i + 1 == 0) = false by simp, Bool.and_assoc]
theorem spl_sum (c : Int) : ∀ l : List Int, ((spl c l).map fun q => q.length + 2).sum ≤ 3 * l.length + 2
 | [] => by simp [spl]
 | x :: l => by
  have ih := spl_sum c l
  rw [spl_cons, List.length_cons]
  by_cases h : x = c
  ·rw [if_pos h, List.map_cons, List.sum_cons]
   simp only [List.length_nil]
   omega
  ·rw [if_neg h]
   cases hh : spl c l with
   | nil => exact absurd hh (spl_ne c l)
   | cons a b =>
    rw [hh, List.map_cons, List.sum_cons] at ih
    simp only [List.map_cons, List.sum_cons, List.length_cons]
    omega
theorem tag_q (s : ByteArray) (hs : s.size ≤ 1100000) (k : Nat) (hk : 3 * s.size + 3 ≤ k) : term_tag.f k s = some (tagB s) := by
 have hf : strings_Split.f s ⟨#[45]⟩ = some (splitAll s ⟨#[45]⟩) := by
  unfold strings_Split.f strings_genSplit.f
  rw [if_pos ⟨rfl, rfl, by omega⟩]
  rfl
 have hsp : (splitAll s ⟨#[45]⟩).map bys = spl 45 (bys s) := splitB_spl 45 _ s rfl
 have hsum : sizes (splitAll s ⟨#[45]⟩) ≤ 3 * s.size + 2 := by
  have h1 := spl_sum 45 (bys s)
  rw [← hsp, List.map_map, bys_length] at h1
  have h2 : ((fun q : List Int => q.length + 2) ∘ bys) = fun p : ByteArray => p.size + 2 := funext fun p => by
   show (bys p).length + 2 = p.size + 2
   rw [bys_length]
  rw [h2] at h1
  exact h1
 have hmem : ∀ (l : List ByteArray) (p : ByteArray), p ∈ l → p.size + 2 ≤ sizes l := by
  intro l
  induction l with
  | nil => intro p hp; cases hp
  | cons a l ih =>
   intro p hp
   have e : sizes (a :: l) = a.size + 2 + sizes l := by unfold sizes; rw [List.map_cons, List.sum_cons]
   rw [e]
   rcases List.mem_cons.1 hp with rfl | hp
   ·omega
   ·have := ih p hp
    omega
 have hlen : ∀ l : List ByteArray, l.length ≤ sizes l := by
  intro l
  induction l with
  | nil => exact Nat.zero_le _
  | cons a l ih =>
   have e : sizes (a :: l) = a.size + 2 + sizes l := by unfold sizes; rw [List.map_cons, List.sum_cons]
   rw [e, List.length_cons]
   omega
 have hl := hlen (splitAll s ⟨#[45]⟩)
 have := tag_l0q s (splitAll s ⟨#[45]⟩) (by omega) (fun p hp => by have := hmem _ p hp; omega) _ 0 k rfl (by omega) (by rw [List.drop_zero]; omega)
 unfold term_tag.f
 rw [hf, Option.bind_some]
 rw [show ((0 : Nat) : Int) = 0 from rfl] at this
 rw [this]
 unfold tagB
 rw [List.drop_zero, ← hsp]
 rfl
theorem may_q (n : Int) (t x : ByteArray) (ht : t.size ≤ 1100000) (hx : x.size ≤ 1100000) (k : Nat) (hk : t.size + 3 * x.size + 4 ≤ k) : term_May.f k n t x = some (mayB n t x) := by
 have e1 : term_iri.f t = some (iriB t) := by unfold term_iri.f; rw [if_pos (by omega)]
 have e2 : term_iri.f x = some (iriB x) := by unfold term_iri.f; rw [if_pos (by omega)]
 unfold term_May.f mayB term_kinds_1.f term_kinds_2.f term_kinds_3.f term_kinds_4.f term_kinds_5.f
 rw [e1, e2, value_eq t ht, blank_eq t (by omega) k (by omega), tag_q x hx k (by omega)]
 simp only [Option.bind_some]
 repeat' split
 all_goals simp_all [xsd]
def nob : ByteArray := ⟨#[]⟩
abbrev Sy := Int × ByteArray × Int × ByteArray × ByteArray
abbrev Out := Option (Option (Sy × List Int))
abbrev Res := Option (Int × ByteArray × Int × ByteArray × ByteArray × Int × Bool × ByteArray × Int)
def Rd (fb : Option Int) (ff : Res) (s : ByteArray) (a : Nat) : Out → Prop
 | none => fb = none ∧ ff = some (0, nob, 0, nob, nob, 0, false, s, ((a : Nat) : Int))
 | some none => fb = some ((a : Nat) : Int)
 | some (some (y, r)) => fb = none ∧ ∃ e : Nat, a < e ∧ e ≤ s.size ∧ at_ s e = r ∧ ff = some (y.1, y.2.1, y.2.2.1, y.2.2.2.1, y.2.2.2.2, 0, true, s, ((e : Nat) : Int))
def iriO (r : List Int) : Out := if hd0 r = 60 then some (match quotedL 62 false r.length (r.drop 1) with
 | none => none
 | some x => if mayB 1 (strOfNums x.1) nob = true then some ((1, nob, 1, strOfNums x.1, nob), x.2) else none) else none
def textO (r : List Int) : Out := if hd0 r = 34 then some (match quotedL 34 true r.length (r.drop 1) with
 | none => none
 | some x => some ((3, strOfNums x.1, 0, nob, nob), x.2)) else none
theorem quoted_size (en : Int) (all : Bool) : ∀ (k : Nat) (r : List Int) (x : List Int) (r' : List Int), quotedL en all k r = some (x, r') → x.length ≤ 4 * k
 | 0, r, x, r', h => by cases h
 | k + 1, [], x, r', h => by cases h
 | k + 1, c :: t, x, r', h => by
  rw [quotedL] at h
  by_cases c1 : c = en
  ·rw [if_pos c1] at h
   cases h
   exact Nat.zero_le _
  rw [if_neg c1] at h
  by_cases c2 : all = true ∧ (c = 10 ∨ c = 13)
  ·rw [if_pos c2] at h
   cases h
  rw [if_neg c2] at h
  by_cases c3 : c = 92
  ·rw [if_pos c3] at h
   cases he : escP all t with
   | none => rw [he] at h; cases h
   | some y =>
    rw [he] at h
    dsimp only at h
    cases hq : quotedL en all k y.2 with
    | none => rw [hq] at h; cases h
    | some z =>
     rw [hq] at h
     have hz := quoted_size en all k y.2 z.1 z.2 hq
     have hy : y.1.length ≤ 4 := by
      have ho : ∀ (q : List Int) (v : Int) (y : List Int × List Int), escO q v = some y → y.1.length ≤ 4 := by
       intro q v y h
       unfold escO at h
       split at h
       ·cases h
        exact put_len v
       ·cases h
      unfold escP at he
      split at he
      ·split at he
       ·cases he
       ·exact ho _ _ _ he
      ·split at he
       ·split at he
        ·cases he
        ·exact ho _ _ _ he
       ·split at he
        ·exact ho _ _ _ he
        ·cases he
     cases h
     rw [List.length_append]
     omega
  ·rw [if_neg c3] at h
   cases hq : quotedL en all k t with
   | none => rw [hq] at h; cases h
   | some z =>
    rw [hq] at h
    have hz := quoted_size en all k t z.1 z.2 hq
    cases h
    rw [List.length_cons]
    omega
section
variable (s : ByteArray) (hs : s.size ≤ 200000) (a k : Nat) (ha : a < s.size) (hk : 5 * s.size + 200 ≤ k)
include hs ha hk
theorem iri_rd : Rd (iri_b k s ((a : Nat) : Int)) (ls_iri.f k s ((a : Nat) : Int)) s a (iriO (at_ s a)) := by
 unfold iriO iri_b ls_iri.f
 rw [chv_at, ch_at, Option.bind_some, Option.bind_some]
 dsimp only
 by_cases c1 : hd0 (at_ s a) = 60
 ·rw [if_pos c1, if_pos c1, if_pos c1, at_tail, at_len]
  obtain ⟨d, hd⟩ : ∃ d, s.size - a = d + 1 := ⟨s.size - a - 1, by omega⟩
  rw [hd]
  unfold ls_quoted.f
  rw [w1_1 (by omega)]
  obtain ⟨q1, q2⟩ := quoted_at s (by omega) 62 (by decide) false ((a : Nat) : Int) d (a + 1) k 0 [] (by omega) (by omega) (by omega) (Nat.zero_le _) rfl
  cases hq : quotedL 62 false (d + 1) (at_ s (a + 1)) with
  | none =>
   dsimp only
   rw [q1 hq]
   exact rfl
  | some z =>
   obtain ⟨x, r'⟩ := z
   obtain ⟨h1, e, h2, h3, h4, h5⟩ := q2 x r' hq
   have hx := quoted_size 62 false _ _ x r' hq
   dsimp only
   rw [h1, h5, Option.bind_some, Option.bind_some]
   dsimp only
   rw [List.nil_append, show (⟨#[]⟩ : ByteArray) = nob from rfl, may_q 1 (strOfNums x) nob (by rw [str_len]; omega) (by decide) k (by rw [str_len]; show x.length + 3 * 0 + 4 ≤ k; omega), Option.bind_some, Option.bind_some]
   by_cases c2 : mayB 1 (strOfNums x) nob = true
   ·rw [if_pos c2, if_pos c2, if_pos c2]
    exact ⟨rfl, e, by omega, h3, h4, rfl⟩
   ·rw [if_neg c2, if_neg c2, if_neg c2]
    exact rfl
 ·rw [if_neg c1, if_neg c1, if_neg c1]
  exact ⟨rfl, rfl⟩
theorem text_rd : Rd (text_b k s ((a : Nat) : Int)) (ls_text.f k s ((a : Nat) : Int)) s a (textO (at_ s a)) := by
 unfold textO text_b ls_text.f
 rw [chv_at, ch_at, Option.bind_some, Option.bind_some]
 dsimp only
 by_cases c1 : hd0 (at_ s a) = 34
 ·rw [if_pos c1, if_pos c1, if_pos c1, at_tail, at_len]
  obtain ⟨d, hd⟩ : ∃ d, s.size - a = d + 1 := ⟨s.size - a - 1, by omega⟩
  rw [hd]
  unfold ls_quoted.f
  rw [w1_1 (by omega)]
  obtain ⟨q1, q2⟩ := quoted_at s (by omega) 34 (by decide) true ((a : Nat) : Int) d (a + 1) k 0 [] (by omega) (by omega) (by omega) (Nat.zero_le _) rfl
  cases hq : quotedL 34 true (d + 1) (at_ s (a + 1)) with
  | none => exact q1 hq
  | some z =>
   obtain ⟨x, r'⟩ := z
   obtain ⟨h1, e, h2, h3, h4, h5⟩ := q2 x r' hq
   rw [h5, Option.bind_some]
   exact ⟨h1, e, by omega, h3, h4, rfl⟩
 ·rw [if_neg c1, if_neg c1, if_neg c1]
  exact ⟨rfl, rfl⟩
end
end Go.Proofs.YtjnhdamilbcmpaaDoor.PTm
set_option linter.unusedVariables false
set_option linter.unusedSimpArgs false
namespace Go.Proofs.YtjnhdamilbcmpaaDoor.PTm
open Go.RowKit Go.Proofs.YtjnhdamilbcmpaaDoorW.PrintWords Go.Proofs.YtjnhdamilbcmpaaDoorW.PrintLast Go.Proofs.YtjnhdamilbcmpaaDoorW.PrintMore
def blankO (r : List Int) : Out := if hd0 r = 95 then (if hd0 (r.drop 1) = 58 then some (if (spanF namedF false (r.drop 2)).1.length > 64 then none else if mayB 2 (strOfNums (spanF namedF false (r.drop 2)).1) nob = true then some ((2, nob, 2, strOfNums (spanF namedF false (r.drop 2)).1, nob), (spanF namedF false (r.drop 2)).2) else none) else none) else none
def langO (r : List Int) : Out := if hd0 r = 64 then some (if (spanF langF false (r.drop 1)).1.length > 35 then none else if mayB 4 nob (strOfNums (spanF langF false (r.drop 1)).1) = true then some ((4, strOfNums (spanF langF false (r.drop 1)).1, 0, nob, nob), (spanF langF false (r.drop 1)).2) else none) else none
def varO (r : List Int) : Out := if hd0 r = 63 then some (if (spanF namedF false (r.drop 1)).1.length > 32 then none else if (spanF namedF false (r.drop 1)).1 = [] then none else some ((5, strOfNums (spanF namedF false (r.drop 1)).1, 0, nob, nob), (spanF namedF false (r.drop 1)).2)) else none
def wordG (r : List Int) (w : List Int × List Int) : Option (Sy × List Int) := if w.1.length > 32 then none else if hd0 w.2 = 58 ∧ hd0 (w.2.drop 1) ≠ 45 then (if (spanF restF false (w.2.drop 1)).1.length > 64 then none else some ((7, strOfNums (w.1 ++ 58 :: (spanF restF false (w.2.drop 1)).1), 0, nob, nob), (spanF restF false (w.2.drop 1)).2)) else some ((6, strOfNums w.1, 0, nob, nob), w.2)
def wordO (r : List Int) : Out := if letterB (hd0 r) = true ∨ (hd0 r = 58 ∧ hd0 (r.drop 1) ≠ 45) then some (wordG r (spanF namedF false r)) else none
def marks : List ByteArray := [(⟨#[94, 94]⟩ : ByteArray), (⟨#[58, 45]⟩ : ByteArray), (⟨#[33, 61]⟩ : ByteArray), (⟨#[61]⟩ : ByteArray), (⟨#[46]⟩ : ByteArray), (⟨#[44]⟩ : ByteArray), (⟨#[40]⟩ : ByteArray), (⟨#[41]⟩ : ByteArray), (⟨#[123]⟩ : ByteArray), (⟨#[125]⟩ : ByteArray)]
def markL : List ByteArray → List Int → Out
 | [], _ => none
 | m :: ms, r => if (bys m).isPrefixOf r = true then some (some ((8, m, 0, nob, nob), r.drop m.size)) else markL ms r
section
variable (s : ByteArray) (hs : s.size ≤ 200000) (a k : Nat) (ha : a ≤ s.size) (hk : 4 * s.size + 100 ≤ k)
include hs ha hk
theorem run_fin (fn : Nat) (f : Bool → Int → Bool) (hfn : fn = 66 ∨ fn = 67 ∨ fn = 70) (hf : ∀ i c, ls_run.is fn i c = some (f (decide (0 < i)) c)) (at0 : Int) (most : Nat) (hm : most ≤ 100) :
  ((spanF f false (at_ s a)).1.length > most → run_b k s ((a : Nat) : Int) at0 (most : Nat) fn = some at0) ∧
  (¬ (spanF f false (at_ s a)).1.length > most → run_b k s ((a : Nat) : Int) at0 (most : Nat) fn = none ∧ ∃ e : Nat, e = a + (spanF f false (at_ s a)).1.length ∧ e ≤ s.size ∧ at_ s e = (spanF f false (at_ s a)).2 ∧ ls_run.f k s ((a : Nat) : Int) at0 (most : Nat) fn = some (strOfNums (spanF f false (at_ s a)).1, s, ((e : Nat) : Int))) := by
 obtain ⟨e, h1, h2, h3, h4, h5⟩ := run_at s (by omega) fn f hf a (s.size - a) a k rfl ha (Nat.le_refl _) (by omega)
 rw [show decide (a < a) = false from decide_eq_false (Nat.lt_irrefl a)] at h3 h4
 have hl : (spanF f false (at_ s a)).1.length = e - a := by
  rw [← h4, List.length_take, at_len]
  omega
 have hx := ext_at s a e h1 h2
 rw [h4] at hx
 unfold run_b ls_run.f
 rw [if_pos hfn, if_pos hfn, h5, Option.bind_some, Option.bind_some, w64n (by omega) (by omega)]
 refine ⟨fun h => if_pos (by omega), fun h => ⟨if_neg (by omega), e, by omega, h2, h3, ?_⟩⟩
 rw [if_neg (by omega), if_pos (by omega), if_pos (by omega), if_pos (by omega), Int.toNat_natCast, Int.toNat_natCast, hx]
end
theorem take_of {l p q : List Int} {n : Nat} (h : p ++ q = l) (hn : n = p.length) : l.take n = p := by
 subst h
 subst hn
 exact List.take_left
theorem str_nil (l : List Int) : (strOfNums l).toList = ([] : List UInt8) ↔ l = [] := by
 rw [toList_nil, str_len]
 exact List.length_eq_zero_iff
section
variable (s : ByteArray) (hs : s.size ≤ 200000) (a k : Nat) (ha : a < s.size) (hk : 5 * s.size + 200 ≤ k)
include hs ha hk
theorem blank_rd : Rd (blank_b k s ((a : Nat) : Int)) (ls_blank.f k s ((a : Nat) : Int)) s a (blankO (at_ s a)) := by
 obtain ⟨k', rfl⟩ : ∃ q, k = q + 1 := ⟨k - 1, by omega⟩
 unfold blankO blank_b ls_blank.f
 rw [chv_at, ch_at, Option.bind_some, Option.bind_some]
 dsimp only
 by_cases c1 : hd0 (at_ s a) = 95
 ·rw [if_pos c1, if_pos c1, if_pos c1, at_tail, at_drop, w1_1 (by omega), chv_at, ch_at, Option.bind_some, Option.bind_some, ls_blank.j0]
  dsimp only
  rw [w1_2 (by omega)]
  by_cases c2 : hd0 (at_ s (a + 1)) = 58
  ·have hlt : a + 1 < s.size := hd_in (by rw [c2]; decide)
   rw [if_pos c2, if_pos c2, if_neg (by rw [c2]; decide)]
   obtain ⟨p1, p2⟩ := run_fin s hs (a + 2) (k' + 1) (by omega) (by omega) _ namedF (.inl rfl) is_named ((a : Nat) : Int) 64 (by decide)
   obtain ⟨_, g2⟩ := run_fin s hs (a + 2) k' (by omega) (by omega) _ namedF (.inl rfl) is_named ((a : Nat) : Int) 64 (by decide)
   by_cases c3 : (spanF namedF false (at_ s (a + 2))).1.length > 64
   ·rw [if_pos c3, show ((64 : Int)) = ((64 : Nat) : Int) from rfl, p1 c3]
    exact rfl
   ·obtain ⟨h1, e, h2, h3, h4, h5⟩ := p2 c3
    obtain ⟨_, e', h2', _, _, h5'⟩ := g2 c3
    obtain rfl : e' = e := by omega
    rw [if_neg c3, show ((64 : Int)) = ((64 : Nat) : Int) from rfl, h1, h5, h5', Option.bind_some, Option.bind_some]
    dsimp only
    rw [show (⟨#[]⟩ : ByteArray) = nob from rfl, may_q 2 _ nob (by rw [str_len]; omega) (by decide) (k' + 1) (by rw [str_len]; show _ + 3 * 0 + 4 ≤ _; omega), may_q 2 _ nob (by rw [str_len]; omega) (by decide) k' (by rw [str_len]; show _ + 3 * 0 + 4 ≤ _; omega), Option.bind_some, Option.bind_some]
    by_cases c4 : mayB 2 (strOfNums (spanF namedF false (at_ s (a + 2))).1) nob = true
    ·rw [if_pos c4, if_pos c4, if_pos c4]
     exact ⟨rfl, e', by omega, h3, h4, rfl⟩
    ·rw [if_neg c4, if_neg c4, if_neg c4]
     exact rfl
  ·rw [if_neg c2, if_neg c2, if_pos (bne_iff_ne.2 c2)]
   exact ⟨rfl, rfl⟩
 ·rw [if_neg c1, if_neg c1, if_neg c1, ls_blank.j0]
  exact ⟨rfl, rfl⟩
theorem lang_rd : Rd (lang_b k s ((a : Nat) : Int)) (ls_lang.f k s ((a : Nat) : Int)) s a (langO (at_ s a)) := by
 unfold langO lang_b ls_lang.f
 rw [chv_at, ch_at, Option.bind_some, Option.bind_some]
 dsimp only
 by_cases c1 : hd0 (at_ s a) = 64
 ·rw [if_pos c1, if_pos c1, if_pos c1, at_tail, w1_1 (by omega)]
  obtain ⟨p1, p2⟩ := run_fin s hs (a + 1) k (by omega) (by omega) _ langF (.inr (.inl rfl)) is_lang ((a : Nat) : Int) 35 (by decide)
  by_cases c3 : (spanF langF false (at_ s (a + 1))).1.length > 35
  ·rw [if_pos c3, show ((35 : Int)) = ((35 : Nat) : Int) from rfl, p1 c3]
   exact rfl
  ·obtain ⟨h1, e, h2, h3, h4, h5⟩ := p2 c3
   rw [if_neg c3, show ((35 : Int)) = ((35 : Nat) : Int) from rfl, h1, h5, Option.bind_some, Option.bind_some]
   dsimp only
   rw [show (⟨#[]⟩ : ByteArray) = nob from rfl, may_q 4 nob _ (by decide) (by rw [str_len]; omega) k (by rw [str_len]; show 0 + 3 * _ + 4 ≤ k; omega), Option.bind_some, Option.bind_some]
   by_cases c4 : mayB 4 nob (strOfNums (spanF langF false (at_ s (a + 1))).1) = true
   ·rw [if_pos c4, if_pos c4, if_pos c4]
    exact ⟨rfl, e, by omega, h3, h4, rfl⟩
   ·rw [if_neg c4, if_neg c4, if_neg c4]
    exact rfl
 ·rw [if_neg c1, if_neg c1, if_neg c1]
  exact ⟨rfl, rfl⟩
theorem var_rd : Rd (variable_b k s ((a : Nat) : Int)) (ls_variable.f k s ((a : Nat) : Int)) s a (varO (at_ s a)) := by
 unfold varO variable_b ls_variable.f
 rw [chv_at, ch_at, Option.bind_some, Option.bind_some]
 dsimp only
 by_cases c1 : hd0 (at_ s a) = 63
 ·rw [if_pos c1, if_pos c1, if_pos c1, at_tail, w1_1 (by omega)]
  obtain ⟨p1, p2⟩ := run_fin s hs (a + 1) k (by omega) (by omega) _ namedF (.inl rfl) is_named ((a : Nat) : Int) 32 (by decide)
  by_cases c3 : (spanF namedF false (at_ s (a + 1))).1.length > 32
  ·rw [if_pos c3, show ((32 : Int)) = ((32 : Nat) : Int) from rfl, p1 c3]
   exact rfl
  ·obtain ⟨h1, e, h2, h3, h4, h5⟩ := p2 c3
   rw [if_neg c3, show ((32 : Int)) = ((32 : Nat) : Int) from rfl, h1, h5, Option.bind_some, Option.bind_some]
   dsimp only
   by_cases c4 : (spanF namedF false (at_ s (a + 1))).1 = []
   ·rw [if_pos c4, if_pos ((str_nil _).2 c4), if_pos ((str_nil _).2 c4)]
    exact rfl
   ·rw [if_neg c4, if_neg (fun h => c4 ((str_nil _).1 h)), if_neg (fun h => c4 ((str_nil _).1 h))]
    exact ⟨rfl, e, by omega, h3, h4, rfl⟩
 ·rw [if_neg c1, if_neg c1, if_neg c1]
  exact ⟨rfl, rfl⟩
theorem word_rd : Rd (word_b k s ((a : Nat) : Int)) (ls_word.f k s ((a : Nat) : Int)) s a (wordO (at_ s a)) := by
 obtain ⟨k', rfl⟩ : ∃ q, k = q + 1 := ⟨k - 1, by omega⟩
 have key : letterB (hd0 (at_ s a)) = true ∨ (hd0 (at_ s a) = 58 ∧ hd0 ((at_ s a).drop 1) ≠ 45) → Rd (word_c (k' + 1) s ((a : Nat) : Int)) (ls_word.j0 (k' + 1) ((a : Nat) : Int) false s ((a : Nat) : Int)) s a (some (wordG (at_ s a) (spanF namedF false (at_ s a)))) := by
  intro hfirst
  rw [ls_word.j0, if_neg Bool.false_ne_true]
  unfold wordG word_c
  obtain ⟨p1, p2⟩ := run_fin s hs a (k' + 1) (by omega) (by omega) _ namedF (.inl rfl) is_named ((a : Nat) : Int) 32 (by decide)
  obtain ⟨_, g2⟩ := run_fin s hs a k' (by omega) (by omega) _ namedF (.inl rfl) is_named ((a : Nat) : Int) 32 (by decide)
  by_cases c3 : (spanF namedF false (at_ s a)).1.length > 32
  ·rw [if_pos c3, show ((32 : Int)) = ((32 : Nat) : Int) from rfl, p1 c3]
   exact rfl
  ·obtain ⟨h1, e, h2, h3, h4, h5⟩ := p2 c3
   obtain ⟨_, e', h2', _, _, h5'⟩ := g2 c3
   obtain rfl : e' = e := by omega
   have hx := ext_at s a e' (by omega) h3
   have hlen0 : a < e' ∨ hd0 (at_ s e') = 58 ∧ hd0 (at_ s (e' + 1)) ≠ 45 := by
    rcases hfirst with h | ⟨h, g⟩
    ·left
     rw [at_cons ha] at h h2
     rw [spanF, if_pos (by unfold namedF; rw [show hd0 (bt s ((a : Nat) : Int) :: at_ s (a + 1)) = bt s ((a : Nat) : Int) from rfl] at h; rw [h]; rfl)] at h2
     simp only [List.length_cons] at h2
     omega
    ·by_cases q : e' = a
     ·subst q
      rw [at_tail] at g
      exact .inr ⟨h, g⟩
     ·left
      omega
   rw [if_neg c3, show ((32 : Int)) = ((32 : Nat) : Int) from rfl, h1, h5, h5', Option.bind_some, Option.bind_some]
   dsimp only
   rw [← h4, at_tail, if_pos rfl, chv_at, ch_at, Option.bind_some, Option.bind_some]
   dsimp only
   by_cases c4 : hd0 (at_ s e') = 58
   ·have hlt : e' < s.size := hd_in (by rw [c4]; decide)
    rw [if_pos c4, if_pos c4, w1_1 (by omega), chv_at, ch_at, Option.bind_some, Option.bind_some]
    dsimp only
    by_cases c5 : hd0 (at_ s (e' + 1)) = 45
    ·rw [if_pos c5, if_pos c5, if_neg (fun h => h.2 c5)]
     refine ⟨rfl, e', ?_, h3, rfl, rfl⟩
     rcases hlen0 with h | h
     ·exact h
     ·exact absurd c5 h.2
    ·rw [if_neg c5, if_neg c5, if_pos ⟨c4, c5⟩]
     obtain ⟨q1, q2⟩ := run_fin s hs (e' + 1) (k' + 1) (by omega) (by omega) _ restF (.inr (.inr rfl)) is_rest ((a : Nat) : Int) 64 (by decide)
     obtain ⟨_, r2⟩ := run_fin s hs (e' + 1) k' (by omega) (by omega) _ restF (.inr (.inr rfl)) is_rest ((a : Nat) : Int) 64 (by decide)
     by_cases c6 : (spanF restF false (at_ s (e' + 1))).1.length > 64
     ·rw [if_pos c6, show ((64 : Int)) = ((64 : Nat) : Int) from rfl, q1 c6]
      exact rfl
     ·obtain ⟨i1, f, i2, i3, i4, i5⟩ := q2 c6
      obtain ⟨_, f', i2', _, _, i5'⟩ := r2 c6
      obtain rfl : f' = f := by omega
      rw [if_neg c6, w1_1 (by omega), show ((64 : Int)) = ((64 : Nat) : Int) from rfl, i1, i5', Option.bind_some]
      dsimp only
      rw [if_pos (by omega), if_pos (by omega), if_pos (by omega), Int.toNat_natCast, Int.toNat_natCast]
      refine ⟨rfl, f', by omega, i3, i4, ?_⟩
      have hv : (at_ s a).take (f' - a) = (spanF namedF false (at_ s a)).1 ++ 58 :: (spanF restF false (at_ s (e' + 1))).1 := by
       have l1 := span_len namedF false (at_ s a)
       have l2 := span_len restF false (at_ s (e' + 1))
       have l3 : (spanF namedF false (at_ s a)).2 = 58 :: at_ s (e' + 1) := by
        rw [← h4, at_cons hlt, show bt s ((e' : Nat) : Int) = 58 by rw [at_cons hlt] at c4; exact c4]
       refine take_of (q := (spanF restF false (at_ s (e' + 1))).2) ?_ (by rw [List.length_append, List.length_cons]; omega)
       rw [List.append_assoc, List.cons_append, l2, ← l3, l1]
      rw [ext_at s a f' (by omega) i3, hv]
      rfl
   ·rw [if_neg c4, if_neg c4, if_neg (fun h => c4 h.1)]
    refine ⟨rfl, e', ?_, h3, rfl, rfl⟩
    rcases hlen0 with h | h
    ·exact h
    ·exact absurd h.1 c4
 unfold wordO word_b ls_word.f
 rw [chv_at, ch_at, Option.bind_some, Option.bind_some]
 dsimp only
 rw [lex_letter_eq, Option.bind_some, Option.bind_some]
 by_cases c1 : letterB (hd0 (at_ s a)) = true
 ·rw [if_pos c1, if_pos c1, if_pos (.inl c1)]
  exact key (.inl c1)
 rw [if_neg c1, if_neg c1]
 by_cases c2 : hd0 (at_ s a) = 58
 ·rw [if_pos c2, if_pos c2, w1_1 (by omega), chv_at, ch_at, Option.bind_some, Option.bind_some]
  dsimp only
  by_cases c3 : hd0 (at_ s (a + 1)) = 45
  ·rw [if_pos c3, if_neg (by rw [at_tail]; exact fun h => h.elim c1 (fun h => h.2 c3)), show (hd0 (at_ s (a + 1)) == 45) = true from beq_iff_eq.2 c3, ls_word.j0, if_pos rfl]
   exact ⟨rfl, rfl⟩
  ·rw [if_neg c3, if_pos (by rw [at_tail]; exact .inr ⟨c2, c3⟩), show (hd0 (at_ s (a + 1)) == 45) = false from beq_eq_false_iff_ne.2 c3]
   exact key (.inr ⟨c2, by rw [at_tail]; exact c3⟩)
 ·rw [if_neg c2, if_neg c2, if_neg (fun h => h.elim c1 (fun h => c2 h.1)), ls_word.j0, if_pos rfl]
  exact ⟨rfl, rfl⟩
end
end Go.Proofs.YtjnhdamilbcmpaaDoor.PTm

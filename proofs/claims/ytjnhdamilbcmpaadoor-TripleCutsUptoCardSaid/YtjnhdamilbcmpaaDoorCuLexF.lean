import Derived.Test.YtjnhdamilbcmpaaDoorCuLexD
set_option linter.unusedVariables false
set_option linter.unusedSimpArgs false
namespace Go.Proofs.YtjnhdamilbcmpaaDoor.PTm
open Go.RowKit Go.Proofs.YtjnhdamilbcmpaaDoorW.PrintWords Go.Proofs.YtjnhdamilbcmpaaDoorW.PrintLast Go.Proofs.YtjnhdamilbcmpaaDoorW.PrintMore
theorem u8_inj : ∀ {l m : List UInt8}, (l.map fun u => (u.toNat : Int)) = (m.map fun u => (u.toNat : Int)) → l = m
 | [], [], _ => rfl
 | [], _ :: _, h => by cases h
 | _ :: _, [], h => by cases h
 | a :: l, b :: m, h => by
  rw [List.map_cons, List.map_cons] at h
  obtain ⟨h1, h2⟩ := List.cons.inj h
  rw [u8_inj h2, UInt8.toNat_inj.1 (by omega : a.toNat = b.toNat)]
theorem bys_inj {x y : ByteArray} (h : bys x = bys y) : x = y := by
 have := u8_inj h
 cases x with
 | mk dx => cases y with
  | mk dy => exact congrArg ByteArray.mk (Array.toList_inj.1 this)
theorem bys_ext (s : ByteArray) (a e : Nat) : bys (s.extract a e) = ((bys s).drop a).take (e - a) := by
 have key : (s.extract a e).data.toList = (s.data.toList.drop a).take (e - a) := by
  simp [ByteArray.data_extract, List.drop_take]
 unfold bys
 rw [key, ← List.map_drop, ← List.map_take]
theorem hp_eq (x m : ByteArray) : strings_HasPrefix.f x m = some ((bys m).isPrefixOf (bys x)) := by
 unfold strings_HasPrefix.f stringslite_HasPrefix.f
 by_cases h : (x.size : Int) ≥ (m.size : Int)
 ·rw [if_pos h, if_pos (by omega), if_pos (by omega), Option.bind_some, Int.toNat_natCast]
  congr 1
  rw [Bool.eq_iff_iff, beq_iff_eq, List.isPrefixOf_iff_prefix]
  have e := bys_ext x 0 m.size
  rw [List.drop_zero, Nat.sub_zero] at e
  constructor
  ·intro q
   have q2 : bys (x.extract 0 m.size) = bys m := by
    unfold bys
    rw [Lib.toList_data, Lib.toList_data] at q
    rw [q]
   rw [← q2, e]
   exact List.take_prefix _ _
  ·intro q
   have q2 : (bys x).take m.size = bys m := by
    obtain ⟨t, ht⟩ := q
    exact take_of ht (bys_length m).symm
   rw [← e] at q2
   rw [bys_inj q2]
 ·rw [if_neg h, Option.bind_some]
  congr 1
  rw [Bool.eq_iff_iff, List.isPrefixOf_iff_prefix]
  refine ⟨fun q => (by cases q), fun q => ?_⟩
  have := q.length_le
  rw [bys_length, bys_length] at this
  omega
theorem marks_size : ∀ m ∈ marks, 1 ≤ m.size ∧ m.size ≤ 2 := by
 intro m hm
 simp only [marks, List.mem_cons, List.mem_nil_iff, or_false] at hm
 rcases hm with rfl | rfl | rfl | rfl | rfl | rfl | rfl | rfl | rfl | rfl <;> exact ⟨by decide, by decide⟩
theorem mark_loop (s : ByteArray) (hs : s.size ≤ 200000) (a : Nat) (ha : a < s.size) : ∀ (d i k : Nat), marks.length - i = d → i ≤ marks.length → d + 1 ≤ k →
  Rd none (ls_mark.l0 k marks (marks.length : Nat) (i : Nat) s ((a : Nat) : Int)) s a (markL (marks.drop i) (at_ s a)) ∧ markL (marks.drop i) (at_ s a) ≠ some none
 | 0, i, k, hd, hi, hk => by
  obtain ⟨k, rfl⟩ : ∃ q, k = q + 1 := ⟨k - 1, by omega⟩
  rw [ls_mark.l0, if_neg (by omega), List.drop_eq_nil_of_le (by omega)]
  exact ⟨⟨rfl, rfl⟩, fun h => by cases h⟩
 | d + 1, i, k, hd, hi, hk => by
  obtain ⟨k, rfl⟩ : ∃ q, k = q + 1 := ⟨k - 1, by omega⟩
  have hlt : i < marks.length := by omega
  have hrd : rdOf ByteArray.empty marks ((i : Nat) : Int) = marks[i] := by simp [rdOf, List.getD_eq_getElem?_getD, List.getElem?_eq_getElem hlt]
  have hsz := marks_size marks[i] (List.getElem_mem hlt)
  have hb : bys (s.extract a s.size) = at_ s a := by
   rw [bys_ext]
   exact List.take_of_length_le (by rw [List.length_drop, bys_length]; exact Nat.le_refl _)
  have hml : marks.length = 10 := rfl
  rw [ls_mark.l0, if_pos (by omega), if_pos (by omega), if_pos (by omega), if_pos (by omega), if_pos (by omega), hrd, Int.toNat_natCast, hp_eq, hb, Option.bind_some, List.drop_eq_getElem_cons hlt, markL]
  generalize marks[i] = m at hsz ⊢
  by_cases c : (bys m).isPrefixOf (at_ s a) = true
  ·rw [if_pos c, if_pos c, w64n (by omega) (by omega)]
   have hl := (List.isPrefixOf_iff_prefix.1 c).length_le
   rw [bys_length, at_len] at hl
   refine ⟨⟨rfl, a + m.size, by omega, by omega, (at_drop s a m.size).symm, ?_⟩, fun h => by cases h⟩
   rw [show ((a + m.size : Nat) : Int) = (a : Int) + (m.size : Int) by omega]
   rfl
  ·rw [if_neg c, if_neg c, w1_1 (by omega)]
   exact mark_loop s hs a ha d (i + 1) k (by omega) (by omega) (by omega)
theorem mark_rd (s : ByteArray) (hs : s.size ≤ 200000) (a k : Nat) (ha : a < s.size) (hk : 20 ≤ k) : Rd none (ls_mark.f k s ((a : Nat) : Int)) s a (markL marks (at_ s a)) ∧ markL marks (at_ s a) ≠ some none := by
 have := mark_loop s hs a ha 10 0 k rfl (by decide) (by omega)
 rw [List.drop_zero] at this
 exact this
def tokL (r : List Int) : Option (Sy × List Int) := match iriO r with
 | some x => x
 | none => match blankO r with
  | some x => x
  | none => match textO r with
   | some x => x
   | none => match langO r with
    | some x => x
    | none => match varO r with
     | some x => x
     | none => match wordO r with
      | some x => x
      | none => match markL marks r with
       | some x => x
       | none => none
def Nx (nb : Option Int) (nf : Res) (s : ByteArray) (p : Nat) : Option (Sy × List Int) → Prop
 | none => nb = some ((p : Nat) : Int)
 | some (y, r) => nb = none ∧ ∃ e : Nat, p < e ∧ e ≤ s.size ∧ at_ s e = r ∧ nf = some (y.1, y.2.1, y.2.2.1, y.2.2.2.1, y.2.2.2.2, ((p : Nat) : Int), true, s, ((e : Nat) : Int))
def cK (fb : Option Int) (ff : Res) (s : ByteArray) (a : Int) (rb : Option Int) : Option Int := match fb with | some q => some q | none => ff.bind fun r => if r.2.2.2.2.2.2.1 = true then none else if r.2.2.2.2.2.2.2.1 = s ∧ r.2.2.2.2.2.2.2.2 = a then rb else none
def cM (ff : Res) (s : ByteArray) (a : Int) : Option Int := ff.bind fun r => if r.2.2.2.2.2.2.1 = true then none else if r.2.2.2.2.2.2.2.1 = s ∧ r.2.2.2.2.2.2.2.2 = a then some a else none
def gK (from_ : Int) (ff : Res) (rf : ByteArray → Int → Res) : Res := ff.bind fun r_ => if r_.2.2.2.2.2.2.1 = true then some (r_.1, r_.2.1, r_.2.2.1, r_.2.2.2.1, r_.2.2.2.2.1, from_, true, r_.2.2.2.2.2.2.2.1, r_.2.2.2.2.2.2.2.2) else rf r_.2.2.2.2.2.2.2.1 r_.2.2.2.2.2.2.2.2
def oK (o : Out) (rest : Option (Sy × List Int)) : Option (Sy × List Int) := match o with | some x => x | none => rest
theorem nx_step {fb : Option Int} {ff : Res} {s : ByteArray} {a : Nat} {o : Out} (h : Rd fb ff s a o) {rb : Option Int} (rf : ByteArray → Int → Res) {rest : Option (Sy × List Int)} (hr : Nx rb (rf s ((a : Nat) : Int)) s a rest) :
  Nx (cK fb ff s ((a : Nat) : Int) rb) (gK ((a : Nat) : Int) ff rf) s a (oK o rest) := by
 match o, h with
 | none, h =>
  obtain ⟨rfl, rfl⟩ := h
  exact (show Nx (if s = s ∧ ((a : Nat) : Int) = ((a : Nat) : Int) then rb else none) (rf s ((a : Nat) : Int)) s a rest by rw [if_pos ⟨rfl, rfl⟩]; exact hr)
 | some none, h =>
  obtain rfl : fb = some ((a : Nat) : Int) := h
  exact rfl
 | some (some (y, r)), h =>
  obtain ⟨rfl, e, h2, h3, h4, rfl⟩ := h
  exact ⟨rfl, e, h2, h3, h4, rfl⟩
theorem nx_last {ff : Res} {s : ByteArray} {a : Nat} {o : Out} (h : Rd none ff s a o) (h0 : o ≠ some none) :
  Nx (cM ff s ((a : Nat) : Int)) (gK ((a : Nat) : Int) ff fun _ _ => none) s a (oK o none) := by
 match o, h with
 | none, h =>
  obtain ⟨_, rfl⟩ := h
  exact (show (if s = s ∧ ((a : Nat) : Int) = ((a : Nat) : Int) then some ((a : Nat) : Int) else none) = some ((a : Nat) : Int) from if_pos ⟨rfl, rfl⟩)
 | some none, h => exact absurd rfl h0
 | some (some (y, r)), h =>
  obtain ⟨_, e, h2, h3, h4, rfl⟩ := h
  exact ⟨rfl, e, h2, h3, h4, rfl⟩
theorem next_c_eq (k : Nat) (s : ByteArray) (a : Int) : next_c k s a = cK (iri_b k s a) (ls_iri.f k s a) s a (cK (blank_b k s a) (ls_blank.f k s a) s a (cK (text_b k s a) (ls_text.f k s a) s a (cK (lang_b k s a) (ls_lang.f k s a) s a (cK (variable_b k s a) (ls_variable.f k s a) s a (cK (word_b k s a) (ls_word.f k s a) s a (cM (ls_mark.f k s a) s a)))))) := rfl
theorem next_g_eq (k : Nat) (s : ByteArray) (a p : Int) : ls_next.g k s a p = gK p (ls_iri.f k s a) fun s a => gK p (ls_blank.f k s a) fun s a => gK p (ls_text.f k s a) fun s a => gK p (ls_lang.f k s a) fun s a => gK p (ls_variable.f k s a) fun s a => gK p (ls_word.f k s a) fun s a => gK p (ls_mark.f k s a) fun _ _ => none := rfl
theorem tokL_eq (r : List Int) : tokL r = oK (iriO r) (oK (blankO r) (oK (textO r) (oK (langO r) (oK (varO r) (oK (wordO r) (oK (markL marks r) none)))))) := rfl
theorem next_at (s : ByteArray) (hs : s.size ≤ 200000) (a k : Nat) (ha : a < s.size) (hk : 5 * s.size + 200 ≤ k) : Nx (next_c k s ((a : Nat) : Int)) (ls_next.g k s ((a : Nat) : Int) ((a : Nat) : Int)) s a (tokL (at_ s a)) := by
 rw [next_c_eq, next_g_eq, tokL_eq]
 refine nx_step (iri_rd s hs a k ha hk) _ ?_
 refine nx_step (blank_rd s hs a k ha hk) _ ?_
 refine nx_step (text_rd s hs a k ha hk) _ ?_
 refine nx_step (lang_rd s hs a k ha hk) _ ?_
 refine nx_step (var_rd s hs a k ha hk) _ ?_
 refine nx_step (word_rd s hs a k ha hk) _ ?_
 exact nx_last (mark_rd s hs a k ha (by omega)).1 (mark_rd s hs a k ha (by omega)).2
def allL (n : Nat) : Nat → List Int → List S56 × Option Nat
 | 0, _ => ([], some 0)
 | k + 1, r => match skipL false r with
  | [] => ([], none)
  | c :: t => match tokL (c :: t) with
   | none => ([], some (n - (t.length + 1)))
   | some y => ((⟨y.1.1, y.1.2.1, (⟨y.1.2.2.1, y.1.2.2.2.1, y.1.2.2.2.2⟩ : S36), ((n - (t.length + 1) : Nat) : Int)⟩ : S56) :: (allL n k y.2).1, (allL n k y.2).2)
theorem all_at (s : ByteArray) (hs : s.size ≤ 200000) : ∀ (d a K : Nat) (xs : List S56), s.size - a ≤ d → a ≤ s.size → 5 * s.size + 200 + d + 1 ≤ K → xs.length + d ≤ 1000000000 →
  lex_All.l0 K xs s ((a : Nat) : Int) = some (match (allL s.size (d + 1) (at_ s a)).2 with | none => (xs ++ (allL s.size (d + 1) (at_ s a)).1, 0, 0) | some q => ([], (q : Int), 4))
 | d, a, K, xs, hd, ha, hK, hx => by
  obtain ⟨k, rfl⟩ : ∃ q, K = q + 1 := ⟨K - 1, by omega⟩
  obtain ⟨p, h1, h2, h3, h4⟩ := skip_at s (by omega) (s.size - a) a k (Nat.le_refl _) ha (by omega)
  rw [lex_All.l0, allL]
  unfold next_b ls_safely.f ls_next.f ls_skip.f
  rw [h4, Option.bind_some, Option.bind_some]
  dsimp only
  rw [if_pos rfl, ← h3]
  by_cases hp : p < s.size
  ·rw [if_neg (by omega), if_neg (by omega)]
   have hn := next_at s hs p k hp (by omega)
   have hl := at_len s p
   rw [at_cons hp] at hn hl ⊢
   dsimp only
   rw [List.length_cons] at hl
   cases ht : tokL (bt s ((p : Nat) : Int) :: at_ s (p + 1)) with
   | none =>
    rw [ht] at hn
    have hb : next_c k s ((p : Nat) : Int) = some ((p : Nat) : Int) := hn
    rw [hb]
    dsimp only
    rw [if_pos (by omega), show s.size - ((at_ s (p + 1)).length + 1) = p by omega]
   | some y =>
    obtain ⟨y, r⟩ := y
    rw [ht] at hn
    obtain ⟨g1, e, g2, g3, g4, g5⟩ := hn
    obtain ⟨d, rfl⟩ : ∃ q, d = q + 1 := ⟨d - 1, by omega⟩
    rw [g1, g5]
    dsimp only [Option.bind_some]
    rw [if_neg (by decide), if_pos rfl, if_pos (by omega), all_at s hs d e k _ (by omega) g3 (by omega) (by rw [List.length_append, List.length_cons, List.length_nil]; omega), g4, show s.size - ((at_ s (p + 1)).length + 1) = p by omega]
    cases (allL s.size (d + 1) r).2 with
    | none => rw [List.append_assoc]; rfl
    | some q => rfl
  ·rw [if_pos (by omega), if_pos (by omega), at_nil (by omega)]
   dsimp only [Option.bind_some]
   rw [if_neg (by decide), if_neg Bool.false_ne_true, List.append_nil]
 termination_by d => d
theorem all_eq (s : ByteArray) (hs : s.size ≤ 200000) (hw : lex_well.f s = some s) (k : Nat) : lex_All.f k s = some (match (allL s.size (s.size + 1) (bys s)).2 with | none => ((allL s.size (s.size + 1) (bys s)).1, 0, 0) | some q => ([], (q : Int), 4)) := by
 unfold lex_All.f
 rw [if_neg (by omega), hw, Option.bind_some, if_neg (by omega)]
 have := all_at s hs s.size 0 (lex_All.fuel s) [] (by omega) (Nat.zero_le _) (by unfold lex_All.fuel; omega) (by simp only [List.length_nil]; omega)
 rw [List.nil_append] at this
 exact this
end Go.Proofs.YtjnhdamilbcmpaaDoor.PTm

import Derived.Test.YtpbphelaeleikaaGreatDoorXtTermIri
import Derived.Lib.SplitLaws
import Derived.Lib.IndexBytes
import Derived.Lib.IndexLaws
set_option linter.unusedVariables false
set_option linter.unusedSimpArgs false
namespace Go.Proofs.YtpbphelaeleikaaGreatDoor.PLt
open Go.RowKit Go.Proofs.YtpbphelaeleikaaGreatDoorW.PrintWords Go.Proofs.YtpbphelaeleikaaGreatDoorW.PrintLast Go.Proofs.YtpbphelaeleikaaGreatDoorW.PrintMore
def letterB (c : Int) : Bool := decide ((65 ≤ c ∧ c ≤ 90) ∨ (97 ≤ c ∧ c ≤ 122))
def digitB (c : Int) : Bool := decide (48 ≤ c ∧ c ≤ 57)
def smallB (c : Int) : Bool := decide (97 ≤ c ∧ c ≤ 122)
theorem letter_eq (c : Int) : term_letter.f c = some (letterB c) := by
 unfold term_letter.f letterB
 repeat' split
 all_goals first | (congr 1; exact decide_eq_decide.mpr (by omega)) | (congr 1; symm; rw [decide_eq_true_eq]; omega) | (congr 1; symm; rw [decide_eq_false_iff_not]; omega)
theorem digit_eq (c : Int) : term_digit.f c = some (digitB c) := by
 unfold term_digit.f digitB
 repeat' split
 all_goals first | (congr 1; exact decide_eq_decide.mpr (by omega)) | (congr 1; symm; rw [decide_eq_true_eq]; omega) | (congr 1; symm; rw [decide_eq_false_iff_not]; omega)
theorem rletter_eq (c : Int) : g2_Letter.f c = some (letterB c) := letter_eq c
theorem rdigit_eq (c : Int) : g2_Digit.f c = some (digitB c) := digit_eq c
def okB (s : ByteArray) (j : Nat) : Bool := letterB (bt s (j : Nat)) || (j != 0 && digitB (bt s (j : Nat)))
theorem blank_loop (s : ByteArray) (hs : s.size ≤ 1000000000000) : ∀ (d k i : Nat), s.size - i = d → d + 1 ≤ k → i ≤ s.size →
  ((∀ j, i ≤ j → j < s.size → okB s j = true) → term_blank.l0 k s s.size i = some (decide (1 ≤ s.size ∧ s.size ≤ 64))) ∧ ((∃ j, i ≤ j ∧ j < s.size ∧ okB s j = false) → term_blank.l0 k s s.size i = some false)
 | 0, k, i, hd, hk, hi => by
  obtain ⟨m, rfl⟩ : ∃ m, k = m + 1 := ⟨k - 1, by omega⟩
  simp only [term_blank.l0]
  rw [if_neg (by omega)]
  refine ⟨fun _ => ?_, fun ⟨j, h1, h2, _⟩ => by omega⟩
  split
  ·congr 1; exact decide_eq_decide.mpr (by omega)
  ·congr 1; symm; rw [decide_eq_false_iff_not]; omega
 | d + 1, k, i, hd, hk, hi => by
  obtain ⟨m, rfl⟩ : ∃ m, k = m + 1 := ⟨k - 1, by omega⟩
  have ih := blank_loop s hs d m (i + 1) (by omega) (by omega) (by omega)
  have e : term_blank.l0 (m + 1) s s.size i = if okB s i = true then term_blank.l0 m s s.size ((i + 1 : Nat) : Int) else some false := by
   simp only [term_blank.l0]
   rw [if_pos (by omega), if_pos (by omega), if_pos (by omega), letter_eq, Option.bind_some, w64n (n := (i : Int) + 1) (by omega) (by omega), show ((i : Int) + 1) = ((i + 1 : Nat) : Int) by omega, digit_eq, Option.bind_some]
   unfold okB
   cases letterB (bt s (i : Nat)) with
   | true => simp
   | false =>
    simp only [Bool.false_eq_true, if_false, Bool.false_or]
    by_cases h0 : i = 0
    ·subst h0
     simp
    ·rw [if_neg (by omega)]
     cases digitB (bt s (i : Nat)) <;> simp [h0]
  rw [e]
  constructor
  ·intro h
   rw [if_pos (h i (Nat.le_refl _) (by omega))]
   exact ih.1 fun j h1 h2 => h j (by omega) h2
  ·rintro ⟨j, h1, h2, h3⟩
   by_cases hb : okB s i = true
   ·rw [if_pos hb]
    refine ih.2 ⟨j, ?_, h2, h3⟩
    by_cases hj : j = i
    ·subst hj; rw [hb] at h3; cases h3
    ·omega
   ·rw [if_neg hb]
theorem word_loop (s : ByteArray) (hs : s.size ≤ 1000000000000) : ∀ (d k i : Nat), s.size - i = d → d + 1 ≤ k → i ≤ s.size →
  ((∀ j, i ≤ j → j < s.size → (letterB (bt s (j : Nat)) || digitB (bt s (j : Nat))) = true) → g2_Word.l0 k s i = some true) ∧ ((∃ j, i ≤ j ∧ j < s.size ∧ (letterB (bt s (j : Nat)) || digitB (bt s (j : Nat))) = false) → g2_Word.l0 k s i = some false)
 | 0, k, i, hd, hk, hi => by
  obtain ⟨m, rfl⟩ : ∃ m, k = m + 1 := ⟨k - 1, by omega⟩
  simp only [g2_Word.l0]
  rw [if_neg (by omega)]
  exact ⟨fun _ => rfl, fun ⟨j, h1, h2, _⟩ => by omega⟩
 | d + 1, k, i, hd, hk, hi => by
  obtain ⟨m, rfl⟩ : ∃ m, k = m + 1 := ⟨k - 1, by omega⟩
  have ih := word_loop s hs d m (i + 1) (by omega) (by omega) (by omega)
  have e : g2_Word.l0 (m + 1) s i = if (letterB (bt s (i : Nat)) || digitB (bt s (i : Nat))) = true then g2_Word.l0 m s ((i + 1 : Nat) : Int) else some false := by
   simp only [g2_Word.l0]
   rw [if_pos (by omega), if_pos (by omega), rletter_eq, Option.bind_some, w64n (n := (i : Int) + 1) (by omega) (by omega), show ((i : Int) + 1) = ((i + 1 : Nat) : Int) by omega, rdigit_eq, Option.bind_some]
   cases letterB (bt s (i : Nat)) <;> cases digitB (bt s (i : Nat)) <;> simp
  rw [e]
  constructor
  ·intro h
   rw [if_pos (h i (Nat.le_refl _) (by omega))]
   exact ih.1 fun j h1 h2 => h j (by omega) h2
  ·rintro ⟨j, h1, h2, h3⟩
   by_cases hb : (letterB (bt s (i : Nat)) || digitB (bt s (i : Nat))) = true
   ·rw [if_pos hb]
    refine ih.2 ⟨j, ?_, h2, h3⟩
    by_cases hj : j = i
    ·subst hj; rw [hb] at h3; cases h3
    ·omega
   ·rw [if_neg hb]
def blankB (s : ByteArray) : Bool := decide (1 ≤ s.size ∧ s.size ≤ 64) && (List.range s.size).all (okB s)
theorem all_range (n : Nat) (p : Nat → Bool) : (∀ j, 0 ≤ j → j < n → p j = true) ∨ (∃ j, 0 ≤ j ∧ j < n ∧ p j = false) := by
 by_cases h : ∃ j, 0 ≤ j ∧ j < n ∧ p j = false
 ·exact .inr h
 ·refine .inl fun j h0 hj => ?_
  cases hp : p j with
  | true => rfl
  | false => exact absurd ⟨j, h0, hj, hp⟩ h
theorem blank_eq (s : ByteArray) (hs : s.size ≤ 1000000000000) (k : Nat) (hk : s.size + 1 ≤ k) : term_blank.f k s = some (blankB s) := by
 unfold term_blank.f blankB
 have hl := blank_loop s hs s.size k 0 (by omega) (by omega) (by omega)
 rw [show (0 : Int) = ((0 : Nat) : Int) from rfl]
 rcases all_range s.size (okB s) with h | h
 ·rw [hl.1 h, show (List.range s.size).all (okB s) = true from List.all_eq_true.mpr fun j hj => h j (by omega) (List.mem_range.mp hj), Bool.and_true]
 ·rw [hl.2 h]
  obtain ⟨j, _, hj, hp⟩ := h
  rw [show (List.range s.size).all (okB s) = false from List.all_eq_false.mpr ⟨j, List.mem_range.mpr hj, by simp [hp]⟩, Bool.and_false]
theorem word_eq (s : ByteArray) (hs : s.size ≤ 1000000000000) (k : Nat) (hk : s.size + 2 ≤ k) : g2_Word.f k s 64 = some (blankB s) := by
 obtain ⟨m, rfl⟩ : ∃ m, k = m + 1 := ⟨k - 1, by omega⟩
 unfold g2_Word.f blankB
 simp only [g2_Word.j0]
 by_cases h1 : (s.size : Int) < 1
 ·rw [if_pos h1, if_pos trivial, decide_eq_false (by omega), Bool.false_and]
 ·rw [if_neg h1]
  by_cases h2 : (s.size : Int) > 64
  ·rw [if_pos h2, if_pos trivial, decide_eq_false (by omega), Bool.false_and]
  ·rw [if_neg h2, if_pos (by omega), rletter_eq, Option.bind_some, decide_eq_true (by omega), Bool.true_and]
   cases hf : letterB (bt s 0) with
   | false =>
    rw [if_pos (by rfl)]
    rw [show (List.range s.size).all (okB s) = false from List.all_eq_false.mpr ⟨0, List.mem_range.mpr (by omega), by simp [okB, hf]⟩]
   | true =>
    rw [if_neg (by simp)]
    have hl := word_loop s hs s.size m 0 (by omega) (by omega) (by omega)
    rw [show (0 : Int) = ((0 : Nat) : Int) from rfl]
    rcases all_range s.size (fun j => letterB (bt s (j : Nat)) || digitB (bt s (j : Nat))) with h | h
    ·rw [hl.1 h]
     rw [show (List.range s.size).all (okB s) = true from List.all_eq_true.mpr fun j hj => ?_]
     have h3 := h j (by omega) (List.mem_range.mp hj)
     unfold okB
     by_cases hj0 : j = 0
     ·subst hj0
      rw [show ((0 : Nat) : Int) = 0 from rfl, hf]; rfl
     ·rw [show (j != 0) = true by simpa using hj0, Bool.true_and]
      exact h3
    ·rw [hl.2 h]
     obtain ⟨j, _, hj, hp⟩ := h
     rw [show (List.range s.size).all (okB s) = false from List.all_eq_false.mpr ⟨j, List.mem_range.mpr hj, ?_⟩]
     have hp2 : (letterB (bt s (j : Nat)) || digitB (bt s (j : Nat))) = false := hp
     rw [Bool.or_eq_false_iff] at hp2
     simp [okB, hp2.1, hp2.2]
def bys (s : ByteArray) : List Int := s.data.toList.map fun u => (u.toNat : Int)
theorem bys_length (s : ByteArray) : (bys s).length = s.size := by unfold bys; rw [List.length_map]; exact (Lib.size_eq s).symm
theorem bys_get (s : ByteArray) (i : Nat) (h : i < s.size) : (bys s)[i]? = some (bt s (i : Nat)) := by
 unfold bys
 rw [List.getElem?_map, bt_get s i h, Option.map_some, UInt8.toNat_ofNat']
 have := bt_range s i
 congr 1
 omega
theorem bys_drop (s : ByteArray) (i : Nat) (h : i < s.size) : (bys s).drop i = bt s (i : Nat) :: (bys s).drop (i + 1) := by
 rw [List.drop_eq_getElem_cons (by rw [bys_length]; exact h)]
 have h2 := bys_get s i h
 rw [List.getElem?_eq_getElem (by rw [bys_length]; exact h)] at h2
 rw [Option.some.inj h2]
def spl (c : Int) : List Int → List (List Int)
 | [] => [[]]
 | x :: l => if x = c then [] :: spl c l else match spl c l with
  | p :: ps => (x :: p) :: ps
  | [] => [[x]]
theorem spl_cons (c x : Int) (l : List Int) : spl c (x :: l) = if x = c then [] :: spl c l else match spl c l with | p :: ps => (x :: p) :: ps | [] => [[x]] := rfl
theorem spl_ne (c : Int) : ∀ l, spl c l ≠ []
 | [] => by simp [spl]
 | x :: l => by
  unfold spl
  split
  ·simp
  ·split <;> simp
theorem spl_none (c : Int) : ∀ l : List Int, (∀ x ∈ l, x ≠ c) → spl c l = [l]
 | [], _ => rfl
 | x :: l, h => by
  unfold spl
  rw [if_neg (h x (by simp)), spl_none c l fun y hy => h y (by simp [hy])]
theorem spl_at (c : Int) : ∀ (a r : List Int), (∀ x ∈ a, x ≠ c) → spl c (a ++ c :: r) = a :: spl c r
 | [], r, _ => by simp [spl]
 | x :: a, r, h => by
  show spl c (x :: (a ++ c :: r)) = _
  rw [spl_cons, if_neg (h x (by simp)), spl_at c a r fun y hy => h y (by simp [hy])]
theorem splitB_spl (c : UInt8) : ∀ (n : Nat) (s : ByteArray), Lib.countB s ⟨#[c]⟩ = n → (Lib.splitB ⟨#[c]⟩ 0 n s).map bys = spl (c.toNat : Int) (bys s)
 | 0, s, hn => by
  have h0 : s.data.toList.count c = 0 := by rw [← Lib.count_one]; exact hn
  have hz : ∀ x ∈ bys s, x ≠ (c.toNat : Int) := by
   intro x hx
   simp only [bys, List.mem_map] at hx
   obtain ⟨u, hu, rfl⟩ := hx
   intro e
   have : u = c := UInt8.toNat_inj.mp (by omega)
   subst this
   have := List.count_pos_iff.mpr hu
   omega
  rw [Lib.splitB_zero, List.map_cons, List.map_nil, spl_none _ _ hz]
 | n + 1, s, hn => by
  rcases Lib.indexB_cases s ⟨#[c]⟩ with hix | ⟨i, hix, hroom⟩
  ·rw [Lib.countB_miss s _ hix] at hn; omega
  ·have h1 : 1 ≤ (⟨#[c]⟩ : ByteArray).size := by simp [ByteArray.size]
   have hc := Lib.countB_hit s ⟨#[c]⟩ i h1 hix
   have hz : (⟨#[c]⟩ : ByteArray).size = 1 := rfl
   rw [hz] at hc hroom
   rw [Lib.splitB_hit _ 0 n s i hix, List.map_cons, hz, splitB_spl c n (s.extract (i + 1) s.size) (by omega), Nat.add_zero]
   have hib : Lib.indexByte s.data.toList c = (i : Int) := by rw [← Lib.index_one]; exact hix
   obtain ⟨g1, g2⟩ := Lib.indexByte_some hib
   have e1 : bys (s.extract 0 i) = (bys s).take i := by
    unfold bys
    rw [← Lib.toList_data, Lib.extract_toList]
    simp [List.map_take]
   have e2 : bys (s.extract (i + 1) s.size) = (bys s).drop (i + 1) := by
    unfold bys
    rw [← Lib.toList_data, Lib.extract_toList, List.take_of_length_le (by simp [← Lib.size_eq])]
    simp [List.map_drop]
   have hat : (bys s)[i]? = some (c.toNat : Int) := by unfold bys; rw [List.getElem?_map, g1]; rfl
   have hi : i < (bys s).length := by
    by_cases h : i < (bys s).length
    ·exact h
    ·rw [List.getElem?_eq_none (by omega)] at hat; cases hat
   have e3 : bys s = (bys s).take i ++ (c.toNat : Int) :: (bys s).drop (i + 1) := by
    conv => lhs; rw [← List.take_append_drop i (bys s), List.drop_eq_getElem_cons hi]
    rw [List.getElem?_eq_getElem hi] at hat
    rw [Option.some.inj hat]
   have e4 : ∀ x ∈ (bys s).take i, x ≠ (c.toNat : Int) := by
    intro x hx e
    obtain ⟨k, hk, hxe⟩ := List.getElem_of_mem hx
    have hk2 : k < i := by simp at hk; omega
    have h3 := g2 k hk2
    apply h3
    have : (bys s)[k]? = some x := by
     rw [List.getElem_take] at hxe
     rw [List.getElem?_eq_getElem (by simp at hk; omega), hxe]
    unfold bys at this
    rw [List.getElem?_map] at this
    cases hq : s.data.toList[k]? with
    | none => rw [hq] at this; cases this
    | some u =>
     rw [hq] at this
     simp only [Option.map_some, Option.some.injEq] at this
     have : u = c := UInt8.toNat_inj.mp (by omega)
     rw [this]
   rw [e1, e2]
   conv => rhs; rw [e3]
   rw [spl_at _ _ _ e4]
def tok (f : Bool) (c : Int) : Bool := smallB c || (!f && digitB c)
def tagQ : Bool → List (List Int) → Bool
 | _, [] => true
 | f, p :: ps => !p.isEmpty && p.all (tok f) && tagQ false ps
def tagM : Bool → Bool → List Int → Bool
 | _, e, [] => !e
 | f, e, c :: l => if c = 45 then !e && tagM false true l else tok f c && tagM f false l
def tagR : Bool → Int → List Int → Bool
 | _, _, [] => true
 | f, p, c :: l => if c = 45 then decide (p ≠ 45) && tagR false c l else tok f c && tagR f c l
def tagQe (f e : Bool) : List (List Int) → Bool
 | [] => true
 | p :: ps => (!p.isEmpty || !e) && p.all (tok f) && tagQ false ps
theorem tagM_cons (f e : Bool) (c : Int) (l : List Int) : tagM f e (c :: l) = if c = 45 then !e && tagM false true l else tok f c && tagM f false l := rfl
theorem tagQ_Qe (f : Bool) : ∀ l, tagQ f l = tagQe f true l
 | [] => rfl
 | p :: ps => by simp [tagQ, tagQe]
theorem tagQe_M : ∀ (l : List Int) (f e : Bool), tagQe f e (spl 45 l) = tagM f e l
 | [], f, e => by simp [spl, tagQe, tagM, tagQ]
 | c :: l, f, e => by
  unfold spl tagM
  by_cases h : c = 45
  ·rw [if_pos h, if_pos h]
   simp only [tagQe, List.isEmpty_nil, Bool.not_true, Bool.false_or, List.all_nil, Bool.and_true]
   rw [tagQ_Qe, tagQe_M l false true]
  ·rw [if_neg h, if_neg h, ← tagQe_M l f false]
   cases hs : spl 45 l with
   | nil => exact absurd hs (spl_ne 45 l)
   | cons p ps => simp [tagQe, Bool.and_assoc]
def lst : Int → List Int → Int
 | p, [] => p
 | _, c :: l => lst c l
theorem lst_get : ∀ (l : List Int) (p : Int), 0 < l.length → l[l.length - 1]? = some (lst p l)
 | [c], _, _ => rfl
 | c :: d :: l, p, _ => by
  have := lst_get (d :: l) c (by simp)
  simpa [lst] using this
theorem tagM_R : ∀ (l : List Int) (f : Bool) (p : Int), tagM f (decide (p = 45)) l = (tagR f p l && decide (lst p l ≠ 45))
 | [], f, p => by
  unfold tagM tagR lst
  by_cases h : p = 45 <;> simp [h]
 | c :: l, f, p => by
  unfold tagM tagR lst
  by_cases h : c = 45
  ·subst h
   rw [if_pos rfl, if_pos rfl]
   have := tagM_R l false 45
   rw [decide_eq_true rfl] at this
   rw [this]
   by_cases hp : p = 45
   ·subst hp; simp
   ·simp [hp]
  ·rw [if_neg h, if_neg h]
   have := tagM_R l f c
   rw [decide_eq_false h] at this
   rw [this, Bool.and_assoc]
def tagB (s : ByteArray) : Bool := tagQ true (spl 45 (bys s)) && decide (s.size ≤ 35)
theorem tag_l1 (s : ByteArray) (parts : List ByteArray) (n i : Nat) (p : ByteArray) (hp : p.size ≤ 1000000000000) (hi : i ≤ 1000000000000) (K : Nat) (v : Bool) (hK : ∀ k, K ≤ k → term_tag.l0 k s parts (n : Nat) ((i + 1 : Nat) : Int) = some v) :
  ∀ (d j k : Nat), p.size - j = d → j ≤ p.size → K + d + 1 ≤ k → term_tag.l1 k s (i : Nat) p parts (n : Nat) (i : Nat) (p.size : Nat) (j : Nat) = some (((bys p).drop j).all (tok (i == 0)) && v)
 | 0, j, k, hd, hj, hk => by
  obtain ⟨m, rfl⟩ : ∃ m, k = m + 1 := ⟨k - 1, by omega⟩
  simp only [term_tag.l1]
  rw [if_neg (by omega), w64n (n := (i : Int) + 1) (by omega) (by omega), show ((i : Int) + 1) = ((i + 1 : Nat) : Int) by omega, hK m (by omega), List.drop_eq_nil_of_le (by rw [bys_length]; omega)]
  simp
 | d + 1, j, k, hd, hj, hk => by
  obtain ⟨m, rfl⟩ : ∃ m, k = m + 1 := ⟨k - 1, by omega⟩
  have ih := tag_l1 s parts n i p hp hi K v hK d (j + 1) m (by omega) (by omega) (by omega)
  rw [bys_drop p j (by omega), List.all_cons]
  simp only [term_tag.l1]
  rw [if_pos (by omega), if_pos (by omega), if_pos (by omega), w64n (n := (j : Int) + 1) (by omega) (by omega), show ((j : Int) + 1) = ((j + 1 : Nat) : Int) by omega, digit_eq, Option.bind_some, ih]
  have hc := bt_range p (j : Nat)
  generalize bt p (j : Nat) = c at hc ⊢
  generalize ((bys p).drop (j + 1)).all (tok (i == 0)) = q
  have hi0 : ((i : Int) = 0) ↔ i = 0 := by omega
  unfold tok smallB
  by_cases c1 : c < 97
  ·rw [if_pos c1, decide_eq_false (by omega)]
   by_cases h0 : i = 0
   ·subst h0
    simp
   ·rw [if_neg (by omega), show (i == 0) = false by simpa using h0]
    cases digitB c <;> simp
  ·rw [if_neg c1]
   by_cases c2 : c > 122
   ·rw [if_pos c2, decide_eq_false (by omega)]
    by_cases h0 : i = 0
    ·subst h0
     simp
    ·rw [if_neg (by omega), show (i == 0) = false by simpa using h0]
     cases digitB c <;> simp
   ·rw [if_neg c2, decide_eq_true (by omega)]
    simp
theorem toList_nil (p : ByteArray) : (p.toList = ([] : List UInt8)) ↔ p.size = 0 := by
 rw [Lib.toList_data, Lib.size_eq]
 exact List.length_eq_zero_iff.symm
theorem tag_l0 (s : ByteArray) (parts : List ByteArray) (hn : parts.length ≤ 1000000000) (hp : ∀ p ∈ parts, p.size ≤ 1000000000000) : ∀ (d i : Nat), parts.length - i = d → i ≤ parts.length →
  ∃ K, ∀ k, K ≤ k → term_tag.l0 k s parts (parts.length : Nat) (i : Nat) = some (tagQ (i == 0) ((parts.drop i).map bys) && decide (s.size ≤ 35))
 | 0, i, hd, hi => by
  refine ⟨1, fun k hk => ?_⟩
  obtain ⟨m, rfl⟩ : ∃ m, k = m + 1 := ⟨k - 1, by omega⟩
  simp only [term_tag.l0]
  rw [if_neg (by omega), List.drop_eq_nil_of_le (by omega)]
  simp only [List.map_nil, tagQ, Bool.true_and]
  congr 1
  exact decide_eq_decide.mpr (by omega)
 | d + 1, i, hd, hi => by
  obtain ⟨K, hK⟩ := tag_l0 s parts hn hp d (i + 1) (by omega) (by omega)
  have hlt : i < parts.length := by omega
  refine ⟨K + parts[i].size + 2, fun k hk => ?_⟩
  obtain ⟨m, rfl⟩ : ∃ m, k = m + 1 := ⟨k - 1, by omega⟩
  have hrd : rdOf ByteArray.empty parts (i : Nat) = parts[i] := by simp [rdOf, List.getD_eq_getElem?_getD, List.getElem?_eq_getElem hlt]
  have hsz := hp parts[i] (List.getElem_mem hlt)
  have h1 := tag_l1 s parts parts.length i parts[i] hsz (by omega) K _ hK parts[i].size 0 m (by omega) (by omega) (by omega)
  simp only [term_tag.l0]
  rw [if_pos (by omega), if_pos (by omega), if_pos (by omega), hrd, List.drop_eq_getElem_cons hlt, List.map_cons]
  by_cases h0 : parts[i].size = 0
  ·rw [if_pos ((toList_nil _).2 h0)]
   have hb : bys parts[i] = [] := List.eq_nil_of_length_eq_zero (by rw [bys_length]; exact h0)
   simp [tagQ, hb]
  ·rw [if_neg (fun h => h0 ((toList_nil _).1 h))]
   rw [show (0 : Int) = ((0 : Nat) : Int) from rfl, h1]
   have hb : (bys parts[i]).isEmpty = false := by
    cases hq : bys parts[i] with
    | nil => have := bys_length parts[i]; rw [hq] at this; simp at this; omega
    | cons _ _ => rfl
   simp only [tagQ, hb, List.drop_zero, Bool.not_false, Bool.true_and]
   rw [show (i + 1 == 0) = false by simp, Bool.and_assoc]
theorem tag_eq (s : ByteArray) (hs : s.size ≤ 1000000) : ∃ K, ∀ k, K ≤ k → term_tag.f k s = some (tagB s) := by
 have hf : strings_Split.f s ⟨#[45]⟩ = some (splitAll s ⟨#[45]⟩) := by
  unfold strings_Split.f strings_genSplit.f
  rw [if_pos ⟨rfl, rfl, by omega⟩]
  rfl
 have hsp : (Lib.splitB ⟨#[45]⟩ 0 (Lib.countB s ⟨#[45]⟩) s).map bys = spl 45 (bys s) := splitB_spl 45 _ s rfl
 have hlen := Lib.splitB_all (⟨#[45]⟩ : ByteArray) (by simp [ByteArray.size]) 0 _ s rfl
 have hle := Lib.countB_le (⟨#[45]⟩ : ByteArray) (by simp [ByteArray.size]) s.size s (Nat.le_refl _)
 have hpz : ∀ p ∈ splitAll s ⟨#[45]⟩, p.size ≤ 1000000000000 := by
  intro p hp
  have : bys p ∈ spl 45 (bys s) := by
   have h2 : (splitAll s ⟨#[45]⟩).map bys = spl 45 (bys s) := hsp
   rw [← h2]; exact List.mem_map_of_mem hp
  have h3 : ∀ (l : List Int) (q : List Int), q ∈ spl 45 l → q.length ≤ l.length := by
   intro l
   induction l with
   | nil => intro q hq; simp [spl] at hq; subst hq; simp
   | cons x l ih =>
    intro q hq
    rw [spl_cons] at hq
    split at hq
    ·rcases List.mem_cons.1 hq with rfl | hq
     ·simp
     ·have := ih q hq; simp; omega
    ·cases hh : spl 45 l with
     | nil => exact absurd hh (spl_ne 45 l)
     | cons a b =>
      rw [hh] at hq ih
      rcases List.mem_cons.1 hq with rfl | hq
      ·have := ih a (by simp); simp; omega
      ·have := ih q (by simp [hq]); simp; omega
  have := h3 _ _ this
  rw [bys_length, bys_length] at this
  omega
 have hl2 : (splitAll s ⟨#[45]⟩).length = Lib.countB s ⟨#[45]⟩ + 1 := hlen
 obtain ⟨K, hK⟩ := tag_l0 s (splitAll s ⟨#[45]⟩) (by omega) hpz _ 0 rfl (by omega)
 refine ⟨K, fun k hk => ?_⟩
 unfold term_tag.f
 rw [hf, Option.bind_some]
 have := hK k hk
 rw [show ((0 : Nat) : Int) = 0 from rfl] at this
 rw [this]
 unfold tagB
 rw [List.drop_zero, ← hsp]
 rfl
theorem tagR_cons (f : Bool) (p c : Int) (l : List Int) : tagR f p (c :: l) = if c = 45 then decide (p ≠ 45) && tagR false c l else tok f c && tagR f c l := rfl
theorem rtag_loop (s : ByteArray) (hs : s.size ≤ 1000000) : ∀ (d k i : Nat) (f : Bool), s.size - i = d → 2 * d + 1 ≤ k → 1 ≤ i → i ≤ s.size →
  g2_tag.l0 k s f (i : Nat) = some (tagR f (bt s ((i - 1 : Nat) : Int)) ((bys s).drop i))
 | 0, k, i, f, hd, hk, h1, hi => by
  obtain ⟨m, rfl⟩ : ∃ m, k = m + 1 := ⟨k - 1, by omega⟩
  simp only [g2_tag.l0]
  rw [if_neg (by omega), List.drop_eq_nil_of_le (by rw [bys_length]; omega)]
  rfl
 | d + 1, k, i, f, hd, hk, h1, hi => by
  obtain ⟨m, rfl⟩ : ∃ m, k = m + 2 := ⟨k - 2, by omega⟩
  have ih := fun f => rtag_loop s hs d m (i + 1) f (by omega) (by omega) (by omega) (by omega)
  rw [bys_drop s i (by omega)]
  simp only [g2_tag.l0, g2_tag.j2]
  rw [if_pos (by omega), if_pos (by omega), w64n (n := (i : Int) + 1) (by omega) (by omega), show ((i : Int) + 1) = ((i + 1 : Nat) : Int) by omega, w64n (n := (i : Int) - 1) (by omega) (by omega), show ((i : Int) - 1) = ((i - 1 : Nat) : Int) by omega, rdigit_eq, Option.bind_some]
  rw [ih f, ih false]
  simp only [if_pos (show (0 : Int) ≤ ((i - 1 : Nat) : Int) by omega), if_pos (show ((i - 1 : Nat) : Int) < (s.size : Int) by omega), if_pos (show (0 : Int) ≤ (i : Int) by omega), if_pos (show (i : Int) < (s.size : Int) by omega)]
  rw [show i + 1 - 1 = i by omega, tagR_cons]
  generalize bt s ((i - 1 : Nat) : Int) = p
  generalize bt s (i : Nat) = c
  generalize (bys s).drop (i + 1) = l
  by_cases hc : c = 45
  ·subst hc
   by_cases hp : p = 45
   ·subst hp; simp
   ·simp [hp]
  ·unfold tok smallB
   rw [if_neg hc]
   by_cases c1 : c ≥ 97
   ·by_cases c2 : c ≤ 122
    ·rw [decide_eq_true (show 97 ≤ c ∧ c ≤ 122 by omega)]
     simp [c1, c2, hc]
    ·rw [decide_eq_false (show ¬ (97 ≤ c ∧ c ≤ 122) by omega)]
     cases f <;> cases digitB c <;> simp [c1, c2, hc]
   ·rw [decide_eq_false (show ¬ (97 ≤ c ∧ c ≤ 122) by omega)]
    cases f <;> cases digitB c <;> simp [c1, hc]
theorem rtag_eq (s : ByteArray) (hs : s.size ≤ 1000000) (k : Nat) (hk : 2 * s.size + 10 ≤ k) : g2_tag.f k s = some (tagB s) := by
 obtain ⟨m, rfl⟩ : ∃ m, k = m + 3 := ⟨k - 3, by omega⟩
 have b0 := bt_range s 0
 have hM : tagB s = (tagM true true (bys s) && decide (s.size ≤ 35)) := by unfold tagB; rw [tagQ_Qe, tagQe_M]
 unfold g2_tag.f
 simp only [g2_tag.j0]
 by_cases h1 : (s.size : Int) < 1
 ·have hb : bys s = [] := List.eq_nil_of_length_eq_zero (by rw [bys_length]; omega)
  rw [if_pos h1, if_pos trivial, hM, hb]
  rfl
 ·rw [if_neg h1]
  by_cases h2 : (s.size : Int) > 35
  ·rw [if_pos h2, if_pos trivial, hM, decide_eq_false (by omega), Bool.and_false]
  ·rw [if_neg h2, if_pos (by omega), hM, decide_eq_true (by omega), Bool.and_true]
   have hd := bys_drop s 0 (by omega)
   rw [List.drop_zero] at hd
   have hlast : lst (bt s 0) ((bys s).drop 1) = bt s ((s.size - 1 : Nat) : Int) := by
    have h3 := lst_get (bys s) 0 (by rw [bys_length]; omega)
    rw [bys_length, bys_get s (s.size - 1) (by omega)] at h3
    have h4 := Option.some.inj h3
    rw [hd] at h4
    exact h4.symm
   rw [hd]
   rw [show ((0 : Nat) : Int) = 0 from rfl]
   by_cases h3 : bt s 0 = 45
   ·rw [if_pos h3, if_pos trivial]
    unfold tagM
    rw [if_pos h3]
    rfl
   ·rw [if_neg h3, w64n (n := (s.size : Int) - 1) (by omega) (by omega), if_pos (by omega), if_pos (by omega), show ((s.size : Int) - 1) = ((s.size - 1 : Nat) : Int) by omega]
    have hM2 : tagM true true (bt s 0 :: (bys s).drop (0 + 1)) = (tok true (bt s 0) && (tagR true (bt s 0) ((bys s).drop 1) && decide (bt s ((s.size - 1 : Nat) : Int) ≠ 45))) := by
     have h5 := tagM_R ((bys s).drop 1) true (bt s 0)
     rw [decide_eq_false h3, hlast] at h5
     rw [← h5, tagM_cons, if_neg h3]
    rw [hM2]
    by_cases h6 : bt s ((s.size - 1 : Nat) : Int) = 45
    ·rw [if_pos (by simpa using h6)]
     simp [h6]
    ·rw [if_neg (by simpa using h6)]
     have hl := rtag_loop s hs (s.size - 1) m 1 true rfl (by omega) (by omega) (by omega)
     simp only [g2_tag.l0, g2_tag.j2]
     have w1 : wrap64 (0 + 1) = ((1 : Nat) : Int) := by decide +kernel
     simp only [if_pos (show (0 : Int) < (s.size : Int) by omega), if_pos (show (0 : Int) ≤ 0 by omega), w1, if_neg h3, if_true, hl]
     rw [show ((1 - 1 : Nat) : Int) = 0 from rfl]
     generalize tagR true (bt s 0) ((bys s).drop 1) = q
     simp only [h6, ne_eq, not_false_eq_true, decide_true, Bool.and_true]
     unfold tok smallB
     by_cases c1 : bt s 0 ≥ 97
     ·by_cases c2 : bt s 0 ≤ 122
      ·rw [decide_eq_true (show 97 ≤ bt s 0 ∧ bt s 0 ≤ 122 by omega)]
       simp [c1, c2]
      ·rw [decide_eq_false (show ¬ (97 ≤ bt s 0 ∧ bt s 0 ≤ 122) by omega)]
       simp [c1, c2]
     ·rw [decide_eq_false (show ¬ (97 ≤ bt s 0 ∧ bt s 0 ≤ 122) by omega)]
      simp [c1]
def valB (s : ByteArray) : Bool := decide (s.size ≤ 4000) && validB s
def xsd : List UInt8 := [104, 116, 116, 112, 58, 47, 47, 119, 119, 119, 46, 119, 51, 46, 111, 114, 103, 47, 50, 48, 48, 49, 47, 88, 77, 76, 83, 99, 104, 101, 109, 97, 35, 115, 116, 114, 105, 110, 103]
def mayB (n : Int) (t x : ByteArray) : Bool :=
 if n = 1 then iriB t && (x.toList == ([] : List UInt8)) else if n = 2 then blankB t && (x.toList == ([] : List UInt8)) else if n = 3 then valB t && (x.toList == ([] : List UInt8)) else if n = 4 then valB t && tagB x else if n = 5 then valB t && (iriB x && (x.toList != xsd)) else false
theorem value_eq (s : ByteArray) (hs : s.size ≤ 1000000) : term_value.f s = some (valB s) := by
 unfold term_value.f utf_Valid.f valB
 by_cases h : (s.size : Int) ≤ 4000
 ·rw [if_pos h, if_pos (by omega), decide_eq_true (by omega), Bool.true_and]; rfl
 ·rw [if_neg h, decide_eq_false (by omega), Bool.false_and]
theorem may_term (n : Int) (t x : ByteArray) (ht : t.size ≤ 1000000) (hx : x.size ≤ 1000000) : ∃ K, ∀ k, K ≤ k → term_May.f k n t x = some (mayB n t x) := by
 obtain ⟨K, hK⟩ := tag_eq x hx
 refine ⟨K + t.size + 1, fun k hk => ?_⟩
 have e1 : term_iri.f t = some (iriB t) := by unfold term_iri.f; rw [if_pos (by omega)]
 have e2 : term_iri.f x = some (iriB x) := by unfold term_iri.f; rw [if_pos (by omega)]
 unfold term_May.f mayB term_kinds_1.f term_kinds_2.f term_kinds_3.f term_kinds_4.f term_kinds_5.f
 rw [e1, e2, value_eq t ht, blank_eq t (by omega) k (by omega), hK k (by omega)]
 simp only [Option.bind_some]
 repeat' split
 all_goals simp_all [xsd]
theorem may_ref (n : Int) (t x : ByteArray) (ht : t.size ≤ 1000000) (hx : x.size ≤ 1000000) (k : Nat) (hk : 2 * (t.size + x.size) + 100 ≤ k) : g2_May.f k n t x = some (mayB n t x) := by
 obtain ⟨m, rfl⟩ : ∃ m, k = m + 1 := ⟨k - 1, by omega⟩
 have hj : ∀ v : Bool, v = valB t → g2_May.j0 (m + 1) v n t x = some (mayB n t x) := by
  rintro v rfl
  simp only [g2_May.j0]
  unfold mayB
  rw [refIRI t (by omega) m (by omega), refIRI x (by omega) m (by omega), word_eq t (by omega) m (by omega), rtag_eq x hx m (by omega)]
  simp only [Option.bind_some]
  repeat' split
  all_goals simp_all [xsd]
 unfold g2_May.f
 by_cases h : (t.size : Int) ≤ 4000
 ·rw [if_pos h, refValid t (by omega) _ (by omega), Option.bind_some]
  exact hj _ (by unfold valB; rw [decide_eq_true (by omega), Bool.true_and])
 ·rw [if_neg h]
  exact hj _ (by unfold valB; rw [decide_eq_false (by omega), Bool.false_and])
end Go.Proofs.YtpbphelaeleikaaGreatDoor.PLt

import Derived.Test.YtegmcmndjnbkaaaDoorMeTermPrefix
import Derived.Test.YtegmcmndjnbkaaaDoorMePureMays
set_option linter.unusedVariables false
set_option linter.unusedSimpArgs false
namespace Go.Proofs.YtegmcmndjnbkaaaDoor.PTerm
open Go.RowKit Go.Proofs.YtegmcmndjnbkaaaDoorW.PrintWords Go.Proofs.YtegmcmndjnbkaaaDoorW.PrintLast Go.Proofs.YtegmcmndjnbkaaaDoorW.PrintMore
def or3 (a b c : Int) : Int := if a ≠ 0 then a else if b ≠ 0 then b else c
theorem or_eq (k : Nat) (a b c : Int) (hk : 5 ≤ k) : cmp_Or_int.f k [a, b, c] = some (or3 a b c) := by
  obtain ⟨m, rfl⟩ : ∃ m, k = m + 5 := ⟨k - 5, by omega⟩
  have w0 : wrap64 (0 + 1) = 1 := by decide +kernel
  have w1 : wrap64 (1 + 1) = 2 := by decide +kernel
  have w2 : wrap64 (2 + 1) = 3 := by decide +kernel
  have r0 : rd [a, b, c] 0 = a := rfl
  have r1 : rd [a, b, c] 1 = b := rfl
  have r2 : rd [a, b, c] 2 = c := rfl
  unfold cmp_Or_int.f or3
  simp only [cmp_Or_int.l0, List.length_cons, List.length_nil, w0, w1, w2, r0, r1, r2]
  by_cases h0 : a = 0
  · by_cases h1 : b = 0
    · by_cases h2 : c = 0 <;> simp [h0, h1, h2]
    · simp [h0, h1]
  · simp [h0]
theorem kcmp_eq (a b : Int) : api_Kind_41.f a b = some (cmpI a b) := by
  unfold api_Kind_41.f api_Kind_61.f cmpI
  simp
  repeat' split
  all_goals first | rfl | (exfalso; omega)
theorem cmpT_or (n : Int) (t x : ByteArray) (m : Int) (s y : ByteArray) : cmpT (n, t, x) (m, s, y) = or3 (cmpI n m) (cmpB t s) (cmpB x y) := rfl
theorem tcmp_eq (k : Nat) (hk : 5 ≤ k) (n : Int) (t x : ByteArray) (m : Int) (s y : ByteArray) : term_Compare.f k n t x m s y = some (cmpT (n, t, x) (m, s, y)) := by
  unfold term_Compare.f strings_Compare.f
  rw [kcmp_eq]
  simp only [Option.bind_some]
  rw [or_eq k _ _ _ hk, cmpT_or]
  rfl
theorem tless_eq (k : Nat) (hk : 5 ≤ k) (n : Int) (t x : ByteArray) (m : Int) (s y : ByteArray) : term_Less.f k n t x m s y = some (decide (cmpT (n, t, x) (m, s, y) < 0)) := by
  unfold term_Less.f
  rw [tcmp_eq k hk]
  rfl
theorem t3cmp_eq (k : Nat) (hk : 5 ≤ k) (n1 : Int) (t1 x1 : ByteArray) (n2 : Int) (t2 x2 : ByteArray) (n3 : Int) (t3 x3 : ByteArray) (m1 : Int) (s1 y1 : ByteArray) (m2 : Int) (s2 y2 : ByteArray) (m3 : Int) (s3 y3 : ByteArray) :
    term_CompareTriples.f k n1 t1 x1 n2 t2 x2 n3 t3 x3 m1 s1 y1 m2 s2 y2 m3 s3 y3 = some (cmp3 ((n1, t1, x1), (n2, t2, x2), (n3, t3, x3)) ((m1, s1, y1), (m2, s2, y2), (m3, s3, y3))) := by
  unfold term_CompareTriples.f
  rw [tcmp_eq k hk, tcmp_eq k hk, tcmp_eq k hk]
  simp only [Option.bind_some]
  rw [or_eq k _ _ _ hk]
  rfl
theorem cmpI_unit (a b : Int) : cmpI a b = -1 ∨ cmpI a b = 0 ∨ cmpI a b = 1 := by
  unfold cmpI
  split
  · exact .inl rfl
  · split
    · exact .inr (.inr rfl)
    · exact .inr (.inl rfl)
theorem cb_unit : ∀ a b : List UInt8, Lib.compareBytes a b = -1 ∨ Lib.compareBytes a b = 0 ∨ Lib.compareBytes a b = 1
  | [], [] => by simp [Lib.compareBytes]
  | [], _ :: _ => by simp [Lib.compareBytes]
  | _ :: _, [] => by simp [Lib.compareBytes]
  | a :: l, b :: m => by
    unfold Lib.compareBytes
    split
    · simp
    · split
      · simp
      · exact cb_unit l m
theorem lex2_unit {α β : Type} {c : α → α → Int} {d : β → β → Int} (hc : ∀ a b, c a b = -1 ∨ c a b = 0 ∨ c a b = 1) (hd : ∀ a b, d a b = -1 ∨ d a b = 0 ∨ d a b = 1) (x y : α × β) : lex2 c d x y = -1 ∨ lex2 c d x y = 0 ∨ lex2 c d x y = 1 := by
  unfold lex2
  split
  · exact hc _ _
  · exact hd _ _
theorem cmpT_unit (a b : Tm) : cmpT a b = -1 ∨ cmpT a b = 0 ∨ cmpT a b = 1 := lex2_unit cmpI_unit (lex2_unit (fun a b => cb_unit _ _) (fun a b => cb_unit _ _)) a b
theorem cmp3_unit (a b : Tm × Tm × Tm) : cmp3 a b = -1 ∨ cmp3 a b = 0 ∨ cmp3 a b = 1 := lex2_unit cmpT_unit (lex2_unit cmpT_unit cmpT_unit) a b
theorem eqb_iff (a b : ByteArray) : (a.toList == b.toList) = decide (a = b) := by
  rw [Bool.eq_iff_iff, beq_iff_eq, decide_eq_true_eq, Lib.toList_data, Lib.toList_data]
  constructor
  · intro h
    obtain ⟨⟨l⟩⟩ := a
    obtain ⟨⟨m⟩⟩ := b
    simp at h
    rw [h]
  · rintro rfl; rfl
theorem eqT (n : Int) (t x : ByteArray) (m : Int) (s y : ByteArray) : (n == m && (t.toList == s.toList && (x.toList == y.toList))) = decide (((n, t, x) : Tm) = (m, s, y)) := by
  rw [eqb_iff, eqb_iff, Bool.eq_iff_iff]
  simp
theorem eq3 (n1 : Int) (t1 x1 : ByteArray) (n2 : Int) (t2 x2 : ByteArray) (n3 : Int) (t3 x3 : ByteArray) (m1 : Int) (s1 y1 : ByteArray) (m2 : Int) (s2 y2 : ByteArray) (m3 : Int) (s3 y3 : ByteArray) :
    ((n1 == m1 && (t1.toList == s1.toList && (x1.toList == y1.toList))) && ((n2 == m2 && (t2.toList == s2.toList && (x2.toList == y2.toList))) && ((n3 == m3 && (t3.toList == s3.toList && (x3.toList == y3.toList)))))) =
    decide ((((n1, t1, x1), (n2, t2, x2), (n3, t3, x3)) : Tm × Tm × Tm) = ((m1, s1, y1), (m2, s2, y2), (m3, s3, y3))) := by
  rw [eqT, eqT, eqT, Bool.eq_iff_iff]
  simp
theorem begins_eq (u v : ByteArray) : rhizomelaw02_begins.f u v = some (decide (bys u <+: bys v)) := by
  unfold rhizomelaw02_begins.f
  by_cases h : (u.size : Int) ≤ (v.size : Int)
  · rw [if_pos h, if_pos (by omega), Int.toNat_natCast]
    congr 1
    rw [eqb_iff, Bool.eq_iff_iff, decide_eq_true_eq, decide_eq_true_eq]
    have e := bys_take v u.size
    constructor
    · intro q
      rw [q] at e
      rw [List.prefix_iff_eq_take, bys_length]
      exact e
    · intro q
      rw [List.prefix_iff_eq_take, bys_length] at q
      exact bys_inj (e.trans q.symm)
  · rw [if_neg h, decide_eq_false]
    intro q
    have := q.length_le
    rw [bys_length, bys_length] at this
    omega
theorem begins_text {n m : Int} {t x s y : ByteArray} (h : mayB n t x = true) (g : mayB m s y = true) :
    rhizomelaw02_begins.f (textB n t x ++ (⟨#[32]⟩ : ByteArray)) (textB m s y ++ (⟨#[32]⟩ : ByteArray)) = some (decide (((n, t, x) : Tm) = (m, s, y))) := by
  rw [begins_eq]
  congr 1
  rw [Bool.eq_iff_iff, decide_eq_true_eq, decide_eq_true_eq, bys_append, bys_append]
  have e : bys (⟨#[32]⟩ : ByteArray) = [32] := rfl
  rw [e]
  constructor
  · intro q
    obtain ⟨rfl, rfl, rfl, _⟩ := text_pre (r := []) (q := []) h g q
    rfl
  · intro q
    simp only [Prod.mk.injEq] at q
    obtain ⟨rfl, rfl, rfl⟩ := q
    exact List.prefix_rfl
theorem text_eqb {n m : Int} {t x s y : ByteArray} (h : mayB n t x = true) (g : mayB m s y = true) : ((textB n t x).toList == (textB m s y).toList) = decide (((n, t, x) : Tm) = (m, s, y)) := by
  rw [eqb_iff, Bool.eq_iff_iff, decide_eq_true_eq, decide_eq_true_eq]
  constructor
  · intro q
    obtain ⟨rfl, rfl, rfl⟩ := text_inj h g q
    rfl
  · intro q
    simp only [Prod.mk.injEq] at q
    obtain ⟨rfl, rfl, rfl⟩ := q
    rfl
end Go.Proofs.YtegmcmndjnbkaaaDoor.PTerm

import Derived.Test.YtjnhdamilbcmpaaDoorCuLexD
import Derived.Test.YtjnhdamilbcmpaaDoorCuTermText
set_option linter.unusedVariables false
set_option linter.unusedSimpArgs false
namespace Go.Proofs.YtjnhdamilbcmpaaDoor.PTm
open Go.RowKit Go.Proofs.YtjnhdamilbcmpaaDoorW.PrintWords Go.Proofs.YtjnhdamilbcmpaaDoorW.PrintLast Go.Proofs.YtjnhdamilbcmpaaDoorW.PrintMore
def SmallT (x : S38) : Prop := (x.f0.f1.size ≤ 1100000 ∧ x.f0.f2.size ≤ 1100000) ∧ (x.f1.f1.size ≤ 1100000 ∧ x.f1.f2.size ≤ 1100000) ∧ (x.f2.f1.size ≤ 1100000 ∧ x.f2.f2.size ≤ 1100000)
def folB (x : S38) : Bool := follB x.f0.f0 x.f0.f1 x.f0.f2 x.f1.f0 x.f1.f1 x.f1.f2 x.f2.f0 x.f2.f1 x.f2.f2
def addB (x : S38) : Bool := folB x && (decide (x.f0.f0 = 1 ∨ x.f0.f0 = 2) && decide (x.f1.f0 = 1))
def tripB (x : S38) : ByteArray := tripleB x.f0.f0 x.f0.f1 x.f0.f2 x.f1.f0 x.f1.f1 x.f1.f2 x.f2.f0 x.f2.f1 x.f2.f2
theorem foll_q (x : S38) (h : SmallT x) (k : Nat) (hk : 4900000 ≤ k) : term_MayFollow.f k x.f0.f0 x.f0.f1 x.f0.f2 x.f1.f0 x.f1.f1 x.f1.f2 x.f2.f0 x.f2.f1 x.f2.f2 = some (folB x) := by
 obtain ⟨⟨h1, g1⟩, ⟨h2, g2⟩, ⟨h3, g3⟩⟩ := h
 unfold term_MayFollow.f folB follB
 rw [may_q _ _ _ h1 g1 k (by omega), may_q _ _ _ h2 g2 k (by omega), may_q _ _ _ h3 g3 k (by omega)]
 simp only [Option.bind_some]
 cases mayB x.f0.f0 x.f0.f1 x.f0.f2 <;> cases mayB x.f1.f0 x.f1.f1 x.f1.f2 <;> simp
theorem add_q (x : S38) (h : SmallT x) (k : Nat) (hk : 4900000 ≤ k) : term_MayAdd.f k x.f0.f0 x.f0.f1 x.f0.f2 x.f1.f0 x.f1.f1 x.f1.f2 x.f2.f0 x.f2.f1 x.f2.f2 = some (addB x) := by
 unfold term_MayAdd.f addB
 rw [foll_q x h k hk, Option.bind_some]
 cases folB x with
 | false => rfl
 | true =>
  rw [if_pos rfl, Bool.true_and]
  by_cases c1 : x.f0.f0 = 1
  ·rw [if_pos c1, decide_eq_true (.inl c1), Bool.true_and]
   rfl
  rw [if_neg c1]
  by_cases c2 : x.f0.f0 = 2
  ·rw [if_pos c2, decide_eq_true (.inr c2), Bool.true_and]
   rfl
  ·rw [if_neg c2, decide_eq_false (fun g => g.elim c1 c2)]
   rfl
theorem fol_of {x : S38} (h : addB x = true) : folB x = true := by
 unfold addB at h
 rw [Bool.and_eq_true] at h
 exact h.1
theorem may_of {x : S38} (h : addB x = true) : mayB x.f0.f0 x.f0.f1 x.f0.f2 = true ∧ mayB x.f1.f0 x.f1.f1 x.f1.f2 = true ∧ mayB x.f2.f0 x.f2.f1 x.f2.f2 = true := by
 have := fol_of h
 unfold folB follB at this
 rw [Bool.and_eq_true, Bool.and_eq_true] at this
 exact this
def szT (x : S38) : Nat := (x.f0.f1.size + x.f0.f2.size) + (x.f1.f1.size + x.f1.f2.size) + (x.f2.f1.size + x.f2.f2.size)
theorem tripB_size (x : S38) : (tripB x).size ≤ 6 * szT x + 34 := by
 have z1 := text_size x.f0.f0 x.f0.f1 x.f0.f2
 have z2 := text_size x.f1.f0 x.f1.f1 x.f1.f2
 have z3 := text_size x.f2.f0 x.f2.f1 x.f2.f2
 unfold tripB tripleB szT
 simp only [ByteArray.size_append]
 have e1 : sp1.size = 1 := rfl
 have e2 : (⟨#[32, 46]⟩ : ByteArray).size = 2 := rfl
 omega
theorem tt_q (x : S38) (h : SmallT x) (hf : folB x = true) (k : Nat) (hk : 4900000 ≤ k) : term_TripleText.f k x.f0.f0 x.f0.f1 x.f0.f2 x.f1.f0 x.f1.f1 x.f1.f2 x.f2.f0 x.f2.f1 x.f2.f2 = some (tripB x, 0) := by
 have z1 := text_size x.f0.f0 x.f0.f1 x.f0.f2
 have z2 := text_size x.f1.f0 x.f1.f1 x.f1.f2
 have z3 := text_size x.f2.f0 x.f2.f1 x.f2.f2
 unfold term_TripleText.f
 rw [foll_q x h k hk, hf, Option.bind_some, if_pos rfl]
 obtain ⟨⟨h1, g1⟩, ⟨h2, g2⟩, ⟨h3, g3⟩⟩ := h
 rw [text_eq _ _ _ h1 g1 k (by omega), text_eq _ _ _ h2 g2 k (by omega), text_eq _ _ _ h3 g3 k (by omega)]
 simp only [Option.bind_some, ByteArray.size_append, lit1, lit2]
 rw [if_pos (by omega), if_pos (by omega), if_pos (by omega), if_pos (by omega), if_pos (by omega)]
 rfl
end Go.Proofs.YtjnhdamilbcmpaaDoor.PTm

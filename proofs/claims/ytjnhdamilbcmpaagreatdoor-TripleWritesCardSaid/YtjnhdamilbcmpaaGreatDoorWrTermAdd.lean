import Derived.Test.YtjnhdamilbcmpaaGreatDoorWrTermText
set_option linter.unusedVariables false
set_option linter.unusedSimpArgs false
namespace Go.Proofs.YtjnhdamilbcmpaaGreatDoor.PWrit
open Go.RowKit Go.Proofs.YtjnhdamilbcmpaaGreatDoorW.PrintWords Go.Proofs.YtjnhdamilbcmpaaGreatDoorW.PrintLast Go.Proofs.YtjnhdamilbcmpaaGreatDoorW.PrintMore
theorem add_term (n1 : Int) (t1 x1 : ByteArray) (n2 : Int) (t2 x2 : ByteArray) (n3 : Int) (t3 x3 : ByteArray) (h1 : t1.size ≤ 1000000) (g1 : x1.size ≤ 1000000) (h2 : t2.size ≤ 1000000) (g2 : x2.size ≤ 1000000) (h3 : t3.size ≤ 1000000) (g3 : x3.size ≤ 1000000) :
    ∃ K v, ∀ k, K ≤ k → term_MayAdd.f k n1 t1 x1 n2 t2 x2 n3 t3 x3 = some v ∧ rhizomeref02_MayAdd.f k n1 t1 x1 n2 t2 x2 n3 t3 x3 = some v := by
  obtain ⟨K1, k1⟩ := foll_term n1 t1 x1 n2 t2 x2 n3 t3 x3 h1 g1 h2 g2 h3 g3
  obtain ⟨K2, k2⟩ := foll_ref n1 t1 x1 n2 t2 x2 n3 t3 x3 h1 g1 h2 g2 h3 g3
  cases hf : follB n1 t1 x1 n2 t2 x2 n3 t3 x3 with
  | false =>
    refine ⟨K1 + K2, false, fun k hk => ?_⟩
    unfold term_MayAdd.f rhizomeref02_MayAdd.f
    rw [k1 k (by omega), k2 k (by omega), hf]
    exact ⟨rfl, rfl⟩
  | true =>
    have hm : mayB n1 t1 x1 = true := by
      unfold follB at hf
      rw [Bool.and_eq_true] at hf
      exact hf.1
    have hn : n1 = 1 ∨ n1 = 2 ∨ n1 = 3 ∨ n1 = 4 ∨ n1 = 5 := by
      unfold mayB at hm
      by_cases c1 : n1 = 1
      · exact .inl c1
      by_cases c2 : n1 = 2
      · exact .inr (.inl c2)
      by_cases c3 : n1 = 3
      · exact .inr (.inr (.inl c3))
      by_cases c4 : n1 = 4
      · exact .inr (.inr (.inr (.inl c4)))
      by_cases c5 : n1 = 5
      · exact .inr (.inr (.inr (.inr c5)))
      rw [if_neg c1, if_neg c2, if_neg c3, if_neg c4, if_neg c5] at hm
      cases hm
    refine ⟨K1 + K2, if n1 ≤ 2 then n2 == 1 else false, fun k hk => ?_⟩
    unfold term_MayAdd.f rhizomeref02_MayAdd.f
    rw [k1 k (by omega), k2 k (by omega), hf]
    simp only [Option.bind_some, if_true]
    rcases hn with rfl | rfl | rfl | rfl | rfl <;> simp
end Go.Proofs.YtjnhdamilbcmpaaGreatDoor.PWrit

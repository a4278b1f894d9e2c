import Derived.Test.YtjnhdamilbcmpaaGreatDoorWrPureWrites
set_option linter.unusedVariables false
set_option linter.unusedSimpArgs false
namespace Go.Proofs.YtjnhdamilbcmpaaGreatDoor.PWrit
open Go.RowKit Go.Proofs.YtjnhdamilbcmpaaGreatDoorW.PrintWords Go.Proofs.YtjnhdamilbcmpaaGreatDoorW.PrintLast Go.Proofs.YtjnhdamilbcmpaaGreatDoorW.PrintMore
theorem known60 : rhizomelaw05_known.f 60 = some true := by decide +kernel
theorem known_k : ∀ m, rhizomelaw05_known.f (60 + m) = some true
  | 0 => known60
  | m + 1 => rhizomelaw05_known.mono (60 + m) _ (known_k m)
theorem known_ge (k : Nat) (hk : 60 ≤ k) : rhizomelaw05_known.f k = some true := by
  obtain ⟨m, rfl⟩ : ∃ m, k = 60 + m := ⟨k - 60, by omega⟩
  exact known_k m
theorem tripleWrites_pure (l : List S33) : ∃ k, rhizomelaw05_TripleWrites.f k l = some true := by
  cases hM : rhizomeref02_Much.f l 60 with
  | none => unfold rhizomeref02_Much.f at hM; cases hM
  | some b =>
    cases b with
    | true =>
      refine ⟨60, ?_⟩
      unfold rhizomelaw05_TripleWrites.f
      rw [hM]
      simp only [Option.bind_some, if_true]
      rw [known60]
      rfl
    | false =>
      obtain ⟨K, v, h⟩ := text_both l hM
      refine ⟨60 + K, ?_⟩
      unfold rhizomelaw05_TripleWrites.f
      rw [hM]
      simp only [Option.bind_some]
      rw [if_neg (by decide), (h (60 + K) (by omega)).1, (h (60 + K) (by omega)).2]
      simp only [Option.bind_some, if_true]
      unfold rhizomelaw05_num.f
      simp only [Option.bind_some, if_true]
      rw [known_ge (60 + K) (by omega)]
      rfl
end Go.Proofs.YtjnhdamilbcmpaaGreatDoor.PWrit

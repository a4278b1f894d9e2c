import Derived.Test.YtpbphelaeleikaaDoorMeLexM
set_option linter.unusedVariables false
set_option linter.unusedSimpArgs false
namespace Go.Proofs.YtpbphelaeleikaaDoor.PMean
open Go.RowKit Go.Proofs.YtpbphelaeleikaaDoorW.PrintWords Go.Proofs.YtpbphelaeleikaaDoorW.PrintLast Go.Proofs.YtpbphelaeleikaaDoorW.PrintMore
theorem known60 : rhizomelaw04_known.f 60 = some true := by decide +kernel
theorem known_k : ∀ m, rhizomelaw04_known.f (60 + m) = some true
 | 0 => known60
 | m + 1 => rhizomelaw04_known.mono (60 + m) _ (known_k m)
theorem known_ge (k : Nat) (hk : 60 ≤ k) : rhizomelaw04_known.f k = some true := by
 obtain ⟨m, rfl⟩ : ∃ m, k = 60 + m := ⟨k - 60, by omega⟩
 exact known_k m
theorem means_j0 (n : Int) (t x a b : ByteArray) (ht : t.size ≤ 9000) (hx : x.size ≤ 9000) (ha : a.size ≤ 3000) (hb : b.size ≤ 3000) (k : Nat) (hk : 200000 ≤ k) : rhizomelaw04_LexMeans.j0 (k + 1) a b false n t x = some true := by
 rw [rhizomelaw04_LexMeans.j0, if_neg Bool.false_ne_true, may_ref n t x (by omega) (by omega) k (by omega), Option.bind_some]
 cases hm : mayB n t x with
 | false =>
  rw [if_neg Bool.false_ne_true]
  exact two_pure a b ha hb k (by omega)
 | true =>
  obtain ⟨l, h1, h2⟩ := term_pure n t x ht hx hm k (by omega)
  rw [if_pos rfl, rtext_eq n t x (by omega) (by omega) k (by omega), Option.bind_some, h1, Option.bind_some]
  dsimp only
  rw [h2, Option.bind_some, num_eq, Option.bind_some]
  dsimp only
  rw [Option.bind_some, if_pos (by decide +kernel), if_neg (by simp), if_pos rfl]
  exact two_pure a b ha hb k (by omega)
theorem means_pure (n : Int) (t x a b : ByteArray) : ∃ k, rhizomelaw04_LexMeans.f k n t x a b = some true := by
 refine ⟨200001, ?_⟩
 have ht : ∀ v, rhizomelaw04_LexMeans.j0 200001 a b true n t x = some v → v = true := fun v h => by
  rw [show (200001 : Nat) = 200000 + 1 from rfl, rhizomelaw04_LexMeans.j0, if_pos rfl] at h
  exact (Option.some.inj h).symm
 have hj : rhizomelaw04_LexMeans.j0 200001 a b true n t x = some true := by
  rw [show (200001 : Nat) = 200000 + 1 from rfl, rhizomelaw04_LexMeans.j0, if_pos rfl]
 unfold rhizomelaw04_LexMeans.f rhizomeref02_Long.f
 rw [known_ge _ (by decide), Option.bind_some, if_pos rfl]
 by_cases c1 : (t.size : Int) > 9000
 ·rw [if_pos c1, Option.bind_some, if_pos rfl]
  exact hj
 rw [if_neg c1, Option.bind_some]
 by_cases c2 : (x.size : Int) > 9000
 ·rw [if_pos (decide_eq_true c2)]
  exact hj
 rw [if_neg (by rw [decide_eq_false c2]; decide)]
 by_cases c3 : (a.size : Int) > 3000
 ·rw [if_pos c3]
  exact hj
 rw [if_neg c3]
 by_cases c4 : (b.size : Int) > 3000
 ·rw [decide_eq_true c4]
  exact hj
 ·rw [decide_eq_false c4]
  exact means_j0 n t x a b (by omega) (by omega) (by omega) (by omega) 200000 (Nat.le_refl _)
end Go.Proofs.YtpbphelaeleikaaDoor.PMean

import Derived.Test.YtegmcmndjnbkaaaDoorBaTermOften
set_option linter.unusedVariables false
set_option linter.unusedSimpArgs false
namespace Go.Proofs.YtegmcmndjnbkaaaDoor.PTerm
open Go.RowKit Go.Proofs.YtegmcmndjnbkaaaDoorW.PrintWords Go.Proofs.YtegmcmndjnbkaaaDoorW.PrintLast Go.Proofs.YtegmcmndjnbkaaaDoorW.PrintMore
theorem termBounds_pure : ∃ k, rhizomelaw02_TermBounds.f k = some true := by
  obtain ⟨K0, k0⟩ := known_eq
  have z1 := irit_size
  have z2 := txtt_size
  have z3 : tagt.size = 35 := rfl
  obtain ⟨A1, a1⟩ := may_term 1 irit (⟨#[]⟩ : ByteArray) (by omega) (by decide)
  obtain ⟨A2, a2⟩ := may_term 3 txtt (⟨#[]⟩ : ByteArray) (by omega) (by decide)
  obtain ⟨A3, a3⟩ := may_term 4 (⟨#[]⟩ : ByteArray) tagt (by decide) (by omega)
  obtain ⟨A4, a4⟩ := may_term 2 (irit.extract 0 64) (⟨#[]⟩ : ByteArray) (by rw [cut_size 64 (by omega)]; omega) (by decide)
  obtain ⟨A5, a5⟩ := may_term 5 (⟨#[]⟩ : ByteArray) irit (by decide) (by omega)
  obtain ⟨B1, d1⟩ := may_term 1 (irit ++ (⟨#[97]⟩ : ByteArray)) (⟨#[]⟩ : ByteArray) (by rw [ByteArray.size_append, lit1]; omega) (by decide)
  obtain ⟨B2, d2⟩ := may_term 3 (txtt ++ (⟨#[97]⟩ : ByteArray)) (⟨#[]⟩ : ByteArray) (by rw [ByteArray.size_append, lit1]; omega) (by decide)
  obtain ⟨B3, d3⟩ := may_term 4 (⟨#[]⟩ : ByteArray) (tagt ++ (⟨#[49]⟩ : ByteArray)) (by decide) (by rw [ByteArray.size_append, lit1]; omega)
  obtain ⟨B4, d4⟩ := may_term 2 (irit.extract 0 65) (⟨#[]⟩ : ByteArray) (by rw [cut_size 65 (by omega)]; omega) (by decide)
  obtain ⟨B5, d5⟩ := may_term 5 (⟨#[]⟩ : ByteArray) xsdt (by decide) (by decide)
  obtain ⟨B6, d6⟩ := may_term 1 (⟨#[]⟩ : ByteArray) (⟨#[]⟩ : ByteArray) (by decide) (by decide)
  obtain ⟨B7, d7⟩ := may_term 4 (⟨#[]⟩ : ByteArray) (⟨#[]⟩ : ByteArray) (by decide) (by decide)
  obtain ⟨m, hm⟩ : ∃ m, m = K0 + A1 + A2 + A3 + A4 + A5 + B1 + B2 + B3 + B4 + B5 + B6 + B7 + 5000 := ⟨_, rfl⟩
  have o1 : rhizomelaw02_often.f (m + 1) 97 1000 = some irit := by
    have := often_eq 97 1000 (by omega) (by decide +kernel) (m + 1) (by omega)
    rw [show Utf8.encode 97 = (⟨#[97]⟩ : ByteArray) by decide +kernel] at this
    exact this
  have o2 : rhizomelaw02_often.f (m + 1) 233 2000 = some txtt := by
    have := often_eq 233 2000 (by omega) (by decide +kernel) (m + 1) (by omega)
    rw [show Utf8.encode 233 = (⟨#[195, 169]⟩ : ByteArray) by decide +kernel] at this
    exact this
  refine ⟨m + 1, ?_⟩
  unfold rhizomelaw02_TermBounds.f
  rw [o1, Option.bind_some, o2, Option.bind_some, a1 (m + 1) (by omega), b1, Option.bind_some, if_pos rfl, a2 (m + 1) (by omega), b2, Option.bind_some, if_pos rfl]
  change ((term_May.f (m + 1) 4 (⟨#[]⟩ : ByteArray) tagt).bind fun t169 => _) = _
  rw [a3 (m + 1) (by omega), b3, Option.bind_some, if_pos rfl, if_pos (by decide), if_pos (by omega), a4 (m + 1) (by omega), b4, Option.bind_some, if_pos rfl, a5 (m + 1) (by omega), b5, Option.bind_some]
  change rhizomelaw02_TermBounds.j0 (m + 1) irit txtt tagt true = _
  simp only [rhizomelaw02_TermBounds.j0]
  rw [if_pos (by omega), d1 m (by omega), c1, Option.bind_some, if_neg (by decide), if_pos (by omega), d2 m (by omega), c2, Option.bind_some, if_neg (by decide), if_pos (by omega), d3 m (by omega), c3, Option.bind_some, if_neg (by decide), if_pos (by decide), if_pos (by omega), d4 m (by omega), c4, Option.bind_some, if_neg (by decide)]
  change ((term_May.f m 5 (⟨#[]⟩ : ByteArray) xsdt).bind fun t176 => _) = _
  rw [d5 m (by omega), c5, Option.bind_some, if_neg (by decide), d6 m (by omega), c6, Option.bind_some, if_neg (by decide), d7 m (by omega), c7, Option.bind_some, k0 m (by omega)]
  rfl
end Go.Proofs.YtegmcmndjnbkaaaDoor.PTerm
namespace Go.Proofs.YtegmcmndjnbkaaaDoor
theorem Pure.TermBounds : PTerm.rhizomelaw02_TermBounds.Pure := PTerm.termBounds_pure
end Go.Proofs.YtegmcmndjnbkaaaDoor

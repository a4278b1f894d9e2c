import Derived.Test.YtegmcmndjnbkaaaDoorMaTermText
set_option linter.unusedVariables false
set_option linter.unusedSimpArgs false
namespace Go.Proofs.YtegmcmndjnbkaaaDoor.PTerm
open Go.RowKit Go.Proofs.YtegmcmndjnbkaaaDoorW.PrintWords Go.Proofs.YtegmcmndjnbkaaaDoorW.PrintLast Go.Proofs.YtegmcmndjnbkaaaDoorW.PrintMore
theorem ka : mayB 4 (⟨#[97, 34, 98]⟩ : ByteArray) (⟨#[101, 110]⟩ : ByteArray) = true := by decide +kernel
theorem kb : mayB 5 (⟨#[49]⟩ : ByteArray) (⟨#[104, 116, 116, 112, 58, 47, 47, 120]⟩ : ByteArray) = true := by
  unfold mayB
  simp only [show ((5 : Int) = 1) = False by simp, show ((5 : Int) = 2) = False by simp, show ((5 : Int) = 3) = False by simp, show ((5 : Int) = 4) = False by simp, if_false, if_true]
  rw [show valB (⟨#[49]⟩ : ByteArray) = true by decide +kernel, show iriB (⟨#[104, 116, 116, 112, 58, 47, 47, 120]⟩ : ByteArray) = true by decide +kernel, Lib.toList_data]
  rfl
theorem kta : (textB 4 (⟨#[97, 34, 98]⟩ : ByteArray) (⟨#[101, 110]⟩ : ByteArray)).toList = [34, 97, 92, 34, 98, 34, 64, 101, 110] := by
  rw [Lib.toList_data]
  decide +kernel
theorem ktb : (textB 5 (⟨#[49]⟩ : ByteArray) (⟨#[104, 116, 116, 112, 58, 47, 47, 120]⟩ : ByteArray)).toList = [34, 49, 34, 94, 94, 60, 104, 116, 116, 112, 58, 47, 47, 120, 62] := by
  rw [Lib.toList_data]
  decide +kernel
theorem known_eq : ∃ K, ∀ k, K ≤ k → rhizomelaw02_known.f k = some true := by
  obtain ⟨K1, k1⟩ := tText_eq 4 (⟨#[97, 34, 98]⟩ : ByteArray) (⟨#[101, 110]⟩ : ByteArray) (by decide) (by decide)
  obtain ⟨K2, k2⟩ := tText_eq 5 (⟨#[49]⟩ : ByteArray) (⟨#[104, 116, 116, 112, 58, 47, 47, 120]⟩ : ByteArray) (by decide) (by decide)
  refine ⟨K1 + K2, fun k hk => ?_⟩
  unfold rhizomelaw02_known.f rhizomelaw02_num.f
  rw [k1 k (by omega), k2 k (by omega), ka, kb]
  simp only [if_true, Option.bind_some, kta, ktb]
  decide +kernel
theorem add_term (n1 : Int) (t1 x1 : ByteArray) (n2 : Int) (t2 x2 : ByteArray) (n3 : Int) (t3 x3 : ByteArray) (h1 : t1.size ≤ 1000000) (g1 : x1.size ≤ 1000000) (h2 : t2.size ≤ 1000000) (g2 : x2.size ≤ 1000000) (h3 : t3.size ≤ 1000000) (g3 : x3.size ≤ 1000000) :
    ∃ K v, ∀ k, K ≤ k → term_MayAdd.f k n1 t1 x1 n2 t2 x2 n3 t3 x3 = some v ∧ rhizomeref02_MayAdd.f k n1 t1 x1 n2 t2 x2 n3 t3 x3 = some v := by
  obtain ⟨K1, k1⟩ := foll_term n1 t1 x1 n2 t2 x2 n3 t3 x3 h1 g1 h2 g2 h3 g3
  obtain ⟨K2, k2⟩ := foll_ref n1 t1 x1 n2 t2 x2 n3 t3 x3 h1 g1 h2 g2 h3 g3
  cases hf : follB n1 t1 x1 n2 t2 x2 n3 t3 x3 with
  | false =>
    refine ⟨K1 + K2, false, fun k hk => ?_⟩
    unfold term_MayAdd.f rhizomeref02_MayAdd.f
    rw [k1 k (by omega), k2 k (by omega), hf]
    exact ⟨rfl, rfl⟩
  | true =>
    have hm : mayB n1 t1 x1 = true := by
      unfold follB at hf
      rw [Bool.and_eq_true] at hf
      exact hf.1
    have hn : n1 = 1 ∨ n1 = 2 ∨ n1 = 3 ∨ n1 = 4 ∨ n1 = 5 := by
      unfold mayB at hm
      by_cases c1 : n1 = 1
      · exact .inl c1
      by_cases c2 : n1 = 2
      · exact .inr (.inl c2)
      by_cases c3 : n1 = 3
      · exact .inr (.inr (.inl c3))
      by_cases c4 : n1 = 4
      · exact .inr (.inr (.inr (.inl c4)))
      by_cases c5 : n1 = 5
      · exact .inr (.inr (.inr (.inr c5)))
      rw [if_neg c1, if_neg c2, if_neg c3, if_neg c4, if_neg c5] at hm
      cases hm
    refine ⟨K1 + K2, if n1 ≤ 2 then n2 == 1 else false, fun k hk => ?_⟩
    unfold term_MayAdd.f rhizomeref02_MayAdd.f
    rw [k1 k (by omega), k2 k (by omega), hf]
    simp only [Option.bind_some, if_true]
    rcases hn with rfl | rfl | rfl | rfl | rfl <;> simp
theorem long_eq (n : Int) (t x : ByteArray) : rhizomeref02_Long.f n t x = some (decide (9000 < t.size ∨ 9000 < x.size)) := by
  unfold rhizomeref02_Long.f
  split
  · rw [decide_eq_true (by omega)]
  · congr 1
    exact decide_eq_decide.mpr (by omega)
theorem termMays_pure (n1 : Int) (t1 x1 : ByteArray) (n2 : Int) (t2 x2 : ByteArray) (n3 : Int) (t3 x3 : ByteArray) : ∃ k, rhizomelaw02_TermMays.f k n1 t1 x1 n2 t2 x2 n3 t3 x3 = some true := by
  obtain ⟨K0, k0⟩ := known_eq
  unfold rhizomelaw02_TermMays.f
  simp only [long_eq, Option.bind_some]
  by_cases hl : (9000 < t1.size ∨ 9000 < x1.size) ∨ (9000 < t2.size ∨ 9000 < x2.size) ∨ (9000 < t3.size ∨ 9000 < x3.size)
  · refine ⟨K0 + 1, ?_⟩
    have e : rhizomelaw02_TermMays.j0 (K0 + 1) true n1 t1 x1 n2 t2 x2 n3 t3 x3 = some true := by
      simp only [rhizomelaw02_TermMays.j0, if_true]
      rw [k0 K0 (Nat.le_refl _)]
      rfl
    by_cases l1 : 9000 < t1.size ∨ 9000 < x1.size
    · rw [if_pos (by simpa using l1)]; exact e
    · rw [if_neg (by simpa using l1)]
      by_cases l2 : 9000 < t2.size ∨ 9000 < x2.size
      · rw [if_pos (by simpa using l2)]; exact e
      · rw [if_neg (by simpa using l2)]
        have l3 : 9000 < t3.size ∨ 9000 < x3.size := by omega
        rw [decide_eq_true l3]; exact e
  · have h1 : t1.size ≤ 1000000 := by omega
    have g1 : x1.size ≤ 1000000 := by omega
    have h2 : t2.size ≤ 1000000 := by omega
    have g2 : x2.size ≤ 1000000 := by omega
    have h3 : t3.size ≤ 1000000 := by omega
    have g3 : x3.size ≤ 1000000 := by omega
    obtain ⟨Ka, va, ka⟩ := add_term n1 t1 x1 n2 t2 x2 n3 t3 x3 h1 g1 h2 g2 h3 g3
    obtain ⟨K1, k1⟩ := foll_term n1 t1 x1 n2 t2 x2 n3 t3 x3 h1 g1 h2 g2 h3 g3
    obtain ⟨K2, k2⟩ := foll_ref n1 t1 x1 n2 t2 x2 n3 t3 x3 h1 g1 h2 g2 h3 g3
    obtain ⟨K3, k3⟩ := tt_term n1 t1 x1 n2 t2 x2 n3 t3 x3 h1 g1 h2 g2 h3 g3
    obtain ⟨K4, k4⟩ := tt_ref n1 t1 x1 n2 t2 x2 n3 t3 x3 h1 g1 h2 g2 h3 g3
    obtain ⟨K5, k5⟩ := may_term n3 t3 x3 h3 g3
    have k6 := may_ref n3 t3 x3 h3 g3
    obtain ⟨K7, k7⟩ := tText_eq n3 t3 x3 h3 g3
    have k8 := rtext_eq n3 t3 x3 h3 g3
    obtain ⟨m, hm⟩ : ∃ m, m = K0 + Ka + K1 + K2 + K3 + K4 + K5 + K7 + 2 * (t3.size + x3.size) + 100 := ⟨_, rfl⟩
    refine ⟨m + 3, ?_⟩
    rw [decide_eq_false (by omega), decide_eq_false (by omega), decide_eq_false (by omega)]
    simp only [Bool.false_eq_true, if_false]
    have ej2 : ∀ u v, (u, v) = (if follB n1 t1 x1 n2 t2 x2 n3 t3 x3 = true then (tripleB n1 t1 x1 n2 t2 x2 n3 t3 x3, (0 : Int)) else (⟨#[]⟩, 2)) → rhizomelaw02_TermMays.j2 (m + 1) u v n1 t1 x1 n2 t2 x2 n3 t3 x3 = some true := by
      intro u v huv
      simp only [rhizomelaw02_TermMays.j2, rhizomelaw02_num.f]
      rw [k2 m (by omega), Option.bind_some, k4 m (by omega), k0 m (by omega)]
      cases hf : follB n1 t1 x1 n2 t2 x2 n3 t3 x3 with
      | true =>
        rw [hf, if_pos rfl] at huv
        obtain ⟨rfl, rfl⟩ := Prod.mk.inj huv
        simp
      | false =>
        rw [hf, if_neg (by simp)] at huv
        obtain ⟨rfl, rfl⟩ := Prod.mk.inj huv
        simp [Lib.toList_data]
    have ej1 : ∀ a b u v, (a, b) = (if mayB n3 t3 x3 = true then (textB n3 t3 x3, (0 : Int)) else (⟨#[]⟩, 2)) → (u, v) = (if follB n1 t1 x1 n2 t2 x2 n3 t3 x3 = true then (tripleB n1 t1 x1 n2 t2 x2 n3 t3 x3, (0 : Int)) else (⟨#[]⟩, 2)) → rhizomelaw02_TermMays.j1 (m + 2) a b u v false n1 t1 x1 n2 t2 x2 n3 t3 x3 = some true := by
      intro a b u v hab huv
      simp only [rhizomelaw02_TermMays.j1, rhizomelaw02_num.f]
      rw [if_neg (by simp), k6 (m + 1) (by omega), Option.bind_some, k8 (m + 1) (by omega), Option.bind_some, Option.bind_some, ej2 u v huv]
      cases hf : mayB n3 t3 x3 with
      | true =>
        rw [hf, if_pos rfl] at hab
        obtain ⟨rfl, rfl⟩ := Prod.mk.inj hab
        simp
      | false =>
        rw [hf, if_neg (by simp)] at hab
        obtain ⟨rfl, rfl⟩ := Prod.mk.inj hab
        simp [Lib.toList_data]
    simp only [rhizomelaw02_TermMays.j0, Bool.false_eq_true, if_false]
    rw [k7 (m + 2) (by omega), k3 (m + 2) (by omega), k5 (m + 2) (by omega), k6 (m + 2) (by omega), (ka (m + 2) (by omega)).1, (ka (m + 2) (by omega)).2, k1 (m + 2) (by omega), k2 (m + 2) (by omega)]
    simp only [Option.bind_some, bne_self_eq_false, Bool.false_eq_true, if_false]
    exact ej1 _ _ _ _ rfl rfl
end Go.Proofs.YtegmcmndjnbkaaaDoor.PTerm

import Derived.Test.YtegmcmndjnbkaaaDoorOrPSortx8
import Derived.Test.YtegmcmndjnbkaaaDoorOrPSortx6
set_option linter.unusedVariables false
set_option linter.unusedSimpArgs false
namespace Go.Proofs.YtegmcmndjnbkaaaDoor.PSort
open Go.RowKit Go.Proofs.YtegmcmndjnbkaaaDoorW.PrintWords Go.Proofs.YtegmcmndjnbkaaaDoorW.PrintLast Go.Proofs.YtegmcmndjnbkaaaDoorW.PrintMore
theorem known40 : rhizomelaw02_known.f 40 = some true := by decide +kernel
theorem known_k : ∀ k, 40 ≤ k → rhizomelaw02_known.f k = some true := by
  intro k hk
  obtain ⟨m, rfl⟩ : ∃ m, k = 40 + m := ⟨k - 40, by omega⟩
  clear hk
  induction m with
  | zero => exact known40
  | succ m ih => exact rhizomelaw02_known.mono (40 + m) _ ih
theorem much_len (l : List S29) (most : Int) (h : rhizomeref02_Much.f l most = some false) : (l.length : Int) ≤ most := by
  unfold rhizomeref02_Much.f at h
  have h := Option.some.inj h
  unfold muchB at h
  simp only [Bool.or_eq_false_iff, decide_eq_false_iff_not] at h
  omega
def Rise (l : List S29) : Prop := l.Pairwise fun a b => cmp9 a b < 0
theorem rise_unique : ∀ (a b : List S29), Rise a → Rise b → (∀ x, x ∈ a ↔ x ∈ b) → a = b
  | [], [], _, _, _ => rfl
  | [], y :: b, _, _, h => by have := (h y).2 (by simp); simp at this
  | x :: a, [], _, _, h => by have := (h x).1 (by simp); simp at this
  | x :: a, y :: b, ha, hb, h => by
    obtain ⟨hx, ha1⟩ := List.pairwise_cons.1 ha
    obtain ⟨hy, hb1⟩ := List.pairwise_cons.1 hb
    have irr : ∀ z : S29, ¬ cmp9 z z < 0 := fun z hz => by have := (cmp9_ord.zero z z).2 rfl; omega
    have hxy : x = y := by
      rcases List.mem_cons.1 ((h x).1 (by simp)) with e | e
      · exact e
      · rcases List.mem_cons.1 ((h y).2 (by simp)) with e2 | e2
        · exact e2.symm
        · exact absurd (cmp9_ord.strict _ _ _ (hy x e) (hx y e2)) (irr y)
    subst hxy
    rw [rise_unique a b ha1 hb1 (fun z => by
      constructor
      · intro hz
        rcases List.mem_cons.1 ((h z).1 (List.mem_cons_of_mem _ hz)) with e | e
        · subst e; exact absurd (hx z hz) (irr z)
        · exact e
      · intro hz
        rcases List.mem_cons.1 ((h z).2 (List.mem_cons_of_mem _ hz)) with e | e
        · subst e; exact absurd (hy z hz) (irr z)
        · exact e)]
theorem compact_mem (zs : List S29) (x : S29) : x ∈ Lib.compact zs ↔ x ∈ zs := by
  unfold Lib.compact Lib.compactUpTo
  simp only [List.mem_map, List.mem_filter, List.mem_range]
  constructor
  · rintro ⟨i, ⟨hi, _⟩, rfl⟩
    rw [getElem!_pos zs.toArray i (by simpa using hi)]
    simp
  · intro hx
    obtain ⟨i, hi, e⟩ := List.getElem_of_mem hx
    have key : ∀ n i, i ≤ n → ∀ (hi : i < zs.length), zs[i] = x → ∃ j, (j < zs.length ∧ Lib.keeps zs.toArray j = true) ∧ zs.toArray[j]! = x := by
      intro n
      induction n with
      | zero =>
        intro i hin hi e
        obtain rfl : i = 0 := by omega
        exact ⟨0, ⟨hi, by simp [Lib.keeps]⟩, by rw [getElem!_pos zs.toArray 0 (by simpa using hi)]; simpa using e⟩
      | succ n ih =>
        intro i hin hi e
        by_cases h0 : Lib.keeps zs.toArray i = true
        · exact ⟨i, ⟨hi, h0⟩, by rw [getElem!_pos zs.toArray i (by simpa using hi)]; simpa using e⟩
        · have hk : i ≠ 0 ∧ zs.toArray[i]! = zs.toArray[i - 1]! := by simpa [Lib.keeps] using h0
          refine ih (i - 1) (by omega) (by omega) ?_
          have e2 := hk.2
          rw [getElem!_pos zs.toArray i (by simpa using hi), getElem!_pos zs.toArray (i - 1) (by simp; omega)] at e2
          simp only [List.getElem_toArray] at e2
          rw [← e2, e]
    exact key i i (Nat.le_refl _) hi e
theorem compact_rise (zs : List S29) (h : zs.Pairwise fun a b => cmp9 a b ≤ 0) : Rise (Lib.compact zs) := by
  have hle : ∀ i j, i ≤ j → j < zs.length → cmp9 zs.toArray[i]! zs.toArray[j]! ≤ 0 := by
    intro i j hij hj
    rw [getElem!_pos zs.toArray i (by simp; omega), getElem!_pos zs.toArray j (by simpa using hj)]
    simp only [List.getElem_toArray]
    by_cases he : i = j
    · subst he
      have := (cmp9_ord.zero zs[i] zs[i]).2 rfl
      omega
    · exact List.pairwise_iff_getElem.1 h i j (by omega) hj (by omega)
  unfold Rise Lib.compact Lib.compactUpTo
  rw [List.pairwise_map]
  refine List.Pairwise.imp_of_mem (R := fun a b : Nat => a < b) ?_ (List.Pairwise.filter _ List.pairwise_lt_range)
  intro i j hi hj hij
  simp only [List.mem_filter, List.mem_range] at hi hj
  have hk : j = 0 ∨ zs.toArray[j]! ≠ zs.toArray[j - 1]! := by simpa [Lib.keeps] using hj.2
  have hne : zs.toArray[j]! ≠ zs.toArray[j - 1]! := hk.resolve_left (by omega)
  have h1 := hle (j - 1) j (by omega) hj.1
  have h2 : cmp9 zs.toArray[j - 1]! zs.toArray[j]! < 0 := by
    have : cmp9 zs.toArray[j - 1]! zs.toArray[j]! ≠ 0 := fun e => hne ((cmp9_ord.zero _ _).1 e).symm
    omega
  exact cmp9_ord.right _ _ _ (hle i (j - 1) (by omega) (by omega)) h2
theorem sortL_mem (l : List S29) (x : S29) : x ∈ sortL l ↔ x ∈ l := by
  unfold sortL
  rw [compact_mem, List.mem_mergeSort]
theorem sortL_rise (l : List S29) : Rise (sortL l) := by
  refine compact_rise _ ?_
  have h := List.pairwise_mergeSort (le := fun x y => !(ltOf cmp9) y x) (fun a b c h1 h2 => by
      simp only [ltOf, Bool.not_eq_true', decide_eq_false_iff_not] at *
      have e1 := cmp9_ord.anti a b
      have e2 := cmp9_ord.anti b c
      have e3 := cmp9_ord.anti a c
      have := cmp9_ord.trans a b c (by omega) (by omega)
      omega) (fun a b => by
      simp only [ltOf, Bool.or_eq_true, Bool.not_eq_true', decide_eq_false_iff_not]
      have e1 := cmp9_ord.anti a b
      omega) l
  refine h.imp ?_
  intro a b hab
  simp only [ltOf, Bool.not_eq_true', decide_eq_false_iff_not] at hab
  have e1 := cmp9_ord.anti a b
  omega
theorem sortL_len (a : List S29) : (sortL a).length ≤ a.length := by
  unfold sortL Lib.compact Lib.compactUpTo
  rw [List.length_map]
  refine Nat.le_trans (List.length_filter_le _ _) ?_
  simp
end Go.Proofs.YtegmcmndjnbkaaaDoor.PSort

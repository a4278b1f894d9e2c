import Derived.Test.YtegmcmndjnbkaaaDoorSoSortLaw
import Derived.Test.YtegmcmndjnbkaaaDoorSoPSortx10
set_option linter.unusedVariables false
set_option linter.unusedSimpArgs false
namespace Go.Proofs.YtegmcmndjnbkaaaDoor.PSort
open Go.RowKit Go.Proofs.YtegmcmndjnbkaaaDoorW.PrintWords Go.Proofs.YtegmcmndjnbkaaaDoorW.PrintLast Go.Proofs.YtegmcmndjnbkaaaDoorW.PrintMore
theorem w64 {n : Int} (h0 : -5 ≤ n) (h1 : n ≤ 9223372036854775807) : wrap64 n = n := by unfold wrap64; omega
theorem has_l0 (xs : List S29) (hx : xs.length < 1172812402961) (y : S29) : ∀ (m i k : Nat), i + m = xs.length →
    rhizomelaw02_has.l0 (k + m + 1) xs (i : Int) y.f0.f0 y.f0.f1 y.f0.f2 y.f1.f0 y.f1.f1 y.f1.f2 y.f2.f0 y.f2.f1 y.f2.f2 = some (decide (y ∈ xs.drop i)) := by
  intro m
  induction m with
  | zero =>
    intro i k hi
    simp only [rhizomelaw02_has.l0]
    rw [if_neg (by omega), List.drop_eq_nil_of_le (by omega)]
    simp
  | succ m ih =>
    intro i k hi
    have hlt : i < xs.length := by omega
    have hn := ih (i + 1) k (by omega)
    rw [show k + (m + 1) + 1 = (k + m + 1) + 1 by omega]
    generalize k + m + 1 = q at hn ⊢
    simp only [rhizomelaw02_has.l0]
    rw [if_pos (by omega), if_pos (by omega), eq9_bool (rd_T29 xs (i : Int)) y, w64 (by omega) (by omega), rd_nat xs i hlt]
    rw [show ((i : Int) + 1) = ((i + 1 : Nat) : Int) by omega, hn, List.drop_eq_getElem_cons hlt]
    by_cases h : xs[i] = y
    · rw [if_pos (by simpa using h), decide_eq_true (by rw [h]; exact List.mem_cons_self)]
    · have h2 : ¬ y = xs[i] := fun e => h e.symm
      rw [if_neg (by simpa using h)]
      simp only [List.mem_cons, h2, false_or]
theorem has_eq (xs : List S29) (hx : xs.length < 1172812402961) (y : S29) (k : Nat) (hk : xs.length + 1 ≤ k) :
    rhizomelaw02_has.f k xs y.f0.f0 y.f0.f1 y.f0.f2 y.f1.f0 y.f1.f1 y.f1.f2 y.f2.f0 y.f2.f1 y.f2.f2 = some (decide (y ∈ xs)) := by
  unfold rhizomelaw02_has.f
  obtain ⟨m, rfl⟩ : ∃ m, k = m + xs.length + 1 := ⟨k - (xs.length + 1), by omega⟩
  have := has_l0 xs hx y xs.length 0 m (by omega)
  rwa [List.drop_zero] at this
theorem ts_l2 (x0 s : List S29) (h0 : x0.length < 1172812402961) (hs : s.length < 1172812402961) (hm : ∀ x, x ∈ x0 → x ∈ s) : ∀ (m i k : Nat), i + m = x0.length → 41 + s.length ≤ k → rhizomelaw02_TermSorts.l2 (k + m + 1) x0 s (i : Int) = some true := by
  intro m
  induction m with
  | zero =>
    intro i k hi hk
    simp only [rhizomelaw02_TermSorts.l2]
    rw [if_neg (by omega), known_k _ (by omega)]
    rfl
  | succ m ih =>
    intro i k hi hk
    have hlt : i < x0.length := by omega
    have hn := ih (i + 1) k (by omega) hk
    have hh := has_eq s hs (rd_T29 x0 (i : Int)) (k + m + 1) (by omega)
    rw [show k + (m + 1) + 1 = (k + m + 1) + 1 by omega]
    generalize k + m + 1 = q at hn hh ⊢
    simp only [rhizomelaw02_TermSorts.l2]
    rw [if_pos (by omega), if_pos (by omega), hh, rd_nat x0 i hlt, Option.bind_some, w64 (by omega) (by omega)]
    rw [if_pos (by simpa using hm _ (List.getElem_mem hlt)), show ((i : Int) + 1) = ((i + 1 : Nat) : Int) by omega]
    exact hn
theorem ts_l1 (x0 s : List S29) (h0 : x0.length < 1172812402961) (hs : s.length < 1172812402961) (hm : ∀ x, x ∈ s ↔ x ∈ x0) (hr : Rise s) : ∀ (m i k : Nat), i + m = s.length → 50 + s.length + 2 * x0.length ≤ k → rhizomelaw02_TermSorts.l1 (k + m + 1) x0 s s s (i : Int) = some true := by
  intro m
  induction m with
  | zero =>
    intro i k hi hk
    simp only [rhizomelaw02_TermSorts.l1]
    rw [if_neg (by omega)]
    obtain ⟨j, rfl⟩ : ∃ j, k = j + x0.length + 1 := ⟨k - (x0.length + 1), by omega⟩
    exact ts_l2 x0 s h0 hs (fun x hx => (hm x).2 hx) x0.length 0 j (by omega) (by omega)
  | succ m ih =>
    intro i k hi hk
    have hlt : i < s.length := by omega
    have hhas := has_eq x0 h0 (rd_T29 s (i : Int)) (k + m + 1) (by omega)
    have hin : decide (rd_T29 s (i : Int) ∈ x0) = true := by
      rw [decide_eq_true_eq, rd_nat s i hlt]
      exact (hm _).1 (List.getElem_mem hlt)
    rw [hin] at hhas
    have hnext := ih (i + 1) k (by omega) hk
    have hc0 := t3cmp_eq (k + m + 1) (by omega)
    rw [show k + (m + 1) + 1 = (k + m + 1) + 1 by omega]
    generalize k + m + 1 = q at hnext hhas hc0 ⊢
    simp only [rhizomelaw02_TermSorts.l1]
    have hw : wrap64 ((i : Int) + 1) = ((i + 1 : Nat) : Int) := by rw [w64 (by omega) (by omega)]; omega
    have c1 : ((i : Int) < (s.length : Int)) = True := eq_true (by omega)
    have c2 : (0 ≤ (i : Int)) = True := eq_true (by omega)
    by_cases hi0 : (i : Int) > 0
    · have hcmp := rise_get s hr (i : Int) (by omega) (by omega)
      have hc := hc0 (rd_T29 s ((i : Int) - 1)) (rd_T29 s (i : Int))
      have hw2 : wrap64 ((i : Int) - 1) = (i : Int) - 1 := w64 (by omega) (by omega)
      have c3 : ((i : Int) > 0) = True := eq_true hi0
      have c4 : (0 ≤ (i : Int) - 1) = True := eq_true (by omega)
      have c5 : ((i : Int) - 1 < (s.length : Int)) = True := eq_true (by omega)
      have c6 : (cmp9 (rd_T29 s ((i : Int) - 1)) (rd_T29 s (i : Int)) ≥ 0) = False := eq_false (by omega)
      simp only [hw, hw2, hhas, hc, Option.bind_some, hnext, beq_self_eq_true, Bool.not_true, Bool.or_self, Bool.or_false, Bool.false_eq_true, if_false, if_true, c1, c2, c3, c4, c5, c6]
    · have c3 : ((i : Int) > 0) = False := eq_false hi0
      simp only [hw, hhas, Option.bind_some, hnext, beq_self_eq_true, Bool.not_true, Bool.or_self, Bool.or_false, Bool.false_eq_true, if_false, if_true, c1, c2, c3]
theorem ts_l0 (x0 s x6 : List S29) (x1 : Int) (h0 : x0.length < 500000) : ∀ (m k : Nat) (x6 : List S29), m ≤ x0.length → x6.length + m < 1000000 → rhizomelaw02_TermSorts.l0 (k + m + 1) x0 x1 s x6 ((m : Int) - 1) = rhizomelaw02_TermSorts.l0 (k + 1) x0 x1 s (x6 ++ (x0.take m).reverse) (-1) := by
  intro m
  induction m with
  | zero =>
    intro k x6 _ _
    simp
  | succ m ih =>
    intro k x6 hm h6
    have hlt : m < x0.length := by omega
    rw [show k + (m + 1) + 1 = (k + m + 1) + 1 by omega, show (((m + 1 : Nat) : Int) - 1) = (m : Int) by omega]
    rw [show rhizomelaw02_TermSorts.l0 (k + m + 1 + 1) x0 x1 s x6 (m : Int) = rhizomelaw02_TermSorts.l0 (k + m + 1) x0 x1 s (x6 ++ [rd_T29 x0 (m : Int)]) (wrap64 ((m : Int) - 1)) by
      conv => lhs; unfold rhizomelaw02_TermSorts.l0
      rw [if_pos (by omega), if_pos (by omega), if_pos (by omega), if_pos (by omega)]]
    rw [w64 (by omega) (by omega), ih k _ (by omega) (by simp; omega), rd_nat x0 m hlt]
    congr 1
    rw [List.take_succ_eq_append_getElem hlt, List.reverse_append, List.append_assoc]
    rfl
theorem termSorts_pure (l0 : List S29) (a1 : Int) : ∃ k, rhizomelaw02_TermSorts.f k l0 a1 = some true := by
  obtain ⟨K, hK⟩ : ∃ K, K = 200 + 10 * l0.length := ⟨_, rfl⟩
  refine ⟨K + 2, ?_⟩
  have hj : rhizomelaw02_TermSorts.j0 (K + 2) l0 a1 true = some true := by
    simp only [rhizomelaw02_TermSorts.j0]
    rw [if_pos trivial, known_k _ (by omega)]
    rfl
  unfold rhizomelaw02_TermSorts.f
  obtain ⟨b, hb⟩ : ∃ b, rhizomeref02_Much.f l0 100 = some b := ⟨_, rfl⟩
  rw [hb, Option.bind_some]
  cases b with
  | true => rw [if_pos rfl]; exact hj
  | false =>
    have hlen := much_len l0 100 hb
    rw [if_neg (by simp)]
    by_cases h1 : a1 < 0
    · rw [if_pos h1]; exact hj
    · rw [if_neg h1]
      by_cases h2 : a1 > (l0.length : Int)
      · rw [decide_eq_true h2]; exact hj
      · rw [decide_eq_false h2]
        have hl := sortL_len l0
        have hsort : ∀ l : List S29, l.length < 1172812402961 → term_Sort.f l = some (sortL l) := fun l h => by unfold term_Sort.f; rw [if_pos h]
        simp only [rhizomelaw02_TermSorts.j0]
        rw [if_neg (by simp), hsort l0 (by omega), Option.bind_some, w64 (by omega) (by omega)]
        obtain ⟨j, hjk⟩ : ∃ j, K + 1 = j + l0.length + 1 := ⟨K - l0.length, by omega⟩
        rw [hjk, ts_l0 l0 (sortL l0) [] a1 (by omega) l0.length j [] (Nat.le_refl _) (by simp; omega)]
        simp only [rhizomelaw02_TermSorts.l0]
        rw [if_neg (by omega), if_pos (by omega), if_pos (by omega), Option.bind_some]
        rw [List.take_length, List.nil_append, if_pos (by simp; omega)]
        have hs1 : sortL (l0.reverse ++ l0.take a1.toNat) = sortL l0 := sortL_of_mem _ _ (fun x => by
          simp only [List.mem_append, List.mem_reverse]
          exact ⟨fun h => h.elim id (fun h => List.mem_of_mem_take h), Or.inl⟩)
        rw [hsort _ (by simp; omega), Option.bind_some, hsort _ (by omega), Option.bind_some, hs1, sortL_self, if_pos rfl]
        obtain ⟨i, rfl⟩ : ∃ i, j = i + (sortL l0).length + 1 + 1 := ⟨j - ((sortL l0).length + 2), by omega⟩
        simp only [rhizomelaw02_TermSorts.j2]
        rw [if_neg (by simp)]
        exact ts_l1 l0 (sortL l0) (by omega) (by omega) (fun x => sortL_mem l0 x) (sortL_rise l0) (sortL l0).length 0 i (by omega) (by omega)
end Go.Proofs.YtegmcmndjnbkaaaDoor.PSort

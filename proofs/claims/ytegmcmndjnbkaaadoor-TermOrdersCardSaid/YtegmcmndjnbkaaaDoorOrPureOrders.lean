import Derived.Test.YtegmcmndjnbkaaaDoorOrSortLaw
import Derived.Test.YtegmcmndjnbkaaaDoorOrPSortx15
set_option linter.unusedVariables false
set_option linter.unusedSimpArgs false
namespace Go.Proofs.YtegmcmndjnbkaaaDoor.PSort
open Go.RowKit Go.Proofs.YtegmcmndjnbkaaaDoorW.PrintWords Go.Proofs.YtegmcmndjnbkaaaDoorW.PrintLast Go.Proofs.YtegmcmndjnbkaaaDoorW.PrintMore
theorem ins_parts (xs : List S29) (x : S29) : xs.take (pos9 xs x) = xs.takeWhile (lt9 x) ∧ xs.drop (pos9 xs x) = xs.dropWhile (lt9 x) := by
  have h : xs.takeWhile (lt9 x) ++ xs.dropWhile (lt9 x) = xs := List.takeWhile_append_dropWhile
  unfold pos9
  constructor
  · conv => lhs; rw [← h]
    exact List.take_left' (by rw [h])
  · conv => lhs; rw [← h]
    exact List.drop_left' (by rw [h])
theorem ins_mem (xs : List S29) (x z : S29) : z ∈ ins9 xs x ↔ z = x ∨ z ∈ xs := by
  unfold ins9
  split
  · rename_i h
    constructor
    · exact Or.inr
    · rintro (rfl | h2)
      · exact List.mem_of_getElem? h
      · exact h2
  · have h : xs.take (pos9 xs x) ++ xs.drop (pos9 xs x) = xs := List.take_append_drop _ _
    have h2 : z ∈ xs ↔ z ∈ xs.take (pos9 xs x) ∨ z ∈ xs.drop (pos9 xs x) := by
      conv => lhs; rw [← h]
      exact List.mem_append
    rw [h2]
    simp only [List.mem_append, List.mem_cons]
    constructor
    · rintro (a | a | a)
      · exact .inr (.inl a)
      · exact .inl a
      · exact .inr (.inr a)
    · rintro (a | a | a)
      · exact .inr (.inl a)
      · exact .inl a
      · exact .inr (.inr a)
theorem ins_rise (xs : List S29) (x : S29) (hr : Rise xs) : Rise (ins9 xs x) := by
  unfold ins9
  split
  · exact hr
  · rename_i hne
    obtain ⟨e1, e2⟩ := ins_parts xs x
    have hx : xs.takeWhile (lt9 x) ++ xs.dropWhile (lt9 x) = xs := List.takeWhile_append_dropWhile
    have hlow : ∀ y, y ∈ xs.takeWhile (lt9 x) → cmp9 y x < 0 := fun y hy => by
      have := List.all_eq_true.1 (List.all_takeWhile (l := xs) (p := lt9 x)) y hy
      simpa [lt9] using this
    unfold Rise at hr
    rw [← hx, List.pairwise_append] at hr
    obtain ⟨h1, h2, h3⟩ := hr
    have hhigh : ∀ y, y ∈ xs.dropWhile (lt9 x) → cmp9 x y < 0 := by
      have hd : xs[pos9 xs x]? = (xs.dropWhile (lt9 x))[0]? := by rw [← e2, List.getElem?_drop, Nat.add_zero]
      cases hdw : xs.dropWhile (lt9 x) with
      | nil => intro y hy; simp at hy
      | cons z rest =>
        rw [hdw] at hd h2
        have hz : z ≠ x := fun e => hne (by rw [hd, e]; rfl)
        have hzn : ¬ cmp9 z x < 0 := by
          have h5 := List.head?_dropWhile_not (lt9 x) xs
          rw [hdw] at h5
          simpa [lt9] using h5
        have hxz : cmp9 x z < 0 := by
          have a1 := cmp9_ord.anti z x
          have a2 : cmp9 z x ≠ 0 := fun e => hz ((cmp9_ord.zero z x).1 e)
          omega
        intro y hy
        rcases List.mem_cons.1 hy with rfl | hy
        · exact hxz
        · exact cmp9_ord.strict _ _ _ hxz ((List.pairwise_cons.1 h2).1 y hy)
    rw [e1, e2]
    unfold Rise
    rw [List.pairwise_append]
    refine ⟨h1, List.pairwise_cons.2 ⟨hhigh, h2⟩, ?_⟩
    intro a ha b hb
    rcases List.mem_cons.1 hb with rfl | hb
    · exact hlow a ha
    · exact h3 a ha b hb
theorem refS_gen (l : List S29) : ∀ xs : List S29, Rise xs → Rise (l.foldl ins9 xs) ∧ ∀ z, z ∈ l.foldl ins9 xs ↔ z ∈ l ∨ z ∈ xs := by
  induction l with
  | nil => intro xs h; exact ⟨h, fun z => by simp⟩
  | cons x l ih =>
    intro xs h
    obtain ⟨h1, h2⟩ := ih (ins9 xs x) (ins_rise xs x h)
    refine ⟨h1, fun z => ?_⟩
    rw [List.foldl_cons, h2 z, ins_mem, List.mem_cons]
    constructor
    · rintro (a | a | a)
      · exact .inl (.inr a)
      · exact .inl (.inl a)
      · exact .inr a
    · rintro ((a | a) | a)
      · exact .inr (.inl a)
      · exact .inl a
      · exact .inr (.inr a)
theorem refS_eq (l : List S29) : refS l = sortL l := by
  obtain ⟨h1, h2⟩ := refS_gen l [] List.Pairwise.nil
  exact rise_unique _ _ h1 (sortL_rise l) (fun z => by rw [sortL_mem]; unfold refS at *; rw [h2 z]; simp)
theorem w64o {n : Int} (h0 : -5 ≤ n) (h1 : n ≤ 9223372036854775807) : wrap64 n = n := by unfold wrap64; omega
theorem to_l1 (x : List S29) (h0 : x.length < 1172812402961) : ∀ (m i k : Nat), i + m = x.length → 41 ≤ k → rhizomelaw02_TermOrders.l1 (k + m + 1) x x (i : Int) = some true := by
  intro m
  induction m with
  | zero =>
    intro i k hi hk
    simp only [rhizomelaw02_TermOrders.l1]
    rw [if_neg (by omega), known_k _ (by omega)]
    rfl
  | succ m ih =>
    intro i k hi hk
    have hn := ih (i + 1) k (by omega) hk
    rw [show k + (m + 1) + 1 = (k + m + 1) + 1 by omega]
    generalize k + m + 1 = q at hn ⊢
    have hw : wrap64 ((i : Int) + 1) = ((i + 1 : Nat) : Int) := by rw [w64o (by omega) (by omega)]; omega
    have c1 : ((i : Int) < (x.length : Int)) = True := eq_true (by omega)
    have c2 : (0 ≤ (i : Int)) = True := eq_true (by omega)
    simp only [rhizomelaw02_TermOrders.l1, hw, hn, beq_self_eq_true, Bool.not_true, Bool.or_self, Bool.or_false, Bool.false_eq_true, if_false, if_true, c1, c2]
theorem to_l0 (x s : List S29) (h0 : x.length < 1172812402961) (hs : s.length < 1172812402961) : ∀ (m i k : Nat), i + m = s.length → 50 + x.length ≤ k → rhizomelaw02_TermOrders.l0 (k + m + 1) x x s s (i : Int) = some true := by
  intro m
  induction m with
  | zero =>
    intro i k hi hk
    simp only [rhizomelaw02_TermOrders.l0]
    rw [if_neg (by omega)]
    obtain ⟨j, rfl⟩ : ∃ j, k = j + x.length + 1 := ⟨k - (x.length + 1), by omega⟩
    exact to_l1 x h0 x.length 0 j (by omega) (by omega)
  | succ m ih =>
    intro i k hi hk
    have hn := ih (i + 1) k (by omega) hk
    rw [show k + (m + 1) + 1 = (k + m + 1) + 1 by omega]
    generalize k + m + 1 = q at hn ⊢
    have hw : wrap64 ((i : Int) + 1) = ((i + 1 : Nat) : Int) := by rw [w64o (by omega) (by omega)]; omega
    have c1 : ((i : Int) < (s.length : Int)) = True := eq_true (by omega)
    have c2 : (0 ≤ (i : Int)) = True := eq_true (by omega)
    simp only [rhizomelaw02_TermOrders.l0, hw, hn, beq_self_eq_true, Bool.not_true, Bool.or_self, Bool.or_false, Bool.false_eq_true, if_false, if_true, c1, c2]
theorem termOrders_pure (n1 : Int) (t1 x1 : ByteArray) (n2 : Int) (t2 x2 : ByteArray) (n3 : Int) (t3 x3 : ByteArray) (m1 : Int) (s1 y1 : ByteArray) (m2 : Int) (s2 y2 : ByteArray) (m3 : Int) (s3 y3 : ByteArray) (l : List S29) :
    ∃ k, rhizomelaw02_TermOrders.f k n1 t1 x1 n2 t2 x2 n3 t3 x3 m1 s1 y1 m2 s2 y2 m3 s3 y3 l = some true := by
  obtain ⟨K, hK⟩ : ∃ K, K = 200 + 10 * l.length := ⟨_, rfl⟩
  refine ⟨K + 1, ?_⟩
  unfold rhizomelaw02_TermOrders.f
  obtain ⟨b, hb⟩ : ∃ b, rhizomeref02_Much.f l 200 = some b := ⟨_, rfl⟩
  rw [hb, Option.bind_some]
  cases b with
  | true => rw [if_pos rfl, known_k _ (by omega)]; rfl
  | false =>
    have hlen := much_len l 200 hb
    have hl := sortL_len l
    have hsort : ∀ l : List S29, l.length < 1172812402961 → term_Sort.f l = some (sortL l) := fun l h => by unfold term_Sort.f; rw [if_pos h]
    have href : rhizomeref02_Sort.f l = some (sortL l) := by unfold rhizomeref02_Sort.f; rw [if_pos (by omega), refS_eq]
    have hc3 := t3cmp_eq (K + 1) (by omega) ⟨⟨n1, t1, x1⟩, ⟨n2, t2, x2⟩, ⟨n3, t3, x3⟩⟩ ⟨⟨m1, s1, y1⟩, ⟨m2, s2, y2⟩, ⟨m3, s3, y3⟩⟩
    have hr3 := rcmp3_eq ⟨⟨n1, t1, x1⟩, ⟨n2, t2, x2⟩, ⟨n3, t3, x3⟩⟩ ⟨⟨m1, s1, y1⟩, ⟨m2, s2, y2⟩, ⟨m3, s3, y3⟩⟩
    have hless : term_Less.f (K + 1) n2 t2 x2 m2 s2 y2 = some (decide (cmpT (n2, t2, x2) (m2, s2, y2) < 0)) := by
      unfold term_Less.f
      rw [tcmp_eq _ (by omega)]
      rfl
    have hrless : rhizomeref02_Less.f n2 t2 x2 m2 s2 y2 = some (decide (cmpT (n2, t2, x2) (m2, s2, y2) < 0)) := by
      unfold rhizomeref02_Less.f
      rw [rcmp_eq]
      rfl
    simp only at hc3 hr3
    rw [if_neg (by simp), if_pos (by simp; omega), Option.bind_some, List.nil_append, hsort l (by omega), Option.bind_some, href, Option.bind_some, tcmp_eq _ (by omega), Option.bind_some, rcmp_eq, Option.bind_some, if_pos rfl, hless, Option.bind_some, hrless, Option.bind_some, if_neg (by simp), hc3, Option.bind_some, hr3, Option.bind_some, if_pos rfl]
    obtain ⟨j, rfl⟩ : ∃ j, K = j + (sortL l).length + 1 := ⟨K - ((sortL l).length + 1), by omega⟩
    simp only [rhizomelaw02_TermOrders.j0]
    rw [if_neg (by simp)]
    exact to_l0 l (sortL l) (by omega) (by omega) (sortL l).length 0 j (by omega) (by omega)
end Go.Proofs.YtegmcmndjnbkaaaDoor.PSort

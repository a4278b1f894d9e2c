import Derived.Test.YtegmcmndjnbkaaaDoorMePureMeans
set_option linter.unusedVariables false
set_option linter.unusedSimpArgs false
namespace Go.Proofs.YtegmcmndjnbkaaaDoor.PTerm
open Go.RowKit Go.Proofs.YtegmcmndjnbkaaaDoorW.PrintWords Go.Proofs.YtegmcmndjnbkaaaDoorW.PrintLast Go.Proofs.YtegmcmndjnbkaaaDoorW.PrintMore
theorem wneg {v : Int} (h : v = -1 ∨ v = 0 ∨ v = 1) : wrap64 (-v) = -v := w64n (by omega) (by omega)
section
variable (n1 : Int) (t1 x1 : ByteArray) (n2 : Int) (t2 x2 : ByteArray) (n3 : Int) (t3 x3 : ByteArray) (m1 : Int) (s1 y1 : ByteArray) (m2 : Int) (s2 y2 : ByteArray) (m3 : Int) (s3 y3 : ByteArray) (l1 : Int) (u1 z1 : ByteArray) (l2 : Int) (u2 z2 : ByteArray) (l3 : Int) (u3 z3 : ByteArray)
theorem means_j2 (k : Nat) (hk : 5 ≤ k) : rhizomelaw02_TermMeans.j2 (k + 1) false n1 t1 x1 n2 t2 x2 n3 t3 x3 m1 s1 y1 m2 s2 y2 m3 s3 y3 l1 u1 z1 l2 u2 z2 l3 u3 z3 = some true := by
  have hz := cmpT_ord.zero (n1, t1, x1) (m1, s1, y1)
  have ha := cmpT_ord.anti (n1, t1, x1) (m1, s1, y1)
  have htr := cmpT_ord.trans (n1, t1, x1) (m1, s1, y1) (l1, u1, z1)
  have hu := cmpT_unit (n1, t1, x1) (m1, s1, y1)
  simp only [rhizomelaw02_TermMeans.j2]
  rw [if_neg (by decide), tcmp_eq k hk, tcmp_eq k hk, tcmp_eq k hk, tcmp_eq k hk, tless_eq k hk]
  simp only [Option.bind_some, eqT]
  rw [if_pos (by rw [beq_iff_eq, Bool.eq_iff_iff]; simpa using hz), wneg hu, if_pos ha]
  by_cases c1 : cmpT (n1, t1, x1) (m1, s1, y1) > 0
  · rw [if_pos c1]; simp
  · rw [if_neg c1]
    by_cases c2 : cmpT (m1, s1, y1) (l1, u1, z1) > 0
    · rw [if_pos c2]; simp
    · rw [if_neg c2, if_pos (htr (by omega) (by omega))]; simp
theorem means_j1 (k : Nat) (hk : 6 ≤ k) : rhizomelaw02_TermMeans.j1 (k + 1) false n1 t1 x1 n2 t2 x2 n3 t3 x3 m1 s1 y1 m2 s2 y2 m3 s3 y3 l1 u1 z1 l2 u2 z2 l3 u3 z3 = some true := by
  obtain ⟨m, rfl⟩ : ∃ m, k = m + 1 := ⟨k - 1, by omega⟩
  have hz := cmp3_ord.zero ((n1, t1, x1), (n2, t2, x2), (n3, t3, x3)) ((m1, s1, y1), (m2, s2, y2), (m3, s3, y3))
  have ha := cmp3_ord.anti ((n1, t1, x1), (n2, t2, x2), (n3, t3, x3)) ((m1, s1, y1), (m2, s2, y2), (m3, s3, y3))
  have htr := cmp3_ord.trans ((n1, t1, x1), (n2, t2, x2), (n3, t3, x3)) ((m1, s1, y1), (m2, s2, y2), (m3, s3, y3)) ((l1, u1, z1), (l2, u2, z2), (l3, u3, z3))
  have hst := cmp3_ord.strict ((n1, t1, x1), (n2, t2, x2), (n3, t3, x3)) ((m1, s1, y1), (m2, s2, y2), (m3, s3, y3)) ((l1, u1, z1), (l2, u2, z2), (l3, u3, z3))
  have hu := cmp3_unit ((n1, t1, x1), (n2, t2, x2), (n3, t3, x3)) ((m1, s1, y1), (m2, s2, y2), (m3, s3, y3))
  have hj := means_j2 n1 t1 x1 n2 t2 x2 n3 t3 x3 m1 s1 y1 m2 s2 y2 m3 s3 y3 l1 u1 z1 l2 u2 z2 l3 u3 z3 m (by omega)
  simp only [rhizomelaw02_TermMeans.j1]
  rw [if_neg (by decide), t3cmp_eq (m + 1) (by omega), t3cmp_eq (m + 1) (by omega), t3cmp_eq (m + 1) (by omega), t3cmp_eq (m + 1) (by omega)]
  simp only [Option.bind_some, eq3]
  have hb : ∀ {a b : Bool}, a = b → ¬ (a != b) = true := fun h => by subst h; simp
  rw [if_neg (hb (by rw [Bool.eq_iff_iff]; simpa using hz)), wneg hu, if_pos ha, hj]
  generalize cmp3 ((n1, t1, x1), (n2, t2, x2), (n3, t3, x3)) ((m1, s1, y1), (m2, s2, y2), (m3, s3, y3)) = p at *
  generalize cmp3 ((m1, s1, y1), (m2, s2, y2), (m3, s3, y3)) ((l1, u1, z1), (l2, u2, z2), (l3, u3, z3)) = q at *
  generalize cmp3 ((n1, t1, x1), (n2, t2, x2), (n3, t3, x3)) ((l1, u1, z1), (l2, u2, z2), (l3, u3, z3)) = r at *
  have hd : p < 0 → q < 0 → decide (r ≥ 0) = false := fun a b => decide_eq_false (by have := hst a b; omega)
  by_cases c1 : p ≤ 0
  · by_cases c2 : q ≤ 0
    · have c3 := htr c1 c2
      rw [if_pos c1, if_pos c2, if_neg (by omega)]
      by_cases d1 : p < 0
      · by_cases d2 : q < 0
        · rw [if_pos d1, if_pos d2, hd d1 d2, hj]
        · rw [if_pos d1, if_neg d2]
      · rw [if_neg d1]
    · rw [if_pos c1, if_neg c2]
      by_cases d1 : p < 0
      · rw [if_pos d1, if_neg (by omega)]
      · rw [if_neg d1]
  · rw [if_neg c1, if_neg (by omega)]
theorem means_j0 (h1 : t1.size ≤ 1000000) (g1 : x1.size ≤ 1000000) (h2 : t2.size ≤ 1000000) (g2 : x2.size ≤ 1000000) (h3 : t3.size ≤ 1000000) (g3 : x3.size ≤ 1000000)
    (h4 : s1.size ≤ 1000000) (g4 : y1.size ≤ 1000000) (h5 : s2.size ≤ 1000000) (g5 : y2.size ≤ 1000000) (h6 : s3.size ≤ 1000000) (g6 : y3.size ≤ 1000000) :
    ∃ K, ∀ k, K ≤ k → rhizomelaw02_TermMeans.j0 k false n1 t1 x1 n2 t2 x2 n3 t3 x3 m1 s1 y1 m2 s2 y2 m3 s3 y3 l1 u1 z1 l2 u2 z2 l3 u3 z3 = some true := by
  obtain ⟨Ka, ka⟩ := tt_term n1 t1 x1 n2 t2 x2 n3 t3 x3 h1 g1 h2 g2 h3 g3
  obtain ⟨Kb, kb⟩ := tt_term m1 s1 y1 m2 s2 y2 m3 s3 y3 h4 g4 h5 g5 h6 g6
  refine ⟨Ka + Kb + 20, fun k hk => ?_⟩
  obtain ⟨m, rfl⟩ : ∃ m, k = m + 2 := ⟨k - 2, by omega⟩
  have hj := means_j1 n1 t1 x1 n2 t2 x2 n3 t3 x3 m1 s1 y1 m2 s2 y2 m3 s3 y3 l1 u1 z1 l2 u2 z2 l3 u3 z3 m (by omega)
  simp only [rhizomelaw02_TermMeans.j0, rhizomelaw02_num.f]
  rw [if_neg (by decide), ka (m + 1) (by omega), kb (m + 1) (by omega)]
  simp only [Option.bind_some, eq3]
  cases hf : follB n1 t1 x1 n2 t2 x2 n3 t3 x3 with
  | false => cases hg : follB m1 s1 y1 m2 s2 y2 m3 s3 y3 <;> (simp only [Bool.false_eq_true, if_false, if_true]; rw [if_neg (by decide +kernel)]; exact hj)
  | true =>
    cases hg : follB m1 s1 y1 m2 s2 y2 m3 s3 y3 with
    | false => simp only [Bool.false_eq_true, if_false, if_true]; rw [if_neg (by decide +kernel)]; exact hj
    | true =>
      simp only [if_true]
      rw [if_pos (by decide +kernel)]
      have e : ((tripleB n1 t1 x1 n2 t2 x2 n3 t3 x3).toList == (tripleB m1 s1 y1 m2 s2 y2 m3 s3 y3).toList) = decide ((((n1, t1, x1), (n2, t2, x2), (n3, t3, x3)) : Tm × Tm × Tm) = ((m1, s1, y1), (m2, s2, y2), (m3, s3, y3))) := by
        rw [eqb_iff, Bool.eq_iff_iff, decide_eq_true_eq, decide_eq_true_eq]
        constructor
        · intro q
          obtain ⟨⟨rfl, rfl, rfl⟩, ⟨rfl, rfl, rfl⟩, rfl, rfl, rfl⟩ := triple_inj hf hg q
          rfl
        · intro q
          simp only [Prod.mk.injEq] at q
          obtain ⟨⟨rfl, rfl, rfl⟩, ⟨rfl, rfl, rfl⟩, rfl, rfl, rfl⟩ := q
          rfl
      rw [e, bne_self_eq_false]
      exact hj
end
theorem much_small : ∀ (ts : List S26) (n : Int), 0 ≤ n → (muchGo ts n).isNone = false → ∀ t ∈ ts, t.f1.size ≤ 30000 ∧ t.f2.size ≤ 30000
  | [], _, _, _, t, ht => by cases ht
  | a :: ts, n, hn, h, t, ht => by
    have m1 : mn (a.f1.size : Int) 30001 = if (30001 : Int) < a.f1.size then 30001 else (a.f1.size : Int) := rfl
    have m2 : mn (a.f2.size : Int) 30001 = if (30001 : Int) < a.f2.size then 30001 else (a.f2.size : Int) := rfl
    simp only [muchGo] at h
    split at h
    · cases h
    · rename_i hle
      rw [m1, m2] at hle
      have h1 : a.f1.size ≤ 30000 ∧ a.f2.size ≤ 30000 ∧ 0 ≤ n + mn a.f1.size 30001 + mn a.f2.size 30001 := by
        rw [m1, m2]
        split at hle <;> split at hle <;> (repeat' split) <;> omega
      rcases List.mem_cons.1 ht with rfl | ht
      · exact ⟨h1.1, h1.2.1⟩
      · exact much_small ts _ h1.2.2 h t ht
theorem termMeans_pure (n1 : Int) (t1 x1 : ByteArray) (n2 : Int) (t2 x2 : ByteArray) (n3 : Int) (t3 x3 : ByteArray) (m1 : Int) (s1 y1 : ByteArray) (m2 : Int) (s2 y2 : ByteArray) (m3 : Int) (s3 y3 : ByteArray) (l1 : Int) (u1 z1 : ByteArray) (l2 : Int) (u2 z2 : ByteArray) (l3 : Int) (u3 z3 : ByteArray) :
    ∃ k, rhizomelaw02_TermMeans.f k n1 t1 x1 n2 t2 x2 n3 t3 x3 m1 s1 y1 m2 s2 y2 m3 s3 y3 l1 u1 z1 l2 u2 z2 l3 u3 z3 = some true := by
  obtain ⟨K0, k0⟩ := known_eq
  unfold rhizomelaw02_TermMeans.f rhizomeref02_Much.f
  simp only [Option.bind_some]
  cases hm : muchB [(⟨⟨n1, t1, x1⟩, ⟨n2, t2, x2⟩, ⟨n3, t3, x3⟩⟩ : S29), ⟨⟨m1, s1, y1⟩, ⟨m2, s2, y2⟩, ⟨m3, s3, y3⟩⟩, ⟨⟨l1, u1, z1⟩, ⟨l2, u2, z2⟩, ⟨l3, u3, z3⟩⟩] 3 with
  | true =>
    refine ⟨K0, ?_⟩
    rw [k0 K0 (Nat.le_refl _), Option.bind_some, if_pos rfl, if_pos rfl]
  | false =>
    unfold muchB at hm
    rw [Bool.or_eq_false_iff] at hm
    have hs := much_small _ _ (by omega) hm.1
    have q1 := hs ⟨n1, t1, x1⟩ (by simp [tms])
    have q2 := hs ⟨n2, t2, x2⟩ (by simp [tms])
    have q3 := hs ⟨n3, t3, x3⟩ (by simp [tms])
    have q4 := hs ⟨m1, s1, y1⟩ (by simp [tms])
    have q5 := hs ⟨m2, s2, y2⟩ (by simp [tms])
    have q6 := hs ⟨m3, s3, y3⟩ (by simp [tms])
    simp only at q1 q2 q3 q4 q5 q6
    obtain ⟨Ka, ka⟩ := tText_eq n1 t1 x1 (by omega) (by omega)
    obtain ⟨Kb, kb⟩ := tText_eq m1 s1 y1 (by omega) (by omega)
    obtain ⟨Kj, kj⟩ := means_j0 n1 t1 x1 n2 t2 x2 n3 t3 x3 m1 s1 y1 m2 s2 y2 m3 s3 y3 l1 u1 z1 l2 u2 z2 l3 u3 z3 (by omega) (by omega) (by omega) (by omega) (by omega) (by omega) (by omega) (by omega) (by omega) (by omega) (by omega) (by omega)
    refine ⟨K0 + Ka + Kb + Kj, ?_⟩
    have hj := kj (K0 + Ka + Kb + Kj) (by omega)
    rw [k0 _ (by omega), Option.bind_some, if_pos rfl, if_neg (by decide), ka _ (by omega), kb _ (by omega)]
    simp only [Option.bind_some, rhizomelaw02_num.f, eqT]
    have za := text_size n1 t1 x1
    have zb := text_size m1 s1 y1
    cases hf : mayB n1 t1 x1 with
    | false => cases hg : mayB m1 s1 y1 <;> (simp only [Bool.false_eq_true, if_false, if_true]; rw [if_neg (by decide +kernel)]; exact hj)
    | true =>
      cases hg : mayB m1 s1 y1 with
      | false => simp only [Bool.false_eq_true, if_false, if_true]; rw [if_neg (by decide +kernel)]; exact hj
      | true =>
        simp only [if_true]
        rw [if_pos (by decide +kernel), if_pos (by omega), if_pos (by omega), begins_text hf hg, Option.bind_some, bne_self_eq_false, if_neg (by decide), text_eqb hf hg, bne_self_eq_false]
        exact hj
end Go.Proofs.YtegmcmndjnbkaaaDoor.PTerm

import Derived.Test.YtjnhdamilbcmpaaDoorCuTriA
set_option linter.unusedVariables false
set_option linter.unusedSimpArgs false
namespace Go.Proofs.YtjnhdamilbcmpaaDoor.PTm
open Go.RowKit Go.Proofs.YtjnhdamilbcmpaaDoorW.PrintWords Go.Proofs.YtjnhdamilbcmpaaDoorW.PrintLast Go.Proofs.YtjnhdamilbcmpaaDoorW.PrintMore
theorem read_head {ls : List Sm} {p : Te × Nat} (h : readL ls = some p) : ∃ q r, ls = q :: r ∧ ¬ (q.f0 = 8 ∧ q.f1 = caret) := by
 match ls with
 | [] => cases h
 | q :: r =>
  refine ⟨q, r, rfl, fun g => ?_⟩
  rw [readL_cons] at h
  rw [g.1, if_neg (by decide), if_neg (by decide), if_neg (by decide)] at h
  cases h
theorem read_app {ls : List Sm} (Q : List Sm) {t : Te} {c : Nat} (h : readL ls = some (t, c)) {q0 : Sm} {l' : List Sm} (hd : ls.drop c = q0 :: l') (hq : ¬ (q0.f0 = 8 ∧ q0.f1 = caret)) : readL (ls ++ Q) = some (t, c) := by
 match ls with
 | [] => cases h
 | q :: r =>
  rw [List.cons_append]
  rw [readL_cons] at h ⊢
  by_cases c2 : q.f0 = 2
  ·rw [if_pos c2] at h ⊢
   exact h
  rw [if_neg c2] at h ⊢
  by_cases c3 : q.f0 = 3
  ·rw [if_pos c3] at h ⊢
   have he : extL (r ++ Q) = extL r := by
    match r with
    | [] =>
     exfalso
     split at h
     ·cases h
      cases hd
     ·cases h
    | [q1] =>
     by_cases c4 : q1.f0 = 4
     ·exfalso
      have e : extL [q1] = (4, q1.f1, 2) := by rw [ext1, if_pos c4]
      rw [e] at h
      split at h
      ·cases h
       cases hd
      ·cases h
     ·have e : extL [q1] = (3, nob, 1) := by rw [ext1, if_neg c4]
      rw [e] at h
      have hq1 : q1 = q0 := by
       split at h
       ·cases h
        exact (List.cons.inj hd).1
       ·cases h
      subst hq1
      rw [e]
      cases Q with
      | nil => exact e
      | cons q2 Q =>
       show extL (q1 :: q2 :: Q) = _
       rw [ext2]
       rw [if_neg c4, if_neg (fun g => hq ⟨g.1, g.2.1⟩)]
    | q1 :: q2 :: r' => rfl
   rw [he]
   exact h
  rw [if_neg c3] at h ⊢
  exact h
theorem rd3_app {ls : List Sm} (Q : List Sm) {x y z : Te} {q : Sm} {l4 : List Sm} (h : rd3 ls = .inl (x, y, z, q :: l4)) (hq : dotS q) : rd3 (ls ++ Q) = .inl (x, y, z, q :: (l4 ++ Q)) := by
 unfold rd3 at h ⊢
 cases h1 : readL ls with
 | none => rw [h1] at h; cases h
 | some p1 =>
  obtain ⟨x1, c1⟩ := p1
  rw [h1] at h
  dsimp only at h
  cases h2 : readL (ls.drop c1) with
  | none => rw [h2] at h; cases h
  | some p2 =>
   obtain ⟨x2, c2⟩ := p2
   rw [h2] at h
   dsimp only at h
   cases h3 : readL ((ls.drop c1).drop c2) with
   | none => rw [h3] at h; cases h
   | some p3 =>
    obtain ⟨x3, c3⟩ := p3
    rw [h3] at h
    dsimp only at h
    have h' := Sum.inl.inj h
    simp only [Prod.mk.injEq] at h'
    obtain ⟨rfl, rfl, rfl, h4⟩ := h'
    obtain ⟨q1, l1, d1, n1⟩ := read_head h2
    obtain ⟨q2, l2, d2, n2⟩ := read_head h3
    have n3 : ¬ (q.f0 = 8 ∧ q.f1 = caret) := fun g => absurd (hq.2.symm.trans g.2) (by decide)
    have b1 := (read_le h1).2.1
    have b2 := (read_le h2).2.1
    have b3 := (read_le h3).2.1
    rw [read_app Q h1 d1 n1]
    dsimp only
    rw [List.drop_append_of_le_length b1, read_app Q h2 d2 n2]
    dsimp only
    rw [List.drop_append_of_le_length b2, read_app Q h3 h4 n3]
    dsimp only
    rw [List.drop_append_of_le_length b3, h4, List.cons_append]
theorem parse_fuel : ∀ (d D : Nat) (ls : List Sm) (out : List Tr), ls.length < d → d ≤ D → parseL D ls out = parseL d ls out
 | 0, D, ls, out, h, _ => absurd h (Nat.not_lt_zero _)
 | d + 1, D, ls, out, h, hD => by
  obtain ⟨D, rfl⟩ : ∃ q, D = q + 1 := ⟨D - 1, by omega⟩
  cases ls with
  | nil => rfl
  | cons q0 r0 =>
   rw [parseL, parseL]
   cases h3 : rd3 (q0 :: r0) with
   | inr rem => rfl
   | inl p =>
    obtain ⟨x, y, z, l3⟩ := p
    obtain ⟨n, n1, n2, rfl, _⟩ := rd3_le h3
    dsimp only
    by_cases ca : addB ⟨x, y, z⟩ = true
    ·rw [if_pos ca, if_pos ca]
     cases hl : (q0 :: r0).drop n with
     | nil => rfl
     | cons q l4 =>
      have hlen : (q :: l4).length = (q0 :: r0).length - n := by rw [← hl, List.length_drop]
      rw [List.length_cons] at hlen
      dsimp only
      by_cases cd : dotS q
      ·rw [if_pos cd, if_pos cd]
       exact parse_fuel d D l4 _ (by omega) (by omega)
      ·rw [if_neg cd, if_neg cd]
    ·rw [if_neg ca, if_neg ca]
theorem parse_app (Q : List Sm) : ∀ (d : Nat) (P : List Sm) (out o : List Tr), parseL d P out = .inl o → P.length < d → ∀ D, (P ++ Q).length < D → parseL D (P ++ Q) out = parseL (Q.length + 1) Q o
 | 0, P, out, o, _, h, _, _ => absurd h (Nat.not_lt_zero _)
 | d + 1, [], out, o, h, _, D, hD => by
  rw [parseL] at h
  cases h
  exact parse_fuel (Q.length + 1) D Q out (Nat.lt_succ_self _) hD
 | d + 1, q0 :: r0, out, o, h, hP, D, hD => by
  obtain ⟨D, rfl⟩ : ∃ q, D = q + 1 := ⟨D - 1, by omega⟩
  rw [parseL] at h
  rw [List.cons_append, parseL]
  cases h3 : rd3 (q0 :: r0) with
  | inr rem => rw [h3] at h; cases h
  | inl p =>
   obtain ⟨x, y, z, l3⟩ := p
   obtain ⟨n, n1, n2, hl, _⟩ := rd3_le h3
   rw [h3] at h
   dsimp only at h
   by_cases ca : addB ⟨x, y, z⟩ = true
   ·rw [if_pos ca] at h
    cases l3 with
    | nil => cases h
    | cons q l4 =>
     dsimp only at h
     have hlen : (q :: l4).length = (q0 :: r0).length - n := by rw [hl, List.length_drop]
     rw [List.length_cons] at hlen
     by_cases cd : dotS q
     ·rw [if_pos cd] at h
      have e := rd3_app Q h3 cd
      rw [List.cons_append] at e
      rw [e]
      dsimp only
      rw [if_pos ca, if_pos cd]
      refine parse_app Q d l4 _ o h (by omega) D ?_
      rw [List.length_append] at hD ⊢
      omega
     ·rw [if_neg cd] at h
      cases h
   ·rw [if_neg ca] at h
    cases h
end Go.Proofs.YtjnhdamilbcmpaaDoor.PTm

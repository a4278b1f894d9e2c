import Derived.Test.YtjnhdamilbcmpaaDoorMeTriD
set_option linter.unusedVariables false
set_option linter.unusedSimpArgs false
namespace Go.Proofs.YtjnhdamilbcmpaaDoor.PTm
open Go.RowKit Go.Proofs.YtjnhdamilbcmpaaDoorW.PrintWords Go.Proofs.YtjnhdamilbcmpaaDoorW.PrintLast Go.Proofs.YtjnhdamilbcmpaaDoorW.PrintMore
theorem prB_two (a b : ByteArray) (ha : a.size ≤ 3000) (x : List Tr) (p : Int) (h : prB a = (x, p, 0)) :
  prB (a ++ (⟨#[10]⟩ : ByteArray) ++ b) = if (prB b).2.2 = 0 then (x ++ (prB b).1, 0, 0) else ([], (prB b).2.1 + (a.size : Int) + 1, (prB b).2.2) := by
 obtain ⟨_, _, _, _, c, hp⟩ := parse_ok ha h
 have hall : allB a = ((allB a).1, 0, 0) := by
  have : allB a = ((allB a).1, (allB a).2.1, (allB a).2.2) := rfl
  rw [this, c]
  congr 2
  unfold allB at c ⊢
  split at c
  ·exact absurd c (by show ¬ (4 : Int) = 0; decide)
  ·rename_i c1
   rw [if_neg c1]
   split at c
   ·rfl
   ·exact absurd c (by show ¬ (4 : Int) = 0; decide)
 have h2 := allB_two a b _ hall
 by_cases cb : (allB b).2.2 = 0
 ·rw [if_pos cb] at h2
  unfold prB
  rw [h2]
  dsimp only
  rw [if_pos rfl, if_pos cb]
  rw [parse_app _ _ _ [] x hp (Nat.lt_succ_self _) _ (Nat.lt_succ_self _), List.length_map, parse_sh]
  have hx : ∀ (d : Nat) (ls : List Sm) (out : List Tr), parseL d ls out = match parseL d ls [] with | .inl o => .inl (out ++ o) | .inr rem => .inr rem := by
   intro d
   induction d with
   | zero => intro ls out; rw [parseL, parseL]; exact (congrArg Sum.inl (List.append_nil out)).symm
   | succ d ih =>
    intro ls out
    cases ls with
    | nil => rw [parseL, parseL]; exact (congrArg Sum.inl (List.append_nil out)).symm
    | cons q0 r0 =>
     rw [parseL, parseL]
     cases rd3 (q0 :: r0) with
     | inr rem => rfl
     | inl t =>
      obtain ⟨u, v, w, l3⟩ := t
      dsimp only
      by_cases ca : addB ⟨u, v, w⟩ = true
      ·rw [if_pos ca, if_pos ca]
       cases l3 with
       | nil => rfl
       | cons q l4 =>
        dsimp only
        by_cases cd : dotS q
        ·rw [if_pos cd, if_pos cd, ih l4 (out ++ _), ih l4 ([] ++ _)]
         cases parseL d l4 [] with
         | inl o => dsimp only; rw [List.append_assoc, List.nil_append]
         | inr rem => rfl
        ·rw [if_neg cd, if_neg cd]
      ·rw [if_neg ca, if_neg ca]
  rw [hx _ _ x]
  cases parseL ((allB b).1.length + 1) (allB b).1 [] with
  | inl o => rfl
  | inr rem =>
   have e : ¬ (prAns b (Sum.inr rem)).2.2 = 0 := by show ¬ (4 : Int) = 0; decide
   dsimp only
   rw [if_neg e]
   show (([] : List Tr), ntriples_Parse.pl (a ++ (⟨#[10]⟩ : ByteArray) ++ b) (rem.map (sh (a.size + 1))), (4 : Int)) = ([], ntriples_Parse.pl b rem + (a.size : Int) + 1, 4)
   rw [pl_sh]
 ·rw [if_neg cb] at h2
  have e4 := allB_err4 b cb
  unfold prB
  rw [h2]
  dsimp only
  rw [if_neg (by decide), if_neg cb, if_neg (by dsimp only; exact cb), e4]
theorem means_j2 (a b : ByteArray) (ha : a.size ≤ 3000) (hb : b.size ≤ 3000) (x : List Tr) (p : Int) (h : prB a = (x, p, 0)) (k : Nat) (hk : 5300000 ≤ k) (hpl : 0 ≤ (prB b).2.1 ∧ (prB b).2.1 ≤ 1000000) : rhizomelaw05_TripleMeans.j2 (k + 1) a b x false = some true := by
 obtain ⟨_, _, hx, _, _, _⟩ := parse_ok ha h
 have h2 := prB_two a b ha x p h
 rw [rhizomelaw05_TripleMeans.j2, if_neg Bool.false_ne_true, if_pos (by omega), if_pos (by rw [ByteArray.size_append, show (⟨#[10]⟩ : ByteArray).size = 1 from rfl]; omega)]
 rw [parse_B _ (by rw [size_two]; omega) k hk, Option.bind_some, parse_B b (by omega) k hk, Option.bind_some, num_eq, Option.bind_some]
 by_cases c : (prB b).2.2 = 0
 ·rw [if_pos c] at h2 ⊢
  have hb2 : prB b = ((prB b).1, (prB b).2.1, 0) := by
   have : prB b = ((prB b).1, (prB b).2.1, (prB b).2.2) := rfl
   rw [this, c]
  obtain ⟨_, _, hy, _, _, _⟩ := parse_ok hb hb2
  rw [h2, num_eq, Option.bind_some]
  dsimp only
  rw [if_pos rfl, if_pos (by rw [List.length_nil]; omega), Option.bind_some, List.nil_append, if_pos (by omega), same_self _ (by rw [List.length_append]; omega) k (by rw [List.length_append]; omega)]
  rfl
 ·rw [if_neg c] at h2 ⊢
  rw [h2]
  simp only [num_eq, Option.bind_some]
  have e1 : wrap64 ((prB b).2.1 + (a.size : Int)) = (prB b).2.1 + (a.size : Int) := w64n (by omega) (by omega)
  rw [if_pos trivial, e1, w64n (by omega) (by omega), if_pos rfl]
  rfl
theorem means_j1 (a b : ByteArray) (ha : a.size ≤ 3000) (hb : b.size ≤ 3000) (k : Nat) (hk : 5300000 ≤ k) (hpl : 0 ≤ (prB b).2.1 ∧ (prB b).2.1 ≤ 1000000) : rhizomelaw05_TripleMeans.j1 (k + 1 + 1) a b = some true := by
 rw [rhizomelaw05_TripleMeans.j1, parse_B a (by omega) (k + 1) (by omega), Option.bind_some, num_eq, Option.bind_some]
 by_cases c : (prB a).2.2 = 0
 ·have h : prB a = ((prB a).1, (prB a).2.1, 0) := by
   have : prB a = ((prB a).1, (prB a).2.1, (prB a).2.2) := rfl
   rw [this, c]
  obtain ⟨h1, h2, h3, h4, _, _⟩ := parse_ok ha h
  rw [if_pos c, text_f _ (by omega) h2 (by omega) (k + 1) (by omega), Option.bind_some, if_pos ((okL_iff _).2 h1)]
  dsimp only
  rw [parse_B _ h4 (k + 1) (by omega), Option.bind_some, num_eq, Option.bind_some, num_eq, Option.bind_some, parse_doc _ h2 h1]
  dsimp only
  rw [if_pos (by decide +kernel), same_self _ (by omega) (k + 1) (by omega), Option.bind_some]
  exact means_j2 a b ha hb _ _ h k hk hpl
 ·rw [if_neg c]
theorem means_j0 (l : List Tr) (a b : ByteArray) (hl : l.length ≤ 60) (hz : (l.map szT).sum ≤ 30000) (ha : a.size ≤ 3000) (hb : b.size ≤ 3000) (k : Nat) (hk : 5300000 ≤ k) (hpl : 0 ≤ (prB b).2.1 ∧ (prB b).2.1 ≤ 1000000) : rhizomelaw05_TripleMeans.j0 (k + 1 + 1 + 1) l a b false = some true := by
 have hsz := doc_size l
 have hsm := small_of hz
 rw [rhizomelaw05_TripleMeans.j0, if_neg Bool.false_ne_true, text_f l (by omega) hsm (by omega) (k + 1 + 1) (by omega), Option.bind_some]
 by_cases c : okL l = true
 ·rw [if_pos c, num_eq, Option.bind_some]
  dsimp only
  rw [if_pos rfl, parse_B _ (by omega) (k + 1 + 1) (by omega), Option.bind_some, parse_doc l hsm ((okL_iff l).1 c), num_eq, Option.bind_some]
  dsimp only
  rw [if_pos rfl, if_pos rfl, same_self l (by omega) (k + 1 + 1) (by omega), Option.bind_some, if_pos rfl]
  exact means_j1 a b ha hb k hk hpl
 ·rw [if_neg c, num_eq, Option.bind_some]
  dsimp only
  rw [if_neg (by decide)]
  exact means_j1 a b ha hb k hk hpl
theorem lexN_at (n : Nat) : ∀ (k : Nat) (r : List Int), r.length ≤ k → r.length ≤ n → (∀ q, (lexN n r).2 = some q → q ≤ n) ∧ ∀ x ∈ (lexN n r).1, 0 ≤ x.f3 ∧ x.f3 ≤ (n : Int)
 | 0, r, hk, hn => by
  obtain rfl := List.eq_nil_of_length_eq_zero (Nat.le_zero.1 hk)
  exact ⟨fun q h => (by cases h), fun x h => (by cases h)⟩
 | k + 1, r, hk, hn => by
  rw [lexN_step]
  have h1 := skip_le r false
  cases hs : skipL false r with
  | nil => exact ⟨fun q h => (by cases h), fun x h => (by cases h)⟩
  | cons c t =>
   rw [hs] at h1
   rw [List.length_cons] at h1
   dsimp only
   cases ht : tokL (c :: t) with
   | none => exact ⟨fun q h => (by cases h; omega), fun x h => (by cases h)⟩
   | some y =>
    have h2 := tok_lt (y := y.1) (r' := y.2) ht
    rw [List.length_cons] at h2
    obtain ⟨i1, i2⟩ := lexN_at n k y.2 (by omega) (by omega)
    refine ⟨i1, fun x hx => ?_⟩
    rcases List.mem_cons.1 hx with rfl | hx
    ·dsimp only
     omega
    ·exact i2 x hx
theorem rem_in : ∀ (d : Nat) (ls : List Sm) (out : List Tr) (rem : List Sm), parseL d ls out = .inr rem → ∀ x ∈ rem, x ∈ ls
 | 0, ls, out, rem, h => by cases h
 | d + 1, [], out, rem, h => by rw [parseL] at h; cases h
 | d + 1, q0 :: r0, out, rem, h => by
  rw [parseL] at h
  cases h3 : rd3 (q0 :: r0) with
  | inr rem' =>
   rw [h3] at h
   cases h
   unfold rd3 at h3
   intro x hx
   cases h1 : readL (q0 :: r0) with
   | none => rw [h1] at h3; cases h3; exact hx
   | some p1 =>
    obtain ⟨x1, c1⟩ := p1
    rw [h1] at h3
    dsimp only at h3
    cases h2 : readL ((q0 :: r0).drop c1) with
    | none => rw [h2] at h3; cases h3; exact List.mem_of_mem_drop hx
    | some p2 =>
     obtain ⟨x2, c2⟩ := p2
     rw [h2] at h3
     dsimp only at h3
     cases h4 : readL (((q0 :: r0).drop c1).drop c2) with
     | none => rw [h4] at h3; cases h3; exact List.mem_of_mem_drop (List.mem_of_mem_drop hx)
     | some p3 => rw [h4] at h3; cases h3
  | inl p =>
   obtain ⟨x, y, z, l3⟩ := p
   obtain ⟨n, n1, n2, hl, _⟩ := rd3_le h3
   rw [h3] at h
   dsimp only at h
   by_cases ca : addB ⟨x, y, z⟩ = true
   ·rw [if_pos ca] at h
    cases l3 with
    | nil => cases h; intro x hx; cases hx
    | cons q l4 =>
     dsimp only at h
     by_cases cd : dotS q
     ·rw [if_pos cd] at h
      intro u hu
      have := rem_in d l4 _ rem h u hu
      exact List.mem_of_mem_drop (hl ▸ List.mem_cons_of_mem _ this)
     ·rw [if_neg cd] at h
      cases h
      intro u hu
      exact List.mem_of_mem_drop (hl ▸ hu)
   ·rw [if_neg ca] at h
    cases h
    exact fun u hu => hu
theorem prB_place (s : ByteArray) (hs : s.size ≤ 200000) : 0 ≤ (prB s).2.1 ∧ (prB s).2.1 ≤ 1000000 := by
 have hst := (stop_le s s.size 0 (Nat.zero_le _)).2
 obtain ⟨l1, l2⟩ := lexN_at s.size (bys s).length (bys s) (Nat.le_refl _) (by rw [bys_length]; exact Nat.le_refl _)
 have hA : (0 ≤ (allB s).2.1 ∧ (allB s).2.1 ≤ 1000000) ∧ ∀ x ∈ (allB s).1, 0 ≤ x.f3 ∧ x.f3 ≤ (s.size : Int) := by
  unfold allB stp
  by_cases c : stop s s.size 0 < s.size
  ·rw [if_pos c]
   exact ⟨⟨by show (0 : Int) ≤ ((stop s s.size 0 : Nat) : Int); omega, by show ((stop s s.size 0 : Nat) : Int) ≤ 1000000; omega⟩, fun x h => by cases h⟩
  ·rw [if_neg c]
   cases hq : (lexN s.size (bys s)).2 with
   | none => exact ⟨⟨by show (0 : Int) ≤ 0; decide, by show (0 : Int) ≤ 1000000; decide⟩, l2⟩
   | some q =>
    have := l1 q hq
    exact ⟨⟨by show (0 : Int) ≤ (q : Int); omega, by show (q : Int) ≤ 1000000; omega⟩, fun x h => by cases h⟩
 unfold prB
 by_cases c : (allB s).2.2 = 0
 ·rw [if_pos c]
  cases hp : parseL ((allB s).1.length + 1) (allB s).1 [] with
  | inl o => exact ⟨by show (0 : Int) ≤ 0; decide, by show (0 : Int) ≤ 1000000; decide⟩
  | inr rem =>
   have hin := rem_in _ _ _ _ hp
   show 0 ≤ ntriples_Parse.pl s rem ∧ ntriples_Parse.pl s rem ≤ 1000000
   unfold ntriples_Parse.pl
   cases rem with
   | nil =>
    rw [if_pos (show ([] : List Sm).length = 0 from rfl)]
    omega
   | cons q r =>
    rw [if_neg (by simp), rd0]
    have := hA.2 q (hin q (List.mem_cons_self ..))
    omega
 ·rw [if_neg c]
  exact hA.1
theorem tripleMeans_pure (l : List Tr) (a b : ByteArray) : ∃ k, rhizomelaw05_TripleMeans.f k l a b = some true := by
 refine ⟨5300000 + 1 + 1 + 1, ?_⟩
 have hj : rhizomelaw05_TripleMeans.j0 (5300000 + 1 + 1 + 1) l a b true = some true := by
  rw [rhizomelaw05_TripleMeans.j0, if_pos rfl]
 unfold rhizomelaw05_TripleMeans.f
 rw [known_ge _ (by decide), Option.bind_some, if_pos rfl]
 cases hM : rhizomeref02_Much.f l 60 with
 | none => unfold rhizomeref02_Much.f at hM; cases hM
 | some m =>
  rw [Option.bind_some]
  cases m with
  | true => rw [if_pos rfl]; exact hj
  | false =>
   obtain ⟨m1, m2⟩ := much_sum l hM
   rw [if_neg Bool.false_ne_true]
   by_cases c1 : (a.size : Int) > 3000
   ·rw [if_pos c1]
    exact hj
   rw [if_neg c1]
   by_cases c2 : (b.size : Int) > 3000
   ·rw [decide_eq_true c2]
    exact hj
   ·rw [decide_eq_false c2]
    exact means_j0 l a b m1 m2 (by omega) (by omega) 5300000 (Nat.le_refl _) (prB_place b (by omega))
end Go.Proofs.YtjnhdamilbcmpaaDoor.PTm

import Derived.Test.YtpbphelaeleikaaDoorMeLexI
import Derived.Test.YtpbphelaeleikaaDoorMePMeanx0
import Derived.Test.YtpbphelaeleikaaDoorMePMeanx1
import Derived.Test.YtpbphelaeleikaaDoorMePMeanx2
import Derived.Test.YtpbphelaeleikaaDoorMePMeanx3
import Derived.Test.YtpbphelaeleikaaDoorMePMeanx4
import Derived.Test.YtpbphelaeleikaaDoorMePMeanx5
import Derived.Test.YtpbphelaeleikaaDoorMePMeanx6
import Derived.Test.YtpbphelaeleikaaDoorMePMeanx7
import Derived.Test.YtpbphelaeleikaaDoorMePMeanx8
import Derived.Test.YtpbphelaeleikaaDoorMePMeanx9
import Derived.Test.YtpbphelaeleikaaDoorMePMeanx10
import Derived.Test.YtpbphelaeleikaaDoorMePMeanx11
import Derived.Test.YtpbphelaeleikaaDoorMePMeanx12
import Derived.Test.YtpbphelaeleikaaDoorMePMeanx13
import Derived.Test.YtpbphelaeleikaaDoorMePMeanx14
import Derived.Test.YtpbphelaeleikaaDoorMePMeanx15
import Derived.Test.YtpbphelaeleikaaDoorMePMeanx16
import Derived.Test.YtpbphelaeleikaaDoorMePMeanx17
import Derived.Test.YtpbphelaeleikaaDoorMePMeanx18
import Derived.Test.YtpbphelaeleikaaDoorMePMeanx19
import Derived.Test.YtpbphelaeleikaaDoorMePMeanx20
import Derived.Test.YtpbphelaeleikaaDoorMePMeanx21
set_option linter.unusedVariables false
set_option linter.unusedSimpArgs false
namespace Go.Proofs.YtpbphelaeleikaaDoor.PMean
open Go.RowKit Go.Proofs.YtpbphelaeleikaaDoorW.PrintWords Go.Proofs.YtpbphelaeleikaaDoorW.PrintLast Go.Proofs.YtpbphelaeleikaaDoorW.PrintMore
theorem all_small (n : Nat) : ∀ (k : Nat) (r : List Int), (allL n k r).1.length ≤ k ∧ ∀ x ∈ (allL n k r).1, 0 ≤ x.f3 ∧ x.f3 ≤ (n : Int)
 | 0, r => ⟨Nat.le_refl _, fun x h => by cases h⟩
 | k + 1, r => by
  rw [allL_step]
  cases hs : skipL false r with
  | nil => exact ⟨Nat.zero_le _, fun x h => by cases h⟩
  | cons c t =>
   dsimp only
   cases ht : tokL (c :: t) with
   | none => exact ⟨Nat.zero_le _, fun x h => by cases h⟩
   | some y =>
    obtain ⟨h1, h2⟩ := all_small n k y.2
    dsimp only
    refine ⟨by rw [List.length_cons]; omega, fun x h => ?_⟩
    rcases List.mem_cons.1 h with rfl | h
    ·dsimp only
     omega
    ·exact h2 x h
theorem num_eq (e : Int) : rhizomelaw04_num.f e = some e := rfl
theorem rd_at (P Q : List S38) (q : S38) : rd_T38 (P ++ q :: Q) ((P.length : Nat) : Int) = q := by
 unfold rd_T38
 simp
theorem same_loop (l : List S38) (hl : l.length ≤ 1000000000) : ∀ (d i k : Nat), l.length - i = d → i ≤ l.length → d + 1 ≤ k → rhizomelaw04_same.l0 k l l ((i : Nat) : Int) = some true
 | 0, i, k, hd, hi, hk => by
  obtain ⟨k, rfl⟩ : ∃ q, k = q + 1 := ⟨k - 1, by omega⟩
  rw [rhizomelaw04_same.l0, if_neg (by omega)]
 | d + 1, i, k, hd, hi, hk => by
  obtain ⟨k, rfl⟩ : ∃ q, k = q + 1 := ⟨k - 1, by omega⟩
  rw [rhizomelaw04_same.l0, if_pos (by omega), if_pos (by omega), if_pos (by omega), if_neg (by simp), w1_1 (by omega)]
  exact same_loop l hl d (i + 1) k (by omega) (by omega) (by omega)
theorem same_self (l : List S38) (hl : l.length ≤ 1000000000) (k : Nat) (hk : l.length + 1 ≤ k) : rhizomelaw04_same.f k l l = some true := by
 unfold rhizomelaw04_same.f
 rw [if_pos rfl]
 exact same_loop l hl l.length 0 k rfl (Nat.zero_le _) hk
theorem two_loop (a b : ByteArray) (xs : List S38) (ha : a.size ≤ 3000) : ∀ (Q P : List S38) (k : Nat), (P ++ Q).length ≤ 1000000 → (∀ x ∈ Q, 0 ≤ x.f3 ∧ x.f3 ≤ 3000) →
  rhizomelaw04_LexMeans.l0 (Q.length + k) a b xs (P.map (sh (a.size + 1)) ++ Q) ((P.length : Nat) : Int) = rhizomelaw04_LexMeans.l0 k a b xs ((P ++ Q).map (sh (a.size + 1))) (((P ++ Q).length : Nat) : Int)
 | [], P, k, hl, hq => by
  rw [List.append_nil, List.append_nil, List.length_nil, Nat.zero_add]
 | q :: Q, P, k, hl, hq => by
  have hl2 : (P ++ q :: Q).length = P.length + (Q.length + 1) := by rw [List.length_append, List.length_cons]
  have ih := two_loop a b xs ha Q (P ++ [q]) k (by rw [List.append_assoc]; exact hl) (fun x hx => hq x (List.mem_cons_of_mem _ hx))
  obtain ⟨h1, h2⟩ := hq q List.mem_cons_self
  have hr := rd_at (P.map (sh (a.size + 1))) Q q
  rw [List.length_map] at hr
  have hset : (P.map (sh (a.size + 1)) ++ q :: Q).set P.length (sh (a.size + 1) q) = (P ++ [q]).map (sh (a.size + 1)) ++ Q := by
   rw [List.set_append_right _ _ (by rw [List.length_map]; exact Nat.le_refl _), List.length_map, Nat.sub_self, List.set_cons_zero, List.map_append, List.append_assoc]
   rfl
  have hsh : (⟨q.f0, q.f1, (⟨q.f2.f0, q.f2.f1, q.f2.f2⟩ : S31), wrap64 ((wrap64 (q.f3 + (a.size : Int))) + 1)⟩ : S38) = sh (a.size + 1) q := by
   rw [w64n (n := q.f3 + (a.size : Int)) (by omega) (by omega), w64n (by omega) (by omega)]
   unfold sh
   rw [show q.f3 + (a.size : Int) + 1 = q.f3 + ((a.size + 1 : Nat) : Int) by omega]
  rw [List.append_assoc] at ih
  rw [show (q :: Q).length + k = (Q.length + k) + 1 by rw [List.length_cons]; omega, rhizomelaw04_LexMeans.l0, if_pos (by rw [List.length_append, List.length_map, List.length_cons]; omega), if_pos (by omega), hr, hsh, Int.toNat_natCast, hset, w1_1 (by omega)]
  rw [List.length_append] at ih
  exact ih
theorem two_pure (a b : ByteArray) (ha : a.size ≤ 3000) (hb : b.size ≤ 3000) (k : Nat) (hk : 20000 ≤ k) : rhizomelaw04_LexMeans.j1 k a b = some true := by
 obtain ⟨k, rfl⟩ : ∃ q, k = q + 1 := ⟨k - 1, by omega⟩
 rw [rhizomelaw04_LexMeans.j1, all_any a (by omega), Option.bind_some, all_any b (by omega), Option.bind_some, num_eq, Option.bind_some, num_eq, Option.bind_some]
 have bad : ∀ (p q : List S38 × Int × Int), (0 ≤ p.2.2 ∧ p.2.2 ≤ 4) → (0 ≤ q.2.2 ∧ q.2.2 ≤ 4) → (¬ p.2.2 = 0 ∨ ¬ q.2.2 = 0) → (if (wrap64 (p.2.2 + q.2.2)) = 0 then (rhizomelaw04_LexMeans.l0 k a b p.1 q.1 0) else (some true)) = some true := by
  intro p q h1 h2 h3
  rw [if_neg]
  rw [w64n (by omega) (by omega)]
  omega
 have rng : ∀ s : ByteArray, 0 ≤ (if stp s < s.size then (([] : List S38), ((stp s : Nat) : Int), (4 : Int)) else match (allL s.size (s.size + 1) (bys s)).2 with | none => ((allL s.size (s.size + 1) (bys s)).1, 0, 0) | some q => ([], (q : Int), 4)).2.2 ∧ (if stp s < s.size then (([] : List S38), ((stp s : Nat) : Int), (4 : Int)) else match (allL s.size (s.size + 1) (bys s)).2 with | none => ((allL s.size (s.size + 1) (bys s)).1, 0, 0) | some q => ([], (q : Int), 4)).2.2 ≤ 4 := by
  intro s
  by_cases c : stp s < s.size
  ·rw [if_pos c]
   show (0 : Int) ≤ 4 ∧ (4 : Int) ≤ 4
   omega
  ·rw [if_neg c]
   cases (allL s.size (s.size + 1) (bys s)).2 with
   | none =>
    show (0 : Int) ≤ 0 ∧ (0 : Int) ≤ 4
    omega
   | some q =>
    show (0 : Int) ≤ 4 ∧ (4 : Int) ≤ 4
    omega
 by_cases ca : stp a < a.size
 ·exact bad _ _ (rng a) (rng b) (.inl (by rw [if_pos ca]; show ¬ (4 : Int) = 0; decide))
 by_cases cb : stp b < b.size
 ·exact bad _ _ (rng a) (rng b) (.inr (by rw [if_pos cb]; show ¬ (4 : Int) = 0; decide))
 cases ga : (allL a.size (a.size + 1) (bys a)).2 with
 | some q => have h := bad _ _ (rng a) (rng b) (.inl (by rw [if_neg ca, ga]; show ¬ (4 : Int) = 0; decide)); rw [ga] at h; exact h
 | none =>
  cases gb : (allL b.size (b.size + 1) (bys b)).2 with
  | some q => have h := bad _ _ (rng a) (rng b) (.inr (by rw [if_neg cb, gb]; show ¬ (4 : Int) = 0; decide)); rw [ga, gb] at h; exact h
  | none =>
   rw [if_neg ca, if_neg cb]
   dsimp only
   rw [if_pos (by decide +kernel)]
   have sa := (stop_le a a.size 0 (Nat.zero_le _)).2
   have sb := (stop_le b b.size 0 (Nat.zero_le _)).2
   have ea : stp a = a.size := by unfold stp at ca ⊢; omega
   have eb : stp b = b.size := by unfold stp at cb ⊢; omega
   have hz := stp_two a b ea eb
   have hall := all_two a b ga gb
   obtain ⟨la, _⟩ := all_small a.size (a.size + 1) (bys a)
   obtain ⟨lb, pb⟩ := all_small b.size (b.size + 1) (bys b)
   generalize (allL a.size (a.size + 1) (bys a)).1 = X at la hall ⊢
   generalize (allL b.size (b.size + 1) (bys b)).1 = Y at lb pb hall ⊢
   have hloop := two_loop a b X ha Y [] (k - Y.length) (by rw [List.nil_append]; omega) (fun x hx => ⟨(pb x hx).1, by have := (pb x hx).2; omega⟩)
   rw [show Y.length + (k - Y.length) = k by omega, List.nil_append, List.map_nil, List.nil_append] at hloop
   refine hloop.trans ?_
   obtain ⟨j, hj⟩ : ∃ q, k - Y.length = q + 1 := ⟨k - Y.length - 1, by omega⟩
   have hsz : (a ++ (⟨#[10]⟩ : ByteArray)).size = a.size + 1 := by rw [ByteArray.size_append]; rfl
   have hsz2 : (a ++ (⟨#[10]⟩ : ByteArray) ++ b).size = a.size + 1 + b.size := by rw [ByteArray.size_append, hsz]
   rw [hj, rhizomelaw04_LexMeans.l0, if_neg (by rw [List.length_map]; omega), if_pos (by omega), if_pos (by rw [hsz]; omega), all_any _ (by rw [hsz2]; omega), Option.bind_some, if_neg (by omega), hall]
   dsimp only
   rw [num_eq, Option.bind_some, if_pos rfl, if_pos (by rw [List.length_nil]; omega), Option.bind_some, List.nil_append, if_pos (by rw [List.length_map]; omega), same_self _ (by rw [List.length_append, List.length_map]; omega) j (by rw [List.length_append, List.length_map]; omega)]
   rfl
end Go.Proofs.YtpbphelaeleikaaDoor.PMean

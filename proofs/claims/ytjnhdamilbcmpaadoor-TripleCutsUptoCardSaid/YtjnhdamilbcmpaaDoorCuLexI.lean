import Derived.Test.YtjnhdamilbcmpaaDoorCuLexH
set_option linter.unusedVariables false
set_option linter.unusedSimpArgs false
namespace Go.Proofs.YtjnhdamilbcmpaaDoor.PTm
open Go.RowKit Go.Proofs.YtjnhdamilbcmpaaDoorW.PrintWords Go.Proofs.YtjnhdamilbcmpaaDoorW.PrintLast Go.Proofs.YtjnhdamilbcmpaaDoorW.PrintMore
theorem okn1 (t : ByteArray) : okn t 1 = decide (1 ≤ (t.size : Int) ∧ bt t 0 < 128) := by unfold okn; rw [if_pos rfl]
theorem okn2 (t : ByteArray) : okn t 2 = (decide (2 ≤ (t.size : Int) ∧ 194 ≤ bt t 0 ∧ bt t 0 < 224) && tl (bt t 1)) := by unfold okn; rw [if_neg (by decide), if_pos rfl]
theorem okn3 (t : ByteArray) : okn t 3 = (decide (3 ≤ (t.size : Int) ∧ 224 ≤ bt t 0 ∧ bt t 0 < 240) && tl (bt t 1) && tl (bt t 2) && decide (2048 ≤ val t 3 ∧ (val t 3 < 55296 ∨ 57343 < val t 3))) := by unfold okn; rw [if_neg (by decide), if_neg (by decide), if_pos rfl]
theorem okn4 (t : ByteArray) : okn t 4 = (decide (4 ≤ (t.size : Int) ∧ 240 ≤ bt t 0 ∧ bt t 0 < 245) && tl (bt t 1) && tl (bt t 2) && tl (bt t 3) && decide (65536 ≤ val t 4 ∧ val t 4 ≤ 1114111)) := by unfold okn; rw [if_neg (by decide), if_neg (by decide), if_neg (by decide)]
theorem val1 (t : ByteArray) : val t 1 = bt t 0 := by unfold val; rw [if_pos rfl]
theorem val2 (t : ByteArray) : val t 2 = 64 * (bt t 0 % 32) + bt t 1 % 64 := by unfold val; rw [if_neg (by decide), if_pos rfl]
theorem val3 (t : ByteArray) : val t 3 = 64 * (64 * (bt t 0 % 16) + bt t 1 % 64) + bt t 2 % 64 := by unfold val; rw [if_neg (by decide), if_neg (by decide), if_pos rfl]
theorem val4 (t : ByteArray) : val t 4 = 64 * (64 * (64 * (bt t 0 % 8) + bt t 1 % 64) + bt t 2 % 64) + bt t 3 % 64 := by unfold val; rw [if_neg (by decide), if_neg (by decide), if_neg (by decide)]
theorem put_size {r n : Int} (hm : utf_may.f r = some true) (hn : utf_size.f r = some n) (h1 : 1 ≤ n) (h4 : n ≤ 4) : ((putT r).1.length : Int) = n ∧ (putT r).2 = 0 := by
 have key : ∀ l : List Int, (l.length : Int) = n → utf_Put.f r = some (l, 0) → ((putT r).1.length : Int) = n ∧ (putT r).2 = 0 := fun l hl h => by
  have e := putT_eq r
  rw [h] at e
  have e2 := Option.some.inj e
  rw [← congrArg Prod.fst e2, ← congrArg Prod.snd e2]
  exact ⟨hl, rfl⟩
 have hc : n = 1 ∨ n = 2 ∨ n = 3 ∨ n = 4 := by omega
 rcases hc with rfl | rfl | rfl | rfl
 all_goals
  refine key _ ?_ (by
   unfold utf_Put.f
   rw [hm, hn]
   simp only [Option.bind_some, if_true, List.length_append, List.length_cons, List.length_nil, wrap64]
   rfl)
  simp
theorem val_range (t : ByteArray) (n : Int) (h : n = 1 ∨ n = 2 ∨ n = 3 ∨ n = 4) (ho : okn t n = true) : utf_may.f (val t n) = some true := by
 have r0 := bt_range t 0
 have r1 := bt_range t 1
 have r2 := bt_range t 2
 have r3 := bt_range t 3
 have key : ∀ v : Int, 0 ≤ v → v ≤ 1114111 → (v < 55296 ∨ 57343 < v) → utf_may.f v = some true := by
  intro v h1 h2 h3
  unfold utf_may.f
  rw [if_pos (by omega), if_pos (by omega)]
  split
  ·rfl
  ·rw [decide_eq_true (by omega)]
 rcases h with rfl | rfl | rfl | rfl
 ·rw [okn1, decide_eq_true_eq] at ho
  rw [val1]
  exact key _ (by omega) (by omega) (by omega)
 ·rw [val2]
  exact key _ (by omega) (by omega) (by omega)
 ·have hv := val3 t
  rw [okn3] at ho
  simp only [Bool.and_eq_true, decide_eq_true_eq] at ho
  exact key _ (by omega) (by omega) (by omega)
 ·rw [okn4] at ho
  simp only [Bool.and_eq_true, decide_eq_true_eq] at ho
  exact key _ (by omega) (by omega) (by omega)
theorem dec_may (t : ByteArray) (h : ¬ (dec t).2 = 0) : utf_may.f (dec t).1 = some true := by
 rcases dec_cases t with e | ⟨h1, h2, h3, h4, h5⟩
 ·rw [e] at h
  exact absurd rfl h
 ·rw [h5]
  exact val_range t _ (by omega) h4
theorem runes_put (s : ByteArray) (hs : s.size ≤ 140737488355328) : ∀ (k i : Nat), i ≤ s.size → s.size - i ≤ k →
  (runesFrom s k i).foldl (fun _ p => wrap64 (p.1 + ((putT p.2).1.length : Int))) (i : Int) = (stop s k i : Nat)
 | 0, i, hi, hk => rfl
 | k + 1, i, hi, hk => by
  simp only [runesFrom, stop]
  by_cases h : i < s.size
  ·rw [if_pos h, if_pos h]
   have hg := getT_dec (s.extract i s.size)
   have hok := getT_ok (s.extract i s.size)
   by_cases h0 : (dec (s.extract i s.size)).2 = 0
   ·rw [if_pos h0] at hg
    rw [hg, if_neg (by simp), if_pos h0]
    rfl
   ·rw [if_neg h0] at hg
    obtain ⟨d1, d2, d3⟩ := dec_le s i h h0
    rw [hg] at hok ⊢
    rw [if_pos rfl, if_neg h0, List.foldl_cons]
    rcases hok with ⟨_, _, _, _, hz⟩ | hz
    ·have hz2 := (put_size (dec_may _ h0) hz d1 d2).1
     have hz3 : (putT (dec (s.extract i s.size)).1).1.length = (dec (s.extract i s.size)).2.toNat := by dsimp only at hz2; omega
     rw [← runes_put s hs k (i + (dec (s.extract i s.size)).2.toNat) d3 (by omega)]
     congr 1
     dsimp only
     rw [hz3, w64n (by omega) (by omega)]
     omega
    ·exact absurd (congrArg (fun v => v.2.1) hz) h0
  ·rw [if_neg h, if_neg h]
   rfl
theorem stop_le (s : ByteArray) : ∀ (k i : Nat), i ≤ s.size → i ≤ stop s k i ∧ stop s k i ≤ s.size
 | 0, i, hi => ⟨Nat.le_refl _, hi⟩
 | k + 1, i, hi => by
  simp only [stop]
  by_cases h : i < s.size
  ·rw [if_pos h]
   by_cases h0 : (dec (s.extract i s.size)).2 = 0
   ·rw [if_pos h0]
    exact ⟨Nat.le_refl _, hi⟩
   ·rw [if_neg h0]
    obtain ⟨d1, d2, d3⟩ := dec_le s i h h0
    obtain ⟨j1, j2⟩ := stop_le s k _ d3
    exact ⟨by omega, j2⟩
  ·rw [if_neg h]
   exact ⟨Nat.le_refl _, hi⟩
def stp (s : ByteArray) : Nat := stop s s.size 0
theorem well_eq (s : ByteArray) (hs : s.size ≤ 1000000000000) : lex_well.f s = some (s.extract 0 (stp s)) := by
 have e : endP (runesOf s) = ((stp s : Nat) : Int) := runes_put s (by omega) s.size 0 (Nat.zero_le _) (Nat.le_refl _)
 have hl := (stop_le s s.size 0 (Nat.zero_le _)).2
 unfold lex_well.f
 rw [e, if_pos ⟨by omega, by omega, by unfold stp; omega⟩, Int.toNat_natCast]
theorem well_full (s : ByteArray) (hs : s.size ≤ 1000000000000) (h : stp s = s.size) : lex_well.f s = some s := by
 rw [well_eq s hs, h, ByteArray.extract_zero_size]
theorem all_any (s : ByteArray) (hs : s.size ≤ 200000) (k : Nat) : lex_All.f k s = some (if stp s < s.size then (([] : List S56), ((stp s : Nat) : Int), (4 : Int)) else match (allL s.size (s.size + 1) (bys s)).2 with | none => ((allL s.size (s.size + 1) (bys s)).1, 0, 0) | some q => ([], (q : Int), 4)) := by
 have hl : stp s ≤ s.size := (stop_le s s.size 0 (Nat.zero_le _)).2
 by_cases h : stp s < s.size
 ·rw [if_pos h]
  unfold lex_All.f
  have hz : (s.extract 0 (stp s)).size = stp s := by simp; omega
  rw [if_neg (by omega), well_eq s (by omega), Option.bind_some, hz, if_pos (by omega)]
 ·rw [if_neg h]
  exact all_eq s hs (well_full s (by omega) (by omega)) k
theorem stop_fuel (s : ByteArray) : ∀ (k i K : Nat), s.size - i ≤ k → i ≤ s.size → k ≤ K → stop s K i = stop s k i
 | 0, i, K, h, hi, hk => by
  cases K with
  | zero => rfl
  | succ K =>
   simp only [stop]
   rw [if_neg (by omega)]
 | k + 1, i, K, h, hi, hk => by
  obtain ⟨K, rfl⟩ : ∃ j, K = j + 1 := ⟨K - 1, by omega⟩
  simp only [stop]
  by_cases hlt : i < s.size
  ·rw [if_pos hlt, if_pos hlt]
   by_cases h0 : (dec (s.extract i s.size)).2 = 0
   ·rw [if_pos h0, if_pos h0]
   ·rw [if_neg h0, if_neg h0]
    obtain ⟨d1, d2, d3⟩ := dec_le s i hlt h0
    exact stop_fuel s k _ K (by omega) d3 (by omega)
  ·rw [if_neg hlt, if_neg hlt]
theorem dec_ext (t z : ByteArray) (hz : t.size ≤ z.size) (hb : ∀ i : Nat, i < t.size → bt t (i : Nat) = bt z (i : Nat)) (h : ¬ (dec t).2 = 0) : dec z = dec t := by
 have e0 : 1 ≤ t.size → bt t 0 = bt z 0 := fun h => hb 0 (by omega)
 have e1 : 2 ≤ t.size → bt t 1 = bt z 1 := fun h => hb 1 (by omega)
 have e2 : 3 ≤ t.size → bt t 2 = bt z 2 := fun h => hb 2 (by omega)
 have e3 : 4 ≤ t.size → bt t 3 = bt z 3 := fun h => hb 3 (by omega)
 unfold dec at h ⊢
 by_cases k1 : okn t 1 = true
 ·have : okn z 1 = true := by
   rw [okn1, decide_eq_true_eq] at k1 ⊢
   rw [← e0 (by omega)]
   omega
  rw [if_pos k1, if_pos this]
  rw [okn1, decide_eq_true_eq] at k1
  rw [val1, val1, e0 (by omega)]
 rw [if_neg k1] at h ⊢
 by_cases k2 : okn t 2 = true
 ·have q := k2
  rw [okn2] at q
  simp only [Bool.and_eq_true, decide_eq_true_eq] at q
  have a0 := e0 (by omega)
  have a1 := e1 (by omega)
  have n1 : ¬ okn z 1 = true := by
   rw [okn1, decide_eq_true_eq, ← a0]
   omega
  have p2 : okn z 2 = true := by
   rw [okn2]
   simp only [Bool.and_eq_true, decide_eq_true_eq]
   rw [← a0, ← a1]
   exact ⟨by omega, q.2⟩
  rw [if_pos k2, if_neg n1, if_pos p2]
  rw [val2, val2, a0, a1]
 rw [if_neg k2] at h ⊢
 by_cases k3 : okn t 3 = true
 ·have q := k3
  rw [okn3] at q
  simp only [Bool.and_eq_true, decide_eq_true_eq] at q
  have a0 := e0 (by omega)
  have a1 := e1 (by omega)
  have a2 := e2 (by omega)
  have hv : val z 3 = val t 3 := by
   rw [val3, val3, a0, a1, a2]
  have n1 : ¬ okn z 1 = true := by
   rw [okn1, decide_eq_true_eq, ← a0]
   omega
  have n2 : ¬ okn z 2 = true := by
   rw [okn2]
   simp only [Bool.and_eq_true, decide_eq_true_eq]
   rw [← a0]
   omega
  have p3 : okn z 3 = true := by
   rw [okn3]
   simp only [Bool.and_eq_true, decide_eq_true_eq]
   rw [← a0, ← a1, ← a2, hv]
   exact ⟨⟨⟨by omega, q.1.1.2⟩, q.1.2⟩, q.2⟩
  rw [if_pos k3, if_neg n1, if_neg n2, if_pos p3, hv]
 rw [if_neg k3] at h ⊢
 by_cases k4 : okn t 4 = true
 ·have q := k4
  rw [okn4] at q
  simp only [Bool.and_eq_true, decide_eq_true_eq] at q
  have a0 := e0 (by omega)
  have a1 := e1 (by omega)
  have a2 := e2 (by omega)
  have a3 := e3 (by omega)
  have hv : val z 4 = val t 4 := by
   rw [val4, val4, a0, a1, a2, a3]
  have n1 : ¬ okn z 1 = true := by
   rw [okn1, decide_eq_true_eq, ← a0]
   omega
  have n2 : ¬ okn z 2 = true := by
   rw [okn2]
   simp only [Bool.and_eq_true, decide_eq_true_eq]
   rw [← a0]
   omega
  have n3 : ¬ okn z 3 = true := by
   rw [okn3]
   simp only [Bool.and_eq_true, decide_eq_true_eq]
   rw [← a0]
   omega
  have p4 : okn z 4 = true := by
   rw [okn4]
   simp only [Bool.and_eq_true, decide_eq_true_eq]
   rw [← a0, ← a1, ← a2, ← a3, hv]
   exact ⟨⟨⟨⟨by omega, q.1.1.1.2⟩, q.1.1.2⟩, q.1.2⟩, q.2⟩
  rw [if_pos k4, if_neg n1, if_neg n2, if_neg n3, if_pos p4, hv]
 ·rw [if_neg k4] at h
  exact absurd rfl h
theorem bt_left (p q : ByteArray) (i : Nat) (h : i < p.size) : bt (p ++ q) ((i : Nat) : Int) = bt p ((i : Nat) : Int) := by
 have h2 : i < (p ++ q).size := by rw [ByteArray.size_append]; omega
 unfold bt
 simp only [Int.toNat_natCast]
 rw [dif_pos h2, dif_pos h, ByteArray.getElem_append_left h]
theorem ext_left (p q : ByteArray) (i : Nat) (h : i ≤ p.size) : (p.extract i p.size).size ≤ ((p ++ q).extract i (p ++ q).size).size ∧ ∀ j : Nat, j < (p.extract i p.size).size → bt (p.extract i p.size) (j : Nat) = bt ((p ++ q).extract i (p ++ q).size) (j : Nat) := by
 have hz : (p ++ q).size = p.size + q.size := ByteArray.size_append
 refine ⟨by rw [extract_size p i h, extract_size (p ++ q) i (by omega)]; omega, fun j hj => ?_⟩
 rw [extract_size p i h] at hj
 rw [bt_extract p i p.size j (Nat.le_refl _) (by omega), bt_extract (p ++ q) i (p ++ q).size j (Nat.le_refl _) (by omega), bt_left p q (i + j) (by omega)]
theorem stop_app (p q : ByteArray) : ∀ (k i K : Nat), i ≤ p.size → p.size - i ≤ k → stop p k i = p.size → (p ++ q).size - i ≤ K → stop (p ++ q) K i = stop (p ++ q) (p ++ q).size p.size
 | 0, i, K, hi, hk, h, hK => by
  have hz : (p ++ q).size = p.size + q.size := ByteArray.size_append
  obtain rfl : i = p.size := by omega
  rw [stop_fuel (p ++ q) ((p ++ q).size - p.size) p.size K (Nat.le_refl _) (by omega) hK, stop_fuel (p ++ q) ((p ++ q).size - p.size) p.size (p ++ q).size (Nat.le_refl _) (by omega) (by omega)]
 | k + 1, i, K, hi, hk, h, hK => by
  have hz : (p ++ q).size = p.size + q.size := ByteArray.size_append
  by_cases hlt : i < p.size
  ·simp only [stop] at h
   rw [if_pos hlt] at h
   by_cases h0 : (dec (p.extract i p.size)).2 = 0
   ·rw [if_pos h0] at h
    omega
   ·rw [if_neg h0] at h
    obtain ⟨d1, d2, d3⟩ := dec_le p i hlt h0
    obtain ⟨g1, g2⟩ := ext_left p q i hi
    have hd := dec_ext _ _ g1 g2 h0
    obtain ⟨K, rfl⟩ : ∃ j, K = j + 1 := ⟨K - 1, by omega⟩
    have ih := stop_app p q k _ K d3 (by omega) h (by omega)
    conv => lhs; simp only [stop]
    rw [if_pos (by omega), hd, if_neg h0]
    exact ih
  ·obtain rfl : i = p.size := by omega
   rw [stop_fuel (p ++ q) ((p ++ q).size - p.size) p.size K (Nat.le_refl _) (by omega) hK, stop_fuel (p ++ q) ((p ++ q).size - p.size) p.size (p ++ q).size (Nat.le_refl _) (by omega) (by omega)]
theorem ext_right (p q : ByteArray) (j : Nat) (h : j ≤ q.size) : (p ++ q).extract (p.size + j) (p ++ q).size = q.extract j q.size := by
 apply bys_inj
 rw [bys_ext, bys_ext, bys_append, ByteArray.size_append, List.drop_append]
 rw [List.drop_eq_nil_of_le (by rw [bys_length]; omega), List.nil_append, bys_length, show p.size + j - p.size = j by omega, show p.size + q.size - (p.size + j) = q.size - j by omega]
theorem stop_shift (p q : ByteArray) : ∀ (k j : Nat), j ≤ q.size → stop (p ++ q) k (p.size + j) = p.size + stop q k j
 | 0, j, h => rfl
 | k + 1, j, h => by
  have hz : (p ++ q).size = p.size + q.size := ByteArray.size_append
  simp only [stop]
  by_cases hlt : j < q.size
  ·rw [if_pos hlt, if_pos (by omega), ext_right p q j h]
   by_cases h0 : (dec (q.extract j q.size)).2 = 0
   ·rw [if_pos h0, if_pos h0]
   ·rw [if_neg h0, if_neg h0]
    obtain ⟨d1, d2, d3⟩ := dec_le q j hlt h0
    rw [Nat.add_assoc, stop_shift p q k _ d3]
  ·rw [if_neg hlt, if_neg (by omega)]
theorem stp_app (p q : ByteArray) (hp : stp p = p.size) : stp (p ++ q) = p.size + stp q := by
 have hz : (p ++ q).size = p.size + q.size := ByteArray.size_append
 unfold stp
 rw [stop_app p q p.size 0 (p ++ q).size (Nat.zero_le _) (Nat.le_refl _) hp (Nat.le_refl _)]
 have := stop_shift p q (p ++ q).size 0 (Nat.zero_le _)
 rw [Nat.add_zero] at this
 rw [this, stop_fuel q q.size 0 (p ++ q).size (Nat.le_refl _) (Nat.zero_le _) (by omega)]
end Go.Proofs.YtjnhdamilbcmpaaDoor.PTm

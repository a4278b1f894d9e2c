import Derived.Test.YtpbphelaeleikaaGreatDoorXtLtB
namespace Go.Proofs.YtpbphelaeleikaaGreatDoor.PLt
open Go.RowKit Go.Proofs.YtpbphelaeleikaaGreatDoorW.PrintWords Go.Proofs.YtpbphelaeleikaaGreatDoorW.PrintLast Go.Proofs.YtpbphelaeleikaaGreatDoorW.PrintMore
set_option linter.unusedVariables false
set_option linter.unusedSimpArgs false
set_option maxRecDepth 10000
def markL : List ByteArray := [(⟨#[94, 94]⟩ : ByteArray), (⟨#[58, 45]⟩ : ByteArray), (⟨#[33, 61]⟩ : ByteArray), (⟨#[61]⟩ : ByteArray), (⟨#[46]⟩ : ByteArray), (⟨#[44]⟩ : ByteArray), (⟨#[40]⟩ : ByteArray), (⟨#[41]⟩ : ByteArray), (⟨#[123]⟩ : ByteArray), (⟨#[125]⟩ : ByteArray)]
theorem markL_size : ∀ j, j < 10 → 1 ≤ (rdOf ByteArray.empty markL ((j : Nat) : Int)).size ∧ (rdOf ByteArray.empty markL ((j : Nat) : Int)).size ≤ 2 := by
 intro j hj
 have : j = 0 ∨ j = 1 ∨ j = 2 ∨ j = 3 ∨ j = 4 ∨ j = 5 ∨ j = 6 ∨ j = 7 ∨ j = 8 ∨ j = 9 := by omega
 rcases this with rfl | rfl | rfl | rfl | rfl | rfl | rfl | rfl | rfl | rfl <;> exact ⟨by decide, by decide⟩
theorem two_bytes (s : ByteArray) (a : Nat) (h : a + 2 ≤ s.size) (h0 : bt s a = 58) (h1 : bt s ((a + 1 : Nat) : Int) = 45) : (s.extract a (a + 2)).toList = (⟨#[58, 45]⟩ : ByteArray).toList := by
 have e0 := bt_get s a (by omega)
 have e1 := bt_get s (a + 1) (by omega)
 rw [h0] at e0
 rw [h1] at e1
 have e : (s.extract a (a + 2)).data.toList = [58, 45] := by
  apply List.ext_getElem?
  intro i
  have hl : (s.extract a (a + 2)).data.toList.length = 2 := by
   rw [Array.length_toList]
   have := ext_size s a (a + 2) h
   have h2 : (s.extract a (a + 2)).data.size = (s.extract a (a + 2)).size := rfl
   omega
  match i with
  | 0 =>
   have g := bt_get (s.extract a (a + 2)) 0 (by rw [ext_size s a _ h]; omega)
   rw [bt_extract s a (a + 2) 0 h (by omega), show ((a + 0 : Nat) : Int) = (a : Int) from rfl, h0] at g
   rw [g]; rfl
  | 1 =>
   have g := bt_get (s.extract a (a + 2)) 1 (by rw [ext_size s a _ h]; omega)
   rw [bt_extract s a (a + 2) 1 h (by omega), h1] at g
   rw [g]; rfl
  | i + 2 =>
   rw [List.getElem?_eq_none (by omega)]
   rfl
 rw [Lib.toList_data, Lib.toList_data, e]
abbrev Z0 : ByteArray := (⟨#[]⟩ : ByteArray)
theorem one_bad (s : ByteArray) (a : Nat) (v0 : Int) (v1 : ByteArray) (v2 : Int) (v3 v4 : ByteArray) (v5 : Int) : OneOk s a (v0, v1, v2, v3, v4, v5, (-1)) := .inl (by show (-1 : Int) < 0; decide)
theorem one_j3 (s : ByteArray) (hs : s.size ≤ 20000) (a i : Nat) (h1 : a + 1 ≤ i) (h2 : i ≤ s.size) (pl : Int) (k : Nat) (hk : 400001 ≤ k) : ∃ v, g4_One.j3 k s a i 0 Z0 0 Z0 Z0 pl = some v ∧ OneOk s a v := by
 obtain ⟨k, rfl⟩ : ∃ m, k = m + 1 := ⟨k - 1, by omega⟩
 rw [g4_One.j3, wn1 (by omega), if_pos (by omega), if_pos (by omega), if_pos (by omega)]
 have hz : (s.extract (((a + 1 : Nat) : Int)).toNat ((i : Int)).toNat).size ≤ 20000 := by
  show (s.extract (a + 1) i).size ≤ _
  rw [ext_size s _ i h2]; omega
 rw [may_ref 4 _ _ (by decide) (by omega) k (by have : (⟨#[]⟩ : ByteArray).size = 0 := rfl; omega)]
 simp only [Option.bind_some]
 split
 ·exact ⟨_, rfl, .inr ⟨⟨i, rfl, by omega, h2⟩, sok_plain 4 _ Z0 Z0 (by show (s.extract (((a + 1 : Nat) : Int)).toNat ((i : Int)).toNat).size ≤ _; omega) (by decide) (by decide) (by decide) (by decide)⟩⟩
 ·exact ⟨_, rfl, one_bad _ _ _ _ _ _ _ _⟩
theorem one_l1 (s : ByteArray) (hs : s.size ≤ 20000) (a : Nat) (pl : Int) : ∀ (d i : Nat), s.size - i ≤ d → a + 1 ≤ i → i ≤ s.size → ∀ k, 400002 + d ≤ k → ∃ v, g4_One.l1 k s a i 0 Z0 0 Z0 Z0 pl = some v ∧ OneOk s a v
 | d, i, hd, h1, h2, k, hk => by
  obtain ⟨k, rfl⟩ : ∃ m, k = m + 1 := ⟨k - 1, by omega⟩
  rw [g4_One.l1]
  by_cases hlt : i < s.size
  ·cases d with
   | zero => omega
   | succ d =>
    rw [if_pos (by omega), if_pos (by omega), wn1 (by omega)]
    obtain ⟨c, f, hc⟩ := digit_tot (bt s i)
    rw [f]
    simp only [Option.bind_some]
    have r1 := one_l1 s hs a pl d (i + 1) (by omega) (by omega) (by omega) k (by omega)
    have r3 := one_j3 s hs a i h1 h2 pl k (by omega)
    repeat' split
    all_goals first | exact r1 | exact r3
  ·rw [if_neg (by omega)]
   exact one_j3 s hs a i h1 h2 pl k (by omega)
theorem one_j1 (s : ByteArray) (hs : s.size ≤ 20000) (a : Nat) (ha : a < s.size) (hm : NoTurn s a) (c : Int) (b : Bool) (hb : b = true → a + 1 < s.size) (k : Nat) (hk : 430000 ≤ k) : ∃ v, g4_One.j1 k s a c b 0 Z0 0 Z0 Z0 a = some v ∧ OneOk s a v := by
 obtain ⟨k, rfl⟩ : ∃ m, k = m + 1 := ⟨k - 1, by omega⟩
 rw [g4_One.j1]
 have w2 : wrap64 ((a : Int) + 2) = ((a + 2 : Nat) : Int) := wnk 2 (by omega) (by omega)
 have w33 : wrap64 ((a : Int) + 33) = ((a + 33 : Nat) : Int) := wnk 33 (by omega) (by omega)
 rw [w2, wn1 (by omega), w33]
 split
 ·rename_i hbt
  obtain ⟨r, hr, h1, h2, h3⟩ := word_f s hs (a + 2) (by have := hb hbt; omega) k (by omega)
  rw [hr]
  simp only [Option.bind_some]
  rw [if_pos (by omega), if_pos (by omega), if_pos (by omega)]
  have hz : (s.extract (((a + 2 : Nat) : Int)).toNat ((r : Int)).toNat).size ≤ 20000 := by
   show (s.extract (a + 2) r).size ≤ _
   rw [ext_size s _ r h2]; omega
  obtain ⟨v, hv, g⟩ := may4_tot s a 2 Z0 2 (s.extract (((a + 2 : Nat) : Int)).toNat ((r : Int)).toNat) Z0 (a : Int) (r : Int) k (by omega) (by omega) (by decide) (sok_plain 2 _ _ _ (by decide) (by omega) (by decide) (by decide) (by decide)) (.inr ⟨r, rfl, by omega, h2⟩)
  rw [hv]
  exact ⟨_, rfl, g⟩
 ·split
  ·obtain ⟨⟨t, e⟩, hq, h1, h2⟩ := quo_f s hs 34 true a ha k (by omega)
   rw [hq]
   simp only [Option.bind_some]
   refine ⟨_, rfl, ?_⟩
   rcases h2 with h2 | ⟨m, h2, h3, h4⟩
   ·simp only at h2
    subst h2
    exact one_bad _ _ _ _ _ _ _ _
   ·simp only at h1 h2
    subst h2
    exact .inr ⟨⟨m, rfl, h3, h4⟩, sok_plain 3 _ Z0 Z0 (by show t.size ≤ _; omega) (by decide) (by decide) (by decide) (by decide)⟩
  ·split
   ·exact one_l1 s hs a a s.size (a + 1) (by omega) (by omega) (by omega) k (by omega)
   ·split
    ·obtain ⟨r, hr, h1, h2, h3⟩ := word_f s hs (a + 1) (by omega) k (by omega)
     rw [hr]
     simp only [Option.bind_some]
     rw [if_pos (by omega), if_pos (by omega), if_pos (by omega)]
     have hz : (s.extract (((a + 1 : Nat) : Int)).toNat ((r : Int)).toNat).size ≤ 20000 := by
      show (s.extract (a + 1) r).size ≤ _
      rw [ext_size s _ r h2]; omega
     split
     ·exact ⟨_, rfl, one_bad _ _ _ _ _ _ _ _⟩
     ·split
      ·exact ⟨_, rfl, one_bad _ _ _ _ _ _ _ _⟩
      ·exact ⟨_, rfl, .inr ⟨⟨r, rfl, by omega, h2⟩, sok_plain 5 _ Z0 Z0 (by show (s.extract (((a + 1 : Nat) : Int)).toNat ((r : Int)).toNat).size ≤ _; omega) (by decide) (by decide) (by decide) (by decide)⟩⟩
    ·obtain ⟨v, hv, g⟩ := nam_tot s hs a ha hm 0 Z0 0 Z0 Z0 a (by decide) (by decide) k (by omega)
     rw [hv]
     exact ⟨_, rfl, g⟩
theorem one_tail (s : ByteArray) (hs : s.size ≤ 20000) (a : Nat) (ha : a < s.size) (hm : NoTurn s a) (k : Nat) (hk : 440000 ≤ k) :
  ∃ v, (if bt s a = 60 then ((g4_quoted.f k s a 62 false).bind fun bt314 => ((g4_may.f k 1 Z0 1 bt314.1 (⟨#[]⟩ : ByteArray) a bt314.2).bind fun bt316 => (some (bt316.1, bt316.2.1, bt316.2.2.1, bt316.2.2.2.1, bt316.2.2.2.2.1, bt316.2.2.2.2.2.1, bt316.2.2.2.2.2.2)))) else (if bt s a = 95 then ((g4_ch.f s (wrap64 ((a : Int) + 1))).bind fun t323 => (g4_One.j1 k s a (bt s a) (t323 == 58) 0 Z0 0 Z0 Z0 a)) else (g4_One.j1 k s a (bt s a) false 0 Z0 0 Z0 Z0 a))) = some v ∧ OneOk s a v := by
 split
 ·obtain ⟨⟨t, e⟩, hq, h1, h2⟩ := quo_f s hs 62 false a ha k (by omega)
  rw [hq]
  simp only [Option.bind_some]
  simp only at h1 h2
  obtain ⟨v, hv, g⟩ := may4_tot s a 1 Z0 1 t Z0 (a : Int) e k (by omega) (by omega) (by decide) (sok_plain 1 _ _ _ (by decide) (by omega) (by decide) (by decide) (by decide)) (h2.imp (fun h => by omega) id)
  rw [hv]
  exact ⟨_, rfl, g⟩
 ·split
  ·rw [wn1 (by omega)]
   obtain ⟨c, hc⟩ := ch_tot s ((a + 1 : Nat) : Int) (by omega)
   rw [hc]
   simp only [Option.bind_some]
   refine one_j1 s hs a ha hm _ _ (fun h => ?_) k (by omega)
   obtain rfl := beq_iff_eq.1 h
   exact (ch_58 hc).1
  ·exact one_j1 s hs a ha hm _ false (fun h => by cases h) k (by omega)
theorem one_l0 (s : ByteArray) (hs : s.size ≤ 20000) (a : Nat) (ha : a < s.size) : ∀ (d j : Nat), 10 - j ≤ d → j ≤ 10 → (2 ≤ j → NoTurn s a) → ∀ k, 450000 + d ≤ k → ∃ v, g4_One.l0 k s a (bt s a) j 0 Z0 0 Z0 Z0 a = some v ∧ OneOk s a v
 | d, j, hd, hj, hn, k, hk => by
  obtain ⟨k, rfl⟩ : ∃ m, k = m + 1 := ⟨k - 1, by omega⟩
  have hml : g4_marks.f = some markL := rfl
  have hll : (markL.length : Int) = 10 := rfl
  rw [g4_One.l0, hml]
  simp only [Option.bind_some]
  rw [hll]
  by_cases hlt : j < 10
  ·cases d with
   | zero => omega
   | succ d =>
    obtain ⟨z1, z2⟩ := markL_size j hlt
    rw [if_pos (c := (j : Int) < 10) (by omega), if_pos (c := 0 ≤ (j : Int)) (by omega), if_pos (c := (j : Int) < 10) (by omega)]
    have hj1 : j = 1 → rdOf ByteArray.empty markL ((j : Nat) : Int) = (⟨#[58, 45]⟩ : ByteArray) := fun h => by subst h; rfl
    generalize rdOf ByteArray.empty markL ((j : Nat) : Int) = m at *
    have rec_ : (2 ≤ j + 1 → NoTurn s a) → ∃ v, g4_One.l0 k s a (bt s a) ((j + 1 : Nat) : Int) 0 Z0 0 Z0 Z0 a = some v ∧ OneOk s a v := fun h => one_l0 s hs a ha d (j + 1) (by omega) (by omega) h k (by omega)
    rw [wn1 (n := j) (by omega), w64n (n := (s.size : Int) - (a : Int)) (by omega) (by omega), wnk (n := a) m.size (by omega) (by omega)]
    split
    ·rename_i hge
     rw [if_pos (by omega), if_pos (by omega), if_pos (by omega)]
     split
     ·exact ⟨_, rfl, .inr ⟨⟨a + m.size, rfl, by omega, by omega⟩, sok_plain 8 _ Z0 Z0 (by show m.size ≤ _; omega) (by decide) (by decide) (by decide) (by decide)⟩⟩
     ·rename_i hne
      refine rec_ (fun h2 => ?_)
      by_cases hj2 : 2 ≤ j
      ·exact hn hj2
      ·have e := hj1 (by omega)
       subst e
       rintro ⟨g1, g2, g3⟩
       exact hne (two_bytes s a (by omega) g2 g3)
    ·rename_i hge
     refine rec_ (fun h2 => ?_)
     by_cases hj2 : 2 ≤ j
     ·exact hn hj2
     ·have e := hj1 (by omega)
      subst e
      rintro ⟨g1, g2, g3⟩
      apply hge
      have : (⟨#[58, 45]⟩ : ByteArray).size = 2 := rfl
      omega
  ·rw [if_neg (by omega)]
   exact one_tail s hs a ha (hn (by omega)) k (by omega)
theorem one_f (s : ByteArray) (hs : s.size ≤ 20000) (a : Nat) (ha : a < s.size) (k : Nat) (hk : 450010 ≤ k) : ∃ v, g4_One.f k s a = some v ∧ OneOk s a v := by
 unfold g4_One.f
 rw [if_pos (by omega), if_pos (by omega)]
 exact one_l0 s hs a ha 10 0 (by omega) (by omega) (fun h => by omega) k (by omega)
def SymOk (x : S43) : Prop := SOk x.f0 x.f1 x.f2.f1 x.f2.f2
theorem run_l0 (s : ByteArray) (hs : s.size ≤ 20000) : ∀ (d a : Nat) (l : List S43), s.size - a ≤ d → a ≤ s.size → l.length ≤ a → (∀ x ∈ l, SymOk x) → ∀ k, 550000 + d ≤ k → ∃ l' e, g4_Run.l0 k s l a = some (l', e) ∧ l'.length ≤ s.size ∧ ∀ x ∈ l', SymOk x
 | d, a, l, hd, ha, hl, hx, k, hk => by
  obtain ⟨k, rfl⟩ : ∃ m, k = m + 1 := ⟨k - 1, by omega⟩
  rw [g4_Run.l0]
  by_cases hlt : a < s.size
  ·cases d with
   | zero => omega
   | succ d =>
    rw [if_pos (by omega)]
    obtain ⟨⟨v0, v1, v2, v3, v4, v5, v6⟩, hv, g⟩ := one_f s hs a hlt k (by omega)
    rw [hv]
    simp only [Option.bind_some]
    split
    ·exact ⟨l, _, rfl, by omega, hx⟩
    ·obtain ⟨⟨m, h1, h2, h3⟩, h4⟩ := g.resolve_left ‹_›
     simp only at h1
     subst h1
     rw [if_pos (by omega)]
     obtain ⟨r, hr, g1, g2⟩ := skip_f s hs m h3 k (by omega)
     rw [hr]
     simp only [Option.bind_some]
     refine run_l0 s hs d r _ (by omega) (by omega) (by simp; omega) (fun x hxm => ?_) k (by omega)
     rcases List.mem_append.1 hxm with h | h
     ·exact hx x h
     ·obtain rfl := List.mem_singleton.1 h
      exact h4
  ·rw [if_neg (by omega)]
   exact ⟨l, _, rfl, by omega, hx⟩
theorem stop_le (s : ByteArray) : ∀ (k i : Nat), i ≤ s.size → stop s k i ≤ s.size
 | 0, i, h => h
 | k + 1, i, h => by
  rw [stop]
  split
  ·split
   ·exact h
   ·obtain ⟨h1, h2, h3⟩ := dec_le s i ‹_› ‹_›
    exact stop_le s k _ (by omega)
  ·exact h
theorem run_f (s : ByteArray) (hs : s.size ≤ 20000) (k : Nat) (hk : 600000 ≤ k) : ∃ l e, g4_Run.f k s = some (l, e) ∧ l.length ≤ s.size ∧ ∀ x ∈ l, SymOk x := by
 unfold g4_Run.f g1r_Runes.f
 obtain ⟨l', e⟩ := refRunes s (by omega) (k - s.size - 41) s.size 0 [] (by omega) (by omega) (by simp)
 rw [show k = s.size + 1 + 40 + (k - s.size - 41) by omega]
 have hst := stop_le s s.size 0 (by omega)
 rw [show ((0 : Nat) : Int) = 0 from rfl] at e
 rw [e]
 simp only [Option.bind_some]
 rw [if_pos (by omega), if_pos (by omega)]
 have hz : (s.extract 0 (((stop s s.size 0 : Nat) : Int)).toNat).size ≤ 20000 := by
  show (s.extract 0 (stop s s.size 0)).size ≤ _
  rw [ext_size s 0 _ hst]; omega
 obtain ⟨r, hr, g1, g2⟩ := skip_f (s.extract 0 (((stop s s.size 0 : Nat) : Int)).toNat) hz 0 (by omega) (s.size + 1 + 40 + (k - s.size - 41)) (by omega)
 rw [show ((0 : Nat) : Int) = 0 from rfl] at hr
 rw [hr]
 simp only [Option.bind_some]
 obtain ⟨l2, e2, q1, q2, q3⟩ := run_l0 (s.extract 0 (((stop s s.size 0 : Nat) : Int)).toNat) hz (s.extract 0 (((stop s s.size 0 : Nat) : Int)).toNat).size r [] (by omega) g2 (by simp) (fun _ h => by cases h) (s.size + 1 + 40 + (k - s.size - 41)) (by omega)
 refine ⟨l2, e2, q1, ?_, q3⟩
 have : (s.extract 0 (((stop s s.size 0 : Nat) : Int)).toNat).size = stop s s.size 0 := by
  show (s.extract 0 (stop s s.size 0)).size = _
  rw [ext_size s 0 _ hst]; omega
 omega
end Go.Proofs.YtpbphelaeleikaaGreatDoor.PLt

import Derived.Test.YtpbphelaeleikaaGreatDoorXtLtA
namespace Go.Proofs.YtpbphelaeleikaaGreatDoor.PLt
open Go.RowKit Go.Proofs.YtpbphelaeleikaaGreatDoorW.PrintWords Go.Proofs.YtpbphelaeleikaaGreatDoorW.PrintLast Go.Proofs.YtpbphelaeleikaaGreatDoorW.PrintMore
set_option linter.unusedVariables false
set_option linter.unusedSimpArgs false
set_option maxRecDepth 10000
def Asc (s : ByteArray) : Prop := s.data.toList.all (fun b => decide (b.toNat < 128)) = true
def SOk (kind : Int) (text t x : ByteArray) : Prop := text.size ≤ 90000 ∧ t.size ≤ 90000 ∧ x.size ≤ 90000 ∧ (kind = 6 → Asc text) ∧ (kind = 7 → ∃ i : Nat, i < text.size ∧ bt text i = 58)
def OneOk (s : ByteArray) (a : Nat) (v : Int × ByteArray × Int × ByteArray × ByteArray × Int × Int) : Prop :=
 v.2.2.2.2.2.2 < 0 ∨ (∃ m : Nat, v.2.2.2.2.2.2 = (m : Int) ∧ a < m ∧ m ≤ s.size) ∧ SOk v.1 v.2.1 v.2.2.2.1 v.2.2.2.2.1
theorem ext_size (s : ByteArray) (a b : Nat) (h : b ≤ s.size) : (s.extract a b).size = b - a := by rw [ByteArray.size_extract]; omega
theorem asc_ext (s : ByteArray) (a r : Nat) (hr : r ≤ s.size) (h : ∀ i : Nat, a ≤ i → i < r → bt s i < 128) : Asc (s.extract a r) := by
 unfold Asc
 rw [List.all_eq_true]
 intro b hb
 obtain ⟨i, hi, rfl⟩ := List.mem_iff_getElem.1 hb
 have hi2 : i < (s.extract a r).size := by have h0 := hi; rw [Array.length_toList] at h0; exact h0
 have hi3 : i < r - a := by rw [ext_size s a r hr] at hi2; exact hi2
 have h1 := h (a + i) (by omega) (by omega)
 rw [← bt_extract s a r i hr (by omega)] at h1
 have h2 := bt_at (s.extract a r) (i : Int) (by exact hi2)
 rw [← h2] at h1
 have e : (s.extract a r)[((i : Nat) : Int).toNat]'(by exact hi2) = (s.extract a r).data.toList[i] := by simp [ByteArray.getElem_eq_getElem_data]
 rw [e] at h1
 exact decide_eq_true (by omega)
theorem sok_plain (kind : Int) (text t x : ByteArray) (h1 : text.size ≤ 90000) (h2 : t.size ≤ 90000) (h3 : x.size ≤ 90000) (h6 : kind ≠ 6) (h7 : kind ≠ 7) : SOk kind text t x := ⟨h1, h2, h3, fun h => absurd h h6, fun h => absurd h h7⟩
theorem may4_tot (s : ByteArray) (a : Nat) (k0 : Int) (text : ByteArray) (n : Int) (t x : ByteArray) (pl e : Int) (k : Nat) (hk : 400000 ≤ k) (ht : t.size ≤ 90000) (hx : x.size ≤ 90000) (hs : SOk k0 text t x) (he : e < 0 ∨ ∃ m : Nat, e = (m : Int) ∧ a < m ∧ m ≤ s.size) :
  ∃ v, g4_may.f k k0 text n t x pl e = some v ∧ OneOk s a v := by
 unfold g4_may.f
 split
 ·exact ⟨_, rfl, .inl (by show (-1 : Int) < 0; decide)⟩
 ·rw [may_ref n t x (by omega) (by omega) k (by omega)]
  simp only [Option.bind_some]
  split
  ·exact ⟨_, rfl, .inr ⟨he.resolve_left ‹_›, hs⟩⟩
  ·exact ⟨_, rfl, .inl (by show (-1 : Int) < 0; decide)⟩
theorem nam_l0 (s : ByteArray) (hs : s.size ≤ 20000) (a r : Nat) (ha : a ≤ r) (hr : r < s.size) (h58 : bt s r = 58) (k0 : Int) (x1 : ByteArray) (x2 : Int) (t x : ByteArray) (pl : Int) (ht : t.size ≤ 90000) (hx : x.size ≤ 90000) :
  ∀ (d i : Nat), s.size - i ≤ d → r + 1 ≤ i → i ≤ s.size → ∀ k, d + 1 ≤ k → ∃ v, g4_named.l0 k s a i ((r + 1 : Nat) : Int) k0 x1 x2 t x pl = some v ∧ OneOk s a v
 | d, i, hd, hri, hi, k, hk => by
  obtain ⟨k, rfl⟩ : ∃ m, k = m + 1 := ⟨k - 1, by omega⟩
  have fin : OneOk s a (7, s.extract ((a : Int)).toNat ((i : Int)).toNat, x2, t, x, pl, (i : Int)) := by
   refine .inr ⟨⟨i, rfl, by omega, hi⟩, show SOk 7 (s.extract a i) t x from ⟨?_, ht, hx, fun h => absurd h (by decide), fun _ => ⟨r - a, ?_, ?_⟩⟩⟩
   ·show (s.extract a i).size ≤ _
    rw [ext_size s a i hi]; omega
   ·show r - a < (s.extract a i).size
    rw [ext_size s a i hi]; omega
   ·show bt (s.extract a i) ((r - a : Nat) : Int) = 58
    rw [bt_extract s a i (r - a) hi (by omega), show a + (r - a) = r by omega]
    exact h58
  have bad : OneOk s a (k0, x1, x2, t, x, pl, (-1)) := .inl (by show (-1 : Int) < 0; decide)
  rw [g4_named.l0]
  by_cases hlt : i < s.size
  ·cases d with
   | zero => omega
   | succ d =>
    rw [if_pos (by omega), if_pos (by omega)]
    obtain ⟨b, e, hb⟩ := letter_tot (bt s i)
    obtain ⟨c, f, hc⟩ := digit_tot (bt s i)
    rw [e]
    simp only [Option.bind_some]
    rw [f]
    simp only [Option.bind_some]
    obtain ⟨v, hv, h1⟩ := nam_l0 s hs a r ha hr h58 k0 x1 x2 t x pl ht hx d (i + 1) (by omega) (by omega) (by omega) k (by omega)
    rw [wn1 (by omega), if_pos (c := 0 ≤ (a : Int)) (by omega), if_pos (c := (a : Int) ≤ (i : Int)) (by omega), if_pos (c := (i : Int) ≤ (s.size : Int)) (by omega)]
    repeat' split
    all_goals first
     | exact ⟨v, hv, h1⟩
     | exact ⟨_, rfl, bad⟩
     | exact ⟨_, rfl, fin⟩
  ·rw [if_neg (by omega), if_pos (c := 0 ≤ (a : Int)) (by omega), if_pos (c := (a : Int) ≤ (i : Int)) (by omega), if_pos (c := (i : Int) ≤ (s.size : Int)) (by omega)]
   split
   ·exact ⟨_, rfl, bad⟩
   ·exact ⟨_, rfl, fin⟩
theorem ch_58 {s : ByteArray} {r : Nat} (h : g4_ch.f s r = some 58) : r < s.size ∧ bt s r = 58 := by
 unfold g4_ch.f at h
 split at h
 ·rw [if_pos (by omega)] at h
  exact ⟨by omega, Option.some.inj h⟩
 ·cases h
theorem ch_45 {s : ByteArray} {r : Nat} (h : g4_ch.f s r = some 45) : r < s.size ∧ bt s r = 45 := by
 unfold g4_ch.f at h
 split at h
 ·rw [if_pos (by omega)] at h
  exact ⟨by omega, Option.some.inj h⟩
 ·cases h
def NoTurn (s : ByteArray) (a : Nat) : Prop := ¬ (a + 1 < s.size ∧ bt s a = 58 ∧ bt s ((a + 1 : Nat) : Int) = 45)
theorem nam_tot (s : ByteArray) (hs : s.size ≤ 20000) (a : Nat) (ha : a < s.size) (hm : NoTurn s a) (k0 : Int) (x1 : ByteArray) (x2 : Int) (t x : ByteArray) (pl : Int) (ht : t.size ≤ 90000) (hx : x.size ≤ 90000) (k : Nat) (hk : s.size + 10 ≤ k) :
  ∃ v, g4_named.f k s a k0 x1 x2 t x pl = some v ∧ OneOk s a v := by
 obtain ⟨k, rfl⟩ : ∃ m, k = m + 2 := ⟨k - 2, by omega⟩
 obtain ⟨r, hr, h1, h2, h3⟩ := word_f s hs a (by omega) (k + 2) (by omega)
 have bad : OneOk s a (k0, x1, x2, t, x, pl, (-1)) := .inl (by show (-1 : Int) < 0; decide)
 have h32 : wrap64 ((a : Int) + 32) = ((a + 32 : Nat) : Int) := wnk 32 (by omega) (by omega)
 have j1t : (a < r) → ∃ v, g4_named.j1 (k + 1) s a r true k0 x1 x2 t x pl = some v ∧ OneOk s a v := fun hlt => by
  rw [g4_named.j1, if_pos rfl, if_pos (by omega), if_pos (by omega), if_pos (by omega)]
  refine ⟨_, rfl, .inr ⟨⟨r, rfl, hlt, h2⟩, show SOk 6 (s.extract a r) t x from ⟨?_, ht, hx, fun _ => asc_ext s a r h2 h3, fun h => absurd h (by decide)⟩⟩⟩
  show (s.extract a r).size ≤ _
  rw [ext_size s a r h2]; omega
 have j0 : ∀ b, (b = false → a < r ∨ a = r ∧ bt s a = 58) → ∃ v, g4_named.j0 (k + 2) s a r b k0 x1 x2 t x pl = some v ∧ OneOk s a v := fun b hb => by
  rw [g4_named.j0]
  split
  ·exact ⟨_, rfl, bad⟩
  ·have hb' := hb (by simpa using ‹¬ b = true›)
   obtain ⟨c, hc⟩ := ch_tot s (r : Int) (by omega)
   rw [hc]
   simp only [Option.bind_some]
   split
   ·rename_i hc58
    subst hc58
    obtain ⟨g1, g2⟩ := ch_58 hc
    rw [wn1 (by omega)]
    obtain ⟨c2, hc2⟩ := ch_tot s ((r + 1 : Nat) : Int) (by omega)
    rw [hc2]
    simp only [Option.bind_some]
    by_cases h45 : c2 = 45
    ·subst h45
     obtain ⟨g3, g4⟩ := ch_45 hc2
     rcases hb' with h | ⟨rfl, h⟩
     ·exact j1t h
     ·exact absurd ⟨g3, h, g4⟩ hm
    ·rw [beq_eq_false_iff_ne.2 h45, g4_named.j1, if_neg (by decide), wn1 (by omega)]
     exact nam_l0 s hs a r h1 g1 g2 k0 x1 x2 t x pl ht hx (s.size - (r + 1)) (r + 1) (by omega) (by omega) (by omega) k (by omega)
   ·rename_i hc58
    rcases hb' with h | ⟨rfl, h⟩
    ·exact j1t h
    ·exfalso
     apply hc58
     unfold g4_ch.f at hc
     rw [if_pos (by omega), if_pos (by omega)] at hc
     exact (Option.some.inj hc).symm.trans h
 unfold g4_named.f
 rw [hr]
 simp only [Option.bind_some]
 rw [if_pos (c := 0 ≤ (a : Int)) (by omega), if_pos (c := (a : Int) < (s.size : Int)) (by omega)]
 split
 ·rename_i e
  have e2 : r = a := by omega
  split
  ·exact j0 _ (fun _ => .inr ⟨e2.symm, ‹_›⟩)
  ·exact j0 true (fun h => by cases h)
 ·exact j0 _ (fun _ => .inl (by omega))
end Go.Proofs.YtpbphelaeleikaaGreatDoor.PLt

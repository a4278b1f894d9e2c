import Derived.Test.YtpbphelaeleikaaGreatDoorXtLtE
import Derived.Test.YtpbphelaeleikaaGreatDoorXtTermW
namespace Go.Proofs.YtpbphelaeleikaaGreatDoor.PLt
open Go.RowKit Go.Proofs.YtpbphelaeleikaaGreatDoorW.PrintWords Go.Proofs.YtpbphelaeleikaaGreatDoorW.PrintLast Go.Proofs.YtpbphelaeleikaaGreatDoorW.PrintMore
set_option linter.unusedVariables false
set_option linter.unusedSimpArgs false
set_option maxRecDepth 10000
def ascL (l : List UInt8) : Bool := l.all (fun b => decide (b.toNat < 128))
def eqL (s t : List UInt8) : Bool := if ascL t = true then Lib.equalFold s t else false
def lowI (c : Int) : Int := if c ≥ 65 ∧ c ≤ 90 then c + 32 else c
theorem eqL_cons (x y : UInt8) (s t : List UInt8) (hx : x.toNat < 128) : eqL (x :: s) (y :: t) = if lowI x.toNat = lowI y.toNat then eqL s t else false := by
 have hy256 := y.toNat_lt
 have ha : ascL (y :: t) = (decide (y.toNat < 128) && ascL t) := rfl
 unfold eqL
 rw [ha]
 by_cases h : lowI x.toNat = lowI y.toNat
 ·have hy : y.toNat < 128 := by
   unfold lowI at h
   split at h <;> split at h <;> omega
  rw [if_pos h, decide_eq_true hy, Bool.true_and]
  have hf : Lib.foldEq x y = true := by
   unfold Lib.foldEq
   refine decide_eq_true ?_
   unfold lowI at h
   split at h <;> split at h <;> omega
  rw [Lib.equalFold_yes _ _ _ _ hf]
 ·rw [if_neg h]
  by_cases hy : y.toNat < 128
  ·have hf : Lib.foldEq x y = false := by
    unfold Lib.foldEq
    refine decide_eq_false (fun g => h ?_)
    unfold lowI
    split <;> split <;> omega
   rw [Lib.equalFold_no _ _ _ _ hf]
   split <;> rfl
  ·rw [decide_eq_false hy, Bool.false_and]
   rfl
theorem byte_at (s : ByteArray) (i : Nat) (h : i < s.size) : ∃ x : UInt8, s.data.toList.drop i = x :: s.data.toList.drop (i + 1) ∧ bt s (i : Int) = (x.toNat : Int) := by
 refine ⟨UInt8.ofNat (bt s i).toNat, Lib.drop_at (bt_get s i h), ?_⟩
 have := bt_range s (i : Int)
 rw [UInt8.toNat_ofNat']
 omega
theorem word_l0 (x : S43) (w : ByteArray) (hw : w.size = x.f1.size) (hs : w.size ≤ 90000) (ha : Asc x.f1) : ∀ (d i : Nat), w.size - i ≤ d → i ≤ w.size → ∀ k, 4 * d + 1 ≤ k →
  g4_Word.l0 k w i x.f0 x.f1 x.f2.f0 x.f2.f1 x.f2.f2 x.f3 = some (eqL (x.f1.data.toList.drop i) (w.data.toList.drop i))
 | d, i, hd, hi, k, hk => by
  by_cases hlt : i < w.size
  ·cases d with
   | zero => omega
   | succ d =>
    obtain ⟨k, rfl⟩ : ∃ m, k = m + 4 := ⟨k - 4, by omega⟩
    obtain ⟨a, ea, ba⟩ := byte_at x.f1 i (by omega)
    obtain ⟨b, eb, bb⟩ := byte_at w i hlt
    have hb256 := b.toNat_lt
    have ha128 : a.toNat < 128 := by
     have h1 : a ∈ x.f1.data.toList.drop i := by rw [ea]; exact List.mem_cons_self
     have h2 := List.all_eq_true.1 ha a (List.mem_of_mem_drop h1)
     exact of_decide_eq_true h2
    rw [ea, eb, eqL_cons a b _ _ ha128]
    have ih := word_l0 x w hw hs ha d (i + 1) (by omega) (by omega) k (by omega)
    have j4 : ∀ (p q : Int) (c : Bool), p = lowI a.toNat → (q = b.toNat) → (c = decide (65 ≤ b.toNat ∧ b.toNat ≤ 90)) → g4_Word.j4 (k + 1) w i p q c x.f0 x.f1 x.f2.f0 x.f2.f1 x.f2.f2 x.f3 = some (if lowI a.toNat = lowI b.toNat then eqL (x.f1.data.toList.drop (i + 1)) (w.data.toList.drop (i + 1)) else false) := by
     rintro p q c rfl rfl rfl
     rw [g4_Word.j4, wn1 (by omega), ih]
     by_cases hc : 65 ≤ b.toNat ∧ b.toNat ≤ 90
     ·have hl : lowI b.toNat = ((b.toNat : Int) + 32) % 256 := by unfold lowI; rw [if_pos (by omega)]; omega
      rw [decide_eq_true hc, if_pos rfl, hl]
      split <;> rfl
     ·have hl : lowI b.toNat = (b.toNat : Int) := by unfold lowI; rw [if_neg (by omega)]
      rw [decide_eq_false hc, if_neg (by decide), hl]
      split <;> rfl
    have j3 : ∀ p : Int, p = lowI a.toNat → g4_Word.j3 (k + 2) w i p (b.toNat : Int) x.f0 x.f1 x.f2.f0 x.f2.f1 x.f2.f2 x.f3 = some (if lowI a.toNat = lowI b.toNat then eqL (x.f1.data.toList.drop (i + 1)) (w.data.toList.drop (i + 1)) else false) := fun p hp => by
     rw [g4_Word.j3]
     split
     ·exact j4 p _ _ hp rfl (by rw [decide_eq_decide]; omega)
     ·exact j4 p _ _ hp rfl (decide_eq_false (by omega)).symm
    have j2 : ∀ c, c = decide (65 ≤ a.toNat ∧ a.toNat ≤ 90) → g4_Word.j2 (k + 3) w i (a.toNat : Int) (b.toNat : Int) c x.f0 x.f1 x.f2.f0 x.f2.f1 x.f2.f2 x.f3 = some (if lowI a.toNat = lowI b.toNat then eqL (x.f1.data.toList.drop (i + 1)) (w.data.toList.drop (i + 1)) else false) := fun c hc => by
     subst hc
     rw [g4_Word.j2]
     by_cases hc : 65 ≤ a.toNat ∧ a.toNat ≤ 90
     ·rw [decide_eq_true hc, if_pos rfl]
      exact j3 _ (by unfold lowI; rw [if_pos (by omega)]; omega)
     ·rw [decide_eq_false hc, if_neg (by decide)]
      exact j3 _ (by unfold lowI; rw [if_neg (by omega)])
    rw [g4_Word.l0, if_pos (by omega), if_pos (by omega), if_pos (by omega), ba, bb]
    split
    ·exact j2 _ (by rw [decide_eq_decide]; omega)
    ·exact j2 _ (decide_eq_false (by omega)).symm
  ·obtain ⟨k, rfl⟩ : ∃ m, k = m + 1 := ⟨k - 1, by omega⟩
   rw [g4_Word.l0, if_neg (by omega), List.drop_eq_nil_of_le (by rw [← Lib.size_eq]; omega), List.drop_eq_nil_of_le (by rw [← Lib.size_eq]; omega)]
   rfl
theorem word_eq2 (x : S43) (hx : SymOk x) (w : ByteArray) : ∃ b, WordOk x w b ∧ ∀ k, 400000 ≤ k → g4_Word.f k x.f0 x.f1 x.f2.f0 x.f2.f1 x.f2.f2 x.f3 w = some b := by
 have hs := hx.1
 by_cases c : x.f0 = 6 ∧ w.size = x.f1.size
 ·have ha := hx.2.2.2.1 c.1
  refine ⟨fEq x.f1 w, ⟨fun _ _ => ⟨ha, by omega, rfl⟩, fun h => absurd c h⟩, fun k hk => ?_⟩
  obtain ⟨k, rfl⟩ : ∃ m, k = m + 1 := ⟨k - 1, by omega⟩
  have h := word_l0 x w c.2 (by omega) ha w.size 0 (by omega) (by omega) k (by omega)
  unfold g4_Word.f
  have e : ((x.f1.size : Int) != (w.size : Int)) = false := by rw [c.2]; simp
  rw [if_pos c.1, e, g4_Word.j0, if_neg (by decide)]
  exact h
 ·refine ⟨false, ⟨fun h1 h2 => absurd ⟨h1, h2⟩ c, fun _ => rfl⟩, fun k hk => ?_⟩
  obtain ⟨k, rfl⟩ : ∃ m, k = m + 1 := ⟨k - 1, by omega⟩
  unfold g4_Word.f
  by_cases d : x.f0 = 6
  ·have e : ((x.f1.size : Int) != (w.size : Int)) = true := bne_iff_ne.2 (fun h => c ⟨d, by omega⟩)
   rw [if_pos d, e, g4_Word.j0, if_pos rfl]
  ·rw [if_neg d, g4_Word.j0, if_pos rfl]
end Go.Proofs.YtpbphelaeleikaaGreatDoor.PLt

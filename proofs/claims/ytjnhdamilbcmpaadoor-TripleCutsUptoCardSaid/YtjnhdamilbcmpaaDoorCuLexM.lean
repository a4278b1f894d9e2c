import Derived.Test.YtjnhdamilbcmpaaDoorCuLexL
set_option linter.unusedVariables false
set_option linter.unusedSimpArgs false
namespace Go.Proofs.YtjnhdamilbcmpaaDoor.PTm
open Go.RowKit Go.Proofs.YtjnhdamilbcmpaaDoorW.PrintWords Go.Proofs.YtjnhdamilbcmpaaDoorW.PrintLast Go.Proofs.YtjnhdamilbcmpaaDoorW.PrintMore
theorem stop_ascii (t : ByteArray) (h : ∀ j : Nat, j < t.size → bt t ((j : Nat) : Int) < 128) : ∀ (k i : Nat), i ≤ t.size → t.size - i ≤ k → stop t k i = t.size
 | 0, i, hi, hk => by
  show i = t.size
  omega
 | k + 1, i, hi, hk => by
  simp only [stop]
  by_cases hlt : i < t.size
  ·have hd : dec (t.extract i t.size) = (val (t.extract i t.size) 1, 1) := by
    unfold dec
    rw [if_pos]
    rw [okn1, decide_eq_true_eq, extract_size t i hi]
    have := bt_extract t i t.size 0 (Nat.le_refl _) (by omega)
    have h2 := h i hlt
    rw [show ((0 : Nat) : Int) = 0 from rfl, Nat.add_zero] at this
    rw [this]
    omega
   rw [if_pos hlt, hd]
   dsimp only
   rw [if_neg (by decide)]
   exact stop_ascii t h k (i + 1) (by omega) (by omega)
  ·rw [if_neg hlt]
   omega
theorem well_ascii (t : ByteArray) (h : ∀ j : Nat, j < t.size → bt t ((j : Nat) : Int) < 128) : Well t := stop_ascii t h t.size 0 (Nat.zero_le _) (Nat.le_refl _)
theorem well_lit1 (c : UInt8) (h : c.toNat < 128) : Well (⟨#[c]⟩ : ByteArray) := by
 refine well_ascii _ fun j hj => ?_
 obtain rfl : j = 0 := by
  have : (⟨#[c]⟩ : ByteArray).size = 1 := rfl
  omega
 show ((c.toNat : Nat) : Int) < 128
 omega
theorem letter_lt (c : Int) (h : letterB c = true) : c < 128 := by
 unfold letterB at h
 rw [decide_eq_true_eq] at h
 omega
theorem digit_lt (c : Int) (h : digitB c = true) : c < 128 := by
 unfold digitB at h
 rw [decide_eq_true_eq] at h
 omega
theorem well_blank (t : ByteArray) (ht : blankB t = true) : Well t := by
 unfold blankB at ht
 rw [Bool.and_eq_true] at ht
 refine well_ascii t fun j hj => ?_
 have := List.all_eq_true.1 ht.2 j (List.mem_range.2 hj)
 unfold okB at this
 rw [Bool.or_eq_true, Bool.and_eq_true] at this
 rcases this with h | h
 ·exact letter_lt _ h
 ·exact digit_lt _ h.2
theorem well_tag (x : ByteArray) (hx : tagB x = true) : Well x := by
 unfold tagB at hx
 rw [Bool.and_eq_true, tagQ_Qe, tagQe_M] at hx
 refine well_ascii x fun j hj => ?_
 have hj2 : j < (bys x).length := by rw [bys_length]; exact hj
 have e := (List.getElem?_eq_some_iff.1 (bys_get x j hj)).2
 have := tagM_all (bys x) true true true hx.1 _ (List.getElem_mem hj2)
 rw [e] at this
 unfold langF smallB at this
 simp only [Bool.or_eq_true, decide_eq_true_eq, beq_iff_eq] at this
 rcases this with h | h | h
 ·omega
 ·exact digit_lt _ h
 ·omega
theorem well_iri (t : ByteArray) (ht : iriB t = true) : Well t := ((iriB_iff t).1 ht).2.2.1
theorem well_val (t : ByteArray) (hs : t.size ≤ 1100000) (ht : valB t = true) : Well t := by
 unfold valB at ht
 rw [Bool.and_eq_true, validB_stop t (by omega), decide_eq_true_eq, decide_eq_true_eq] at ht
 exact ht.2
theorem well_written (t : ByteArray) (hs : t.size ≤ 1100000) (ht : Well t) : Well (writtenB t) := by
 unfold writtenB writtenL
 rw [str_append, str_append]
 refine well_app (well_app (well_lit1 34 (by decide)) ?_) (well_lit1 34 (by decide))
 exact escaped_well t (by omega) t.size 0 (Nat.zero_le _) (Nat.le_refl _) ht
end Go.Proofs.YtjnhdamilbcmpaaDoor.PTm

import Derived.Test.YtegmcmndjnbkaaaDoorBaPureMays
set_option linter.unusedVariables false
set_option linter.unusedSimpArgs false
namespace Go.Proofs.YtegmcmndjnbkaaaDoor.PTerm
open Go.RowKit Go.Proofs.YtegmcmndjnbkaaaDoorW.PrintWords Go.Proofs.YtegmcmndjnbkaaaDoorW.PrintLast Go.Proofs.YtegmcmndjnbkaaaDoorW.PrintMore
def rep (e : ByteArray) : Nat → ByteArray
  | 0 => ⟨#[]⟩
  | n + 1 => rep e n ++ e
theorem rep_size (e : ByteArray) : ∀ n, (rep e n).size = n * e.size
  | 0 => by simp [rep]; rfl
  | n + 1 => by rw [rep, ByteArray.size_append, rep_size e n, Nat.succ_mul]
theorem often_loop (r : Int) (n : Nat) (hn : n ≤ 1000000) (he : (Utf8.encode r).size ≤ 4) : ∀ (d i k : Nat), n - i = d → i ≤ n → d + 1 ≤ k → rhizomelaw02_often.l0 k r (n : Nat) (rep (Utf8.encode r) i) (i : Nat) = some (rep (Utf8.encode r) n)
  | 0, i, k, hd, hi, hk => by
    obtain ⟨m, rfl⟩ : ∃ m, k = m + 1 := ⟨k - 1, by omega⟩
    simp only [rhizomelaw02_often.l0]
    rw [if_neg (by omega), show i = n by omega]
  | d + 1, i, k, hd, hi, hk => by
    obtain ⟨m, rfl⟩ : ∃ m, k = m + 1 := ⟨k - 1, by omega⟩
    have hz : i * (Utf8.encode r).size ≤ i * 4 := Nat.mul_le_mul_left _ he
    simp only [rhizomelaw02_often.l0]
    rw [if_pos (by omega), if_pos (by rw [rep_size]; omega), w64n (n := (i : Int) + 1) (by omega) (by omega), show ((i : Int) + 1) = ((i + 1 : Nat) : Int) by omega]
    exact often_loop r n hn he d (i + 1) m (by omega) (by omega) (by omega)
theorem often_eq (r : Int) (n : Nat) (hn : n ≤ 1000000) (he : (Utf8.encode r).size ≤ 4) (k : Nat) (hk : n + 1 ≤ k) : rhizomelaw02_often.f k r (n : Nat) = some (rep (Utf8.encode r) n) := often_loop r n hn he n 0 k (by omega) (by omega) hk
theorem bt_left (a b : ByteArray) (i : Nat) (h : i < a.size) : bt (a ++ b) (i : Nat) = bt a (i : Nat) := by
  unfold bt
  simp only [Int.toNat_natCast]
  rw [dif_pos (by rw [ByteArray.size_append]; omega), dif_pos h, ByteArray.getElem_append_left h]
theorem bt_right (a b : ByteArray) (i : Nat) (h : i < b.size) : bt (a ++ b) ((a.size + i : Nat) : Int) = bt b (i : Nat) := by
  unfold bt
  simp only [Int.toNat_natCast]
  rw [dif_pos (by rw [ByteArray.size_append]; omega), dif_pos h, ByteArray.getElem_append_right (by omega)]
  simp
theorem rep_bt (e : ByteArray) (j : Nat) (hj : j < e.size) : ∀ n i, i < n → bt (rep e n) ((i * e.size + j : Nat) : Int) = bt e (j : Nat)
  | n + 1, i, hi => by
    rw [rep]
    by_cases h : i = n
    · subst h
      have := bt_right (rep e i) e j hj
      rw [rep_size] at this
      exact this
    · have hlt : i * e.size + j < (rep e n).size := by
        rw [rep_size]
        have : (i + 1) * e.size ≤ n * e.size := Nat.mul_le_mul_right _ (by omega)
        rw [Nat.succ_mul] at this
        omega
      rw [bt_left _ _ _ hlt]
      exact rep_bt e j hj n i (by omega)
theorem ascii_stop (s : ByteArray) (h : ∀ j, j < s.size → bt s (j : Nat) < 128) : ∀ (k i : Nat), i ≤ s.size → s.size - i ≤ k → stop s k i = s.size
  | 0, i, hi, hk => by simp only [stop]; omega
  | k + 1, i, hi, hk => by
    simp only [stop]
    by_cases hlt : i < s.size
    · have hb := bt_extract s i s.size 0 (Nat.le_refl _) (by omega)
      have hd : (dec (s.extract i s.size)).2 = 1 := by
        unfold dec
        rw [if_pos]
        simp only [okn, if_true, decide_eq_true_eq]
        rw [extract_size s i (by omega)]
        have := h i hlt
        rw [show ((0 : Nat) : Int) = 0 from rfl, Nat.add_zero] at hb
        exact ⟨by omega, by rw [hb]; exact this⟩
      rw [if_pos hlt, hd, if_neg (by decide)]
      exact ascii_stop s h k (i + 1) (by omega) (by omega)
    · rw [if_neg hlt]; omega
theorem two_stop (s : ByteArray) (n : Nat) (hz : s.size = n * 2) (h0 : ∀ i, i < n → bt s ((i * 2 + 0 : Nat) : Int) = 195) (h1 : ∀ i, i < n → bt s ((i * 2 + 1 : Nat) : Int) = 169) : ∀ (k i : Nat), i ≤ n → s.size - i * 2 ≤ k → stop s k (i * 2) = s.size
  | 0, i, hi, hk => by simp only [stop]; omega
  | k + 1, i, hi, hk => by
    simp only [stop]
    by_cases hlt : i * 2 < s.size
    · have hb0 := bt_extract s (i * 2) s.size 0 (Nat.le_refl _) (by omega)
      have hb1 := bt_extract s (i * 2) s.size 1 (Nat.le_refl _) (by omega)
      rw [h0 i (by omega)] at hb0
      rw [h1 i (by omega)] at hb1
      rw [show ((0 : Nat) : Int) = 0 from rfl] at hb0
      rw [show ((1 : Nat) : Int) = 1 from rfl] at hb1
      have hsz := extract_size s (i * 2) (by omega)
      have hd : (dec (s.extract (i * 2) s.size)).2 = 2 := by
        unfold dec
        rw [if_neg, if_pos]
        · simp only [okn, tl, hb0, hb1, hsz]
          simp
          omega
        · simp only [okn, hb0]
          simp
      rw [if_pos hlt, hd, if_neg (by decide)]
      have := two_stop s n hz h0 h1 k (i + 1) (by omega) (by omega)
      rw [show (i + 1) * 2 = i * 2 + (2 : Int).toNat by simp; omega] at this
      exact this
    · rw [if_neg hlt]; omega
def irit : ByteArray := rep (⟨#[97]⟩ : ByteArray) 1000
def txtt : ByteArray := rep (⟨#[195, 169]⟩ : ByteArray) 2000
def tagt : ByteArray := ⟨#[97, 98, 99, 100, 101, 102, 103, 104, 105, 106, 107, 108, 109, 110, 111, 112, 113, 114, 115, 116, 117, 118, 119, 120, 121, 122, 45, 49, 50, 51, 52, 53, 54, 55, 56]⟩
theorem irit_size : irit.size = 1000 := by unfold irit; rw [rep_size]; rfl
theorem txtt_size : txtt.size = 4000 := by unfold txtt; rw [rep_size]; rfl
theorem irit_bt (j : Nat) (h : j < 1000) : bt irit (j : Nat) = 97 := by
  have := rep_bt (⟨#[97]⟩ : ByteArray) 0 (by decide) 1000 j h
  rw [show (⟨#[97]⟩ : ByteArray).size = 1 from rfl, Nat.mul_one, Nat.add_zero] at this
  exact this.trans (by decide +kernel)
theorem irit_iri : iriB irit = true := by
  rw [iriB_iff]
  refine ⟨by rw [irit_size]; omega, by rw [irit_size]; omega, ascii_stop irit (fun j hj => ?_) _ 0 (by omega) (by omega), fun j hj => ?_⟩
  · rw [irit_bt j (by rw [irit_size] at hj; exact hj)]; omega
  · rw [irit_bt j (by rw [irit_size] at hj; exact hj)]; rfl
theorem txtt_val : valB txtt = true := by
  unfold valB
  rw [validB_stop _ (by rw [txtt_size]; omega), decide_eq_true (by rw [txtt_size]; omega), Bool.true_and]
  have := two_stop txtt 2000 (by rw [txtt_size]) (fun i hi => (rep_bt (⟨#[195, 169]⟩ : ByteArray) 0 (by decide) 2000 i hi).trans (by decide +kernel)) (fun i hi => (rep_bt (⟨#[195, 169]⟩ : ByteArray) 1 (by decide) 2000 i hi).trans (by decide +kernel)) txtt.size 0 (by omega) (by omega)
  rw [Nat.zero_mul] at this
  rw [this, decide_eq_true rfl]
theorem cut_size (n : Nat) (h : n ≤ 1000) : (irit.extract 0 n).size = n := by rw [ByteArray.size_extract, irit_size]; omega
theorem cut_blank : blankB (irit.extract 0 64) = true := by
  unfold blankB
  rw [cut_size 64 (by omega), decide_eq_true (by omega), Bool.true_and, List.all_eq_true]
  intro j hj
  have hj := List.mem_range.mp hj
  unfold okB
  rw [bt_extract irit 0 64 j (by rw [irit_size]; omega) (by omega), Nat.zero_add, irit_bt j (by omega)]
  rfl
theorem emptyv : valB (⟨#[]⟩ : ByteArray) = true := by decide +kernel
theorem tagt_ok : tagB tagt = true := by decide +kernel
theorem empty_tag : tagB (⟨#[]⟩ : ByteArray) = false := by decide +kernel
theorem empty_iri : iriB (⟨#[]⟩ : ByteArray) = false := by decide +kernel
theorem long_iri : iriB (irit ++ (⟨#[97]⟩ : ByteArray)) = false := by
  cases h : iriB (irit ++ (⟨#[97]⟩ : ByteArray)) with
  | false => rfl
  | true =>
    have := ((iriB_iff _).1 h).2.1
    rw [ByteArray.size_append, irit_size, lit1] at this
    omega
theorem long_val : valB (txtt ++ (⟨#[97]⟩ : ByteArray)) = false := by
  unfold valB
  rw [decide_eq_false (by rw [ByteArray.size_append, txtt_size, lit1]; omega), Bool.false_and]
theorem long_tag : tagB (tagt ++ (⟨#[49]⟩ : ByteArray)) = false := by
  unfold tagB
  rw [decide_eq_false (by rw [ByteArray.size_append, lit1, show tagt.size = 35 from rfl]; omega), Bool.and_false]
theorem long_blank : blankB (irit.extract 0 65) = false := by
  unfold blankB
  rw [cut_size 65 (by omega), decide_eq_false (by omega), Bool.false_and]
theorem irit_ne : (irit.toList != xsd) = true := by
  rw [bne_iff_ne]
  intro h
  have := congrArg List.length h
  rw [Lib.toList_data, ← Lib.size_eq, irit_size] at this
  simp [xsd] at this
theorem b1 : mayB 1 irit (⟨#[]⟩ : ByteArray) = true := by
  unfold mayB
  rw [if_pos rfl, irit_iri, Lib.toList_data]; rfl
theorem b2 : mayB 3 txtt (⟨#[]⟩ : ByteArray) = true := by
  unfold mayB
  rw [if_neg (by decide), if_neg (by decide), if_pos rfl, txtt_val, Lib.toList_data]; rfl
theorem b3 : mayB 4 (⟨#[]⟩ : ByteArray) tagt = true := by
  unfold mayB
  rw [if_neg (by decide), if_neg (by decide), if_neg (by decide), if_pos rfl, emptyv, tagt_ok]; rfl
theorem b4 : mayB 2 (irit.extract 0 64) (⟨#[]⟩ : ByteArray) = true := by
  unfold mayB
  rw [if_neg (by decide), if_pos rfl, cut_blank, Lib.toList_data]; rfl
theorem b5 : mayB 5 (⟨#[]⟩ : ByteArray) irit = true := by
  unfold mayB
  rw [if_neg (by decide), if_neg (by decide), if_neg (by decide), if_neg (by decide), if_pos rfl, emptyv, irit_iri, irit_ne]; rfl
theorem c1 : mayB 1 (irit ++ (⟨#[97]⟩ : ByteArray)) (⟨#[]⟩ : ByteArray) = false := by
  unfold mayB
  rw [if_pos rfl, long_iri]; rfl
theorem c2 : mayB 3 (txtt ++ (⟨#[97]⟩ : ByteArray)) (⟨#[]⟩ : ByteArray) = false := by
  unfold mayB
  rw [if_neg (by decide), if_neg (by decide), if_pos rfl, long_val]; rfl
theorem c3 : mayB 4 (⟨#[]⟩ : ByteArray) (tagt ++ (⟨#[49]⟩ : ByteArray)) = false := by
  unfold mayB
  rw [if_neg (by decide), if_neg (by decide), if_neg (by decide), if_pos rfl, long_tag, Bool.and_false]
theorem c4 : mayB 2 (irit.extract 0 65) (⟨#[]⟩ : ByteArray) = false := by
  unfold mayB
  rw [if_neg (by decide), if_pos rfl, long_blank]; rfl
def xsdt : ByteArray := ⟨#[104, 116, 116, 112, 58, 47, 47, 119, 119, 119, 46, 119, 51, 46, 111, 114, 103, 47, 50, 48, 48, 49, 47, 88, 77, 76, 83, 99, 104, 101, 109, 97, 35, 115, 116, 114, 105, 110, 103]⟩
theorem c5 : mayB 5 (⟨#[]⟩ : ByteArray) xsdt = false := by
  unfold mayB
  rw [if_neg (by decide), if_neg (by decide), if_neg (by decide), if_neg (by decide), if_pos rfl, Lib.toList_data, show (xsdt.data.toList != xsd) = false by decide +kernel, Bool.and_false, Bool.and_false]
theorem c6 : mayB 1 (⟨#[]⟩ : ByteArray) (⟨#[]⟩ : ByteArray) = false := by
  unfold mayB
  rw [if_pos rfl, empty_iri]; rfl
theorem c7 : mayB 4 (⟨#[]⟩ : ByteArray) (⟨#[]⟩ : ByteArray) = false := by
  unfold mayB
  rw [if_neg (by decide), if_neg (by decide), if_neg (by decide), if_pos rfl, empty_tag, Bool.and_false]
end Go.Proofs.YtegmcmndjnbkaaaDoor.PTerm

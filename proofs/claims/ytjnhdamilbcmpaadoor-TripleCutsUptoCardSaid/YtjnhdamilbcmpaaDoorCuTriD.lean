import Derived.Test.YtjnhdamilbcmpaaDoorCuTriB
import Derived.Test.YtjnhdamilbcmpaaDoorCuTriC
import Derived.Test.YtjnhdamilbcmpaaDoorCuPTmx17
set_option linter.unusedVariables false
set_option linter.unusedSimpArgs false
namespace Go.Proofs.YtjnhdamilbcmpaaDoor.PTm
open Go.RowKit Go.Proofs.YtjnhdamilbcmpaaDoorW.PrintWords Go.Proofs.YtjnhdamilbcmpaaDoorW.PrintLast Go.Proofs.YtjnhdamilbcmpaaDoorW.PrintMore
theorem doc_size : ∀ l : List Tr, (docB l).size ≤ 6 * (l.map szT).sum + 35 * l.length
 | [] => Nat.zero_le _
 | x :: l => by
  have h1 := tripB_size x
  have h2 := doc_size l
  rw [docB, ByteArray.size_append, ByteArray.size_append, List.map_cons, List.sum_cons, List.length_cons, show (⟨#[10]⟩ : ByteArray).size = 1 from rfl]
  omega
def okL (l : List Tr) : Bool := l.all addB
theorem okL_iff (l : List Tr) : okL l = true ↔ ∀ x ∈ l, addB x = true := List.all_eq_true
theorem drop_at (l : List Tr) (i : Nat) (h : i < l.length) : l.drop i = rd_T38 l ((i : Nat) : Int) :: l.drop (i + 1) := by
 rw [List.drop_eq_getElem_cons h]
 congr 1
 unfold rd_T38
 simp [List.getD_eq_getElem?_getD, List.getElem?_eq_getElem h]
theorem txt_loop (l : List Tr) (hl : l.length ≤ 100000) (hs : ∀ x ∈ l, SmallT x) : ∀ (n i : Nat) (bs : List UInt8) (k : Nat), i + n = l.length → bs.length + (docB (l.drop i)).size ≤ 1048576 → 4900000 + n + 1 ≤ k →
  nt_Text.l0 k l bs ((i : Nat) : Int) = some (if okL (l.drop i) = true then ((⟨(bs ++ (docB (l.drop i)).data.toList).toArray⟩ : ByteArray), 0) else (nob, 2))
 | 0, i, bs, k, hi, hb, hk => by
  obtain ⟨k, rfl⟩ : ∃ q, k = q + 1 := ⟨k - 1, by omega⟩
  rw [nt_Text.l0, if_neg (by omega), if_neg (by omega), List.drop_eq_nil_of_le (by omega)]
  rw [if_pos (show okL [] = true from rfl)]
  rw [show (docB []).data.toList = [] from rfl, List.append_nil]
 | n + 1, i, bs, k, hi, hb, hk => by
  obtain ⟨k, rfl⟩ : ∃ q, k = q + 1 := ⟨k - 1, by omega⟩
  have hlt : i < l.length := by omega
  have hd := drop_at l i hlt
  have hx : rd_T38 l ((i : Nat) : Int) ∈ l := List.mem_of_mem_drop (hd ▸ List.mem_cons_self ..)
  rw [nt_Text.l0, if_pos (by omega), if_pos (by omega)]
  rw [hd] at hb ⊢
  have hsx := hs _ hx
  generalize rd_T38 l ((i : Nat) : Int) = x at hsx hb ⊢
  rw [docB, ByteArray.size_append, ByteArray.size_append, show (⟨#[10]⟩ : ByteArray).size = 1 from rfl] at hb
  rw [add_q x hsx k (by omega), Option.bind_some]
  by_cases ca : addB x = true
  ·rw [if_pos ca, tt_q x hsx (fol_of ca) k (by omega), Option.bind_some]
   dsimp only
   rw [if_pos (by omega), if_pos (by omega), w64n (by omega) (by omega), show (i : Int) + 1 = ((i + 1 : Nat) : Int) by omega]
   rw [txt_loop l hl hs n (i + 1) _ k (by omega) (by
    have e : (tripB x ++ (⟨#[10]⟩ : ByteArray)).data.toList.length = (tripB x).size + 1 := by
     rw [← Lib.size_eq, ByteArray.size_append]
     rfl
    rw [List.length_append, e]
    omega) (by omega)]
   have e2 : okL (x :: l.drop (i + 1)) = okL (l.drop (i + 1)) := by
    unfold okL
    rw [List.all_cons, ca, Bool.true_and]
   rw [e2, docB]
   have e3 : ∀ p q : ByteArray, (p ++ q).data.toList = p.data.toList ++ q.data.toList := fun p q => by
    rw [ByteArray.data_append, Array.toList_append]
   rw [e3 _ (docB _), List.append_assoc]
  ·rw [if_neg ca]
   have e2 : okL (x :: l.drop (i + 1)) = false := by
    unfold okL
    rw [List.all_cons, (Bool.not_eq_true _).mp ca]
    rfl
   rw [e2, if_neg Bool.false_ne_true]
   rfl
theorem text_f (l : List Tr) (hl : l.length ≤ 100000) (hs : ∀ x ∈ l, SmallT x) (hd : (docB l).size ≤ 1048576) (k : Nat) (hk : 5200000 ≤ k) : nt_Text.f k l = some (if okL l = true then (docB l, 0) else (nob, 2)) := by
 unfold nt_Text.f
 have := txt_loop l hl hs l.length 0 [] k (Nat.zero_add _) (by rw [List.drop_zero, List.length_nil]; omega) (by omega)
 rw [List.drop_zero, List.nil_append] at this
 exact this
theorem well_text (n : Int) (t x : ByteArray) (ht : t.size ≤ 1100000) (hm : mayB n t x = true) : Well (textB n t x) := by
 unfold mayB at hm
 by_cases n1 : n = 1
 ·subst n1
  rw [if_pos rfl, Bool.and_eq_true] at hm
  unfold textB
  rw [if_pos rfl]
  exact well_app (well_app (well_lit1 60 (by decide)) (well_iri t hm.1)) (well_lit1 62 (by decide))
 rw [if_neg n1] at hm
 by_cases n2 : n = 2
 ·subst n2
  rw [if_pos rfl, Bool.and_eq_true] at hm
  unfold textB
  rw [if_neg (by decide), if_pos rfl]
  exact well_app (well_app (p := (⟨#[95]⟩ : ByteArray)) (q := (⟨#[58]⟩ : ByteArray)) (well_lit1 95 (by decide)) (well_lit1 58 (by decide))) (well_blank t hm.1)
 rw [if_neg n2] at hm
 by_cases n3 : n = 3
 ·subst n3
  rw [if_pos rfl, Bool.and_eq_true] at hm
  unfold textB
  rw [if_neg (by decide), if_neg (by decide), if_neg (by decide), if_neg (by decide)]
  exact well_written t ht (well_val t ht hm.1)
 rw [if_neg n3] at hm
 by_cases n4 : n = 4
 ·subst n4
  rw [if_pos rfl, Bool.and_eq_true] at hm
  unfold textB
  rw [if_neg (by decide), if_neg (by decide), if_pos rfl]
  exact well_app (well_app (well_written t ht (well_val t ht hm.1)) (well_lit1 64 (by decide))) (well_tag x hm.2)
 rw [if_neg n4] at hm
 by_cases n5 : n = 5
 ·subst n5
  rw [if_pos rfl, Bool.and_eq_true, Bool.and_eq_true] at hm
  unfold textB
  rw [if_neg (by decide), if_neg (by decide), if_neg (by decide), if_pos rfl]
  exact well_app (well_app (well_app (well_written t ht (well_val t ht hm.1)) (well_app (p := (⟨#[94]⟩ : ByteArray)) (q := (⟨#[94, 60]⟩ : ByteArray)) (well_lit1 94 (by decide)) (well_app (p := (⟨#[94]⟩ : ByteArray)) (q := (⟨#[60]⟩ : ByteArray)) (well_lit1 94 (by decide)) (well_lit1 60 (by decide))))) (well_iri x hm.2.1)) (well_lit1 62 (by decide))
 ·rw [if_neg n5] at hm
  cases hm
theorem well_trip (x : Tr) (hs : SmallT x) (h : addB x = true) : Well (tripB x) := by
 obtain ⟨m1, m2, m3⟩ := may_of h
 obtain ⟨⟨h1, _⟩, ⟨h2, _⟩, ⟨h3, _⟩⟩ := hs
 have w32 : Well sp1 := well_lit1 32 (by decide)
 unfold tripB tripleB
 exact well_app (well_app (well_app (well_app (well_app (well_text _ _ _ h1 m1) w32) (well_text _ _ _ h2 m2)) w32) (well_text _ _ _ h3 m3)) (well_app (p := (⟨#[32]⟩ : ByteArray)) (q := (⟨#[46]⟩ : ByteArray)) (well_lit1 32 (by decide)) (well_lit1 46 (by decide)))
theorem sum_le {α : Type} (f : α → Nat) : ∀ (l : List α) (x : α), x ∈ l → f x ≤ (l.map f).sum
 | y :: l, x, h => by
  rw [List.map_cons, List.sum_cons]
  rcases List.mem_cons.1 h with rfl | h
  ·omega
  ·have := sum_le f l x h
   omega
theorem all_bd (s : ByteArray) (hs : s.size ≤ 200000) : Bd (allB s).1 ∧ (allB s).1.length ≤ s.size ∧ (((allB s).1.map fun x => x.f1.size + x.f2.f1.size + x.f2.f2.size).sum ≤ 4 * s.size) := by
 obtain ⟨w1, w2⟩ := lexN_w s.size (bys s).length (bys s) (Nat.le_refl _)
 rw [bys_length] at w1 w2
 have hbd : Bd (lexN s.size (bys s)).1 := by
  intro q hq
  have := sum_le (fun x : Sm => x.f1.size + x.f2.f1.size + x.f2.f2.size) _ q hq
  have w3 : ((lexN s.size (bys s)).1.map fun x : Sm => x.f1.size + x.f2.f1.size + x.f2.f2.size).sum ≤ 4 * s.size := w2
  have h4 : q.f1.size + q.f2.f1.size + q.f2.f2.size ≤ 4 * s.size := Nat.le_trans this w3
  omega
 have hnil : Bd ([] : List Sm) := fun _ h => by cases h
 unfold allB
 by_cases c : stp s < s.size
 ·rw [if_pos c]
  exact ⟨hnil, Nat.zero_le _, Nat.zero_le _⟩
 ·rw [if_neg c]
  cases (lexN s.size (bys s)).2 with
  | none => exact ⟨hbd, w1, w2⟩
  | some q => exact ⟨hnil, Nat.zero_le _, Nat.zero_le _⟩
def prB (s : ByteArray) : List Tr × Int × Int := if (allB s).2.2 = 0 then prAns s (parseL ((allB s).1.length + 1) (allB s).1 []) else ([], (allB s).2.1, (allB s).2.2)
theorem parse_B (s : ByteArray) (hs : s.size ≤ 200000) (k : Nat) (hk : 5300000 ≤ k) : nt_Parse.f k s = some (prB s) := by
 obtain ⟨h1, h2, _⟩ := all_bd s hs
 unfold nt_Parse.f prB
 rw [all_B s hs k, Option.bind_some]
 by_cases c : (allB s).2.2 = 0
 ·rw [if_pos c]
  refine (if_neg (fun g => g c)).trans ?_
  exact parse_f s _ _ [] k (Nat.le_refl _) h1 (by omega) (by rw [List.length_nil]; omega)
 ·rw [if_neg c]
  exact if_pos c
theorem allB_err (s : ByteArray) : (allB s).2.2 = 0 ∨ (allB s).2.2 = 4 := by
 unfold allB
 split
 ·exact .inr rfl
 ·split
  ·exact .inl rfl
  ·exact .inr rfl
theorem allB_err4 (s : ByteArray) (h : ¬ (allB s).2.2 = 0) : (allB s).2.2 = 4 := (allB_err s).resolve_left h
theorem same_loop (l : List Tr) (hl : l.length ≤ 1000000000) : ∀ (d i k : Nat), l.length - i = d → i ≤ l.length → d + 1 ≤ k → w5_same.l0 k l l ((i : Nat) : Int) = some true
 | 0, i, k, hd, hi, hk => by
  obtain ⟨k, rfl⟩ : ∃ q, k = q + 1 := ⟨k - 1, by omega⟩
  rw [w5_same.l0, if_neg (by omega)]
 | d + 1, i, k, hd, hi, hk => by
  obtain ⟨k, rfl⟩ : ∃ q, k = q + 1 := ⟨k - 1, by omega⟩
  rw [w5_same.l0, if_pos (by omega), if_pos (by omega), if_pos (by omega), if_neg (by simp), w1_1 (by omega)]
  exact same_loop l hl d (i + 1) k (by omega) (by omega) (by omega)
theorem same_self (l : List Tr) (hl : l.length ≤ 1000000000) (k : Nat) (hk : l.length + 1 ≤ k) : w5_same.f k l l = some true := by
 unfold w5_same.f
 rw [if_pos rfl]
 exact same_loop l hl l.length 0 k rfl (Nat.zero_le _) hk
theorem mn_bounds (a b : Int) : (mn a b ≤ a ∧ mn a b ≤ b) ∧ (mn a b = a ∨ mn a b = b) := by
 unfold mn
 split <;> omega
theorem muchGo_sum : ∀ (ts : List Te) (n m : Int), muchGo ts n = some m → 0 ≤ n → n ≤ 30000 → n + (((ts.map fun t => t.f1.size + t.f2.size).sum : Nat) : Int) ≤ 30000
 | [], n, m, h, h0, hn => by
  rw [List.map_nil, List.sum_nil]
  omega
 | t :: ts, n, m, h, h0, hn => by
  have q1 := mn_bounds (t.f1.size : Int) 30001
  have q2 := mn_bounds (t.f2.size : Int) 30001
  unfold muchGo at h
  split at h
  ·cases h
  ·have := muchGo_sum ts _ m h (by omega) (by omega)
   rw [List.map_cons, List.sum_cons]
   omega
theorem much_sum (l : List Tr) (h : g2_Much.f l 60 = some false) : l.length ≤ 60 ∧ (l.map szT).sum ≤ 30000 := by
 unfold g2_Much.f at h
 have h := Option.some.inj h
 unfold muchB at h
 simp only [Bool.or_eq_false_iff, decide_eq_false_iff_not] at h
 obtain ⟨h1, h2⟩ := h
 have hl : l.length ≤ 60 := by omega
 refine ⟨hl, ?_⟩
 obtain ⟨m, hm⟩ : ∃ m, muchGo ((l.take (60 + 1 : Int).toNat).flatMap tms) 0 = some m := by
  cases hq : muchGo ((l.take (60 + 1 : Int).toNat).flatMap tms) 0 with
  | none => rw [hq] at h1; simp at h1
  | some m => exact ⟨m, rfl⟩
 rw [show (60 + 1 : Int).toNat = 61 from rfl, List.take_of_length_le (by omega)] at hm
 have key := muchGo_sum _ 0 m hm (by omega) (by omega)
 have e : ∀ l : List Tr, ((l.flatMap tms).map fun t => t.f1.size + t.f2.size).sum = (l.map szT).sum := by
  intro l
  induction l with
  | nil => rfl
  | cons x l ih =>
   rw [List.flatMap_cons, List.map_append, List.sum_append, ih, List.map_cons, List.sum_cons]
   unfold tms szT
   simp only [List.map_cons, List.map_nil, List.sum_cons, List.sum_nil]
   omega
 rw [e] at key
 omega
theorem known60 : w5_known.f 60 = some true := by decide +kernel
theorem known_k : ∀ m, w5_known.f (60 + m) = some true
 | 0 => known60
 | m + 1 => w5_known.mono (60 + m) _ (known_k m)
theorem known_ge (k : Nat) (hk : 60 ≤ k) : w5_known.f k = some true := by
 obtain ⟨m, rfl⟩ : ∃ m, k = 60 + m := ⟨k - 60, by omega⟩
 exact known_k m
theorem num_eq (e : Int) : w5_num.f e = some e := rfl
end Go.Proofs.YtjnhdamilbcmpaaDoor.PTm

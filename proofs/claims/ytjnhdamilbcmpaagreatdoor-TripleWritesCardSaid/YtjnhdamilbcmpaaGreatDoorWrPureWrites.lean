import Derived.Test.YtjnhdamilbcmpaaGreatDoorWrTermAdd
set_option linter.unusedVariables false
set_option linter.unusedSimpArgs false
namespace Go.Proofs.YtjnhdamilbcmpaaGreatDoor.PWrit
open Go.RowKit Go.Proofs.YtjnhdamilbcmpaaGreatDoorW.PrintWords Go.Proofs.YtjnhdamilbcmpaaGreatDoorW.PrintLast Go.Proofs.YtjnhdamilbcmpaaGreatDoorW.PrintMore
theorem mn_bounds (a b : Int) : (mn a b ≤ a ∧ mn a b ≤ b) ∧ (mn a b = a ∨ mn a b = b) := by
  unfold mn
  split <;> omega
theorem muchGo_small : ∀ (ts : List S31) (n m : Int), muchGo ts n = some m → 0 ≤ n → n ≤ 30000 → ∀ t ∈ ts, t.f1.size ≤ 30000 ∧ t.f2.size ≤ 30000
  | [], _, _, _, _, _ => by simp
  | t :: ts, n, m, h, h0, hn => by
    have q1 := mn_bounds (t.f1.size : Int) 30001
    have q2 := mn_bounds (t.f2.size : Int) 30001
    unfold muchGo at h
    split at h
    · cases h
    · intro u hu
      rcases List.mem_cons.1 hu with rfl | hu
      · omega
      · exact muchGo_small ts _ m h (by omega) (by omega) u hu
def Small (x : S33) : Prop := (x.f0.f1.size ≤ 30000 ∧ x.f0.f2.size ≤ 30000) ∧ (x.f1.f1.size ≤ 30000 ∧ x.f1.f2.size ≤ 30000) ∧ (x.f2.f1.size ≤ 30000 ∧ x.f2.f2.size ≤ 30000)
def Small30 (x : S33) : Prop := (x.f0.f1.size ≤ 1000000 ∧ x.f0.f2.size ≤ 1000000) ∧ (x.f1.f1.size ≤ 1000000 ∧ x.f1.f2.size ≤ 1000000) ∧ (x.f2.f1.size ≤ 1000000 ∧ x.f2.f2.size ≤ 1000000)
theorem small30 {x : S33} (h : Small x) : Small30 x := by
  obtain ⟨⟨h1, h2⟩, ⟨h3, h4⟩, ⟨h5, h6⟩⟩ := h
  refine ⟨⟨?_, ?_⟩, ⟨?_, ?_⟩, ⟨?_, ?_⟩⟩ <;> omega
theorem much_small (l : List S33) (h : rhizomeref02_Much.f l 60 = some false) : l.length ≤ 60 ∧ ∀ x ∈ l, Small x := by
  unfold rhizomeref02_Much.f at h
  have h := Option.some.inj h
  unfold muchB at h
  simp only [Bool.or_eq_false_iff, decide_eq_false_iff_not] at h
  obtain ⟨h1, h2⟩ := h
  have hl : l.length ≤ 60 := by omega
  refine ⟨hl, fun x hx => ?_⟩
  obtain ⟨m, hm⟩ : ∃ m, muchGo ((l.take (60 + 1 : Int).toNat).flatMap tms) 0 = some m := by
    cases hq : muchGo ((l.take (60 + 1 : Int).toNat).flatMap tms) 0 with
    | none => rw [hq] at h1; simp at h1
    | some m => exact ⟨m, rfl⟩
  rw [show (60 + 1 : Int).toNat = 61 from rfl, List.take_of_length_le (by omega)] at hm
  have key := muchGo_small _ 0 m hm (by omega) (by omega)
  have at_ : ∀ t, t ∈ tms x → t.f1.size ≤ 30000 ∧ t.f2.size ≤ 30000 := fun t ht => key t (List.mem_flatMap.2 ⟨x, hx, ht⟩)
  exact ⟨at_ x.f0 (by simp [tms]), at_ x.f1 (by simp [tms]), at_ x.f2 (by simp [tms])⟩
theorem rd_in (l : List S33) (i : Nat) (h : i < l.length) : rd_T33 l (i : Int) ∈ l := by
  unfold rd_T33
  simp [List.getD_eq_getElem?_getD, List.getElem?_eq_getElem h]
theorem nums_bytes (bs : List UInt8) : strOfNums (bs.map fun u => (u.toNat : Int)) = ⟨bs.toArray⟩ := by
  unfold strOfNums
  rw [List.map_map]
  congr 2
  conv => rhs; rw [← List.map_id bs]
  exact List.map_congr_left fun u _ => by simp
theorem foll_of_add {n1 : Int} {t1 x1 : ByteArray} {n2 : Int} {t2 x2 : ByteArray} {n3 : Int} {t3 x3 : ByteArray} {k : Nat} (h : term_MayAdd.f k n1 t1 x1 n2 t2 x2 n3 t3 x3 = some true) (g : term_MayFollow.f k n1 t1 x1 n2 t2 x2 n3 t3 x3 = some (follB n1 t1 x1 n2 t2 x2 n3 t3 x3)) : follB n1 t1 x1 n2 t2 x2 n3 t3 x3 = true := by
  unfold term_MayAdd.f at h
  rw [g] at h
  cases hf : follB n1 t1 x1 n2 t2 x2 n3 t3 x3 with
  | true => rfl
  | false => rw [hf] at h; simp at h
theorem triple_size (x : S33) (h : Small x) : (tripleB x.f0.f0 x.f0.f1 x.f0.f2 x.f1.f0 x.f1.f1 x.f1.f2 x.f2.f0 x.f2.f1 x.f2.f2).size ≤ 700000 := by
  obtain ⟨⟨h1, h2⟩, ⟨h3, h4⟩, ⟨h5, h6⟩⟩ := h
  have z1 := text_size x.f0.f0 x.f0.f1 x.f0.f2
  have z2 := text_size x.f1.f0 x.f1.f1 x.f1.f2
  have z3 := text_size x.f2.f0 x.f2.f1 x.f2.f2
  unfold tripleB
  simp only [ByteArray.size_append]
  have e1 : sp1.size = 1 := rfl
  have e2 : (⟨#[32, 46]⟩ : ByteArray).size = 2 := rfl
  omega
def Both (bs : List UInt8) (xs : List Int) : Prop := (xs = bs.map fun u => (u.toNat : Int)) ∨ (1048576 < (bs.length : Int) ∧ 1048576 < (xs.length : Int))
def lastOf (bs : List UInt8) : ByteArray × Int := if 1048576 < (bs.length : Int) then (⟨#[]⟩, 3) else (⟨bs.toArray⟩, 0)
theorem txt_end {k : Nat} {l : List S33} {bs : List UInt8} {i : Int} (h : ¬ i < (l.length : Int)) : ntriples_Text.l0 (k + 1) l bs i = some (lastOf bs) := by
  unfold ntriples_Text.l0 lastOf
  rw [if_neg h]
  by_cases c : 1048576 < (bs.length : Int)
  · rw [if_pos c, if_pos c]
  · rw [if_neg c, if_neg c]
theorem rtx_end {k : Nat} {l : List S33} {xs : List Int} {i : Int} (h : ¬ i < (l.length : Int)) : rhizomeref05_Text.l0 (k + 1) l xs i = if (xs.length : Int) > 1048576 then some ((⟨#[]⟩ : ByteArray), 3) else some (strOfNums xs, 0) := by
  unfold rhizomeref05_Text.l0
  rw [if_neg h]
theorem both_end {bs : List UInt8} {xs : List Int} (h : Both bs xs) : (if (xs.length : Int) > 1048576 then some ((⟨#[]⟩ : ByteArray), (3 : Int)) else some (strOfNums xs, 0)) = some (lastOf bs) := by
  unfold lastOf
  rcases h with rfl | ⟨h1, h2⟩
  · rw [List.length_map, nums_bytes]
    by_cases c : 1048576 < (bs.length : Int)
    · rw [if_pos c, if_pos c]
    · rw [if_neg c, if_neg c]
  · rw [if_pos h1, if_pos h2]
theorem txt_no {k : Nat} {l : List S33} {bs : List UInt8} {i : Int} {x : S33} (hx : rd_T33 l i = x) (h : i < (l.length : Int)) (h0 : 0 ≤ i) (hm : term_MayAdd.f k x.f0.f0 x.f0.f1 x.f0.f2 x.f1.f0 x.f1.f1 x.f1.f2 x.f2.f0 x.f2.f1 x.f2.f2 = some false) : ntriples_Text.l0 (k + 1) l bs i = some ((⟨#[]⟩ : ByteArray), 2) := by
  unfold ntriples_Text.l0
  rw [if_pos h, if_pos h0, hx, hm, Option.bind_some, if_neg (by decide)]
theorem rtx_no {k : Nat} {l : List S33} {xs : List Int} {i : Int} {x : S33} (hx : rd_T33 l i = x) (h : i < (l.length : Int)) (h0 : 0 ≤ i) (hm : rhizomeref02_MayAdd.f k x.f0.f0 x.f0.f1 x.f0.f2 x.f1.f0 x.f1.f1 x.f1.f2 x.f2.f0 x.f2.f1 x.f2.f2 = some false) : rhizomeref05_Text.l0 (k + 1) l xs i = some ((⟨#[]⟩ : ByteArray), 2) := by
  unfold rhizomeref05_Text.l0
  rw [if_pos h, if_pos h0, hx, hm, Option.bind_some, if_neg (by decide)]
def triPut (bs : List UInt8) (T : ByteArray) : List UInt8 := if (bs.length : Int) ≤ 1048576 then bs ++ (T ++ (⟨#[10]⟩ : ByteArray)).data.toList else bs
theorem txt_yes {k : Nat} {l : List S33} {bs : List UInt8} {i : Int} {x : S33} {T : ByteArray} {e : Int} (hx : rd_T33 l i = x) (h : i < (l.length : Int)) (h0 : 0 ≤ i) (hm : term_MayAdd.f k x.f0.f0 x.f0.f1 x.f0.f2 x.f1.f0 x.f1.f1 x.f1.f2 x.f2.f0 x.f2.f1 x.f2.f2 = some true) (ht : term_TripleText.f k x.f0.f0 x.f0.f1 x.f0.f2 x.f1.f0 x.f1.f1 x.f1.f2 x.f2.f0 x.f2.f1 x.f2.f2 = some (T, e)) (hT : T.size + 1 ≤ 140737487300000) : ntriples_Text.l0 (k + 1) l bs i = ntriples_Text.l0 k l (triPut bs T) (wrap64 (i + 1)) := by
  rw [ntriples_Text.l0, if_pos h, if_pos h0, hx, hm, Option.bind_some, if_pos rfl, ht, Option.bind_some]
  unfold triPut
  by_cases c : (bs.length : Int) ≤ 1048576
  · rw [if_pos c]
    exact (if_pos c).trans (if_pos hT)
  · rw [if_neg c]
    exact if_neg c
theorem bys_len (T : ByteArray) : (bytesOf T).length = T.size := by
  unfold bytesOf
  rw [List.length_map]
  rfl
theorem rtx_yes {k : Nat} {l : List S33} {xs : List Int} {i : Int} {x : S33} {T : ByteArray} (hx : rd_T33 l i = x) (h : i < (l.length : Int)) (h0 : 0 ≤ i) (hm : rhizomeref02_MayAdd.f k x.f0.f0 x.f0.f1 x.f0.f2 x.f1.f0 x.f1.f1 x.f1.f2 x.f2.f0 x.f2.f1 x.f2.f2 = some true) (ht : rhizomeref02_TripleText.f k x.f0.f0 x.f0.f1 x.f0.f2 x.f1.f0 x.f1.f1 x.f1.f2 x.f2.f0 x.f2.f1 x.f2.f2 = some T) (hT : xs.length + T.size < 140737488355328) : rhizomeref05_Text.l0 (k + 1) l xs i = rhizomeref05_Text.l0 k l (xs ++ bytesOf T ++ [10]) (wrap64 (i + 1)) := by
  rw [rhizomeref05_Text.l0, if_pos h, if_pos h0, hx, hm, Option.bind_some, if_pos rfl, ht, Option.bind_some]
  refine (if_pos hT).trans ?_
  rw [Option.bind_some]
  exact if_pos (by rw [List.length_append, bys_len]; exact hT)
theorem both_put {bs : List UInt8} {xs : List Int} {T : ByteArray} (hb : Both bs xs) : Both (triPut bs T) (xs ++ bytesOf T ++ [10]) := by
  unfold triPut
  rcases hb with rfl | ⟨h1, h2⟩
  · by_cases c : (bs.length : Int) ≤ 1048576
    · rw [if_pos c]
      left
      simp [bytesOf]
    · rw [if_neg c]
      right
      simp only [List.length_append, List.length_map]
      omega
  · rw [if_neg (by omega)]
    right
    simp only [List.length_append]
    omega
theorem text_step (x : S33) (h : Small x) : (∃ K, ∀ k, K ≤ k → term_MayAdd.f k x.f0.f0 x.f0.f1 x.f0.f2 x.f1.f0 x.f1.f1 x.f1.f2 x.f2.f0 x.f2.f1 x.f2.f2 = some false ∧ rhizomeref02_MayAdd.f k x.f0.f0 x.f0.f1 x.f0.f2 x.f1.f0 x.f1.f1 x.f1.f2 x.f2.f0 x.f2.f1 x.f2.f2 = some false) ∨
    ∃ K T, T.size ≤ 700000 ∧ ∀ k, K ≤ k → (term_MayAdd.f k x.f0.f0 x.f0.f1 x.f0.f2 x.f1.f0 x.f1.f1 x.f1.f2 x.f2.f0 x.f2.f1 x.f2.f2 = some true ∧ rhizomeref02_MayAdd.f k x.f0.f0 x.f0.f1 x.f0.f2 x.f1.f0 x.f1.f1 x.f1.f2 x.f2.f0 x.f2.f1 x.f2.f2 = some true) ∧ (term_TripleText.f k x.f0.f0 x.f0.f1 x.f0.f2 x.f1.f0 x.f1.f1 x.f1.f2 x.f2.f0 x.f2.f1 x.f2.f2 = some (T, 0) ∧ rhizomeref02_TripleText.f k x.f0.f0 x.f0.f1 x.f0.f2 x.f1.f0 x.f1.f1 x.f1.f2 x.f2.f0 x.f2.f1 x.f2.f2 = some T) := by
  have hz := triple_size x h
  obtain ⟨⟨p1, p2⟩, ⟨p3, p4⟩, ⟨p5, p6⟩⟩ := small30 h
  obtain ⟨⟨n1, t1, x1⟩, ⟨n2, t2, x2⟩, ⟨n3, t3, x3⟩⟩ := x
  dsimp only at p1 p2 p3 p4 p5 p6 hz ⊢
  obtain ⟨Ka, va, ha⟩ := add_term n1 t1 x1 n2 t2 x2 n3 t3 x3 p1 p2 p3 p4 p5 p6
  obtain ⟨Kf, hf⟩ := foll_term n1 t1 x1 n2 t2 x2 n3 t3 x3 p1 p2 p3 p4 p5 p6
  obtain ⟨Kt, ht⟩ := tt_term n1 t1 x1 n2 t2 x2 n3 t3 x3 p1 p2 p3 p4 p5 p6
  obtain ⟨Kr, hr⟩ := tt_ref n1 t1 x1 n2 t2 x2 n3 t3 x3 p1 p2 p3 p4 p5 p6
  cases va with
  | false => exact .inl ⟨Ka, ha⟩
  | true =>
    have hfo := foll_of_add (ha (Ka + Kf) (Nat.le_add_right _ _)).1 (hf (Ka + Kf) (Nat.le_add_left _ _))
    rw [hfo] at ht
    exact .inr ⟨Ka + (Kt + Kr), _, hz, fun k hk => ⟨ha k (Nat.le_trans (Nat.le_add_right _ _) hk), ht k (by omega), hr k (by omega)⟩⟩
theorem text_steps (l : List S33) (hs : ∀ x ∈ l, Small x) (hl : l.length ≤ 60) (B : Nat) (hB1 : 700001 ≤ B) (hB2 : B ≤ 1000000) : ∀ (n i : Nat), i + n = l.length → ∀ bs xs, Both bs xs → xs.length ≤ i * B → ∃ K v, ∀ k, K ≤ k → ntriples_Text.l0 k l bs (i : Int) = some v ∧ rhizomeref05_Text.l0 k l xs (i : Int) = some v
  | 0, i, hi, bs, xs, hb, _ => by
    refine ⟨1, lastOf bs, fun k hk => ?_⟩
    obtain ⟨k, rfl⟩ : ∃ q, k = q + 1 := ⟨k - 1, by omega⟩
    exact ⟨txt_end (by omega), (rtx_end (by omega)).trans (both_end hb)⟩
  | n + 1, i, hi, bs, xs, hb, hx => by
    have hii : (i : Int) < (l.length : Int) := by omega
    have hi0 : 0 ≤ (i : Int) := by omega
    have hw : wrap64 ((i : Int) + 1) = ((i + 1 : Nat) : Int) := by
      rw [wrap64_small (by omega) (by omega)]
      rfl
    obtain ⟨K, h⟩ | ⟨Ka, T, hT, h⟩ := text_step _ (hs _ (rd_in l i (by omega)))
    · refine ⟨K + 1, ((⟨#[]⟩ : ByteArray), 2), fun k hk => ?_⟩
      obtain ⟨k, rfl⟩ : ∃ q, k = q + 1 := ⟨k - 1, by omega⟩
      exact ⟨txt_no rfl hii hi0 (h k (by omega)).1, rtx_no rfl hii hi0 (h k (by omega)).2⟩
    · have hiB : i * B ≤ 60 * B := Nat.mul_le_mul_right _ (by omega)
      have hxs : (xs ++ bytesOf T ++ [10]).length ≤ (i + 1) * B := by
        rw [Nat.succ_mul, List.length_append, List.length_append, bys_len, List.length_cons, List.length_nil]
        omega
      obtain ⟨K, v, ih⟩ := text_steps l hs hl B hB1 hB2 n (i + 1) (by omega) _ _ (both_put hb) hxs
      refine ⟨Ka + K + 1, v, fun k hk => ?_⟩
      obtain ⟨k, rfl⟩ : ∃ q, k = q + 1 := ⟨k - 1, by omega⟩
      obtain ⟨i1, i2⟩ := ih k (by omega)
      obtain ⟨⟨a1, a2⟩, b1, b2⟩ := h k (by omega)
      refine ⟨(txt_yes rfl hii hi0 a1 b1 (by omega)).trans ?_, (rtx_yes rfl hii hi0 a2 b2 (by omega)).trans ?_⟩
      · rw [hw]
        exact i1
      · rw [hw]
        exact i2
theorem text_both (l : List S33) (h : rhizomeref02_Much.f l 60 = some false) : ∃ K v, ∀ k, K ≤ k → ntriples_Text.f k l = some v ∧ rhizomeref05_Text.f k l = some v := by
  obtain ⟨h1, h2⟩ := much_small l h
  exact text_steps l h2 h1 700001 (Nat.le_refl _) (by decide) l.length 0 (Nat.zero_add _) [] [] (.inl rfl) (Nat.zero_le _)
end Go.Proofs.YtjnhdamilbcmpaaGreatDoor.PWrit

import Derived.Test.YtjnhdamilbcmpaaDoorCuLexI
import Derived.Test.YtjnhdamilbcmpaaDoorCuTermText
set_option linter.unusedVariables false
set_option linter.unusedSimpArgs false
namespace Go.Proofs.YtjnhdamilbcmpaaDoor.PTm
open Go.RowKit Go.Proofs.YtjnhdamilbcmpaaDoorW.PrintWords Go.Proofs.YtjnhdamilbcmpaaDoorW.PrintLast Go.Proofs.YtjnhdamilbcmpaaDoorW.PrintMore
theorem str_bys (t : ByteArray) : strOfNums (bys t) = t := by
 have := ext_at t 0 t.size (Nat.zero_le _) (Nat.le_refl _)
 rw [ByteArray.extract_zero_size] at this
 rw [show (at_ t 0).take (t.size - 0) = bys t from List.take_of_length_le (by show (bys t).length ≤ t.size - 0; rw [bys_length]; omega)] at this
 exact this.symm
theorem str_append (l m : List Int) : strOfNums (l ++ m) = strOfNums l ++ strOfNums m := by
 apply bys_inj
 rw [bys_append]
 unfold strOfNums bys
 simp
theorem bys_str (l : List Int) (h : ∀ c ∈ l, 0 ≤ c ∧ c ≤ 255) : bys (strOfNums l) = l := by
 unfold strOfNums bys
 rw [List.map_map]
 conv => rhs; rw [← List.map_id l]
 refine List.map_congr_left fun c hc => ?_
 have := h c hc
 show (((UInt8.ofNat c.toNat).toNat : Nat) : Int) = c
 rw [UInt8.toNat_ofNat']
 omega
theorem bys_in (t : ByteArray) (c : Int) (h : c ∈ bys t) : 0 ≤ c ∧ c ≤ 255 := by
 unfold bys at h
 obtain ⟨u, _, rfl⟩ := List.mem_map.1 h
 have := u.toNat_lt
 omega
theorem esc_in (c : Int) (h : 0 ≤ c ∧ c ≤ 255) : ∀ d ∈ escL c, 0 ≤ d ∧ d ≤ 255 := by
 have key := byte_all (fun c => (escL c).all fun d => decide (0 ≤ d ∧ d ≤ 255)) (by decide +kernel) c h
 intro d hd
 have := List.all_eq_true.1 key d hd
 simpa using this
theorem bys_written (t : ByteArray) : bys (writtenB t) = 34 :: ((bys t).flatMap escL ++ [34]) := by
 unfold writtenB
 rw [bys_str]
 ·rfl
 ·intro c hc
  unfold writtenL at hc
  simp only [List.mem_append, List.mem_cons, List.mem_nil_iff, or_false, List.mem_flatMap] at hc
  rcases hc with (rfl | ⟨d, h1, h2⟩) | rfl
  ·decide
  ·exact esc_in d (bys_in t d h1) c h2
  ·decide
theorem esc_back (c : Int) (h : 0 ≤ c ∧ c ≤ 255) : (escL c = [c] ∧ c ≠ 34 ∧ c ≠ 92 ∧ c ≠ 10 ∧ c ≠ 13) ∨ ∃ r, escL c = 92 :: r ∧ escP true r = some ([c], []) := by
 have key := byte_all (fun c => (escL c == [c] && (c != 34 && (c != 92 && (c != 10 && c != 13)))) || ((escL c).headD 0 == 92 && (escL c).length != 0 && escP true ((escL c).drop 1) == some ([c], []))) (by decide +kernel) c h
 simp only [Bool.or_eq_true, Bool.and_eq_true, beq_iff_eq, bne_iff_ne] at key
 rcases key with ⟨h1, h2, h3, h4, h5⟩ | ⟨⟨h1, h2⟩, h3⟩
 ·exact .inl ⟨h1, h2, h3, h4, h5⟩
 ·right
  cases he : escL c with
  | nil => rw [he] at h2; exact absurd rfl h2
  | cons a r =>
   rw [he] at h1 h3
   obtain rfl : a = 92 := h1
   exact ⟨r, rfl, h3⟩
theorem quoted_back (q : List Int) : ∀ (l : List Int), (∀ c ∈ l, 0 ≤ c ∧ c ≤ 255) → ∀ k, l.length + 1 ≤ k → quotedL 34 true k (l.flatMap escL ++ 34 :: q) = some (l, q)
 | [], _, k, hk => by
  obtain ⟨k, rfl⟩ : ∃ j, k = j + 1 := ⟨k - 1, by omega⟩
  rw [List.flatMap_nil, List.nil_append, quotedL, if_pos rfl]
 | c :: l, h, k, hk => by
  obtain ⟨k, rfl⟩ : ∃ j, k = j + 1 := ⟨k - 1, by omega⟩
  rw [List.length_cons] at hk
  have ih := quoted_back q l (fun d hd => h d (List.mem_cons_of_mem _ hd)) k (by omega)
  rw [List.flatMap_cons, List.append_assoc]
  rcases esc_back c (h c List.mem_cons_self) with ⟨e, h1, h2, h3, h4⟩ | ⟨r, e, hr⟩
  ·rw [e, List.cons_append, List.nil_append, quotedL, if_neg h1, if_neg (fun h => h.2.elim h3 h4), if_neg h2, ih]
  ·have ha := esc_app true (l.flatMap escL ++ 34 :: q) r _ _ hr
   rw [List.nil_append] at ha
   rw [e, List.cons_append, quotedL, if_neg (by decide), if_neg (fun h => absurd h.2 (by decide)), if_pos rfl, ha]
   dsimp only
   rw [ih]
   rfl
theorem plain_back (en : Int) (q : List Int) : ∀ (l : List Int), (∀ c ∈ l, c ≠ en ∧ c ≠ 92) → ∀ k, l.length + 1 ≤ k → quotedL en false k (l ++ en :: q) = some (l, q)
 | [], _, k, hk => by
  obtain ⟨k, rfl⟩ : ∃ j, k = j + 1 := ⟨k - 1, by omega⟩
  rw [List.nil_append, quotedL, if_pos rfl]
 | c :: l, h, k, hk => by
  obtain ⟨k, rfl⟩ : ∃ j, k = j + 1 := ⟨k - 1, by omega⟩
  rw [List.length_cons] at hk
  have ih := plain_back en q l (fun d hd => h d (List.mem_cons_of_mem _ hd)) k (by omega)
  obtain ⟨h1, h2⟩ := h c List.mem_cons_self
  rw [List.cons_append, quotedL, if_neg h1, if_neg (fun h => absurd h.1 (by decide)), if_neg h2, ih]
theorem dec_cut (z t : ByteArray) (hb : ∀ i : Nat, i < t.size → bt t (i : Nat) = bt z (i : Nat)) (hz : (t.size : Int) = (dec z).2) (h : ¬ (dec z).2 = 0) : dec t = dec z := by
 have e0 : 1 ≤ t.size → bt t 0 = bt z 0 := fun h => hb 0 (by omega)
 have e1 : 2 ≤ t.size → bt t 1 = bt z 1 := fun h => hb 1 (by omega)
 have e2 : 3 ≤ t.size → bt t 2 = bt z 2 := fun h => hb 2 (by omega)
 have e3 : 4 ≤ t.size → bt t 3 = bt z 3 := fun h => hb 3 (by omega)
 unfold dec at h hz ⊢
 by_cases k1 : okn z 1 = true
 ·rw [if_pos k1] at hz ⊢
  dsimp only at hz
  have a0 := e0 (by omega)
  have : okn t 1 = true := by
   rw [okn1, decide_eq_true_eq] at k1 ⊢
   rw [a0]
   omega
  rw [if_pos this, val1, val1, a0]
 rw [if_neg k1] at h hz ⊢
 by_cases k2 : okn z 2 = true
 ·rw [if_pos k2] at hz ⊢
  dsimp only at hz
  have q := k2
  rw [okn2] at q
  simp only [Bool.and_eq_true, decide_eq_true_eq] at q
  have a0 := e0 (by omega)
  have a1 := e1 (by omega)
  have n1 : ¬ okn t 1 = true := by
   rw [okn1, decide_eq_true_eq, a0]
   omega
  have p2 : okn t 2 = true := by
   rw [okn2]
   simp only [Bool.and_eq_true, decide_eq_true_eq]
   rw [a0, a1]
   exact ⟨by omega, q.2⟩
  rw [if_neg n1, if_pos p2, val2, val2, a0, a1]
 rw [if_neg k2] at h hz ⊢
 by_cases k3 : okn z 3 = true
 ·rw [if_pos k3] at hz ⊢
  dsimp only at hz
  have q := k3
  rw [okn3] at q
  simp only [Bool.and_eq_true, decide_eq_true_eq] at q
  have a0 := e0 (by omega)
  have a1 := e1 (by omega)
  have a2 := e2 (by omega)
  have hv : val t 3 = val z 3 := by rw [val3, val3, a0, a1, a2]
  have n1 : ¬ okn t 1 = true := by
   rw [okn1, decide_eq_true_eq, a0]
   omega
  have n2 : ¬ okn t 2 = true := by
   rw [okn2]
   simp only [Bool.and_eq_true, decide_eq_true_eq]
   rw [a0]
   omega
  have p3 : okn t 3 = true := by
   rw [okn3]
   simp only [Bool.and_eq_true, decide_eq_true_eq]
   rw [a0, a1, a2, hv]
   exact ⟨⟨⟨by omega, q.1.1.2⟩, q.1.2⟩, q.2⟩
  rw [if_neg n1, if_neg n2, if_pos p3, hv]
 rw [if_neg k3] at h hz ⊢
 by_cases k4 : okn z 4 = true
 ·rw [if_pos k4] at hz ⊢
  dsimp only at hz
  have q := k4
  rw [okn4] at q
  simp only [Bool.and_eq_true, decide_eq_true_eq] at q
  have a0 := e0 (by omega)
  have a1 := e1 (by omega)
  have a2 := e2 (by omega)
  have a3 := e3 (by omega)
  have hv : val t 4 = val z 4 := by rw [val4, val4, a0, a1, a2, a3]
  have n1 : ¬ okn t 1 = true := by
   rw [okn1, decide_eq_true_eq, a0]
   omega
  have n2 : ¬ okn t 2 = true := by
   rw [okn2]
   simp only [Bool.and_eq_true, decide_eq_true_eq]
   rw [a0]
   omega
  have n3 : ¬ okn t 3 = true := by
   rw [okn3]
   simp only [Bool.and_eq_true, decide_eq_true_eq]
   rw [a0]
   omega
  have p4 : okn t 4 = true := by
   rw [okn4]
   simp only [Bool.and_eq_true, decide_eq_true_eq]
   rw [a0, a1, a2, a3, hv]
   exact ⟨⟨⟨⟨by omega, q.1.1.1.2⟩, q.1.1.2⟩, q.1.2⟩, q.2⟩
  rw [if_neg n1, if_neg n2, if_neg n3, if_pos p4, hv]
 ·rw [if_neg k4] at h
  exact absurd rfl h
def Well (s : ByteArray) : Prop := stp s = s.size
theorem well_app {p q : ByteArray} (hp : Well p) (hq : Well q) : Well (p ++ q) := by
 unfold Well at *
 rw [stp_app p q hp, hq, ByteArray.size_append]
theorem well_nil : Well (⟨#[]⟩ : ByteArray) := by
 show stp (⟨#[]⟩ : ByteArray) = 0
 decide +kernel
theorem well_one (p : ByteArray) (h : (dec p).2 = (p.size : Int)) (h0 : 1 ≤ p.size) : Well p := by
 unfold Well stp
 obtain ⟨k, hk⟩ : ∃ k, p.size = k + 1 := ⟨p.size - 1, by omega⟩
 rw [hk]
 simp only [stop]
 rw [ByteArray.extract_zero_size, h, if_pos (by omega), if_neg (by omega), Int.toNat_natCast, Nat.zero_add, hk]
 have := stop_le p k (k + 1) (by omega)
 omega
theorem esc_well (c : Int) (h : 0 ≤ c ∧ c ≤ 127) : Well (strOfNums (escL c)) := by
 have key : ((List.range 128).all fun c => decide (stp (strOfNums (escL (c : Int))) = (strOfNums (escL (c : Int))).size)) = true := by decide +kernel
 have := List.all_eq_true.1 key c.toNat (List.mem_range.2 (by omega))
 rw [decide_eq_true_eq, show ((c.toNat : Nat) : Int) = c by omega] at this
 exact this
theorem esc_high (c : Int) (h : 128 ≤ c) (h2 : c ≤ 255) : escL c = [c] := by
 have key := byte_all (fun c => decide (128 ≤ c) == false || escL c == [c]) (by decide +kernel) c ⟨by omega, h2⟩
 rw [decide_eq_true h] at key
 simpa using key
theorem escaped_well (t : ByteArray) (hs : t.size ≤ 1000000000) : ∀ (k i : Nat), i ≤ t.size → t.size - i ≤ k → stop t k i = t.size → Well (strOfNums ((at_ t i).flatMap escL))
 | 0, i, hi, hk, h => by
  rw [at_nil (by omega)]
  exact well_nil
 | k + 1, i, hi, hk, h => by
  by_cases hlt : i < t.size
  ·simp only [stop] at h
   rw [if_pos hlt] at h
   by_cases h0 : (dec (t.extract i t.size)).2 = 0
   ·rw [if_pos h0] at h
    omega
   ·rw [if_neg h0] at h
    obtain ⟨d1, d2, d3⟩ := dec_le t i hlt h0
    have ih := escaped_well t hs k _ d3 (by omega) h
    have hsplit : at_ t i = (at_ t i).take (dec (t.extract i t.size)).2.toNat ++ at_ t (i + (dec (t.extract i t.size)).2.toNat) := by
     rw [← at_drop, List.take_append_drop]
    rw [hsplit, List.flatMap_append, str_append]
    refine well_app ?_ ih
    have hd := dec_cases (t.extract i t.size)
    generalize hn : (dec (t.extract i t.size)).2 = n at *
    rcases hd with e | ⟨_, _, g3, g4, g5⟩
    ·rw [e] at hn
     exact absurd hn.symm h0
    have hb0 : bt (t.extract i t.size) 0 = bt t ((i : Nat) : Int) := by (have := bt_extract t i t.size 0 (Nat.le_refl _) (by omega); exact this)
    by_cases h1 : n = 1
    ·subst h1
     rw [okn1, decide_eq_true_eq, hb0] at g4
     have hr := bt_range t ((i : Nat) : Int)
     rw [at_cons hlt]
     show Well (strOfNums ([bt t ((i : Nat) : Int)].flatMap escL))
     rw [List.flatMap_cons, List.flatMap_nil, List.append_nil]
     exact esc_well _ (by omega)
    ·have hp : (at_ t i).take n.toNat = bys (t.extract i (i + n.toNat)) := by
      rw [bys_ext, show i + n.toNat - i = n.toNat by omega]
      rfl
     have hhigh : ∀ c ∈ (at_ t i).take n.toNat, 128 ≤ c ∧ c ≤ 255 := by
      intro c hc
      obtain ⟨j, hj, rfl⟩ := List.mem_iff_getElem.1 hc
      rw [List.length_take, at_len] at hj
      have e : ((at_ t i).take n.toNat)[j]'(by rw [List.length_take, at_len]; exact hj) = bt t ((i + j : Nat) : Int) := by
       rw [List.getElem_take]
       have := bys_get t (i + j) (by omega)
       have e2 : (at_ t i)[j]? = some (bt t ((i + j : Nat) : Int)) := by
        unfold at_
        rw [List.getElem?_drop]
        exact this
       exact (List.getElem?_eq_some_iff.1 e2).2
      rw [e]
      have hb := okn_bytes (t.extract i t.size) n (by omega) g4 j (by omega)
      rw [bt_extract t i t.size j (Nat.le_refl _) (by omega)] at hb
      exact ⟨hb, (bt_range t _).2⟩
     have hid : ∀ l : List Int, (∀ c ∈ l, 128 ≤ c ∧ c ≤ 255) → l.flatMap escL = l := by
      intro l
      induction l with
      | nil => intro _; rfl
      | cons c l ih =>
       intro hl
       rw [List.flatMap_cons, ih (fun d hd => hl d (List.mem_cons_of_mem _ hd)), esc_high c (hl c List.mem_cons_self).1 (hl c List.mem_cons_self).2]
       rfl
     rw [hid _ hhigh, hp, str_bys]
     have hsz : (t.extract i (i + n.toNat)).size = n.toNat := by simp; omega
     have hc := dec_cut (t.extract i t.size) (t.extract i (i + n.toNat)) (fun j hj => by
      rw [hsz] at hj
      rw [bt_extract t i _ j (by omega) (by omega), bt_extract t i _ j (Nat.le_refl _) (by omega)]) (by rw [hsz, hn]; omega) (by rw [hn]; exact h0)
     exact well_one _ (by rw [hc, hn, hsz]; omega) (by rw [hsz]; omega)
  ·rw [at_nil (by omega)]
   exact well_nil
end Go.Proofs.YtjnhdamilbcmpaaDoor.PTm

import Derived.Test.YtjnhdamilbcmpaaDoorCuTriD
import Derived.Test.YtjnhdamilbcmpaaDoorCuTriF
import Derived.Test.YtjnhdamilbcmpaaDoorCuPTmx20
set_option linter.unusedVariables false
set_option linter.unusedSimpArgs false
namespace Go.Proofs.YtjnhdamilbcmpaaDoor.PTm
open Go.RowKit Go.Proofs.YtjnhdamilbcmpaaDoorW.PrintWords Go.Proofs.YtjnhdamilbcmpaaDoorW.PrintLast Go.Proofs.YtjnhdamilbcmpaaDoorW.PrintMore
def cutN : List Tr → Nat → Nat
 | [], _ => 0
 | x :: l, c => if c < (tripB x).size then 0 else cutN l (c - ((tripB x).size + 1)) + 1
def cutR : List Tr → Nat → Nat
 | [], _ => 0
 | x :: l, c => if c < (tripB x).size then c else cutR l (c - ((tripB x).size + 1))
theorem cutN_le : ∀ (l : List Tr) (c : Nat), cutN l c ≤ l.length
 | [], _ => Nat.le_refl _
 | x :: l, c => by
  unfold cutN
  split
  ·exact Nat.zero_le _
  ·have := cutN_le l (c - ((tripB x).size + 1))
   rw [List.length_cons]
   omega
theorem doc_cons_size (x : Tr) (l : List Tr) : (docB (x :: l)).size = (tripB x).size + 1 + (docB l).size := by
 rw [docB, ByteArray.size_append, ByteArray.size_append]
 rfl
theorem cut_whole : ∀ (l : List Tr) (c : Nat), c ≤ (docB l).size → (cutR l c = 0 → c ≤ (docB (l.take (cutN l c))).size) ∧ (cutR l c ≠ 0 → (docB (l.take (cutN l c))).size < c)
 | [], c, h => by
  have h0 : (docB ([] : List Tr)).size = 0 := rfl
  unfold cutR cutN
  rw [List.take_nil]
  exact ⟨fun _ => h, fun g => absurd rfl g⟩
 | x :: l, c, h => by
  rw [doc_cons_size] at h
  unfold cutR cutN
  by_cases hc : c < (tripB x).size
  ·rw [if_pos hc, if_pos hc, List.take_zero]
   have h0 : (docB ([] : List Tr)).size = 0 := rfl
   rw [h0]
   omega
  ·rw [if_neg hc, if_neg hc, List.take_succ_cons, doc_cons_size]
   obtain ⟨i1, i2⟩ := cut_whole l (c - ((tripB x).size + 1)) (by omega)
   refine ⟨fun g => ?_, fun g => ?_⟩
   ·have := i1 g
    omega
   ·have := i2 g
    omega
theorem text_head (n : Int) (t x : ByteArray) (hm : mayB n t x = true) : ∃ c r, bys (textB n t x) = c :: r ∧ c ≠ 35 ∧ ¬ (c = 9 ∨ c = 10 ∨ c = 13 ∨ c = 32) := by
 have hwr := bys_written t
 unfold textB
 split
 ·exact ⟨60, _, by rw [bys_append, bys_append]; rfl, by decide, by decide⟩
 ·split
  ·exact ⟨95, _, by rw [bys_append]; rfl, by decide, by decide⟩
  ·split
   ·exact ⟨34, _, by rw [bys_append, bys_append, hwr]; rfl, by decide, by decide⟩
   ·split
    ·exact ⟨34, _, by rw [bys_append, bys_append, bys_append, hwr]; rfl, by decide, by decide⟩
    ·exact ⟨34, _, hwr, by decide, by decide⟩
theorem trip_head (x : Tr) (h : addB x = true) : ∃ c r, bys (tripB x) = c :: r ∧ c ≠ 35 ∧ ¬ (c = 9 ∨ c = 10 ∨ c = 13 ∨ c = 32) := by
 obtain ⟨c, r, e, h1, h2⟩ := text_head _ _ _ (may_of h).1
 refine ⟨c, r ++ (bys sp1 ++ bys (textB x.f1.f0 x.f1.f1 x.f1.f2) ++ bys sp1 ++ bys (textB x.f2.f0 x.f2.f1 x.f2.f2) ++ bys (⟨#[32, 46]⟩ : ByteArray)), ?_, h1, h2⟩
 unfold tripB tripleB
 simp only [bys_append]
 rw [e]
 simp only [List.cons_append, List.append_assoc]
theorem lex_some (N : Nat) (c : Int) (t : List Int) (h1 : c ≠ 35) (h2 : ¬ (c = 9 ∨ c = 10 ∨ c = 13 ∨ c = 32)) : (lexN N (c :: t)).2 = none → (lexN N (c :: t)).1.map unS ≠ [] := by
 rw [lexN_step, skipL, if_neg h1, if_neg h2]
 dsimp only
 cases tokL (c :: t) with
 | none => intro h; cases h
 | some y => intro _ h; cases h
theorem lex_cut (N : Nat) : ∀ (l : List Tr) (c : Nat), (∀ x ∈ l, addB x = true) → (∀ x ∈ l, SmallT x) → c ≤ (docB l).size → ∃ p : List Int,
  ((lexN N ((bys (docB l)).take c)).1.map unS = (l.take (cutN l c)).flatMap symX ++ (lexN N p).1.map unS) ∧ (lexN N ((bys (docB l)).take c)).2 = (lexN N p).2 ∧
  (cutR l c = 0 → p = [] ∧ Well (strOfNums ((bys (docB l)).take c))) ∧ (cutR l c ≠ 0 → NoDot (lexN N p) ∧ ((lexN N p).2 = none → (lexN N p).1.map unS ≠ []))
 | [], c, _, _, h => by
  refine ⟨[], ?_⟩
  have h0 : bys (docB ([] : List Tr)) = [] := rfl
  rw [h0, List.take_nil]
  exact ⟨rfl, rfl, fun _ => ⟨rfl, well_nil⟩, fun g => absurd rfl g⟩
 | x :: l, c, h, hs, hc => by
  have hx := h x (List.mem_cons_self ..)
  have hb : bys (docB (x :: l)) = bys (tripB x) ++ 10 :: bys (docB l) := by
   rw [docB, bys_append, bys_append, List.append_assoc]
   rfl
  rw [doc_cons_size] at hc
  unfold cutN cutR
  by_cases hlt : c < (tripB x).size
  ·have ht : (bys (docB (x :: l))).take c = (bys (tripB x)).take c := by
    rw [hb, List.take_append_of_le_length (by rw [bys_length]; omega)]
   rw [if_pos hlt, if_pos hlt, ht]
   refine ⟨(bys (tripB x)).take c, by rw [List.take_zero]; rfl, rfl, fun g => ?_, fun g => ⟨?_, ?_⟩⟩
   ·subst g
    rw [List.take_zero]
    exact ⟨rfl, well_nil⟩
   ·exact cut_trip N x hx _ (List.take_prefix _ _) (by rw [List.length_take, bys_length]; omega)
   ·obtain ⟨d, r, e, h1, h2⟩ := trip_head x hx
    obtain ⟨c', rfl⟩ : ∃ q, c = q + 1 := ⟨c - 1, by omega⟩
    rw [e, List.take_succ_cons]
    exact lex_some N d _ h1 h2
  ·rw [if_neg hlt, if_neg hlt]
   obtain ⟨p, i1, i2, i3, i4⟩ := lex_cut N l (c - ((tripB x).size + 1)) (fun y hy => h y (List.mem_cons_of_mem _ hy)) (fun y hy => hs y (List.mem_cons_of_mem _ hy)) (by omega)
   have hw := well_trip x (hs x (List.mem_cons_self ..)) hx
   refine ⟨p, ?_⟩
   by_cases he : c = (tripB x).size
   ·have ht : (bys (docB (x :: l))).take c = bys (tripB x) := by
     rw [hb, he, ← bys_length, List.take_left]
    have hz : c - ((tripB x).size + 1) = 0 := by omega
    rw [hz] at i1 i2 i3 i4 ⊢
    rw [List.take_zero] at i1 i2 i3
    rw [lexN_nil] at i1 i2
    have hb2 : bys (tripB x) = (bys (textB x.f0.f0 x.f0.f1 x.f0.f2) ++ 32 :: (bys (textB x.f1.f0 x.f1.f1 x.f1.f2) ++ 32 :: (bys (textB x.f2.f0 x.f2.f1 x.f2.f2) ++ 32 :: [46]))) := by
     unfold tripB tripleB
     simp only [bys_append, List.append_assoc, List.cons_append, List.nil_append]
     rfl
    obtain ⟨m1, m2, m3⟩ := may_of hx
    obtain ⟨a1, b1⟩ := lex_term N _ _ _ m1 (bys (textB x.f1.f0 x.f1.f1 x.f1.f2) ++ 32 :: (bys (textB x.f2.f0 x.f2.f1 x.f2.f2) ++ 32 :: [46]))
    obtain ⟨a2, b2⟩ := lex_term N _ _ _ m2 (bys (textB x.f2.f0 x.f2.f1 x.f2.f2) ++ 32 :: [46])
    obtain ⟨a3, b3⟩ := lex_term N _ _ _ m3 [46]
    obtain ⟨a4, b4⟩ := lexN_tok N 46 _ _ _ (by decide) (by decide) (dot_tok [])
    have e1 : (lexN N (bys (tripB x))).1.map unS = symX x := by
     rw [hb2, a1, a2, a3, a4]
     unfold symX
     rfl
    have e2 : (lexN N (bys (tripB x))).2 = none := by
     rw [hb2, b1, b2, b3, b4]
     rfl
    rw [ht, e1, e2, List.take_succ_cons, List.flatMap_cons, List.append_assoc]
    refine ⟨?_, i2, fun g => ⟨(i3 g).1, by rw [str_bys]; exact hw⟩, i4⟩
    rw [← i1]
    exact (List.append_nil _).symm
   ·obtain ⟨c', hc'⟩ : ∃ q, c = (tripB x).size + (q + 1) := ⟨c - (tripB x).size - 1, by omega⟩
    have hz : c - ((tripB x).size + 1) = c' := by omega
    have ht : (bys (docB (x :: l))).take c = bys (tripB x) ++ 10 :: (bys (docB l)).take c' := by
     rw [hb, hc', ← bys_length, List.take_length_add_append, List.take_succ_cons]
    rw [hz] at i1 i2 i3 i4 ⊢
    obtain ⟨a, b⟩ := lex_trip N x hx ((bys (docB l)).take c')
    rw [ht, a, b, List.take_succ_cons, List.flatMap_cons, List.append_assoc, i1]
    refine ⟨rfl, i2, fun g => ⟨(i3 g).1, ?_⟩, i4⟩
    rw [str_append, str_bys]
    have e : strOfNums (10 :: (bys (docB l)).take c') = (⟨#[10]⟩ : ByteArray) ++ strOfNums ((bys (docB l)).take c') := str_append [10] _
    rw [e]
    exact well_app hw (well_app (well_lit1 10 (by decide)) (i3 g).2)
theorem parse_nd (l : List Tr) (h : ∀ x ∈ l, addB x = true) (B : List Sy) (hB : B ≠ []) (hd : ∀ y ∈ B, ¬ dotYP y) (ls : List Sm) (hl : ls.map unS = l.flatMap symX ++ B) : ∃ rem, parseL (ls.length + 1) ls [] = .inr rem := by
 obtain ⟨P, Q, rfl, hP, hQ⟩ := List.map_eq_append_iff.1 hl
 have hp := parse_sym l h (P.length + l.length + 1) P [] (by omega) hP
 rw [parse_app Q _ P [] _ hp (by omega) _ (Nat.lt_succ_self _)]
 cases Q with
 | nil => exact absurd hQ.symm hB
 | cons q0 r0 =>
  rw [parseL]
  cases h3 : rd3 (q0 :: r0) with
  | inr rem => exact ⟨rem, rfl⟩
  | inl t =>
   obtain ⟨x, y, z, l3⟩ := t
   obtain ⟨n, n1, n2, hd3, _⟩ := rd3_le h3
   dsimp only
   by_cases ca : addB ⟨x, y, z⟩ = true
   ·rw [if_pos ca]
    cases l3 with
    | nil => exact ⟨_, rfl⟩
    | cons q l4 =>
     dsimp only
     by_cases cd : dotS q
     ·exfalso
      have hq : q ∈ q0 :: r0 := List.mem_of_mem_drop (hd3 ▸ List.mem_cons_self ..)
      exact hd (unS q) (hQ ▸ List.mem_map_of_mem hq) ⟨cd.1, cd.2⟩
     ·rw [if_neg cd]
      exact ⟨_, rfl⟩
   ·rw [if_neg ca]
    exact ⟨_, rfl⟩
theorem parse_cut (l : List Tr) (h : ∀ x ∈ l, addB x = true) (hs : ∀ x ∈ l, SmallT x) (c : Nat) (hc : c ≤ (docB l).size) :
  (cutR l c = 0 → prB ((docB l).extract 0 c) = (l.take (cutN l c), 0, 0)) ∧ (cutR l c ≠ 0 → (prB ((docB l).extract 0 c)).2.2 = 4 ∧ (prB ((docB l).extract 0 c)).1 = []) := by
 have hb : bys ((docB l).extract 0 c) = (bys (docB l)).take c := by
  rw [bys_ext, List.drop_zero, Nat.sub_zero]
 generalize hS : (docB l).extract 0 c = S at hb ⊢
 obtain ⟨p, i1, i2, i3, i4⟩ := lex_cut S.size l c h hs hc
 rw [← hb] at i1 i2 i3
 refine ⟨fun g => ?_, fun g => ?_⟩
 ·obtain ⟨rfl, hw⟩ := i3 g
  rw [str_bys] at hw
  unfold Well at hw
  rw [lexN_nil] at i1 i2
  rw [List.map_nil, List.append_nil] at i1
  have ha : allB S = ((lexN S.size (bys S)).1, 0, 0) := by
   unfold allB
   rw [if_neg (by omega), i2]
  unfold prB
  rw [ha]
  dsimp only
  rw [if_pos rfl]
  have hlen : (l.take (cutN l c)).length ≤ (lexN S.size (bys S)).1.length := by
   have e := congrArg List.length i1
   rw [List.length_map] at e
   rw [e]
   generalize l.take (cutN l c) = m
   induction m with
   | nil => exact Nat.zero_le _
   | cons x m ih =>
    rw [List.flatMap_cons, List.length_append, List.length_cons]
    have : 1 ≤ (symX x).length := by
     unfold symX
     simp only [List.length_append, List.length_cons, List.length_nil]
     omega
    omega
  rw [parse_sym _ (fun x hx => h x (List.mem_of_mem_take hx)) _ _ [] (by omega) i1]
  rfl
 ·obtain ⟨g1, g2⟩ := i4 g
  have hA : (allB S).2.2 = 0 → (lexN S.size (bys S)).2 = none ∧ (allB S).1 = (lexN S.size (bys S)).1 := by
   unfold allB
   split
   ·intro q; exact absurd q (by show ¬ (4 : Int) = 0; decide)
   ·split
    ·rename_i e; exact fun _ => ⟨e, rfl⟩
    ·intro q; exact absurd q (by show ¬ (4 : Int) = 0; decide)
  have hE : ¬ (allB S).2.2 = 0 → (allB S).1 = [] := by
   unfold allB
   split
   ·exact fun _ => rfl
   ·split
    ·intro q; exact absurd rfl q
    ·exact fun _ => rfl
  unfold prB
  by_cases ce : (allB S).2.2 = 0
  ·rw [if_pos ce]
   obtain ⟨e1, e2⟩ := hA ce
   rw [e2]
   rw [i2] at e1
   obtain ⟨rem, hr⟩ := parse_nd (l.take (cutN l c)) (fun x hx => h x (List.mem_of_mem_take hx)) _ (g2 e1) (g1 e1) _ i1
   rw [hr]
   exact ⟨rfl, rfl⟩
  ·rw [if_neg ce]
   exact ⟨allB_err4 S ce, rfl⟩
theorem rtt_q (x : Tr) (h : SmallT x) (k : Nat) (hk : 7000000 ≤ k) : g2_TripleText.f k x.f0.f0 x.f0.f1 x.f0.f2 x.f1.f0 x.f1.f1 x.f1.f2 x.f2.f0 x.f2.f1 x.f2.f2 = some (tripB x) := by
 obtain ⟨⟨h1, g1⟩, ⟨h2, g2⟩, ⟨h3, g3⟩⟩ := h
 have z1 := text_size x.f0.f0 x.f0.f1 x.f0.f2
 have z2 := text_size x.f1.f0 x.f1.f1 x.f1.f2
 have z3 := text_size x.f2.f0 x.f2.f1 x.f2.f2
 unfold g2_TripleText.f
 rw [rtext_eq _ _ _ h1 g1 k (by omega), rtext_eq _ _ _ h2 g2 k (by omega), rtext_eq _ _ _ h3 g3 k (by omega)]
 simp only [Option.bind_some, ByteArray.size_append, lit1, lit2]
 rw [if_pos (by omega), if_pos (by omega), if_pos (by omega), if_pos (by omega), if_pos (by omega)]
 rfl
def finC (k : Nat) (l : List Tr) (cut : Int) (s : ByteArray) (n : Int) : Option Bool := if 0 ≤ cut then (if cut ≤ (s.size : Int) then ((nt_Parse.f k (s.extract 0 (cut : Int).toNat)).bind fun bt462 => (w5_TripleCuts.l1 k l cut n bt462.1 bt462.2.2 0 0)) else (none)) else (none)
theorem l0_end (k : Nat) (l : List Tr) (cut : Int) (s : ByteArray) (n e i : Int) (h : ¬ i < (l.length : Int)) : w5_TripleCuts.l0 (k + 1) l cut s n e i = finC k l cut s n := by
 rw [w5_TripleCuts.l0, if_neg h]
 rfl
theorem l0_step (k : Nat) (l : List Tr) (hs : ∀ x ∈ l, SmallT x) (cut : Int) (s : ByteArray) (n : Int) (e i : Nat) (h : i < l.length) (x : Tr) (hx : l.drop i = x :: l.drop (i + 1)) (hk : 7000000 ≤ k) (he : e + (tripB x).size ≤ 1000000000) (hl : l.length ≤ 1100000) :
  w5_TripleCuts.l0 (k + 1) l cut s n (e : Int) (i : Int) = if ((e + (tripB x).size : Nat) : Int) ≤ cut then w5_TripleCuts.l0 k l cut s ((i + 1 : Nat) : Int) ((e + ((tripB x).size + 1) : Nat) : Int) ((i + 1 : Nat) : Int) else w5_TripleCuts.l0 k l cut s n ((e + ((tripB x).size + 1) : Nat) : Int) ((i + 1 : Nat) : Int) := by
 have hd := drop_at l i h
 rw [hx] at hd
 obtain ⟨hd, _⟩ := List.cons.inj hd
 have hm : x ∈ l := List.mem_of_mem_drop (hx ▸ List.mem_cons_self ..)
 rw [w5_TripleCuts.l0, if_pos (by omega), if_pos (by omega), ← hd, rtt_q x (hs x hm) k hk, Option.bind_some]
 have e1 : wrap64 ((e : Int) + ((tripB x).size : Int)) = ((e + (tripB x).size : Nat) : Int) := by rw [w64n (by omega) (by omega)]; omega
 have e2 : wrap64 (((e + (tripB x).size : Nat) : Int) + 1) = ((e + ((tripB x).size + 1) : Nat) : Int) := by rw [w64n (by omega) (by omega)]; omega
 have e3 : wrap64 (((e + ((tripB x).size + 1) : Nat) : Int) - 1) = ((e + (tripB x).size : Nat) : Int) := by rw [w64n (by omega) (by omega)]; omega
 rw [e1, e2, e3, w1_1 (by omega)]
theorem l0_past (l : List Tr) (hs : ∀ x ∈ l, SmallT x) (hl : l.length ≤ 1100000) (cut : Nat) (s : ByteArray) (n : Int) : ∀ (d i e k : Nat), l.length - i = d → i ≤ l.length → cut < e → e + (docB (l.drop i)).size ≤ 1000000000 → 7000000 + d + 1 ≤ k →
  w5_TripleCuts.l0 k l (cut : Int) s n (e : Int) (i : Int) = finC (k - d - 1) l (cut : Int) s n
 | 0, i, e, k, hd, hi, hc, hz, hk => by
  obtain ⟨k, rfl⟩ : ∃ q, k = q + 1 := ⟨k - 1, by omega⟩
  rw [l0_end _ _ _ _ _ _ _ (by omega)]
  rfl
 | d + 1, i, e, k, hd, hi, hc, hz, hk => by
  obtain ⟨k, rfl⟩ : ∃ q, k = q + 1 := ⟨k - 1, by omega⟩
  have hx := drop_at l i (by omega)
  rw [hx, doc_cons_size] at hz
  rw [l0_step k l hs _ _ _ e i (by omega) _ hx (by omega) (by omega) hl, if_neg (by omega), l0_past l hs hl cut s n d (i + 1) _ k (by omega) (by omega) (by omega) (by omega) (by omega)]
  rw [show k + 1 - (d + 1) - 1 = k - d - 1 by omega]
theorem trip_pos (x : Tr) : 1 ≤ (tripB x).size := by
 unfold tripB tripleB
 simp only [ByteArray.size_append]
 have e2 : (⟨#[32, 46]⟩ : ByteArray).size = 2 := rfl
 omega
theorem l0_run (l : List Tr) (hs : ∀ x ∈ l, SmallT x) (hl : l.length ≤ 1100000) (cut : Nat) (s : ByteArray) : ∀ (d i e k : Nat), l.length - i = d → i ≤ l.length → e ≤ cut + 1 → e + (docB (l.drop i)).size ≤ 1000000000 → 7000000 + d + 1 ≤ k →
  w5_TripleCuts.l0 k l (cut : Int) s (i : Int) (e : Int) (i : Int) = finC (k - d - 1) l (cut : Int) s ((i + cutN (l.drop i) (cut - e) : Nat) : Int)
 | 0, i, e, k, hd, hi, hc, hz, hk => by
  obtain ⟨k, rfl⟩ : ∃ q, k = q + 1 := ⟨k - 1, by omega⟩
  rw [l0_end _ _ _ _ _ _ _ (by omega), List.drop_eq_nil_of_le (by omega)]
  rfl
 | d + 1, i, e, k, hd, hi, hc, hz, hk => by
  obtain ⟨k, rfl⟩ : ∃ q, k = q + 1 := ⟨k - 1, by omega⟩
  have hx := drop_at l i (by omega)
  have hp := trip_pos (rd_T38 l ((i : Nat) : Int))
  rw [hx, doc_cons_size] at hz
  rw [l0_step k l hs _ _ _ e i (by omega) _ hx (by omega) (by omega) hl, hx, cutN]
  by_cases ct : e + (tripB (rd_T38 l ((i : Nat) : Int))).size ≤ cut
  ·rw [if_pos (by omega), if_neg (by omega), l0_run l hs hl cut s d (i + 1) _ k (by omega) (by omega) (by omega) (by omega) (by omega)]
   rw [show k + 1 - (d + 1) - 1 = k - d - 1 by omega, show cut - (e + ((tripB (rd_T38 l ((i : Nat) : Int))).size + 1)) = cut - e - ((tripB (rd_T38 l ((i : Nat) : Int))).size + 1) by omega]
   rw [show ∀ m : Nat, i + 1 + m = i + (m + 1) from fun m => by omega]
  ·rw [if_neg (by omega), if_pos (by omega), l0_past l hs hl cut s _ d (i + 1) _ k (by omega) (by omega) (by omega) (by omega) (by omega)]
   rw [show k + 1 - (d + 1) - 1 = k - d - 1 by omega]
   rfl
def endC (k : Nat) (l : List Tr) (cut n : Int) (m : List Tr) (f w : Int) : Option Bool := if cut ≤ w then ((w5_num.f f).bind fun t469 => (if t469 = 0 then (if 0 ≤ n then (if n ≤ (l.length : Int) then ((w5_same.f k m (l.take (n : Int).toNat)).bind fun t474 => (if t474 = true then ((w5_known.f k).bind fun t475 => (some t475)) else (none))) else (none)) else (none)) else (none))) else ((w5_num.f f).bind fun t476 => (if t476 = 4 then (if (m.length : Int) = 0 then ((w5_known.f k).bind fun t477 => (some t477)) else (none)) else (none)))
theorem l1_end (k : Nat) (l : List Tr) (cut n : Int) (m : List Tr) (f e i : Int) (h : ¬ i < n) : w5_TripleCuts.l1 (k + 1) l cut n m f e i = endC k l cut n m f e := by
 rw [w5_TripleCuts.l1, if_neg h]
 rfl
theorem l1_step (k : Nat) (l : List Tr) (hs : ∀ x ∈ l, SmallT x) (cut n : Int) (m : List Tr) (f : Int) (e i : Nat) (h : i < l.length) (hn : (i : Int) < n) (x : Tr) (hx : l.drop i = x :: l.drop (i + 1)) (hk : 7000000 ≤ k) (he : e + (tripB x).size ≤ 1000000000) (hl : l.length ≤ 1100000) :
  w5_TripleCuts.l1 (k + 1) l cut n m f (e : Int) (i : Int) = w5_TripleCuts.l1 k l cut n m f ((e + ((tripB x).size + 1) : Nat) : Int) ((i + 1 : Nat) : Int) := by
 have hd := drop_at l i h
 rw [hx] at hd
 obtain ⟨hd, _⟩ := List.cons.inj hd
 have hm : x ∈ l := List.mem_of_mem_drop (hx ▸ List.mem_cons_self ..)
 rw [w5_TripleCuts.l1, if_pos (by omega), if_pos (by omega), if_pos (by omega), ← hd, rtt_q x (hs x hm) k hk, Option.bind_some]
 have e1 : wrap64 ((e : Int) + ((tripB x).size : Int)) = ((e + (tripB x).size : Nat) : Int) := by rw [w64n (by omega) (by omega)]; omega
 have e2 : wrap64 (((e + (tripB x).size : Nat) : Int) + 1) = ((e + ((tripB x).size + 1) : Nat) : Int) := by rw [w64n (by omega) (by omega)]; omega
 rw [e1, e2, w1_1 (by omega)]
theorem l1_run (l : List Tr) (hs : ∀ x ∈ l, SmallT x) (hl : l.length ≤ 1100000) (cut : Int) (n : Nat) (hn : n ≤ l.length) (m : List Tr) (f : Int) (v : Bool) : ∀ (d i e k : Nat), n - i = d → i ≤ n → e + (docB ((l.drop i).take (n - i))).size ≤ 1000000000 → 7000000 + d + 1 ≤ k →
  (∀ k', 7000000 ≤ k' → endC k' l cut (n : Int) m f ((e + (docB ((l.drop i).take (n - i))).size : Nat) : Int) = some v) →
  w5_TripleCuts.l1 k l cut (n : Int) m f (e : Int) (i : Int) = some v
 | 0, i, e, k, hd, hi, hz, hk, H => by
  obtain ⟨k, rfl⟩ : ∃ q, k = q + 1 := ⟨k - 1, by omega⟩
  rw [l1_end _ _ _ _ _ _ _ _ (by omega)]
  have := H k (by omega)
  rw [show n - i = 0 by omega, List.take_zero] at this
  exact this
 | d + 1, i, e, k, hd, hi, hz, hk, H => by
  obtain ⟨k, rfl⟩ : ∃ q, k = q + 1 := ⟨k - 1, by omega⟩
  have hx := drop_at l i (by omega)
  generalize rd_T38 l ((i : Nat) : Int) = x at hx
  have hstep : (docB ((l.drop i).take (n - i))).size = (tripB x).size + 1 + (docB ((l.drop (i + 1)).take (n - (i + 1)))).size := by
   rw [hx, show n - i = (n - (i + 1)) + 1 by omega, List.take_succ_cons, doc_cons_size]
  rw [hstep] at hz H
  rw [l1_step k l hs cut n m f e i (by omega) (by omega) x hx (by omega) (by omega) hl]
  refine l1_run l hs hl cut n hn m f v d (i + 1) _ k (by omega) (by omega) (by omega) (by omega) fun k' hk' => ?_
  have h2 := H k' hk'
  rw [← Nat.add_assoc] at h2
  rw [Nat.add_assoc e, Nat.add_comm ((tripB x).size + 1)]
  rw [Nat.add_assoc, Nat.add_comm ((tripB x).size + 1)] at h2
  exact h2
theorem txt_some (l : List Tr) (hl : l.length ≤ 100000) (hs : ∀ x ∈ l, SmallT x) : ∀ (n i : Nat) (bs : List UInt8) (k : Nat), i + n = l.length → 4900000 + n + 1 ≤ k → ∃ v, nt_Text.l0 k l bs ((i : Nat) : Int) = some v
 | 0, i, bs, k, hi, hk => by
  obtain ⟨k, rfl⟩ : ∃ q, k = q + 1 := ⟨k - 1, by omega⟩
  rw [nt_Text.l0, if_neg (by omega)]
  split <;> exact ⟨_, rfl⟩
 | n + 1, i, bs, k, hi, hk => by
  obtain ⟨k, rfl⟩ : ∃ q, k = q + 1 := ⟨k - 1, by omega⟩
  have hd := drop_at l i (by omega)
  have hx : rd_T38 l ((i : Nat) : Int) ∈ l := List.mem_of_mem_drop (hd ▸ List.mem_cons_self ..)
  have hsx := hs _ hx
  rw [nt_Text.l0, if_pos (by omega), if_pos (by omega)]
  generalize rd_T38 l ((i : Nat) : Int) = x at hsx ⊢
  have hz := tripB_size x
  have hq : szT x ≤ 100000000 := by
   unfold SmallT at hsx
   unfold szT
   omega
  rw [add_q x hsx k (by omega), Option.bind_some]
  by_cases ca : addB x = true
  ·rw [if_pos ca, tt_q x hsx (fol_of ca) k (by omega), Option.bind_some]
   dsimp only
   rw [w1_1 (by omega)]
   split
   ·rw [if_pos (by omega)]
    exact txt_some l hl hs n (i + 1) _ k (by omega) (by omega)
   ·exact txt_some l hl hs n (i + 1) _ k (by omega) (by omega)
  ·rw [if_neg ca]
   exact ⟨_, rfl⟩
theorem tripleCuts_pure (l : List Tr) (cut : Int) (hs : ∀ x ∈ l, SmallT x) : ∃ k, w5_TripleCuts.f k l cut = some true := by
 refine ⟨7200001, ?_⟩
 have hknown : ∀ k, 60 ≤ k → ((w5_known.f k).bind fun t => (some t)) = some true := fun k hk => by rw [known_ge k hk]; rfl
 have hj : ∀ s, w5_TripleCuts.j0 7200001 l cut s true = some true := fun s => by
  rw [show (7200001 : Nat) = 7200000 + 1 from rfl, w5_TripleCuts.j0, if_pos rfl]
  exact hknown _ (by decide)
 have hmn := mn_bounds (l.length : Int) 60
 unfold w5_TripleCuts.f
 rw [if_pos (by omega), if_pos (by omega)]
 have hst : ∀ x ∈ l.take (mn (l.length : Int) 60 : Int).toNat, SmallT x := fun x hx => hs x (List.mem_of_mem_take hx)
 have hlt : (l.take (mn (l.length : Int) 60 : Int).toNat).length ≤ 60 := by
  rw [List.length_take]
  omega
 obtain ⟨v, hv⟩ := txt_some _ (by omega) hst _ 0 [] 7200001 (Nat.zero_add _) (by omega)
 have hT : nt_Text.f 7200001 (l.take (mn (l.length : Int) 60 : Int).toNat) = some v := hv
 rw [hT, Option.bind_some]
 cases hM : g2_Much.f l 60 with
 | none => unfold g2_Much.f at hM; cases hM
 | some m =>
  rw [Option.bind_some]
  cases m with
  | true => rw [if_pos rfl]; exact hj _
  | false =>
   obtain ⟨m1, m2⟩ := much_sum l hM
   have hz := doc_size l
   rw [if_neg Bool.false_ne_true, num_eq, Option.bind_some]
   have ht : l.take (mn (l.length : Int) 60 : Int).toNat = l := List.take_of_length_le (by omega)
   rw [ht, text_f l (by omega) hs (by omega) 7200001 (by omega)] at hT
   have hv2 := Option.some.inj hT
   subst hv2
   by_cases c : okL l = true
   ·rw [if_pos c]
    dsimp only
    rw [if_pos rfl]
    by_cases c1 : cut < 0
    ·rw [if_pos c1]
     exact hj _
    rw [if_neg c1]
    by_cases c2 : cut > ((docB l).size : Int)
    ·rw [decide_eq_true c2]
     exact hj _
    rw [decide_eq_false c2]
    obtain ⟨q, rfl⟩ : ∃ q : Nat, cut = (q : Int) := ⟨cut.toNat, by omega⟩
    have hok := (okL_iff l).1 c
    have hq : q ≤ (docB l).size := by omega
    obtain ⟨w1, w2⟩ := cut_whole l q hq
    obtain ⟨p1, p2⟩ := parse_cut l hok hs q hq
    have hn := cutN_le l q
    rw [show (7200001 : Nat) = 7200000 + 1 from rfl, w5_TripleCuts.j0, if_neg Bool.false_ne_true]
    have hrun := l0_run l hs (by omega) q (docB l) l.length 0 0 7200000 (by omega) (Nat.zero_le _) (by omega) (by rw [List.drop_zero]; omega) (by omega)
    rw [List.drop_zero, Nat.sub_zero, Nat.zero_add] at hrun
    refine hrun.trans ?_
    unfold finC
    rw [if_pos (by omega), if_pos (by omega), Int.toNat_natCast, parse_B _ (by rw [ByteArray.size_extract]; omega) _ (by omega), Option.bind_some]
    refine l1_run l hs (by omega) (q : Int) (cutN l q) hn _ _ true (cutN l q) 0 0 _ (by omega) (Nat.zero_le _) (by
     rw [List.drop_zero, Nat.sub_zero]
     have : ∀ (n : Nat) (l : List Tr), (docB (l.take n)).size ≤ (docB l).size := by
      intro n
      induction n with
      | zero => intro l; rw [List.take_zero]; exact Nat.zero_le _
      | succ n ih =>
       intro l
       cases l with
       | nil => exact Nat.le_refl _
       | cons x l =>
        rw [List.take_succ_cons, doc_cons_size, doc_cons_size]
        have := ih l
        omega
     have := this (cutN l q) l
     omega) (by omega) fun k' hk' => ?_
    rw [List.drop_zero, Nat.sub_zero, Nat.zero_add]
    unfold endC
    rw [num_eq, Option.bind_some, Option.bind_some]
    by_cases hR : cutR l q = 0
    ·have hw := w1 hR
     rw [if_pos (by omega), p1 hR]
     dsimp only
     rw [if_pos rfl, if_pos (by omega), if_pos (by omega), Int.toNat_natCast, same_self _ (by rw [List.length_take]; omega) k' (by rw [List.length_take]; omega), Option.bind_some, if_pos rfl]
     exact hknown k' (by omega)
    ·have hw := w2 hR
     obtain ⟨g1, g2⟩ := p2 hR
     rw [if_neg (by omega), g1, g2, if_pos rfl, if_pos (show (([] : List Tr).length : Int) = 0 from rfl)]
     exact hknown k' (by omega)
   ·rw [if_neg c]
    dsimp only
    rw [if_neg (by decide)]
    exact hj _
end Go.Proofs.YtjnhdamilbcmpaaDoor.PTm

import Derived.Test.YtpbphelaeleikaaGreatDoorXtLtC
import Derived.Lib.IndexLaws
namespace Go.Proofs.YtpbphelaeleikaaGreatDoor.PLt
open Go.RowKit Go.Proofs.YtpbphelaeleikaaGreatDoorW.PrintWords Go.Proofs.YtpbphelaeleikaaGreatDoorW.PrintLast Go.Proofs.YtpbphelaeleikaaGreatDoorW.PrintMore
set_option linter.unusedVariables false
set_option linter.unusedSimpArgs false
set_option maxRecDepth 10000
def lastN (p : List S24) : Nat → ByteArray → Option ByteArray
 | 0, _ => none
 | n + 1, q => if (rd_T24 p ((n : Nat) : Int)).f0.toList = q.toList then some (rd_T24 p ((n : Nat) : Int)).f1 else lastN p n q
theorem toList_inj {a b : ByteArray} : a.toList = b.toList ↔ a = b := by
 constructor
 ·intro h
  rw [Lib.toList_data, Lib.toList_data] at h
  obtain ⟨x⟩ := a
  obtain ⟨y⟩ := b
  have : x = y := Array.ext' h
  rw [this]
 ·rintro rfl; rfl
theorem look_fold (p : List S24) (q : ByteArray) : ∀ n, n ≤ p.length → lookM ((p.take n).foldl (fun M p => setM M p.f0 p.f1) []) q = lastN p n q
 | 0, _ => rfl
 | n + 1, h => by
  have hd : p.take (n + 1) = p.take n ++ [rd_T24 p ((n : Nat) : Int)] := by
   rw [List.take_succ_eq_append_getElem (by omega)]
   congr 2
   unfold rd_T24
   rw [Int.toNat_natCast, List.getD_eq_getElem?_getD, List.getElem?_eq_getElem (by omega), Option.getD_some]
  rw [hd, List.foldl_append, List.foldl_cons, List.foldl_nil, look_set, look_fold p q n (by omega), lastN]
  by_cases c : (rd_T24 p ((n : Nat) : Int)).f0 = q
  ·rw [if_pos ((Go.MapKept.bytes_beq _ _).2 c.symm), if_pos (toList_inj.2 c)]
  ·rw [if_neg (fun h => c ((Go.MapKept.bytes_beq _ _).1 h).symm), if_neg (fun h => c (toList_inj.1 h))]
theorem look_pre (p : List S24) (q : ByteArray) : lookM (w4_prefixes.f p) q = lastN p p.length q := by
 have h := look_fold p q p.length (Nat.le_refl _)
 rw [List.take_length] at h
 exact h
theorem lastN_size (p : List S24) (B : Nat) (hB : ∀ i : Nat, i < p.length → (rd_T24 p (i : Int)).f1.size ≤ B) (q b : ByteArray) : ∀ n, n ≤ p.length → lastN p n q = some b → b.size ≤ B
 | 0, _, h => by cases h
 | n + 1, hn, h => by
  rw [lastN] at h
  split at h
  ·obtain rfl := Option.some.inj h
   exact hB n (by omega)
  ·exact lastN_size p B hB q b n (by omega) h
def Colon (t : ByteArray) (i : Nat) : Prop := i < t.size ∧ bt t i = 58 ∧ ∀ j : Nat, j < i → bt t j ≠ 58
theorem colon_of (t : ByteArray) : ∀ n, n < t.size → bt t n = 58 → ∃ i, Colon t i := by
 intro n
 induction n using Nat.strongRecOn with
 | _ n ih =>
  intro hn h
  by_cases c : ∃ j : Nat, j < n ∧ bt t j = 58
  ·obtain ⟨j, h1, h2⟩ := c
   exact ih j h1 (by omega) h2
  ·exact ⟨n, hn, h, fun j hj e => c ⟨j, hj, e⟩⟩
theorem index_colon {t : ByteArray} {i : Nat} (h : Colon t i) : Lib.indexByte t.data.toList 58 = (i : Int) := by
 obtain ⟨h1, h2, h3⟩ := h
 have hb : ∀ j : Nat, j < t.size → (t.data.toList[j]? = some 58 ↔ bt t j = 58) := fun j hj => by
  rw [bt_get t j hj]
  constructor
  ·intro e
   have e2 := Option.some.inj e
   exact ofNat_inj (bt_range t j) (by decide) (e2.trans rfl)
  ·intro e
   rw [e]; rfl
 have hge := Lib.indexByte_ge t.data.toList 58
 by_cases hn : Lib.indexByte t.data.toList 58 = -1
 ·exact absurd ((hb i h1).2 h2) (Lib.indexByte_none hn i)
 ·obtain ⟨o, ho⟩ := Int.eq_ofNat_of_zero_le (show 0 ≤ Lib.indexByte t.data.toList 58 by omega)
  obtain ⟨g1, g2⟩ := Lib.indexByte_some ho
  have hol : o < t.size := by
   have := (List.getElem?_eq_some_iff.1 g1).1
   rwa [← Lib.size_eq] at this
  rw [ho]
  have e1 : ¬ i < o := fun hlt => g2 i hlt ((hb i h1).2 h2)
  have e2 : ¬ o < i := fun hlt => h3 o hlt ((hb o hol).1 g1)
  omega
theorem cut_tot (t : ByteArray) (ht : t.size ≤ 90000) : ∃ v, strings_Cut.f t (⟨#[58]⟩ : ByteArray) = some v ∧ v.2.1.size ≤ 90000 ∧ ∀ i, Colon t i → v.1 = t.extract 0 i ∧ v.2.1 = t.extract (i + 1) t.size := by
 unfold strings_Cut.f stringslite_Cut.f stringslite_Index.f
 have e : oneByteX (⟨#[58]⟩ : ByteArray) = some 58 := rfl
 rw [e]
 simp only [Option.map_some, Option.bind_some]
 have hz : ((⟨#[58]⟩ : ByteArray).size : Int) = 1 := rfl
 rw [hz]
 have hge := Lib.indexByte_ge t.data.toList 58
 by_cases hn : Lib.indexByte t.data.toList 58 = -1
 ·rw [hn, if_neg (by decide)]
  refine ⟨_, rfl, by show 0 ≤ _; omega, fun i hc => ?_⟩
  rw [index_colon hc] at hn
  omega
 ·obtain ⟨o, ho⟩ := Int.eq_ofNat_of_zero_le (show 0 ≤ Lib.indexByte t.data.toList 58 by omega)
  obtain ⟨g1, g2⟩ := Lib.indexByte_some ho
  have hol : o < t.size := by
   have := (List.getElem?_eq_some_iff.1 g1).1
   rwa [← Lib.size_eq] at this
  rw [ho, wn1 (by omega), if_pos (by omega), if_pos (by omega), if_pos (by omega), if_pos (by omega), if_pos (by omega)]
  refine ⟨_, rfl, ?_, fun i hc => ?_⟩
  ·show (t.extract (o + 1) t.size).size ≤ _
   rw [ext_size t _ _ (Nat.le_refl _)]; omega
  ·have := index_colon hc
   rw [ho] at this
   obtain rfl : o = i := by omega
   exact ⟨rfl, rfl⟩
def Names (x : S43) (p : List S24) (g : Option (Int × ByteArray × ByteArray)) : Prop :=
 (x.f0 = 1 ∧ g = some (x.f2.f0, x.f2.f1, x.f2.f2)) ∨ (x.f0 ≠ 1 ∧ x.f0 ≠ 7 ∧ g = none) ∨
 (x.f0 = 7 ∧ ∃ i, Colon x.f1 i ∧ ((lastN p p.length (x.f1.extract 0 i) = none ∧ g = none) ∨ ∃ b, lastN p p.length (x.f1.extract 0 i) = some b ∧ b.size ≤ 9000 ∧ g = if mayB 1 (b ++ x.f1.extract (i + 1) x.f1.size) Z0 = true then some (1, b ++ x.f1.extract (i + 1) x.f1.size, Z0) else none))
theorem names_ex (x : S43) (p : List S24) (hx : SymOk x) (hp : ∀ i : Nat, i < p.length → (rd_T24 p (i : Int)).f1.size ≤ 9000) : ∃ g, Names x p g ∧ ∀ a b c, g = some (a, b, c) → b.size ≤ 99000 := by
 by_cases h1 : x.f0 = 1
 ·refine ⟨_, .inl ⟨h1, rfl⟩, fun a b c h => ?_⟩
  have e := Option.some.inj h
  simp only [Prod.mk.injEq] at e
  rw [← e.2.1]
  have := hx.2.1
  omega
 ·by_cases h7 : x.f0 = 7
  ·obtain ⟨n, hn, hc⟩ := hx.2.2.2.2 h7
   obtain ⟨i, hi⟩ := colon_of x.f1 n hn hc
   cases hl : lastN p p.length (x.f1.extract 0 i) with
   | none => exact ⟨none, .inr (.inr ⟨h7, i, hi, .inl ⟨hl, rfl⟩⟩), fun _ _ _ h => by cases h⟩
   | some b =>
    have hb := lastN_size p 9000 hp _ b p.length (Nat.le_refl _) hl
    refine ⟨_, .inr (.inr ⟨h7, i, hi, .inr ⟨b, hl, hb, rfl⟩⟩), fun a' b' c' h => ?_⟩
    split at h
    ·have e := Option.some.inj h
     simp only [Prod.mk.injEq] at e
     rw [← e.2.1, ByteArray.size_append, ext_size _ _ _ (Nat.le_refl _)]
     have := hx.1
     omega
    ·cases h
  ·exact ⟨none, .inr (.inl ⟨h1, h7, rfl⟩), fun _ _ _ h => by cases h⟩
def Res (g : Option (Int × ByteArray × ByteArray)) (u : Int × ByteArray × ByteArray × Bool) : Prop := (∃ a b c, g = some (a, b, c) ∧ u = (a, b, c, true)) ∨ (g = none ∧ u.2.2.2 = false)
theorem lex_res (x : S43) (p : List S24) (hx : SymOk x) (g : Option (Int × ByteArray × ByteArray)) (hg : Names x p g) (hp : ∀ i : Nat, i < p.length → (rd_T24 p (i : Int)).f1.size ≤ 9000) :
  ∃ K, ∀ k, K ≤ k → ∃ u, lex_resource.f k x.f0 x.f1 x.f2.f0 x.f2.f1 x.f2.f2 x.f3 (w4_prefixes.f p) = some u ∧ Res g u := by
 rcases hg with ⟨h1, rfl⟩ | ⟨h1, h7, rfl⟩ | ⟨h7, i, hi, hg⟩
 ·refine ⟨0, fun k _ => ⟨_, ?_, .inl ⟨_, _, _, rfl, rfl⟩⟩⟩
  unfold lex_resource.f
  rw [if_pos h1]
 ·obtain ⟨v, hv, hsz, _⟩ := cut_tot x.f1 hx.1
  refine ⟨0, fun k _ => ?_⟩
  unfold lex_resource.f
  rw [if_neg h1, hv]
  simp only [Option.bind_some, look_pre]
  have hb : ((lastN p p.length v.1).getD (⟨#[]⟩ : ByteArray)).size ≤ 9000 := by
   cases hl : lastN p p.length v.1 with
   | none => show 0 ≤ _; omega
   | some b => exact lastN_size p 9000 hp _ b p.length (Nat.le_refl _) hl
  rw [if_pos (by omega), if_neg (fun h => h7 h.1)]
  exact ⟨_, rfl, .inr ⟨rfl, rfl⟩⟩
 ·obtain ⟨v, hv, hsz, hcol⟩ := cut_tot x.f1 hx.1
  obtain ⟨e1, e2⟩ := hcol i hi
  have h1 : ¬ x.f0 = 1 := by omega
  rcases hg with ⟨hl, rfl⟩ | ⟨b, hl, hb, rfl⟩
  ·refine ⟨0, fun k _ => ?_⟩
   unfold lex_resource.f
   rw [if_neg h1, hv]
   simp only [Option.bind_some, look_pre, e1, hl]
   rw [if_pos (by show (Z0).size + v.2.1.size ≤ _; have : Z0.size = 0 := rfl; omega), if_neg (fun h => by cases h.2)]
   exact ⟨_, rfl, .inr ⟨rfl, rfl⟩⟩
  ·have hsz2 : (b ++ x.f1.extract (i + 1) x.f1.size).size ≤ 1000000 := by
    rw [ByteArray.size_append, ← e2]; omega
   obtain ⟨K, hK⟩ := may_term 1 (b ++ x.f1.extract (i + 1) x.f1.size) Z0 hsz2 (by decide)
   refine ⟨K, fun k hk => ?_⟩
   unfold lex_resource.f
   rw [if_neg h1, hv]
   simp only [Option.bind_some, look_pre, e1, e2, hl, Option.getD_some, Option.isSome_some]
   rw [if_pos (by rw [← e2]; omega), if_pos ⟨h7, trivial⟩, hK k hk]
   simp only [Option.bind_some]
   refine ⟨_, rfl, ?_⟩
   cases hm : mayB 1 (b ++ x.f1.extract (i + 1) x.f1.size) Z0 with
   | true => exact .inl ⟨_, _, _, rfl, rfl⟩
   | false => exact .inr ⟨rfl, rfl⟩
theorem ref_l1 (x : S43) (p : List S24) (hx : SymOk x) (i : Nat) (hi : Colon x.f1 i) (hp : ∀ i : Nat, i < p.length → (rd_T24 p (i : Int)).f1.size ≤ 9000) (hpl : p.length ≤ 1000) :
  ∀ n, n ≤ p.length → ∀ k, 400000 + n ≤ k → ∃ u, g4_resource.l1 k p i ((n : Int) - 1) x.f0 x.f1 x.f2.f0 x.f2.f1 x.f2.f2 x.f3 = some u ∧
   ((lastN p n (x.f1.extract 0 i) = none ∧ u.2.2.2 = false) ∨ ∃ b, lastN p n (x.f1.extract 0 i) = some b ∧ u = (1, b ++ x.f1.extract (i + 1) x.f1.size, Z0, mayB 1 (b ++ x.f1.extract (i + 1) x.f1.size) Z0))
 | 0, hn, k, hk => by
  obtain ⟨k, rfl⟩ : ∃ m, k = m + 1 := ⟨k - 1, by omega⟩
  rw [g4_resource.l1, if_neg (by omega)]
  exact ⟨_, rfl, .inl ⟨rfl, rfl⟩⟩
 | n + 1, hn, k, hk => by
  obtain ⟨k, rfl⟩ : ∃ m, k = m + 1 := ⟨k - 1, by omega⟩
  have hi1 := hi.1
  have hxs := hx.1
  have e : ((n + 1 : Nat) : Int) - 1 = (n : Int) := by omega
  rw [g4_resource.l1, e, if_pos (by omega), if_pos (by omega), if_pos (by omega), if_pos (by omega), if_pos (by omega), wn1 (by omega), if_pos (c := 0 ≤ ((i + 1 : Nat) : Int)) (by omega), if_pos (c := ((i + 1 : Nat) : Int) ≤ (x.f1.size : Int)) (by omega)]
  rw [lastN]
  have ee : (x.f1.extract 0 ((i : Int)).toNat) = x.f1.extract 0 i := rfl
  have ef : (x.f1.extract (((i + 1 : Nat) : Int)).toNat x.f1.size) = x.f1.extract (i + 1) x.f1.size := rfl
  rw [ee, ef]
  by_cases c : (rd_T24 p (n : Int)).f0.toList = (x.f1.extract 0 i).toList
  ·have hb := hp n (by omega)
   have hz : (x.f1.extract (i + 1) x.f1.size).size ≤ 90000 := by rw [ext_size _ _ _ (Nat.le_refl _)]; omega
   rw [if_pos c, if_pos c, if_pos (by omega), may_ref 1 _ _ (by rw [ByteArray.size_append]; omega) (by decide) k (by rw [ByteArray.size_append]; have : (⟨#[]⟩ : ByteArray).size = 0 := rfl; omega)]
   exact ⟨_, rfl, .inr ⟨_, rfl, rfl⟩⟩
  ·rw [if_neg c, if_neg c, w64n (n := (n : Int) - 1) (by omega) (by omega)]
   exact ref_l1 x p hx i hi hp hpl n (by omega) k (by omega)
theorem ref_l0 (x : S43) (p : List S24) (hx : SymOk x) (i : Nat) (hi : Colon x.f1 i) (hpl : p.length ≤ 1000) :
  ∀ (d j : Nat), i - j ≤ d → j ≤ i → ∀ k, g4_resource.l0 (k + d + 1) p j x.f0 x.f1 x.f2.f0 x.f2.f1 x.f2.f2 x.f3 = g4_resource.l1 (k + d - (i - j)) p i ((p.length : Int) - 1) x.f0 x.f1 x.f2.f0 x.f2.f1 x.f2.f2 x.f3
 | d, j, hd, hj, k => by
  have hi1 := hi.1
  have hxs := hx.1
  rw [g4_resource.l0, if_pos (by omega), if_pos (by omega)]
  by_cases c : j = i
  ·subst c
   rw [if_pos hi.2.1, w64n (by omega) (by omega), Nat.sub_self, Nat.sub_zero]
  ·cases d with
   | zero => omega
   | succ d =>
    rw [if_neg (hi.2.2 j (by omega)), wn1 (by omega)]
    have h := ref_l0 x p hx i hi hpl d (j + 1) (by omega) (by omega) k
    rw [show k + (d + 1) = k + d + 1 from rfl, h]
    congr 1
    omega
theorem ref_res (x : S43) (p : List S24) (hx : SymOk x) (g : Option (Int × ByteArray × ByteArray)) (hg : Names x p g) (hp : ∀ i : Nat, i < p.length → (rd_T24 p (i : Int)).f1.size ≤ 9000) (hpl : p.length ≤ 1000) (k : Nat) (hk : 600000 ≤ k) :
  ∃ u, g4_resource.f k x.f0 x.f1 x.f2.f0 x.f2.f1 x.f2.f2 x.f3 p = some u ∧ Res g u := by
 unfold g4_resource.f
 rcases hg with ⟨h1, rfl⟩ | ⟨h1, h7, rfl⟩ | ⟨h7, i, hi, hg⟩
 ·rw [if_pos h1]
  exact ⟨_, rfl, .inl ⟨_, _, _, rfl, rfl⟩⟩
 ·rw [if_neg h1, if_neg h7]
  exact ⟨_, rfl, .inr ⟨rfl, rfl⟩⟩
 ·have hi1 := hi.1
  have hxs := hx.1
  rw [if_neg (by omega), if_pos h7]
  have h0 := ref_l0 x p hx i hi hpl i 0 (by omega) (by omega) (k - i - 1)
  rw [show k - i - 1 + i + 1 = k by omega] at h0
  rw [show ((0 : Nat) : Int) = 0 from rfl] at h0
  rw [h0]
  obtain ⟨u, hu, h⟩ := ref_l1 x p hx i hi hp hpl p.length (Nat.le_refl _) (k - i - 1 + i - (i - 0)) (by omega)
  refine ⟨u, hu, ?_⟩
  rcases hg with ⟨hl, rfl⟩ | ⟨b, hl, hb, rfl⟩
  ·rcases h with ⟨_, h⟩ | ⟨b, h, _⟩
   ·exact .inr ⟨rfl, h⟩
   ·rw [hl] at h; cases h
  ·rcases h with ⟨h, _⟩ | ⟨b', h, rfl⟩
   ·rw [hl] at h; cases h
   ·rw [hl] at h
    obtain rfl := Option.some.inj h
    cases hm : mayB 1 (b ++ x.f1.extract (i + 1) x.f1.size) Z0 with
    | true => exact .inl ⟨_, _, _, rfl, rfl⟩
    | false => exact .inr ⟨rfl, rfl⟩
end Go.Proofs.YtpbphelaeleikaaGreatDoor.PLt

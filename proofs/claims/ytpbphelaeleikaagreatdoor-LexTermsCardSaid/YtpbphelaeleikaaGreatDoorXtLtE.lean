import Derived.Test.YtpbphelaeleikaaGreatDoorXtLtD
namespace Go.Proofs.YtpbphelaeleikaaGreatDoor.PLt
open Go.RowKit Go.Proofs.YtpbphelaeleikaaGreatDoorW.PrintWords Go.Proofs.YtpbphelaeleikaaGreatDoorW.PrintLast Go.Proofs.YtpbphelaeleikaaGreatDoorW.PrintMore
set_option linter.unusedVariables false
set_option linter.unusedSimpArgs false
set_option maxRecDepth 10000
def markB (x : S43) (t : ByteArray) : Bool := if x.f0 = 8 then x.f1.toList == t.toList else false
theorem lmark (x : S43) (t : ByteArray) : lex_Mark.f x.f0 x.f1 x.f2.f0 x.f2.f1 x.f2.f2 x.f3 t = some (markB x t) := by
 unfold lex_Mark.f markB
 split <;> rfl
theorem rmark (x : S43) (t : ByteArray) : g4_Mark.f x.f0 x.f1 x.f2.f0 x.f2.f1 x.f2.f2 x.f3 t = some (markB x t) := by
 unfold g4_Mark.f markB
 split <;> rfl
theorem rd_mem (l : List S43) (i : Nat) (h : i < l.length) : rd_T43 l (i : Int) ∈ l := by
 unfold rd_T43
 rw [Int.toNat_natCast, List.getD_eq_getElem?_getD, List.getElem?_eq_getElem h, Option.getD_some]
 exact List.getElem_mem h
theorem read_str (l : List S43) (p : List S24) (hl : ∀ x ∈ l, SymOk x) (hp : ∀ i : Nat, i < p.length → (rd_T24 p (i : Int)).f1.size ≤ 9000) (hpl : p.length ≤ 1000) (h0 : 0 < l.length)
  (kd : Int) (ex : ByteArray) (n : Int) (hn : 0 < n) (hex : ex.size ≤ 90000) (ha : lex_Read.A l = (kd, ex, n)) (hk : 2 < l.length → markB (rd_T43 l 1) (⟨#[94, 94]⟩ : ByteArray) = true → kd = 3 ∧ ex = Z0) (hk5 : kd ≠ 5) :
  ∃ K0, ∀ k, K0 ≤ k → ∀ k2, K0 ≤ k2 → ∃ t1 t2 t3 t4 t5, ((lex_Read.B k l (w4_prefixes.f p) (lex_Read.A l)).bind fun b => (term_May.f k (lex_Read.C b).1 (rd_T43 l 0).f1 (lex_Read.C b).2).bind fun m => some (if m = true then ((lex_Read.C b).1, (rd_T43 l 0).f1, (lex_Read.C b).2, b.2.2, (0 : Int)) else (0, (⟨#[]⟩ : ByteArray), (⟨#[]⟩ : ByteArray), 0, 4))) = some (t1, t2, t3, t4, t5) ∧
   g4_Read.j1 (k2 + 2) l p n kd (rd_T43 l 0).f1 ex = some (t1, t2, t3, t4) ∧ (0 < t4 ∧ t5 = 0 ∨ t4 = 0 ∧ t5 = 4) := by
 have hx0 := (hl _ (rd_mem l 0 h0)).1
 rw [show ((0 : Nat) : Int) = 0 from rfl] at hx0
 have fin : ∀ (K : Int) (X : ByteArray) (N : Int), 0 < N → X.size ≤ 99000 → ∃ K0, ∀ k, K0 ≤ k → ∀ k2, K0 ≤ k2 → ∃ t1 t2 t3 t4 t5, ((term_May.f k K (rd_T43 l 0).f1 X).bind fun m => some (if m = true then (K, (rd_T43 l 0).f1, X, N, (0 : Int)) else (0, (⟨#[]⟩ : ByteArray), (⟨#[]⟩ : ByteArray), 0, 4))) = some (t1, t2, t3, t4, t5) ∧ ((g2_May.f k2 K (rd_T43 l 0).f1 X).bind fun m => if m = true then some (K, (rd_T43 l 0).f1, X, N) else some (0, (⟨#[]⟩ : ByteArray), (⟨#[]⟩ : ByteArray), 0)) = some (t1, t2, t3, t4) ∧ (0 < t4 ∧ t5 = 0 ∨ t4 = 0 ∧ t5 = 4) := fun K X N hN hX => by
  obtain ⟨K0, h⟩ := may_term K (rd_T43 l 0).f1 X (by omega) (by omega)
  refine ⟨K0 + 500000, fun k hk k2 hk2 => ?_⟩
  rw [h k (by omega), may_ref K (rd_T43 l 0).f1 X (by omega) (by omega) k2 (by omega)]
  simp only [Option.bind_some]
  cases mayB K (rd_T43 l 0).f1 X with
  | true => exact ⟨_, _, _, _, _, rfl, rfl, .inl ⟨hN, rfl⟩⟩
  | false => exact ⟨_, _, _, _, _, rfl, rfl, .inr ⟨rfl, rfl⟩⟩
 have hC : lex_Read.C (kd, ex, n) = (kd, ex) := by
  unfold lex_Read.C
  rw [if_neg (fun h => hk5 h.2)]
 by_cases c2 : 2 < l.length
 ·obtain ⟨g, hg, hgs⟩ := names_ex _ p (hl _ (rd_mem l 2 c2)) hp
  rw [show ((2 : Nat) : Int) = 2 from rfl] at hg
  obtain ⟨K1, h1⟩ := lex_res _ p (hl _ (rd_mem l 2 c2)) g hg hp
  rw [show ((2 : Nat) : Int) = 2 from rfl] at h1
  cases hm : markB (rd_T43 l 1) (⟨#[94, 94]⟩ : ByteArray) with
  | true =>
   obtain ⟨rfl, rfl⟩ := hk c2 hm
   cases g with
   | none =>
    obtain ⟨K2, h2⟩ := fin 3 Z0 n hn (by decide)
    refine ⟨K1 + K2 + 700000, fun k hkk k2 hkk2 => ?_⟩
    obtain ⟨u, hu, hru⟩ := h1 k (by omega)
    obtain ⟨v, hv, hrv⟩ := ref_res _ p (hl _ (rd_mem l 2 c2)) none hg hp hpl k2 (by omega)
    rw [show ((2 : Nat) : Int) = 2 from rfl] at hv
    have eu : u.2.2.2 = false := by
     rcases hru with ⟨_, _, _, h, _⟩ | ⟨_, h⟩
     ·cases h
     ·exact h
    have ev : v.2.2.2 = false := by
     rcases hrv with ⟨_, _, _, h, _⟩ | ⟨_, h⟩
     ·cases h
     ·exact h
    rw [ha, lex_Read.B, if_pos c2, lmark, hm, g4_Read.j1, if_pos (by omega), if_pos (by omega), rmark, hm]
    simp only [Option.bind_some]
    rw [g4_Read.j2, if_pos rfl, if_pos (c := 2 < (l.length : Int)) (by omega)]
    simp only [hu, hv, Option.bind_some, eu, ev, Bool.false_eq_true, if_false, if_true]
    rw [hC]
    exact h2 k (by omega) k2 (by omega)
   | some t =>
    obtain ⟨ta, tb, tc⟩ := t
    have hbs := hgs ta tb tc rfl
    have step : ∀ k k2, K1 + 700000 ≤ k → K1 + 700000 ≤ k2 → lex_Read.B k l (w4_prefixes.f p) (3, Z0, n) = some (5, tb, 3) ∧ g4_resource.f k2 (rd_T43 l 2).f0 (rd_T43 l 2).f1 (rd_T43 l 2).f2.f0 (rd_T43 l 2).f2.f1 (rd_T43 l 2).f2.f2 (rd_T43 l 2).f3 p = some (ta, tb, tc, true) := fun k k2 hkk hkk2 => by
     obtain ⟨u, hu, hru⟩ := h1 k (by omega)
     obtain ⟨v, hv, hrv⟩ := ref_res _ p (hl _ (rd_mem l 2 c2)) _ hg hp hpl k2 (by omega)
     rw [show ((2 : Nat) : Int) = 2 from rfl] at hv
     have eu : u = (ta, tb, tc, true) := by
      rcases hru with ⟨_, _, _, h, h'⟩ | ⟨h, _⟩
      ·have e := Option.some.inj h
       simp only [Prod.mk.injEq] at e
       rw [h', e.1, e.2.1, e.2.2]
      ·cases h
     have ev : v = (ta, tb, tc, true) := by
      rcases hrv with ⟨_, _, _, h, h'⟩ | ⟨h, _⟩
      ·have e := Option.some.inj h
       simp only [Prod.mk.injEq] at e
       rw [h', e.1, e.2.1, e.2.2]
      ·cases h
     subst eu; subst ev
     refine ⟨?_, hv⟩
     rw [lex_Read.B, if_pos c2, lmark, hm]
     simp only [Option.bind_some]
     rw [if_pos trivial, hu]
     simp only [Option.bind_some]
     rw [if_pos trivial]
    by_cases hxs : tb.toList = ([104, 116, 116, 112, 58, 47, 47, 119, 119, 119, 46, 119, 51, 46, 111, 114, 103, 47, 50, 48, 48, 49, 47, 88, 77, 76, 83, 99, 104, 101, 109, 97, 35, 115, 116, 114, 105, 110, 103] : List UInt8)
    ·obtain ⟨K2, h2⟩ := fin 3 Z0 3 (by decide) (by decide)
     refine ⟨K1 + K2 + 700000, fun k hkk k2 hkk2 => ?_⟩
     obtain ⟨s1, s2⟩ := step k k2 (by omega) (by omega)
     have hCC : lex_Read.C (5, tb, 3) = (3, Z0) := by
      unfold lex_Read.C
      rw [if_pos ⟨hxs, rfl⟩]
     rw [ha, s1, g4_Read.j1, if_pos (by omega), if_pos (by omega), rmark, hm]
     simp only [Option.bind_some]
     rw [g4_Read.j2, if_pos rfl, if_pos (by omega), s2]
     simp only [Option.bind_some]
     rw [if_pos trivial, if_pos hxs, hCC]
     exact h2 k (by omega) k2 (by omega)
    ·obtain ⟨K2, h2⟩ := fin 5 tb 3 (by decide) hbs
     refine ⟨K1 + K2 + 700000, fun k hkk k2 hkk2 => ?_⟩
     obtain ⟨s1, s2⟩ := step k k2 (by omega) (by omega)
     have hCC : lex_Read.C (5, tb, 3) = (5, tb) := by
      unfold lex_Read.C
      rw [if_neg (fun h => hxs h.1)]
     rw [ha, s1, g4_Read.j1, if_pos (by omega), if_pos (by omega), rmark, hm]
     simp only [Option.bind_some]
     rw [g4_Read.j2, if_pos rfl, if_pos (by omega), s2]
     simp only [Option.bind_some]
     rw [if_pos trivial, if_neg hxs, hCC]
     exact h2 k (by omega) k2 (by omega)
  | false =>
   obtain ⟨K2, h2⟩ := fin kd ex n hn (by omega)
   refine ⟨K2, fun k hkk k2 hkk2 => ?_⟩
   rw [ha, lex_Read.B, if_pos c2, lmark, hm, g4_Read.j1, if_pos (by omega), if_pos (by omega), rmark, hm]
   simp only [Option.bind_some]
   rw [g4_Read.j2, if_neg (by decide), if_neg (by decide)]
   simp only [Option.bind_some]
   rw [hC]
   exact h2 k (by omega) k2 (by omega)
 ·obtain ⟨K2, h2⟩ := fin kd ex n hn (by omega)
  refine ⟨K2, fun k hkk k2 hkk2 => ?_⟩
  rw [ha, lex_Read.B, if_neg c2, g4_Read.j1, if_neg (by omega)]
  simp only [Option.bind_some]
  rw [g4_Read.j2, if_neg (by decide), hC]
  exact h2 k (by omega) k2 (by omega)
theorem read_eq (l : List S43) (p : List S24) (hl : ∀ x ∈ l, SymOk x) (hp : ∀ i : Nat, i < p.length → (rd_T24 p (i : Int)).f1.size ≤ 9000) (hpl : p.length ≤ 1000) :
  ∃ K, ∀ k, K ≤ k → ∃ t1 t2 t3 t4 t5, lex_Read.f k l (w4_prefixes.f p) = some (t1, t2, t3, t4, t5) ∧ g4_Read.f k l p = some (t1, t2, t3, t4) ∧ (0 < t4 ∧ t5 = 0 ∨ t4 = 0 ∧ t5 = 4) := by
 by_cases h0 : 0 < l.length
 case neg =>
  refine ⟨0, fun k _ => ⟨0, Z0, Z0, 0, 4, ?_, ?_, .inr ⟨rfl, rfl⟩⟩⟩
  ·unfold lex_Read.f
   rw [if_neg h0]
  ·unfold g4_Read.f
   rw [if_pos (by omega)]
 obtain ⟨g, hg, hgs⟩ := names_ex _ p (hl _ (rd_mem l 0 h0)) hp
 obtain ⟨K1, h1⟩ := lex_res _ p (hl _ (rd_mem l 0 h0)) g hg hp
 have h2 := fun k hk => ref_res _ p (hl _ (rd_mem l 0 h0)) g hg hp hpl k hk
 rw [show ((0 : Nat) : Int) = 0 from rfl] at h1 h2
 by_cases c2 : (rd_T43 l 0).f0 = 2
 ·refine ⟨K1, fun k hk => ?_⟩
  obtain ⟨u, hu, _⟩ := h1 k hk
  refine ⟨(rd_T43 l 0).f2.f0, (rd_T43 l 0).f2.f1, (rd_T43 l 0).f2.f2, 1, 0, ?_, ?_, .inl ⟨by decide, rfl⟩⟩
  ·unfold lex_Read.f
   rw [if_pos h0, hu]
   simp only [Option.bind_some]
   rw [if_pos c2]
  ·unfold g4_Read.f
   rw [if_neg (by omega), if_pos (by omega), if_pos c2]
 by_cases c3 : (rd_T43 l 0).f0 = 3
 case neg =>
  refine ⟨K1 + 700000, fun k hk => ?_⟩
  obtain ⟨u, hu, ru⟩ := h1 k (by omega)
  obtain ⟨v, hv, rv⟩ := h2 k (by omega)
  unfold lex_Read.f g4_Read.f
  rw [if_pos h0, hu, if_neg (c := (l.length : Int) = 0) (by omega), if_pos (c := 0 < (l.length : Int)) (by omega), if_neg c2, if_neg c3, hv]
  simp only [Option.bind_some]
  rw [if_neg c2, if_neg c3]
  rcases ru with ⟨a, b, c, rfl, rfl⟩ | ⟨rfl, eu⟩
  ·rcases rv with ⟨a', b', c', h, rfl⟩ | ⟨h, _⟩
   ·have e := Option.some.inj h
    simp only [Prod.mk.injEq] at e
    obtain ⟨rfl, rfl, rfl⟩ := e
    exact ⟨_, _, _, _, _, rfl, rfl, .inl ⟨by decide, rfl⟩⟩
   ·cases h
  ·have ev : v.2.2.2 = false := by
    rcases rv with ⟨_, _, _, h, _⟩ | ⟨_, h⟩
    ·cases h
    ·exact h
   rw [eu, ev]
   exact ⟨_, _, _, _, _, rfl, rfl, .inr ⟨rfl, rfl⟩⟩
 by_cases c4 : 1 < l.length ∧ (rd_T43 l 1).f0 = 4
 ·have hA : lex_Read.A l = (4, (rd_T43 l 1).f1, 2) := by
   unfold lex_Read.A
   rw [if_pos c4]
  have hx1 := (hl _ (rd_mem l 1 c4.1)).1
  rw [show ((1 : Nat) : Int) = 1 from rfl] at hx1
  obtain ⟨K2, h3⟩ := read_str l p hl hp hpl h0 4 _ 2 (by decide) hx1 hA (fun _ h => by
   unfold markB at h
   rw [if_neg (by omega)] at h
   cases h) (by decide)
  refine ⟨K1 + K2 + 700000, fun k hk => ?_⟩
  obtain ⟨k', rfl⟩ : ∃ m, k = m + 3 := ⟨k - 3, by omega⟩
  obtain ⟨u, hu, _⟩ := h1 (k' + 3) (by omega)
  obtain ⟨t1, t2, t3, t4, t5, e1, f2, e3⟩ := h3 (k' + 3) (by omega) k' (by omega)
  refine ⟨t1, t2, t3, t4, t5, ?_, ?_, e3⟩
  ·unfold lex_Read.f
   rw [if_pos h0, hu]
   simp only [Option.bind_some]
   rw [if_neg c2, if_pos c3]
   exact e1
  ·unfold g4_Read.f
   rw [if_neg (by omega), if_pos (by omega), if_neg c2, if_pos c3, if_pos (by omega), if_pos (by omega), g4_Read.j0, if_pos (by rw [c4.2]; rfl), if_pos (by omega)]
   exact f2
 ·have hA : lex_Read.A l = (3, Z0, 1) := by
   unfold lex_Read.A
   rw [if_neg c4]
  obtain ⟨K2, h3⟩ := read_str l p hl hp hpl h0 3 Z0 1 (by decide) (by decide) hA (fun _ _ => ⟨rfl, rfl⟩) (by decide)
  refine ⟨K1 + K2 + 700000, fun k hk => ?_⟩
  obtain ⟨k', rfl⟩ : ∃ m, k = m + 3 := ⟨k - 3, by omega⟩
  obtain ⟨u, hu, _⟩ := h1 (k' + 3) (by omega)
  obtain ⟨t1, t2, t3, t4, t5, e1, f2, e3⟩ := h3 (k' + 3) (by omega) k' (by omega)
  refine ⟨t1, t2, t3, t4, t5, ?_, ?_, e3⟩
  ·unfold lex_Read.f
   rw [if_pos h0, hu]
   simp only [Option.bind_some]
   rw [if_neg c2, if_pos c3]
   exact e1
  ·unfold g4_Read.f
   rw [if_neg (by omega), if_pos (by omega), if_neg c2, if_pos c3]
   by_cases c1 : 1 < l.length
   ·have n4 : ((rd_T43 l 1).f0 == 4) = false := beq_eq_false_iff_ne.2 (fun h => c4 ⟨c1, h⟩)
    rw [if_pos (by omega), if_pos (by omega), g4_Read.j0, n4, if_neg (by decide)]
    exact f2
   ·rw [if_neg (by omega), g4_Read.j0, if_neg (by decide)]
    exact f2
end Go.Proofs.YtpbphelaeleikaaGreatDoor.PLt

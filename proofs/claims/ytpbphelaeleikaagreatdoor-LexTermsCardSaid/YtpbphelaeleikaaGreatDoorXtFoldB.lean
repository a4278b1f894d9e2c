import Derived.Test.YtpbphelaeleikaaGreatDoorXtFoldA
import Derived.Lib.OthersKept
namespace Go.Proofs.YtpbphelaeleikaaGreatDoor
open Go.RowKit Go.Lib
theorem u8_or_high (x y : Nat) (hx : x < 256) (hy : y < 256) (h : 128 ≤ y) : (128 : Int) ≤ bits .or .u8 (x : Int) (y : Int) := by
 rw [u8_or_nat x y hx hy]
 have : y ≤ x ||| y := Nat.right_le_or
 omega
theorem d_w1 (s : ByteArray) (pos : Nat) : 1 ≤ (Utf8.decode s pos).2 := by
 rw [Lib.decode_at]
 unfold Lib.decodeN
 repeat' split
 all_goals simp
theorem d_wle_n (n b0 b1 b2 b3 : Nat) (hn : 1 ≤ n) : (Lib.decodeN n b0 b1 b2 b3).2 ≤ n := by
 unfold Lib.decodeN
 repeat' split
 all_goals (simp only; omega)
theorem d_wle (s : ByteArray) : (Lib.decodeGo s).2 ≤ s.size := by
 unfold Lib.decodeGo
 split
 ·simp
 ·rw [Lib.decode_at]; exact d_wle_n _ _ _ _ _ (by omega)
def Circ (x q g : Nat) : Prop := g = 2 ∧ q = fo x ∨ g = 1 ∧ q = fo (fo x) ∧ fo x ≠ x ∨ g = 0 ∧ q = fo (fo (fo x)) ∧ fo x ≠ x ∧ fo (fo x) ≠ x
theorem Circ.zero {x q : Nat} (hx : x < 128) (h : Circ x q 0) : q = x := by
 rcases h with ⟨h, _⟩ | ⟨h, _⟩ | ⟨_, h1, h2, h3⟩
 ·cases h
 ·cases h
 ·rcases fo_three x hx with h | h | h
  ·exact absurd h h2
  ·exact absurd h h3
  ·rw [h1, h]
theorem Circ.step {x q g : Nat} (h : Circ x q (g + 1)) (hq : q ≠ x) : Circ x (fo q) g := by
 rcases h with ⟨h, h1⟩ | ⟨h, h1, h2⟩ | ⟨h, _⟩
 ·obtain rfl : g = 1 := by omega
  subst h1
  exact .inr (.inl ⟨rfl, rfl, hq⟩)
 ·obtain rfl : g = 0 := by omega
  subst h1
  exact .inr (.inr ⟨rfl, rfl, h2, hq⟩)
 ·cases h
theorem scope_once {P : Program} {Q : Exit → Act → World → Prop} {a : Act} {w : World} {c rest : Code} (l : Nat) (J : Act → World → Prop) (hf : findLabel c l = some rest)
  (first : c.wp P (Exit.jump l J Q) a w) (pass : ∀ a w, J a w → ∀ JJ, rest.wp P (Exit.jump l JJ Q) a w) : (Code.scope c).wp P Q a w :=
 wp_scope_jumps l J (fun _ _ => 0) hf first (fun a w h => pass a w h _)
set_option maxRecDepth 100000 in
set_option maxHeartbeats 4000000 in
theorem ef_bad (s t : ByteArray) (i0 : Nat) (w : World) (hs : s.size < 4294967281) (hst : t.size = s.size) (HT : FoldTabs w) (hi0 : i0 < t.size) (has : ∀ j (h : j < s.size), (s[j]'h).toNat < 128) (hat : ∀ j (h : j < t.size), j < i0 → (t[j]'h).toNat < 128) (hx : 128 ≤ (t[i0]'hi0).toNat) :
  Calls Tryz.prog 22 #[.string s, .string t] w fun e w' => e = .returned (.bool false) ∧ Below w.heap.size w w' := by
 have HS := Hd.mk has
 have HA := Hd.mk hat
 have HX := Hd.mk hx
 have HTT := Hd.mk HT
 have HST := Hd.mk hst
 have hmin : min (s.size : Int) (t.size : Int) = (s.size : Int) := by omega
 clear has hat hx HT hst
 go_enter Tryz.func22, Tryz.ntmps22
 go_wp2
 obtain ⟨J, HJ⟩ : ∃ J : Act → World → Prop, Hd (J = (fun a' w' => Hd (w' = w) ∧ ∃ T : Array Value, a' = { tmps := T, defers := [] } ∧ T = #[.string s, .string t, T.getD 2 undef, T.getD 3 undef, T.getD 4 undef, .int .i64 (i0 : Int), T.getD 6 undef, T.getD 7 undef, T.getD 8 undef, T.getD 9 undef, T.getD 10 undef, T.getD 11 undef, T.getD 12 undef, T.getD 13 undef, T.getD 14 undef, T.getD 15 undef, T.getD 16 undef, T.getD 17 undef, T.getD 18 undef, T.getD 19 undef, T.getD 20 undef, T.getD 21 undef, T.getD 22 undef, T.getD 23 undef, T.getD 24 undef, T.getD 25 undef, T.getD 26 undef, T.getD 27 undef, T.getD 28 undef, T.getD 29 undef, T.getD 30 undef, T.getD 31 undef, T.getD 32 undef, T.getD 33 undef, T.getD 34 undef, T.getD 35 undef, T.getD 36 undef, T.getD 37 undef, T.getD 38 undef, T.getD 39 undef, T.getD 40 undef, T.getD 41 undef, T.getD 42 undef, T.getD 43 undef, T.getD 44 undef, T.getD 45 undef, T.getD 46 undef, T.getD 47 undef, T.getD 48 undef, T.getD 49 undef, T.getD 50 undef, T.getD 51 undef, T.getD 52 undef, T.getD 53 undef, T.getD 54 undef, T.getD 55 undef, T.getD 56 undef, T.getD 57 undef, T.getD 58 undef, T.getD 59 undef, T.getD 60 undef, T.getD 61 undef, T.getD 62 undef, T.getD 63 undef, T.getD 64 undef, T.getD 65 undef, T.getD 66 undef, T.getD 67 undef, T.getD 68 undef, T.getD 69 undef, T.getD 70 undef, T.getD 71 undef, T.getD 72 undef, T.getD 73 undef, T.getD 74 undef, T.getD 75 undef, T.getD 76 undef, T.getD 77 undef, T.getD 78 undef, T.getD 79 undef, T.getD 80 undef, T.getD 81 undef, T.getD 82 undef, T.getD 83 undef, T.getD 84 undef, T.getD 85 undef, T.getD 86 undef, T.getD 87 undef, T.getD 88 undef, T.getD 89 undef, T.getD 90 undef, T.getD 91 undef, T.getD 92 undef, T.getD 93 undef, T.getD 94 undef, T.getD 95 undef, T.getD 96 undef, T.getD 97 undef, T.getD 98 undef, T.getD 99 undef, T.getD 100 undef, T.getD 101 undef, T.getD 102 undef, T.getD 103 undef, T.getD 104 undef, T.getD 105 undef, T.getD 106 undef, T.getD 107 undef, T.getD 108 undef, T.getD 109 undef, T.getD 110 undef, T.getD 111 undef, T.getD 112 undef, T.getD 113 undef, T.getD 114 undef, T.getD 115 undef, T.getD 116 undef, T.getD 117 undef, T.getD 118 undef, T.getD 119 undef, T.getD 120 undef, T.getD 121 undef, T.getD 122 undef])) := ⟨_, ⟨rfl⟩⟩
 refine scope_once 0 J rfl ?_ ?_
 ·go_wp2
  go_loopg [5] i0 (fun g s5 wr => w = wr ∧ ∃ i : Nat, i + g = i0 ∧ s5 = .int .i64 (i : Int))
  case atStart => exact ⟨rfl, 0, by omega, rfl⟩
  case round =>
   obtain ⟨rfl, i, hig, rfl⟩ := hrel
   have ht1 : i < t.size := by omega
   have hs1 : i < s.size := by have := HST.out; omega
   have d1 : decide (i < s.size) = true := decide_eq_true hs1
   have d2 : decide (i < t.size) = true := decide_eq_true ht1
   have hx0 := HS.out i hs1
   obtain ⟨x, hxe⟩ : ∃ x : UInt8, s[i]'hs1 = x := ⟨_, rfl⟩
   obtain ⟨y, hye⟩ : ∃ y : UInt8, t[i]'ht1 = y := ⟨_, rfl⟩
   rw [hxe] at hx0
   cases gk with
   | zero =>
    obtain rfl : i = i0 := by omega
    have hy0 := HX.out
    rw [hye] at hy0
    have hor := u8_or_high x.toNat y.toNat x.toNat_lt y.toNat_lt hy0
    have c1 : decide (128 ≤ bits .or .u8 (x.toNat : Int) (y.toNat : Int)) = true := decide_eq_true hor
    clear hor
    go_wp2
    go_step3
    refine ⟨rfl, ?_⟩
    rw [HJ.out]
    exact ⟨⟨rfl⟩, ⟨_, rfl, rfl⟩⟩
   | succ g =>
    have hy0 := HA.out i ht1 (by omega)
    rw [hye] at hy0
    have hor : bits .or .u8 (x.toNat : Int) (y.toNat : Int) = ((x.toNat ||| y.toNat : Nat) : Int) := u8_or_nat _ _ (by omega) (by omega)
    have hor128 : ¬ ((128 : Int) ≤ ((x.toNat ||| y.toNat : Nat) : Int)) := by have := Nat.or_lt_two_pow (n := 7) hx0 hy0; omega
    go_wp2
    all_goals first
     | (go_roundg g; (case measure => omega); (case rel => exact ⟨rfl, i + 1, by omega, by first | rfl | simp⟩))
     | ((try simp only [Exit.jump]); go_ret; exact ⟨rfl, Below.refl _ _⟩)
 ·intro a' w' hj JJ
  rw [HJ.out] at hj
  clear HJ
  obtain ⟨hw, T, rfl, hT⟩ := hj
  obtain ⟨u, hu⟩ : ∃ u : Nat → Value, ∀ n, T.getD n undef = u n := ⟨_, fun _ => rfl⟩
  simp only [hu] at hT
  clear hu
  subst hT
  obtain rfl := hw.out
  clear hw
  have d1 : decide (i0 ≤ s.size) = true := decide_eq_true (by have := HST.out; omega)
  have d2 : decide (i0 ≤ t.size) = true := decide_eq_true (by omega)
  have e1 : i0 ≤ s.size := by have := HST.out; omega
  have e2 : i0 ≤ t.size := by omega
  have hm1 : (s.extract i0 s.size).size = s.size - i0 := by simp
  have hm2 : (t.extract i0 t.size).size = (s.extract i0 s.size).size := by have := HST.out; simp; omega
  have H1 : Hd (0 < (s.extract i0 s.size).size) := ⟨by have := HST.out; omega⟩
  have H2 : Hd ((t.extract i0 t.size).size = (s.extract i0 s.size).size) := ⟨hm2⟩
  have H3 : Hd ((s.extract i0 s.size).size < 4294967281) := ⟨by omega⟩
  have H4 : Hd (∀ j (h : j < (s.extract i0 s.size).size), ((s.extract i0 s.size)[j]'h).toNat < 128) := ⟨fun j h => by
   rw [ByteArray.getElem_extract]; exact HS.out _ _⟩
  have H5 : Hd (∃ h : 0 < (t.extract i0 t.size).size, 128 ≤ ((t.extract i0 t.size)[0]'h).toNat) := ⟨⟨by have := H1.out; omega, by
   rw [ByteArray.getElem_extract]; exact HX.out⟩⟩
  clear hm1 hm2
  go_wp2
  clear d1 d2 e1 e2
  generalize s.extract i0 s.size = s1 at *
  generalize t.extract i0 t.size = t1 at *
  clear hmin HS HA HX HST hi0 hs
  go_loopg [1, 10, 11, 12, 13] s1.size (fun g v1 v10 v11 v12 v13 wr => ∃ (p : Nat) (t2 : ByteArray), v1 = .string t2 ∧ p + g = s1.size ∧ Hd (wr.heap[w'.heap.size]? = some (.stringIter s1 p)) ∧ Hd (Below w'.heap.size w' wr) ∧ Hd (p = 0 ∧ t2 = t1 ∨ 0 < p ∧ t2.size + p < s1.size))
  case atStart => exact ⟨0, t1, rfl, by omega, ⟨World.iter_heap _ _ _⟩, ⟨(Below.refl _ _).alloc (Nat.le_refl _) _⟩, ⟨.inl ⟨rfl, rfl⟩⟩⟩
  case round =>
   obtain ⟨p, t2, rfl, hpg, HI, HB, HP⟩ := hrel
   cases gk with
   | zero => exfalso; have := H1.out; have := HP.out; have := H2.out; rcases HP.out with ⟨h, _⟩ | ⟨_, h⟩ <;> omega
   | succ g =>
    have hp : p < s1.size := by omega
    have hx := H4.out p hp
    obtain ⟨x, hxe⟩ : ∃ x : Nat, (s1[p]'hp).toNat = x := ⟨_, rfl⟩
    have hdx : Utf8.decode s1 p = (x, 1) := by rw [decode_ascii s1 p hp hx, hxe]
    rw [hxe] at hx
    have hnx : ∀ ty, (Instr.next (.pointer (some ⟨w'.heap.size, 0, none⟩)) true ty).run Tryz.prog wr = _ := fun ty => Lib.run_next_any_at wr w'.heap.size s1 p ty HI.out hp
    simp only [hdx] at hnx
    have HI2 := Hd.mk (Lib.iterAt_heap wr w'.heap.size s1 p (p + 1) HI.out)
    have HB2 := Hd.mk (Lib.below_iterAt HB.out (k := w'.heap.size) (Nat.le_refl _) s1 (p + 1))
    clear hdx hxe HI HB
    by_cases ht0 : t2.size = 0
    ·have c1 : ((t2.size : Int) == 0) = true := by simp [ht0]
     clear ht0
     go_wp2
     simp only [Exit.jump]
     go_ret
     exact ⟨rfl, HB2.out⟩
    ·have c1 : ((t2.size : Int) == 0) = false := by simp [ht0]
     have HTW := Hd.mk (HTT.out.below HB2.out)
     have hDe : Lib.decodeGo t2 = Utf8.decode t2 0 := by unfold Lib.decodeGo; rw [if_neg ht0]
     obtain ⟨r, hr⟩ : ∃ r : Nat, (Lib.decodeGo t2).1 = r := ⟨_, rfl⟩
     obtain ⟨n, hn⟩ : ∃ n : Nat, (Lib.decodeGo t2).2 = n := ⟨_, rfl⟩
     have hrl : r ≤ 2147483647 := by rw [← hr, hDe]; exact decode_le t2 0
     have hn1 : 1 ≤ n := by rw [← hn, hDe]; exact d_w1 t2 0
     have hnl : n ≤ t2.size := by rw [← hn]; exact d_wle t2
     have HR := Hd.mk hr
     have HN := Hd.mk hn
     have HD := Hd.mk hDe
     have HF : Hd (p = 0 → 128 ≤ r ∧ (n = 1 → r = 65533)) := ⟨fun h0 => by
      rcases HP.out with ⟨_, rfl⟩ | ⟨h, _⟩
      ·obtain ⟨h5, h6⟩ := H5.out
       rw [← hr, ← hn, hDe]
       exact ⟨(decode_high t2 0 h5 h6).1, decode_one t2 h5 h6⟩
      ·omega⟩
     have HNX : (p = 0 → 2 ≤ n) → Hd (p + 1 = 0 ∧ t2.extract n t2.size = t1 ∨ 0 < p + 1 ∧ (t2.extract n t2.size).size + (p + 1) < s1.size) := fun hh => ⟨.inr ⟨by omega, by
      rw [ByteArray.size_extract, Nat.min_self]
      rcases HP.out with ⟨h0, h1⟩ | ⟨h0, h1⟩
      ·have := hh h0; have := H2.out; rw [← h1] at this; omega
      ·omega⟩⟩
     have HNX := Hd.mk HNX
     have c2 : decide (n ≤ t2.size) = true := decide_eq_true hnl
     clear hr hn hDe ht0
     by_cases hrx : r = x
     ·have hp0 : p ≠ 0 := fun h => by have := (HF.out h).1; omega
      subst hrx
      go_wp2_with (go_at_call 39; (refine (Tryz.utf8_DecodeRuneInString t2 _ HTW.out.u).mono ?_; rintro e W1 ⟨rfl, hb1⟩; rw [HR.out, HN.out]; have HI3 := Hd.mk ((hb1.block _ (Array.getElem?_eq_some_iff.1 HI2.out).1).trans HI2.out); have HB3 := Hd.mk (HB2.out.trans (hb1.mono HB2.out.size)); clear hb1))
      go_roundg g
      case measure => omega
      case rel => exact ⟨p + 1, _, rfl, by omega, HI3, HB3, HNX.out (fun h => absurd h hp0)⟩
     ·by_cases hr128 : r < 128
      ·have hp0 : p ≠ 0 := fun h => by have := (HF.out h).1; omega
       have c3 : ((r : Int) == (x : Int)) = false := beq_eq_false_iff_ne.2 (by omega)
       go_wp2_with (go_at_call 39; (refine (Tryz.utf8_DecodeRuneInString t2 _ HTW.out.u).mono ?_; rintro e W1 ⟨rfl, hb1⟩; rw [HR.out, HN.out]; have HI3 := Hd.mk ((hb1.block _ (Array.getElem?_eq_some_iff.1 HI2.out).1).trans HI2.out); have HB3 := Hd.mk (HB2.out.trans (hb1.mono HB2.out.size)); clear hb1))
       all_goals first
        | (go_roundg g; (case measure => omega); (case rel => exact ⟨p + 1, _, rfl, by omega, HI3, HB3, HNX.out (fun h => absurd h hp0)⟩))
        | ((try simp only [Exit.jump]); go_ret; exact ⟨rfl, HB3.out⟩)
      ·have c3 : ((r : Int) == (x : Int)) = false := beq_eq_false_iff_ne.2 (by omega)
       have c4 : decide (r < x) = false := decide_eq_false (by omega)
       have c5 : decide ((r : Int) < 128) = false := decide_eq_false (by omega)
       go_wp2_with (first | (go_at_call 39; (refine (Tryz.utf8_DecodeRuneInString t2 _ HTW.out.u).mono ?_; rintro e W1 ⟨rfl, hb1⟩; rw [HR.out, HN.out]; have HI3 := Hd.mk ((hb1.block _ (Array.getElem?_eq_some_iff.1 HI2.out).1).trans HI2.out); have HB3 := Hd.mk (HB2.out.trans (hb1.mono HB2.out.size)); clear hb1)) | (go_at_call 40; refine (fold_any x _ (.inl hx) (HTT.out.below HB3.out)).mono ?_; rintro e W2 ⟨rfl, rfl⟩))
       clear c3 c4 c5
       go_loopg [13] 2 (fun gg v13 wy => W1 = wy ∧ ∃ q : Nat, v13 = .int .i32 (q : Int) ∧ Hd (InO q) ∧ Hd (Circ x q gg))
       case atStart => exact ⟨rfl, fo x, rfl, ⟨fo_in (.inl hx)⟩, ⟨.inl ⟨rfl, rfl⟩⟩⟩
       case round =>
        obtain ⟨rfl, q, rfl, HQ, HC⟩ := hrel
        by_cases e1 : q = x
        ·have c6 : ((q : Int) != (x : Int)) = false := by simp [e1]
         have c7 : ((q : Int) == (r : Int)) = false := beq_eq_false_iff_ne.2 (by omega)
         clear e1
         go_wp2
         simp only [Exit.jump]
         go_ret
         exact ⟨rfl, HB3.out⟩
        ·have c6 : ((q : Int) != (x : Int)) = true := by simp [bne_iff_ne]; omega
         by_cases e2 : q < r
         ·have c8 : decide (q < r) = true := decide_eq_true e2
          cases gk with
          | zero => exact absurd (HC.out.zero hx) e1
          | succ gg =>
           go_wp2_with (go_at_call 40; refine (fold_any q _ HQ.out (HTT.out.below HB3.out)).mono ?_; rintro e W2 ⟨rfl, rfl⟩)
           go_roundg gg
           case measure => omega
           case rel => exact ⟨rfl, fo q, rfl, ⟨fo_in HQ.out⟩, ⟨HC.out.step e1⟩⟩
         ·have c8 : decide (q < r) = false := decide_eq_false e2
          by_cases e3 : q = r
          ·have c9 : ((q : Int) == (r : Int)) = true := by simp [e3]
           have hn2 : p = 0 → 2 ≤ n := fun h0 => by
            have h1 := (HF.out h0).2
            have h2 := HQ.out
            unfold InO at h2
            omega
           clear e1 e2 e3
           go_wp2
           go_roundg g
           case measure => omega
           case rel => exact ⟨p + 1, _, rfl, by omega, HI3, HB3, HNX.out hn2⟩
          ·have c9 : ((q : Int) == (r : Int)) = false := beq_eq_false_iff_ne.2 (by omega)
           go_wp2
           simp only [Exit.jump]
           go_ret
           exact ⟨rfl, HB3.out⟩
end Go.Proofs.YtpbphelaeleikaaGreatDoor

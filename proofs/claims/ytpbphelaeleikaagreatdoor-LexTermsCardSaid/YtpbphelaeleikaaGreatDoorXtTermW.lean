import Derived.Test.YtpbphelaeleikaaGreatDoorXtFoldC
import Derived.BigRegion
import Derived.Deep.RegionWith
import Derived.Deep.RegionHeld3
namespace Go.Proofs.YtpbphelaeleikaaGreatDoor.PLt
open Go.RowKit Go.Proofs.YtpbphelaeleikaaGreatDoorW.PrintWords Go.Proofs.YtpbphelaeleikaaGreatDoorW.PrintLast Go.Proofs.YtpbphelaeleikaaGreatDoorW.PrintMore
attribute [local go_sem] max2_int min2_int max_two min_two max_three min_three max_four min_four
set_option linter.unusedVariables false
set_option linter.unusedSimpArgs false
def sumP (p : List S24) : Nat → Nat
 | 0 => 0
 | i + 1 => sumP p i + min (rd_T24 p i).f0.size 9001 + min (rd_T24 p i).f1.size 9001
theorem sumP_le (p : List S24) : ∀ i, sumP p i ≤ i * 18002
 | 0 => Nat.le_refl _
 | i + 1 => by have := sumP_le p i; simp only [sumP]; omega
theorem set3 {W W0 : World} {g B : Nat} (a : Int) (b c : ByteArray) (h : W.heap[g]? = some (.cells #[.int .i64 0, .string (⟨#[]⟩ : ByteArray), .string (⟨#[]⟩ : ByteArray)] 31 (0, 0))) (hB : B ≤ g) (hb : Below B W0 W) :
  (((W.setCell ⟨g, 0, none⟩ (.int .i64 a)).setCell ⟨g, 1, none⟩ (.string b)).setCell ⟨g, 2, none⟩ (.string c)).heap[g]? = some (.cells #[.int .i64 a, .string b, .string c] 31 (0, 0)) ∧ Below B W0 (((W.setCell ⟨g, 0, none⟩ (.int .i64 a)).setCell ⟨g, 1, none⟩ (.string b)).setCell ⟨g, 2, none⟩ (.string c)) :=
 ⟨blk_set (blk_set (blk_set h 0 _) 1 _) 2 _, ((hb.setCell (p := ⟨g, 0, none⟩) hB _).setCell (p := ⟨g, 1, none⟩) hB _).setCell (p := ⟨g, 2, none⟩) hB _⟩
theorem cells6 {W0 W : World} {a0 a1 a2 a3 a4 a5 : Addr} {v0 v1 v2 v3 v4 v5 : Value} (h : W0.cell? a0 = some v0 ∧ W0.cell? a1 = some v1 ∧ W0.cell? a2 = some v2 ∧ W0.cell? a3 = some v3 ∧ W0.cell? a4 = some v4 ∧ W0.cell? a5 = some v5) (hb : Below W0.heap.size W0 W) :
  W.cell? a0 = some v0 ∧ W.cell? a1 = some v1 ∧ W.cell? a2 = some v2 ∧ W.cell? a3 = some v3 ∧ W.cell? a4 = some v4 ∧ W.cell? a5 = some v5 :=
 have key : ∀ {a : Addr} {v : Value}, W0.cell? a = some v → W.cell? a = some v := fun {a v} hx => (hb.cell (World.block_lt_of_cell? W0 _ hx)).trans hx
 ⟨key h.1, key h.2.1, key h.2.2.1, key h.2.2.2.1, key h.2.2.2.2.1, key h.2.2.2.2.2⟩
def WordOk (x : S43) (word : ByteArray) (b : Bool) : Prop :=
 (x.f0 = 6 → word.size = x.f1.size → x.f1.data.toList.all (fun b => decide (b.toNat < 128)) = true ∧ x.f1.size < 4294967281 ∧ fEq x.f1 word = b) ∧ (¬ (x.f0 = 6 ∧ word.size = x.f1.size) → b = false)
theorem lex_Word.any_ (x : S43) (word : ByteArray) (b : Bool) (w : World) (hT : FoldTabs w) (h : WordOk x word b) :
  Calls Tryz.prog 12 #[.agg #[.int .i64 x.f0, .string x.f1, .int .i64 x.f2.f0, .string x.f2.f1, .string x.f2.f2, .int .i64 x.f3], .string word] w fun e w' => e = .returned (.bool b) ∧ Below w.heap.size w w' := by
 by_cases c : x.f0 = 6 ∧ word.size = x.f1.size
 ·obtain ⟨h1, h2, h3⟩ := h.1 c.1 c.2
  rw [c.1, ← h3]
  exact lex_Word.six _ _ _ _ _ _ w h2 c.2 hT h1
 ·obtain rfl := h.2 c
  refine lex_Word.calls _ _ _ _ _ _ word false w ?_
  unfold lex_Word.f
  by_cases d : x.f0 = 6
  ·rw [if_pos d, if_neg (fun e => c ⟨d, by omega⟩)]
  ·rw [if_neg d]
set_option maxHeartbeats 8000000 in
set_option maxRecDepth 100000 in
theorem terms_walk (k kr kn : Nat) (s : ByteArray) (A1 : Option Addr) (c1 : Nat) (p : List S24) (at_ : Int) (mark word : ByteArray) (w : World) (hr1 : Kd.C k24 w A1 p.length p) (hc1 : p.length ≤ c1) (HT : FoldTabs w)
  (l : List S43) (r2 : Int) (hRun : g4_Run.f kr (s.extract 0 (min s.size 9000)) = some (l, r2)) (hknown : w4_known.f kn = some true)
  (t1 : Int) (t2 t3 : ByteArray) (t4 t5 : Int) (hread : s.size ≤ 9000 → p.length ≤ 20 → sumP p p.length ≤ 9000 → 0 ≤ at_ → at_ ≤ l.length → lex_Read.f k (l.drop at_.toNat) (w4_prefixes.f p) = some (t1, t2, t3, t4, t5) ∧ g4_Read.f k (l.drop at_.toNat) p = some (t1, t2, t3, t4) ∧ (0 < t4 ∧ t5 = 0 ∨ t4 = 0 ∧ t5 = 4))
  (b1 b2 : Bool) (hmw : 0 ≤ at_ → at_ < l.length → lex_Mark.f (rd_T43 l at_).f0 (rd_T43 l at_).f1 (rd_T43 l at_).f2.f0 (rd_T43 l at_).f2.f1 (rd_T43 l at_).f2.f2 (rd_T43 l at_).f3 mark = some b1 ∧ g4_Mark.f (rd_T43 l at_).f0 (rd_T43 l at_).f1 (rd_T43 l at_).f2.f0 (rd_T43 l at_).f2.f1 (rd_T43 l at_).f2.f2 (rd_T43 l at_).f3 mark = some b1 ∧ WordOk (rd_T43 l at_) word b2 ∧ g4_Word.f k (rd_T43 l at_).f0 (rd_T43 l at_).f1 (rd_T43 l at_).f2.f0 (rd_T43 l at_).f2.f1 (rd_T43 l at_).f2.f2 (rd_T43 l at_).f3 word = some b2) :
  Calls Tryz.prog 3 #[.string s, .slice A1 p.length c1, .int .i64 at_, .string mark, .string word] w fun e w' => e = .returned (.bool true) ∧ Below w.heap.size w w' := by
 have HR1 := Ad.mk hr1
 have HTT := Ad.mk HT
 have HRUN := Ad.mk hRun
 have HK := Ad.mk hknown
 have hlen : p.length ≤ 9223372036854775807 := hr1.2.1
 have HC1 := Ad.mk hc1
 have HRD := Ad.mk hread
 have HMW := Ad.mk hmw
 clear hr1 HT hRun hknown hc1 hread hmw
 go_enter Tryz.func3, Tryz.ntmps3
 go_wp2
 go_loopg [11, 12] p.length (fun g v11 v12 wr => ∃ i : Nat, v12 = .int .i64 (i : Int) ∧ v11 = .int .i64 ((sumP p i : Nat) : Int) ∧ i ≤ 21 ∧ i ≤ p.length ∧ g = p.length - i ∧ Ad (Below w.heap.size w wr))
 case atStart => exact ⟨0, rfl, rfl, by omega, by omega, by omega, ⟨Below.refl _ _⟩⟩
 case round =>
  obtain ⟨i, rfl, rfl, hi21, hil, rfl, HB⟩ := hrel
  by_cases c1 : i < p.length ∧ i ≤ 20
  ·obtain ⟨c1, c2⟩ := c1
   have c1b : decide (i < p.length) = true := decide_eq_true c1
   have c1d : decide ((i : Int) < (p.length : Int)) = true := decide_eq_true (by omega)
   have c2b : decide ((i : Int) ≤ 20) = true := decide_eq_true (by omega)
   have c2d : decide (i ≤ 20) = true := decide_eq_true (by omega)
   obtain ⟨ad, e, hx0, hx1⟩ := at_T24 HR1.out (i : Int) (by omega) (by omega)
   have hB := HB.out
   replace hx0 := (hB.cell (World.block_lt_of_cell? w _ hx0)).trans hx0
   replace hx1 := (hB.cell (World.block_lt_of_cell? w _ hx1)).trans hx1
   subst e
   rw [Int.toNat_natCast] at hx0 hx1
   have hsl := sumP_le p i
   have HS : Ad (sumP p (i + 1) = sumP p i + min (rd_T24 p i).f0.size 9001 + min (rd_T24 p i).f1.size 9001) := ⟨rfl⟩
   have p8 : (0 ≤ (i : Int)) = True := eq_true (by omega)
   have q8 : ((i : Int) < (p.length : Int)) = True := eq_true (by omega)
   go_wp2
   go_region
   all_goals
    clear hx0 hx1
    go_wp2
   all_goals
    go_roundg (p.length - (i + 1))
    case measure => omega
    case rel =>
     refine ⟨i + 1, by go_num, ?_, by omega, by omega, rfl, ⟨below_drew1 HB.out⟩⟩
     rw [HS.out]
     congr 1
     omega
  ·have G1 : 9000 < s.size → Ad (g4_Run.f kr (s.extract 0 9000) = some (l, r2)) := fun g => ⟨by have h := HRUN.out; rwa [show min s.size 9000 = 9000 by omega] at h⟩
   have G2 : ¬ 9000 < s.size → Ad (g4_Run.f kr s = some (l, r2)) := fun g => ⟨by have h := HRUN.out; rwa [show min s.size 9000 = s.size by omega, ByteArray.extract_zero_size] at h⟩
   clear HRUN
   by_cases g1 : 9000 < s.size
   ·have HRUN := G1 g1
    have g1a : decide ((s.size : Int) < 9000) = false := decide_eq_false (by omega)
    have g1b : decide ((9000 : Int) < (s.size : Int)) = true := decide_eq_true (by omega)
    have g1c : decide ((s.size : Int) ≤ 9000) = false := decide_eq_false (by omega)
    clear G1 G2
    by_cases hx : i < p.length
    ·obtain rfl : i = 21 := by omega
     have c1d : decide (((21 : Nat) : Int) < (p.length : Int)) = true := decide_eq_true (by omega)
     have c1e : decide (21 < p.length) = true := decide_eq_true (by omega)
     go_wp2_with (first | (go_at_call 4; refine (g4_Run.calls kr (s.extract 0 9000) l r2 _ HRUN.out).mono ?_; rintro e w1 ⟨v0, rfl, ho, hb⟩; obtain ⟨Ao, co, eo⟩ := Kd.R_slice ho; subst eo; have HO := Ad.mk (Kd.R_lower ho (below_size (by repeat (first | (with_reducible first | exact HB.out | apply below_alloc | apply pw_below_drewN | apply below_drew1) | exact HB.out)))); replace HB := Ad.mk (below_step (by repeat (first | (with_reducible first | exact HB.out | apply below_alloc | apply pw_below_drewN | apply below_drew1) | exact HB.out)) hb); clear ho hb) | (go_at_call 5; refine (w4_known.calls kn true _ HK.out).mono ?_; rintro e w2 ⟨rfl, hb⟩; replace HB := Ad.mk (below_step (by repeat (first | (with_reducible first | exact HB.out | apply below_alloc | apply pw_below_drewN | apply below_drew1) | exact HB.out)) hb); clear hb))
     (go_ret; exact ⟨rfl, (by repeat (first | (with_reducible first | exact HB.out | apply below_alloc | apply pw_below_drewN | apply below_drew1) | exact HB.out))⟩)
    ·obtain rfl : i = p.length := by omega
     have c1e : decide (p.length < p.length) = false := decide_eq_false (by omega)
     go_wp2_with (first | (go_at_call 4; refine (g4_Run.calls kr (s.extract 0 9000) l r2 _ HRUN.out).mono ?_; rintro e w1 ⟨v0, rfl, ho, hb⟩; obtain ⟨Ao, co, eo⟩ := Kd.R_slice ho; subst eo; have HO := Ad.mk (Kd.R_lower ho (below_size (by repeat (first | (with_reducible first | exact HB.out | apply below_alloc | apply pw_below_drewN | apply below_drew1) | exact HB.out)))); replace HB := Ad.mk (below_step (by repeat (first | (with_reducible first | exact HB.out | apply below_alloc | apply pw_below_drewN | apply below_drew1) | exact HB.out)) hb); clear ho hb) | (go_at_call 5; refine (w4_known.calls kn true _ HK.out).mono ?_; rintro e w2 ⟨rfl, hb⟩; replace HB := Ad.mk (below_step (by repeat (first | (with_reducible first | exact HB.out | apply below_alloc | apply pw_below_drewN | apply below_drew1) | exact HB.out)) hb); clear hb))
     (go_ret; exact ⟨rfl, (by repeat (first | (with_reducible first | exact HB.out | apply below_alloc | apply pw_below_drewN | apply below_drew1) | exact HB.out))⟩)
   have HRUN := G2 g1
   have g1a : decide ((s.size : Int) < 9000) = decide ((s.size : Int) < 9000) := rfl
   have g1b : decide ((9000 : Int) < (s.size : Int)) = false := decide_eq_false (by omega)
   have g1c : decide ((s.size : Int) ≤ 9000) = true := decide_eq_true (by omega)
   have g1d : decide (9000 < s.size) = false := decide_eq_false (by omega)
   clear G1 G2 g1a
   by_cases g2 : 20 < p.length
   ·have g2a : decide ((20 : Int) < (p.length : Int)) = true := decide_eq_true (by omega)
    by_cases hx : i < p.length
    ·obtain rfl : i = 21 := by omega
     have c1d : decide (((21 : Nat) : Int) < (p.length : Int)) = true := decide_eq_true (by omega)
     have c1e : decide (21 < p.length) = true := decide_eq_true (by omega)
     go_wp2_with (first | (go_at_call 4; refine (g4_Run.calls kr s l r2 _ HRUN.out).mono ?_; rintro e w1 ⟨v0, rfl, ho, hb⟩; obtain ⟨Ao, co, eo⟩ := Kd.R_slice ho; subst eo; have HO := Ad.mk (Kd.R_lower ho (below_size (by repeat (first | (with_reducible first | exact HB.out | apply below_alloc | apply pw_below_drewN | apply below_drew1) | exact HB.out)))); replace HB := Ad.mk (below_step (by repeat (first | (with_reducible first | exact HB.out | apply below_alloc | apply pw_below_drewN | apply below_drew1) | exact HB.out)) hb); clear ho hb) | (go_at_call 5; refine (w4_known.calls kn true _ HK.out).mono ?_; rintro e w2 ⟨rfl, hb⟩; replace HB := Ad.mk (below_step (by repeat (first | (with_reducible first | exact HB.out | apply below_alloc | apply pw_below_drewN | apply below_drew1) | exact HB.out)) hb); clear hb))
     (go_ret; exact ⟨rfl, (by repeat (first | (with_reducible first | exact HB.out | apply below_alloc | apply pw_below_drewN | apply below_drew1) | exact HB.out))⟩)
    ·obtain rfl : i = p.length := by omega
     have c1e : decide (p.length < p.length) = false := decide_eq_false (by omega)
     go_wp2_with (first | (go_at_call 4; refine (g4_Run.calls kr s l r2 _ HRUN.out).mono ?_; rintro e w1 ⟨v0, rfl, ho, hb⟩; obtain ⟨Ao, co, eo⟩ := Kd.R_slice ho; subst eo; have HO := Ad.mk (Kd.R_lower ho (below_size (by repeat (first | (with_reducible first | exact HB.out | apply below_alloc | apply pw_below_drewN | apply below_drew1) | exact HB.out)))); replace HB := Ad.mk (below_step (by repeat (first | (with_reducible first | exact HB.out | apply below_alloc | apply pw_below_drewN | apply below_drew1) | exact HB.out)) hb); clear ho hb) | (go_at_call 5; refine (w4_known.calls kn true _ HK.out).mono ?_; rintro e w2 ⟨rfl, hb⟩; replace HB := Ad.mk (below_step (by repeat (first | (with_reducible first | exact HB.out | apply below_alloc | apply pw_below_drewN | apply below_drew1) | exact HB.out)) hb); clear hb))
     (go_ret; exact ⟨rfl, (by repeat (first | (with_reducible first | exact HB.out | apply below_alloc | apply pw_below_drewN | apply below_drew1) | exact HB.out))⟩)
   have g2c : p.length ≤ 20 := by omega
   have g2a : decide ((20 : Int) < (p.length : Int)) = false := decide_eq_false (by omega)
   obtain rfl : i = p.length := by omega
   have c1e : decide (p.length < p.length) = false := decide_eq_false (by omega)
   have c1f : decide ((p.length : Int) ≤ 20) = true := decide_eq_true (by omega)
   have c1g : decide (p.length ≤ 20) = true := decide_eq_true (by omega)
   by_cases g3 : 9000 < sumP p p.length
   ·have g3a : decide ((9000 : Int) < ((sumP p p.length : Nat) : Int)) = true := decide_eq_true (by omega)
    go_wp2_with (first | (go_at_call 4; refine (g4_Run.calls kr s l r2 _ HRUN.out).mono ?_; rintro e w1 ⟨v0, rfl, ho, hb⟩; obtain ⟨Ao, co, eo⟩ := Kd.R_slice ho; subst eo; have HO := Ad.mk (Kd.R_lower ho (below_size (by repeat (first | (with_reducible first | exact HB.out | apply below_alloc | apply pw_below_drewN | apply below_drew1) | exact HB.out)))); replace HB := Ad.mk (below_step (by repeat (first | (with_reducible first | exact HB.out | apply below_alloc | apply pw_below_drewN | apply below_drew1) | exact HB.out)) hb); clear ho hb) | (go_at_call 5; refine (w4_known.calls kn true _ HK.out).mono ?_; rintro e w2 ⟨rfl, hb⟩; replace HB := Ad.mk (below_step (by repeat (first | (with_reducible first | exact HB.out | apply below_alloc | apply pw_below_drewN | apply below_drew1) | exact HB.out)) hb); clear hb))
    (go_ret; exact ⟨rfl, (by repeat (first | (with_reducible first | exact HB.out | apply below_alloc | apply pw_below_drewN | apply below_drew1) | exact HB.out))⟩)
   have g3a : decide ((9000 : Int) < ((sumP p p.length : Nat) : Int)) = false := decide_eq_false (by omega)
   by_cases g4 : at_ < 0
   ·have g4a : decide (at_ < 0) = true := decide_eq_true g4
    go_wp2_with (first | (go_at_call 4; refine (g4_Run.calls kr s l r2 _ HRUN.out).mono ?_; rintro e w1 ⟨v0, rfl, ho, hb⟩; obtain ⟨Ao, co, eo⟩ := Kd.R_slice ho; subst eo; have HO := Ad.mk (Kd.R_lower ho (below_size (by repeat (first | (with_reducible first | exact HB.out | apply below_alloc | apply pw_below_drewN | apply below_drew1) | exact HB.out)))); replace HB := Ad.mk (below_step (by repeat (first | (with_reducible first | exact HB.out | apply below_alloc | apply pw_below_drewN | apply below_drew1) | exact HB.out)) hb); clear ho hb) | (go_at_call 5; refine (w4_known.calls kn true _ HK.out).mono ?_; rintro e w2 ⟨rfl, hb⟩; replace HB := Ad.mk (below_step (by repeat (first | (with_reducible first | exact HB.out | apply below_alloc | apply pw_below_drewN | apply below_drew1) | exact HB.out)) hb); clear hb))
    (go_ret; exact ⟨rfl, (by repeat (first | (with_reducible first | exact HB.out | apply below_alloc | apply pw_below_drewN | apply below_drew1) | exact HB.out))⟩)
   have g4a : decide (at_ < 0) = false := decide_eq_false g4
   by_cases g5 : (l.length : Int) < at_
   ·have g5a : decide ((l.length : Int) < at_) = true := decide_eq_true g5
    go_wp2_with (first | (go_at_call 4; refine (g4_Run.calls kr s l r2 _ HRUN.out).mono ?_; rintro e w1 ⟨v0, rfl, ho, hb⟩; obtain ⟨Ao, co, eo⟩ := Kd.R_slice ho; subst eo; have HO := Ad.mk (Kd.R_lower ho (below_size (by repeat (first | (with_reducible first | exact HB.out | apply below_alloc | apply pw_below_drewN | apply below_drew1) | exact HB.out)))); replace HB := Ad.mk (below_step (by repeat (first | (with_reducible first | exact HB.out | apply below_alloc | apply pw_below_drewN | apply below_drew1) | exact HB.out)) hb); clear ho hb) | (go_at_call 5; refine (w4_known.calls kn true _ HK.out).mono ?_; rintro e w2 ⟨rfl, hb⟩; replace HB := Ad.mk (below_step (by repeat (first | (with_reducible first | exact HB.out | apply below_alloc | apply pw_below_drewN | apply below_drew1) | exact HB.out)) hb); clear hb))
    (go_ret; exact ⟨rfl, (by repeat (first | (with_reducible first | exact HB.out | apply below_alloc | apply pw_below_drewN | apply below_drew1) | exact HB.out))⟩)
   have g5a : decide ((l.length : Int) < at_) = false := decide_eq_false g5
   obtain ⟨n, rfl⟩ := Int.eq_ofNat_of_zero_le (Int.not_lt.1 g4)
   have hn : n ≤ l.length := by omega
   have g5b : decide (l.length < n) = false := decide_eq_false (by omega)
   obtain ⟨i0, hi0, hsz⟩ : ∃ i, Tryz.prog.info? 43 = some i ∧ i.size = 6 := by
    obtain ⟨i0, h1, h2, h3, h4⟩ := info_parts info43
    exact ⟨i0, h1, h3⟩
   obtain ⟨ld, hld⟩ : ∃ x, l.drop n = x := ⟨_, rfl⟩
   have hll : l.length - n = ld.length := by rw [← hld]; simp
   have HLD := Ad.mk hld
   have HLL := Ad.mk hll
   have ARR : Ad (lex_Read.f k ld (w4_prefixes.f p) = some (t1, t2, t3, t4, t5) ∧ g4_Read.f k ld p = some (t1, t2, t3, t4) ∧ (0 < t4 ∧ t5 = 0 ∨ t4 = 0 ∧ t5 = 4)) := ⟨by
    have h := HRD.out (by omega) (by omega) (by omega) (by omega) (by omega)
    rwa [Int.toNat_natCast, hld] at h⟩
   have AR := Ad.mk ARR.out.1
   have AR2 := Ad.mk ARR.out.2.1
   have AR3 := Ad.mk ARR.out.2.2
   clear ARR
   clear hld hll
   go_wp2_with (first | (go_at_call 4; refine (g4_Run.calls kr s l r2 _ HRUN.out).mono ?_; rintro e w1 ⟨v0, rfl, ho, hb⟩; obtain ⟨Ao, co, eo⟩ := Kd.R_slice ho; subst eo; have HO := Ad.mk (Kd.R_lower ho (below_size (by repeat (first | (with_reducible first | exact HB.out | apply below_alloc | apply pw_below_drewN | apply below_drew1) | exact HB.out)))); replace HB := Ad.mk (below_step (by repeat (first | (with_reducible first | exact HB.out | apply below_alloc | apply pw_below_drewN | apply below_drew1) | exact HB.out)) hb); clear ho hb) | (go_at_call 5; refine (w4_known.calls kn true _ HK.out).mono ?_; rintro e w2 ⟨rfl, hb⟩; replace HB := Ad.mk (below_step (by repeat (first | (with_reducible first | exact HB.out | apply below_alloc | apply pw_below_drewN | apply below_drew1) | exact HB.out)) hb); clear hb))
   obtain ⟨As, hAs⟩ : ∃ X, (if co = n then Ao else Ao.map (·.add (n * 6))) = X := ⟨_, rfl⟩
   obtain ⟨_, hco, hC0⟩ := Kd.R_reads' HO.out
   have HC : Ad (Kd.C k43 w1 As ld.length ld) := ⟨by
    have h := Kd.C_drop (m := n) hC0 hn hco
    rw [HLD.out] at h
    rw [← hAs]; exact h⟩
   have hcs : ∀ W : World, (Instr.slice 25 (.slice Ao l.length co) (some (.int .i64 (n : Int))) none none).run Tryz.prog W = .ok (.slice As ld.length (co - n)) W := by
    intro W
    have h := cut_from (P := Tryz.prog) 25 43 .i64 Tryz.underlying25 hi0 6 hsz Ao l.length co (n : Int) (by omega) (by omega) W
    rw [Int.toNat_natCast, HLL.out, hAs] at h
    exact h
   have HCO : Ad (ld.length ≤ co - n) := ⟨by rw [← HLL.out]; omega⟩
   clear hAs hco hC0
   have hr9 := Ad.mk (show Below w.heap.size w w1 from HB.out)
   go_cut [15, 16, 17] from 79 to 88 (fun v15 v16 v17 wx => ∃ g : Nat, v15 = .pointer (some ⟨g, 0, none⟩) ∧ v16 = .int .i64 t4 ∧ v17 = .int .i64 t5 ∧ Ad (wx.heap[g]? = some (.cells #[.int .i64 t1, .string t2, .string t3] 31 (0, 0))) ∧ Ad (w1.heap.size ≤ g) ∧ Ad (Below w1.heap.size w1 wx))
   case first =>
    go_region_with (first | (go_at_call 7; (refine (w4_prefixes.calls A1 _ p _ (Kd.C_below HR1.out (by repeat (first | (with_reducible first | exact HB.out | apply below_alloc | apply pw_below_drewN | apply below_drew1) | exact HB.out))) HC1.out).mono ?_; rintro e w2 ⟨mv, rfl, hm, hb⟩; have HM := Ad.mk hm; have HC2 := Ad.mk (Kd.C_below (Kd.C_below HC.out (show Below w1.heap.size w1 _ from (by repeat (first | exact Below.refl _ _ | apply below_alloc | apply below_drew1 | apply pw_below_drewN)))) hb); have H1 := Ad.mk (below_step (show Below w1.heap.size w1 _ from (by repeat (first | exact Below.refl _ _ | apply below_alloc | apply below_drew1 | apply pw_below_drewN))) hb); have H12 := H1; replace HB := Ad.mk (below_step (by repeat (first | (with_reducible first | exact HB.out | apply below_alloc | apply pw_below_drewN | apply below_drew1) | exact HB.out)) hb); (try (have hq : w2.heap[w1.heap.size]? = some (.cells #[.int .i64 0, .string (⟨#[]⟩ : ByteArray), .string (⟨#[]⟩ : ByteArray)] 31 (0, 0)) := blk_below (by exact World.alloc_heap_new _ _) hb; have hq0 := (blk_cell hq 0).trans (show _ = some (.int .i64 0) from rfl); have hq1 := (blk_cell hq 1).trans (show _ = some (.string (⟨#[]⟩ : ByteArray)) from rfl); have hq2 := (blk_cell hq 2).trans (show _ = some (.string (⟨#[]⟩ : ByteArray)) from rfl); have hqf := fun i => blk_frozen hq i)); clear hm hb)) | (go_at_call 6; (refine (lex_Read.calls k As _ ld mv _ t1 t2 t3 t4 t5 _ (Kd.C_below HC2.out (show Below w2.heap.size w2 _ from (by repeat (first | exact Below.refl _ _ | apply below_alloc | apply below_drew1 | apply pw_below_drewN)))) HCO.out (HM.out.below (show Below w2.heap.size w2 _ from (by repeat (first | exact Below.refl _ _ | apply below_alloc | apply below_drew1 | apply pw_below_drewN)))) AR.out).mono ?_; rintro e w3 ⟨rfl, hb⟩; replace H1 := Ad.mk (below_step (show Below w1.heap.size w1 _ from by repeat (first | exact H1.out | apply below_alloc | apply below_drew1 | apply pw_below_drewN)) hb); replace HB := Ad.mk (below_step (by repeat (first | (with_reducible first | exact HB.out | apply below_alloc | apply pw_below_drewN | apply below_drew1) | exact HB.out)) hb); first | (have hq' := blk_below hq hb; clear hq0 hq1 hq2 hqf hq; have hq := hq'; clear hq'; have hq0 := (blk_cell hq 0).trans (show _ = some (.int .i64 0) from rfl); have hq1 := (blk_cell hq 1).trans (show _ = some (.string (⟨#[]⟩ : ByteArray)) from rfl); have hq2 := (blk_cell hq 2).trans (show _ = some (.string (⟨#[]⟩ : ByteArray)) from rfl); have hqf := fun i => blk_frozen hq i) | (try (have hq : w3.heap[w2.heap.size]? = some (.cells #[.int .i64 0, .string (⟨#[]⟩ : ByteArray), .string (⟨#[]⟩ : ByteArray)] 31 (0, 0)) := blk_below (by exact World.alloc_heap_new _ _) hb; have hq0 := (blk_cell hq 0).trans (show _ = some (.int .i64 0) from rfl); have hq1 := (blk_cell hq 1).trans (show _ = some (.string (⟨#[]⟩ : ByteArray)) from rfl); have hq2 := (blk_cell hq 2).trans (show _ = some (.string (⟨#[]⟩ : ByteArray)) from rfl); have hqf := fun i => blk_frozen hq i)); clear hb)))
    all_goals go_wp2
    all_goals go_meet
    all_goals first
     | exact ⟨_, rfl, rfl, rfl, ⟨World.alloc_heap_new _ _⟩, ⟨H1.out.size⟩, ⟨below_alloc H1.out _⟩⟩
     | exact ⟨_, rfl, rfl, rfl, ⟨(set3 t1 t2 t3 hq H12.out.size H1.out).1⟩, ⟨H12.out.size⟩, ⟨(set3 t1 t2 t3 hq H12.out.size H1.out).2⟩⟩
     | exact ⟨_, rfl, rfl, rfl, ⟨(set3 t1 t2 t3 hq (Nat.le_refl _) H1.out).1⟩, ⟨Nat.le_refl _⟩, ⟨(set3 t1 t2 t3 hq (Nat.le_refl _) H1.out).2⟩⟩
   case rest =>
    obtain ⟨g, rfl, rfl, rfl, HG, HGB, HW⟩ := hcut
    have HBc := Ad.mk (below_then hr9.out hr9.out.size HW.out)
    replace HC := Ad.mk (Kd.C_below HC.out HW.out)
    replace HO := Ad.mk (Kd.R_below HO.out HW.out)
    clear HB
    have HB := HBc
    clear HBc
    go_upto_region 11 with ((go_at_call 8; (refine (g4_Read.calls k As _ ld A1 _ p t1 t2 t3 t4 _ HC.out HCO.out (Kd.C_below HR1.out (by repeat (first | (with_reducible first | exact HB.out | apply below_alloc | apply pw_below_drewN | apply below_drew1) | exact HB.out))) HC1.out AR2.out).mono ?_; rintro e w4 ⟨rfl, hb⟩; replace HB := Ad.mk (below_step (by repeat (first | (with_reducible first | exact HB.out | apply below_alloc | apply pw_below_drewN | apply below_drew1) | exact HB.out)) hb); have hg := blk_below HG.out hb; replace HO := Ad.mk (Kd.R_below HO.out hb); clear hb)))
    have h4 := World.alloc_heap_new w4 (.cells #[.int .i64 t1, .string t2, .string t3] 31 (0, 0))
    have hg5 := blk_below hg (below_alloc (Below.refl _ _) (.cells #[.int .i64 t1, .string t2, .string t3] 31 (0, 0)))
    replace HB := Ad.mk (below_alloc HB.out (.cells #[.int .i64 t1, .string t2, .string t3] 31 (0, 0)))
    replace HO := Ad.mk (Kd.R_below HO.out (below_alloc (Below.refl _ _) (.cells #[.int .i64 t1, .string t2, .string t3] 31 (0, 0))))
    generalize w4.alloc (.cells #[.int .i64 t1, .string t2, .string t3] 31 (0, 0)) = w5 at *
    generalize w4.heap.size = g4 at *
    have q0 := (blk_cell hg5 0).trans (show _ = some (.int .i64 t1) from rfl)
    have q1 := (blk_cell hg5 1).trans (show _ = some (.string t2) from rfl)
    have q2 := (blk_cell hg5 2).trans (show _ = some (.string t3) from rfl)
    have y0 := (blk_cell h4 0).trans (show _ = some (.int .i64 t1) from rfl)
    have y1 := (blk_cell h4 1).trans (show _ = some (.string t2) from rfl)
    have y2 := (blk_cell h4 2).trans (show _ = some (.string t3) from rfl)
    clear hg5 h4 hg HG HGB HW hr9
    go_cut [121] from 97 to 121 (fun v121 wx => v121 = .bool false ∧ Ad (Below w5.heap.size w5 wx))
    case first =>
     rcases AR3.out with ⟨hm, h5⟩ | ⟨hm, h5⟩
     ·subst h5
      have z0 : decide (0 < t4) = true := decide_eq_true hm
      have z1 : (t4 == 0) = false := beq_eq_false_iff_ne.2 (by omega)
      clear hm AR3 AR AR2 HRD HMW
      go_wp2_with ((go_at_call 9; refine (w4_num.calls _ _ _ rfl).mono ?_; rintro e w' ⟨rfl, ⟨nd, rfl⟩⟩))
      go_meet
      case rel => exact ⟨rfl, ⟨by repeat (first | exact Below.refl _ _ | apply below_alloc | apply below_drew1 | apply pw_below_drewN)⟩⟩
     ·subst h5
      subst hm
      clear AR3 AR AR2 HRD HMW
      go_wp2_with ((go_at_call 9; refine (w4_num.calls _ _ _ rfl).mono ?_; rintro e w' ⟨rfl, ⟨nd, rfl⟩⟩))
      go_meet
      case rel => exact ⟨rfl, ⟨by repeat (first | exact Below.refl _ _ | apply below_alloc | apply below_drew1 | apply pw_below_drewN)⟩⟩
    case rest =>
     obtain ⟨rfl, HX⟩ := hcut
     replace HO := Ad.mk (Kd.R_below HO.out HX.out)
     replace HB := Ad.mk (below_then HB.out HB.out.size HX.out)
     clear AR AR2 AR3 HRD HX q0 q1 q2 y0 y1 y2
     by_cases gn : n < l.length
     ·have gn1 : decide (n < l.length) = true := decide_eq_true gn
      obtain ⟨M1, M2, M3, M4⟩ := HMW.out (by omega) (by omega)
      have HM1 := Ad.mk M1
      have HM2 := Ad.mk M2
      have HM3 := Ad.mk M3
      have HM4 := Ad.mk M4
      obtain ⟨_, hco, hC0⟩ := Kd.R_reads' HO.out
      obtain ⟨ad, e, x0, x1, x2, x3, x4, x5⟩ := at_T43 hC0 (n : Int) (by omega) (by omega)
      clear M1 M2 M3 M4 HMW hco hC0
      subst e
      rw [Int.toNat_natCast] at x0 x1 x2 x3 x4 x5
      have HZ := Ad.mk (Below.refl wc.heap.size wc)
      have p8 : (0 ≤ (n : Int)) = True := eq_true (by omega)
      have q8 : ((n : Int) < (l.length : Int)) = True := eq_true (by omega)
      have X := Ad.mk (And.intro x0 (And.intro x1 (And.intro x2 (And.intro x3 (And.intro x4 x5)))))
      go_wp2_with fail
      go_region_held3 (fun W => W.cell? (ad.add (n * 6)) = some (.int .i64 (rd_T43 l n).f0) ∧ W.cell? ⟨(ad.add (n * 6)).block, (ad.add (n * 6)).off + 1, none⟩ = some (.string (rd_T43 l n).f1) ∧ W.cell? ⟨(ad.add (n * 6)).block, (ad.add (n * 6)).off + 2, none⟩ = some (.int .i64 (rd_T43 l n).f2.f0) ∧ W.cell? ⟨(ad.add (n * 6)).block, (ad.add (n * 6)).off + 3, none⟩ = some (.string (rd_T43 l n).f2.f1) ∧ W.cell? ⟨(ad.add (n * 6)).block, (ad.add (n * 6)).off + 4, none⟩ = some (.string (rd_T43 l n).f2.f2) ∧ W.cell? ⟨(ad.add (n * 6)).block, (ad.add (n * 6)).off + 5, none⟩ = some (.int .i64 (rd_T43 l n).f3)) (first | (exact cells6 X.out HZ.out) | go_keep) (first | (go_at_call 10; refine (lex_Mark.calls _ _ _ _ _ _ mark b1 _ HM1.out).mono ?_; rintro e w6 ⟨rfl, hb⟩; have hz := below_step (show Below wc.heap.size wc _ from by repeat (first | exact HZ.out | apply below_drew1 | apply pw_below_drewN)) hb; clear HZ hb; have HZ := Ad.mk hz; clear hz) | (go_at_call 11; refine (g4_Mark.calls _ _ _ _ _ _ mark b1 _ HM2.out).mono ?_; rintro e w6 ⟨rfl, hb⟩; have hz := below_step (show Below wc.heap.size wc _ from by repeat (first | exact HZ.out | apply below_drew1 | apply pw_below_drewN)) hb; clear HZ hb; have HZ := Ad.mk hz; clear hz) | (go_at_call 12; refine (lex_Word.any_ (rd_T43 l n) word b2 _ (HTT.out.below (below_then HB.out HB.out.size (show Below wc.heap.size wc _ from by repeat (first | exact HZ.out | apply below_drew1 | apply pw_below_drewN)))) HM3.out).mono ?_; rintro e w6 ⟨rfl, hb⟩; have hz := below_step (show Below wc.heap.size wc _ from by repeat (first | exact HZ.out | apply below_drew1 | apply pw_below_drewN)) hb; clear HZ hb; have HZ := Ad.mk hz; clear hz) | (go_at_call 13; refine (g4_Word.calls k _ _ _ _ _ _ word b2 _ HM4.out).mono ?_; rintro e w6 ⟨rfl, hb⟩; have hz := below_step (show Below wc.heap.size wc _ from by repeat (first | exact HZ.out | apply below_drew1 | apply pw_below_drewN)) hb; clear HZ hb; have HZ := Ad.mk hz; clear hz))
      replace HB := Ad.mk (below_then HB.out HB.out.size HZ.out)
      go_wp2_with (go_at_call 5; refine (w4_known.calls kn true _ HK.out).mono ?_; rintro e w2 ⟨rfl, hb⟩; replace HB := Ad.mk (below_step (by repeat (first | (with_reducible first | exact HB.out | apply below_alloc | apply pw_below_drewN | apply below_drew1) | exact HB.out)) hb); clear hb)
      (go_ret; exact ⟨rfl, (by repeat (first | (with_reducible first | exact HB.out | apply below_alloc | apply pw_below_drewN | apply below_drew1) | exact HB.out))⟩)
     ·obtain rfl : n = l.length := by omega
      have gn1 : decide (l.length < l.length) = false := decide_eq_false (by omega)
      go_wp2_with fail
      go_region
      go_wp2_with (go_at_call 5; refine (w4_known.calls kn true _ HK.out).mono ?_; rintro e w2 ⟨rfl, hb⟩; replace HB := Ad.mk (below_step (by repeat (first | (with_reducible first | exact HB.out | apply below_alloc | apply pw_below_drewN | apply below_drew1) | exact HB.out)) hb); clear hb)
      (go_ret; exact ⟨rfl, (by repeat (first | (with_reducible first | exact HB.out | apply below_alloc | apply pw_below_drewN | apply below_drew1) | exact HB.out))⟩)
end Go.Proofs.YtpbphelaeleikaaGreatDoor.PLt

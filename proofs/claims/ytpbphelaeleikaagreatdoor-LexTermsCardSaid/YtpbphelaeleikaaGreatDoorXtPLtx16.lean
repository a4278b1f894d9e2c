import Derived.Test.YtpbphelaeleikaaGreatDoorXtPLtx0
import Derived.Test.YtpbphelaeleikaaGreatDoorXtPLtx3
import Derived.Test.YtpbphelaeleikaaGreatDoorXtPLtx4
import Derived.Test.YtpbphelaeleikaaGreatDoorXtPLtx6
import Derived.Test.YtpbphelaeleikaaGreatDoorXtPLtx15
namespace Go.Proofs.YtpbphelaeleikaaGreatDoor.PLt
open Go.RowKit Go.Proofs.YtpbphelaeleikaaGreatDoorW.PrintWords Go.Proofs.YtpbphelaeleikaaGreatDoorW.PrintLast Go.Proofs.YtpbphelaeleikaaGreatDoorW.PrintMore
attribute [local go_sem] max2_int min2_int max_two min_two max_three min_three max_four min_four
set_option linter.unusedVariables false
set_option linter.unusedSimpArgs false
set_option maxHeartbeats 8000000
set_option maxRecDepth 100000
def lex_All.l0 : Nat → List S43 → ByteArray → Int → Option (List S43 × Int × Int)
 | 0, _, _, _ => none
 | k + 1, xs, s, a => (ls_safely.f k s a).bind fun (x1, x2, x3, x4, x5, x6, x7, x8, x9, x10) => if x8 ≥ 0 then some ([], x8, 4) else if x7 = true then (if xs.length < 1954687338268 then lex_All.l0 k (xs ++ [(⟨x1, x2, (⟨x3, x4, x5⟩ : S31), x6⟩ : S43)]) x9 x10 else none) else some (xs, 0, 0)
def lex_All.f (k : Nat) (a0 : ByteArray) : Option (List S43 × Int × Int) := if (a0.size : Int) > 1048576 then some ([], 0, 3) else (lex_well.f a0).bind fun t => if (t.size : Int) < (a0.size : Int) then some ([], t.size, 4) else lex_All.l0 k [] a0 0
theorem lex_All.info : (Tryz.prog.info? 43).map (fun i => (i.zero, i.size, i.bytes)) = some (some (.agg #[.int .i64 0, .string ⟨#[]⟩, .int .i64 0, .string ⟨#[]⟩, .string ⟨#[]⟩, .int .i64 0]), 6, 72) := by kernel_rfl
structure AX (w W : World) (g gy : Nat) (v : Value) (xs : List S43) (s : ByteArray) (at_ : Int) (cs : Array Value) : Prop where
 st : IsS73 w W g s at_
 below : Below w.heap.size w W
 row : Kd.R k43 43 W w.heap.size (fun k => k ≠ g ∧ k ≠ gy) v xs
 y : W.heap[gy]? = some (.cells cs 43 (0, 0))
 yw : w.heap.size ≤ gy
 yg : gy ≠ g
theorem AX.upy {w W W' : World} {g gy : Nat} {v : Value} {xs : List S43} {s : ByteArray} {at_ : Int} {cs cs' : Array Value} (h : AX w W g gy v xs s at_ cs) (hu : Upd W W' gy) (hn : W'.heap[gy]? = some (.cells cs' 43 (0, 0))) : AX w W' g gy v xs s at_ cs' :=
 ⟨⟨(hu.other g (Ne.symm h.yg)).trans h.st.1, h.st.2⟩, h.below.trans (hu.below h.yw), Kd.R_move h.row (fun k hk => hu.other k hk.2), hn, h.yw, h.yg⟩
set_option maxHeartbeats 4000000 in
set_option maxRecDepth 100000 in
theorem lex_All.calls (k : Nat) (a0 : ByteArray) (r1 : List S43) (r2 r3 : Int) (w : World) (h : lex_All.f k a0 = some (r1, r2, r3)) :
  Calls Tryz.prog 17 #[.string a0] w fun e w' => ∃ v0_ : Value, e = .returned (.tuple #[v0_, .int .i64 r2, .int .i64 r3]) ∧ Kd.R k43 43 w' w.heap.size (fun _ => True) v0_ r1 ∧ Below w.heap.size w w' := by
 unfold lex_All.f at h
 by_cases c1 : (a0.size : Int) > 1048576
 ·rw [if_pos c1] at h
  simp only [Option.some.injEq, Prod.mk.injEq] at h
  obtain ⟨rfl, rfl, rfl⟩ := h
  have c1b : decide ((a0.size : Int) > 1048576) = true := decide_eq_true c1
  go_enter Tryz.func17, Tryz.ntmps17
  go_wp2
  go_ret3
  exact ⟨_, rfl, Kd.R_nil _ _ _ _ _, Below.refl _ _⟩
 rw [if_neg c1] at h
 have c1b : decide ((a0.size : Int) > 1048576) = false := decide_eq_false c1
 obtain ⟨t, A0, H⟩ := Option.bind_eq_some_iff.mp h
 have AW := Ad.mk A0
 clear h A0
 by_cases c2 : (t.size : Int) < (a0.size : Int)
 ·rw [if_pos c2] at H
  have c2b : decide ((t.size : Int) < (a0.size : Int)) = true := decide_eq_true c2
  simp only [Option.some.injEq, Prod.mk.injEq] at H
  obtain ⟨rfl, rfl, rfl⟩ := H
  go_enter Tryz.func17, Tryz.ntmps17
  go_wp2_with (first | (go_at_call 31; refine (lex_well.calls a0 t _ AW.out).mono ?_; rintro e w2 ⟨rfl, hb⟩; have HB := Ad.mk hb; clear hb))
  go_ret3
  exact ⟨_, rfl, Kd.R_nil _ _ _ _ _, HB.out⟩
 rw [if_neg c2] at H
 have c2b : decide ((t.size : Int) < (a0.size : Int)) = false := decide_eq_false c2
 have H' := Ad.mk H
 clear H
 go_enter Tryz.func17, Tryz.ntmps17
 go_wp2_with (first | (go_at_call 31; refine (lex_well.calls a0 t _ AW.out).mono ?_; rintro e w2 ⟨rfl, hb⟩; have HB := Ad.mk hb; clear hb) | ((with_reducible refine gate_dst (N := 24) rfl ?_); refine box_event r1_ (N := 24) r1_ (cs := #[.string a0, .int .i64 0]) (t := 73) r2_ ?_; intro g hg w3 hbox hb; have HS := Ad.mk (show IsS73 w w3 g a0 0 ∧ Below w.heap.size w w3 from ⟨⟨hbox, by rw [hg]; exact HB.out.size⟩, below_then HB.out HB.out.size hb⟩); clear hg hbox hb HB))
 go_loopg [6] k (fun kq v6 w' => ∃ (xs : List S43) (s : ByteArray) (a : Int), Ad (lex_All.l0 kq xs s a = some (r1, r2, r3)) ∧ Ad (kq ≤ k) ∧ Ad (Kd.R k43 43 w' w.heap.size (fun k => k ≠ g) v6 xs) ∧ Ad (IsS73 w w' g s a) ∧ Ad (Below w.heap.size w w'))
 case atStart => exact ⟨[], a0, 0, H', ⟨Nat.le_refl _⟩, ⟨Kd.R_nil _ _ _ _ _⟩, ⟨HS.out.1⟩, ⟨HS.out.2⟩⟩
 case round =>
  clear H' HS AW c2 c2b c1 c1b
  obtain ⟨xs, s, a, HA, HK1, HO, HI, HB⟩ := hrel
  cases gk with
  | zero => exact absurd HA.out (by simp [lex_All.l0])
  | succ k1 =>
   have H := HA.out
   clear HA
   simp only [lex_All.l0] at H
   replace H := Option.bind_eq_some_iff.mp H
   obtain ⟨⟨x1, x2, x3, x4, x5, x6, x7, x8, x9, x10⟩, A0, H⟩ := H
   simp only at H
   have AS := Ad.mk A0
   clear A0
   by_cases c3 : x8 ≥ 0
   ·rw [if_pos c3] at H
    have c3b : decide (x8 ≥ 0) = true := decide_eq_true c3
    simp only [Option.some.injEq, Prod.mk.injEq] at H
    obtain ⟨rfl, rfl, rfl⟩ := H
    go_wp2_with (first | (go_at_call 32; refine (ls_safely.calls k1 g s a x1 x2 x3 x4 x5 x6 x7 x8 x9 x10 w _ HI.out HB.out AS.out).mono ?_; rintro e w4 ⟨rfl, h1, h2, h3⟩; have HI1 := Ad.mk h1; have HB1 := Ad.mk h2; have HO1 := Ad.mk (Kd.R_keep HO.out h3 (fun _ hk => hk)); clear h1 h2 h3 HI HB HO) | ((with_reducible refine gate_dst (N := 8) rfl ?_); refine box_event r1_ (N := 8) r1_ (cs := #[.int .i64 0, .string ⟨#[]⟩, .int .i64 0, .string ⟨#[]⟩, .string ⟨#[]⟩, .int .i64 0]) (t := 43) r2_ ?_; intro gy hgy w5 hbox hb; have HX := Ad.mk (AX.mk (cs := #[.int .i64 0, .string ⟨#[]⟩, .int .i64 0, .string ⟨#[]⟩, .string ⟨#[]⟩, .int .i64 0]) (HI1.out.below hb) (below_then HB1.out HB1.out.size hb) (Kd.R_mono (Kd.R_below (Kd.R_elderB HO1.out gy (Nat.le_of_eq hgy.symm)) hb) (fun _ hk => hk)) hbox (by rw [hgy]; exact HB1.out.size) (by rw [hgy]; exact Ne.symm (Nat.ne_of_lt HI1.out.lt))); clear hgy hbox hb HI1 HB1 HO1) | ((with_reducible refine gate_store (t := 43) (p := 8) rfl ?_); refine store_seg (gy := gy) (j := 0) (T := 43) (TB := 43) (cs := #[.int .i64 0, .string ⟨#[]⟩, .int .i64 0, .string ⟨#[]⟩, .string ⟨#[]⟩, .int .i64 0]) (new := #[.int .i64 x1, .string x2, .int .i64 x3, .string x4, .string x5, .int .i64 x6]) (u := .agg #[.int .i64 x1, .string x2, .int .i64 x3, .string x4, .string x5, .int .i64 x6]) (seg := [.int .i64 x1, .string x2, .int .i64 x3, .string x4, .string x5, .int .i64 x6]) rfl (p := .tmp 8) (x := .tmp 28) rfl rfl r1_ r1_ r1_ HX.out.y k1_ s1_ h1_ rfl ?_; intro w6 hz hup; have HY := Ad.mk (HX.out.upy hup hz); clear HX hz hup; have hy0 := (blk_cell HY.out.y 0).trans (show _ = some (.int .i64 x1) from rfl); have hy1 := (blk_cell HY.out.y 1).trans (show _ = some (.string x2) from rfl); have hy2 := (blk_cell HY.out.y 2).trans (show _ = some (.int .i64 x3) from rfl); have hy3 := (blk_cell HY.out.y 3).trans (show _ = some (.string x4) from rfl); have hy4 := (blk_cell HY.out.y 4).trans (show _ = some (.string x5) from rfl); have hy5 := (blk_cell HY.out.y 5).trans (show _ = some (.int .i64 x6) from rfl)))
    go_ret3
    exact ⟨_, rfl, Kd.R_nil _ _ _ _ _, HY.out.below⟩
   rw [if_neg c3] at H
   have c3b : decide (x8 ≥ 0) = false := decide_eq_false c3
   cases x7 with
   | false =>
    rw [if_neg (by decide)] at H
    simp only [Option.some.injEq, Prod.mk.injEq] at H
    obtain ⟨rfl, rfl, rfl⟩ := H
    go_wp2_with (first | (go_at_call 32; refine (ls_safely.calls k1 g s a x1 x2 x3 x4 x5 x6 false x8 x9 x10 w _ HI.out HB.out AS.out).mono ?_; rintro e w4 ⟨rfl, h1, h2, h3⟩; have HI1 := Ad.mk h1; have HB1 := Ad.mk h2; have HO1 := Ad.mk (Kd.R_keep HO.out h3 (fun _ hk => hk)); clear h1 h2 h3 HI HB HO) | ((with_reducible refine gate_dst (N := 8) rfl ?_); refine box_event r1_ (N := 8) r1_ (cs := #[.int .i64 0, .string ⟨#[]⟩, .int .i64 0, .string ⟨#[]⟩, .string ⟨#[]⟩, .int .i64 0]) (t := 43) r2_ ?_; intro gy hgy w5 hbox hb; have HX := Ad.mk (AX.mk (cs := #[.int .i64 0, .string ⟨#[]⟩, .int .i64 0, .string ⟨#[]⟩, .string ⟨#[]⟩, .int .i64 0]) (HI1.out.below hb) (below_then HB1.out HB1.out.size hb) (Kd.R_mono (Kd.R_below (Kd.R_elderB HO1.out gy (Nat.le_of_eq hgy.symm)) hb) (fun _ hk => hk)) hbox (by rw [hgy]; exact HB1.out.size) (by rw [hgy]; exact Ne.symm (Nat.ne_of_lt HI1.out.lt))); clear hgy hbox hb HI1 HB1 HO1) | ((with_reducible refine gate_store (t := 43) (p := 8) rfl ?_); refine store_seg (gy := gy) (j := 0) (T := 43) (TB := 43) (cs := #[.int .i64 0, .string ⟨#[]⟩, .int .i64 0, .string ⟨#[]⟩, .string ⟨#[]⟩, .int .i64 0]) (new := #[.int .i64 x1, .string x2, .int .i64 x3, .string x4, .string x5, .int .i64 x6]) (u := .agg #[.int .i64 x1, .string x2, .int .i64 x3, .string x4, .string x5, .int .i64 x6]) (seg := [.int .i64 x1, .string x2, .int .i64 x3, .string x4, .string x5, .int .i64 x6]) rfl (p := .tmp 8) (x := .tmp 28) rfl rfl r1_ r1_ r1_ HX.out.y k1_ s1_ h1_ rfl ?_; intro w6 hz hup; have HY := Ad.mk (HX.out.upy hup hz); clear HX hz hup; have hy0 := (blk_cell HY.out.y 0).trans (show _ = some (.int .i64 x1) from rfl); have hy1 := (blk_cell HY.out.y 1).trans (show _ = some (.string x2) from rfl); have hy2 := (blk_cell HY.out.y 2).trans (show _ = some (.int .i64 x3) from rfl); have hy3 := (blk_cell HY.out.y 3).trans (show _ = some (.string x4) from rfl); have hy4 := (blk_cell HY.out.y 4).trans (show _ = some (.string x5) from rfl); have hy5 := (blk_cell HY.out.y 5).trans (show _ = some (.int .i64 x6) from rfl)))
    go_ret3
    exact ⟨_, rfl, Kd.R_mono HY.out.row (fun _ _ => trivial), HY.out.below⟩
   | true =>
    rw [if_pos rfl] at H
    by_cases c4 : xs.length < 1954687338268
    ·rw [if_pos c4] at H
     have LM := Ad.mk c4
     clear c4
     have H' := Ad.mk H
     clear H
     go_wp2_with (first | (go_at_call 32; refine (ls_safely.calls k1 g s a x1 x2 x3 x4 x5 x6 true x8 x9 x10 w _ HI.out HB.out AS.out).mono ?_; rintro e w4 ⟨rfl, h1, h2, h3⟩; have HI1 := Ad.mk h1; have HB1 := Ad.mk h2; have HO1 := Ad.mk (Kd.R_keep HO.out h3 (fun _ hk => hk)); clear h1 h2 h3 HI HB HO) | ((with_reducible refine gate_dst (N := 8) rfl ?_); refine box_event r1_ (N := 8) r1_ (cs := #[.int .i64 0, .string ⟨#[]⟩, .int .i64 0, .string ⟨#[]⟩, .string ⟨#[]⟩, .int .i64 0]) (t := 43) r2_ ?_; intro gy hgy w5 hbox hb; have HX := Ad.mk (AX.mk (cs := #[.int .i64 0, .string ⟨#[]⟩, .int .i64 0, .string ⟨#[]⟩, .string ⟨#[]⟩, .int .i64 0]) (HI1.out.below hb) (below_then HB1.out HB1.out.size hb) (Kd.R_mono (Kd.R_below (Kd.R_elderB HO1.out gy (Nat.le_of_eq hgy.symm)) hb) (fun _ hk => hk)) hbox (by rw [hgy]; exact HB1.out.size) (by rw [hgy]; exact Ne.symm (Nat.ne_of_lt HI1.out.lt))); clear hgy hbox hb HI1 HB1 HO1) | ((with_reducible refine gate_store (t := 43) (p := 8) rfl ?_); refine store_seg (gy := gy) (j := 0) (T := 43) (TB := 43) (cs := #[.int .i64 0, .string ⟨#[]⟩, .int .i64 0, .string ⟨#[]⟩, .string ⟨#[]⟩, .int .i64 0]) (new := #[.int .i64 x1, .string x2, .int .i64 x3, .string x4, .string x5, .int .i64 x6]) (u := .agg #[.int .i64 x1, .string x2, .int .i64 x3, .string x4, .string x5, .int .i64 x6]) (seg := [.int .i64 x1, .string x2, .int .i64 x3, .string x4, .string x5, .int .i64 x6]) rfl (p := .tmp 8) (x := .tmp 28) rfl rfl r1_ r1_ r1_ HX.out.y k1_ s1_ h1_ rfl ?_; intro w6 hz hup; have HY := Ad.mk (HX.out.upy hup hz); clear HX hz hup; have hy0 := (blk_cell HY.out.y 0).trans (show _ = some (.int .i64 x1) from rfl); have hy1 := (blk_cell HY.out.y 1).trans (show _ = some (.string x2) from rfl); have hy2 := (blk_cell HY.out.y 2).trans (show _ = some (.int .i64 x3) from rfl); have hy3 := (blk_cell HY.out.y 3).trans (show _ = some (.string x4) from rfl); have hy4 := (blk_cell HY.out.y 4).trans (show _ = some (.string x5) from rfl); have hy5 := (blk_cell HY.out.y 5).trans (show _ = some (.int .i64 x6) from rfl)) | ((with_reducible refine gate_builtin (b := .append) (xs := #[(.tmp 39), .tmp 41]) rfl ?_); at_builtin; refine Kd.R_append k43 (w0 := w) w.heap.size rfl (.tmp 39) (.tmp 41) 25 43 (.agg #[.int .i64 0, .string ⟨#[]⟩, .int .i64 0, .string ⟨#[]⟩, .string ⟨#[]⟩, .int .i64 0]) 72 rfl Tryz.underlying25 lex_All.info rfl (by decide) (by omega) _ xs (⟨x1, x2, (⟨x3, x4, x5⟩ : S31), x6⟩ : S43) [.int .i64 x1, .string x2, .int .i64 x3, .string x4, .string x5, .int .i64 x6] (fun k_ => k_ ≠ g ∧ k_ ≠ gy) (fun _ => False) rfl (by first | (go_simp; done) | (go_simp; rfl)) ?aP (fun _ hk => hk.elim) ?aF ?aO ?aB ?aS ?aL ?_; (case aP => exact k43_mkM _ _ _ (⟨x1, x2, (⟨x3, x4, x5⟩ : S31), x6⟩ : S43)); (case aB => exact HY.out.below); (case aF => exact fun k_ hk => ⟨Kd.freshB HY.out.st.1 k_ hk, Kd.freshB HY.out.y k_ hk⟩); (case aO => exact HY.out.row); (case aS => exact HY.out.below.size); (case aL => have := LM.out; omega); intro v1 w7 ho hb hg hat; have HZ := Ad.mk (show Kd.R k43 43 w7 w.heap.size (fun k => k ≠ g) v1 (xs ++ [(⟨x1, x2, (⟨x3, x4, x5⟩ : S31), x6⟩ : S43)]) ∧ IsS73 w w7 g x9 x10 ∧ Below w.heap.size w w7 from ⟨Kd.R_mono ho (fun _ hk => hk.1), HY.out.st.grown hg (Kd.R_away HY.out.row (fun _ hk => hk.1)), hb⟩); clear HY ho hb hg hat))
     go_roundg k1
     case measure => have := HK1.out; omega
     case rel => exact ⟨_, x9, x10, H', ⟨by have := HK1.out; omega⟩, ⟨HZ.out.1⟩, ⟨HZ.out.2.1⟩, ⟨HZ.out.2.2⟩⟩
    rw [if_neg c4] at H
    cases H
def w4_known.j0 : Nat → List (S43) → List (S43) → Bool → Option (Bool)
 | 0, _, _, _ => none
 | k + 1, x1, x4, x32 => if x32 = true then (none) else (if 0 < (x1.length : Int) then (if ((rd_T43 x1 0).f0) = 1 then (if 1 < (x1.length : Int) then ((lex_Mark.f ((rd_T43 x1 1).f0) ((rd_T43 x1 1).f1) ((rd_T43 x1 1).f2.f0) ((rd_T43 x1 1).f2.f1) ((rd_T43 x1 1).f2.f2) ((rd_T43 x1 1).f3) (⟨#[58, 45]⟩ : ByteArray)).bind fun t384 => (if t384 = true then (if 2 < (x1.length : Int) then (if ((rd_T43 x1 2).f1).toList = ([120] : List UInt8) then (if 3 < (x1.length : Int) then ((lex_Mark.f ((rd_T43 x1 3).f0) ((rd_T43 x1 3).f1) ((rd_T43 x1 3).f2.f0) ((rd_T43 x1 3).f2.f1) ((rd_T43 x1 3).f2.f2) ((rd_T43 x1 3).f3) (⟨#[33, 61]⟩ : ByteArray)).bind fun t387 => (if t387 = true then (if 4 < (x1.length : Int) then (if ((rd_T43 x1 4).f1).toList = ([98] : List UInt8) then (if 5 < (x1.length : Int) then (if ((rd_T43 x1 5).f1).toList = ([101, 110] : List UInt8) then (if 6 < (x1.length : Int) then ((lex_Mark.f ((rd_T43 x1 6).f0) ((rd_T43 x1 6).f1) ((rd_T43 x1 6).f2.f0) ((rd_T43 x1 6).f2.f1) ((rd_T43 x1 6).f2.f2) ((rd_T43 x1 6).f3) (⟨#[46]⟩ : ByteArray)).bind fun t391 => (if t391 = true then (if 0 < (x4.length : Int) then (if ((rd_T43 x4 0).f0) = 7 then (if ((rd_T43 x4 0).f1).toList = ([97, 58, 98, 45, 99] : List UInt8) then (if 1 < (x4.length : Int) then ((lex_Word.f ((rd_T43 x4 1).f0) ((rd_T43 x4 1).f1) ((rd_T43 x4 1).f2.f0) ((rd_T43 x4 1).f2.f1) ((rd_T43 x4 1).f2.f2) ((rd_T43 x4 1).f3) (⟨#[65]⟩ : ByteArray)).bind fun t395 => (if t395 = true then (if 2 < (x4.length : Int) then (some (((rd_T43 x4 2).f1).toList == ([58] : List UInt8))) else (none)) else (none))) else (none)) else (none)) else (none)) else (none)) else (none))) else (none)) else (none)) else (none)) else (none)) else (none)) else (none))) else (none)) else (none)) else (none)) else (none))) else (none)) else (none)) else (none))
def w4_known.f (k : Nat)  : Option (Bool) := (lex_All.f k (⟨#[60, 97, 62, 58, 45, 63, 120, 32, 33, 61, 32, 34, 98, 34, 64, 101, 110, 32, 46]⟩ : ByteArray)).bind fun bt370 => ((lex_All.f k (⟨#[97, 58, 98, 45, 99, 32, 97, 32, 58]⟩ : ByteArray)).bind fun bt375 => ((w4_num.f bt370.2.2).bind fun t380 => ((w4_num.f bt375.2.2).bind fun t381 => (if (wrap64 (t380 + t381)) = 0 then (if (bt370.1.length : Int) = 7 then (w4_known.j0 k bt370.1 bt375.1 ((bt375.1.length : Int) != 3)) else (none)) else (none)))))
theorem w4_known.calls (k : Nat)  (r : Bool) (w : World) (h : w4_known.f k  = some r) :
  Calls Tryz.prog 5 #[] w fun e w' => e = .returned (.bool r) ∧ Below w.heap.size w w' := by
 have hu43 := Tryz.underlying43
 have HB := Ad.mk (Below.refl w.heap.size w)
 have H := h
 clear h
 unfold w4_known.f at H
 obtain ⟨⟨t370, t371, t372⟩, A1, H⟩ := bi_ H
 try dsimp only at H
 obtain ⟨⟨t375, t376, t377⟩, A2, H⟩ := bi_ H
 try dsimp only at H
 have HC3 := Ad.mk H
 clear H
 go_enter Tryz.func5, Tryz.ntmps5
 go_upto_region 3 with (first | ((with_reducible refine gate_callee (f := 17) rfl ?_); refine goesL_ (some 8) rfl rfl Tryz.func17 k1_ rfl #[.string ⟨#[60, 97, 62, 58, 45, 63, 120, 32, 33, 61, 32, 34, 98, 34, 64, 101, 110, 32, 46]⟩] rfl g1_ ?_; (with_reducible refine (lex_All.calls k (⟨#[60, 97, 62, 58, 45, 63, 120, 32, 33, 61, 32, 34, 98, 34, 64, 101, 110, 32, 46]⟩ : ByteArray) t370 t371 t372 _ A1.out).mono ?_); rintro e w4 ⟨v373, rfl, ho0, hb⟩; refine ⟨_, rfl, ?_⟩; have HO374 := Ad.mk (Kd.R_lower ho0 (below_size b1_)); replace HB := Ad.mk (below_step b1_ hb); (try clear hb); (try clear hb2); (try clear hk); (try clear hi); (try clear ho0)) | ((with_reducible refine gate_callee (f := 17) rfl ?_); refine goesL_ (some 13) rfl rfl Tryz.func17 k1_ rfl #[.string ⟨#[97, 58, 98, 45, 99, 32, 97, 32, 58]⟩] rfl g1_ ?_; (with_reducible refine (lex_All.calls k (⟨#[97, 58, 98, 45, 99, 32, 97, 32, 58]⟩ : ByteArray) t375 t376 t377 _ A2.out).mono ?_); rintro e w5 ⟨v378, rfl, ho0, hb⟩; refine ⟨_, rfl, ?_⟩; have HO379 := Ad.mk (Kd.R_lower (Kd.R_new' ho0 (Kd.R_lt (by have G0 := HO374; exact z3_))) (below_size b1_)); replace HO374 := Ad.mk (Kd.R_elder' (by have G0 := HO374; exact z3_) (Kd.R_base ho0) hb); replace HB := Ad.mk (below_step b1_ hb); (try clear hb); (try clear hb2); (try clear hk); (try clear hi); (try clear ho0)))
 (try simp only [Act.put, List.setIfInBounds_toArray, List.set_cons_zero, List.set_cons_succ])
 go_cut [32] (fun v32 wc => ∃ (kq : Nat) (x32_2 : Bool), v32 = .bool x32_2 ∧ Ad (w4_known.j0 kq t370 t375 x32_2 = some r) ∧ Ad (kq ≤ k) ∧ Ad (Kd.R k43 43 wc w.heap.size (fun k_ => some k_ ≠ (v378 : Value).ownBlock) v373 t370) ∧ Ad (Kd.R k43 43 wc w.heap.size (fun k_ => some k_ ≠ (v373 : Value).ownBlock) v378 t375) ∧ Ad (Below w.heap.size w wc))
 case first =>
  have H := HC3.out
  clear HC3
  obtain ⟨t380, A6, H⟩ := bi_ H
  obtain ⟨t381, A7, H⟩ := bi_ H
  by_cases c8 : (wrap64 (t380 + t381)) = 0
  ·rw [if_pos c8] at H
   have c8b0 := beq_iff_eq.mpr c8
   have c8b1 := bne_eq_false_iff_eq.mpr c8
   clear c8
   (first | rw [c8b0] | (simp only [i64_w, i32_w]; rw [c8b0]) | skip)
   by_cases c9 : (t370.length : Int) = 7
   ·rw [if_pos c9] at H
    have c9b0 := beq_iff_eq.mpr c9
    have c9b1 := bne_eq_false_iff_eq.mpr c9
    clear c9
    have H' := Ad.mk H
    clear H
    go_wp2_with (first | ((with_reducible refine gate_callee (f := 9) rfl ?_); refine goesL_ (some 18) rfl rfl Tryz.func9 k1_ rfl #[.int .i64 t372] rfl g1_ ?_; (with_reducible refine (w4_num.calls t372 t380 _ A6.out).mono ?_); rintro e w' ⟨rfl, ⟨nd, rfl⟩⟩; refine ⟨_, rfl, ?_⟩) | ((with_reducible refine gate_callee (f := 9) rfl ?_); refine goesL_ (some 20) rfl rfl Tryz.func9 k1_ rfl #[.int .i64 t377] rfl g1_ ?_; (with_reducible refine (w4_num.calls t377 t381 _ A7.out).mono ?_); rintro e w' ⟨rfl, ⟨nd, rfl⟩⟩; refine ⟨_, rfl, ?_⟩; obtain ⟨Ao10, co10, eo10⟩ := Kd.R_slice HO374.out; subst eo10; obtain ⟨Ao11, co11, eo11⟩ := Kd.R_slice HO379.out; subst eo11))
    go_meet
    case rel => exact ⟨_, (((t375.length : Int) != 3)), e1_, H', ⟨z12_⟩, ⟨by have G0 := HO374; exact z57_⟩, ⟨by have G0 := HO379; exact z57_⟩, ⟨b1_⟩⟩
   rw [if_neg c9] at H
   exact absurd H (by simp)
  rw [if_neg c8] at H
  exact absurd H (by simp)
 case rest =>
  clear HC3
  obtain ⟨kq, x32_2, rfl, HA, HJ2, HO_1, HO_4, HB⟩ := hcut
  cases kq with
  | zero => exact absurd HA.out (by simp [w4_known.j0])
  | succ kj2 =>
   have H := HA.out
   clear HA
   simp only [w4_known.j0] at H
   by_cases c12 : x32_2 = true
   ·subst c12
    rw [if_pos rfl] at H
    exact absurd H (by simp)
   replace c12 := Bool.eq_false_iff.mpr c12
   subst c12
   rw [if_neg (show ¬ (false = true) by decide)] at H
   by_cases c13 : 0 < (t370.length : Int)
   ·rw [if_pos c13] at H
    have c13b0 := decide_eq_true c13
    have c13b1 : decide (0 < t370.length) = true := decide_eq_true (by omega)
    clear c13
    by_cases c14 : ((rd_T43 t370 0).f0) = 1
    ·rw [if_pos c14] at H
     have c14b0 := beq_iff_eq.mpr c14
     have c14b1 := bne_eq_false_iff_eq.mpr c14
     clear c14
     by_cases c15 : 1 < (t370.length : Int)
     ·rw [if_pos c15] at H
      have c15b0 := decide_eq_true c15
      have c15b1 : decide (1 < t370.length) = true := decide_eq_true (by omega)
      clear c15
      obtain ⟨t384, A16, H⟩ := bi_ H
      by_cases c17 : t384 = true
      ·subst c17
       rw [if_pos rfl] at H
       by_cases c18 : 2 < (t370.length : Int)
       ·rw [if_pos c18] at H
        have c18b0 := decide_eq_true c18
        have c18b1 : decide (2 < t370.length) = true := decide_eq_true (by omega)
        clear c18
        by_cases c19 : ((rd_T43 t370 2).f1).toList = ([120] : List UInt8)
        ·rw [if_pos c19] at H
         have c19b0 := beq_iff_eq.mpr c19
         have c19b1 := bne_eq_false_iff_eq.mpr c19
         clear c19
         by_cases c20 : 3 < (t370.length : Int)
         ·rw [if_pos c20] at H
          have c20b0 := decide_eq_true c20
          have c20b1 : decide (3 < t370.length) = true := decide_eq_true (by omega)
          clear c20
          obtain ⟨t387, A21, H⟩ := bi_ H
          by_cases c22 : t387 = true
          ·subst c22
           rw [if_pos rfl] at H
           by_cases c23 : 4 < (t370.length : Int)
           ·rw [if_pos c23] at H
            have c23b0 := decide_eq_true c23
            have c23b1 : decide (4 < t370.length) = true := decide_eq_true (by omega)
            clear c23
            by_cases c24 : ((rd_T43 t370 4).f1).toList = ([98] : List UInt8)
            ·rw [if_pos c24] at H
             have c24b0 := beq_iff_eq.mpr c24
             have c24b1 := bne_eq_false_iff_eq.mpr c24
             clear c24
             by_cases c25 : 5 < (t370.length : Int)
             ·rw [if_pos c25] at H
              have c25b0 := decide_eq_true c25
              have c25b1 : decide (5 < t370.length) = true := decide_eq_true (by omega)
              clear c25
              by_cases c26 : ((rd_T43 t370 5).f1).toList = ([101, 110] : List UInt8)
              ·rw [if_pos c26] at H
               have c26b0 := beq_iff_eq.mpr c26
               have c26b1 := bne_eq_false_iff_eq.mpr c26
               clear c26
               by_cases c27 : 6 < (t370.length : Int)
               ·rw [if_pos c27] at H
                have c27b0 := decide_eq_true c27
                have c27b1 : decide (6 < t370.length) = true := decide_eq_true (by omega)
                clear c27
                obtain ⟨t391, A28, H⟩ := bi_ H
                by_cases c29 : t391 = true
                ·subst c29
                 rw [if_pos rfl] at H
                 by_cases c30 : 0 < (t375.length : Int)
                 ·rw [if_pos c30] at H
                  have c30b0 := decide_eq_true c30
                  have c30b1 : decide (0 < t375.length) = true := decide_eq_true (by omega)
                  clear c30
                  by_cases c31 : ((rd_T43 t375 0).f0) = 7
                  ·rw [if_pos c31] at H
                   have c31b0 := beq_iff_eq.mpr c31
                   have c31b1 := bne_eq_false_iff_eq.mpr c31
                   clear c31
                   by_cases c32 : ((rd_T43 t375 0).f1).toList = ([97, 58, 98, 45, 99] : List UInt8)
                   ·rw [if_pos c32] at H
                    have c32b0 := beq_iff_eq.mpr c32
                    have c32b1 := bne_eq_false_iff_eq.mpr c32
                    clear c32
                    by_cases c33 : 1 < (t375.length : Int)
                    ·rw [if_pos c33] at H
                     have c33b0 := decide_eq_true c33
                     have c33b1 : decide (1 < t375.length) = true := decide_eq_true (by omega)
                     clear c33
                     obtain ⟨t395, A34, H⟩ := bi_ H
                     by_cases c35 : t395 = true
                     ·subst c35
                      rw [if_pos rfl] at H
                      by_cases c36 : 2 < (t375.length : Int)
                      ·rw [if_pos c36] at H
                       have c36b0 := decide_eq_true c36
                       have c36b1 : decide (2 < t375.length) = true := decide_eq_true (by omega)
                       clear c36
                       obtain rfl := Option.some.inj H
                       obtain ⟨Ao37, co37, eo37⟩ := Kd.R_slice HO_1.out
                       subst eo37
                       have p382 : 0 ≤ (0 : Int) := (by omega)
                       have q382 : 0 < (t370.length : Int) := of_decide_eq_true a1_
                       obtain ⟨ad382, e382, hx382_0, hx382_1, hx382_2, hx382_3, hx382_4, hx382_5⟩ := at_T43 (Kd.R_reads' HO_1.out).2.2 0 p382 q382
                       cases e382
                       have qi382 : (0 < t370.length) = True := eq_true (by omega)
                       (try simp only [show ((0 : Int)).toNat = 0 from rfl, show 0 * 6 = 0 from rfl, Addr.add_zero'] at hx382_0 hx382_1 hx382_2 hx382_3 hx382_4 hx382_5)
                       replace p382 := eq_true p382
                       replace q382 := eq_true q382
                       have p383 : 0 ≤ (1 : Int) := (by omega)
                       have q383 : 1 < (t370.length : Int) := of_decide_eq_true a1_
                       obtain ⟨ad383, e383, hx383_0, hx383_1, hx383_2, hx383_3, hx383_4, hx383_5⟩ := at_T43 (Kd.R_reads' HO_1.out).2.2 1 p383 q383
                       obtain rfl : ad382 = ad383 := (by injection e383)
                       (try simp only [show (1 : Int).toNat = 1 from rfl, Nat.reduceMul, Nat.reduceEqDiff, Go.Addr.add, ↓reduceIte] at hx383_0 hx383_1 hx383_2 hx383_3 hx383_4 hx383_5)
                       have qi383 : (1 < t370.length) = True := eq_true (by omega)
                       replace p383 := eq_true p383
                       replace q383 := eq_true q383
                       go_wp2_with (first | (go_at_call 10; (with_reducible refine (lex_Mark.calls ((rd_T43 t370 1).f0) ((rd_T43 t370 1).f1) ((rd_T43 t370 1).f2.f0) ((rd_T43 t370 1).f2.f1) ((rd_T43 t370 1).f2.f2) ((rd_T43 t370 1).f3) (⟨#[58, 45]⟩ : ByteArray) true _ A16.out).mono ?_); rintro e w38 ⟨rfl, hb⟩; replace HO_1 := Ad.mk (Kd.R_below (by have G0 := HO_1; exact z3_) hb); replace HO_4 := Ad.mk (Kd.R_below (by have G0 := HO_4; exact z3_) hb); replace HB := Ad.mk (below_step b1_ hb); clear hb; have p385 : 0 ≤ (2 : Int) := (by omega); have q385 : 2 < (t370.length : Int) := of_decide_eq_true a1_; obtain ⟨ad385, e385, hx385_0, hx385_1, hx385_2, hx385_3, hx385_4, hx385_5⟩ := at_T43 (Kd.R_reads' HO_1.out).2.2 2 p385 q385; obtain rfl : ad382 = ad385 := (by injection e385); (try simp only [show (2 : Int).toNat = 2 from rfl, Nat.reduceMul, Nat.reduceEqDiff, Go.Addr.add, ↓reduceIte] at hx385_0 hx385_1 hx385_2 hx385_3 hx385_4 hx385_5); have qi385 : (2 < t370.length) = True := eq_true (by omega); replace p385 := eq_true p385; replace q385 := eq_true q385; have p386 : 0 ≤ (3 : Int) := (by omega); have q386 : 3 < (t370.length : Int) := of_decide_eq_true a1_; obtain ⟨ad386, e386, hx386_0, hx386_1, hx386_2, hx386_3, hx386_4, hx386_5⟩ := at_T43 (Kd.R_reads' HO_1.out).2.2 3 p386 q386; obtain rfl : ad382 = ad386 := (by injection e386); (try simp only [show (3 : Int).toNat = 3 from rfl, Nat.reduceMul, Nat.reduceEqDiff, Go.Addr.add, ↓reduceIte] at hx386_0 hx386_1 hx386_2 hx386_3 hx386_4 hx386_5); have qi386 : (3 < t370.length) = True := eq_true (by omega); replace p386 := eq_true p386; replace q386 := eq_true q386) | (go_at_call 10; (with_reducible refine (lex_Mark.calls ((rd_T43 t370 3).f0) ((rd_T43 t370 3).f1) ((rd_T43 t370 3).f2.f0) ((rd_T43 t370 3).f2.f1) ((rd_T43 t370 3).f2.f2) ((rd_T43 t370 3).f3) (⟨#[33, 61]⟩ : ByteArray) true _ A21.out).mono ?_); rintro e w39 ⟨rfl, hb⟩; replace HO_1 := Ad.mk (Kd.R_below (by have G0 := HO_1; exact z3_) hb); replace HO_4 := Ad.mk (Kd.R_below (by have G0 := HO_4; exact z3_) hb); replace HB := Ad.mk (below_step b1_ hb); clear hb; have p388 : 0 ≤ (4 : Int) := (by omega); have q388 : 4 < (t370.length : Int) := of_decide_eq_true a1_; obtain ⟨ad388, e388, hx388_0, hx388_1, hx388_2, hx388_3, hx388_4, hx388_5⟩ := at_T43 (Kd.R_reads' HO_1.out).2.2 4 p388 q388; obtain rfl : ad382 = ad388 := (by injection e388); (try simp only [show (4 : Int).toNat = 4 from rfl, Nat.reduceMul, Nat.reduceEqDiff, Go.Addr.add, ↓reduceIte] at hx388_0 hx388_1 hx388_2 hx388_3 hx388_4 hx388_5); have qi388 : (4 < t370.length) = True := eq_true (by omega); replace p388 := eq_true p388; replace q388 := eq_true q388; have p389 : 0 ≤ (5 : Int) := (by omega); have q389 : 5 < (t370.length : Int) := of_decide_eq_true a1_; obtain ⟨ad389, e389, hx389_0, hx389_1, hx389_2, hx389_3, hx389_4, hx389_5⟩ := at_T43 (Kd.R_reads' HO_1.out).2.2 5 p389 q389; obtain rfl : ad382 = ad389 := (by injection e389); (try simp only [show (5 : Int).toNat = 5 from rfl, Nat.reduceMul, Nat.reduceEqDiff, Go.Addr.add, ↓reduceIte] at hx389_0 hx389_1 hx389_2 hx389_3 hx389_4 hx389_5); have qi389 : (5 < t370.length) = True := eq_true (by omega); replace p389 := eq_true p389; replace q389 := eq_true q389; have p390 : 0 ≤ (6 : Int) := (by omega); have q390 : 6 < (t370.length : Int) := of_decide_eq_true a1_; obtain ⟨ad390, e390, hx390_0, hx390_1, hx390_2, hx390_3, hx390_4, hx390_5⟩ := at_T43 (Kd.R_reads' HO_1.out).2.2 6 p390 q390; obtain rfl : ad382 = ad390 := (by injection e390); (try simp only [show (6 : Int).toNat = 6 from rfl, Nat.reduceMul, Nat.reduceEqDiff, Go.Addr.add, ↓reduceIte] at hx390_0 hx390_1 hx390_2 hx390_3 hx390_4 hx390_5); have qi390 : (6 < t370.length) = True := eq_true (by omega); replace p390 := eq_true p390; replace q390 := eq_true q390) | (go_at_call 10; (with_reducible refine (lex_Mark.calls ((rd_T43 t370 6).f0) ((rd_T43 t370 6).f1) ((rd_T43 t370 6).f2.f0) ((rd_T43 t370 6).f2.f1) ((rd_T43 t370 6).f2.f2) ((rd_T43 t370 6).f3) (⟨#[46]⟩ : ByteArray) true _ A28.out).mono ?_); rintro e w40 ⟨rfl, hb⟩; replace HO_1 := Ad.mk (Kd.R_below (by have G0 := HO_1; exact z3_) hb); replace HO_4 := Ad.mk (Kd.R_below (by have G0 := HO_4; exact z3_) hb); replace HB := Ad.mk (below_step b1_ hb); clear hb; obtain ⟨Ao41, co41, eo41⟩ := Kd.R_slice HO_4.out; subst eo41; have p392 : 0 ≤ (0 : Int) := (by omega); have q392 : 0 < (t375.length : Int) := of_decide_eq_true a1_; obtain ⟨ad392, e392, hx392_0, hx392_1, hx392_2, hx392_3, hx392_4, hx392_5⟩ := at_T43 (Kd.R_reads' HO_4.out).2.2 0 p392 q392; cases e392; have qi392 : (0 < t375.length) = True := eq_true (by omega); (try simp only [show ((0 : Int)).toNat = 0 from rfl, show 0 * 6 = 0 from rfl, Addr.add_zero'] at hx392_0 hx392_1 hx392_2 hx392_3 hx392_4 hx392_5); replace p392 := eq_true p392; replace q392 := eq_true q392; have p393 : 0 ≤ (0 : Int) := (by omega); have q393 : 0 < (t375.length : Int) := of_decide_eq_true a1_; obtain ⟨ad393, e393, hx393_0, hx393_1, hx393_2, hx393_3, hx393_4, hx393_5⟩ := at_T43 (Kd.R_reads' HO_4.out).2.2 0 p393 q393; obtain rfl : ad392 = ad393 := (by injection e393); have qi393 : (0 < t375.length) = True := eq_true (by omega); (try simp only [show ((0 : Int)).toNat = 0 from rfl, show 0 * 6 = 0 from rfl, Addr.add_zero'] at hx393_0 hx393_1 hx393_2 hx393_3 hx393_4 hx393_5); replace p393 := eq_true p393; replace q393 := eq_true q393; have p394 : 0 ≤ (1 : Int) := (by omega); have q394 : 1 < (t375.length : Int) := of_decide_eq_true a1_; obtain ⟨ad394, e394, hx394_0, hx394_1, hx394_2, hx394_3, hx394_4, hx394_5⟩ := at_T43 (Kd.R_reads' HO_4.out).2.2 1 p394 q394; obtain rfl : ad392 = ad394 := (by injection e394); (try simp only [show (1 : Int).toNat = 1 from rfl, Nat.reduceMul, Nat.reduceEqDiff, Go.Addr.add, ↓reduceIte] at hx394_0 hx394_1 hx394_2 hx394_3 hx394_4 hx394_5); have qi394 : (1 < t375.length) = True := eq_true (by omega); replace p394 := eq_true p394; replace q394 := eq_true q394) | (go_at_call 12; (with_reducible refine (lex_Word.calls ((rd_T43 t375 1).f0) ((rd_T43 t375 1).f1) ((rd_T43 t375 1).f2.f0) ((rd_T43 t375 1).f2.f1) ((rd_T43 t375 1).f2.f2) ((rd_T43 t375 1).f3) (⟨#[65]⟩ : ByteArray) true _ A34.out).mono ?_); rintro e w42 ⟨rfl, hb⟩; replace HO_1 := Ad.mk (Kd.R_below (by have G0 := HO_1; exact z3_) hb); replace HO_4 := Ad.mk (Kd.R_below (by have G0 := HO_4; exact z3_) hb); replace HB := Ad.mk (below_step b1_ hb); clear hb; have p396 : 0 ≤ (2 : Int) := (by omega); have q396 : 2 < (t375.length : Int) := of_decide_eq_true a1_; obtain ⟨ad396, e396, hx396_0, hx396_1, hx396_2, hx396_3, hx396_4, hx396_5⟩ := at_T43 (Kd.R_reads' HO_4.out).2.2 2 p396 q396; obtain rfl : ad392 = ad396 := (by injection e396); (try simp only [show (2 : Int).toNat = 2 from rfl, Nat.reduceMul, Nat.reduceEqDiff, Go.Addr.add, ↓reduceIte] at hx396_0 hx396_1 hx396_2 hx396_3 hx396_4 hx396_5); have qi396 : (2 < t375.length) = True := eq_true (by omega); replace p396 := eq_true p396; replace q396 := eq_true q396))
                       go_ret
                       exact ⟨e2_, b1_⟩
                      rw [if_neg c36] at H
                      exact absurd H (by simp)
                     replace c35 := Bool.eq_false_iff.mpr c35
                     subst c35
                     rw [if_neg (show ¬ (false = true) by decide)] at H
                     exact absurd H (by simp)
                    rw [if_neg c33] at H
                    exact absurd H (by simp)
                   rw [if_neg c32] at H
                   exact absurd H (by simp)
                  rw [if_neg c31] at H
                  exact absurd H (by simp)
                 rw [if_neg c30] at H
                 exact absurd H (by simp)
                replace c29 := Bool.eq_false_iff.mpr c29
                subst c29
                rw [if_neg (show ¬ (false = true) by decide)] at H
                exact absurd H (by simp)
               rw [if_neg c27] at H
               exact absurd H (by simp)
              rw [if_neg c26] at H
              exact absurd H (by simp)
             rw [if_neg c25] at H
             exact absurd H (by simp)
            rw [if_neg c24] at H
            exact absurd H (by simp)
           rw [if_neg c23] at H
           exact absurd H (by simp)
          replace c22 := Bool.eq_false_iff.mpr c22
          subst c22
          rw [if_neg (show ¬ (false = true) by decide)] at H
          exact absurd H (by simp)
         rw [if_neg c20] at H
         exact absurd H (by simp)
        rw [if_neg c19] at H
        exact absurd H (by simp)
       rw [if_neg c18] at H
       exact absurd H (by simp)
      replace c17 := Bool.eq_false_iff.mpr c17
      subst c17
      rw [if_neg (show ¬ (false = true) by decide)] at H
      exact absurd H (by simp)
     rw [if_neg c15] at H
     exact absurd H (by simp)
    rw [if_neg c14] at H
    exact absurd H (by simp)
   rw [if_neg c13] at H
   exact absurd H (by simp)
def oneByteX (s : ByteArray) : Option UInt8 := match s with | ⟨⟨[c]⟩⟩ => some c | _ => none
theorem oneByteX_eq {s : ByteArray} {c : UInt8} (h : oneByteX s = some c) : s = ⟨#[c]⟩ := by
 unfold oneByteX at h
 split at h
 ·cases h; rfl
 cases h
def stringslite_Index.f (a0 a1 : ByteArray) : Option Int := (oneByteX a1).map fun c => Lib.indexByte a0.data.toList c
theorem stringslite_Index.calls (a0 a1 : ByteArray) (r : Int) (w : World) (h : stringslite_Index.f a0 a1 = some r) :
  Calls Tryz.prog 77 #[.string a0, .string a1] w fun e w' => e = .returned (.int .i64 r) ∧ Drawn0 w w' := by
 obtain ⟨c, hc, rfl⟩ := Option.map_eq_some_iff.mp h
 rw [oneByteX_eq hc]
 exact (Tryz.stringslite_Index_one a0 c w).mono fun e w' ⟨he, hw⟩ => ⟨he, by rw [hw]; exact Drawn0.refl w⟩
def stringslite_Cut.f (a0 : ByteArray) (a1 : ByteArray) : Option (ByteArray × ByteArray × Bool) := (stringslite_Index.f a0 a1).bind fun t397 => (if t397 ≥ 0 then (if 0 ≤ t397 then (if t397 ≤ (a0.size : Int) then (if 0 ≤ (wrap64 (t397 + (a1.size : Int))) then (if (wrap64 (t397 + (a1.size : Int))) ≤ (a0.size : Int) then (some (a0.extract 0 (t397 : Int).toNat, a0.extract ((wrap64 (t397 + (a1.size : Int))) : Int).toNat a0.size, true)) else (none)) else (none)) else (none)) else (none)) else (some (a0, (⟨#[]⟩ : ByteArray), false)))
theorem stringslite_Cut.calls (a0 : ByteArray) (a1 : ByteArray) (r1 : ByteArray) (r2 : ByteArray) (r3 : Bool) (w : World) (h : stringslite_Cut.f a0 a1 = some (r1, r2, r3)) :
  Calls Tryz.prog 49 #[.string a0, .string a1] w fun e w' => e = .returned (.tuple #[.string r1, .string r2, .bool r3]) ∧ Drawn0 w w' := by
 have H := h
 clear h
 unfold stringslite_Cut.f at H
 obtain ⟨t397, A3, H⟩ := bi_ H
 by_cases c4 : t397 ≥ 0
 ·rw [if_pos c4] at H
  have c4b0 : decide (0 ≤ t397) = true := decide_eq_true c4
  clear c4
  by_cases c5 : 0 ≤ t397
  ·rw [if_pos c5] at H
   have c5b0 := eq_true c5
   have c5b1 := decide_eq_true c5
   clear c5
   by_cases c6 : t397 ≤ (a0.size : Int)
   ·rw [if_pos c6] at H
    have c6b0 := eq_true c6
    have c6b1 := decide_eq_true c6
    clear c6
    obtain ⟨ji7, hji7⟩ : ∃ j_ : Int, (wrap64 (t397 + (a1.size : Int))) = j_ := ⟨_, rfl⟩
    replace H : (if 0 ≤ (ji7) then (if (ji7) ≤ (a0.size : Int) then (some (a0.extract 0 (t397 : Int).toNat, a0.extract ((ji7) : Int).toNat a0.size, true)) else (none)) else (none)) = some (r1, r2, r3) := by first | (rw [hji7] at H; exact H) | (simp only [hji7] at H ⊢; exact H)
    (try rw [hji7] at A3)
    have hji7w : (IntKind.i64.wrap (t397 + (a1.size : Int))) = ji7 := (i64_w _).trans hji7
    by_cases c8 : 0 ≤ (ji7)
    ·rw [if_pos c8] at H
     have c8b0 := eq_true c8
     have c8b1 := decide_eq_true c8
     clear c8
     by_cases c9 : (ji7) ≤ (a0.size : Int)
     ·rw [if_pos c9] at H
      have c9b0 := eq_true c9
      have c9b1 := decide_eq_true c9
      clear c9
      simp only [Option.some.injEq, Prod.mk.injEq] at H
      obtain ⟨rfl, rfl, rfl⟩ := H
      go_enter Tryz.func49, Tryz.ntmps49
      go_wp2_with (first | (go_at_call 77; (with_reducible refine (stringslite_Index.calls a0 a1 t397 _ A3.out).mono ?_); rintro e w' ⟨rfl, ⟨nd, rfl⟩⟩; (try first | exact ⟨rfl, _, World.drewN_drewN _ _ _⟩ | exact ⟨rfl, _, Eq.trans (World.drewN_drewN _ _ _) (congrArg (World.drewN _) (Nat.add_assoc _ _ _))⟩)))
      repeat (go_quiet (first | (go_at_call 77; (with_reducible refine (stringslite_Index.calls a0 a1 t397 _ A3.out).mono ?_); rintro e w' ⟨rfl, ⟨nd, rfl⟩⟩; (try first | exact ⟨rfl, _, World.drewN_drewN _ _ _⟩ | exact ⟨rfl, _, Eq.trans (World.drewN_drewN _ _ _) (congrArg (World.drewN _) (Nat.add_assoc _ _ _))⟩))); try go_wp2_with (first | (go_at_call 77; (with_reducible refine (stringslite_Index.calls a0 a1 t397 _ A3.out).mono ?_); rintro e w' ⟨rfl, ⟨nd, rfl⟩⟩; (try first | exact ⟨rfl, _, World.drewN_drewN _ _ _⟩ | exact ⟨rfl, _, Eq.trans (World.drewN_drewN _ _ _) (congrArg (World.drewN _) (Nat.add_assoc _ _ _))⟩))))
      go_ret3
      exact ⟨by first | rfl | (simp; done) | (simp only [← hji7] <;> (first | rfl | simp)) | (simp [*]; done), z1_⟩
     rw [if_neg c9] at H
     exact absurd H (by simp)
    rw [if_neg c8] at H
    exact absurd H (by simp)
   rw [if_neg c6] at H
   exact absurd H (by simp)
  rw [if_neg c5] at H
  exact absurd H (by simp)
 rw [if_neg c4] at H
 have c4b0 : decide (0 ≤ t397) = false := decide_eq_false c4
 clear c4
 simp only [Option.some.injEq, Prod.mk.injEq] at H
 obtain ⟨rfl, rfl, rfl⟩ := H
 go_enter Tryz.func49, Tryz.ntmps49
 go_wp2_with (first | (go_at_call 77; (with_reducible refine (stringslite_Index.calls a0 a1 t397 _ A3.out).mono ?_); rintro e w' ⟨rfl, ⟨nd, rfl⟩⟩; (try first | exact ⟨rfl, _, World.drewN_drewN _ _ _⟩ | exact ⟨rfl, _, Eq.trans (World.drewN_drewN _ _ _) (congrArg (World.drewN _) (Nat.add_assoc _ _ _))⟩)))
 repeat (go_quiet (first | (go_at_call 77; (with_reducible refine (stringslite_Index.calls a0 a1 t397 _ A3.out).mono ?_); rintro e w' ⟨rfl, ⟨nd, rfl⟩⟩; (try first | exact ⟨rfl, _, World.drewN_drewN _ _ _⟩ | exact ⟨rfl, _, Eq.trans (World.drewN_drewN _ _ _) (congrArg (World.drewN _) (Nat.add_assoc _ _ _))⟩))); try go_wp2_with (first | (go_at_call 77; (with_reducible refine (stringslite_Index.calls a0 a1 t397 _ A3.out).mono ?_); rintro e w' ⟨rfl, ⟨nd, rfl⟩⟩; (try first | exact ⟨rfl, _, World.drewN_drewN _ _ _⟩ | exact ⟨rfl, _, Eq.trans (World.drewN_drewN _ _ _) (congrArg (World.drewN _) (Nat.add_assoc _ _ _))⟩))))
 go_ret3
 exact ⟨e1_, z1_⟩
def strings_Cut.f (a0 : ByteArray) (a1 : ByteArray) : Option (ByteArray × ByteArray × Bool) := (stringslite_Cut.f a0 a1).bind fun bt398 => (some (bt398.1, bt398.2.1, bt398.2.2))
theorem strings_Cut.calls (a0 : ByteArray) (a1 : ByteArray) (r1 : ByteArray) (r2 : ByteArray) (r3 : Bool) (w : World) (h : strings_Cut.f a0 a1 = some (r1, r2, r3)) :
  Calls Tryz.prog 33 #[.string a0, .string a1] w fun e w' => e = .returned (.tuple #[.string r1, .string r2, .bool r3]) ∧ Drawn0 w w' := by
 have H := h
 clear h
 unfold strings_Cut.f at H
 obtain ⟨⟨t398, t399, t400⟩, A3, H⟩ := bi_ H
 try dsimp only at H
 simp only [Option.some.injEq, Prod.mk.injEq] at H
 obtain ⟨rfl, rfl, rfl⟩ := H
 go_enter Tryz.func33, Tryz.ntmps33
 go_wp2_with (first | ((with_reducible refine gate_callee (f := 49) rfl ?_); refine goesL_ (some 9) rfl rfl Tryz.func49 k1_ rfl #[.string a0, .string a1] rfl g1_ ?_; (with_reducible refine (stringslite_Cut.calls a0 a1 t398 t399 t400 _ A3.out).mono ?_); rintro e w' ⟨rfl, ⟨nd, rfl⟩⟩; refine ⟨_, rfl, ?_⟩))
 go_ret3
 exact ⟨e1_, z1_⟩
def MapSS (w : World) (mv : Value) (M : List (ByteArray × ByteArray)) : Prop := (mv = .map none ∧ M = []) ∨ ∃ b c es, mv = .map (some b) ∧ w.heap[b]? = some (.map es c) ∧ es.toList.map (fun e => (e.key, e.val)) = M.map (fun p => (Value.string p.1, Value.string p.2))
def lookM : List (ByteArray × ByteArray) → ByteArray → Option ByteArray
 | [], _ => none
 | p :: M, k => if k == p.1 then some p.2 else lookM M k
theorem MapSS.nil (w : World) : MapSS w (.map none) [] := .inl ⟨rfl, rfl⟩
theorem MapSS.below {w w' : World} {mv : Value} {M : List (ByteArray × ByteArray)} (h : MapSS w mv M) (hb : Below w.heap.size w w') : MapSS w' mv M := by
 rcases h with h | ⟨b, c, es, h1, h2, h3⟩
 ·exact .inl h
 exact .inr ⟨b, c, es, h1, (hb.block b (blk_lt h2)).trans h2, h3⟩
theorem findM (k : ByteArray) : ∀ (es : List MapEntry) (M : List (ByteArray × ByteArray)) (i : Nat), es.map (fun e => (e.key, e.val)) = M.map (fun p => (Value.string p.1, Value.string p.2)) → match lookM M k with | none => Instr.findNow .string (.string k) es i = some none | some v => ∃ j, Instr.findNow .string (.string k) es i = some (some (j, .string v))
 | [], [], _, _ => by simp [lookM, Instr.findNow]
 | e :: es, [], _, h => by simp at h
 | [], p :: M, _, h => by simp at h
 | e :: es, p :: M, i, h => by
  simp only [List.map_cons, List.cons.injEq, Prod.mk.injEq] at h
  obtain ⟨⟨h1, h2⟩, h3⟩ := h
  have ih := findM k es M (i + 1) h3
  unfold lookM
  simp only [Instr.findNow, Instr.sameNow, h1, h2]
  by_cases c : k == p.1
  ·rw [if_pos c, c]; exact ⟨i, rfl⟩
  rw [if_neg c]
  have c' : (k == p.1) = false := by simpa using c
  rw [c']; exact ih
theorem MapSS.look {w : World} {mv : Value} {M : List (ByteArray × ByteArray)} (h : MapSS w mv M) (k : ByteArray) : Sem.run Tryz.prog (Instr.lookup 35 mv (.string k) true) w = .ok (.tuple #[.string ((lookM M k).getD (⟨#[]⟩ : ByteArray)), .bool (lookM M k).isSome]) w := by
 have hck : ∀ e, (Instr.checkKey e 10000 9 (.string k)).run Tryz.prog w = .ok () w := fun e => Go.MapKept.run_checkKey Tryz.underlying9 z32_ e 9999
 rcases h with ⟨rfl, rfl⟩ | ⟨b, c, es, rfl, h2, h3⟩
 ·have hf : Sem.run Tryz.prog (Instr.findKey 9 (.string k) []) w = .ok none w := Go.MapKept.run_findKey Tryz.underlying9 rfl
  simp [Instr.lookup, run_underlying Tryz.underlying35, go_sem, hck, hf, Tryz.zeroValue9, lookM]
 have hz := findM k es.toList M 0 h3
 cases hl : lookM M k with
 | none =>
  rw [hl] at hz
  have hf : Sem.run Tryz.prog (Instr.findKey 9 (.string k) es.toList) w = .ok none w := Go.MapKept.run_findKey Tryz.underlying9 hz
  simp only [Instr.lookup, Sem.run_bind, run_underlying Tryz.underlying35, Result.andThen_ok]
  rw [Go.MapKept.run_getObj_map h2]
  simp [hck, hf, Tryz.zeroValue9]
 | some v =>
  rw [hl] at hz
  obtain ⟨j, hz⟩ := hz
  have hf : Sem.run Tryz.prog (Instr.findKey 9 (.string k) es.toList) w = .ok (some (j, .string v)) w := Go.MapKept.run_findKey Tryz.underlying9 hz
  simp only [Instr.lookup, Sem.run_bind, run_underlying Tryz.underlying35, Result.andThen_ok]
  rw [Go.MapKept.run_getObj_map h2]
  simp [hck, hf]
def lex_resource.f (k : Nat) (a0_0 : Int) (a0_1 : ByteArray) (a0_2 : Int) (a0_3 : ByteArray) (a0_4 : ByteArray) (a0_5 : Int) (M : List (ByteArray × ByteArray)) : Option (Int × ByteArray × ByteArray × Bool) := if a0_0 = 1 then some (a0_2, a0_3, a0_4, true) else (strings_Cut.f a0_1 (⟨#[58]⟩ : ByteArray)).bind fun b => if ((lookM M b.1).getD (⟨#[]⟩ : ByteArray)).size + b.2.1.size ≤ 9223372036854775807 then (if a0_0 = 7 ∧ (lookM M b.1).isSome = true then (term_May.f k 1 ((lookM M b.1).getD (⟨#[]⟩ : ByteArray) ++ b.2.1) (⟨#[]⟩ : ByteArray)).bind fun m => some (1, (lookM M b.1).getD (⟨#[]⟩ : ByteArray) ++ b.2.1, (⟨#[]⟩ : ByteArray), m) else some (1, (lookM M b.1).getD (⟨#[]⟩ : ByteArray) ++ b.2.1, (⟨#[]⟩ : ByteArray), false)) else none
structure RX (w W : World) (g gr : Nat) (cs rs : Array Value) : Prop where
 below : Below w.heap.size w W
 x : W.heap[g]? = some (.cells cs 43 (0, 0))
 r : W.heap[gr]? = some (.cells rs 31 (0, 0))
 gw : w.heap.size ≤ g
 rw' : w.heap.size ≤ gr
 gg : gr ≠ g
theorem RX.lower {w W W' : World} {g gr : Nat} {cs rs : Array Value} (h : RX w W g gr cs rs) (hb : Below W.heap.size W W') : RX w W' g gr cs rs :=
 ⟨below_then h.below h.below.size hb, blk_below h.x hb, blk_below h.r hb, h.gw, h.rw', h.gg⟩
theorem RX.upr {w W W' : World} {g gr : Nat} {cs rs rs' : Array Value} (h : RX w W g gr cs rs) (hu : Upd W W' gr) (hn : W'.heap[gr]? = some (.cells rs' 31 (0, 0))) : RX w W' g gr cs rs' :=
 ⟨h.below.trans (hu.below h.rw'), (hu.other g (Ne.symm h.gg)).trans h.x, hn, h.gw, h.rw', h.gg⟩
theorem RX.far {w W W' : World} {g gr gt : Nat} {cs rs : Array Value} (h : RX w W g gr cs rs) (hu : Upd W W' gt) (ht : w.heap.size ≤ gt) (h1 : gt ≠ g) (h2 : gt ≠ gr) : RX w W' g gr cs rs :=
 ⟨h.below.trans (hu.below ht), (hu.other g (Ne.symm h1)).trans h.x, (hu.other gr (Ne.symm h2)).trans h.r, h.gw, h.rw', h.gg⟩
def lex_resource.T6 : Bool × List (List Nat × List Nat) := (true, [([], []), ([], []), ([1], [1]), ([2], [2]), ([3], [3]), ([4], [4]), ([4, 5], [4, 5]), ([6, 4], [6]), ([7], [7]), ([8, 7, 7], [7, 8]), ([7, 9], [7, 9]), ([0, 9, 0], [0]), ([10, 11, 0, 1, 2, 3, 4, 5, 6, 7, 8, 9, 10, 11], [10])])
def lex_resource.B6 : List Nat := [0, 0, 2, 6, 14, 30, 62, 126, 254, 510, 1022, 1023, 4095]
theorem lex_resource.tab6 : rtab .any (opsOf Tryz.f18 6) = lex_resource.T6 := by kernel_rfl
theorem lex_resource.bits6 : waitsOk lex_resource.T6.2 lex_resource.B6 = true := by kernel_rfl
set_option maxHeartbeats 4000000 in
set_option maxRecDepth 100000 in
theorem lex_resource.calls (k : Nat) (a0_0 : Int) (a0_1 : ByteArray) (a0_2 : Int) (a0_3 : ByteArray) (a0_4 : ByteArray) (a0_5 : Int) (mv : Value) (M : List (ByteArray × ByteArray)) (r1 : Int) (r2 r3 : ByteArray) (r4 : Bool) (w : World) (hm : MapSS w mv M) (h : lex_resource.f k a0_0 a0_1 a0_2 a0_3 a0_4 a0_5 M = some (r1, r2, r3, r4)) :
  Calls Tryz.prog 18 #[.agg #[.int .i64 a0_0, .string a0_1, .int .i64 a0_2, .string a0_3, .string a0_4, .int .i64 a0_5], mv] w fun e w' => e = .returned (.tuple #[.agg #[.int .i64 r1, .string r2, .string r3], .bool r4]) ∧ Below w.heap.size w w' := by
 have HM := Ad.mk hm
 clear hm
 unfold lex_resource.f at h
 by_cases c1 : a0_0 = 1
 ·rw [if_pos c1] at h
  subst c1
  simp only [Option.some.injEq, Prod.mk.injEq] at h
  obtain ⟨rfl, rfl, rfl, rfl⟩ := h
  go_enter Tryz.func18, Tryz.ntmps18
  go_wp2_with (first | ((with_reducible refine gate_dst (N := 2) rfl ?_); refine box_event r1_ (N := 2) r1_ (cs := #[.int .i64 1, .string a0_1, .int .i64 a0_2, .string a0_3, .string a0_4, .int .i64 a0_5]) (t := 43) r2_ ?_; intro g hg w1 hx hb1; have HX0 := Ad.mk (show Below w.heap.size w w1 ∧ w1.heap[g]? = some (.cells #[.int .i64 1, .string a0_1, .int .i64 a0_2, .string a0_3, .string a0_4, .int .i64 a0_5] 43 (0, 0)) ∧ g = w.heap.size from ⟨hb1, hx, hg⟩); clear hg hx hb1) | ((with_reducible refine gate_dst (N := 4) rfl ?_); refine box_event r1_ (N := 4) r1_ (cs := #[.int .i64 0, .string ⟨#[]⟩, .string ⟨#[]⟩]) (t := 31) r2_ ?_; intro gr hr w2 hy hb2; have HX := Ad.mk (RX.mk (below_then HX0.out.1 HX0.out.1.size hb2) (blk_below HX0.out.2.1 hb2) hy (Nat.le_of_eq HX0.out.2.2.symm) (by rw [hr]; exact HX0.out.1.size) (by rw [hr]; exact Ne.symm (Nat.ne_of_lt (blk_lt HX0.out.2.1)))); have hx0 := (blk_cell HX.out.x 0).trans (show _ = some (.int .i64 1) from rfl); have hx1 := (blk_cell HX.out.x 1).trans (show _ = some (.string a0_1) from rfl); have hx2 := (blk_cell HX.out.x 2).trans (show _ = some (.int .i64 a0_2) from rfl); have hx3 := (blk_cell HX.out.x 3).trans (show _ = some (.string a0_3) from rfl); have hx4 := (blk_cell HX.out.x 4).trans (show _ = some (.string a0_4) from rfl); have hx5 := (blk_cell HX.out.x 5).trans (show _ = some (.int .i64 a0_5) from rfl); clear hr hy hb2 HX0) | ((with_reducible refine gate_store (t := 31) (p := 4) rfl ?_); refine store_seg (gy := gr) (j := 0) (T := 31) (TB := 31) (cs := #[.int .i64 0, .string ⟨#[]⟩, .string ⟨#[]⟩]) (new := #[.int .i64 a0_2, .string a0_3, .string a0_4]) (u := .agg #[.int .i64 a0_2, .string a0_3, .string a0_4]) (seg := [.int .i64 a0_2, .string a0_3, .string a0_4]) rfl (p := .tmp 4) (x := .tmp 16) rfl rfl r1_ r1_ r1_ HX.out.r k1_ s1_ h1_ rfl ?_; intro w3 hz hup; have HY := Ad.mk (HX.out.upr hup hz); clear HX hz hup))
  refine bodyPost_ret (by have hq0 := (blk_cell HY.out.r 0).trans (show _ = some (.int .i64 a0_2) from rfl); have hq1 := (blk_cell HY.out.r 1).trans (show _ = some (.string a0_3) from rfl); have hq2 := (blk_cell HY.out.r 2).trans (show _ = some (.string a0_4) from rfl); simp [results, Tryz.results18, go_sem, hq0, hq1, hq2]; rfl) rfl ?_
  exact ⟨rfl, HY.out.below⟩
 rw [if_neg c1] at h
 obtain ⟨⟨b1, b2, b3⟩, A0, H⟩ := Option.bind_eq_some_iff.mp h
 have AC := Ad.mk A0
 clear h A0
 simp only at H
 have HLK := Ad.mk (fun (W : World) (hb : Below w.heap.size w W) => (HM.out.below hb).look b1)
 obtain ⟨bg, hbg⟩ : ∃ x, x = (lookM M b1).getD (⟨#[]⟩ : ByteArray) := ⟨_, rfl⟩
 obtain ⟨ib, hib⟩ : ∃ x, x = (lookM M b1).isSome := ⟨_, rfl⟩
 rw [← hbg, ← hib] at H HLK
 clear hbg hib
 by_cases c2 : bg.size + b2.size ≤ 9223372036854775807
 case neg => rw [if_neg c2] at H; cases H
 rw [if_pos c2] at H
 have hb3 : (9223372036854775807 < bg.size + b2.size) = False := eq_false (by omega)
 have hb4 : (9223372036854775807 < (bg ++ b2).size) = False := eq_false (by rw [ByteArray.size_append]; omega)
 have c1b : (a0_0 == 1) = false := by simpa using c1
 have HH := Ad.mk H
 clear H c1 c2
 go_enter Tryz.func18, Tryz.ntmps18
 go_wp2_with (first | ((with_reducible refine gate_dst (N := 2) rfl ?_); refine box_event r1_ (N := 2) r1_ (cs := #[.int .i64 a0_0, .string a0_1, .int .i64 a0_2, .string a0_3, .string a0_4, .int .i64 a0_5]) (t := 43) r2_ ?_; intro g hg w1 hx hb1; have HX0 := Ad.mk (show Below w.heap.size w w1 ∧ w1.heap[g]? = some (.cells #[.int .i64 a0_0, .string a0_1, .int .i64 a0_2, .string a0_3, .string a0_4, .int .i64 a0_5] 43 (0, 0)) ∧ g = w.heap.size from ⟨hb1, hx, hg⟩); clear hg hx hb1) | ((with_reducible refine gate_dst (N := 4) rfl ?_); refine box_event r1_ (N := 4) r1_ (cs := #[.int .i64 0, .string ⟨#[]⟩, .string ⟨#[]⟩]) (t := 31) r2_ ?_; intro gr hr w2 hy hb2; have HX := Ad.mk (RX.mk (below_then HX0.out.1 HX0.out.1.size hb2) (blk_below HX0.out.2.1 hb2) hy (Nat.le_of_eq HX0.out.2.2.symm) (by rw [hr]; exact HX0.out.1.size) (by rw [hr]; exact Ne.symm (Nat.ne_of_lt (blk_lt HX0.out.2.1)))); have hx0 := (blk_cell HX.out.x 0).trans (show _ = some (.int .i64 a0_0) from rfl); have hx1 := (blk_cell HX.out.x 1).trans (show _ = some (.string a0_1) from rfl); have hx2 := (blk_cell HX.out.x 2).trans (show _ = some (.int .i64 a0_2) from rfl); have hx3 := (blk_cell HX.out.x 3).trans (show _ = some (.string a0_3) from rfl); have hx4 := (blk_cell HX.out.x 4).trans (show _ = some (.string a0_4) from rfl); have hx5 := (blk_cell HX.out.x 5).trans (show _ = some (.int .i64 a0_5) from rfl); clear hr hy hb2 HX0) | (go_at_call 33; refine (strings_Cut.calls a0_1 (⟨#[58]⟩ : ByteArray) b1 b2 b3 _ AC.out).mono ?_; rintro e w3 ⟨rfl, ⟨nd, rfl⟩⟩; have hlk := HLK.out _ (pw_below_drewN HX.out.below nd)) | ((with_reducible refine gate_dst (N := 11) rfl ?_); refine box_event r1_ (N := 11) r1_ (cs := #[.int .i64 0, .string ⟨#[]⟩, .string ⟨#[]⟩]) (t := 31) r2_ ?_; intro gt ht w4 hy hb; have HX2 := Ad.mk (show RX w w4 g gr #[.int .i64 a0_0, .string a0_1, .int .i64 a0_2, .string a0_3, .string a0_4, .int .i64 a0_5] #[.int .i64 0, .string ⟨#[]⟩, .string ⟨#[]⟩] ∧ w4.heap[gt]? = some (.cells #[.int .i64 0, .string ⟨#[]⟩, .string ⟨#[]⟩] 31 (0, 0)) ∧ w.heap.size ≤ gt ∧ gt ≠ g ∧ gt ≠ gr from ⟨(HX.out.lower (pw_below_drewN (Below.refl _ _) nd)).lower hb, hy, by rw [ht]; exact HX.out.below.size, by rw [ht]; exact Ne.symm (Nat.ne_of_lt (blk_lt HX.out.x)), by rw [ht]; exact Ne.symm (Nat.ne_of_lt (blk_lt HX.out.r))⟩); clear ht hy hb) | ((with_reducible refine gate_store (t := 31) (p := 11) rfl ?_); refine store_seg (gy := gt) (j := 0) (T := 31) (TB := 31) (cs := #[.int .i64 0, .string ⟨#[]⟩, .string ⟨#[]⟩]) (new := #[.int .i64 1, .string (bg ++ b2), .string ⟨#[]⟩]) (u := .agg #[.int .i64 1, .string (bg ++ b2), .string ⟨#[]⟩]) (seg := [.int .i64 1, .string (bg ++ b2), .string ⟨#[]⟩]) rfl (p := .tmp 11) (x := .tmp 33) rfl rfl r1_ r1_ r1_ HX2.out.2.1 k1_ s1_ h1_ rfl ?_; intro w5 hz hup; have HX3 := Ad.mk (show RX w w5 g gr #[.int .i64 a0_0, .string a0_1, .int .i64 a0_2, .string a0_3, .string a0_4, .int .i64 a0_5] #[.int .i64 0, .string ⟨#[]⟩, .string ⟨#[]⟩] ∧ w5.heap[gt]? = some (.cells #[.int .i64 1, .string (bg ++ b2), .string ⟨#[]⟩] 31 (0, 0)) ∧ w.heap.size ≤ gt from ⟨HX2.out.1.far hup HX2.out.2.2.1 HX2.out.2.2.2.1 HX2.out.2.2.2.2, hz, HX2.out.2.2.1⟩); clear hz hup))
 have hg0 := (blk_cell HX3.out.1.x 0).trans (show _ = some (.int .i64 a0_0) from rfl)
 have ht0 := (blk_cell HX3.out.2.1 0).trans (show _ = some (.int .i64 1) from rfl)
 have ht1 := (blk_cell HX3.out.2.1 1).trans (show _ = some (.string (bg ++ b2)) from rfl)
 have ht2 := (blk_cell HX3.out.2.1 2).trans (show _ = some (.string ⟨#[]⟩) from rfl)
 have hr0 := (blk_cell HX3.out.1.r 0).trans (show _ = some (.int .i64 0) from rfl)
 have hr1 := (blk_cell HX3.out.1.r 1).trans (show _ = some (.string ⟨#[]⟩) from rfl)
 have hr2 := (blk_cell HX3.out.1.r 2).trans (show _ = some (.string ⟨#[]⟩) from rfl)
 have hf0 := blk_frozen HX3.out.1.r 0
 have hf1 := blk_frozen HX3.out.1.r 1
 have hf2 := blk_frozen HX3.out.1.r 2
 have hn := HX3.out.1.gg
 have hn2 := HX2.out.2.2.2.2
 have hn3 := HX2.out.2.2.2.1
 have hn4 := Ne.symm hn
 have hn5 := Ne.symm hn2
 clear HX HX2 AC HLK hlk hx0 hx1 hx2 hx3 hx4 hx5 hb3 hb4 HM
 have H := HH.out
 clear HH
 by_cases c7 : a0_0 = 7
 case neg =>
  rw [if_neg (fun hc => c7 hc.1)] at H
  simp only [Option.some.injEq, Prod.mk.injEq] at H
  obtain ⟨rfl, rfl, rfl, rfl⟩ := H
  have c7b : (a0_0 == 7) = false := beq_eq_false_iff_ne.mpr c7
  have HX5 := Ad.mk (HX3.out.1.lower (below_drew (Below.refl _ _)))
  refine start_ (n := 13) (S := fun w' => w'.cell? ⟨gt, 0, none⟩ = some (.int .i64 1) ∧ w'.cell? ⟨gt, 1, none⟩ = some (.string (bg ++ b2)) ∧ w'.cell? ⟨gt, 2, none⟩ = some (.string ⟨#[]⟩) ∧ w'.cell? ⟨g, 0, none⟩ = some (.int .i64 a0_0)) (ds := []) #[false, false, false, false, false, false, false, false, false, false, false, false, false] k1_ rfl rfl ⟨ht0, ht1, ht2, hg0⟩ (fun hHeld => ?_)
  refine with_tabW lex_resource.tab6 lex_resource.bits6 (fun HT_ HW_ => ?_)
  clear hg0 ht0 ht1 ht2 hr0 hr1 hr2 hf0 hf1 hf2 HX3
  generalize w5.drew = w6 at HX5 hHeld ⊢
  refine pure_ (i := 1) (N := some 35) #[false, true, false, false, false, false, false, false, false, false, false, false, false] rfl rfl (any_of HT_.out k1_) (fun _ _ _ h => h) (Or.inl ⟨by rfl, py_⟩) pa_ ?_
  refine take_ (i := 0) (N := some 34) (v := ?_) (a' := ?_) #[true, true, false, false, false, false, false, false, false, false, false, false, false] rfl rfl (take_ofW HT_.out HW_.out k1_) (fun _ _ _ h => h) (Or.inl ⟨by rfl, ?_⟩) hHeld ?_ ?_
  rotate_left
  ·rintro w' ⟨s0, s1, s2, s3⟩
   go_simp
   with_reducible rfl
  rotate_left
  ·simp only [Act.put, List.setIfInBounds_toArray, List.set_cons_zero, List.set_cons_succ, i64_w, i32_w]
   rfl
  refine take_ (i := 2) (N := some 36) (v := ?_) (a' := ?_) #[true, true, true, false, false, false, false, false, false, false, false, false, false] rfl rfl (take_ofW HT_.out HW_.out k1_) (fun _ _ _ h => h) (Or.inl ⟨by rfl, ?_⟩) hHeld ?_ ?_
  rotate_left
  ·rintro w' ⟨s0, s1, s2, s3⟩
   go_simp
   with_reducible rfl
  rotate_left
  ·simp only [Act.put, List.setIfInBounds_toArray, List.set_cons_zero, List.set_cons_succ, i64_w, i32_w]
   rfl
  refine pure_ (i := 3) (N := some 37) #[true, true, true, true, false, false, false, false, false, false, false, false, false] rfl rfl (any_of HT_.out k1_) (fun _ _ _ h => h) (Or.inl ⟨by rfl, py_⟩) pa_ ?_
  refine pure_ (i := 4) (N := some 38) #[true, true, true, true, true, false, false, false, false, false, false, false, false] rfl rfl (any_of HT_.out k1_) (fun _ _ _ h => h) (Or.inl ⟨by rfl, py_⟩) pa_ ?_
  refine pure_ (i := 5) (N := some 39) (v := undef) (a' := ?_) #[true, true, true, true, true, true, false, false, false, false, false, false, false] rfl rfl (any_of HT_.out k1_) (fun _ _ _ h => h) (Or.inr ⟨by rfl, rfl⟩) ?_ ?_
  rotate_left
  ·simp only [Act.put, List.setIfInBounds_toArray, List.set_cons_zero, List.set_cons_succ, i64_w, i32_w]
   rfl
  refine pure_ (i := 6) (N := some 40) #[true, true, true, true, true, true, true, false, false, false, false, false, false] rfl rfl (any_of HT_.out k1_) (fun _ _ _ h => h) (Or.inl ⟨by rfl, py_⟩) pa_ ?_
  refine pure_ (i := 7) (N := some 41) #[true, true, true, true, true, true, true, true, false, false, false, false, false] rfl rfl (any_of HT_.out k1_) (fun _ _ _ h => h) (Or.inl ⟨by rfl, py_⟩) pa_ ?_
  refine pure_ (i := 8) (N := some 42) (v := undef) (a' := ?_) #[true, true, true, true, true, true, true, true, true, false, false, false, false] rfl rfl (any_of HT_.out k1_) (fun _ _ _ h => h) (Or.inr ⟨by rfl, rfl⟩) ?_ ?_
  rotate_left
  ·simp only [Act.put, List.setIfInBounds_toArray, List.set_cons_zero, List.set_cons_succ, i64_w, i32_w]
   rfl
  refine pure_ (i := 9) (N := some 43) (v := undef) (a' := ?_) #[true, true, true, true, true, true, true, true, true, true, false, false, false] rfl rfl (any_of HT_.out k1_) (fun _ _ _ h => h) (Or.inr ⟨by rfl, rfl⟩) ?_ ?_
  rotate_left
  ·simp only [Act.put, List.setIfInBounds_toArray, List.set_cons_zero, List.set_cons_succ, i64_w, i32_w]
   rfl
  refine pure_ (i := 10) (N := some 44) #[true, true, true, true, true, true, true, true, true, true, true, false, false] rfl rfl (any_of HT_.out k1_) (fun _ _ _ h => h) (Or.inl ⟨by rfl, py_⟩) pa_ ?_
  refine one_ (i := 11) (N := none) #[true, true, true, true, true, true, true, true, true, true, true, true, false] rfl rfl (one_of HT_.out k1_) (by decide) (fun K hK => ?_)
  have hs0 : w6.cell? ⟨gr, 0, none⟩ = some (.int .i64 0) := (blk_cell HX5.out.r 0).trans rfl
  have hfs0 := blk_frozen HX5.out.r 0
  have hs1 : w6.cell? ⟨gr, 1, none⟩ = some (.string ⟨#[]⟩) := (blk_cell HX5.out.r 1).trans rfl
  have hfs1 := blk_frozen HX5.out.r 1
  have hs2 : w6.cell? ⟨gr, 2, none⟩ = some (.string ⟨#[]⟩) := (blk_cell HX5.out.r 2).trans rfl
  have hfs2 := blk_frozen HX5.out.r 2
  refine skip_ (w1 := ?_) (by rfl) rfl ?_ ?_
  rotate_left
  ·go_simp
   rfl
  refine hK.out _ _ ⟨((cell_far (p := ⟨gr, _, none⟩) hn2 _).trans ((cell_far (p := ⟨gr, _, none⟩) hn2 _).trans ((cell_far (p := ⟨gr, _, none⟩) hn2 _).trans (hHeld.1)))), ((cell_far (p := ⟨gr, _, none⟩) hn2 _).trans ((cell_far (p := ⟨gr, _, none⟩) hn2 _).trans ((cell_far (p := ⟨gr, _, none⟩) hn2 _).trans (hHeld.2.1)))), ((cell_far (p := ⟨gr, _, none⟩) hn2 _).trans ((cell_far (p := ⟨gr, _, none⟩) hn2 _).trans ((cell_far (p := ⟨gr, _, none⟩) hn2 _).trans (hHeld.2.2.1)))), ((cell_far (p := ⟨gr, _, none⟩) hn4 _).trans ((cell_far (p := ⟨gr, _, none⟩) hn4 _).trans ((cell_far (p := ⟨gr, _, none⟩) hn4 _).trans (hHeld.2.2.2))))⟩ (fun hHeld => ?_)
  clear hK K
  refine pure_ (i := 12) (N := some 5) #[true, true, true, true, true, true, true, true, true, true, true, true, true] rfl rfl (any_of HT_.out k1_) (fun _ _ _ h => h) (Or.inl ⟨by rfl, py_⟩) pa_ ?_
  refine done_ (done_of HT_.out k1_) ?_
  try go_wp2
  refine bodyPost_ret (results_ct rfl _ _ gr 31 #[.int .i64 1, .string (bg ++ b2), .string ⟨#[]⟩] (0, 0) _ rfl (blk_set (blk_set (blk_set HX5.out.r 0 _) 1 _) 2 _) Tryz.underlying31 rfl k1_) rfl ?_
  exact ⟨rfl, ((HX5.out.below.setCell (p := ⟨gr, 0, none⟩) HX5.out.rw' _).setCell (p := ⟨gr, 1, none⟩) HX5.out.rw' _).setCell (p := ⟨gr, 2, none⟩) HX5.out.rw' _⟩
 subst c7
 cases ib with
 | false =>
  rw [if_neg (by simp)] at H
  simp only [Option.some.injEq, Prod.mk.injEq] at H
  obtain ⟨rfl, rfl, rfl, rfl⟩ := H
  go_region
  all_goals (go_wp2; refine bodyPost_ret (by simp [results, Tryz.results18, go_sem, *]; rfl) rfl ?_; exact ⟨rfl, by repeat (first | exact HX3.out.1.below | refine below_drew1 ?_ | refine pw_below_drewN ?_ _ | refine below_set ?_ HX3.out.1.rw')⟩)
 | true =>
  rw [if_pos ⟨rfl, rfl⟩] at H
  obtain ⟨m, A0, H⟩ := Option.bind_eq_some_iff.mp H
  simp only [Option.some.injEq, Prod.mk.injEq] at H
  obtain ⟨rfl, rfl, rfl, rfl⟩ := H
  have AM := Ad.mk A0
  clear A0
  go_region_held3 (fun W => W.cell? ⟨g, 0, none⟩ = some (.int .i64 7) ∧ W.cell? ⟨gt, 0, none⟩ = some (.int .i64 1) ∧ W.cell? ⟨gt, 1, none⟩ = some (.string (bg ++ b2)) ∧ W.cell? ⟨gt, 2, none⟩ = some (.string ⟨#[]⟩)) (first | (exact ⟨pw_cell_below hb hg0, pw_cell_below hb ht0, pw_cell_below hb ht1, pw_cell_below hb ht2⟩) | go_keep) (first | (go_at_call 19; refine (term_May.calls k 1 (bg ++ b2) (⟨#[]⟩ : ByteArray) m _ AM.out).mono ?_; rintro e w6 ⟨rfl, hb⟩; have HR6 := blk_below (blk_drew HX3.out.1.r) hb; have hq0 := (blk_cell HR6 0).trans (show _ = some (.int .i64 0) from rfl); have hq1 := (blk_cell HR6 1).trans (show _ = some (.string ⟨#[]⟩) from rfl); have hq2 := (blk_cell HR6 2).trans (show _ = some (.string ⟨#[]⟩) from rfl); have hqf := fun i => blk_frozen HR6 i; have HB6 := below_step (below_drew1 HX3.out.1.below) hb))
  go_wp2
  refine bodyPost_ret (results_ct rfl _ _ gr 31 #[.int .i64 1, .string (bg ++ b2), .string ⟨#[]⟩] (0, 0) _ rfl (blk_set (blk_set (blk_set HR6 0 _) 1 _) 2 _) Tryz.underlying31 rfl k1_) rfl ?_
  exact ⟨rfl, ((HB6.setCell (p := ⟨gr, 0, none⟩) HX3.out.1.rw' _).setCell (p := ⟨gr, 1, none⟩) HX3.out.1.rw' _).setCell (p := ⟨gr, 2, none⟩) HX3.out.1.rw' _⟩
end Go.Proofs.YtpbphelaeleikaaGreatDoor.PLt

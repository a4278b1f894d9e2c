import Derived.Test.YtpbphelaeleikaaDoorLoPLongx0
import Derived.Test.YtpbphelaeleikaaDoorLoPLongx3
import Derived.Test.YtpbphelaeleikaaDoorLoPLongx6
import Derived.Test.YtpbphelaeleikaaDoorLoPLongx7
namespace Go.Proofs.YtpbphelaeleikaaDoor.PLong
open Go.RowKit Go.Proofs.YtpbphelaeleikaaDoorW.PrintWords Go.Proofs.YtpbphelaeleikaaDoorW.PrintLast Go.Proofs.YtpbphelaeleikaaDoorW.PrintMore
attribute [local go_sem] max2_int min2_int max_two min_two max_three min_three max_four min_four
set_option linter.unusedVariables false
set_option linter.unusedSimpArgs false
def lex_All.l0 : Nat → List S38 → ByteArray → Int → Option (List S38 × Int × Int)
  | 0, _, _, _ => none
  | k + 1, xs, s, a => (lex_scanner_safely.f k s a).bind fun (x1, x2, x3, x4, x5, x6, x7, x8, x9, x10) => if x8 ≥ 0 then some ([], x8, 4) else if x7 = true then (if xs.length < 1954687338268 then lex_All.l0 k (xs ++ [(⟨x1, x2, (⟨x3, x4, x5⟩ : S31), x6⟩ : S38)]) x9 x10 else none) else some (xs, 0, 0)
def lex_All.f (k : Nat) (a0 : ByteArray) : Option (List S38 × Int × Int) := if (a0.size : Int) > 1048576 then some ([], 0, 3) else (lex_well.f a0).bind fun t => if (t.size : Int) < (a0.size : Int) then some ([], t.size, 4) else lex_All.l0 k [] a0 0
theorem lex_All.info : (Tryd.prog.info? 38).map (fun i => (i.zero, i.size, i.bytes)) = some (some (.agg #[.int .i64 0, .string (⟨#[]⟩ : ByteArray), .int .i64 0, .string (⟨#[]⟩ : ByteArray), .string (⟨#[]⟩ : ByteArray), .int .i64 0]), 6, 72) := by kernel_rfl
theorem lex_All.mono_l : ∀ k xs s a, LeO (lex_All.l0 k xs s a) (lex_All.l0 (k + 1) xs s a)
  | 0, _, _, _ => fun _ h => by simp [lex_All.l0] at h
  | k + 1, xs, s, a => by
    unfold lex_All.l0
    refine LeO.bind (lex_scanner_safely.mono _ _ _) fun b => ?_
    obtain ⟨x1, x2, x3, x4, x5, x6, x7, x8, x9, x10⟩ := b
    refine LeO.ite (LeO.refl _) (LeO.ite (LeO.ite (lex_All.mono_l k _ _ _) (LeO.refl _)) (LeO.refl _))
theorem lex_All.mono : ∀ a0 k, LeO (lex_All.f k a0) (lex_All.f (k + 1) a0) := by
  intro a0 k
  unfold lex_All.f
  exact LeO.ite (LeO.refl _) (LeO.bind (LeO.refl _) fun _ => LeO.ite (LeO.refl _) (lex_All.mono_l k _ _ _))
structure AX (w W : World) (g gy : Nat) (v : Value) (xs : List S38) (s : ByteArray) (at_ : Int) (cs : Array Value) : Prop where
  st : IsS44 w W g s at_
  below : Below w.heap.size w W
  row : Kd.R k38 38 W w.heap.size (fun k => k ≠ g ∧ k ≠ gy) v xs
  y : W.heap[gy]? = some (.cells cs 38 (0, 0))
  yw : w.heap.size ≤ gy
  yg : gy ≠ g
theorem AX.upy {w W W' : World} {g gy : Nat} {v : Value} {xs : List S38} {s : ByteArray} {at_ : Int} {cs cs' : Array Value} (h : AX w W g gy v xs s at_ cs) (hu : Upd W W' gy) (hn : W'.heap[gy]? = some (.cells cs' 38 (0, 0))) : AX w W' g gy v xs s at_ cs' :=
  ⟨⟨(hu.other g (Ne.symm h.yg)).trans h.st.1, h.st.2⟩, h.below.trans (hu.below h.yw), Kd.R_move h.row (fun k hk => hu.other k hk.2), hn, h.yw, h.yg⟩
set_option maxHeartbeats 4000000 in
set_option maxRecDepth 100000 in
theorem lex_All.calls (k : Nat) (a0 : ByteArray) (r1 : List S38) (r2 r3 : Int) (w : World) (h : lex_All.f k a0 = some (r1, r2, r3)) :
    Calls Tryd.prog 5 #[.string a0] w fun e w' => ∃ v0_ : Value, e = .returned (.tuple #[v0_, .int .i64 r2, .int .i64 r3]) ∧ Kd.R k38 38 w' w.heap.size (fun _ => True) v0_ r1 ∧ Below w.heap.size w w' := by
  unfold lex_All.f at h
  by_cases c1 : (a0.size : Int) > 1048576
  · rw [if_pos c1] at h
    simp only [Option.some.injEq, Prod.mk.injEq] at h
    obtain ⟨rfl, rfl, rfl⟩ := h
    have c1b : decide ((a0.size : Int) > 1048576) = true := decide_eq_true c1
    go_enter Tryd.func5, Tryd.ntmps5
    go_wp2
    go_ret3
    exact ⟨_, rfl, Kd.R_nil _ _ _ _ _, Below.refl _ _⟩
  · rw [if_neg c1] at h
    have c1b : decide ((a0.size : Int) > 1048576) = false := decide_eq_false c1
    obtain ⟨t, A0, H⟩ := Option.bind_eq_some_iff.mp h
    have AW := Aside0.mk A0
    clear h A0
    by_cases c2 : (t.size : Int) < (a0.size : Int)
    · rw [if_pos c2] at H
      have c2b : decide ((t.size : Int) < (a0.size : Int)) = true := decide_eq_true c2
      simp only [Option.some.injEq, Prod.mk.injEq] at H
      obtain ⟨rfl, rfl, rfl⟩ := H
      go_enter Tryd.func5, Tryd.ntmps5
      go_wp2_with (first | (go_at_call 13; refine (lex_well.calls a0 t _ AW.out).mono ?_; rintro e w2 ⟨rfl, hb⟩; have HB := Aside0.mk hb; clear hb))
      go_ret3
      exact ⟨_, rfl, Kd.R_nil _ _ _ _ _, HB.out⟩
    · rw [if_neg c2] at H
      have c2b : decide ((t.size : Int) < (a0.size : Int)) = false := decide_eq_false c2
      have H' := Aside0.mk H
      clear H
      go_enter Tryd.func5, Tryd.ntmps5
      go_wp2_with (first | (go_at_call 13; refine (lex_well.calls a0 t _ AW.out).mono ?_; rintro e w2 ⟨rfl, hb⟩; have HB := Aside0.mk hb; clear hb) | ((with_reducible refine gate_dst (N := 24) rfl ?_); refine box_event ?hg (N := 24) ?hd (cs := #[.string a0, .int .i64 0]) (t := 44) ?hr ?_; (case hd => rfl); (case hg => rfl); (case hr => first | (go_simp; done) | (go_simp; rfl)); intro g hg w3 hbox hb; have HS := Aside0.mk (show IsS44 w w3 g a0 0 ∧ Below w.heap.size w w3 from ⟨⟨hbox, by rw [hg]; exact HB.out.size⟩, below_then HB.out HB.out.size hb⟩); clear hg hbox hb HB))
      go_loopg [6] k (fun kq v6 w' => ∃ (xs : List S38) (s : ByteArray) (a : Int), Aside0 (lex_All.l0 kq xs s a = some (r1, r2, r3)) ∧ Aside0 (kq ≤ k) ∧ Aside0 (Kd.R k38 38 w' w.heap.size (fun k => k ≠ g) v6 xs) ∧ Aside0 (IsS44 w w' g s a) ∧ Aside0 (Below w.heap.size w w'))
      case atStart => exact ⟨[], a0, 0, H', ⟨Nat.le_refl _⟩, ⟨Kd.R_nil _ _ _ _ _⟩, ⟨HS.out.1⟩, ⟨HS.out.2⟩⟩
      case round =>
        clear H' HS AW c2 c2b c1 c1b
        obtain ⟨xs, s, a, HA, HK1, HO, HI, HB⟩ := hrel
        cases gk with
        | zero => exact absurd HA.out (by simp [lex_All.l0])
        | succ k1 =>
          have H := HA.out
          clear HA
          simp only [lex_All.l0] at H
          replace H := Option.bind_eq_some_iff.mp H
          obtain ⟨⟨x1, x2, x3, x4, x5, x6, x7, x8, x9, x10⟩, A0, H⟩ := H
          simp only at H
          have AS := Aside0.mk A0
          clear A0
          by_cases c3 : x8 ≥ 0
          · rw [if_pos c3] at H
            have c3b : decide (x8 ≥ 0) = true := decide_eq_true c3
            simp only [Option.some.injEq, Prod.mk.injEq] at H
            obtain ⟨rfl, rfl, rfl⟩ := H
            go_wp2_with (first | (go_at_call 14; refine (lex_scanner_safely.calls k1 g s a x1 x2 x3 x4 x5 x6 x7 x8 x9 x10 w _ HI.out HB.out AS.out).mono ?_; rintro e w4 ⟨rfl, h1, h2, h3⟩; have HI1 := Aside0.mk h1; have HB1 := Aside0.mk h2; have HO1 := Aside0.mk (Kd.R_keep HO.out h3 (fun _ hk => hk)); clear h1 h2 h3 HI HB HO) | ((with_reducible refine gate_dst (N := 8) rfl ?_); refine box_event ?hg (N := 8) ?hd (cs := #[.int .i64 0, .string (⟨#[]⟩ : ByteArray), .int .i64 0, .string (⟨#[]⟩ : ByteArray), .string (⟨#[]⟩ : ByteArray), .int .i64 0]) (t := 38) ?hr ?_; (case hd => rfl); (case hg => rfl); (case hr => first | (go_simp; done) | (go_simp; rfl)); intro gy hgy w5 hbox hb; have HX := Aside0.mk (AX.mk (cs := #[.int .i64 0, .string (⟨#[]⟩ : ByteArray), .int .i64 0, .string (⟨#[]⟩ : ByteArray), .string (⟨#[]⟩ : ByteArray), .int .i64 0]) (HI1.out.below hb) (below_then HB1.out HB1.out.size hb) (Kd.R_mono (Kd.R_below (Kd.R_elderB HO1.out gy (Nat.le_of_eq hgy.symm)) hb) (fun _ hk => hk)) hbox (by rw [hgy]; exact HB1.out.size) (by rw [hgy]; exact Ne.symm (Nat.ne_of_lt HI1.out.lt))); clear hgy hbox hb HI1 HB1 HO1) | ((with_reducible refine gate_store (t := 38) (p := 8) rfl ?_); refine store_seg (gy := gy) (j := 0) (T := 38) (TB := 38) (cs := #[.int .i64 0, .string (⟨#[]⟩ : ByteArray), .int .i64 0, .string (⟨#[]⟩ : ByteArray), .string (⟨#[]⟩ : ByteArray), .int .i64 0]) (new := #[.int .i64 x1, .string x2, .int .i64 x3, .string x4, .string x5, .int .i64 x6]) (u := .agg #[.int .i64 x1, .string x2, .int .i64 x3, .string x4, .string x5, .int .i64 x6]) (seg := [.int .i64 x1, .string x2, .int .i64 x3, .string x4, .string x5, .int .i64 x6]) rfl (p := .tmp 8) (x := .tmp 28) rfl rfl ?had ?hx ?hu HX.out.y (by kernel_rfl) ?hf ?h1 rfl ?_; (case had => rfl); (case hx => rfl); (case hu => rfl); (case hf => simp); (case h1 => intro q hq; simp at hq; repeat (first | (rcases hq with rfl | hq; · rfl) | (subst hq; rfl))); intro w6 hz hup; have HY := Aside0.mk (HX.out.upy hup hz); clear HX hz hup; have hy0 := (blk_cell HY.out.y 0).trans (show _ = some (.int .i64 x1) from rfl); have hy1 := (blk_cell HY.out.y 1).trans (show _ = some (.string x2) from rfl); have hy2 := (blk_cell HY.out.y 2).trans (show _ = some (.int .i64 x3) from rfl); have hy3 := (blk_cell HY.out.y 3).trans (show _ = some (.string x4) from rfl); have hy4 := (blk_cell HY.out.y 4).trans (show _ = some (.string x5) from rfl); have hy5 := (blk_cell HY.out.y 5).trans (show _ = some (.int .i64 x6) from rfl)))
            go_ret3
            exact ⟨_, rfl, Kd.R_nil _ _ _ _ _, HY.out.below⟩
          · rw [if_neg c3] at H
            have c3b : decide (x8 ≥ 0) = false := decide_eq_false c3
            cases x7 with
            | false =>
              rw [if_neg (by decide)] at H
              simp only [Option.some.injEq, Prod.mk.injEq] at H
              obtain ⟨rfl, rfl, rfl⟩ := H
              go_wp2_with (first | (go_at_call 14; refine (lex_scanner_safely.calls k1 g s a x1 x2 x3 x4 x5 x6 false x8 x9 x10 w _ HI.out HB.out AS.out).mono ?_; rintro e w4 ⟨rfl, h1, h2, h3⟩; have HI1 := Aside0.mk h1; have HB1 := Aside0.mk h2; have HO1 := Aside0.mk (Kd.R_keep HO.out h3 (fun _ hk => hk)); clear h1 h2 h3 HI HB HO) | ((with_reducible refine gate_dst (N := 8) rfl ?_); refine box_event ?hg (N := 8) ?hd (cs := #[.int .i64 0, .string (⟨#[]⟩ : ByteArray), .int .i64 0, .string (⟨#[]⟩ : ByteArray), .string (⟨#[]⟩ : ByteArray), .int .i64 0]) (t := 38) ?hr ?_; (case hd => rfl); (case hg => rfl); (case hr => first | (go_simp; done) | (go_simp; rfl)); intro gy hgy w5 hbox hb; have HX := Aside0.mk (AX.mk (cs := #[.int .i64 0, .string (⟨#[]⟩ : ByteArray), .int .i64 0, .string (⟨#[]⟩ : ByteArray), .string (⟨#[]⟩ : ByteArray), .int .i64 0]) (HI1.out.below hb) (below_then HB1.out HB1.out.size hb) (Kd.R_mono (Kd.R_below (Kd.R_elderB HO1.out gy (Nat.le_of_eq hgy.symm)) hb) (fun _ hk => hk)) hbox (by rw [hgy]; exact HB1.out.size) (by rw [hgy]; exact Ne.symm (Nat.ne_of_lt HI1.out.lt))); clear hgy hbox hb HI1 HB1 HO1) | ((with_reducible refine gate_store (t := 38) (p := 8) rfl ?_); refine store_seg (gy := gy) (j := 0) (T := 38) (TB := 38) (cs := #[.int .i64 0, .string (⟨#[]⟩ : ByteArray), .int .i64 0, .string (⟨#[]⟩ : ByteArray), .string (⟨#[]⟩ : ByteArray), .int .i64 0]) (new := #[.int .i64 x1, .string x2, .int .i64 x3, .string x4, .string x5, .int .i64 x6]) (u := .agg #[.int .i64 x1, .string x2, .int .i64 x3, .string x4, .string x5, .int .i64 x6]) (seg := [.int .i64 x1, .string x2, .int .i64 x3, .string x4, .string x5, .int .i64 x6]) rfl (p := .tmp 8) (x := .tmp 28) rfl rfl ?had ?hx ?hu HX.out.y (by kernel_rfl) ?hf ?h1 rfl ?_; (case had => rfl); (case hx => rfl); (case hu => rfl); (case hf => simp); (case h1 => intro q hq; simp at hq; repeat (first | (rcases hq with rfl | hq; · rfl) | (subst hq; rfl))); intro w6 hz hup; have HY := Aside0.mk (HX.out.upy hup hz); clear HX hz hup; have hy0 := (blk_cell HY.out.y 0).trans (show _ = some (.int .i64 x1) from rfl); have hy1 := (blk_cell HY.out.y 1).trans (show _ = some (.string x2) from rfl); have hy2 := (blk_cell HY.out.y 2).trans (show _ = some (.int .i64 x3) from rfl); have hy3 := (blk_cell HY.out.y 3).trans (show _ = some (.string x4) from rfl); have hy4 := (blk_cell HY.out.y 4).trans (show _ = some (.string x5) from rfl); have hy5 := (blk_cell HY.out.y 5).trans (show _ = some (.int .i64 x6) from rfl)))
              go_ret3
              exact ⟨_, rfl, Kd.R_mono HY.out.row (fun _ _ => trivial), HY.out.below⟩
            | true =>
              rw [if_pos rfl] at H
              by_cases c4 : xs.length < 1954687338268
              · rw [if_pos c4] at H
                have LM := Aside0.mk c4
                clear c4
                have H' := Aside0.mk H
                clear H
                go_wp2_with (first | (go_at_call 14; refine (lex_scanner_safely.calls k1 g s a x1 x2 x3 x4 x5 x6 true x8 x9 x10 w _ HI.out HB.out AS.out).mono ?_; rintro e w4 ⟨rfl, h1, h2, h3⟩; have HI1 := Aside0.mk h1; have HB1 := Aside0.mk h2; have HO1 := Aside0.mk (Kd.R_keep HO.out h3 (fun _ hk => hk)); clear h1 h2 h3 HI HB HO) | ((with_reducible refine gate_dst (N := 8) rfl ?_); refine box_event ?hg (N := 8) ?hd (cs := #[.int .i64 0, .string (⟨#[]⟩ : ByteArray), .int .i64 0, .string (⟨#[]⟩ : ByteArray), .string (⟨#[]⟩ : ByteArray), .int .i64 0]) (t := 38) ?hr ?_; (case hd => rfl); (case hg => rfl); (case hr => first | (go_simp; done) | (go_simp; rfl)); intro gy hgy w5 hbox hb; have HX := Aside0.mk (AX.mk (cs := #[.int .i64 0, .string (⟨#[]⟩ : ByteArray), .int .i64 0, .string (⟨#[]⟩ : ByteArray), .string (⟨#[]⟩ : ByteArray), .int .i64 0]) (HI1.out.below hb) (below_then HB1.out HB1.out.size hb) (Kd.R_mono (Kd.R_below (Kd.R_elderB HO1.out gy (Nat.le_of_eq hgy.symm)) hb) (fun _ hk => hk)) hbox (by rw [hgy]; exact HB1.out.size) (by rw [hgy]; exact Ne.symm (Nat.ne_of_lt HI1.out.lt))); clear hgy hbox hb HI1 HB1 HO1) | ((with_reducible refine gate_store (t := 38) (p := 8) rfl ?_); refine store_seg (gy := gy) (j := 0) (T := 38) (TB := 38) (cs := #[.int .i64 0, .string (⟨#[]⟩ : ByteArray), .int .i64 0, .string (⟨#[]⟩ : ByteArray), .string (⟨#[]⟩ : ByteArray), .int .i64 0]) (new := #[.int .i64 x1, .string x2, .int .i64 x3, .string x4, .string x5, .int .i64 x6]) (u := .agg #[.int .i64 x1, .string x2, .int .i64 x3, .string x4, .string x5, .int .i64 x6]) (seg := [.int .i64 x1, .string x2, .int .i64 x3, .string x4, .string x5, .int .i64 x6]) rfl (p := .tmp 8) (x := .tmp 28) rfl rfl ?had ?hx ?hu HX.out.y (by kernel_rfl) ?hf ?h1 rfl ?_; (case had => rfl); (case hx => rfl); (case hu => rfl); (case hf => simp); (case h1 => intro q hq; simp at hq; repeat (first | (rcases hq with rfl | hq; · rfl) | (subst hq; rfl))); intro w6 hz hup; have HY := Aside0.mk (HX.out.upy hup hz); clear HX hz hup; have hy0 := (blk_cell HY.out.y 0).trans (show _ = some (.int .i64 x1) from rfl); have hy1 := (blk_cell HY.out.y 1).trans (show _ = some (.string x2) from rfl); have hy2 := (blk_cell HY.out.y 2).trans (show _ = some (.int .i64 x3) from rfl); have hy3 := (blk_cell HY.out.y 3).trans (show _ = some (.string x4) from rfl); have hy4 := (blk_cell HY.out.y 4).trans (show _ = some (.string x5) from rfl); have hy5 := (blk_cell HY.out.y 5).trans (show _ = some (.int .i64 x6) from rfl)) | ((with_reducible refine gate_builtin (b := .append) (xs := #[(.tmp 39), .tmp 41]) rfl ?_); at_builtin; refine Kd.R_append k38 (w0 := w) w.heap.size rfl (.tmp 39) (.tmp 41) 23 38 (.agg #[.int .i64 0, .string (⟨#[]⟩ : ByteArray), .int .i64 0, .string (⟨#[]⟩ : ByteArray), .string (⟨#[]⟩ : ByteArray), .int .i64 0]) 72 rfl Tryd.underlying23 lex_All.info rfl (by decide) (by omega) _ xs (⟨x1, x2, (⟨x3, x4, x5⟩ : S31), x6⟩ : S38) [.int .i64 x1, .string x2, .int .i64 x3, .string x4, .string x5, .int .i64 x6] (fun k_ => k_ ≠ g ∧ k_ ≠ gy) (fun _ => False) rfl (by first | (go_simp; done) | (go_simp; rfl)) ?aP (fun _ hk => hk.elim) ?aF ?aO ?aB ?aS ?aL ?_; (case aP => exact k38_mkM _ _ _ (⟨x1, x2, (⟨x3, x4, x5⟩ : S31), x6⟩ : S38)); (case aB => exact HY.out.below); (case aF => exact fun k_ hk => ⟨Kd.freshB HY.out.st.1 k_ hk, Kd.freshB HY.out.y k_ hk⟩); (case aO => exact HY.out.row); (case aS => exact HY.out.below.size); (case aL => have := LM.out; omega); intro v1 w7 ho hb hg hat; have HZ := Aside0.mk (show Kd.R k38 38 w7 w.heap.size (fun k => k ≠ g) v1 (xs ++ [(⟨x1, x2, (⟨x3, x4, x5⟩ : S31), x6⟩ : S38)]) ∧ IsS44 w w7 g x9 x10 ∧ Below w.heap.size w w7 from ⟨Kd.R_mono ho (fun _ hk => hk.1), HY.out.st.grown hg (Kd.R_away HY.out.row (fun _ hk => hk.1)), hb⟩); clear HY ho hb hg hat))
                go_roundg k1
                case measure => have := HK1.out; omega
                case rel => exact ⟨_, x9, x10, H', ⟨by have := HK1.out; omega⟩, ⟨HZ.out.1⟩, ⟨HZ.out.2.1⟩, ⟨HZ.out.2.2⟩⟩
              · rw [if_neg c4] at H
                cases H
def rhizomelaw04_num.f (a0 : Int) : Option (Int) := some a0
set_option maxHeartbeats 8000000 in
set_option maxRecDepth 100000 in
theorem rhizomelaw04_num.calls (a0 : Int) (r : Int) (w : World) (h : rhizomelaw04_num.f a0 = some r) :
    Calls Tryd.prog 6 #[.int .i64 a0] w fun e w' => e = .returned (.int .i64 r) ∧ Drawn0 w w' := by
  have H : (some a0) = some r := h
  clear h
  obtain rfl := Option.some.inj H
  go_enter Tryd.func6, Tryd.ntmps6
  go_wp2
  go_ret
  exact ⟨by first | rfl | (simp; done) | (simp [*]; done), by repeat (first | exact Drawn0.refl _ | apply Drawn0.step)⟩
def lex_Mark.f (a0_0 : Int) (a0_1 : ByteArray) (a0_2 : Int) (a0_3 : ByteArray) (a0_4 : ByteArray) (a0_5 : Int) (a1 : ByteArray) : Option (Bool) := if a0_0 = 8 then (some (a0_1.toList == a1.toList)) else (some false)
set_option maxHeartbeats 8000000 in
set_option maxRecDepth 100000 in
theorem lex_Mark.calls (a0_0 : Int) (a0_1 : ByteArray) (a0_2 : Int) (a0_3 : ByteArray) (a0_4 : ByteArray) (a0_5 : Int) (a1 : ByteArray) (r : Bool) (w : World) (h : lex_Mark.f a0_0 a0_1 a0_2 a0_3 a0_4 a0_5 a1 = some r) :
    Calls Tryd.prog 15 #[.agg #[.int .i64 a0_0, .string a0_1, .int .i64 a0_2, .string a0_3, .string a0_4, .int .i64 a0_5], .string a1] w fun e w' => e = .returned (.bool r) ∧ Below w.heap.size w w' := by
  have hu38 := Tryd.underlying38
  have HB := Aside0.mk (Below.refl w.heap.size w)
  have H : (if a0_0 = 8 then (some (a0_1.toList == a1.toList)) else (some false)) = some r := h
  clear h
  by_cases c3 : a0_0 = 8
  · rw [if_pos c3] at H
    have c3b0 : (a0_0 == 8) = true := beq_iff_eq.mpr c3
    have c3b1 : (a0_0 != 8) = false := bne_eq_false_iff_eq.mpr c3
    clear c3
    obtain rfl := Option.some.inj H
    go_enter Tryd.func15, Tryd.ntmps15
    go_wp2_with (first | ((with_reducible refine gate_dst (N := 2) rfl ?_); refine box_event ?hg (N := 2) ?hd (cs := #[.int .i64 a0_0, .string a0_1, .int .i64 a0_2, .string a0_3, .string a0_4, .int .i64 a0_5]) (t := 38) ?hr ?_; (case hd => rfl); (case hg => rfl); (case hr => first | (go_simp; done) | (go_simp; rfl)); intro gb255 hg w4 hbox hb; have n0_ := Aside0.mk (below_step (by repeat (first | (with_reducible first | exact HB.out | apply below_alloc | apply pw_below_drewN | apply below_drew1) | exact HB.out)) hb); have n1_ := Aside0.mk (hbox); have n2_ := Aside0.mk ((by rw [hg]; exact (below_size (by repeat (first | (with_reducible first | exact HB.out | apply below_alloc | apply pw_below_drewN | apply below_drew1) | exact HB.out))) : w.heap.size ≤ gb255)); have n3_ := Aside0.mk ((by rw [hg]; exact (below_size (by repeat (first | (with_reducible first | exact HB.out | apply below_alloc | apply pw_below_drewN | apply below_drew1) | exact HB.out))) : w.heap.size ≤ gb255)); clear HB; have HB := n0_; have BK255 := n1_; have GW255 := n2_; have GE255 := n3_; clear n0_ n1_ n2_ n3_; clear hb hbox hg; have hcz5_0 : w4.cell? ⟨gb255, 0, none⟩ = some (.int .i64 a0_0) := (blk_cell BK255.out 0).trans rfl; have hcz5_1 : w4.cell? ⟨gb255, 1, none⟩ = some (.string a0_1) := (blk_cell BK255.out 1).trans rfl; have hcz5_2 : w4.cell? ⟨gb255, 2, none⟩ = some (.int .i64 a0_2) := (blk_cell BK255.out 2).trans rfl; have hcz5_3 : w4.cell? ⟨gb255, 3, none⟩ = some (.string a0_3) := (blk_cell BK255.out 3).trans rfl; have hcz5_4 : w4.cell? ⟨gb255, 4, none⟩ = some (.string a0_4) := (blk_cell BK255.out 4).trans rfl; have hcz5_5 : w4.cell? ⟨gb255, 5, none⟩ = some (.int .i64 a0_5) := (blk_cell BK255.out 5).trans rfl; have hfz5_0 := blk_frozen BK255.out 0; have hfz5_1 := blk_frozen BK255.out 1; have hfz5_2 := blk_frozen BK255.out 2; have hfz5_3 := blk_frozen BK255.out 3; have hfz5_4 := blk_frozen BK255.out 4; have hfz5_5 := blk_frozen BK255.out 5))
    go_ret
    exact ⟨by first | rfl | (simp [errW_none, errW_some] <;> rfl) | (simp [*, errW_none, errW_some] <;> rfl), by repeat (first | (with_reducible first | exact HB.out | apply below_alloc | apply pw_below_drewN | apply below_drew1 | refine below_set ?_ GE255.out) | exact HB.out)⟩
  · rw [if_neg c3] at H
    have c3b0 : (a0_0 == 8) = false := beq_eq_false_iff_ne.mpr c3
    have c3b1 : (a0_0 != 8) = true := bne_iff_ne.mpr c3
    obtain rfl := Option.some.inj H
    go_enter Tryd.func15, Tryd.ntmps15
    go_wp2_with (first | ((with_reducible refine gate_dst (N := 2) rfl ?_); refine box_event ?hg (N := 2) ?hd (cs := #[.int .i64 a0_0, .string a0_1, .int .i64 a0_2, .string a0_3, .string a0_4, .int .i64 a0_5]) (t := 38) ?hr ?_; (case hd => rfl); (case hg => rfl); (case hr => first | (go_simp; done) | (go_simp; rfl)); intro gb255 hg w6 hbox hb; have n0_ := Aside0.mk (below_step (by repeat (first | (with_reducible first | exact HB.out | apply below_alloc | apply pw_below_drewN | apply below_drew1) | exact HB.out)) hb); have n1_ := Aside0.mk (hbox); have n2_ := Aside0.mk ((by rw [hg]; exact (below_size (by repeat (first | (with_reducible first | exact HB.out | apply below_alloc | apply pw_below_drewN | apply below_drew1) | exact HB.out))) : w.heap.size ≤ gb255)); have n3_ := Aside0.mk ((by rw [hg]; exact (below_size (by repeat (first | (with_reducible first | exact HB.out | apply below_alloc | apply pw_below_drewN | apply below_drew1) | exact HB.out))) : w.heap.size ≤ gb255)); clear HB; have HB := n0_; have BK255 := n1_; have GW255 := n2_; have GE255 := n3_; clear n0_ n1_ n2_ n3_; clear hb hbox hg; have hcz7_0 : w6.cell? ⟨gb255, 0, none⟩ = some (.int .i64 a0_0) := (blk_cell BK255.out 0).trans rfl; have hcz7_1 : w6.cell? ⟨gb255, 1, none⟩ = some (.string a0_1) := (blk_cell BK255.out 1).trans rfl; have hcz7_2 : w6.cell? ⟨gb255, 2, none⟩ = some (.int .i64 a0_2) := (blk_cell BK255.out 2).trans rfl; have hcz7_3 : w6.cell? ⟨gb255, 3, none⟩ = some (.string a0_3) := (blk_cell BK255.out 3).trans rfl; have hcz7_4 : w6.cell? ⟨gb255, 4, none⟩ = some (.string a0_4) := (blk_cell BK255.out 4).trans rfl; have hcz7_5 : w6.cell? ⟨gb255, 5, none⟩ = some (.int .i64 a0_5) := (blk_cell BK255.out 5).trans rfl; have hfz7_0 := blk_frozen BK255.out 0; have hfz7_1 := blk_frozen BK255.out 1; have hfz7_2 := blk_frozen BK255.out 2; have hfz7_3 := blk_frozen BK255.out 3; have hfz7_4 := blk_frozen BK255.out 4; have hfz7_5 := blk_frozen BK255.out 5))
    go_ret
    exact ⟨by first | rfl | (simp [errW_none, errW_some] <;> rfl) | (simp [*, errW_none, errW_some] <;> rfl), by repeat (first | (with_reducible first | exact HB.out | apply below_alloc | apply pw_below_drewN | apply below_drew1 | refine below_set ?_ GE255.out) | exact HB.out)⟩
def strings_EqualFold.f (a0 a1 : ByteArray) : Option Bool := if a0.size < 4294967281 ∧ a0.data.toList.all (fun b => decide (b.toNat < 128)) = true ∧ a1.data.toList.all (fun b => decide (b.toNat < 128)) = true then some (Lib.equalFold a0.data.toList a1.data.toList) else none
theorem strings_EqualFold.calls (a0 a1 : ByteArray) (r : Bool) (w : World) (h : strings_EqualFold.f a0 a1 = some r) :
    Calls Tryd.prog 28 #[.string a0, .string a1] w fun e w' => e = .returned (.bool r) ∧ Drawn0 w w' := by
  unfold strings_EqualFold.f at h
  by_cases c : a0.size < 4294967281 ∧ a0.data.toList.all (fun b => decide (b.toNat < 128)) = true ∧ a1.data.toList.all (fun b => decide (b.toNat < 128)) = true
  · rw [if_pos c] at h
    obtain rfl := Option.some.inj h
    have key : ∀ {l : List UInt8}, l.all (fun b => decide (b.toNat < 128)) = true → ∀ (j : Nat) b, l[j]? = some b → b.toNat < 128 := fun {l} hl j b hb => by
      have := List.all_eq_true.1 hl b (List.mem_of_getElem? hb)
      simpa using this
    exact (Tryd.strings_EqualFold a0 a1 w c.1 (key c.2.1) (key c.2.2)).mono fun e w' ⟨he, hw⟩ => ⟨he, by rw [hw]; exact Drawn0.refl w⟩
  · rw [if_neg c] at h
    cases h
def lex_Word.f (a0_0 : Int) (a0_1 : ByteArray) (a0_2 : Int) (a0_3 : ByteArray) (a0_4 : ByteArray) (a0_5 : Int) (a1 : ByteArray) : Option (Bool) := if a0_0 = 6 then (if (a0_1.size : Int) = (a1.size : Int) then ((strings_EqualFold.f a0_1 a1).bind fun t257 => (some t257)) else (some false)) else (some false)
set_option maxHeartbeats 8000000 in
set_option maxRecDepth 100000 in
theorem lex_Word.calls (a0_0 : Int) (a0_1 : ByteArray) (a0_2 : Int) (a0_3 : ByteArray) (a0_4 : ByteArray) (a0_5 : Int) (a1 : ByteArray) (r : Bool) (w : World) (h : lex_Word.f a0_0 a0_1 a0_2 a0_3 a0_4 a0_5 a1 = some r) :
    Calls Tryd.prog 16 #[.agg #[.int .i64 a0_0, .string a0_1, .int .i64 a0_2, .string a0_3, .string a0_4, .int .i64 a0_5], .string a1] w fun e w' => e = .returned (.bool r) ∧ Below w.heap.size w w' := by
  have hu38 := Tryd.underlying38
  have HB := Aside0.mk (Below.refl w.heap.size w)
  have H : (if a0_0 = 6 then (if (a0_1.size : Int) = (a1.size : Int) then ((strings_EqualFold.f a0_1 a1).bind fun t257 => (some t257)) else (some false)) else (some false)) = some r := h
  clear h
  by_cases c3 : a0_0 = 6
  · rw [if_pos c3] at H
    have c3b0 : (a0_0 == 6) = true := beq_iff_eq.mpr c3
    have c3b1 : (a0_0 != 6) = false := bne_eq_false_iff_eq.mpr c3
    clear c3
    by_cases c4 : (a0_1.size : Int) = (a1.size : Int)
    · rw [if_pos c4] at H
      have c4b0 : ((a0_1.size : Int) == (a1.size : Int)) = true := beq_iff_eq.mpr c4
      have c4b1 : ((a0_1.size : Int) != (a1.size : Int)) = false := bne_eq_false_iff_eq.mpr c4
      have c4b2 : (a0_1.size == a1.size) = true := by first | simpa using c4 | (simp at c4 ⊢; omega)
      clear c4
      replace H := Option.bind_eq_some_iff.mp H
      obtain ⟨t257, A50, H⟩ := H
      replace H : (some t257) = some r := H
      have A5 := Aside0.mk A50
      clear A50
      obtain rfl := Option.some.inj H
      go_enter Tryd.func16, Tryd.ntmps16
      go_wp2_with (first | ((with_reducible refine gate_dst (N := 2) rfl ?_); (try (refine gate_guard (by rfl) ?_; dsimp only)); refine box_event ?hg (N := 2) ?hd (cs := #[.int .i64 a0_0, .string a0_1, .int .i64 a0_2, .string a0_3, .string a0_4, .int .i64 a0_5]) (t := 38) ?hr ?_; (case hd => rfl); (case hg => rfl); (case hr => first | (go_simp; done) | (go_simp; rfl)); intro gb256 hg w6 hbox hb; have n0_ := Aside0.mk (below_step (by repeat (first | (with_reducible first | exact HB.out | apply below_alloc | apply pw_below_drewN | apply below_drew1) | exact HB.out)) hb); have n1_ := Aside0.mk (hbox); have n2_ := Aside0.mk ((by rw [hg]; exact (below_size (by repeat (first | (with_reducible first | exact HB.out | apply below_alloc | apply pw_below_drewN | apply below_drew1) | exact HB.out))) : w.heap.size ≤ gb256)); have n3_ := Aside0.mk ((by rw [hg]; exact (below_size (by repeat (first | (with_reducible first | exact HB.out | apply below_alloc | apply pw_below_drewN | apply below_drew1) | exact HB.out))) : w.heap.size ≤ gb256)); clear HB; have HB := n0_; have BK256 := n1_; have GW256 := n2_; have GE256 := n3_; clear n0_ n1_ n2_ n3_; clear hb hbox hg; have hcz7_0 : w6.cell? ⟨gb256, 0, none⟩ = some (.int .i64 a0_0) := (blk_cell BK256.out 0).trans rfl; have hcz7_1 : w6.cell? ⟨gb256, 1, none⟩ = some (.string a0_1) := (blk_cell BK256.out 1).trans rfl; have hcz7_2 : w6.cell? ⟨gb256, 2, none⟩ = some (.int .i64 a0_2) := (blk_cell BK256.out 2).trans rfl; have hcz7_3 : w6.cell? ⟨gb256, 3, none⟩ = some (.string a0_3) := (blk_cell BK256.out 3).trans rfl; have hcz7_4 : w6.cell? ⟨gb256, 4, none⟩ = some (.string a0_4) := (blk_cell BK256.out 4).trans rfl; have hcz7_5 : w6.cell? ⟨gb256, 5, none⟩ = some (.int .i64 a0_5) := (blk_cell BK256.out 5).trans rfl; have hfz7_0 := blk_frozen BK256.out 0; have hfz7_1 := blk_frozen BK256.out 1; have hfz7_2 := blk_frozen BK256.out 2; have hfz7_3 := blk_frozen BK256.out 3; have hfz7_4 := blk_frozen BK256.out 4; have hfz7_5 := blk_frozen BK256.out 5) | (go_at_call 28; (with_reducible refine (strings_EqualFold.calls a0_1 a1 t257 _ A5.out).mono ?_); rintro e w' ⟨rfl, ⟨nd, rfl⟩⟩))
      go_ret
      exact ⟨by first | rfl | (simp [errW_none, errW_some] <;> rfl) | (simp [*, errW_none, errW_some] <;> rfl), by repeat (first | (with_reducible first | exact HB.out | apply below_alloc | apply pw_below_drewN | apply below_drew1 | refine below_set ?_ GE256.out) | exact HB.out)⟩
    · rw [if_neg c4] at H
      have c4b0 : ((a0_1.size : Int) == (a1.size : Int)) = false := beq_eq_false_iff_ne.mpr c4
      have c4b1 : ((a0_1.size : Int) != (a1.size : Int)) = true := bne_iff_ne.mpr c4
      have c4b2 : (a0_1.size == a1.size) = false := by first | simpa using c4 | (simp at c4 ⊢; omega)
      obtain rfl := Option.some.inj H
      go_enter Tryd.func16, Tryd.ntmps16
      go_wp2_with (first | ((with_reducible refine gate_dst (N := 2) rfl ?_); (try (refine gate_guard (by rfl) ?_; dsimp only)); refine box_event ?hg (N := 2) ?hd (cs := #[.int .i64 a0_0, .string a0_1, .int .i64 a0_2, .string a0_3, .string a0_4, .int .i64 a0_5]) (t := 38) ?hr ?_; (case hd => rfl); (case hg => rfl); (case hr => first | (go_simp; done) | (go_simp; rfl)); intro gb256 hg w8 hbox hb; have n0_ := Aside0.mk (below_step (by repeat (first | (with_reducible first | exact HB.out | apply below_alloc | apply pw_below_drewN | apply below_drew1) | exact HB.out)) hb); have n1_ := Aside0.mk (hbox); have n2_ := Aside0.mk ((by rw [hg]; exact (below_size (by repeat (first | (with_reducible first | exact HB.out | apply below_alloc | apply pw_below_drewN | apply below_drew1) | exact HB.out))) : w.heap.size ≤ gb256)); have n3_ := Aside0.mk ((by rw [hg]; exact (below_size (by repeat (first | (with_reducible first | exact HB.out | apply below_alloc | apply pw_below_drewN | apply below_drew1) | exact HB.out))) : w.heap.size ≤ gb256)); clear HB; have HB := n0_; have BK256 := n1_; have GW256 := n2_; have GE256 := n3_; clear n0_ n1_ n2_ n3_; clear hb hbox hg; have hcz9_0 : w8.cell? ⟨gb256, 0, none⟩ = some (.int .i64 a0_0) := (blk_cell BK256.out 0).trans rfl; have hcz9_1 : w8.cell? ⟨gb256, 1, none⟩ = some (.string a0_1) := (blk_cell BK256.out 1).trans rfl; have hcz9_2 : w8.cell? ⟨gb256, 2, none⟩ = some (.int .i64 a0_2) := (blk_cell BK256.out 2).trans rfl; have hcz9_3 : w8.cell? ⟨gb256, 3, none⟩ = some (.string a0_3) := (blk_cell BK256.out 3).trans rfl; have hcz9_4 : w8.cell? ⟨gb256, 4, none⟩ = some (.string a0_4) := (blk_cell BK256.out 4).trans rfl; have hcz9_5 : w8.cell? ⟨gb256, 5, none⟩ = some (.int .i64 a0_5) := (blk_cell BK256.out 5).trans rfl; have hfz9_0 := blk_frozen BK256.out 0; have hfz9_1 := blk_frozen BK256.out 1; have hfz9_2 := blk_frozen BK256.out 2; have hfz9_3 := blk_frozen BK256.out 3; have hfz9_4 := blk_frozen BK256.out 4; have hfz9_5 := blk_frozen BK256.out 5))
      go_ret
      exact ⟨by first | rfl | (simp [errW_none, errW_some] <;> rfl) | (simp [*, errW_none, errW_some] <;> rfl), by repeat (first | (with_reducible first | exact HB.out | apply below_alloc | apply pw_below_drewN | apply below_drew1 | refine below_set ?_ GE256.out) | exact HB.out)⟩
  · rw [if_neg c3] at H
    have c3b0 : (a0_0 == 6) = false := beq_eq_false_iff_ne.mpr c3
    have c3b1 : (a0_0 != 6) = true := bne_iff_ne.mpr c3
    obtain rfl := Option.some.inj H
    go_enter Tryd.func16, Tryd.ntmps16
    go_wp2_with (first | ((with_reducible refine gate_dst (N := 2) rfl ?_); (try (refine gate_guard (by rfl) ?_; dsimp only)); refine box_event ?hg (N := 2) ?hd (cs := #[.int .i64 a0_0, .string a0_1, .int .i64 a0_2, .string a0_3, .string a0_4, .int .i64 a0_5]) (t := 38) ?hr ?_; (case hd => rfl); (case hg => rfl); (case hr => first | (go_simp; done) | (go_simp; rfl)); intro gb256 hg w10 hbox hb; have n0_ := Aside0.mk (below_step (by repeat (first | (with_reducible first | exact HB.out | apply below_alloc | apply pw_below_drewN | apply below_drew1) | exact HB.out)) hb); have n1_ := Aside0.mk (hbox); have n2_ := Aside0.mk ((by rw [hg]; exact (below_size (by repeat (first | (with_reducible first | exact HB.out | apply below_alloc | apply pw_below_drewN | apply below_drew1) | exact HB.out))) : w.heap.size ≤ gb256)); have n3_ := Aside0.mk ((by rw [hg]; exact (below_size (by repeat (first | (with_reducible first | exact HB.out | apply below_alloc | apply pw_below_drewN | apply below_drew1) | exact HB.out))) : w.heap.size ≤ gb256)); clear HB; have HB := n0_; have BK256 := n1_; have GW256 := n2_; have GE256 := n3_; clear n0_ n1_ n2_ n3_; clear hb hbox hg; have hcz11_0 : w10.cell? ⟨gb256, 0, none⟩ = some (.int .i64 a0_0) := (blk_cell BK256.out 0).trans rfl; have hcz11_1 : w10.cell? ⟨gb256, 1, none⟩ = some (.string a0_1) := (blk_cell BK256.out 1).trans rfl; have hcz11_2 : w10.cell? ⟨gb256, 2, none⟩ = some (.int .i64 a0_2) := (blk_cell BK256.out 2).trans rfl; have hcz11_3 : w10.cell? ⟨gb256, 3, none⟩ = some (.string a0_3) := (blk_cell BK256.out 3).trans rfl; have hcz11_4 : w10.cell? ⟨gb256, 4, none⟩ = some (.string a0_4) := (blk_cell BK256.out 4).trans rfl; have hcz11_5 : w10.cell? ⟨gb256, 5, none⟩ = some (.int .i64 a0_5) := (blk_cell BK256.out 5).trans rfl; have hfz11_0 := blk_frozen BK256.out 0; have hfz11_1 := blk_frozen BK256.out 1; have hfz11_2 := blk_frozen BK256.out 2; have hfz11_3 := blk_frozen BK256.out 3; have hfz11_4 := blk_frozen BK256.out 4; have hfz11_5 := blk_frozen BK256.out 5))
    go_ret
    exact ⟨by first | rfl | (simp [errW_none, errW_some] <;> rfl) | (simp [*, errW_none, errW_some] <;> rfl), by repeat (first | (with_reducible first | exact HB.out | apply below_alloc | apply pw_below_drewN | apply below_drew1 | refine below_set ?_ GE256.out) | exact HB.out)⟩
end Go.Proofs.YtpbphelaeleikaaDoor.PLong

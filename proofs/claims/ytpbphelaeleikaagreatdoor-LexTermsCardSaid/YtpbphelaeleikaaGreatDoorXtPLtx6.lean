import Derived.Test.YtpbphelaeleikaaGreatDoorXtPLtx0
import Derived.Test.YtpbphelaeleikaaGreatDoorXtPLtx3
import Derived.Test.YtpbphelaeleikaaGreatDoorXtPLtx5
namespace Go.Proofs.YtpbphelaeleikaaGreatDoor.PLt
open Go.RowKit Go.Proofs.YtpbphelaeleikaaGreatDoorW.PrintWords Go.Proofs.YtpbphelaeleikaaGreatDoorW.PrintLast Go.Proofs.YtpbphelaeleikaaGreatDoorW.PrintMore
attribute [local go_sem] max2_int min2_int max_two min_two max_three min_three max_four min_four
set_option linter.unusedVariables false
set_option linter.unusedSimpArgs false
set_option maxHeartbeats 8000000
set_option maxRecDepth 100000
structure Upd (W w1 : World) (gy : Nat) : Prop where
 os : w1.os = W.os
 tape : w1.tape = W.tape
 output : w1.output = W.output
 size : w1.heap.size = W.heap.size
 other : ∀ k, k ≠ gy → w1.heap[k]? = W.heap[k]?
theorem setCells_heap (gy : Nat) (T : TypeId) : ∀ (vs : List Value) (o : Nat) (W : World) (cs : Array Value), W.heap[gy]? = some (.cells cs T (0, 0)) → o + vs.length ≤ cs.size → (W.setCells gy o vs).heap[gy]? = some (.cells (cs.toList.take o ++ vs ++ cs.toList.drop (o + vs.length)).toArray T (0, 0)) ∧ Upd W (W.setCells gy o vs) gy
 | [], o, W, cs, h, _ => ⟨by simpa [World.setCells] using h, ⟨rfl, rfl, rfl, rfl, fun _ _ => rfl⟩⟩
 | v :: vs, o, W, cs, h, hl => by
  have hl' : o + (vs.length + 1) ≤ cs.size := by simpa using hl
  have h1 : (W.setCell ⟨gy, o, none⟩ v).heap[gy]? = some (.cells (cs.setIfInBounds o v) T (0, 0)) := by
   simp [World.setCell, Array.getElem?_modify, h]
  obtain ⟨i1, i2⟩ := setCells_heap gy T vs (o + 1) (W.setCell ⟨gy, o, none⟩ v) (cs.setIfInBounds o v) h1 (by simp; omega)
  have u1 : Upd W (W.setCell ⟨gy, o, none⟩ v) gy := ⟨rfl, rfl, rfl, by simp, fun k hk => by simp [World.setCell, Array.getElem?_modify, Ne.symm hk]⟩
  refine ⟨?_, ⟨i2.os.trans u1.os, i2.tape.trans u1.tape, i2.output.trans u1.output, i2.size.trans u1.size, fun k hk => (i2.other k hk).trans (u1.other k hk)⟩⟩
  rw [World.setCells]
  rw [i1]
  congr 2
  have e := list_seg_step cs.toList o v vs (by simpa using hl')
  simpa [Array.toList_setIfInBounds] using congrArg List.toArray e
theorem store_seg {P : Program} {ops : Array Oper} {rest : List Oper} {o : Oper} {a : Act} {Q : Exit → Act → World → Prop} {W : World} {gy j : Nat} {T TB : TypeId} {cs new : Array Value} {u : Value} {seg : List Value} (hgd : o.guard = none) {p x : Operand} (ho : o.op = .store T p x) (hN : o.dst = none)
  (haddr : a.eval p = .pointer (some ⟨gy, j, none⟩)) (hx : a.eval x = u) (hu : u.cells.toList = seg) (hh : W.heap[gy]? = some (.cells cs TB (0, 0))) (ht : (P.info? T).map (·.size) = some seg.length) (hfit : j + seg.length ≤ cs.size) (h1 : ∀ q ∈ seg, q.oneCell' = true)
  (hnew : (cs.toList.take j ++ seg ++ cs.toList.drop (j + seg.length)).toArray = new)
  (h : ∀ w1, w1.heap[gy]? = some (.cells new TB (0, 0)) → Upd W w1 gy → wpList P ops Q rest a w1) : wpList P ops Q (o :: rest) a W := by
 have hst := run_store_run (P := P) (o := j) T u seg hh hu ht hfit h1
 obtain ⟨hb, hup⟩ := setCells_heap gy TB seg j W cs hh hfit
 rw [hnew] at hb
 have h2 := h _ hb hup
 refine wpList_plain hgd fun K hK => ?_
 have hex : Sem.run P (execOp a.eval o) W = .ok .skip (W.setCells gy j seg) := by
  unfold execOp
  rw [ho]
  simp [haddr, hx, hst]
 unfold Oper.wp
 rw [hex]
 show K (a.put o.dst undef) _
 rw [hN]
 exact hK _ _ h2
theorem Upd.below {W w1 : World} {gy B : Nat} (h : Upd W w1 gy) (hB : B ≤ gy) : Below B W w1 := ⟨h.os, h.tape, h.output, Nat.le_of_eq h.size.symm, fun k hk => h.other k (by omega)⟩
theorem Upd.keep {w W w1 : World} {g gy : Nat} (h : Upd W w1 gy) (hk : KeepBut w W g none) (hg : w.heap.size ≤ gy) : KeepBut w w1 g none := ⟨by rw [h.size]; exact hk.1, fun i hi hne hr => (h.other i (by omega)).trans (hk.2 i hi hne hr)⟩
structure NX (w0 w W : World) (g gb gs : Nat) (s : ByteArray) (at_ : Int) (cs fs : Array Value) (T : TypeId) : Prop where
 st : IsS73 w0 W g s at_
 below : Below w0.heap.size w0 W
 keep : KeepBut w W g none
 res : W.heap[gb]? = some (.cells cs 43 (0, 0))
 rows : W.heap[gs]? = some (.cells fs T (0, 0))
 gbw : w.heap.size ≤ gb
 gsw : w.heap.size ≤ gs
 gbg : gb ≠ g
 gsg : gs ≠ g
 gbs : gb ≠ gs
theorem NX.call {w0 w W W' : World} {g gb gs : Nat} {s s' : ByteArray} {at_ at' : Int} {cs fs : Array Value} {T : TypeId} (h : NX w0 w W g gb gs s at_ cs fs T) (h1 : IsS73 w0 W' g s' at') (h2 : Below w0.heap.size w0 W') (h3 : KeepBut W W' g none) : NX w0 w W' g gb gs s' at' cs fs T :=
 ⟨h1, h2, h.keep.trans h3 (.inl rfl), (h3.2 gb (blk_lt h.res) h.gbg (by simp)).trans h.res, (h3.2 gs (blk_lt h.rows) h.gsg (by simp)).trans h.rows, h.gbw, h.gsw, h.gbg, h.gsg, h.gbs⟩
theorem NX.lower {w0 w W W' : World} {g gb gs : Nat} {s : ByteArray} {at_ : Int} {cs fs : Array Value} {T : TypeId} (h : NX w0 w W g gb gs s at_ cs fs T) (hb : Below W.heap.size W W') : NX w0 w W' g gb gs s at_ cs fs T :=
 ⟨h.st.below hb, below_then h.below h.below.size hb, h.keep.trans (KeepBut.of_below hb g none) (.inl rfl), blk_below h.res hb, blk_below h.rows hb, h.gbw, h.gsw, h.gbg, h.gsg, h.gbs⟩
theorem NX.drew {w0 w W : World} {g gb gs : Nat} {s : ByteArray} {at_ : Int} {cs fs : Array Value} {T : TypeId} (h : NX w0 w W g gb gs s at_ cs fs T) (n : Nat) : NX w0 w (W.drewN n) g gb gs s at_ cs fs T :=
 h.lower (pw_below_drewN (Below.refl _ _) n)
theorem NX.upd {w0 w W W' : World} {g gb gs gy : Nat} {s : ByteArray} {at_ : Int} {cs fs : Array Value} {T : TypeId} (h : NX w0 w W g gb gs s at_ cs fs T) (hu : Upd W W' gy) (h0 : w0.heap.size ≤ gy) (hw : w.heap.size ≤ gy) (hg : gy ≠ g) (hb : gy ≠ gb) (hs : gy ≠ gs) : NX w0 w W' g gb gs s at_ cs fs T :=
 ⟨⟨(hu.other g (Ne.symm hg)).trans h.st.1, h.st.2⟩, h.below.trans (hu.below h0), hu.keep h.keep hw, (hu.other gb (Ne.symm hb)).trans h.res, (hu.other gs (Ne.symm hs)).trans h.rows, h.gbw, h.gsw, h.gbg, h.gsg, h.gbs⟩
theorem NX.fill {w0 w W W' : World} {g gb gs : Nat} {s : ByteArray} {at_ : Int} {cs fs new : Array Value} {T : TypeId} (h : NX w0 w W g gb gs s at_ cs fs T) (hu : Upd W W' gb) (h0 : w0.heap.size ≤ gb) (hn : W'.heap[gb]? = some (.cells new 43 (0, 0))) : NX w0 w W' g gb gs s at_ new fs T :=
 ⟨⟨(hu.other g (Ne.symm h.gbg)).trans h.st.1, h.st.2⟩, h.below.trans (hu.below h0), hu.keep h.keep h.gbw, hn, (hu.other gs (Ne.symm h.gbs)).trans h.rows, h.gbw, h.gsw, h.gbg, h.gsg, h.gbs⟩
theorem slice_event {P : Program} {ops : Array Oper} {rest : List Oper} {o : Oper} {a : Act} {Q : Exit → Act → World → Prop} {W : World} (hgd : o.guard = none) {N : Tmp} (_hd : o.dst = some N) {cs : Array Value} {t : TypeId} {n : Nat}
  (hrun : (execOp a.eval o).run P W = .ok (.value (.slice (some ⟨W.heap.size, 0, none⟩) n n)) (W.alloc (.cells cs t (0, 0))))
  (h : ∀ g, g = W.heap.size → ∀ w1, w1.heap[g]? = some (.cells cs t (0, 0)) → Below W.heap.size W w1 → wpList P ops Q rest (a.put o.dst (.slice (some ⟨g, 0, none⟩) n n)) w1) : wpList P ops Q (o :: rest) a W :=
 Kd.event_run hgd hrun (h _ rfl _ (blk_new W _) (below_alloc (Below.refl _ _) _))
def ls_next.g (k : Nat) (s_ : ByteArray) (a_ from_ : Int) : Option (Int × ByteArray × Int × ByteArray × ByteArray × Int × Bool × ByteArray × Int) := ((ls_iri.f k s_ a_).bind fun r_ => if r_.2.2.2.2.2.2.1 = true then some (r_.1, r_.2.1, r_.2.2.1, r_.2.2.2.1, r_.2.2.2.2.1, from_, true, r_.2.2.2.2.2.2.2.1, r_.2.2.2.2.2.2.2.2) else (fun (s_ : ByteArray) (a_ : Int) => ((ls_blank.f s_ a_).bind fun r_ => if r_.2.2.2.2.2.2.1 = true then some (r_.1, r_.2.1, r_.2.2.1, r_.2.2.2.1, r_.2.2.2.2.1, from_, true, r_.2.2.2.2.2.2.2.1, r_.2.2.2.2.2.2.2.2) else (fun (s_ : ByteArray) (a_ : Int) => ((ls_text.f k s_ a_).bind fun r_ => if r_.2.2.2.2.2.2.1 = true then some (r_.1, r_.2.1, r_.2.2.1, r_.2.2.2.1, r_.2.2.2.2.1, from_, true, r_.2.2.2.2.2.2.2.1, r_.2.2.2.2.2.2.2.2) else (fun (s_ : ByteArray) (a_ : Int) => ((ls_lang.f k s_ a_).bind fun r_ => if r_.2.2.2.2.2.2.1 = true then some (r_.1, r_.2.1, r_.2.2.1, r_.2.2.2.1, r_.2.2.2.2.1, from_, true, r_.2.2.2.2.2.2.2.1, r_.2.2.2.2.2.2.2.2) else (fun (s_ : ByteArray) (a_ : Int) => ((ls_variable.f k s_ a_).bind fun r_ => if r_.2.2.2.2.2.2.1 = true then some (r_.1, r_.2.1, r_.2.2.1, r_.2.2.2.1, r_.2.2.2.2.1, from_, true, r_.2.2.2.2.2.2.2.1, r_.2.2.2.2.2.2.2.2) else (fun (s_ : ByteArray) (a_ : Int) => ((ls_word.f k s_ a_).bind fun r_ => if r_.2.2.2.2.2.2.1 = true then some (r_.1, r_.2.1, r_.2.2.1, r_.2.2.2.1, r_.2.2.2.2.1, from_, true, r_.2.2.2.2.2.2.2.1, r_.2.2.2.2.2.2.2.2) else (fun (s_ : ByteArray) (a_ : Int) => ((ls_mark.f k s_ a_).bind fun r_ => if r_.2.2.2.2.2.2.1 = true then some (r_.1, r_.2.1, r_.2.2.1, r_.2.2.2.1, r_.2.2.2.2.1, from_, true, r_.2.2.2.2.2.2.2.1, r_.2.2.2.2.2.2.2.2) else (fun (s_ : ByteArray) (a_ : Int) => none) r_.2.2.2.2.2.2.2.1 r_.2.2.2.2.2.2.2.2)) r_.2.2.2.2.2.2.2.1 r_.2.2.2.2.2.2.2.2)) r_.2.2.2.2.2.2.2.1 r_.2.2.2.2.2.2.2.2)) r_.2.2.2.2.2.2.2.1 r_.2.2.2.2.2.2.2.2)) r_.2.2.2.2.2.2.2.1 r_.2.2.2.2.2.2.2.2)) r_.2.2.2.2.2.2.2.1 r_.2.2.2.2.2.2.2.2)) r_.2.2.2.2.2.2.2.1 r_.2.2.2.2.2.2.2.2)
def ls_next.f (k : Nat) (s0_0 : ByteArray) (s0_1 : Int) : Option (Int × ByteArray × Int × ByteArray × ByteArray × Int × Bool × ByteArray × Int) := (ls_skip.f k s0_0 s0_1).bind fun b_ => if b_.2 ≥ (b_.1.size : Int) then some (0, (⟨#[]⟩ : ByteArray), 0, (⟨#[]⟩ : ByteArray), (⟨#[]⟩ : ByteArray), 0, false, b_.1, b_.2) else ls_next.g k b_.1 b_.2 b_.2
set_option maxHeartbeats 4000000 in
set_option maxRecDepth 100000 in
theorem ls_next.calls (k : Nat) (g : Nat) (s0_0 : ByteArray) (s0_1 : Int) (r1 : Int) (r2 : ByteArray) (r3 : Int) (r4 : ByteArray) (r5 : ByteArray) (r6 : Int) (r7 : Bool) (r8 : ByteArray) (r9 : Int) (w0 w : World) (hI : IsS73 w0 w g s0_0 s0_1) (hB : Below w0.heap.size w0 w) (h : ls_next.f k s0_0 s0_1 = some (r1, r2, r3, r4, r5, r6, r7, r8, r9)) :
  Calls Tryz.prog 48 #[.pointer (some ⟨g, 0, none⟩)] w fun e w' => e = .returned (.tuple #[.agg #[.int .i64 r1, .string r2, .int .i64 r3, .string r4, .string r5, .int .i64 r6], .bool r7]) ∧ IsS73 w0 w' g r8 r9 ∧ Below w0.heap.size w0 w' ∧ KeepBut w w' g none := by
 have hmf : ∀ (fn : Fn) (first cap : Array Value) (w : World), (Instr.makeFunc fn first cap).run Tryz.prog w = .ok (.func fn first cap) w := fun _ _ _ _ => rfl
 unfold ls_next.f at h
 obtain ⟨⟨s1, a1⟩, A0, H⟩ := Option.bind_eq_some_iff.mp h
 simp only at H
 have AS := Ad.mk A0
 clear h A0
 have HI := Ad.mk hI
 have HW0 := Ad.mk hB.size
 have HB := Ad.mk hB
 have HH := Ad.mk H
 clear hI hB H
 go_enter Tryz.func48, Tryz.ntmps48
 go_upto_region 2 with (first | ((with_reducible refine gate_dst (N := 2) rfl ?_); refine box_event r1_ (N := 2) r1_ (cs := #[.int .i64 0, .string ⟨#[]⟩, .int .i64 0, .string ⟨#[]⟩, .string ⟨#[]⟩, .int .i64 0]) (t := 43) r2_ ?_; intro gb hgb w1 hbox hb; have HX := Ad.mk (show IsS73 w0 w1 g s0_0 s0_1 ∧ Below w0.heap.size w0 w1 ∧ KeepBut w w1 g none ∧ w1.heap[gb]? = some (.cells #[.int .i64 0, .string ⟨#[]⟩, .int .i64 0, .string ⟨#[]⟩, .string ⟨#[]⟩, .int .i64 0] 43 (0, 0)) ∧ w.heap.size ≤ gb ∧ gb ≠ g from ⟨HI.out.below hb, below_then HB.out HB.out.size hb, KeepBut.of_below hb g none, hbox, Nat.le_of_eq hgb.symm, by rw [hgb]; exact Ne.symm (Nat.ne_of_lt HI.out.lt)⟩); clear hgb hbox hb HI HB) | (go_at_call 68; refine (ls_skip.calls k g s0_0 s0_1 s1 a1 w0 _ HX.out.1 HX.out.2.1 AS.out).mono ?_; rintro e w2 ⟨rfl, h1, h2, h3⟩; have HX2 := Ad.mk (show IsS73 w0 w2 g s1 a1 ∧ Below w0.heap.size w0 w2 ∧ KeepBut w w2 g none ∧ w2.heap[gb]? = some (.cells #[.int .i64 0, .string ⟨#[]⟩, .int .i64 0, .string ⟨#[]⟩, .string ⟨#[]⟩, .int .i64 0] 43 (0, 0)) ∧ w.heap.size ≤ gb ∧ gb ≠ g from ⟨h1, h2, HX.out.2.2.1.trans h3 (.inl rfl), (h3.2 gb (blk_lt HX.out.2.2.2.1) HX.out.2.2.2.2.2 (by simp)).trans HX.out.2.2.2.1, HX.out.2.2.2.2⟩); clear HX h1 h2 h3))
 have hc0 : w2.cell? ⟨g, 0, none⟩ = some (.string s1) := (blk_cell HX2.out.1.1 0).trans rfl
 have hc1 : w2.cell? ⟨g, 1, none⟩ = some (.int .i64 a1) := (blk_cell HX2.out.1.1 1).trans rfl
 by_cases c1 : a1 ≥ (s1.size : Int)
 ·have c1b : decide (a1 ≥ (s1.size : Int)) = true := decide_eq_true c1
  have H := HH.out
  clear HH
  rw [if_pos c1] at H
  simp only [Option.some.injEq, Prod.mk.injEq] at H
  obtain ⟨rfl, rfl, rfl, rfl, rfl, rfl, rfl, rfl, rfl⟩ := H
  repeat (go_quiet (fail); try go_wp2_with (first | ((with_reducible refine gate_store (t := 43) (p := 2) rfl ?_); refine store_seg (gy := gb) (j := 0) (T := 43) (TB := 43) (cs := #[.int .i64 0, .string ⟨#[]⟩, .int .i64 0, .string ⟨#[]⟩, .string ⟨#[]⟩, .int .i64 0]) (new := #[.int .i64 0, .string ⟨#[]⟩, .int .i64 0, .string ⟨#[]⟩, .string ⟨#[]⟩, .int .i64 0]) (u := .agg #[.int .i64 0, .string ⟨#[]⟩, .int .i64 0, .string ⟨#[]⟩, .string ⟨#[]⟩, .int .i64 0]) (seg := [.int .i64 0, .string ⟨#[]⟩, .int .i64 0, .string ⟨#[]⟩, .string ⟨#[]⟩, .int .i64 0]) rfl (p := .tmp 2) (x := .tmp 21) rfl rfl r1_ r1_ r1_ HX2.out.2.2.2.1 k1_ s1_ h1_ rfl ?_; intro w4 hz hup; have HZ := Ad.mk hz; have HU := Ad.mk hup; clear hz hup)))
  refine bodyPost_ret (results_ct rfl _ _ gb 43 #[.int .i64 0, .string ⟨#[]⟩, .int .i64 0, .string ⟨#[]⟩, .string ⟨#[]⟩, .int .i64 0] (0, 0) _ rfl HZ.out Tryz.underlying43 rfl k1_) rfl ?_
  exact ⟨rfl, ⟨(HU.out.other g (Ne.symm HX2.out.2.2.2.2.2)).trans HX2.out.1.1, HX2.out.1.2⟩, (pw_below_drewN HX2.out.2.1 nq).trans (HU.out.below (Nat.le_trans HW0.out HX2.out.2.2.2.2.1)), HU.out.keep (keep_drewN HX2.out.2.2.1 nq) HX2.out.2.2.2.2.1⟩
 have c1b : decide (a1 ≥ (s1.size : Int)) = false := decide_eq_false c1
 have H := HH.out
 clear HH
 rw [if_neg c1] at H
 unfold ls_next.g at H
 go_quiet (fail)
 go_wp2_with (first | ((with_reducible refine gate_dst (N := 40) rfl ?_); refine slice_event ?hg (N := 40) ?hd (cs := #[.func (.func 69) #[.pointer (some ⟨g, 0, none⟩)] #[], .func (.func 70) #[.pointer (some ⟨g, 0, none⟩)] #[], .func (.func 71) #[.pointer (some ⟨g, 0, none⟩)] #[], .func (.func 72) #[.pointer (some ⟨g, 0, none⟩)] #[], .func (.func 73) #[.pointer (some ⟨g, 0, none⟩)] #[], .func (.func 74) #[.pointer (some ⟨g, 0, none⟩)] #[], .func (.func 75) #[.pointer (some ⟨g, 0, none⟩)] #[]]) (t := 101) (n := 7) ?hr ?_; (case hd => rfl); (case hg => rfl); (case hr => first | (go_simp; done) | (go_simp; rfl)); intro gs hgs w3 hbox hb; have HN := Ad.mk (show NX w0 w w3 g gb gs s1 a1 #[.int .i64 0, .string ⟨#[]⟩, .int .i64 0, .string ⟨#[]⟩, .string ⟨#[]⟩, .int .i64 0] #[.func (.func 69) #[.pointer (some ⟨g, 0, none⟩)] #[], .func (.func 70) #[.pointer (some ⟨g, 0, none⟩)] #[], .func (.func 71) #[.pointer (some ⟨g, 0, none⟩)] #[], .func (.func 72) #[.pointer (some ⟨g, 0, none⟩)] #[], .func (.func 73) #[.pointer (some ⟨g, 0, none⟩)] #[], .func (.func 74) #[.pointer (some ⟨g, 0, none⟩)] #[], .func (.func 75) #[.pointer (some ⟨g, 0, none⟩)] #[]] 101 from ⟨(IsS73.drewN HX2.out.1 nq).below hb, below_then (pw_below_drewN HX2.out.2.1 nq) HX2.out.2.1.size hb, HX2.out.2.2.1.trans (KeepBut.of_below hb g none) (.inl rfl), blk_below (blk_drewN HX2.out.2.2.2.1 nq) hb, hbox, HX2.out.2.2.2.2.1, by rw [hgs]; exact HX2.out.2.2.1.1, HX2.out.2.2.2.2.2, by rw [hgs]; exact Ne.symm (Nat.ne_of_lt HX2.out.1.lt), by rw [hgs]; exact Nat.ne_of_lt (blk_lt HX2.out.2.2.2.1)⟩); clear hgs hbox hb))
 clear hc0 hc1 c1 c1b HX2
 refine wp_loop_rounds 7 ?_
 obtain ⟨⟨x1_0, x2_0, x3_0, x4_0, x5_0, x6_0, x7_0, x8_0, x9_0⟩, A, H⟩ := Option.bind_eq_some_iff.mp H
 try simp only at H
 have AR := Ad.mk A
 clear A
 have hf_ : w3.cell? ⟨gs, 0, none⟩ = some (.func (.func 69) #[.pointer (some ⟨g, 0, none⟩)] #[]) := (blk_cell HN.out.rows 0).trans rfl
 cases x7_0 with
 | true =>
  rw [if_pos rfl] at H
  simp only [Option.some.injEq, Prod.mk.injEq] at H
  obtain ⟨rfl, rfl, rfl, rfl, rfl, rfl, rfl, rfl, rfl⟩ := H
  rw [rounds_succ]
  go_wp2_with (first | (go_at_call 69; refine (ls_iri.calls k g s1 a1 x1_0 x2_0 x3_0 x4_0 x5_0 x6_0 true x8_0 x9_0 w0 _ HN.out.st HN.out.below AR.out).mono ?_; rintro e wa0 ⟨rfl, h1, h2, h3⟩; have HN1 := Ad.mk (HN.out.call h1 h2 h3); clear HN h1 h2 h3) | ((with_reducible refine gate_dst (N := 7) rfl ?_); refine box_event r1_ (N := 7) r1_ (cs := #[.int .i64 0, .string ⟨#[]⟩, .int .i64 0, .string ⟨#[]⟩, .string ⟨#[]⟩, .int .i64 0]) (t := 43) r2_ ?_; intro gy hgy wb0 hbox hb; have HN2 := Ad.mk (HN1.out.lower hb); have HY := Ad.mk hbox; have HF := Ad.mk (show w0.heap.size ≤ gy ∧ w.heap.size ≤ gy ∧ gy ≠ g ∧ gy ≠ gb ∧ gy ≠ gs from ⟨by rw [hgy]; exact HN1.out.below.size, by rw [hgy]; exact HN1.out.keep.1, by have G0 := HN1; exact z18_, by have G0 := HN1; exact z19_, by have G0 := HN1; exact z20_⟩); clear HN1 hgy hbox hb) | ((with_reducible refine gate_store (t := 43) (p := 7) rfl ?_); refine store_seg (gy := gy) (j := 0) (T := 43) (TB := 43) (cs := #[.int .i64 0, .string ⟨#[]⟩, .int .i64 0, .string ⟨#[]⟩, .string ⟨#[]⟩, .int .i64 0]) (new := #[.int .i64 x1_0, .string x2_0, .int .i64 x3_0, .string x4_0, .string x5_0, .int .i64 x6_0]) (u := .agg #[.int .i64 x1_0, .string x2_0, .int .i64 x3_0, .string x4_0, .string x5_0, .int .i64 x6_0]) (seg := [.int .i64 x1_0, .string x2_0, .int .i64 x3_0, .string x4_0, .string x5_0, .int .i64 x6_0]) rfl (p := .tmp 7) (x := .tmp 49) rfl rfl r1_ r1_ r1_ HY.out k1_ s1_ h1_ rfl ?_; intro wd0 hz hup; have HN := Ad.mk (HN2.out.upd hup HF.out.1 HF.out.2.1 HF.out.2.2.1 HF.out.2.2.2.1 HF.out.2.2.2.2); have HZ := Ad.mk hz; clear HN2 HY hz hup) | ((with_reducible refine gate_store (t := 3) (p := 53) rfl ?_); refine store_seg (gy := gy) (j := 5) (T := 3) (TB := 43) (cs := #[.int .i64 x1_0, .string x2_0, .int .i64 x3_0, .string x4_0, .string x5_0, .int .i64 x6_0]) (new := #[.int .i64 x1_0, .string x2_0, .int .i64 x3_0, .string x4_0, .string x5_0, .int .i64 a1]) (u := .int .i64 a1) (seg := [.int .i64 a1]) rfl (p := .tmp 53) (x := .tmp 52) rfl rfl r1_ r1_ r1_ HZ.out k1_ s1_ h1_ rfl ?_; intro we0 hz hup; have HN3 := Ad.mk (HN.out.upd hup HF.out.1 HF.out.2.1 HF.out.2.2.1 HF.out.2.2.2.1 HF.out.2.2.2.2); have HZ2 := Ad.mk hz; clear HN HZ hup; have hl0_ := (blk_cell hz 0).trans (show _ = some (.int .i64 x1_0) from rfl); have hl1_ := (blk_cell hz 1).trans (show _ = some (.string x2_0) from rfl); have hl2_ := (blk_cell hz 2).trans (show _ = some (.int .i64 x3_0) from rfl); have hl3_ := (blk_cell hz 3).trans (show _ = some (.string x4_0) from rfl); have hl4_ := (blk_cell hz 4).trans (show _ = some (.string x5_0) from rfl); have hl5_ := (blk_cell hz 5).trans (show _ = some (.int .i64 a1) from rfl); clear hz) | ((with_reducible refine gate_store (t := 43) (p := 2) rfl ?_); refine store_seg (gy := gb) (j := 0) (T := 43) (TB := 43) (cs := #[.int .i64 0, .string ⟨#[]⟩, .int .i64 0, .string ⟨#[]⟩, .string ⟨#[]⟩, .int .i64 0]) (new := #[.int .i64 x1_0, .string x2_0, .int .i64 x3_0, .string x4_0, .string x5_0, .int .i64 a1]) (u := .agg #[.int .i64 x1_0, .string x2_0, .int .i64 x3_0, .string x4_0, .string x5_0, .int .i64 a1]) (seg := [.int .i64 x1_0, .string x2_0, .int .i64 x3_0, .string x4_0, .string x5_0, .int .i64 a1]) rfl (p := .tmp 2) (x := .tmp 54) rfl rfl r1_ r1_ r1_ HN3.out.res k1_ s1_ h1_ rfl ?_; intro wf0 hz hup; have HN4 := Ad.mk (HN3.out.fill hup (Nat.le_trans HW0.out HN3.out.gbw) hz); clear HN3 hz hup))
  refine bodyPost_ret (results_ct rfl _ _ gb 43 #[.int .i64 x1_0, .string x2_0, .int .i64 x3_0, .string x4_0, .string x5_0, .int .i64 a1] (0, 0) _ rfl HN4.out.res Tryz.underlying43 rfl k1_) rfl ?_
  exact ⟨rfl, HN4.out.st, HN4.out.below, HN4.out.keep⟩
 | false =>
  rw [if_neg (by decide)] at H
  try simp only at H
  rw [rounds_succ]
  go_wp2_with (first | (go_at_call 69; refine (ls_iri.calls k g s1 a1 x1_0 x2_0 x3_0 x4_0 x5_0 x6_0 false x8_0 x9_0 w0 _ HN.out.st HN.out.below AR.out).mono ?_; rintro e wa0 ⟨rfl, h1, h2, h3⟩; have HN1 := Ad.mk (HN.out.call h1 h2 h3); clear HN h1 h2 h3) | ((with_reducible refine gate_dst (N := 7) rfl ?_); refine box_event r1_ (N := 7) r1_ (cs := #[.int .i64 0, .string ⟨#[]⟩, .int .i64 0, .string ⟨#[]⟩, .string ⟨#[]⟩, .int .i64 0]) (t := 43) r2_ ?_; intro gy hgy wb0 hbox hb; have HN2 := Ad.mk (HN1.out.lower hb); have HY := Ad.mk hbox; have HF := Ad.mk (show w0.heap.size ≤ gy ∧ w.heap.size ≤ gy ∧ gy ≠ g ∧ gy ≠ gb ∧ gy ≠ gs from ⟨by rw [hgy]; exact HN1.out.below.size, by rw [hgy]; exact HN1.out.keep.1, by have G0 := HN1; exact z18_, by have G0 := HN1; exact z19_, by have G0 := HN1; exact z20_⟩); clear HN1 hgy hbox hb) | ((with_reducible refine gate_store (t := 43) (p := 7) rfl ?_); refine store_seg (gy := gy) (j := 0) (T := 43) (TB := 43) (cs := #[.int .i64 0, .string ⟨#[]⟩, .int .i64 0, .string ⟨#[]⟩, .string ⟨#[]⟩, .int .i64 0]) (new := #[.int .i64 x1_0, .string x2_0, .int .i64 x3_0, .string x4_0, .string x5_0, .int .i64 x6_0]) (u := .agg #[.int .i64 x1_0, .string x2_0, .int .i64 x3_0, .string x4_0, .string x5_0, .int .i64 x6_0]) (seg := [.int .i64 x1_0, .string x2_0, .int .i64 x3_0, .string x4_0, .string x5_0, .int .i64 x6_0]) rfl (p := .tmp 7) (x := .tmp 49) rfl rfl r1_ r1_ r1_ HY.out k1_ s1_ h1_ rfl ?_; intro wd0 hz hup; have HN := Ad.mk (HN2.out.upd hup HF.out.1 HF.out.2.1 HF.out.2.2.1 HF.out.2.2.2.1 HF.out.2.2.2.2); have HZ := Ad.mk hz; clear HN2 HY hz hup))
  clear HZ HF hf_ AR
  obtain ⟨⟨x1_1, x2_1, x3_1, x4_1, x5_1, x6_1, x7_1, x8_1, x9_1⟩, A, H⟩ := Option.bind_eq_some_iff.mp H
  try simp only at H
  have AR := Ad.mk A
  clear A
  have hf_ : wd0.cell? ⟨gs, 1, none⟩ = some (.func (.func 70) #[.pointer (some ⟨g, 0, none⟩)] #[]) := (blk_cell HN.out.rows 1).trans rfl
  cases x7_1 with
  | true =>
   rw [if_pos rfl] at H
   simp only [Option.some.injEq, Prod.mk.injEq] at H
   obtain ⟨rfl, rfl, rfl, rfl, rfl, rfl, rfl, rfl, rfl⟩ := H
   rw [rounds_succ]
   go_wp2_with (first | (go_at_call 70; refine (ls_blank.calls g x8_0 x9_0 x1_1 x2_1 x3_1 x4_1 x5_1 x6_1 true x8_1 x9_1 w0 _ HN.out.st HN.out.below AR.out).mono ?_; rintro e wa1 ⟨rfl, h1, h2, h3⟩; have HN1 := Ad.mk (HN.out.call h1 h2 h3); clear HN h1 h2 h3) | ((with_reducible refine gate_dst (N := 7) rfl ?_); refine box_event r1_ (N := 7) r1_ (cs := #[.int .i64 0, .string ⟨#[]⟩, .int .i64 0, .string ⟨#[]⟩, .string ⟨#[]⟩, .int .i64 0]) (t := 43) r2_ ?_; intro gy hgy wb1 hbox hb; have HN2 := Ad.mk (HN1.out.lower hb); have HY := Ad.mk hbox; have HF := Ad.mk (show w0.heap.size ≤ gy ∧ w.heap.size ≤ gy ∧ gy ≠ g ∧ gy ≠ gb ∧ gy ≠ gs from ⟨by rw [hgy]; exact HN1.out.below.size, by rw [hgy]; exact HN1.out.keep.1, by have G0 := HN1; exact z18_, by have G0 := HN1; exact z19_, by have G0 := HN1; exact z20_⟩); clear HN1 hgy hbox hb) | ((with_reducible refine gate_store (t := 43) (p := 7) rfl ?_); refine store_seg (gy := gy) (j := 0) (T := 43) (TB := 43) (cs := #[.int .i64 0, .string ⟨#[]⟩, .int .i64 0, .string ⟨#[]⟩, .string ⟨#[]⟩, .int .i64 0]) (new := #[.int .i64 x1_1, .string x2_1, .int .i64 x3_1, .string x4_1, .string x5_1, .int .i64 x6_1]) (u := .agg #[.int .i64 x1_1, .string x2_1, .int .i64 x3_1, .string x4_1, .string x5_1, .int .i64 x6_1]) (seg := [.int .i64 x1_1, .string x2_1, .int .i64 x3_1, .string x4_1, .string x5_1, .int .i64 x6_1]) rfl (p := .tmp 7) (x := .tmp 49) rfl rfl r1_ r1_ r1_ HY.out k1_ s1_ h1_ rfl ?_; intro wd1 hz hup; have HN := Ad.mk (HN2.out.upd hup HF.out.1 HF.out.2.1 HF.out.2.2.1 HF.out.2.2.2.1 HF.out.2.2.2.2); have HZ := Ad.mk hz; clear HN2 HY hz hup) | ((with_reducible refine gate_store (t := 3) (p := 53) rfl ?_); refine store_seg (gy := gy) (j := 5) (T := 3) (TB := 43) (cs := #[.int .i64 x1_1, .string x2_1, .int .i64 x3_1, .string x4_1, .string x5_1, .int .i64 x6_1]) (new := #[.int .i64 x1_1, .string x2_1, .int .i64 x3_1, .string x4_1, .string x5_1, .int .i64 a1]) (u := .int .i64 a1) (seg := [.int .i64 a1]) rfl (p := .tmp 53) (x := .tmp 52) rfl rfl r1_ r1_ r1_ HZ.out k1_ s1_ h1_ rfl ?_; intro we1 hz hup; have HN3 := Ad.mk (HN.out.upd hup HF.out.1 HF.out.2.1 HF.out.2.2.1 HF.out.2.2.2.1 HF.out.2.2.2.2); have HZ2 := Ad.mk hz; clear HN HZ hup; have hl0_ := (blk_cell hz 0).trans (show _ = some (.int .i64 x1_1) from rfl); have hl1_ := (blk_cell hz 1).trans (show _ = some (.string x2_1) from rfl); have hl2_ := (blk_cell hz 2).trans (show _ = some (.int .i64 x3_1) from rfl); have hl3_ := (blk_cell hz 3).trans (show _ = some (.string x4_1) from rfl); have hl4_ := (blk_cell hz 4).trans (show _ = some (.string x5_1) from rfl); have hl5_ := (blk_cell hz 5).trans (show _ = some (.int .i64 a1) from rfl); clear hz) | ((with_reducible refine gate_store (t := 43) (p := 2) rfl ?_); refine store_seg (gy := gb) (j := 0) (T := 43) (TB := 43) (cs := #[.int .i64 0, .string ⟨#[]⟩, .int .i64 0, .string ⟨#[]⟩, .string ⟨#[]⟩, .int .i64 0]) (new := #[.int .i64 x1_1, .string x2_1, .int .i64 x3_1, .string x4_1, .string x5_1, .int .i64 a1]) (u := .agg #[.int .i64 x1_1, .string x2_1, .int .i64 x3_1, .string x4_1, .string x5_1, .int .i64 a1]) (seg := [.int .i64 x1_1, .string x2_1, .int .i64 x3_1, .string x4_1, .string x5_1, .int .i64 a1]) rfl (p := .tmp 2) (x := .tmp 54) rfl rfl r1_ r1_ r1_ HN3.out.res k1_ s1_ h1_ rfl ?_; intro wf1 hz hup; have HN4 := Ad.mk (HN3.out.fill hup (Nat.le_trans HW0.out HN3.out.gbw) hz); clear HN3 hz hup))
   refine bodyPost_ret (results_ct rfl _ _ gb 43 #[.int .i64 x1_1, .string x2_1, .int .i64 x3_1, .string x4_1, .string x5_1, .int .i64 a1] (0, 0) _ rfl HN4.out.res Tryz.underlying43 rfl k1_) rfl ?_
   exact ⟨rfl, HN4.out.st, HN4.out.below, HN4.out.keep⟩
  | false =>
   rw [if_neg (by decide)] at H
   try simp only at H
   rw [rounds_succ]
   go_wp2_with (first | (go_at_call 70; refine (ls_blank.calls g x8_0 x9_0 x1_1 x2_1 x3_1 x4_1 x5_1 x6_1 false x8_1 x9_1 w0 _ HN.out.st HN.out.below AR.out).mono ?_; rintro e wa1 ⟨rfl, h1, h2, h3⟩; have HN1 := Ad.mk (HN.out.call h1 h2 h3); clear HN h1 h2 h3) | ((with_reducible refine gate_dst (N := 7) rfl ?_); refine box_event r1_ (N := 7) r1_ (cs := #[.int .i64 0, .string ⟨#[]⟩, .int .i64 0, .string ⟨#[]⟩, .string ⟨#[]⟩, .int .i64 0]) (t := 43) r2_ ?_; intro gy hgy wb1 hbox hb; have HN2 := Ad.mk (HN1.out.lower hb); have HY := Ad.mk hbox; have HF := Ad.mk (show w0.heap.size ≤ gy ∧ w.heap.size ≤ gy ∧ gy ≠ g ∧ gy ≠ gb ∧ gy ≠ gs from ⟨by rw [hgy]; exact HN1.out.below.size, by rw [hgy]; exact HN1.out.keep.1, by have G0 := HN1; exact z18_, by have G0 := HN1; exact z19_, by have G0 := HN1; exact z20_⟩); clear HN1 hgy hbox hb) | ((with_reducible refine gate_store (t := 43) (p := 7) rfl ?_); refine store_seg (gy := gy) (j := 0) (T := 43) (TB := 43) (cs := #[.int .i64 0, .string ⟨#[]⟩, .int .i64 0, .string ⟨#[]⟩, .string ⟨#[]⟩, .int .i64 0]) (new := #[.int .i64 x1_1, .string x2_1, .int .i64 x3_1, .string x4_1, .string x5_1, .int .i64 x6_1]) (u := .agg #[.int .i64 x1_1, .string x2_1, .int .i64 x3_1, .string x4_1, .string x5_1, .int .i64 x6_1]) (seg := [.int .i64 x1_1, .string x2_1, .int .i64 x3_1, .string x4_1, .string x5_1, .int .i64 x6_1]) rfl (p := .tmp 7) (x := .tmp 49) rfl rfl r1_ r1_ r1_ HY.out k1_ s1_ h1_ rfl ?_; intro wd1 hz hup; have HN := Ad.mk (HN2.out.upd hup HF.out.1 HF.out.2.1 HF.out.2.2.1 HF.out.2.2.2.1 HF.out.2.2.2.2); have HZ := Ad.mk hz; clear HN2 HY hz hup))
   clear HZ HF hf_ AR
   obtain ⟨⟨x1_2, x2_2, x3_2, x4_2, x5_2, x6_2, x7_2, x8_2, x9_2⟩, A, H⟩ := Option.bind_eq_some_iff.mp H
   try simp only at H
   have AR := Ad.mk A
   clear A
   have hf_ : wd1.cell? ⟨gs, 2, none⟩ = some (.func (.func 71) #[.pointer (some ⟨g, 0, none⟩)] #[]) := (blk_cell HN.out.rows 2).trans rfl
   cases x7_2 with
   | true =>
    rw [if_pos rfl] at H
    simp only [Option.some.injEq, Prod.mk.injEq] at H
    obtain ⟨rfl, rfl, rfl, rfl, rfl, rfl, rfl, rfl, rfl⟩ := H
    rw [rounds_succ]
    go_wp2_with (first | (go_at_call 71; refine (ls_text.calls k g x8_1 x9_1 x1_2 x2_2 x3_2 x4_2 x5_2 x6_2 true x8_2 x9_2 w0 _ HN.out.st HN.out.below AR.out).mono ?_; rintro e wa2 ⟨rfl, h1, h2, h3⟩; have HN1 := Ad.mk (HN.out.call h1 h2 h3); clear HN h1 h2 h3) | ((with_reducible refine gate_dst (N := 7) rfl ?_); refine box_event r1_ (N := 7) r1_ (cs := #[.int .i64 0, .string ⟨#[]⟩, .int .i64 0, .string ⟨#[]⟩, .string ⟨#[]⟩, .int .i64 0]) (t := 43) r2_ ?_; intro gy hgy wb2 hbox hb; have HN2 := Ad.mk (HN1.out.lower hb); have HY := Ad.mk hbox; have HF := Ad.mk (show w0.heap.size ≤ gy ∧ w.heap.size ≤ gy ∧ gy ≠ g ∧ gy ≠ gb ∧ gy ≠ gs from ⟨by rw [hgy]; exact HN1.out.below.size, by rw [hgy]; exact HN1.out.keep.1, by have G0 := HN1; exact z18_, by have G0 := HN1; exact z19_, by have G0 := HN1; exact z20_⟩); clear HN1 hgy hbox hb) | ((with_reducible refine gate_store (t := 43) (p := 7) rfl ?_); refine store_seg (gy := gy) (j := 0) (T := 43) (TB := 43) (cs := #[.int .i64 0, .string ⟨#[]⟩, .int .i64 0, .string ⟨#[]⟩, .string ⟨#[]⟩, .int .i64 0]) (new := #[.int .i64 x1_2, .string x2_2, .int .i64 x3_2, .string x4_2, .string x5_2, .int .i64 x6_2]) (u := .agg #[.int .i64 x1_2, .string x2_2, .int .i64 x3_2, .string x4_2, .string x5_2, .int .i64 x6_2]) (seg := [.int .i64 x1_2, .string x2_2, .int .i64 x3_2, .string x4_2, .string x5_2, .int .i64 x6_2]) rfl (p := .tmp 7) (x := .tmp 49) rfl rfl r1_ r1_ r1_ HY.out k1_ s1_ h1_ rfl ?_; intro wd2 hz hup; have HN := Ad.mk (HN2.out.upd hup HF.out.1 HF.out.2.1 HF.out.2.2.1 HF.out.2.2.2.1 HF.out.2.2.2.2); have HZ := Ad.mk hz; clear HN2 HY hz hup) | ((with_reducible refine gate_store (t := 3) (p := 53) rfl ?_); refine store_seg (gy := gy) (j := 5) (T := 3) (TB := 43) (cs := #[.int .i64 x1_2, .string x2_2, .int .i64 x3_2, .string x4_2, .string x5_2, .int .i64 x6_2]) (new := #[.int .i64 x1_2, .string x2_2, .int .i64 x3_2, .string x4_2, .string x5_2, .int .i64 a1]) (u := .int .i64 a1) (seg := [.int .i64 a1]) rfl (p := .tmp 53) (x := .tmp 52) rfl rfl r1_ r1_ r1_ HZ.out k1_ s1_ h1_ rfl ?_; intro we2 hz hup; have HN3 := Ad.mk (HN.out.upd hup HF.out.1 HF.out.2.1 HF.out.2.2.1 HF.out.2.2.2.1 HF.out.2.2.2.2); have HZ2 := Ad.mk hz; clear HN HZ hup; have hl0_ := (blk_cell hz 0).trans (show _ = some (.int .i64 x1_2) from rfl); have hl1_ := (blk_cell hz 1).trans (show _ = some (.string x2_2) from rfl); have hl2_ := (blk_cell hz 2).trans (show _ = some (.int .i64 x3_2) from rfl); have hl3_ := (blk_cell hz 3).trans (show _ = some (.string x4_2) from rfl); have hl4_ := (blk_cell hz 4).trans (show _ = some (.string x5_2) from rfl); have hl5_ := (blk_cell hz 5).trans (show _ = some (.int .i64 a1) from rfl); clear hz) | ((with_reducible refine gate_store (t := 43) (p := 2) rfl ?_); refine store_seg (gy := gb) (j := 0) (T := 43) (TB := 43) (cs := #[.int .i64 0, .string ⟨#[]⟩, .int .i64 0, .string ⟨#[]⟩, .string ⟨#[]⟩, .int .i64 0]) (new := #[.int .i64 x1_2, .string x2_2, .int .i64 x3_2, .string x4_2, .string x5_2, .int .i64 a1]) (u := .agg #[.int .i64 x1_2, .string x2_2, .int .i64 x3_2, .string x4_2, .string x5_2, .int .i64 a1]) (seg := [.int .i64 x1_2, .string x2_2, .int .i64 x3_2, .string x4_2, .string x5_2, .int .i64 a1]) rfl (p := .tmp 2) (x := .tmp 54) rfl rfl r1_ r1_ r1_ HN3.out.res k1_ s1_ h1_ rfl ?_; intro wf2 hz hup; have HN4 := Ad.mk (HN3.out.fill hup (Nat.le_trans HW0.out HN3.out.gbw) hz); clear HN3 hz hup))
    refine bodyPost_ret (results_ct rfl _ _ gb 43 #[.int .i64 x1_2, .string x2_2, .int .i64 x3_2, .string x4_2, .string x5_2, .int .i64 a1] (0, 0) _ rfl HN4.out.res Tryz.underlying43 rfl k1_) rfl ?_
    exact ⟨rfl, HN4.out.st, HN4.out.below, HN4.out.keep⟩
   | false =>
    rw [if_neg (by decide)] at H
    try simp only at H
    rw [rounds_succ]
    go_wp2_with (first | (go_at_call 71; refine (ls_text.calls k g x8_1 x9_1 x1_2 x2_2 x3_2 x4_2 x5_2 x6_2 false x8_2 x9_2 w0 _ HN.out.st HN.out.below AR.out).mono ?_; rintro e wa2 ⟨rfl, h1, h2, h3⟩; have HN1 := Ad.mk (HN.out.call h1 h2 h3); clear HN h1 h2 h3) | ((with_reducible refine gate_dst (N := 7) rfl ?_); refine box_event r1_ (N := 7) r1_ (cs := #[.int .i64 0, .string ⟨#[]⟩, .int .i64 0, .string ⟨#[]⟩, .string ⟨#[]⟩, .int .i64 0]) (t := 43) r2_ ?_; intro gy hgy wb2 hbox hb; have HN2 := Ad.mk (HN1.out.lower hb); have HY := Ad.mk hbox; have HF := Ad.mk (show w0.heap.size ≤ gy ∧ w.heap.size ≤ gy ∧ gy ≠ g ∧ gy ≠ gb ∧ gy ≠ gs from ⟨by rw [hgy]; exact HN1.out.below.size, by rw [hgy]; exact HN1.out.keep.1, by have G0 := HN1; exact z18_, by have G0 := HN1; exact z19_, by have G0 := HN1; exact z20_⟩); clear HN1 hgy hbox hb) | ((with_reducible refine gate_store (t := 43) (p := 7) rfl ?_); refine store_seg (gy := gy) (j := 0) (T := 43) (TB := 43) (cs := #[.int .i64 0, .string ⟨#[]⟩, .int .i64 0, .string ⟨#[]⟩, .string ⟨#[]⟩, .int .i64 0]) (new := #[.int .i64 x1_2, .string x2_2, .int .i64 x3_2, .string x4_2, .string x5_2, .int .i64 x6_2]) (u := .agg #[.int .i64 x1_2, .string x2_2, .int .i64 x3_2, .string x4_2, .string x5_2, .int .i64 x6_2]) (seg := [.int .i64 x1_2, .string x2_2, .int .i64 x3_2, .string x4_2, .string x5_2, .int .i64 x6_2]) rfl (p := .tmp 7) (x := .tmp 49) rfl rfl r1_ r1_ r1_ HY.out k1_ s1_ h1_ rfl ?_; intro wd2 hz hup; have HN := Ad.mk (HN2.out.upd hup HF.out.1 HF.out.2.1 HF.out.2.2.1 HF.out.2.2.2.1 HF.out.2.2.2.2); have HZ := Ad.mk hz; clear HN2 HY hz hup))
    clear HZ HF hf_ AR
    obtain ⟨⟨x1_3, x2_3, x3_3, x4_3, x5_3, x6_3, x7_3, x8_3, x9_3⟩, A, H⟩ := Option.bind_eq_some_iff.mp H
    try simp only at H
    have AR := Ad.mk A
    clear A
    have hf_ : wd2.cell? ⟨gs, 3, none⟩ = some (.func (.func 72) #[.pointer (some ⟨g, 0, none⟩)] #[]) := (blk_cell HN.out.rows 3).trans rfl
    cases x7_3 with
    | true =>
     rw [if_pos rfl] at H
     simp only [Option.some.injEq, Prod.mk.injEq] at H
     obtain ⟨rfl, rfl, rfl, rfl, rfl, rfl, rfl, rfl, rfl⟩ := H
     rw [rounds_succ]
     go_wp2_with (first | (go_at_call 72; refine (ls_lang.calls k g x8_2 x9_2 x1_3 x2_3 x3_3 x4_3 x5_3 x6_3 true x8_3 x9_3 w0 _ HN.out.st HN.out.below AR.out).mono ?_; rintro e wa3 ⟨rfl, h1, h2, h3⟩; have HN1 := Ad.mk (HN.out.call h1 h2 h3); clear HN h1 h2 h3) | ((with_reducible refine gate_dst (N := 7) rfl ?_); refine box_event r1_ (N := 7) r1_ (cs := #[.int .i64 0, .string ⟨#[]⟩, .int .i64 0, .string ⟨#[]⟩, .string ⟨#[]⟩, .int .i64 0]) (t := 43) r2_ ?_; intro gy hgy wb3 hbox hb; have HN2 := Ad.mk (HN1.out.lower hb); have HY := Ad.mk hbox; have HF := Ad.mk (show w0.heap.size ≤ gy ∧ w.heap.size ≤ gy ∧ gy ≠ g ∧ gy ≠ gb ∧ gy ≠ gs from ⟨by rw [hgy]; exact HN1.out.below.size, by rw [hgy]; exact HN1.out.keep.1, by have G0 := HN1; exact z18_, by have G0 := HN1; exact z19_, by have G0 := HN1; exact z20_⟩); clear HN1 hgy hbox hb) | ((with_reducible refine gate_store (t := 43) (p := 7) rfl ?_); refine store_seg (gy := gy) (j := 0) (T := 43) (TB := 43) (cs := #[.int .i64 0, .string ⟨#[]⟩, .int .i64 0, .string ⟨#[]⟩, .string ⟨#[]⟩, .int .i64 0]) (new := #[.int .i64 x1_3, .string x2_3, .int .i64 x3_3, .string x4_3, .string x5_3, .int .i64 x6_3]) (u := .agg #[.int .i64 x1_3, .string x2_3, .int .i64 x3_3, .string x4_3, .string x5_3, .int .i64 x6_3]) (seg := [.int .i64 x1_3, .string x2_3, .int .i64 x3_3, .string x4_3, .string x5_3, .int .i64 x6_3]) rfl (p := .tmp 7) (x := .tmp 49) rfl rfl r1_ r1_ r1_ HY.out k1_ s1_ h1_ rfl ?_; intro wd3 hz hup; have HN := Ad.mk (HN2.out.upd hup HF.out.1 HF.out.2.1 HF.out.2.2.1 HF.out.2.2.2.1 HF.out.2.2.2.2); have HZ := Ad.mk hz; clear HN2 HY hz hup) | ((with_reducible refine gate_store (t := 3) (p := 53) rfl ?_); refine store_seg (gy := gy) (j := 5) (T := 3) (TB := 43) (cs := #[.int .i64 x1_3, .string x2_3, .int .i64 x3_3, .string x4_3, .string x5_3, .int .i64 x6_3]) (new := #[.int .i64 x1_3, .string x2_3, .int .i64 x3_3, .string x4_3, .string x5_3, .int .i64 a1]) (u := .int .i64 a1) (seg := [.int .i64 a1]) rfl (p := .tmp 53) (x := .tmp 52) rfl rfl r1_ r1_ r1_ HZ.out k1_ s1_ h1_ rfl ?_; intro we3 hz hup; have HN3 := Ad.mk (HN.out.upd hup HF.out.1 HF.out.2.1 HF.out.2.2.1 HF.out.2.2.2.1 HF.out.2.2.2.2); have HZ2 := Ad.mk hz; clear HN HZ hup; have hl0_ := (blk_cell hz 0).trans (show _ = some (.int .i64 x1_3) from rfl); have hl1_ := (blk_cell hz 1).trans (show _ = some (.string x2_3) from rfl); have hl2_ := (blk_cell hz 2).trans (show _ = some (.int .i64 x3_3) from rfl); have hl3_ := (blk_cell hz 3).trans (show _ = some (.string x4_3) from rfl); have hl4_ := (blk_cell hz 4).trans (show _ = some (.string x5_3) from rfl); have hl5_ := (blk_cell hz 5).trans (show _ = some (.int .i64 a1) from rfl); clear hz) | ((with_reducible refine gate_store (t := 43) (p := 2) rfl ?_); refine store_seg (gy := gb) (j := 0) (T := 43) (TB := 43) (cs := #[.int .i64 0, .string ⟨#[]⟩, .int .i64 0, .string ⟨#[]⟩, .string ⟨#[]⟩, .int .i64 0]) (new := #[.int .i64 x1_3, .string x2_3, .int .i64 x3_3, .string x4_3, .string x5_3, .int .i64 a1]) (u := .agg #[.int .i64 x1_3, .string x2_3, .int .i64 x3_3, .string x4_3, .string x5_3, .int .i64 a1]) (seg := [.int .i64 x1_3, .string x2_3, .int .i64 x3_3, .string x4_3, .string x5_3, .int .i64 a1]) rfl (p := .tmp 2) (x := .tmp 54) rfl rfl r1_ r1_ r1_ HN3.out.res k1_ s1_ h1_ rfl ?_; intro wf3 hz hup; have HN4 := Ad.mk (HN3.out.fill hup (Nat.le_trans HW0.out HN3.out.gbw) hz); clear HN3 hz hup))
     refine bodyPost_ret (results_ct rfl _ _ gb 43 #[.int .i64 x1_3, .string x2_3, .int .i64 x3_3, .string x4_3, .string x5_3, .int .i64 a1] (0, 0) _ rfl HN4.out.res Tryz.underlying43 rfl k1_) rfl ?_
     exact ⟨rfl, HN4.out.st, HN4.out.below, HN4.out.keep⟩
    | false =>
     rw [if_neg (by decide)] at H
     try simp only at H
     rw [rounds_succ]
     go_wp2_with (first | (go_at_call 72; refine (ls_lang.calls k g x8_2 x9_2 x1_3 x2_3 x3_3 x4_3 x5_3 x6_3 false x8_3 x9_3 w0 _ HN.out.st HN.out.below AR.out).mono ?_; rintro e wa3 ⟨rfl, h1, h2, h3⟩; have HN1 := Ad.mk (HN.out.call h1 h2 h3); clear HN h1 h2 h3) | ((with_reducible refine gate_dst (N := 7) rfl ?_); refine box_event r1_ (N := 7) r1_ (cs := #[.int .i64 0, .string ⟨#[]⟩, .int .i64 0, .string ⟨#[]⟩, .string ⟨#[]⟩, .int .i64 0]) (t := 43) r2_ ?_; intro gy hgy wb3 hbox hb; have HN2 := Ad.mk (HN1.out.lower hb); have HY := Ad.mk hbox; have HF := Ad.mk (show w0.heap.size ≤ gy ∧ w.heap.size ≤ gy ∧ gy ≠ g ∧ gy ≠ gb ∧ gy ≠ gs from ⟨by rw [hgy]; exact HN1.out.below.size, by rw [hgy]; exact HN1.out.keep.1, by have G0 := HN1; exact z18_, by have G0 := HN1; exact z19_, by have G0 := HN1; exact z20_⟩); clear HN1 hgy hbox hb) | ((with_reducible refine gate_store (t := 43) (p := 7) rfl ?_); refine store_seg (gy := gy) (j := 0) (T := 43) (TB := 43) (cs := #[.int .i64 0, .string ⟨#[]⟩, .int .i64 0, .string ⟨#[]⟩, .string ⟨#[]⟩, .int .i64 0]) (new := #[.int .i64 x1_3, .string x2_3, .int .i64 x3_3, .string x4_3, .string x5_3, .int .i64 x6_3]) (u := .agg #[.int .i64 x1_3, .string x2_3, .int .i64 x3_3, .string x4_3, .string x5_3, .int .i64 x6_3]) (seg := [.int .i64 x1_3, .string x2_3, .int .i64 x3_3, .string x4_3, .string x5_3, .int .i64 x6_3]) rfl (p := .tmp 7) (x := .tmp 49) rfl rfl r1_ r1_ r1_ HY.out k1_ s1_ h1_ rfl ?_; intro wd3 hz hup; have HN := Ad.mk (HN2.out.upd hup HF.out.1 HF.out.2.1 HF.out.2.2.1 HF.out.2.2.2.1 HF.out.2.2.2.2); have HZ := Ad.mk hz; clear HN2 HY hz hup))
     clear HZ HF hf_ AR
     obtain ⟨⟨x1_4, x2_4, x3_4, x4_4, x5_4, x6_4, x7_4, x8_4, x9_4⟩, A, H⟩ := Option.bind_eq_some_iff.mp H
     try simp only at H
     have AR := Ad.mk A
     clear A
     have hf_ : wd3.cell? ⟨gs, 4, none⟩ = some (.func (.func 73) #[.pointer (some ⟨g, 0, none⟩)] #[]) := (blk_cell HN.out.rows 4).trans rfl
     cases x7_4 with
     | true =>
      rw [if_pos rfl] at H
      simp only [Option.some.injEq, Prod.mk.injEq] at H
      obtain ⟨rfl, rfl, rfl, rfl, rfl, rfl, rfl, rfl, rfl⟩ := H
      rw [rounds_succ]
      go_wp2_with (first | (go_at_call 73; refine (ls_variable.calls k g x8_3 x9_3 x1_4 x2_4 x3_4 x4_4 x5_4 x6_4 true x8_4 x9_4 w0 _ HN.out.st HN.out.below AR.out).mono ?_; rintro e wa4 ⟨rfl, h1, h2, h3⟩; have HN1 := Ad.mk (HN.out.call h1 h2 h3); clear HN h1 h2 h3) | ((with_reducible refine gate_dst (N := 7) rfl ?_); refine box_event r1_ (N := 7) r1_ (cs := #[.int .i64 0, .string ⟨#[]⟩, .int .i64 0, .string ⟨#[]⟩, .string ⟨#[]⟩, .int .i64 0]) (t := 43) r2_ ?_; intro gy hgy wb4 hbox hb; have HN2 := Ad.mk (HN1.out.lower hb); have HY := Ad.mk hbox; have HF := Ad.mk (show w0.heap.size ≤ gy ∧ w.heap.size ≤ gy ∧ gy ≠ g ∧ gy ≠ gb ∧ gy ≠ gs from ⟨by rw [hgy]; exact HN1.out.below.size, by rw [hgy]; exact HN1.out.keep.1, by have G0 := HN1; exact z18_, by have G0 := HN1; exact z19_, by have G0 := HN1; exact z20_⟩); clear HN1 hgy hbox hb) | ((with_reducible refine gate_store (t := 43) (p := 7) rfl ?_); refine store_seg (gy := gy) (j := 0) (T := 43) (TB := 43) (cs := #[.int .i64 0, .string ⟨#[]⟩, .int .i64 0, .string ⟨#[]⟩, .string ⟨#[]⟩, .int .i64 0]) (new := #[.int .i64 x1_4, .string x2_4, .int .i64 x3_4, .string x4_4, .string x5_4, .int .i64 x6_4]) (u := .agg #[.int .i64 x1_4, .string x2_4, .int .i64 x3_4, .string x4_4, .string x5_4, .int .i64 x6_4]) (seg := [.int .i64 x1_4, .string x2_4, .int .i64 x3_4, .string x4_4, .string x5_4, .int .i64 x6_4]) rfl (p := .tmp 7) (x := .tmp 49) rfl rfl r1_ r1_ r1_ HY.out k1_ s1_ h1_ rfl ?_; intro wd4 hz hup; have HN := Ad.mk (HN2.out.upd hup HF.out.1 HF.out.2.1 HF.out.2.2.1 HF.out.2.2.2.1 HF.out.2.2.2.2); have HZ := Ad.mk hz; clear HN2 HY hz hup) | ((with_reducible refine gate_store (t := 3) (p := 53) rfl ?_); refine store_seg (gy := gy) (j := 5) (T := 3) (TB := 43) (cs := #[.int .i64 x1_4, .string x2_4, .int .i64 x3_4, .string x4_4, .string x5_4, .int .i64 x6_4]) (new := #[.int .i64 x1_4, .string x2_4, .int .i64 x3_4, .string x4_4, .string x5_4, .int .i64 a1]) (u := .int .i64 a1) (seg := [.int .i64 a1]) rfl (p := .tmp 53) (x := .tmp 52) rfl rfl r1_ r1_ r1_ HZ.out k1_ s1_ h1_ rfl ?_; intro we4 hz hup; have HN3 := Ad.mk (HN.out.upd hup HF.out.1 HF.out.2.1 HF.out.2.2.1 HF.out.2.2.2.1 HF.out.2.2.2.2); have HZ2 := Ad.mk hz; clear HN HZ hup; have hl0_ := (blk_cell hz 0).trans (show _ = some (.int .i64 x1_4) from rfl); have hl1_ := (blk_cell hz 1).trans (show _ = some (.string x2_4) from rfl); have hl2_ := (blk_cell hz 2).trans (show _ = some (.int .i64 x3_4) from rfl); have hl3_ := (blk_cell hz 3).trans (show _ = some (.string x4_4) from rfl); have hl4_ := (blk_cell hz 4).trans (show _ = some (.string x5_4) from rfl); have hl5_ := (blk_cell hz 5).trans (show _ = some (.int .i64 a1) from rfl); clear hz) | ((with_reducible refine gate_store (t := 43) (p := 2) rfl ?_); refine store_seg (gy := gb) (j := 0) (T := 43) (TB := 43) (cs := #[.int .i64 0, .string ⟨#[]⟩, .int .i64 0, .string ⟨#[]⟩, .string ⟨#[]⟩, .int .i64 0]) (new := #[.int .i64 x1_4, .string x2_4, .int .i64 x3_4, .string x4_4, .string x5_4, .int .i64 a1]) (u := .agg #[.int .i64 x1_4, .string x2_4, .int .i64 x3_4, .string x4_4, .string x5_4, .int .i64 a1]) (seg := [.int .i64 x1_4, .string x2_4, .int .i64 x3_4, .string x4_4, .string x5_4, .int .i64 a1]) rfl (p := .tmp 2) (x := .tmp 54) rfl rfl r1_ r1_ r1_ HN3.out.res k1_ s1_ h1_ rfl ?_; intro wf4 hz hup; have HN4 := Ad.mk (HN3.out.fill hup (Nat.le_trans HW0.out HN3.out.gbw) hz); clear HN3 hz hup))
      refine bodyPost_ret (results_ct rfl _ _ gb 43 #[.int .i64 x1_4, .string x2_4, .int .i64 x3_4, .string x4_4, .string x5_4, .int .i64 a1] (0, 0) _ rfl HN4.out.res Tryz.underlying43 rfl k1_) rfl ?_
      exact ⟨rfl, HN4.out.st, HN4.out.below, HN4.out.keep⟩
     | false =>
      rw [if_neg (by decide)] at H
      try simp only at H
      rw [rounds_succ]
      go_wp2_with (first | (go_at_call 73; refine (ls_variable.calls k g x8_3 x9_3 x1_4 x2_4 x3_4 x4_4 x5_4 x6_4 false x8_4 x9_4 w0 _ HN.out.st HN.out.below AR.out).mono ?_; rintro e wa4 ⟨rfl, h1, h2, h3⟩; have HN1 := Ad.mk (HN.out.call h1 h2 h3); clear HN h1 h2 h3) | ((with_reducible refine gate_dst (N := 7) rfl ?_); refine box_event r1_ (N := 7) r1_ (cs := #[.int .i64 0, .string ⟨#[]⟩, .int .i64 0, .string ⟨#[]⟩, .string ⟨#[]⟩, .int .i64 0]) (t := 43) r2_ ?_; intro gy hgy wb4 hbox hb; have HN2 := Ad.mk (HN1.out.lower hb); have HY := Ad.mk hbox; have HF := Ad.mk (show w0.heap.size ≤ gy ∧ w.heap.size ≤ gy ∧ gy ≠ g ∧ gy ≠ gb ∧ gy ≠ gs from ⟨by rw [hgy]; exact HN1.out.below.size, by rw [hgy]; exact HN1.out.keep.1, by have G0 := HN1; exact z18_, by have G0 := HN1; exact z19_, by have G0 := HN1; exact z20_⟩); clear HN1 hgy hbox hb) | ((with_reducible refine gate_store (t := 43) (p := 7) rfl ?_); refine store_seg (gy := gy) (j := 0) (T := 43) (TB := 43) (cs := #[.int .i64 0, .string ⟨#[]⟩, .int .i64 0, .string ⟨#[]⟩, .string ⟨#[]⟩, .int .i64 0]) (new := #[.int .i64 x1_4, .string x2_4, .int .i64 x3_4, .string x4_4, .string x5_4, .int .i64 x6_4]) (u := .agg #[.int .i64 x1_4, .string x2_4, .int .i64 x3_4, .string x4_4, .string x5_4, .int .i64 x6_4]) (seg := [.int .i64 x1_4, .string x2_4, .int .i64 x3_4, .string x4_4, .string x5_4, .int .i64 x6_4]) rfl (p := .tmp 7) (x := .tmp 49) rfl rfl r1_ r1_ r1_ HY.out k1_ s1_ h1_ rfl ?_; intro wd4 hz hup; have HN := Ad.mk (HN2.out.upd hup HF.out.1 HF.out.2.1 HF.out.2.2.1 HF.out.2.2.2.1 HF.out.2.2.2.2); have HZ := Ad.mk hz; clear HN2 HY hz hup))
      clear HZ HF hf_ AR
      obtain ⟨⟨x1_5, x2_5, x3_5, x4_5, x5_5, x6_5, x7_5, x8_5, x9_5⟩, A, H⟩ := Option.bind_eq_some_iff.mp H
      try simp only at H
      have AR := Ad.mk A
      clear A
      have hf_ : wd4.cell? ⟨gs, 5, none⟩ = some (.func (.func 74) #[.pointer (some ⟨g, 0, none⟩)] #[]) := (blk_cell HN.out.rows 5).trans rfl
      cases x7_5 with
      | true =>
       rw [if_pos rfl] at H
       simp only [Option.some.injEq, Prod.mk.injEq] at H
       obtain ⟨rfl, rfl, rfl, rfl, rfl, rfl, rfl, rfl, rfl⟩ := H
       rw [rounds_succ]
       go_wp2_with (first | (go_at_call 74; refine (ls_word.calls k g x8_4 x9_4 x1_5 x2_5 x3_5 x4_5 x5_5 x6_5 true x8_5 x9_5 w0 _ HN.out.st HN.out.below AR.out).mono ?_; rintro e wa5 ⟨rfl, h1, h2, h3⟩; have HN1 := Ad.mk (HN.out.call h1 h2 h3); clear HN h1 h2 h3) | ((with_reducible refine gate_dst (N := 7) rfl ?_); refine box_event r1_ (N := 7) r1_ (cs := #[.int .i64 0, .string ⟨#[]⟩, .int .i64 0, .string ⟨#[]⟩, .string ⟨#[]⟩, .int .i64 0]) (t := 43) r2_ ?_; intro gy hgy wb5 hbox hb; have HN2 := Ad.mk (HN1.out.lower hb); have HY := Ad.mk hbox; have HF := Ad.mk (show w0.heap.size ≤ gy ∧ w.heap.size ≤ gy ∧ gy ≠ g ∧ gy ≠ gb ∧ gy ≠ gs from ⟨by rw [hgy]; exact HN1.out.below.size, by rw [hgy]; exact HN1.out.keep.1, by have G0 := HN1; exact z18_, by have G0 := HN1; exact z19_, by have G0 := HN1; exact z20_⟩); clear HN1 hgy hbox hb) | ((with_reducible refine gate_store (t := 43) (p := 7) rfl ?_); refine store_seg (gy := gy) (j := 0) (T := 43) (TB := 43) (cs := #[.int .i64 0, .string ⟨#[]⟩, .int .i64 0, .string ⟨#[]⟩, .string ⟨#[]⟩, .int .i64 0]) (new := #[.int .i64 x1_5, .string x2_5, .int .i64 x3_5, .string x4_5, .string x5_5, .int .i64 x6_5]) (u := .agg #[.int .i64 x1_5, .string x2_5, .int .i64 x3_5, .string x4_5, .string x5_5, .int .i64 x6_5]) (seg := [.int .i64 x1_5, .string x2_5, .int .i64 x3_5, .string x4_5, .string x5_5, .int .i64 x6_5]) rfl (p := .tmp 7) (x := .tmp 49) rfl rfl r1_ r1_ r1_ HY.out k1_ s1_ h1_ rfl ?_; intro wd5 hz hup; have HN := Ad.mk (HN2.out.upd hup HF.out.1 HF.out.2.1 HF.out.2.2.1 HF.out.2.2.2.1 HF.out.2.2.2.2); have HZ := Ad.mk hz; clear HN2 HY hz hup) | ((with_reducible refine gate_store (t := 3) (p := 53) rfl ?_); refine store_seg (gy := gy) (j := 5) (T := 3) (TB := 43) (cs := #[.int .i64 x1_5, .string x2_5, .int .i64 x3_5, .string x4_5, .string x5_5, .int .i64 x6_5]) (new := #[.int .i64 x1_5, .string x2_5, .int .i64 x3_5, .string x4_5, .string x5_5, .int .i64 a1]) (u := .int .i64 a1) (seg := [.int .i64 a1]) rfl (p := .tmp 53) (x := .tmp 52) rfl rfl r1_ r1_ r1_ HZ.out k1_ s1_ h1_ rfl ?_; intro we5 hz hup; have HN3 := Ad.mk (HN.out.upd hup HF.out.1 HF.out.2.1 HF.out.2.2.1 HF.out.2.2.2.1 HF.out.2.2.2.2); have HZ2 := Ad.mk hz; clear HN HZ hup; have hl0_ := (blk_cell hz 0).trans (show _ = some (.int .i64 x1_5) from rfl); have hl1_ := (blk_cell hz 1).trans (show _ = some (.string x2_5) from rfl); have hl2_ := (blk_cell hz 2).trans (show _ = some (.int .i64 x3_5) from rfl); have hl3_ := (blk_cell hz 3).trans (show _ = some (.string x4_5) from rfl); have hl4_ := (blk_cell hz 4).trans (show _ = some (.string x5_5) from rfl); have hl5_ := (blk_cell hz 5).trans (show _ = some (.int .i64 a1) from rfl); clear hz) | ((with_reducible refine gate_store (t := 43) (p := 2) rfl ?_); refine store_seg (gy := gb) (j := 0) (T := 43) (TB := 43) (cs := #[.int .i64 0, .string ⟨#[]⟩, .int .i64 0, .string ⟨#[]⟩, .string ⟨#[]⟩, .int .i64 0]) (new := #[.int .i64 x1_5, .string x2_5, .int .i64 x3_5, .string x4_5, .string x5_5, .int .i64 a1]) (u := .agg #[.int .i64 x1_5, .string x2_5, .int .i64 x3_5, .string x4_5, .string x5_5, .int .i64 a1]) (seg := [.int .i64 x1_5, .string x2_5, .int .i64 x3_5, .string x4_5, .string x5_5, .int .i64 a1]) rfl (p := .tmp 2) (x := .tmp 54) rfl rfl r1_ r1_ r1_ HN3.out.res k1_ s1_ h1_ rfl ?_; intro wf5 hz hup; have HN4 := Ad.mk (HN3.out.fill hup (Nat.le_trans HW0.out HN3.out.gbw) hz); clear HN3 hz hup))
       refine bodyPost_ret (results_ct rfl _ _ gb 43 #[.int .i64 x1_5, .string x2_5, .int .i64 x3_5, .string x4_5, .string x5_5, .int .i64 a1] (0, 0) _ rfl HN4.out.res Tryz.underlying43 rfl k1_) rfl ?_
       exact ⟨rfl, HN4.out.st, HN4.out.below, HN4.out.keep⟩
      | false =>
       rw [if_neg (by decide)] at H
       try simp only at H
       rw [rounds_succ]
       go_wp2_with (first | (go_at_call 74; refine (ls_word.calls k g x8_4 x9_4 x1_5 x2_5 x3_5 x4_5 x5_5 x6_5 false x8_5 x9_5 w0 _ HN.out.st HN.out.below AR.out).mono ?_; rintro e wa5 ⟨rfl, h1, h2, h3⟩; have HN1 := Ad.mk (HN.out.call h1 h2 h3); clear HN h1 h2 h3) | ((with_reducible refine gate_dst (N := 7) rfl ?_); refine box_event r1_ (N := 7) r1_ (cs := #[.int .i64 0, .string ⟨#[]⟩, .int .i64 0, .string ⟨#[]⟩, .string ⟨#[]⟩, .int .i64 0]) (t := 43) r2_ ?_; intro gy hgy wb5 hbox hb; have HN2 := Ad.mk (HN1.out.lower hb); have HY := Ad.mk hbox; have HF := Ad.mk (show w0.heap.size ≤ gy ∧ w.heap.size ≤ gy ∧ gy ≠ g ∧ gy ≠ gb ∧ gy ≠ gs from ⟨by rw [hgy]; exact HN1.out.below.size, by rw [hgy]; exact HN1.out.keep.1, by have G0 := HN1; exact z18_, by have G0 := HN1; exact z19_, by have G0 := HN1; exact z20_⟩); clear HN1 hgy hbox hb) | ((with_reducible refine gate_store (t := 43) (p := 7) rfl ?_); refine store_seg (gy := gy) (j := 0) (T := 43) (TB := 43) (cs := #[.int .i64 0, .string ⟨#[]⟩, .int .i64 0, .string ⟨#[]⟩, .string ⟨#[]⟩, .int .i64 0]) (new := #[.int .i64 x1_5, .string x2_5, .int .i64 x3_5, .string x4_5, .string x5_5, .int .i64 x6_5]) (u := .agg #[.int .i64 x1_5, .string x2_5, .int .i64 x3_5, .string x4_5, .string x5_5, .int .i64 x6_5]) (seg := [.int .i64 x1_5, .string x2_5, .int .i64 x3_5, .string x4_5, .string x5_5, .int .i64 x6_5]) rfl (p := .tmp 7) (x := .tmp 49) rfl rfl r1_ r1_ r1_ HY.out k1_ s1_ h1_ rfl ?_; intro wd5 hz hup; have HN := Ad.mk (HN2.out.upd hup HF.out.1 HF.out.2.1 HF.out.2.2.1 HF.out.2.2.2.1 HF.out.2.2.2.2); have HZ := Ad.mk hz; clear HN2 HY hz hup))
       clear HZ HF hf_ AR
       obtain ⟨⟨x1_6, x2_6, x3_6, x4_6, x5_6, x6_6, x7_6, x8_6, x9_6⟩, A, H⟩ := Option.bind_eq_some_iff.mp H
       try simp only at H
       have AR := Ad.mk A
       clear A
       have hf_ : wd5.cell? ⟨gs, 6, none⟩ = some (.func (.func 75) #[.pointer (some ⟨g, 0, none⟩)] #[]) := (blk_cell HN.out.rows 6).trans rfl
       cases x7_6 with
       | true =>
        rw [if_pos rfl] at H
        simp only [Option.some.injEq, Prod.mk.injEq] at H
        obtain ⟨rfl, rfl, rfl, rfl, rfl, rfl, rfl, rfl, rfl⟩ := H
        rw [rounds_succ]
        go_wp2_with (first | (go_at_call 75; refine (ls_mark.calls k g x8_5 x9_5 x1_6 x2_6 x3_6 x4_6 x5_6 x6_6 true x8_6 x9_6 w0 _ HN.out.st HN.out.below AR.out).mono ?_; rintro e wa6 ⟨rfl, h1, h2, h3⟩; have HN1 := Ad.mk (HN.out.call h1 h2 h3); clear HN h1 h2 h3) | ((with_reducible refine gate_dst (N := 7) rfl ?_); refine box_event r1_ (N := 7) r1_ (cs := #[.int .i64 0, .string ⟨#[]⟩, .int .i64 0, .string ⟨#[]⟩, .string ⟨#[]⟩, .int .i64 0]) (t := 43) r2_ ?_; intro gy hgy wb6 hbox hb; have HN2 := Ad.mk (HN1.out.lower hb); have HY := Ad.mk hbox; have HF := Ad.mk (show w0.heap.size ≤ gy ∧ w.heap.size ≤ gy ∧ gy ≠ g ∧ gy ≠ gb ∧ gy ≠ gs from ⟨by rw [hgy]; exact HN1.out.below.size, by rw [hgy]; exact HN1.out.keep.1, by have G0 := HN1; exact z18_, by have G0 := HN1; exact z19_, by have G0 := HN1; exact z20_⟩); clear HN1 hgy hbox hb) | ((with_reducible refine gate_store (t := 43) (p := 7) rfl ?_); refine store_seg (gy := gy) (j := 0) (T := 43) (TB := 43) (cs := #[.int .i64 0, .string ⟨#[]⟩, .int .i64 0, .string ⟨#[]⟩, .string ⟨#[]⟩, .int .i64 0]) (new := #[.int .i64 x1_6, .string x2_6, .int .i64 x3_6, .string x4_6, .string x5_6, .int .i64 x6_6]) (u := .agg #[.int .i64 x1_6, .string x2_6, .int .i64 x3_6, .string x4_6, .string x5_6, .int .i64 x6_6]) (seg := [.int .i64 x1_6, .string x2_6, .int .i64 x3_6, .string x4_6, .string x5_6, .int .i64 x6_6]) rfl (p := .tmp 7) (x := .tmp 49) rfl rfl r1_ r1_ r1_ HY.out k1_ s1_ h1_ rfl ?_; intro wd6 hz hup; have HN := Ad.mk (HN2.out.upd hup HF.out.1 HF.out.2.1 HF.out.2.2.1 HF.out.2.2.2.1 HF.out.2.2.2.2); have HZ := Ad.mk hz; clear HN2 HY hz hup) | ((with_reducible refine gate_store (t := 3) (p := 53) rfl ?_); refine store_seg (gy := gy) (j := 5) (T := 3) (TB := 43) (cs := #[.int .i64 x1_6, .string x2_6, .int .i64 x3_6, .string x4_6, .string x5_6, .int .i64 x6_6]) (new := #[.int .i64 x1_6, .string x2_6, .int .i64 x3_6, .string x4_6, .string x5_6, .int .i64 a1]) (u := .int .i64 a1) (seg := [.int .i64 a1]) rfl (p := .tmp 53) (x := .tmp 52) rfl rfl r1_ r1_ r1_ HZ.out k1_ s1_ h1_ rfl ?_; intro we6 hz hup; have HN3 := Ad.mk (HN.out.upd hup HF.out.1 HF.out.2.1 HF.out.2.2.1 HF.out.2.2.2.1 HF.out.2.2.2.2); have HZ2 := Ad.mk hz; clear HN HZ hup; have hl0_ := (blk_cell hz 0).trans (show _ = some (.int .i64 x1_6) from rfl); have hl1_ := (blk_cell hz 1).trans (show _ = some (.string x2_6) from rfl); have hl2_ := (blk_cell hz 2).trans (show _ = some (.int .i64 x3_6) from rfl); have hl3_ := (blk_cell hz 3).trans (show _ = some (.string x4_6) from rfl); have hl4_ := (blk_cell hz 4).trans (show _ = some (.string x5_6) from rfl); have hl5_ := (blk_cell hz 5).trans (show _ = some (.int .i64 a1) from rfl); clear hz) | ((with_reducible refine gate_store (t := 43) (p := 2) rfl ?_); refine store_seg (gy := gb) (j := 0) (T := 43) (TB := 43) (cs := #[.int .i64 0, .string ⟨#[]⟩, .int .i64 0, .string ⟨#[]⟩, .string ⟨#[]⟩, .int .i64 0]) (new := #[.int .i64 x1_6, .string x2_6, .int .i64 x3_6, .string x4_6, .string x5_6, .int .i64 a1]) (u := .agg #[.int .i64 x1_6, .string x2_6, .int .i64 x3_6, .string x4_6, .string x5_6, .int .i64 a1]) (seg := [.int .i64 x1_6, .string x2_6, .int .i64 x3_6, .string x4_6, .string x5_6, .int .i64 a1]) rfl (p := .tmp 2) (x := .tmp 54) rfl rfl r1_ r1_ r1_ HN3.out.res k1_ s1_ h1_ rfl ?_; intro wf6 hz hup; have HN4 := Ad.mk (HN3.out.fill hup (Nat.le_trans HW0.out HN3.out.gbw) hz); clear HN3 hz hup))
        refine bodyPost_ret (results_ct rfl _ _ gb 43 #[.int .i64 x1_6, .string x2_6, .int .i64 x3_6, .string x4_6, .string x5_6, .int .i64 a1] (0, 0) _ rfl HN4.out.res Tryz.underlying43 rfl k1_) rfl ?_
        exact ⟨rfl, HN4.out.st, HN4.out.below, HN4.out.keep⟩
       | false =>
        rw [if_neg (by decide)] at H
        cases H
structure SX (w0 w W : World) (g gy : Nat) (s : ByteArray) (at_ : Int) (cs : Array Value) : Prop where
 st : IsS73 w0 W g s at_
 below : Below w0.heap.size w0 W
 keep : KeepBut w W g none
 y : W.heap[gy]? = some (.cells cs 43 (0, 0))
 yw : w.heap.size ≤ gy
 yg : gy ≠ g
 w0w : w0.heap.size ≤ w.heap.size
structure SY (w0 w W : World) (g gy gi : Nat) (s : ByteArray) (at_ : Int) (cs : Array Value) (b : Bool) : Prop extends SX w0 w W g gy s at_ cs where
 i : W.heap[gi]? = some (.cells #[.bool b] 4 (0, 0))
 iw : w.heap.size ≤ gi
 ig : gi ≠ g
 iy : gi ≠ gy
structure SZ (w0 w W : World) (g gy gi gb : Nat) (s : ByteArray) (at_ : Int) (cs : Array Value) (b : Bool) (z : Int) : Prop extends SY w0 w W g gy gi s at_ cs b where
 b : W.heap[gb]? = some (.cells #[.int .i64 z] 3 (0, 0))
 bw : w.heap.size ≤ gb
 bg : gb ≠ g
 by_ : gb ≠ gy
 bi : gb ≠ gi
theorem SX.first {w0 w W : World} {g gy : Nat} {s : ByteArray} {at_ : Int} {cs : Array Value} (hI : IsS73 w0 w g s at_) (hB : Below w0.heap.size w0 w) (hg : gy = w.heap.size) (hy : W.heap[gy]? = some (.cells cs 43 (0, 0))) (hb : Below w.heap.size w W) : SX w0 w W g gy s at_ cs :=
 ⟨hI.below hb, below_then hB hB.size hb, KeepBut.of_below hb g none, hy, Nat.le_of_eq hg.symm, by rw [hg]; exact Ne.symm (Nat.ne_of_lt hI.lt), hB.size⟩
theorem SX.lower {w0 w W W' : World} {g gy : Nat} {s : ByteArray} {at_ : Int} {cs : Array Value} (h : SX w0 w W g gy s at_ cs) (hb : Below W.heap.size W W') : SX w0 w W' g gy s at_ cs :=
 ⟨h.st.below hb, below_then h.below h.below.size hb, h.keep.trans (KeepBut.of_below hb g none) (.inl rfl), blk_below h.y hb, h.yw, h.yg, h.w0w⟩
theorem SY.lower {w0 w W W' : World} {g gy gi : Nat} {s : ByteArray} {at_ : Int} {cs : Array Value} {b : Bool} (h : SY w0 w W g gy gi s at_ cs b) (hb : Below W.heap.size W W') : SY w0 w W' g gy gi s at_ cs b :=
 ⟨h.toSX.lower hb, blk_below h.i hb, h.iw, h.ig, h.iy⟩
theorem SZ.lower {w0 w W W' : World} {g gy gi gb : Nat} {s : ByteArray} {at_ z : Int} {cs : Array Value} {b : Bool} (h : SZ w0 w W g gy gi gb s at_ cs b z) (hb : Below W.heap.size W W') : SZ w0 w W' g gy gi gb s at_ cs b z :=
 ⟨h.toSY.lower hb, blk_below h.b hb, h.bw, h.bg, h.by_, h.bi⟩
theorem SY.next {w0 w W W' : World} {g gy gi : Nat} {s : ByteArray} {at_ : Int} {cs : Array Value} {b : Bool} (h : SX w0 w W g gy s at_ cs) (hg : gi = W.heap.size) (hy : W'.heap[gi]? = some (.cells #[.bool b] 4 (0, 0))) (hb : Below W.heap.size W W') : SY w0 w W' g gy gi s at_ cs b :=
 ⟨h.lower hb, hy, by rw [hg]; exact h.keep.1, by rw [hg]; exact Ne.symm (Nat.ne_of_lt h.st.lt), by rw [hg]; exact Ne.symm (Nat.ne_of_lt (blk_lt h.y))⟩
theorem SZ.next {w0 w W W' : World} {g gy gi gb : Nat} {s : ByteArray} {at_ z : Int} {cs : Array Value} {b : Bool} (h : SY w0 w W g gy gi s at_ cs b) (hg : gb = W.heap.size) (hy : W'.heap[gb]? = some (.cells #[.int .i64 z] 3 (0, 0))) (hb : Below W.heap.size W W') : SZ w0 w W' g gy gi gb s at_ cs b z :=
 ⟨h.lower hb, hy, by rw [hg]; exact h.keep.1, by rw [hg]; exact Ne.symm (Nat.ne_of_lt h.st.lt), by rw [hg]; exact Ne.symm (Nat.ne_of_lt (blk_lt h.y)), by rw [hg]; exact Ne.symm (Nat.ne_of_lt (blk_lt h.i))⟩
theorem SX.upd {w0 w W W' : World} {g gy gz : Nat} {s : ByteArray} {at_ : Int} {cs cs' : Array Value} (h : SX w0 w W g gy s at_ cs) (hu : Upd W W' gz) (hw : w.heap.size ≤ gz) (hg : gz ≠ g) (hy : W'.heap[gy]? = some (.cells cs' 43 (0, 0))) : SX w0 w W' g gy s at_ cs' :=
 ⟨⟨(hu.other g (Ne.symm hg)).trans h.st.1, h.st.2⟩, h.below.trans (hu.below (Nat.le_trans h.w0w hw)), hu.keep h.keep hw, hy, h.yw, h.yg, h.w0w⟩
theorem SZ.upy {w0 w W W' : World} {g gy gi gb : Nat} {s : ByteArray} {at_ z : Int} {cs cs' : Array Value} {b : Bool} (h : SZ w0 w W g gy gi gb s at_ cs b z) (hu : Upd W W' gy) (hn : W'.heap[gy]? = some (.cells cs' 43 (0, 0))) : SZ w0 w W' g gy gi gb s at_ cs' b z :=
 ⟨⟨h.toSX.upd hu h.yw h.yg hn, (hu.other gi h.iy).trans h.i, h.iw, h.ig, h.iy⟩, (hu.other gb h.by_).trans h.b, h.bw, h.bg, h.by_, h.bi⟩
theorem SZ.upi {w0 w W W' : World} {g gy gi gb : Nat} {s : ByteArray} {at_ z : Int} {cs : Array Value} {b b' : Bool} (h : SZ w0 w W g gy gi gb s at_ cs b z) (hu : Upd W W' gi) (hn : W'.heap[gi]? = some (.cells #[.bool b'] 4 (0, 0))) : SZ w0 w W' g gy gi gb s at_ cs b' z :=
 ⟨⟨h.toSX.upd hu h.iw h.ig ((hu.other gy (Ne.symm h.iy)).trans h.y), hn, h.iw, h.ig, h.iy⟩, (hu.other gb h.bi).trans h.b, h.bw, h.bg, h.by_, h.bi⟩
theorem SZ.upb {w0 w W W' : World} {g gy gi gb : Nat} {s : ByteArray} {at_ z z' : Int} {cs : Array Value} {b : Bool} (h : SZ w0 w W g gy gi gb s at_ cs b z) (hu : Upd W W' gb) (hn : W'.heap[gb]? = some (.cells #[.int .i64 z'] 3 (0, 0))) : SZ w0 w W' g gy gi gb s at_ cs b z' :=
 ⟨⟨h.toSX.upd hu h.bw h.bg ((hu.other gy (Ne.symm h.by_)).trans h.y), (hu.other gi (Ne.symm h.bi)).trans h.i, h.iw, h.ig, h.iy⟩, hn, h.bw, h.bg, h.by_, h.bi⟩
theorem SZ.call {w0 w W W' : World} {g gy gi gb : Nat} {s s' : ByteArray} {at_ at' z : Int} {cs : Array Value} {b : Bool} (h : SZ w0 w W g gy gi gb s at_ cs b z) (h1 : IsS73 w0 W' g s' at') (h2 : Below w0.heap.size w0 W') (h3 : KeepBut W W' g none) : SZ w0 w W' g gy gi gb s' at' cs b z :=
 ⟨⟨⟨h1, h2, h.keep.trans h3 (.inl rfl), (h3.2 gy (blk_lt h.y) h.yg (by simp)).trans h.y, h.yw, h.yg, h.w0w⟩, (h3.2 gi (blk_lt h.i) h.ig (by simp)).trans h.i, h.iw, h.ig, h.iy⟩, (h3.2 gb (blk_lt h.b) h.bg (by simp)).trans h.b, h.bw, h.bg, h.by_, h.bi⟩
theorem setCell_self {W : World} {gy o : Nat} {T : TypeId} {cs : Array Value} {f : Nat × Nat} {v : Value} (h : W.heap[gy]? = some (.cells cs T f)) (hv : cs[o]? = some v) : W.setCell ⟨gy, o, none⟩ v = W := by
 have key : ∀ F : Obj → Obj, F (.cells cs T f) = .cells cs T f → W.heap.modify gy F = W.heap := by
  intro F hF
  apply Array.ext_getElem?
  intro k
  rw [Array.getElem?_modify]
  split
  ·rename_i hk
   subst hk
   rw [h]
   simp [hF]
  rfl
 have e : cs.setIfInBounds o v = cs := by
  apply Array.ext_getElem?
  intro q
  rw [Array.getElem?_setIfInBounds]
  split
  ·rename_i hq
   subst hq
   split
   ·exact hv.symm
   rename_i hz
   rw [Array.getElem?_eq_none (Nat.le_of_not_lt hz)]
  rfl
 unfold World.setCell
 rw [key _ (by simp [e])]
theorem setCells_self {gy : Nat} {T : TypeId} {cs : Array Value} {f : Nat × Nat} : ∀ (vs : List Value) (o : Nat) (W : World), W.heap[gy]? = some (.cells cs T f) → (∀ i (hi : i < vs.length), cs[o + i]? = some vs[i]) → W.setCells gy o vs = W
 | [], _, _, _, _ => rfl
 | v :: vs, o, W, h, hv => by
  have e0 : W.setCell ⟨gy, o, none⟩ v = W := setCell_self h (hv 0 (Nat.succ_pos _))
  rw [World.setCells, e0]
  exact setCells_self vs (o + 1) W h fun i hi => by
   have := hv (i + 1) (by simpa using hi)
   simpa [Nat.add_assoc, Nat.add_comm 1 i] using this
theorem store_same {P : Program} {o : Oper} {a : Act} {W : World} {gy : Nat} {T TB : TypeId} {cs : Array Value} {u : Value} {seg : List Value} {p x : Operand} (ho : o.op = .store T p x) (haddr : a.eval p = .pointer (some ⟨gy, 0, none⟩)) (hx : a.eval x = u) (hu : u.cells.toList = seg) (hc : cs = seg.toArray) (hh : W.heap[gy]? = some (.cells cs TB (0, 0))) (ht : (P.info? T).map (·.size) = some seg.length) (h1 : ∀ q ∈ seg, q.oneCell' = true) (n : Nat) :
  o.quietAt P a (fun w' => ∃ n, w' = W.drewN n) (W.drewN n) undef := by
 have hst := run_store_run (P := P) (o := 0) T u seg (blk_drewN hh n) hu ht (by subst hc; simp) h1
 have hs : (W.drewN n).setCells gy 0 seg = W.drewN n := setCells_self seg 0 _ (blk_drewN hh n) fun i hi => by subst hc; simp
 have hex : Sem.run P (execOp a.eval o) (W.drewN n) = .ok .skip (W.drewN n) := by
  unfold execOp
  rw [ho]
  simp [haddr, hx, hst, hs]
 unfold Oper.quietAt
 rw [hex]
 exact ⟨rfl, rfl⟩
set_option maxRecDepth 100000 in
theorem safely_idle (py pis pbad : Addr) (w : World) :
  CallsD Tryz.prog 47 #[.pointer (some py), .pointer (some pis), .pointer (some pbad)] .returning w fun e u' w' => e = .returned (.tuple #[]) ∧ u' = .returning ∧ Below w.heap.size w w' := by
 have hta : ∀ (t : TypeId) (W : World), Sem.run Tryz.prog (Instr.typeAssert .nilIface t 98 true) W = .ok (.tuple #[.agg #[.int .i64 0], .bool false]) W := fun t W => by
  simp [Instr.typeAssert, run_underlying Tryz.underlying98, Tryz.zeroValue98]
 have hne : ∀ W : World, Sem.run Tryz.prog (binOp .neq 20 .nilIface .nilIface) W = .ok (.bool false) W := fun W => by kernel_rfl
 refine callsD_of_wpS Tryz.func47 rfl fun c₀ cs hu => ?_
 apply wpS_seq
 apply wpS_region
 simp [wpOpsS, go_sem, recoverD, hu, Tryz.ntmps47, Exit.thenS]
 refine wpS_of_wp ?_
 simp only [Array.replicate_succ, Array.replicate_zero, List.push_toArray, List.append_toArray, List.nil_append, List.cons_append, List.setIfInBounds_toArray, List.set_cons_zero, List.set_cons_succ]
 go_wp2
 cases c₀
 simp_all [bodyPostS, results, Tryz.results47]
 exact below_alloc (Below.refl _ _) _
def ls_safely.f (k : Nat) (s0_0 : ByteArray) (s0_1 : Int) : Option (Int × ByteArray × Int × ByteArray × ByteArray × Int × Bool × Int × ByteArray × Int) := (ls_next.f k s0_0 s0_1).bind fun b_ => some (b_.1, b_.2.1, b_.2.2.1, b_.2.2.2.1, b_.2.2.2.2.1, b_.2.2.2.2.2.1, b_.2.2.2.2.2.2.1, -1, b_.2.2.2.2.2.2.2.1, b_.2.2.2.2.2.2.2.2)
set_option maxHeartbeats 4000000 in
set_option maxRecDepth 100000 in
theorem ls_safely.calls (k : Nat) (g : Nat) (s0_0 : ByteArray) (s0_1 : Int) (r1 : Int) (r2 : ByteArray) (r3 : Int) (r4 : ByteArray) (r5 : ByteArray) (r6 : Int) (r7 : Bool) (r8 : Int) (r9 : ByteArray) (r10 : Int) (w0 w : World) (hI : IsS73 w0 w g s0_0 s0_1) (hB : Below w0.heap.size w0 w) (h : ls_safely.f k s0_0 s0_1 = some (r1, r2, r3, r4, r5, r6, r7, r8, r9, r10)) :
  Calls Tryz.prog 32 #[.pointer (some ⟨g, 0, none⟩)] w fun e w' => e = .returned (.tuple #[.agg #[.int .i64 r1, .string r2, .int .i64 r3, .string r4, .string r5, .int .i64 r6], .bool r7, .int .i64 r8]) ∧ IsS73 w0 w' g r9 r10 ∧ Below w0.heap.size w0 w' ∧ KeepBut w w' g none := by
 have hmf : ∀ (fn : Fn) (first cap : Array Value) (w : World), (Instr.makeFunc fn first cap).run Tryz.prog w = .ok (.func fn first cap) w := fun _ _ _ _ => rfl
 unfold ls_safely.f at h
 obtain ⟨⟨x1, x2, x3, x4, x5, x6, x7, x8, x9⟩, A0, H⟩ := Option.bind_eq_some_iff.mp h
 simp only [Option.some.injEq, Prod.mk.injEq] at H
 obtain ⟨rfl, rfl, rfl, rfl, rfl, rfl, rfl, rfl, rfl, rfl⟩ := H
 have AS := Ad.mk A0
 clear h A0
 have HI := Ad.mk hI
 have HB := Ad.mk hB
 clear hI hB
 go_enter_defers Tryz.func32, Tryz.ntmps32
 go_wp2_with (first | ((with_reducible refine gate_dst (N := 2) rfl ?_); refine box_event r1_ (N := 2) r1_ (cs := #[.int .i64 0, .string ⟨#[]⟩, .int .i64 0, .string ⟨#[]⟩, .string ⟨#[]⟩, .int .i64 0]) (t := 43) r2_ ?_; intro gy hgy w1 hy hb; have HX := Ad.mk (SX.first HI.out HB.out hgy hy hb); clear hgy hy hb HI HB) | ((with_reducible refine gate_dst (N := 3) rfl ?_); refine box_event r1_ (N := 3) r1_ (cs := #[.bool false]) (t := 4) r2_ ?_; intro gi hgi w2 hi hb; have HX2 := Ad.mk (SY.next HX.out hgi hi hb); clear hgi hi hb HX) | ((with_reducible refine gate_dst (N := 4) rfl ?_); refine box_event r1_ (N := 4) r1_ (cs := #[.int .i64 0]) (t := 3) r2_ ?_; intro gb hgb w3 hi hb; have HX3 := Ad.mk (SZ.next HX2.out hgb hi hb); clear hgb hi hb HX2) | ((with_reducible refine gate_store (t := 3) (p := 4) rfl ?_); refine store_seg (gy := gb) (j := 0) (T := 3) (TB := 3) (cs := #[.int .i64 0]) (new := #[.int .i64 (-1)]) (u := .int .i64 (-1)) (seg := [.int .i64 (-1)]) rfl (p := .tmp 4) (x := .const (.int .i64 (-1))) rfl rfl r1_ r1_ r1_ HX3.out.b k1_ s1_ h1_ rfl ?_; intro w4 hz hup; have HX4 := Ad.mk (HX3.out.upb hup hz); clear HX3 hz hup) | (go_at_call 48; refine (ls_next.calls k g s0_0 s0_1 x1 x2 x3 x4 x5 x6 x7 x8 x9 w0 _ HX4.out.st HX4.out.below AS.out).mono ?_; rintro e w5 ⟨rfl, h1, h2, h3⟩; have HX5 := Ad.mk (HX4.out.call h1 h2 h3); clear HX4 h1 h2 h3) | ((with_reducible refine gate_store (t := 43) (p := 2) rfl ?_); refine store_seg (gy := gy) (j := 0) (T := 43) (TB := 43) (cs := #[.int .i64 0, .string ⟨#[]⟩, .int .i64 0, .string ⟨#[]⟩, .string ⟨#[]⟩, .int .i64 0]) (new := #[.int .i64 x1, .string x2, .int .i64 x3, .string x4, .string x5, .int .i64 x6]) (u := .agg #[.int .i64 x1, .string x2, .int .i64 x3, .string x4, .string x5, .int .i64 x6]) (seg := [.int .i64 x1, .string x2, .int .i64 x3, .string x4, .string x5, .int .i64 x6]) rfl (p := .tmp 2) (x := .tmp 9) rfl rfl r1_ r1_ r1_ HX5.out.y k1_ s1_ h1_ rfl ?_; intro w6 hz hup; have HX6 := Ad.mk (HX5.out.upy hup hz); clear HX5 hz hup) | ((with_reducible refine gate_store (t := 4) (p := 3) rfl ?_); refine store_seg (gy := gi) (j := 0) (T := 4) (TB := 4) (cs := #[.bool false]) (new := #[.bool x7]) (u := .bool x7) (seg := [.bool x7]) rfl (p := .tmp 3) (x := .tmp 10) rfl rfl r1_ r1_ r1_ HX6.out.i k1_ s1_ h1_ rfl ?_; intro w7 hz hup; have HX7 := Ad.mk (HX6.out.upi hup hz); clear HX6 hz hup))
 have hy0 := (blk_cell HX7.out.y 0).trans rfl
 have hy1 := (blk_cell HX7.out.y 1).trans rfl
 have hy2 := (blk_cell HX7.out.y 2).trans rfl
 have hy3 := (blk_cell HX7.out.y 3).trans rfl
 have hy4 := (blk_cell HX7.out.y 4).trans rfl
 have hy5 := (blk_cell HX7.out.y 5).trans rfl
 have hi0 := (blk_cell HX7.out.i 0).trans rfl
 have hb0 := (blk_cell HX7.out.b 0).trans rfl
 refine wp_region_quiet_lit k1_ k1_ ?_
 quiet_step (fail)
 quiet_step (fail)
 quiet_step (fail)
 refine wpQuiet_step (fun K hK => ?_)
 rw [if_pos (by rfl)]
 refine ⟨undef, ?_, hK _ ?_⟩
 ·rintro w' ⟨n, rfl⟩
  refine store_same (T := 43) (cs := #[.int .i64 x1, .string x2, .int .i64 x3, .string x4, .string x5, .int .i64 x6]) (seg := [.int .i64 x1, .string x2, .int .i64 x3, .string x4, .string x5, .int .i64 x6]) (p := .tmp 2) (x := .tmp 11) rfl rfl rfl ?hu rfl HX7.out.y k1_ ?h1 n; (case hu => rfl); (case h1 => intro q hq; simp at hq; repeat (first | (rcases hq with rfl | hq; · rfl) | (subst hq; rfl)))
 clear hK K
 refine wpQuiet_step (fun K hK => ?_)
 rw [if_pos (by rfl)]
 refine ⟨undef, ?_, hK _ ?_⟩
 ·rintro w' ⟨n, rfl⟩
  refine store_same (T := 4) (cs := #[.bool x7]) (seg := [.bool x7]) (p := .tmp 3) (x := .tmp 12) rfl rfl rfl ?hu rfl HX7.out.i k1_ ?h1 n; (case hu => rfl); (case h1 => intro q hq; simp at hq; repeat (first | (rcases hq with rfl | hq; · rfl) | (subst hq; rfl)))
 clear hK K
 refine wpQuiet_step (fun K hK => ?_)
 rw [if_pos (by rfl)]
 refine ⟨undef, ?_, hK _ ?_⟩
 ·rintro w' ⟨n, rfl⟩
  refine store_same (T := 3) (cs := #[.int .i64 (-1)]) (seg := [.int .i64 (-1)]) (p := .tmp 4) (x := .tmp 13) rfl rfl rfl ?hu rfl HX7.out.b k1_ ?h1 n; (case hu => rfl); (case h1 => intro q hq; simp at hq; repeat (first | (rcases hq with rfl | hq; · rfl) | (subst hq; rfl)))
 clear hK K
 refine wpQuiet_nil ?_
 intro w8 hw8
 obtain ⟨nq, rfl⟩ := hw8
 go_wp2
 clear hy0
 clear hy1
 clear hy2
 clear hy3
 clear hy4
 clear hy5
 clear hi0 hb0
 refine leaves_cons (f := 47) (args := #[.pointer (some ⟨gy, 0, none⟩), .pointer (some ⟨gi, 0, none⟩), .pointer (some ⟨gb, 0, none⟩)]) (by simp) (by simp [go_sem]) ?_
 refine (safely_idle ⟨gy, 0, none⟩ ⟨gi, 0, none⟩ ⟨gb, 0, none⟩ _).mono ?_
 rintro e u' w9 ⟨rfl, rfl, hb9⟩
 have HX9 := Ad.mk ((HX7.out.lower (pw_below_drewN (Below.refl _ _) nq)).lower hb9)
 clear hb9 HX7
 have hy0 := (blk_cell HX9.out.y 0).trans (show _ = some (.int .i64 x1) from rfl)
 have hy1 := (blk_cell HX9.out.y 1).trans (show _ = some (.string x2) from rfl)
 have hy2 := (blk_cell HX9.out.y 2).trans (show _ = some (.int .i64 x3) from rfl)
 have hy3 := (blk_cell HX9.out.y 3).trans (show _ = some (.string x4) from rfl)
 have hy4 := (blk_cell HX9.out.y 4).trans (show _ = some (.string x5) from rfl)
 have hy5 := (blk_cell HX9.out.y 5).trans (show _ = some (.int .i64 x6) from rfl)
 have hi0 := (blk_cell HX9.out.i 0).trans (show _ = some (.bool x7) from rfl)
 have hb0 := (blk_cell HX9.out.b 0).trans (show _ = some (.int .i64 (-1)) from rfl)
 have := HX9.out.st
 have := HX9.out.below
 have := HX9.out.keep
 simp [Leaves, settle, results, Tryz.results32, go_sem, hy0, hy1, hy2, hy3, hy4, hy5, hi0, hb0, *]
def g1r_May.f (a0 : Int) : Option (Bool) := if a0 ≥ 0 then (if a0 ≤ 1114111 then (if a0 < 55296 then (some true) else (some (decide (a0 > 57343)))) else (some false)) else (some false)
theorem g1r_May.calls (a0 : Int) (r : Bool) (w : World) (h : g1r_May.f a0 = some r) :
  Calls Tryz.prog 41 #[.int .i64 a0] w fun e w' => e = .returned (.bool r) ∧ Drawn0 w w' := by
 have H := h
 clear h
 unfold g1r_May.f at H
 by_cases c2 : a0 ≥ 0
 ·rw [if_pos c2] at H
  have c2b0 : decide (0 ≤ a0) = true := decide_eq_true c2
  clear c2
  by_cases c3 : a0 ≤ 1114111
  ·rw [if_pos c3] at H
   have c3b0 := decide_eq_true c3
   clear c3
   by_cases c4 : a0 < 55296
   ·rw [if_pos c4] at H
    have c4b0 := decide_eq_true c4
    clear c4
    obtain rfl := Option.some.inj H
    go_enter Tryz.func41, Tryz.ntmps41
    go_wp2
    go_ret
    exact ⟨e1_, z1_⟩
   rw [if_neg c4] at H
   have c4b0 := decide_eq_false c4
   clear c4
   obtain rfl := Option.some.inj H
   go_enter Tryz.func41, Tryz.ntmps41
   go_wp2
   go_ret
   exact ⟨e1_, z1_⟩
  rw [if_neg c3] at H
  have c3b0 := decide_eq_false c3
  clear c3
  obtain rfl := Option.some.inj H
  go_enter Tryz.func41, Tryz.ntmps41
  go_wp2
  go_ret
  exact ⟨e1_, z1_⟩
 rw [if_neg c2] at H
 have c2b0 : decide (0 ≤ a0) = false := decide_eq_false c2
 clear c2
 obtain rfl := Option.some.inj H
 go_enter Tryz.func41, Tryz.ntmps41
 go_wp2
 go_ret
 exact ⟨e1_, z1_⟩
def g1r_Put.f (a0 : Int) : Option (List Int) := if a0 ≤ 127 then (some (([(a0) % 256] : List Int))) else (if a0 ≤ 2047 then (some (([(wrap64 (192 + (wrap64 (Int.tdiv a0 64)))) % 256, (wrap64 (128 + (Int.tmod a0 64))) % 256] : List Int))) else (if a0 ≤ 65535 then (some (([(wrap64 (224 + (wrap64 (Int.tdiv a0 4096)))) % 256, (wrap64 (128 + (Int.tmod (wrap64 (Int.tdiv a0 64)) 64))) % 256, (wrap64 (128 + (Int.tmod a0 64))) % 256] : List Int))) else (some (([(wrap64 (240 + (wrap64 (Int.tdiv a0 262144)))) % 256, (wrap64 (128 + (Int.tmod (wrap64 (Int.tdiv a0 4096)) 64))) % 256, (wrap64 (128 + (Int.tmod (wrap64 (Int.tdiv a0 64)) 64))) % 256, (wrap64 (128 + (Int.tmod a0 64))) % 256] : List Int)))))
theorem g1r_Put.calls (a0 : Int) (r : List Int) (w : World) (h : g1r_Put.f a0 = some r) :
  Calls Tryz.prog 42 #[.int .i64 a0] w fun e w' => ∃ v0_ : Value, e = .returned (v0_) ∧ Kd.R (Kd.int .u8) 5 w' w.heap.size (fun _ => True) v0_ r ∧ Below w.heap.size w w' := by
 have HB := Ad.mk (Below.refl w.heap.size w)
 have H := h
 clear h
 unfold g1r_Put.f at H
 by_cases c2 : a0 ≤ 127
 ·rw [if_pos c2] at H
  have c2b0 := decide_eq_true c2
  clear c2
  generalize hy208 : (([(a0) % 256] : List Int)) = y208 at H
  replace hy208 := hy208.symm
  have Ny208 := Ad.mk hy208
  clear hy208
  obtain rfl := Option.some.inj H
  go_enter Tryz.func42, Tryz.ntmps42
  go_wp2_with (first | ((with_reducible refine gate_dst (N := 7) rfl ?_); refine Kd.R_lit (Kd.int .u8) _ 5 r1_ (N := 7) r1_ (xs := ([(a0) % 256] : List Int)) (inner := [.int .u8 ((a0) % 256)]) (ok := fun _ => True) (okp := fun _ => True) r2_ ?hp (fun _ hk => hk) trivial (Below.refl _ _) (Nat.le_refl _) (by simp) ?_; (case hp => exact (Reps.one (show Kd.M (Kd.int .u8) _ _ _ ((a0) % 256) [.int .u8 ((a0) % 256)] from rfl) (Reps.none _ _))); intro v209 w3 ho4 hb hg_ hnew_; clear hg_ hnew_; (first | rw [← Ny208.out] at ho4 | (simp only [Int.reduceToNat] at ho4; rw [← Ny208.out] at ho4)); have HO210 := Ad.mk (Kd.R_lower ho4 (below_size b1_)); replace HB := Ad.mk (below_step b1_ hb); clear hb ho4))
  go_ret
  exact ⟨_, e2_, by have G0 := HO210; exact z3_, b1_⟩
 rw [if_neg c2] at H
 have c2b0 := decide_eq_false c2
 clear c2
 by_cases c5 : a0 ≤ 2047
 ·rw [if_pos c5] at H
  have c5b0 := decide_eq_true c5
  clear c5
  generalize hy211 : (([(wrap64 (192 + (wrap64 (Int.tdiv a0 64)))) % 256, (wrap64 (128 + (Int.tmod a0 64))) % 256] : List Int)) = y211 at H
  replace hy211 := hy211.symm
  have Ny211 := Ad.mk hy211
  clear hy211
  obtain rfl := Option.some.inj H
  go_enter Tryz.func42, Tryz.ntmps42
  go_wp2_with (first | ((with_reducible refine gate_dst (N := 18) rfl ?_); refine Kd.R_lit (Kd.int .u8) _ 5 r1_ (N := 18) r1_ (xs := ([(wrap64 (192 + (wrap64 (Int.tdiv a0 64)))) % 256, (wrap64 (128 + (Int.tmod a0 64))) % 256] : List Int)) (inner := [.int .u8 ((wrap64 (192 + (wrap64 (Int.tdiv a0 64)))) % 256), .int .u8 ((wrap64 (128 + (Int.tmod a0 64))) % 256)]) (ok := fun _ => True) (okp := fun _ => True) r2_ ?hp (fun _ hk => hk) trivial (Below.refl _ _) (Nat.le_refl _) (by simp) ?_; (case hp => exact (Reps.one (show Kd.M (Kd.int .u8) _ _ _ ((wrap64 (192 + (wrap64 (Int.tdiv a0 64)))) % 256) [.int .u8 ((wrap64 (192 + (wrap64 (Int.tdiv a0 64)))) % 256)] from rfl) (Reps.one (show Kd.M (Kd.int .u8) _ _ _ ((wrap64 (128 + (Int.tmod a0 64))) % 256) [.int .u8 ((wrap64 (128 + (Int.tmod a0 64))) % 256)] from rfl) (Reps.none _ _)))); intro v212 w6 ho7 hb hg_ hnew_; clear hg_ hnew_; (first | rw [← Ny211.out] at ho7 | (simp only [Int.reduceToNat] at ho7; rw [← Ny211.out] at ho7)); have HO213 := Ad.mk (Kd.R_lower ho7 (below_size b1_)); replace HB := Ad.mk (below_step b1_ hb); clear hb ho7))
  go_ret
  exact ⟨_, e2_, by have G0 := HO213; exact z3_, b1_⟩
 rw [if_neg c5] at H
 have c5b0 := decide_eq_false c5
 clear c5
 by_cases c8 : a0 ≤ 65535
 ·rw [if_pos c8] at H
  have c8b0 := decide_eq_true c8
  clear c8
  generalize hy214 : (([(wrap64 (224 + (wrap64 (Int.tdiv a0 4096)))) % 256, (wrap64 (128 + (Int.tmod (wrap64 (Int.tdiv a0 64)) 64))) % 256, (wrap64 (128 + (Int.tmod a0 64))) % 256] : List Int)) = y214 at H
  replace hy214 := hy214.symm
  have Ny214 := Ad.mk hy214
  clear hy214
  obtain rfl := Option.some.inj H
  go_enter Tryz.func42, Tryz.ntmps42
  go_wp2_with (first | ((with_reducible refine gate_dst (N := 34) rfl ?_); refine Kd.R_lit (Kd.int .u8) _ 5 r1_ (N := 34) r1_ (xs := ([(wrap64 (224 + (wrap64 (Int.tdiv a0 4096)))) % 256, (wrap64 (128 + (Int.tmod (wrap64 (Int.tdiv a0 64)) 64))) % 256, (wrap64 (128 + (Int.tmod a0 64))) % 256] : List Int)) (inner := [.int .u8 ((wrap64 (224 + (wrap64 (Int.tdiv a0 4096)))) % 256), .int .u8 ((wrap64 (128 + (Int.tmod (wrap64 (Int.tdiv a0 64)) 64))) % 256), .int .u8 ((wrap64 (128 + (Int.tmod a0 64))) % 256)]) (ok := fun _ => True) (okp := fun _ => True) r2_ ?hp (fun _ hk => hk) trivial (Below.refl _ _) (Nat.le_refl _) (by simp) ?_; (case hp => exact (Reps.one (show Kd.M (Kd.int .u8) _ _ _ ((wrap64 (224 + (wrap64 (Int.tdiv a0 4096)))) % 256) [.int .u8 ((wrap64 (224 + (wrap64 (Int.tdiv a0 4096)))) % 256)] from rfl) (Reps.one (show Kd.M (Kd.int .u8) _ _ _ ((wrap64 (128 + (Int.tmod (wrap64 (Int.tdiv a0 64)) 64))) % 256) [.int .u8 ((wrap64 (128 + (Int.tmod (wrap64 (Int.tdiv a0 64)) 64))) % 256)] from rfl) (Reps.one (show Kd.M (Kd.int .u8) _ _ _ ((wrap64 (128 + (Int.tmod a0 64))) % 256) [.int .u8 ((wrap64 (128 + (Int.tmod a0 64))) % 256)] from rfl) (Reps.none _ _))))); intro v215 w9 ho10 hb hg_ hnew_; clear hg_ hnew_; (first | rw [← Ny214.out] at ho10 | (simp only [Int.reduceToNat] at ho10; rw [← Ny214.out] at ho10)); have HO216 := Ad.mk (Kd.R_lower ho10 (below_size b1_)); replace HB := Ad.mk (below_step b1_ hb); clear hb ho10))
  go_ret
  exact ⟨_, e2_, by have G0 := HO216; exact z3_, b1_⟩
 rw [if_neg c8] at H
 have c8b0 := decide_eq_false c8
 clear c8
 generalize hy217 : (([(wrap64 (240 + (wrap64 (Int.tdiv a0 262144)))) % 256, (wrap64 (128 + (Int.tmod (wrap64 (Int.tdiv a0 4096)) 64))) % 256, (wrap64 (128 + (Int.tmod (wrap64 (Int.tdiv a0 64)) 64))) % 256, (wrap64 (128 + (Int.tmod a0 64))) % 256] : List Int)) = y217 at H
 replace hy217 := hy217.symm
 have Ny217 := Ad.mk hy217
 clear hy217
 obtain rfl := Option.some.inj H
 go_enter Tryz.func42, Tryz.ntmps42
 go_wp2_with (first | ((with_reducible refine gate_dst (N := 53) rfl ?_); refine Kd.R_lit (Kd.int .u8) _ 5 r1_ (N := 53) r1_ (xs := ([(wrap64 (240 + (wrap64 (Int.tdiv a0 262144)))) % 256, (wrap64 (128 + (Int.tmod (wrap64 (Int.tdiv a0 4096)) 64))) % 256, (wrap64 (128 + (Int.tmod (wrap64 (Int.tdiv a0 64)) 64))) % 256, (wrap64 (128 + (Int.tmod a0 64))) % 256] : List Int)) (inner := [.int .u8 ((wrap64 (240 + (wrap64 (Int.tdiv a0 262144)))) % 256), .int .u8 ((wrap64 (128 + (Int.tmod (wrap64 (Int.tdiv a0 4096)) 64))) % 256), .int .u8 ((wrap64 (128 + (Int.tmod (wrap64 (Int.tdiv a0 64)) 64))) % 256), .int .u8 ((wrap64 (128 + (Int.tmod a0 64))) % 256)]) (ok := fun _ => True) (okp := fun _ => True) r2_ ?hp (fun _ hk => hk) trivial (Below.refl _ _) (Nat.le_refl _) (by simp) ?_; (case hp => exact (Reps.one (show Kd.M (Kd.int .u8) _ _ _ ((wrap64 (240 + (wrap64 (Int.tdiv a0 262144)))) % 256) [.int .u8 ((wrap64 (240 + (wrap64 (Int.tdiv a0 262144)))) % 256)] from rfl) (Reps.one (show Kd.M (Kd.int .u8) _ _ _ ((wrap64 (128 + (Int.tmod (wrap64 (Int.tdiv a0 4096)) 64))) % 256) [.int .u8 ((wrap64 (128 + (Int.tmod (wrap64 (Int.tdiv a0 4096)) 64))) % 256)] from rfl) (Reps.one (show Kd.M (Kd.int .u8) _ _ _ ((wrap64 (128 + (Int.tmod (wrap64 (Int.tdiv a0 64)) 64))) % 256) [.int .u8 ((wrap64 (128 + (Int.tmod (wrap64 (Int.tdiv a0 64)) 64))) % 256)] from rfl) (Reps.one (show Kd.M (Kd.int .u8) _ _ _ ((wrap64 (128 + (Int.tmod a0 64))) % 256) [.int .u8 ((wrap64 (128 + (Int.tmod a0 64))) % 256)] from rfl) (Reps.none _ _)))))); intro v218 w11 ho12 hb hg_ hnew_; clear hg_ hnew_; (first | rw [← Ny217.out] at ho12 | (simp only [Int.reduceToNat] at ho12; rw [← Ny217.out] at ho12)); have HO219 := Ad.mk (Kd.R_lower ho12 (below_size b1_)); replace HB := Ad.mk (below_step b1_ hb); clear hb ho12))
 go_ret
 exact ⟨_, e2_, by have G0 := HO219; exact z3_, b1_⟩
end Go.Proofs.YtpbphelaeleikaaGreatDoor.PLt

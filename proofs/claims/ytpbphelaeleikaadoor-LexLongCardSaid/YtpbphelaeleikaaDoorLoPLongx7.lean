import Derived.Test.YtpbphelaeleikaaDoorLoPLongx0
import Derived.Test.YtpbphelaeleikaaDoorLoPLongx1
import Derived.Test.YtpbphelaeleikaaDoorLoPLongx2
import Derived.Test.YtpbphelaeleikaaDoorLoPLongx3
import Derived.Test.YtpbphelaeleikaaDoorLoPLongx6
namespace Go.Proofs.YtpbphelaeleikaaDoor.PLong
open Go.RowKit Go.Proofs.YtpbphelaeleikaaDoorW.PrintWords Go.Proofs.YtpbphelaeleikaaDoorW.PrintLast Go.Proofs.YtpbphelaeleikaaDoorW.PrintMore
attribute [local go_sem] max2_int min2_int max_two min_two max_three min_three max_four min_four
set_option linter.unusedVariables false
set_option linter.unusedSimpArgs false
structure SX (w0 w W : World) (g gy : Nat) (s : ByteArray) (at_ : Int) (cs : Array Value) : Prop where
  st : IsS44 w0 W g s at_
  below : Below w0.heap.size w0 W
  keep : KeepBut w W g none
  y : W.heap[gy]? = some (.cells cs 38 (0, 0))
  yw : w.heap.size ≤ gy
  yg : gy ≠ g
  w0w : w0.heap.size ≤ w.heap.size
structure SY (w0 w W : World) (g gy gi : Nat) (s : ByteArray) (at_ : Int) (cs : Array Value) (b : Bool) : Prop extends SX w0 w W g gy s at_ cs where
  i : W.heap[gi]? = some (.cells #[.bool b] 4 (0, 0))
  iw : w.heap.size ≤ gi
  ig : gi ≠ g
  iy : gi ≠ gy
structure SZ (w0 w W : World) (g gy gi gb : Nat) (s : ByteArray) (at_ : Int) (cs : Array Value) (b : Bool) (z : Int) : Prop extends SY w0 w W g gy gi s at_ cs b where
  b : W.heap[gb]? = some (.cells #[.int .i64 z] 3 (0, 0))
  bw : w.heap.size ≤ gb
  bg : gb ≠ g
  by_ : gb ≠ gy
  bi : gb ≠ gi
theorem SX.first {w0 w W : World} {g gy : Nat} {s : ByteArray} {at_ : Int} {cs : Array Value} (hI : IsS44 w0 w g s at_) (hB : Below w0.heap.size w0 w) (hg : gy = w.heap.size) (hy : W.heap[gy]? = some (.cells cs 38 (0, 0))) (hb : Below w.heap.size w W) : SX w0 w W g gy s at_ cs :=
  ⟨hI.below hb, below_then hB hB.size hb, KeepBut.of_below hb g none, hy, Nat.le_of_eq hg.symm, by rw [hg]; exact Ne.symm (Nat.ne_of_lt hI.lt), hB.size⟩
theorem SX.lower {w0 w W W' : World} {g gy : Nat} {s : ByteArray} {at_ : Int} {cs : Array Value} (h : SX w0 w W g gy s at_ cs) (hb : Below W.heap.size W W') : SX w0 w W' g gy s at_ cs :=
  ⟨h.st.below hb, below_then h.below h.below.size hb, h.keep.trans (KeepBut.of_below hb g none) (.inl rfl), blk_below h.y hb, h.yw, h.yg, h.w0w⟩
theorem SY.lower {w0 w W W' : World} {g gy gi : Nat} {s : ByteArray} {at_ : Int} {cs : Array Value} {b : Bool} (h : SY w0 w W g gy gi s at_ cs b) (hb : Below W.heap.size W W') : SY w0 w W' g gy gi s at_ cs b :=
  ⟨h.toSX.lower hb, blk_below h.i hb, h.iw, h.ig, h.iy⟩
theorem SZ.lower {w0 w W W' : World} {g gy gi gb : Nat} {s : ByteArray} {at_ z : Int} {cs : Array Value} {b : Bool} (h : SZ w0 w W g gy gi gb s at_ cs b z) (hb : Below W.heap.size W W') : SZ w0 w W' g gy gi gb s at_ cs b z :=
  ⟨h.toSY.lower hb, blk_below h.b hb, h.bw, h.bg, h.by_, h.bi⟩
theorem SY.next {w0 w W W' : World} {g gy gi : Nat} {s : ByteArray} {at_ : Int} {cs : Array Value} {b : Bool} (h : SX w0 w W g gy s at_ cs) (hg : gi = W.heap.size) (hy : W'.heap[gi]? = some (.cells #[.bool b] 4 (0, 0))) (hb : Below W.heap.size W W') : SY w0 w W' g gy gi s at_ cs b :=
  ⟨h.lower hb, hy, by rw [hg]; exact h.keep.1, by rw [hg]; exact Ne.symm (Nat.ne_of_lt h.st.lt), by rw [hg]; exact Ne.symm (Nat.ne_of_lt (blk_lt h.y))⟩
theorem SZ.next {w0 w W W' : World} {g gy gi gb : Nat} {s : ByteArray} {at_ z : Int} {cs : Array Value} {b : Bool} (h : SY w0 w W g gy gi s at_ cs b) (hg : gb = W.heap.size) (hy : W'.heap[gb]? = some (.cells #[.int .i64 z] 3 (0, 0))) (hb : Below W.heap.size W W') : SZ w0 w W' g gy gi gb s at_ cs b z :=
  ⟨h.lower hb, hy, by rw [hg]; exact h.keep.1, by rw [hg]; exact Ne.symm (Nat.ne_of_lt h.st.lt), by rw [hg]; exact Ne.symm (Nat.ne_of_lt (blk_lt h.y)), by rw [hg]; exact Ne.symm (Nat.ne_of_lt (blk_lt h.i))⟩
theorem SX.upd {w0 w W W' : World} {g gy gz : Nat} {s : ByteArray} {at_ : Int} {cs cs' : Array Value} (h : SX w0 w W g gy s at_ cs) (hu : Upd W W' gz) (hw : w.heap.size ≤ gz) (hg : gz ≠ g) (hy : W'.heap[gy]? = some (.cells cs' 38 (0, 0))) : SX w0 w W' g gy s at_ cs' :=
  ⟨⟨(hu.other g (Ne.symm hg)).trans h.st.1, h.st.2⟩, h.below.trans (hu.below (Nat.le_trans h.w0w hw)), hu.keep h.keep hw, hy, h.yw, h.yg, h.w0w⟩
theorem SZ.upy {w0 w W W' : World} {g gy gi gb : Nat} {s : ByteArray} {at_ z : Int} {cs cs' : Array Value} {b : Bool} (h : SZ w0 w W g gy gi gb s at_ cs b z) (hu : Upd W W' gy) (hn : W'.heap[gy]? = some (.cells cs' 38 (0, 0))) : SZ w0 w W' g gy gi gb s at_ cs' b z :=
  ⟨⟨h.toSX.upd hu h.yw h.yg hn, (hu.other gi h.iy).trans h.i, h.iw, h.ig, h.iy⟩, (hu.other gb h.by_).trans h.b, h.bw, h.bg, h.by_, h.bi⟩
theorem SZ.upi {w0 w W W' : World} {g gy gi gb : Nat} {s : ByteArray} {at_ z : Int} {cs : Array Value} {b b' : Bool} (h : SZ w0 w W g gy gi gb s at_ cs b z) (hu : Upd W W' gi) (hn : W'.heap[gi]? = some (.cells #[.bool b'] 4 (0, 0))) : SZ w0 w W' g gy gi gb s at_ cs b' z :=
  ⟨⟨h.toSX.upd hu h.iw h.ig ((hu.other gy (Ne.symm h.iy)).trans h.y), hn, h.iw, h.ig, h.iy⟩, (hu.other gb h.bi).trans h.b, h.bw, h.bg, h.by_, h.bi⟩
theorem SZ.upb {w0 w W W' : World} {g gy gi gb : Nat} {s : ByteArray} {at_ z z' : Int} {cs : Array Value} {b : Bool} (h : SZ w0 w W g gy gi gb s at_ cs b z) (hu : Upd W W' gb) (hn : W'.heap[gb]? = some (.cells #[.int .i64 z'] 3 (0, 0))) : SZ w0 w W' g gy gi gb s at_ cs b z' :=
  ⟨⟨h.toSX.upd hu h.bw h.bg ((hu.other gy (Ne.symm h.by_)).trans h.y), (hu.other gi (Ne.symm h.bi)).trans h.i, h.iw, h.ig, h.iy⟩, hn, h.bw, h.bg, h.by_, h.bi⟩
theorem SZ.call {w0 w W W' : World} {g gy gi gb : Nat} {s s' : ByteArray} {at_ at' z : Int} {cs : Array Value} {b : Bool} (h : SZ w0 w W g gy gi gb s at_ cs b z) (h1 : IsS44 w0 W' g s' at') (h2 : Below w0.heap.size w0 W') (h3 : KeepBut W W' g none) : SZ w0 w W' g gy gi gb s' at' cs b z :=
  ⟨⟨⟨h1, h2, h.keep.trans h3 (.inl rfl), (h3.2 gy (blk_lt h.y) h.yg (by simp)).trans h.y, h.yw, h.yg, h.w0w⟩, (h3.2 gi (blk_lt h.i) h.ig (by simp)).trans h.i, h.iw, h.ig, h.iy⟩, (h3.2 gb (blk_lt h.b) h.bg (by simp)).trans h.b, h.bw, h.bg, h.by_, h.bi⟩
theorem setCell_self {W : World} {gy o : Nat} {T : TypeId} {cs : Array Value} {f : Nat × Nat} {v : Value} (h : W.heap[gy]? = some (.cells cs T f)) (hv : cs[o]? = some v) : W.setCell ⟨gy, o, none⟩ v = W := by
  have key : ∀ F : Obj → Obj, F (.cells cs T f) = .cells cs T f → W.heap.modify gy F = W.heap := by
    intro F hF
    apply Array.ext_getElem?
    intro k
    rw [Array.getElem?_modify]
    split
    · rename_i hk
      subst hk
      rw [h]
      simp [hF]
    · rfl
  have e : cs.setIfInBounds o v = cs := by
    apply Array.ext_getElem?
    intro q
    rw [Array.getElem?_setIfInBounds]
    split
    · rename_i hq
      subst hq
      split
      · exact hv.symm
      · rename_i hz
        rw [Array.getElem?_eq_none (Nat.le_of_not_lt hz)]
    · rfl
  unfold World.setCell
  rw [key _ (by simp [e])]
theorem setCells_self {gy : Nat} {T : TypeId} {cs : Array Value} {f : Nat × Nat} : ∀ (vs : List Value) (o : Nat) (W : World), W.heap[gy]? = some (.cells cs T f) → (∀ i (hi : i < vs.length), cs[o + i]? = some vs[i]) → W.setCells gy o vs = W
  | [], _, _, _, _ => rfl
  | v :: vs, o, W, h, hv => by
    have e0 : W.setCell ⟨gy, o, none⟩ v = W := setCell_self h (hv 0 (Nat.succ_pos _))
    rw [World.setCells, e0]
    exact setCells_self vs (o + 1) W h fun i hi => by
      have := hv (i + 1) (by simpa using hi)
      simpa [Nat.add_assoc, Nat.add_comm 1 i] using this
theorem store_same {P : Program} {o : Oper} {a : Act} {W : World} {gy : Nat} {T TB : TypeId} {cs : Array Value} {u : Value} {seg : List Value} {p x : Operand} (ho : o.op = .store T p x) (haddr : a.eval p = .pointer (some ⟨gy, 0, none⟩)) (hx : a.eval x = u) (hu : u.cells.toList = seg) (hc : cs = seg.toArray) (hh : W.heap[gy]? = some (.cells cs TB (0, 0))) (ht : (P.info? T).map (·.size) = some seg.length) (h1 : ∀ q ∈ seg, q.oneCell' = true) (n : Nat) :
    o.quietAt P a (fun w' => ∃ n, w' = W.drewN n) (W.drewN n) undef := by
  have hst := run_store_run (P := P) (o := 0) T u seg (blk_drewN hh n) hu ht (by subst hc; simp) h1
  have hs : (W.drewN n).setCells gy 0 seg = W.drewN n := setCells_self seg 0 _ (blk_drewN hh n) fun i hi => by subst hc; simp
  have hex : Sem.run P (execOp a.eval o) (W.drewN n) = .ok .skip (W.drewN n) := by
    unfold execOp
    rw [ho]
    simp [haddr, hx, hst, hs]
  unfold Oper.quietAt
  rw [hex]
  exact ⟨rfl, rfl⟩
set_option maxRecDepth 100000 in
theorem safely_idle (py pis pbad : Addr) (w : World) :
    CallsD Tryd.prog 26 #[.pointer (some py), .pointer (some pis), .pointer (some pbad)] .returning w fun e u' w' => e = .returned (.tuple #[]) ∧ u' = .returning ∧ Below w.heap.size w w' := by
  have hta : ∀ (t : TypeId) (W : World), Sem.run Tryd.prog (Instr.typeAssert .nilIface t 59 true) W = .ok (.tuple #[.agg #[.int .i64 0], .bool false]) W := fun t W => by
    simp [Instr.typeAssert, run_underlying Tryd.underlying59, Tryd.zeroValue59]
  have hne : ∀ W : World, Sem.run Tryd.prog (binOp .neq 20 .nilIface .nilIface) W = .ok (.bool false) W := fun W => by kernel_rfl
  refine callsD_of_wpS Tryd.func26 rfl fun c₀ cs hu => ?_
  apply wpS_seq
  apply wpS_region
  simp [wpOpsS, go_sem, recoverD, hu, Tryd.ntmps26, Exit.thenS]
  refine wpS_of_wp ?_
  simp only [Array.replicate_succ, Array.replicate_zero, List.push_toArray, List.append_toArray, List.nil_append, List.cons_append, List.setIfInBounds_toArray, List.set_cons_zero, List.set_cons_succ]
  go_wp2
  cases c₀
  simp_all [bodyPostS, results, Tryd.results26]
  exact below_alloc (Below.refl _ _) _
def lex_scanner_safely.f (k : Nat) (s0_0 : ByteArray) (s0_1 : Int) : Option (Int × ByteArray × Int × ByteArray × ByteArray × Int × Bool × Int × ByteArray × Int) := (lex_scanner_next.f k s0_0 s0_1).bind fun b_ => some (b_.1, b_.2.1, b_.2.2.1, b_.2.2.2.1, b_.2.2.2.2.1, b_.2.2.2.2.2.1, b_.2.2.2.2.2.2.1, -1, b_.2.2.2.2.2.2.2.1, b_.2.2.2.2.2.2.2.2)
theorem lex_scanner_safely.mono : ∀ a0 a1 k, LeO (lex_scanner_safely.f k a0 a1) (lex_scanner_safely.f (k + 1) a0 a1) := by
  intro a0 a1 k
  unfold lex_scanner_safely.f
  exact LeO.bind (lex_scanner_next.mono _ _ _) fun _ => LeO.refl _
set_option maxHeartbeats 4000000 in
set_option maxRecDepth 100000 in
theorem lex_scanner_safely.calls (k : Nat) (g : Nat) (s0_0 : ByteArray) (s0_1 : Int) (r1 : Int) (r2 : ByteArray) (r3 : Int) (r4 : ByteArray) (r5 : ByteArray) (r6 : Int) (r7 : Bool) (r8 : Int) (r9 : ByteArray) (r10 : Int) (w0 w : World) (hI : IsS44 w0 w g s0_0 s0_1) (hB : Below w0.heap.size w0 w) (h : lex_scanner_safely.f k s0_0 s0_1 = some (r1, r2, r3, r4, r5, r6, r7, r8, r9, r10)) :
    Calls Tryd.prog 14 #[.pointer (some ⟨g, 0, none⟩)] w fun e w' => e = .returned (.tuple #[.agg #[.int .i64 r1, .string r2, .int .i64 r3, .string r4, .string r5, .int .i64 r6], .bool r7, .int .i64 r8]) ∧ IsS44 w0 w' g r9 r10 ∧ Below w0.heap.size w0 w' ∧ KeepBut w w' g none := by
  have hmf : ∀ (fn : Fn) (first cap : Array Value) (w : World), (Instr.makeFunc fn first cap).run Tryd.prog w = .ok (.func fn first cap) w := fun _ _ _ _ => rfl
  unfold lex_scanner_safely.f at h
  obtain ⟨⟨x1, x2, x3, x4, x5, x6, x7, x8, x9⟩, A0, H⟩ := Option.bind_eq_some_iff.mp h
  simp only [Option.some.injEq, Prod.mk.injEq] at H
  obtain ⟨rfl, rfl, rfl, rfl, rfl, rfl, rfl, rfl, rfl, rfl⟩ := H
  have AS := Aside0.mk A0
  clear h A0
  have HI := Aside0.mk hI
  have HB := Aside0.mk hB
  clear hI hB
  go_enter_defers Tryd.func14, Tryd.ntmps14
  go_wp2_with (first | ((with_reducible refine gate_dst (N := 2) rfl ?_); refine box_event ?hg (N := 2) ?hd (cs := #[.int .i64 0, .string (⟨#[]⟩ : ByteArray), .int .i64 0, .string (⟨#[]⟩ : ByteArray), .string (⟨#[]⟩ : ByteArray), .int .i64 0]) (t := 38) ?hr ?_; (case hd => rfl); (case hg => rfl); (case hr => first | (go_simp; done) | (go_simp; rfl)); intro gy hgy w1 hy hb; have HX := Aside0.mk (SX.first HI.out HB.out hgy hy hb); clear hgy hy hb HI HB) | ((with_reducible refine gate_dst (N := 3) rfl ?_); refine box_event ?hg (N := 3) ?hd (cs := #[.bool false]) (t := 4) ?hr ?_; (case hd => rfl); (case hg => rfl); (case hr => first | (go_simp; done) | (go_simp; rfl)); intro gi hgi w2 hi hb; have HX2 := Aside0.mk (SY.next HX.out hgi hi hb); clear hgi hi hb HX) | ((with_reducible refine gate_dst (N := 4) rfl ?_); refine box_event ?hg (N := 4) ?hd (cs := #[.int .i64 0]) (t := 3) ?hr ?_; (case hd => rfl); (case hg => rfl); (case hr => first | (go_simp; done) | (go_simp; rfl)); intro gb hgb w3 hi hb; have HX3 := Aside0.mk (SZ.next HX2.out hgb hi hb); clear hgb hi hb HX2) | ((with_reducible refine gate_store (t := 3) (p := 4) rfl ?_); refine store_seg (gy := gb) (j := 0) (T := 3) (TB := 3) (cs := #[.int .i64 0]) (new := #[.int .i64 (-1)]) (u := .int .i64 (-1)) (seg := [.int .i64 (-1)]) rfl (p := .tmp 4) (x := .const (.int .i64 (-1))) rfl rfl ?had ?hx ?hu HX3.out.b (by kernel_rfl) ?hf ?h1 rfl ?_; (case had => rfl); (case hx => rfl); (case hu => rfl); (case hf => simp); (case h1 => intro q hq; simp at hq; repeat (first | (rcases hq with rfl | hq; · rfl) | (subst hq; rfl))); intro w4 hz hup; have HX4 := Aside0.mk (HX3.out.upb hup hz); clear HX3 hz hup) | (go_at_call 27; refine (lex_scanner_next.calls k g s0_0 s0_1 x1 x2 x3 x4 x5 x6 x7 x8 x9 w0 _ HX4.out.st HX4.out.below AS.out).mono ?_; rintro e w5 ⟨rfl, h1, h2, h3⟩; have HX5 := Aside0.mk (HX4.out.call h1 h2 h3); clear HX4 h1 h2 h3) | ((with_reducible refine gate_store (t := 38) (p := 2) rfl ?_); refine store_seg (gy := gy) (j := 0) (T := 38) (TB := 38) (cs := #[.int .i64 0, .string (⟨#[]⟩ : ByteArray), .int .i64 0, .string (⟨#[]⟩ : ByteArray), .string (⟨#[]⟩ : ByteArray), .int .i64 0]) (new := #[.int .i64 x1, .string x2, .int .i64 x3, .string x4, .string x5, .int .i64 x6]) (u := .agg #[.int .i64 x1, .string x2, .int .i64 x3, .string x4, .string x5, .int .i64 x6]) (seg := [.int .i64 x1, .string x2, .int .i64 x3, .string x4, .string x5, .int .i64 x6]) rfl (p := .tmp 2) (x := .tmp 9) rfl rfl ?had ?hx ?hu HX5.out.y (by kernel_rfl) ?hf ?h1 rfl ?_; (case had => rfl); (case hx => rfl); (case hu => rfl); (case hf => simp); (case h1 => intro q hq; simp at hq; repeat (first | (rcases hq with rfl | hq; · rfl) | (subst hq; rfl))); intro w6 hz hup; have HX6 := Aside0.mk (HX5.out.upy hup hz); clear HX5 hz hup) | ((with_reducible refine gate_store (t := 4) (p := 3) rfl ?_); refine store_seg (gy := gi) (j := 0) (T := 4) (TB := 4) (cs := #[.bool false]) (new := #[.bool x7]) (u := .bool x7) (seg := [.bool x7]) rfl (p := .tmp 3) (x := .tmp 10) rfl rfl ?had ?hx ?hu HX6.out.i (by kernel_rfl) ?hf ?h1 rfl ?_; (case had => rfl); (case hx => rfl); (case hu => rfl); (case hf => simp); (case h1 => intro q hq; simp at hq; repeat (first | (rcases hq with rfl | hq; · rfl) | (subst hq; rfl))); intro w7 hz hup; have HX7 := Aside0.mk (HX6.out.upi hup hz); clear HX6 hz hup))
  have hy0 := (blk_cell HX7.out.y 0).trans rfl
  have hy1 := (blk_cell HX7.out.y 1).trans rfl
  have hy2 := (blk_cell HX7.out.y 2).trans rfl
  have hy3 := (blk_cell HX7.out.y 3).trans rfl
  have hy4 := (blk_cell HX7.out.y 4).trans rfl
  have hy5 := (blk_cell HX7.out.y 5).trans rfl
  have hi0 := (blk_cell HX7.out.i 0).trans rfl
  have hb0 := (blk_cell HX7.out.b 0).trans rfl
  refine wp_region_quiet_lit (by kernel_rfl) (by kernel_rfl) ?_
  quiet_step (fail)
  quiet_step (fail)
  quiet_step (fail)
  refine wpQuiet_step (fun K hK => ?_)
  rw [if_pos (by rfl)]
  refine ⟨undef, ?_, hK _ ?_⟩
  · rintro w' ⟨n, rfl⟩
    refine store_same (T := 38) (cs := #[.int .i64 x1, .string x2, .int .i64 x3, .string x4, .string x5, .int .i64 x6]) (seg := [.int .i64 x1, .string x2, .int .i64 x3, .string x4, .string x5, .int .i64 x6]) (p := .tmp 2) (x := .tmp 11) rfl rfl rfl ?hu rfl HX7.out.y (by kernel_rfl) ?h1 n; (case hu => rfl); (case h1 => intro q hq; simp at hq; repeat (first | (rcases hq with rfl | hq; · rfl) | (subst hq; rfl)))
  clear hK K
  refine wpQuiet_step (fun K hK => ?_)
  rw [if_pos (by rfl)]
  refine ⟨undef, ?_, hK _ ?_⟩
  · rintro w' ⟨n, rfl⟩
    refine store_same (T := 4) (cs := #[.bool x7]) (seg := [.bool x7]) (p := .tmp 3) (x := .tmp 12) rfl rfl rfl ?hu rfl HX7.out.i (by kernel_rfl) ?h1 n; (case hu => rfl); (case h1 => intro q hq; simp at hq; repeat (first | (rcases hq with rfl | hq; · rfl) | (subst hq; rfl)))
  clear hK K
  refine wpQuiet_step (fun K hK => ?_)
  rw [if_pos (by rfl)]
  refine ⟨undef, ?_, hK _ ?_⟩
  · rintro w' ⟨n, rfl⟩
    refine store_same (T := 3) (cs := #[.int .i64 (-1)]) (seg := [.int .i64 (-1)]) (p := .tmp 4) (x := .tmp 13) rfl rfl rfl ?hu rfl HX7.out.b (by kernel_rfl) ?h1 n; (case hu => rfl); (case h1 => intro q hq; simp at hq; repeat (first | (rcases hq with rfl | hq; · rfl) | (subst hq; rfl)))
  clear hK K
  refine wpQuiet_nil ?_
  intro w8 hw8
  obtain ⟨nq, rfl⟩ := hw8
  go_wp2
  clear hy0
  clear hy1
  clear hy2
  clear hy3
  clear hy4
  clear hy5
  clear hi0 hb0
  refine leaves_cons (f := 26) (args := #[.pointer (some ⟨gy, 0, none⟩), .pointer (some ⟨gi, 0, none⟩), .pointer (some ⟨gb, 0, none⟩)]) (by simp) (by simp [go_sem]) ?_
  refine (safely_idle ⟨gy, 0, none⟩ ⟨gi, 0, none⟩ ⟨gb, 0, none⟩ _).mono ?_
  rintro e u' w9 ⟨rfl, rfl, hb9⟩
  have HX9 := Aside0.mk ((HX7.out.lower (pw_below_drewN (Below.refl _ _) nq)).lower hb9)
  clear hb9 HX7
  have hy0 := (blk_cell HX9.out.y 0).trans (show _ = some (.int .i64 x1) from rfl)
  have hy1 := (blk_cell HX9.out.y 1).trans (show _ = some (.string x2) from rfl)
  have hy2 := (blk_cell HX9.out.y 2).trans (show _ = some (.int .i64 x3) from rfl)
  have hy3 := (blk_cell HX9.out.y 3).trans (show _ = some (.string x4) from rfl)
  have hy4 := (blk_cell HX9.out.y 4).trans (show _ = some (.string x5) from rfl)
  have hy5 := (blk_cell HX9.out.y 5).trans (show _ = some (.int .i64 x6) from rfl)
  have hi0 := (blk_cell HX9.out.i 0).trans (show _ = some (.bool x7) from rfl)
  have hb0 := (blk_cell HX9.out.b 0).trans (show _ = some (.int .i64 (-1)) from rfl)
  have := HX9.out.st
  have := HX9.out.below
  have := HX9.out.keep
  simp [Leaves, settle, results, Tryd.results14, go_sem, hy0, hy1, hy2, hy3, hy4, hy5, hi0, hb0, *]
theorem put_w {n : Int} (h0 : 0 ≤ n) (h1 : n ≤ 1000) : wrap64 n = n := by unfold wrap64; omega
theorem utf_size_le {a t : Int} (h : utf_size.f a = some t) : 1 ≤ t ∧ t ≤ 4 := by
  unfold utf_size.f at h
  repeat' split at h
  all_goals (have := Option.some.inj h; omega)
def utf_Put.f (a0 : Int) : Option (List Int × Int) := (utf_may.f a0).bind fun t229 => (if t229 = true then ((utf_size.f a0).bind fun t230 => (if t230 = 1 then (some ((([(a0) % 256] : List Int)), 0)) else (if 0 ≤ t230 then (if 0 ≤ (wrap64 (6 * (wrap64 (t230 - 1)))) then ((some (([(Go.bits .or .i64 (Go.bits .and .i64 (shr .i64 3840 t230) 255) (shr .i64 a0 (wrap64 (6 * (wrap64 (t230 - 1)))))) % 256] : List Int) : List Int)).bind fun y234 => (if t230 = 4 then (if y234.length < 140737488355328 then ((some (y234 ++ [(Go.bits .or .i64 128 (Go.bits .and .i64 (a0 / 4096) 63)) % 256] : List Int)).bind fun y237 => (if y237.length < 140737488355328 then ((some (y237 ++ [(Go.bits .or .i64 128 (Go.bits .and .i64 (a0 / 64) 63)) % 256] : List Int)).bind fun y240 => (if y240.length < 140737488355328 then (some ((y240 ++ [(Go.bits .or .i64 128 (Go.bits .and .i64 a0 63)) % 256]), 0)) else (none))) else (none))) else (none)) else (if t230 = 3 then (if y234.length < 140737488355328 then ((some (y234 ++ [(Go.bits .or .i64 128 (Go.bits .and .i64 (a0 / 64) 63)) % 256] : List Int)).bind fun y246 => (if y246.length < 140737488355328 then (some ((y246 ++ [(Go.bits .or .i64 128 (Go.bits .and .i64 a0 63)) % 256]), 0)) else (none))) else (none)) else (if y234.length < 140737488355328 then (some ((y234 ++ [(Go.bits .or .i64 128 (Go.bits .and .i64 a0 63)) % 256]), 0)) else (none))))) else (none)) else (none)))) else (some (([] : List Int), 2)))
def utf_Put.T6 : Bool × List (List Nat × List Nat) := (true, [([], []), ([0], [0]), ([1], [1]), ([], []), ([], []), ([4], [4]), ([5], [5]), ([3, 6], [3, 6]), ([2, 7], [2, 7]), ([8], [8]), ([9], [9]), ([10, 0, 1, 2, 3, 4, 5, 6, 7, 8, 9, 10], [10])])
def utf_Put.B6 : List Nat := [0, 1, 3, 0, 0, 16, 48, 120, 255, 511, 1023, 2047]
theorem utf_Put.tab6 : rtab .any (opsOf Tryd.f25 6) = utf_Put.T6 := by kernel_rfl
theorem utf_Put.bits6 : waitsOk utf_Put.T6.2 utf_Put.B6 = true := by kernel_rfl
set_option maxHeartbeats 8000000 in
set_option maxRecDepth 100000 in
theorem utf_Put.calls (a0 : Int) (r1 : List Int) (r2 : Int) (w : World) (h : utf_Put.f a0 = some (r1, r2)) :
    Calls Tryd.prog 25 #[.int .i64 a0] w fun e w' => ∃ v0_ : Value, e = .returned (.tuple #[v0_, .int .i64 r2]) ∧ Kd.R (Kd.int .u8) 5 w' w.heap.size (fun _ => True) v0_ r1 ∧ Below w.heap.size w w' := by
  have HB := Aside0.mk (Below.refl w.heap.size w)
  have H : ((utf_may.f a0).bind fun t229 => (if t229 = true then ((utf_size.f a0).bind fun t230 => (if t230 = 1 then (some ((([(a0) % 256] : List Int)), 0)) else (if 0 ≤ t230 then (if 0 ≤ (wrap64 (6 * (wrap64 (t230 - 1)))) then ((some (([(Go.bits .or .i64 (Go.bits .and .i64 (shr .i64 3840 t230) 255) (shr .i64 a0 (wrap64 (6 * (wrap64 (t230 - 1)))))) % 256] : List Int) : List Int)).bind fun y234 => (if t230 = 4 then (if y234.length < 140737488355328 then ((some (y234 ++ [(Go.bits .or .i64 128 (Go.bits .and .i64 (a0 / 4096) 63)) % 256] : List Int)).bind fun y237 => (if y237.length < 140737488355328 then ((some (y237 ++ [(Go.bits .or .i64 128 (Go.bits .and .i64 (a0 / 64) 63)) % 256] : List Int)).bind fun y240 => (if y240.length < 140737488355328 then (some ((y240 ++ [(Go.bits .or .i64 128 (Go.bits .and .i64 a0 63)) % 256]), 0)) else (none))) else (none))) else (none)) else (if t230 = 3 then (if y234.length < 140737488355328 then ((some (y234 ++ [(Go.bits .or .i64 128 (Go.bits .and .i64 (a0 / 64) 63)) % 256] : List Int)).bind fun y246 => (if y246.length < 140737488355328 then (some ((y246 ++ [(Go.bits .or .i64 128 (Go.bits .and .i64 a0 63)) % 256]), 0)) else (none))) else (none)) else (if y234.length < 140737488355328 then (some ((y234 ++ [(Go.bits .or .i64 128 (Go.bits .and .i64 a0 63)) % 256]), 0)) else (none))))) else (none)) else (none)))) else (some (([] : List Int), 2)))) = some (r1, r2) := h
  clear h
  replace H := Option.bind_eq_some_iff.mp H
  obtain ⟨t229, A20, H⟩ := H
  replace H : (if t229 = true then ((utf_size.f a0).bind fun t230 => (if t230 = 1 then (some ((([(a0) % 256] : List Int)), 0)) else (if 0 ≤ t230 then (if 0 ≤ (wrap64 (6 * (wrap64 (t230 - 1)))) then ((some (([(Go.bits .or .i64 (Go.bits .and .i64 (shr .i64 3840 t230) 255) (shr .i64 a0 (wrap64 (6 * (wrap64 (t230 - 1)))))) % 256] : List Int) : List Int)).bind fun y234 => (if t230 = 4 then (if y234.length < 140737488355328 then ((some (y234 ++ [(Go.bits .or .i64 128 (Go.bits .and .i64 (a0 / 4096) 63)) % 256] : List Int)).bind fun y237 => (if y237.length < 140737488355328 then ((some (y237 ++ [(Go.bits .or .i64 128 (Go.bits .and .i64 (a0 / 64) 63)) % 256] : List Int)).bind fun y240 => (if y240.length < 140737488355328 then (some ((y240 ++ [(Go.bits .or .i64 128 (Go.bits .and .i64 a0 63)) % 256]), 0)) else (none))) else (none))) else (none)) else (if t230 = 3 then (if y234.length < 140737488355328 then ((some (y234 ++ [(Go.bits .or .i64 128 (Go.bits .and .i64 (a0 / 64) 63)) % 256] : List Int)).bind fun y246 => (if y246.length < 140737488355328 then (some ((y246 ++ [(Go.bits .or .i64 128 (Go.bits .and .i64 a0 63)) % 256]), 0)) else (none))) else (none)) else (if y234.length < 140737488355328 then (some ((y234 ++ [(Go.bits .or .i64 128 (Go.bits .and .i64 a0 63)) % 256]), 0)) else (none))))) else (none)) else (none)))) else (some (([] : List Int), 2))) = some (r1, r2) := H
  have A2 := Aside0.mk A20
  clear A20
  by_cases c3 : t229 = true
  · subst c3
    have H1 : ((utf_size.f a0).bind fun t230 => (if t230 = 1 then (some ((([(a0) % 256] : List Int)), 0)) else (if 0 ≤ t230 then (if 0 ≤ (wrap64 (6 * (wrap64 (t230 - 1)))) then ((some (([(Go.bits .or .i64 (Go.bits .and .i64 (shr .i64 3840 t230) 255) (shr .i64 a0 (wrap64 (6 * (wrap64 (t230 - 1)))))) % 256] : List Int) : List Int)).bind fun y234 => (if t230 = 4 then (if y234.length < 140737488355328 then ((some (y234 ++ [(Go.bits .or .i64 128 (Go.bits .and .i64 (a0 / 4096) 63)) % 256] : List Int)).bind fun y237 => (if y237.length < 140737488355328 then ((some (y237 ++ [(Go.bits .or .i64 128 (Go.bits .and .i64 (a0 / 64) 63)) % 256] : List Int)).bind fun y240 => (if y240.length < 140737488355328 then (some ((y240 ++ [(Go.bits .or .i64 128 (Go.bits .and .i64 a0 63)) % 256]), 0)) else (none))) else (none))) else (none)) else (if t230 = 3 then (if y234.length < 140737488355328 then ((some (y234 ++ [(Go.bits .or .i64 128 (Go.bits .and .i64 (a0 / 64) 63)) % 256] : List Int)).bind fun y246 => (if y246.length < 140737488355328 then (some ((y246 ++ [(Go.bits .or .i64 128 (Go.bits .and .i64 a0 63)) % 256]), 0)) else (none))) else (none)) else (if y234.length < 140737488355328 then (some ((y234 ++ [(Go.bits .or .i64 128 (Go.bits .and .i64 a0 63)) % 256]), 0)) else (none))))) else (none)) else (none)))) = some (r1, r2) := by rw [if_pos rfl] at H; exact H
    clear H
    have H := H1
    clear H1
    replace H := Option.bind_eq_some_iff.mp H
    obtain ⟨t230, A40, H⟩ := H
    replace H : (if t230 = 1 then (some ((([(a0) % 256] : List Int)), 0)) else (if 0 ≤ t230 then (if 0 ≤ (wrap64 (6 * (wrap64 (t230 - 1)))) then ((some (([(Go.bits .or .i64 (Go.bits .and .i64 (shr .i64 3840 t230) 255) (shr .i64 a0 (wrap64 (6 * (wrap64 (t230 - 1)))))) % 256] : List Int) : List Int)).bind fun y234 => (if t230 = 4 then (if y234.length < 140737488355328 then ((some (y234 ++ [(Go.bits .or .i64 128 (Go.bits .and .i64 (a0 / 4096) 63)) % 256] : List Int)).bind fun y237 => (if y237.length < 140737488355328 then ((some (y237 ++ [(Go.bits .or .i64 128 (Go.bits .and .i64 (a0 / 64) 63)) % 256] : List Int)).bind fun y240 => (if y240.length < 140737488355328 then (some ((y240 ++ [(Go.bits .or .i64 128 (Go.bits .and .i64 a0 63)) % 256]), 0)) else (none))) else (none))) else (none)) else (if t230 = 3 then (if y234.length < 140737488355328 then ((some (y234 ++ [(Go.bits .or .i64 128 (Go.bits .and .i64 (a0 / 64) 63)) % 256] : List Int)).bind fun y246 => (if y246.length < 140737488355328 then (some ((y246 ++ [(Go.bits .or .i64 128 (Go.bits .and .i64 a0 63)) % 256]), 0)) else (none))) else (none)) else (if y234.length < 140737488355328 then (some ((y234 ++ [(Go.bits .or .i64 128 (Go.bits .and .i64 a0 63)) % 256]), 0)) else (none))))) else (none)) else (none))) = some (r1, r2) := H
    have A4 := Aside0.mk A40
    clear A40
    by_cases c5 : t230 = 1
    · rw [if_pos c5] at H
      have c5b0 : (t230 == 1) = true := beq_iff_eq.mpr c5
      have c5b1 : (t230 != 1) = false := bne_eq_false_iff_eq.mpr c5
      clear c5
      obtain ⟨y231, hy231⟩ : ∃ y_ : List Int, y_ = (([(a0) % 256] : List Int)) := ⟨_, rfl⟩
      replace H : (some (y231, 0)) = some (r1, r2) := by first | (rw [hy231]; with_reducible exact H) | (have H2_ := (Option.bind_some _ _).symm.trans H; rw [hy231]; with_reducible exact H2_) | (have H2_ := (Option.bind_some _ _).symm.trans H; with_reducible exact H2_) | with_reducible exact H | (rw [hy231]; exact H) | exact H
      have Ny231 := Aside0.mk hy231
      clear hy231
      simp only [Option.some.injEq, Prod.mk.injEq] at H
      obtain ⟨rfl, rfl⟩ := H
      go_enter Tryd.func25, Tryd.ntmps25
      go_wp2_with (first | ((with_reducible refine gate_callee (f := 37) rfl ?_); refine goesL_ (some 7) rfl rfl Tryd.func37 (by kernel_rfl) rfl #[.int .i64 a0] rfl (by (try simp only [List.map_toArray, List.map_cons, List.map_nil]); first | done | rfl | (simp only [List.length_drop, List.length_take]; rfl)) ?_; (with_reducible refine (utf_may.calls a0 true _ A2.out).mono ?_); rintro e w' ⟨rfl, ⟨nd, rfl⟩⟩; refine ⟨_, rfl, ?_⟩) | ((with_reducible refine gate_callee (f := 38) rfl ?_); refine goesL_ (some 10) rfl rfl Tryd.func38 (by kernel_rfl) rfl #[.int .i64 a0] rfl (by (try simp only [List.map_toArray, List.map_cons, List.map_nil]); first | done | rfl | (simp only [List.length_drop, List.length_take]; rfl)) ?_; (with_reducible refine (utf_size.calls a0 t230 _ A4.out).mono ?_); rintro e w' ⟨rfl, ⟨nd, rfl⟩⟩; refine ⟨_, rfl, ?_⟩) | ((with_reducible refine gate_dst (N := 15) rfl ?_); refine Kd.R_lit (Kd.int .u8) _ 5 ?hg (N := 15) ?hd (xs := ([(a0) % 256] : List Int)) (inner := [.int .u8 ((a0) % 256)]) (ok := fun _ => True) (okp := fun _ => True) ?hr ?hp (fun _ hk => hk) trivial (Below.refl _ _) (Nat.le_refl _) (by simp) ?_; (case hd => rfl); (case hg => rfl); (case hr => first | (go_simp; done) | (go_simp; rfl)); (case hp => exact (Reps.one (show Kd.M (Kd.int .u8) _ _ _ ((a0) % 256) [.int .u8 ((a0) % 256)] from rfl) (Reps.none _ _))); intro v232 w6 ho7 hb hg_ hnew_; clear hg_ hnew_; (first | rw [← Ny231.out] at ho7 | (simp only [Int.reduceToNat] at ho7; rw [← Ny231.out] at ho7)); have n0_ := Aside0.mk (Kd.R_lower ho7 (below_size (by repeat (first | (with_reducible first | exact HB.out | apply below_alloc | apply pw_below_drewN | apply below_drew1) | exact HB.out)))); have n1_ := Aside0.mk (below_step (by repeat (first | (with_reducible first | exact HB.out | apply below_alloc | apply pw_below_drewN | apply below_drew1) | exact HB.out)) hb); clear HB; have HO233 := n0_; have HB := n1_; clear n0_ n1_; clear hb ho7))
      go_ret2
      exact ⟨_, by first | rfl | (simp [errW_none, errW_some] <;> rfl) | (simp [*, errW_none, errW_some] <;> rfl), by (with_reducible repeat (first | apply Kd.R_alloc | apply Kd.R_drewN | apply Kd.R_drew)); exact HO233.out, by repeat (first | (with_reducible first | exact HB.out | apply below_alloc | apply pw_below_drewN | apply below_drew1) | exact HB.out)⟩
    · rw [if_neg c5] at H
      have c5b0 : (t230 == 1) = false := beq_eq_false_iff_ne.mpr c5
      have c5b1 : (t230 != 1) = true := bne_iff_ne.mpr c5
      by_cases c8 : 0 ≤ t230
      · rw [if_pos c8] at H
        have c8b0 := eq_true c8
        have c8b1 : decide (0 ≤ t230) = true := decide_eq_true c8
        clear c8
        have hsz_ := utf_size_le A4.out
        have hsw_ : t230 ≤ 64 := by omega
        obtain ⟨ji9, hji9⟩ : ∃ j_ : Int, (shr .i64 3840 t230) = j_ := ⟨_, rfl⟩
        replace H : (if 0 ≤ (wrap64 (6 * (wrap64 (t230 - 1)))) then ((some (([(Go.bits .or .i64 (Go.bits .and .i64 (ji9) 255) (shr .i64 a0 (wrap64 (6 * (wrap64 (t230 - 1)))))) % 256] : List Int) : List Int)).bind fun y234 => (if t230 = 4 then (if y234.length < 140737488355328 then ((some (y234 ++ [(Go.bits .or .i64 128 (Go.bits .and .i64 (a0 / 4096) 63)) % 256] : List Int)).bind fun y237 => (if y237.length < 140737488355328 then ((some (y237 ++ [(Go.bits .or .i64 128 (Go.bits .and .i64 (a0 / 64) 63)) % 256] : List Int)).bind fun y240 => (if y240.length < 140737488355328 then (some ((y240 ++ [(Go.bits .or .i64 128 (Go.bits .and .i64 a0 63)) % 256]), 0)) else (none))) else (none))) else (none)) else (if t230 = 3 then (if y234.length < 140737488355328 then ((some (y234 ++ [(Go.bits .or .i64 128 (Go.bits .and .i64 (a0 / 64) 63)) % 256] : List Int)).bind fun y246 => (if y246.length < 140737488355328 then (some ((y246 ++ [(Go.bits .or .i64 128 (Go.bits .and .i64 a0 63)) % 256]), 0)) else (none))) else (none)) else (if y234.length < 140737488355328 then (some ((y234 ++ [(Go.bits .or .i64 128 (Go.bits .and .i64 a0 63)) % 256]), 0)) else (none))))) else (none)) = some (r1, r2) := by first | (rw [hji9] at H; exact H) | (simp only [hji9] at H ⊢; exact H)
        (try rw [hji9] at A2)
        (try rw [hji9] at A4)
        have hji9_ : (3840 / 2 ^ min t230.toNat 64) = ji9 := hji9
        have hji9z : t230 ≤ 64 → (3840 / 2 ^ t230.toNat) = ji9 := shr_small hji9
        obtain ⟨ji10, hji10⟩ : ∃ j_ : Int, (wrap64 (6 * (wrap64 (t230 - 1)))) = j_ := ⟨_, rfl⟩
        have hsx_ : ji10 ≤ 64 := by rw [← hji10, put_w (n := t230 - 1) (by omega) (by omega), put_w (by omega) (by omega)]; omega
        replace H : (if 0 ≤ (ji10) then ((some (([(Go.bits .or .i64 (Go.bits .and .i64 (ji9) 255) (shr .i64 a0 (ji10))) % 256] : List Int) : List Int)).bind fun y234 => (if t230 = 4 then (if y234.length < 140737488355328 then ((some (y234 ++ [(Go.bits .or .i64 128 (Go.bits .and .i64 (a0 / 4096) 63)) % 256] : List Int)).bind fun y237 => (if y237.length < 140737488355328 then ((some (y237 ++ [(Go.bits .or .i64 128 (Go.bits .and .i64 (a0 / 64) 63)) % 256] : List Int)).bind fun y240 => (if y240.length < 140737488355328 then (some ((y240 ++ [(Go.bits .or .i64 128 (Go.bits .and .i64 a0 63)) % 256]), 0)) else (none))) else (none))) else (none)) else (if t230 = 3 then (if y234.length < 140737488355328 then ((some (y234 ++ [(Go.bits .or .i64 128 (Go.bits .and .i64 (a0 / 64) 63)) % 256] : List Int)).bind fun y246 => (if y246.length < 140737488355328 then (some ((y246 ++ [(Go.bits .or .i64 128 (Go.bits .and .i64 a0 63)) % 256]), 0)) else (none))) else (none)) else (if y234.length < 140737488355328 then (some ((y234 ++ [(Go.bits .or .i64 128 (Go.bits .and .i64 a0 63)) % 256]), 0)) else (none))))) else (none)) = some (r1, r2) := by first | (rw [hji10] at H; exact H) | (simp only [hji10] at H ⊢; exact H)
        (try rw [hji10] at A2)
        (try rw [hji10] at A4)
        have hji10w : (IntKind.i64.wrap (6 * (wrap64 (t230 - 1)))) = ji10 := (i64_w _).trans hji10
        by_cases c11 : 0 ≤ (ji10)
        · rw [if_pos c11] at H
          have c11b0 := eq_true c11
          have c11b1 : decide (0 ≤ (ji10)) = true := decide_eq_true c11
          clear c11
          obtain ⟨ji12, hji12⟩ : ∃ j_ : Int, (shr .i64 a0 (ji10)) = j_ := ⟨_, rfl⟩
          replace H : ((some (([(Go.bits .or .i64 (Go.bits .and .i64 (ji9) 255) (ji12)) % 256] : List Int) : List Int)).bind fun y234 => (if t230 = 4 then (if y234.length < 140737488355328 then ((some (y234 ++ [(Go.bits .or .i64 128 (Go.bits .and .i64 (a0 / 4096) 63)) % 256] : List Int)).bind fun y237 => (if y237.length < 140737488355328 then ((some (y237 ++ [(Go.bits .or .i64 128 (Go.bits .and .i64 (a0 / 64) 63)) % 256] : List Int)).bind fun y240 => (if y240.length < 140737488355328 then (some ((y240 ++ [(Go.bits .or .i64 128 (Go.bits .and .i64 a0 63)) % 256]), 0)) else (none))) else (none))) else (none)) else (if t230 = 3 then (if y234.length < 140737488355328 then ((some (y234 ++ [(Go.bits .or .i64 128 (Go.bits .and .i64 (a0 / 64) 63)) % 256] : List Int)).bind fun y246 => (if y246.length < 140737488355328 then (some ((y246 ++ [(Go.bits .or .i64 128 (Go.bits .and .i64 a0 63)) % 256]), 0)) else (none))) else (none)) else (if y234.length < 140737488355328 then (some ((y234 ++ [(Go.bits .or .i64 128 (Go.bits .and .i64 a0 63)) % 256]), 0)) else (none))))) = some (r1, r2) := by first | (rw [hji12] at H; exact H) | (simp only [hji12] at H ⊢; exact H)
          (try rw [hji12] at A2)
          (try rw [hji12] at A4)
          have hji12_ : (a0 / 2 ^ min (ji10).toNat 64) = ji12 := hji12
          have hji12z : (ji10) ≤ 64 → (a0 / 2 ^ (ji10).toNat) = ji12 := shr_small hji12
          obtain ⟨y234, hy234⟩ : ∃ y_ : List Int, y_ = (([(Go.bits .or .i64 (Go.bits .and .i64 (ji9) 255) (ji12)) % 256] : List Int)) := ⟨_, rfl⟩
          replace H : (if t230 = 4 then (if y234.length < 140737488355328 then ((some (y234 ++ [(Go.bits .or .i64 128 (Go.bits .and .i64 (a0 / 4096) 63)) % 256] : List Int)).bind fun y237 => (if y237.length < 140737488355328 then ((some (y237 ++ [(Go.bits .or .i64 128 (Go.bits .and .i64 (a0 / 64) 63)) % 256] : List Int)).bind fun y240 => (if y240.length < 140737488355328 then (some ((y240 ++ [(Go.bits .or .i64 128 (Go.bits .and .i64 a0 63)) % 256]), 0)) else (none))) else (none))) else (none)) else (if t230 = 3 then (if y234.length < 140737488355328 then ((some (y234 ++ [(Go.bits .or .i64 128 (Go.bits .and .i64 (a0 / 64) 63)) % 256] : List Int)).bind fun y246 => (if y246.length < 140737488355328 then (some ((y246 ++ [(Go.bits .or .i64 128 (Go.bits .and .i64 a0 63)) % 256]), 0)) else (none))) else (none)) else (if y234.length < 140737488355328 then (some ((y234 ++ [(Go.bits .or .i64 128 (Go.bits .and .i64 a0 63)) % 256]), 0)) else (none)))) = some (r1, r2) := by first | (rw [hy234]; with_reducible exact H) | (have H2_ := (Option.bind_some _ _).symm.trans H; rw [hy234]; with_reducible exact H2_) | (have H2_ := (Option.bind_some _ _).symm.trans H; with_reducible exact H2_) | with_reducible exact H | (rw [hy234]; exact H) | exact H
          have Ny234 := Aside0.mk hy234
          clear hy234
          by_cases c13 : t230 = 4
          · rw [if_pos c13] at H
            have c13b0 : (t230 == 4) = true := beq_iff_eq.mpr c13
            have c13b1 : (t230 != 4) = false := bne_eq_false_iff_eq.mpr c13
            clear c13
            by_cases c14 : y234.length < 140737488355328
            · rw [if_pos c14] at H
              have LMc14 := Aside0.mk c14
              clear c14
              obtain ⟨y237, hy237⟩ : ∃ y_ : List Int, y_ = (y234 ++ [(Go.bits .or .i64 128 (Go.bits .and .i64 (a0 / 4096) 63)) % 256]) := ⟨_, rfl⟩
              replace H : (if y237.length < 140737488355328 then ((some (y237 ++ [(Go.bits .or .i64 128 (Go.bits .and .i64 (a0 / 64) 63)) % 256] : List Int)).bind fun y240 => (if y240.length < 140737488355328 then (some ((y240 ++ [(Go.bits .or .i64 128 (Go.bits .and .i64 a0 63)) % 256]), 0)) else (none))) else (none)) = some (r1, r2) := by first | (rw [hy237]; with_reducible exact H) | (have H2_ := (Option.bind_some _ _).symm.trans H; rw [hy237]; with_reducible exact H2_) | (have H2_ := (Option.bind_some _ _).symm.trans H; with_reducible exact H2_) | with_reducible exact H | (rw [hy237]; exact H) | exact H
              have Ny237 := Aside0.mk hy237
              clear hy237
              by_cases c15 : y237.length < 140737488355328
              · rw [if_pos c15] at H
                have LMc15 := Aside0.mk c15
                clear c15
                obtain ⟨y240, hy240⟩ : ∃ y_ : List Int, y_ = (y237 ++ [(Go.bits .or .i64 128 (Go.bits .and .i64 (a0 / 64) 63)) % 256]) := ⟨_, rfl⟩
                replace H : (if y240.length < 140737488355328 then (some ((y240 ++ [(Go.bits .or .i64 128 (Go.bits .and .i64 a0 63)) % 256]), 0)) else (none)) = some (r1, r2) := by first | (rw [hy240]; with_reducible exact H) | (have H2_ := (Option.bind_some _ _).symm.trans H; rw [hy240]; with_reducible exact H2_) | (have H2_ := (Option.bind_some _ _).symm.trans H; with_reducible exact H2_) | with_reducible exact H | (rw [hy240]; exact H) | exact H
                have Ny240 := Aside0.mk hy240
                clear hy240
                by_cases c16 : y240.length < 140737488355328
                · rw [if_pos c16] at H
                  have LMc16 := Aside0.mk c16
                  clear c16
                  obtain ⟨y243, hy243⟩ : ∃ y_ : List Int, y_ = (y240 ++ [(Go.bits .or .i64 128 (Go.bits .and .i64 a0 63)) % 256]) := ⟨_, rfl⟩
                  replace H : (some (y243, 0)) = some (r1, r2) := by first | (rw [hy243]; with_reducible exact H) | (have H2_ := (Option.bind_some _ _).symm.trans H; rw [hy243]; with_reducible exact H2_) | (have H2_ := (Option.bind_some _ _).symm.trans H; with_reducible exact H2_) | with_reducible exact H | (rw [hy243]; exact H) | exact H
                  have Ny243 := Aside0.mk hy243
                  clear hy243
                  simp only [Option.some.injEq, Prod.mk.injEq] at H
                  obtain ⟨rfl, rfl⟩ := H
                  go_enter Tryd.func25, Tryd.ntmps25
                  try go_wp2_with (first | ((with_reducible refine gate_callee (f := 37) rfl ?_); refine goesL_ (some 7) rfl rfl Tryd.func37 (by kernel_rfl) rfl #[.int .i64 a0] rfl (by (try simp only [List.map_toArray, List.map_cons, List.map_nil]); first | done | rfl | (simp only [List.length_drop, List.length_take]; rfl)) ?_; (with_reducible refine (utf_may.calls a0 true _ A2.out).mono ?_); rintro e w' ⟨rfl, ⟨ndA, rfl⟩⟩; refine ⟨_, rfl, ?_⟩) | ((with_reducible refine gate_callee (f := 38) rfl ?_); refine goesL_ (some 10) rfl rfl Tryd.func38 (by kernel_rfl) rfl #[.int .i64 a0] rfl (by (try simp only [List.map_toArray, List.map_cons, List.map_nil]); first | done | rfl | (simp only [List.length_drop, List.length_take]; rfl)) ?_; (with_reducible refine (utf_size.calls a0 t230 _ A4.out).mono ?_); rintro e w' ⟨rfl, ⟨ndB, rfl⟩⟩; refine ⟨_, rfl, ?_⟩))
                  have n0_ := Aside0.mk (below_drew1 HB.out)
                  clear HB
                  have HB := n0_
                  clear n0_
                  refine start_ (n := 12) (S := fun w' => True) (ds := []) #[false, false, false, false, false, false, false, false, false, false, false, false] (by kernel_rfl) rfl rfl trivial (fun hHeld => ?_); refine with_tabW utf_Put.tab6 utf_Put.bits6 (fun HT_ HW_ => ?_)
                  clear HB
                  have HB := Aside0.mk (below_drew1 (pw_below_drewN (Below.refl w.heap.size w) (ndA + ndB)))
                  generalize (w.drewN (ndA + ndB)).drew = w17 at HB hHeld ⊢
                  refine pure_ (i := 0) (N := some 16) (v := ?_) (a' := ?_) #[true, false, false, false, false, false, false, false, false, false, false, false] rfl rfl (any_of HT_.out (by kernel_rfl)) (fun _ _ _ h => h) (Or.inl ⟨by rfl, ?_⟩) ?_ ?_
                  rotate_left
                  · intro w'
                    go_simp
                    with_reducible rfl
                  rotate_left
                  · simp only [Act.put, List.setIfInBounds_toArray, List.set_cons_zero, List.set_cons_succ, i64_w, i32_w]
                    rfl
                  refine pure_ (i := 1) (N := some 17) (v := ?_) (a' := ?_) #[true, true, false, false, false, false, false, false, false, false, false, false] rfl rfl (any_of HT_.out (by kernel_rfl)) (fun _ _ _ h => h) (Or.inl ⟨by rfl, ?_⟩) ?_ ?_
                  rotate_left
                  · intro w'
                    go_simp
                    with_reducible rfl
                  rotate_left
                  · simp only [Act.put, List.setIfInBounds_toArray, List.set_cons_zero, List.set_cons_succ, i64_w, i32_w]
                    rfl
                  refine pure_ (i := 2) (N := some 18) (v := ?_) (a' := ?_) #[true, true, true, false, false, false, false, false, false, false, false, false] rfl rfl (any_of HT_.out (by kernel_rfl)) (fun _ _ _ h => h) (Or.inl ⟨by rfl, ?_⟩) ?_ ?_
                  rotate_left
                  · intro w'
                    go_simp
                    with_reducible rfl
                  rotate_left
                  · simp only [Act.put, List.setIfInBounds_toArray, List.set_cons_zero, List.set_cons_succ, i64_w, i32_w]
                    rfl
                  refine pure_ (i := 3) (N := some 19) (v := ?_) (a' := ?_) #[true, true, true, true, false, false, false, false, false, false, false, false] rfl rfl (any_of HT_.out (by kernel_rfl)) (fun _ _ _ h => h) (Or.inl ⟨by rfl, ?_⟩) ?_ ?_
                  rotate_left
                  · intro w'
                    go_simp
                    with_reducible rfl
                  rotate_left
                  · simp only [Act.put, List.setIfInBounds_toArray, List.set_cons_zero, List.set_cons_succ, i64_w, i32_w]
                    rfl
                  refine pure_ (i := 4) (N := some 20) (v := ?_) (a' := ?_) #[true, true, true, true, true, false, false, false, false, false, false, false] rfl rfl (any_of HT_.out (by kernel_rfl)) (fun _ _ _ h => h) (Or.inl ⟨by rfl, ?_⟩) ?_ ?_
                  rotate_left
                  · intro w'
                    go_simp
                    with_reducible rfl
                  rotate_left
                  · simp only [Act.put, List.setIfInBounds_toArray, List.set_cons_zero, List.set_cons_succ, i64_w, i32_w]
                    rfl
                  refine pure_ (i := 5) (N := some 21) (v := ?_) (a' := ?_) #[true, true, true, true, true, true, false, false, false, false, false, false] rfl rfl (any_of HT_.out (by kernel_rfl)) (fun _ _ _ h => h) (Or.inl ⟨by rfl, ?_⟩) ?_ ?_
                  rotate_left
                  · intro w'
                    go_simp
                    with_reducible rfl
                  rotate_left
                  · simp only [Act.put, List.setIfInBounds_toArray, List.set_cons_zero, List.set_cons_succ, i64_w, i32_w]
                    rfl
                  refine pure_ (i := 6) (N := some 22) (v := ?_) (a' := ?_) #[true, true, true, true, true, true, true, false, false, false, false, false] rfl rfl (any_of HT_.out (by kernel_rfl)) (fun _ _ _ h => h) (Or.inl ⟨by rfl, ?_⟩) ?_ ?_
                  rotate_left
                  · intro w'
                    go_simp
                    with_reducible rfl
                  rotate_left
                  · simp only [Act.put, List.setIfInBounds_toArray, List.set_cons_zero, List.set_cons_succ, i64_w, i32_w]
                    rfl
                  refine pure_ (i := 7) (N := some 23) (v := ?_) (a' := ?_) #[true, true, true, true, true, true, true, true, false, false, false, false] rfl rfl (any_of HT_.out (by kernel_rfl)) (fun _ _ _ h => h) (Or.inl ⟨by rfl, ?_⟩) ?_ ?_
                  rotate_left
                  · intro w'
                    go_simp
                    with_reducible rfl
                  rotate_left
                  · simp only [Act.put, List.setIfInBounds_toArray, List.set_cons_zero, List.set_cons_succ, i64_w, i32_w]
                    rfl
                  refine pure_ (i := 8) (N := some 24) (v := ?_) (a' := ?_) #[true, true, true, true, true, true, true, true, true, false, false, false] rfl rfl (any_of HT_.out (by kernel_rfl)) (fun _ _ _ h => h) (Or.inl ⟨by rfl, ?_⟩) ?_ ?_
                  rotate_left
                  · intro w'
                    go_simp
                    with_reducible rfl
                  rotate_left
                  · simp only [Act.put, List.setIfInBounds_toArray, List.set_cons_zero, List.set_cons_succ, i64_w, i32_w]
                    rfl
                  refine pure_ (i := 9) (N := some 25) (v := ?_) (a' := ?_) #[true, true, true, true, true, true, true, true, true, true, false, false] rfl rfl (any_of HT_.out (by kernel_rfl)) (fun _ _ _ h => h) (Or.inl ⟨by rfl, ?_⟩) ?_ ?_
                  rotate_left
                  · intro w'
                    go_simp
                    with_reducible rfl
                  rotate_left
                  · simp only [Act.put, List.setIfInBounds_toArray, List.set_cons_zero, List.set_cons_succ, i64_w, i32_w]
                    rfl
                  refine one_ (i := 10) (N := some 26) #[true, true, true, true, true, true, true, true, true, true, true, false] rfl rfl (one_of HT_.out (by kernel_rfl)) (by decide) (fun K hK => ?_)
                  refine Kd.R_lit_step (Kd.int .u8) _ 5 ?hg (N := 26) ?hd (xs := ([(Go.bits .or .i64 (Go.bits .and .i64 (ji9) 255) (ji12)) % 256] : List Int)) (inner := [.int .u8 ((Go.bits .or .i64 (Go.bits .and .i64 (ji9) 255) (ji12)) % 256)]) (ok := fun _ => True) (okp := fun _ => True) ?hr ?hp (fun _ hk => hk) trivial (Below.refl _ _) (Nat.le_refl _) (by simp) ?_; (case hd => rfl); (case hg => rfl); (case hr => first | (go_simp; done) | (go_simp; rfl)); (case hp => exact (Reps.one (show Kd.M (Kd.int .u8) _ _ _ ((Go.bits .or .i64 (Go.bits .and .i64 (ji9) 255) (ji12)) % 256) [.int .u8 ((Go.bits .or .i64 (Go.bits .and .i64 (ji9) 255) (ji12)) % 256)] from rfl) (Reps.none _ _)))
                  intro v235 w18 ho19 hb hg_ hnew_
                  clear hg_ hnew_
                  (first | rw [← Ny234.out] at ho19 | (simp only [Int.reduceToNat] at ho19; rw [← Ny234.out] at ho19))
                  have n0_ := Aside0.mk (Kd.R_lower ho19 (below_size (by repeat (first | (with_reducible first | exact HB.out | apply below_alloc | apply pw_below_drewN | apply below_drew1) | exact HB.out))))
                  have n1_ := Aside0.mk (below_step (by repeat (first | (with_reducible first | exact HB.out | apply below_alloc | apply pw_below_drewN | apply below_drew1) | exact HB.out)) hb)
                  clear HB
                  have HO236 := n0_
                  have HB := n1_
                  clear n0_ n1_
                  clear hb ho19
                  refine hK.out _ _ trivial (fun hHeld => ?_)
                  clear hK K
                  refine norm_ (a' := ?_) ?_ ?_
                  rotate_left
                  · show Act.put _ (some 26) _ = _
                    simp only [Act.put, List.setIfInBounds_toArray, List.set_cons_zero, List.set_cons_succ, i64_w, i32_w]
                    rfl
                  refine pure_ (i := 11) (N := some 5) (v := ?_) (a' := ?_) #[true, true, true, true, true, true, true, true, true, true, true, true] rfl rfl (any_of HT_.out (by kernel_rfl)) (fun _ _ _ h => h) (Or.inl ⟨by rfl, ?_⟩) ?_ ?_
                  rotate_left
                  · intro w'
                    go_simp
                    with_reducible rfl
                  rotate_left
                  · simp only [Act.put, List.setIfInBounds_toArray, List.set_cons_zero, List.set_cons_succ, i64_w, i32_w]
                    rfl
                  refine done_ (done_of HT_.out (by kernel_rfl)) ?_
                  try go_wp2_with (first | ((with_reducible refine gate_builtin (b := .append) (xs := #[(.tmp 32), .tmp 38]) rfl ?_); at_builtin; refine Kd.R_append (Kd.int .u8) (w0 := w) w.heap.size rfl (.tmp 32) (.tmp 38) 22 5 (.int .u8 0) 1 rfl Tryd.underlying22 info5 rfl (by decide) (by omega) v235 y234 ((Go.bits .or .i64 128 (Go.bits .and .i64 (a0 / 4096) 63)) % 256) [.int .u8 ((Go.bits .or .i64 128 (Go.bits .and .i64 (a0 / 4096) 63)) % 256)] (fun _ => True) (fun _ => False) rfl rfl ?aP (fun _ hk => hk.elim) ?aF ?aO ?aB ?aS ?aL ?_; (case aP => exact rfl); (case aB => exact (by repeat (first | (with_reducible first | exact HB.out | apply below_alloc | apply pw_below_drewN | apply below_drew1) | exact HB.out))); (case aF => exact (fun _ _ => trivial)); (case aO => exact (by (with_reducible repeat (first | apply Kd.R_alloc | apply Kd.R_drewN | apply Kd.R_drew)); exact HO236.out)); (case aS => exact (below_size (by repeat (first | (with_reducible first | exact HB.out | apply below_alloc | apply pw_below_drewN | apply below_drew1) | exact HB.out)))); (case aL => have := LMc14.out; omega); intro v238 w20 ho hb hg hat; rw [← Ny237.out] at ho; have n0_ := Aside0.mk (hb); have n1_ := Aside0.mk (ho); clear HB; clear HO236; have HB := n0_; have HO239 := n1_; clear n0_ n1_; clear ho hb hg hat) | ((with_reducible refine gate_builtin (b := .append) (xs := #[(.tmp 40), .tmp 46]) rfl ?_); at_builtin; refine Kd.R_append (Kd.int .u8) (w0 := w) w.heap.size rfl (.tmp 40) (.tmp 46) 22 5 (.int .u8 0) 1 rfl Tryd.underlying22 info5 rfl (by decide) (by omega) v238 y237 ((Go.bits .or .i64 128 (Go.bits .and .i64 (a0 / 64) 63)) % 256) [.int .u8 ((Go.bits .or .i64 128 (Go.bits .and .i64 (a0 / 64) 63)) % 256)] (fun _ => True) (fun _ => False) rfl rfl ?aP (fun _ hk => hk.elim) ?aF ?aO ?aB ?aS ?aL ?_; (case aP => exact rfl); (case aB => exact (by repeat (first | (with_reducible first | exact HB.out | apply below_alloc | apply pw_below_drewN | apply below_drew1) | exact HB.out))); (case aF => exact (fun _ _ => trivial)); (case aO => exact (by (with_reducible repeat (first | apply Kd.R_alloc | apply Kd.R_drewN | apply Kd.R_drew)); exact HO239.out)); (case aS => exact (below_size (by repeat (first | (with_reducible first | exact HB.out | apply below_alloc | apply pw_below_drewN | apply below_drew1) | exact HB.out)))); (case aL => have := LMc15.out; omega); intro v241 w21 ho hb hg hat; rw [← Ny240.out] at ho; have n0_ := Aside0.mk (hb); have n1_ := Aside0.mk (ho); clear HB; clear HO239; have HB := n0_; have HO242 := n1_; clear n0_ n1_; clear ho hb hg hat) | ((with_reducible refine gate_builtin (b := .append) (xs := #[(.tmp 48), .tmp 53]) rfl ?_); at_builtin; refine Kd.R_append (Kd.int .u8) (w0 := w) w.heap.size rfl (.tmp 48) (.tmp 53) 22 5 (.int .u8 0) 1 rfl Tryd.underlying22 info5 rfl (by decide) (by omega) v241 y240 ((Go.bits .or .i64 128 (Go.bits .and .i64 a0 63)) % 256) [.int .u8 ((Go.bits .or .i64 128 (Go.bits .and .i64 a0 63)) % 256)] (fun _ => True) (fun _ => False) rfl rfl ?aP (fun _ hk => hk.elim) ?aF ?aO ?aB ?aS ?aL ?_; (case aP => exact rfl); (case aB => exact (by repeat (first | (with_reducible first | exact HB.out | apply below_alloc | apply pw_below_drewN | apply below_drew1) | exact HB.out))); (case aF => exact (fun _ _ => trivial)); (case aO => exact (by (with_reducible repeat (first | apply Kd.R_alloc | apply Kd.R_drewN | apply Kd.R_drew)); exact HO242.out)); (case aS => exact (below_size (by repeat (first | (with_reducible first | exact HB.out | apply below_alloc | apply pw_below_drewN | apply below_drew1) | exact HB.out)))); (case aL => have := LMc16.out; omega); intro v244 w22 ho hb hg hat; rw [← Ny243.out] at ho; have n0_ := Aside0.mk (hb); have n1_ := Aside0.mk (ho); clear HB; clear HO242; have HB := n0_; have HO245 := n1_; clear n0_ n1_; clear ho hb hg hat))
                  go_ret2
                  exact ⟨_, by first | rfl | (simp [errW_none, errW_some] <;> rfl) | (simp only [← hji9, ← hji10, ← hji12]; first | rfl | (simp [errW_none, errW_some] <;> rfl)) | (simp [*, errW_none, errW_some] <;> rfl), by (with_reducible repeat (first | apply Kd.R_alloc | apply Kd.R_drewN | apply Kd.R_drew)); exact HO245.out, by repeat (first | (with_reducible first | exact HB.out | apply below_alloc | apply pw_below_drewN | apply below_drew1) | exact HB.out)⟩
                · rw [if_neg c16] at H
                  exact absurd H (by simp)
              · rw [if_neg c15] at H
                exact absurd H (by simp)
            · rw [if_neg c14] at H
              exact absurd H (by simp)
          · rw [if_neg c13] at H
            have c13b0 : (t230 == 4) = false := beq_eq_false_iff_ne.mpr c13
            have c13b1 : (t230 != 4) = true := bne_iff_ne.mpr c13
            by_cases c23 : t230 = 3
            · rw [if_pos c23] at H
              have c23b0 : (t230 == 3) = true := beq_iff_eq.mpr c23
              have c23b1 : (t230 != 3) = false := bne_eq_false_iff_eq.mpr c23
              clear c23
              by_cases c24 : y234.length < 140737488355328
              · rw [if_pos c24] at H
                have LMc24 := Aside0.mk c24
                clear c24
                obtain ⟨y246, hy246⟩ : ∃ y_ : List Int, y_ = (y234 ++ [(Go.bits .or .i64 128 (Go.bits .and .i64 (a0 / 64) 63)) % 256]) := ⟨_, rfl⟩
                replace H : (if y246.length < 140737488355328 then (some ((y246 ++ [(Go.bits .or .i64 128 (Go.bits .and .i64 a0 63)) % 256]), 0)) else (none)) = some (r1, r2) := by first | (rw [hy246]; with_reducible exact H) | (have H2_ := (Option.bind_some _ _).symm.trans H; rw [hy246]; with_reducible exact H2_) | (have H2_ := (Option.bind_some _ _).symm.trans H; with_reducible exact H2_) | with_reducible exact H | (rw [hy246]; exact H) | exact H
                have Ny246 := Aside0.mk hy246
                clear hy246
                by_cases c25 : y246.length < 140737488355328
                · rw [if_pos c25] at H
                  have LMc25 := Aside0.mk c25
                  clear c25
                  obtain ⟨y249, hy249⟩ : ∃ y_ : List Int, y_ = (y246 ++ [(Go.bits .or .i64 128 (Go.bits .and .i64 a0 63)) % 256]) := ⟨_, rfl⟩
                  replace H : (some (y249, 0)) = some (r1, r2) := by first | (rw [hy249]; with_reducible exact H) | (have H2_ := (Option.bind_some _ _).symm.trans H; rw [hy249]; with_reducible exact H2_) | (have H2_ := (Option.bind_some _ _).symm.trans H; with_reducible exact H2_) | with_reducible exact H | (rw [hy249]; exact H) | exact H
                  have Ny249 := Aside0.mk hy249
                  clear hy249
                  simp only [Option.some.injEq, Prod.mk.injEq] at H
                  obtain ⟨rfl, rfl⟩ := H
                  go_enter Tryd.func25, Tryd.ntmps25
                  try go_wp2_with (first | ((with_reducible refine gate_callee (f := 37) rfl ?_); refine goesL_ (some 7) rfl rfl Tryd.func37 (by kernel_rfl) rfl #[.int .i64 a0] rfl (by (try simp only [List.map_toArray, List.map_cons, List.map_nil]); first | done | rfl | (simp only [List.length_drop, List.length_take]; rfl)) ?_; (with_reducible refine (utf_may.calls a0 true _ A2.out).mono ?_); rintro e w' ⟨rfl, ⟨ndA, rfl⟩⟩; refine ⟨_, rfl, ?_⟩) | ((with_reducible refine gate_callee (f := 38) rfl ?_); refine goesL_ (some 10) rfl rfl Tryd.func38 (by kernel_rfl) rfl #[.int .i64 a0] rfl (by (try simp only [List.map_toArray, List.map_cons, List.map_nil]); first | done | rfl | (simp only [List.length_drop, List.length_take]; rfl)) ?_; (with_reducible refine (utf_size.calls a0 t230 _ A4.out).mono ?_); rintro e w' ⟨rfl, ⟨ndB, rfl⟩⟩; refine ⟨_, rfl, ?_⟩))
                  have n0_ := Aside0.mk (below_drew1 HB.out)
                  clear HB
                  have HB := n0_
                  clear n0_
                  refine start_ (n := 12) (S := fun w' => True) (ds := []) #[false, false, false, false, false, false, false, false, false, false, false, false] (by kernel_rfl) rfl rfl trivial (fun hHeld => ?_); refine with_tabW utf_Put.tab6 utf_Put.bits6 (fun HT_ HW_ => ?_)
                  clear HB
                  have HB := Aside0.mk (below_drew1 (pw_below_drewN (Below.refl w.heap.size w) (ndA + ndB)))
                  generalize (w.drewN (ndA + ndB)).drew = w26 at HB hHeld ⊢
                  refine pure_ (i := 0) (N := some 16) (v := ?_) (a' := ?_) #[true, false, false, false, false, false, false, false, false, false, false, false] rfl rfl (any_of HT_.out (by kernel_rfl)) (fun _ _ _ h => h) (Or.inl ⟨by rfl, ?_⟩) ?_ ?_
                  rotate_left
                  · intro w'
                    go_simp
                    with_reducible rfl
                  rotate_left
                  · simp only [Act.put, List.setIfInBounds_toArray, List.set_cons_zero, List.set_cons_succ, i64_w, i32_w]
                    rfl
                  refine pure_ (i := 1) (N := some 17) (v := ?_) (a' := ?_) #[true, true, false, false, false, false, false, false, false, false, false, false] rfl rfl (any_of HT_.out (by kernel_rfl)) (fun _ _ _ h => h) (Or.inl ⟨by rfl, ?_⟩) ?_ ?_
                  rotate_left
                  · intro w'
                    go_simp
                    with_reducible rfl
                  rotate_left
                  · simp only [Act.put, List.setIfInBounds_toArray, List.set_cons_zero, List.set_cons_succ, i64_w, i32_w]
                    rfl
                  refine pure_ (i := 2) (N := some 18) (v := ?_) (a' := ?_) #[true, true, true, false, false, false, false, false, false, false, false, false] rfl rfl (any_of HT_.out (by kernel_rfl)) (fun _ _ _ h => h) (Or.inl ⟨by rfl, ?_⟩) ?_ ?_
                  rotate_left
                  · intro w'
                    go_simp
                    with_reducible rfl
                  rotate_left
                  · simp only [Act.put, List.setIfInBounds_toArray, List.set_cons_zero, List.set_cons_succ, i64_w, i32_w]
                    rfl
                  refine pure_ (i := 3) (N := some 19) (v := ?_) (a' := ?_) #[true, true, true, true, false, false, false, false, false, false, false, false] rfl rfl (any_of HT_.out (by kernel_rfl)) (fun _ _ _ h => h) (Or.inl ⟨by rfl, ?_⟩) ?_ ?_
                  rotate_left
                  · intro w'
                    go_simp
                    with_reducible rfl
                  rotate_left
                  · simp only [Act.put, List.setIfInBounds_toArray, List.set_cons_zero, List.set_cons_succ, i64_w, i32_w]
                    rfl
                  refine pure_ (i := 4) (N := some 20) (v := ?_) (a' := ?_) #[true, true, true, true, true, false, false, false, false, false, false, false] rfl rfl (any_of HT_.out (by kernel_rfl)) (fun _ _ _ h => h) (Or.inl ⟨by rfl, ?_⟩) ?_ ?_
                  rotate_left
                  · intro w'
                    go_simp
                    with_reducible rfl
                  rotate_left
                  · simp only [Act.put, List.setIfInBounds_toArray, List.set_cons_zero, List.set_cons_succ, i64_w, i32_w]
                    rfl
                  refine pure_ (i := 5) (N := some 21) (v := ?_) (a' := ?_) #[true, true, true, true, true, true, false, false, false, false, false, false] rfl rfl (any_of HT_.out (by kernel_rfl)) (fun _ _ _ h => h) (Or.inl ⟨by rfl, ?_⟩) ?_ ?_
                  rotate_left
                  · intro w'
                    go_simp
                    with_reducible rfl
                  rotate_left
                  · simp only [Act.put, List.setIfInBounds_toArray, List.set_cons_zero, List.set_cons_succ, i64_w, i32_w]
                    rfl
                  refine pure_ (i := 6) (N := some 22) (v := ?_) (a' := ?_) #[true, true, true, true, true, true, true, false, false, false, false, false] rfl rfl (any_of HT_.out (by kernel_rfl)) (fun _ _ _ h => h) (Or.inl ⟨by rfl, ?_⟩) ?_ ?_
                  rotate_left
                  · intro w'
                    go_simp
                    with_reducible rfl
                  rotate_left
                  · simp only [Act.put, List.setIfInBounds_toArray, List.set_cons_zero, List.set_cons_succ, i64_w, i32_w]
                    rfl
                  refine pure_ (i := 7) (N := some 23) (v := ?_) (a' := ?_) #[true, true, true, true, true, true, true, true, false, false, false, false] rfl rfl (any_of HT_.out (by kernel_rfl)) (fun _ _ _ h => h) (Or.inl ⟨by rfl, ?_⟩) ?_ ?_
                  rotate_left
                  · intro w'
                    go_simp
                    with_reducible rfl
                  rotate_left
                  · simp only [Act.put, List.setIfInBounds_toArray, List.set_cons_zero, List.set_cons_succ, i64_w, i32_w]
                    rfl
                  refine pure_ (i := 8) (N := some 24) (v := ?_) (a' := ?_) #[true, true, true, true, true, true, true, true, true, false, false, false] rfl rfl (any_of HT_.out (by kernel_rfl)) (fun _ _ _ h => h) (Or.inl ⟨by rfl, ?_⟩) ?_ ?_
                  rotate_left
                  · intro w'
                    go_simp
                    with_reducible rfl
                  rotate_left
                  · simp only [Act.put, List.setIfInBounds_toArray, List.set_cons_zero, List.set_cons_succ, i64_w, i32_w]
                    rfl
                  refine pure_ (i := 9) (N := some 25) (v := ?_) (a' := ?_) #[true, true, true, true, true, true, true, true, true, true, false, false] rfl rfl (any_of HT_.out (by kernel_rfl)) (fun _ _ _ h => h) (Or.inl ⟨by rfl, ?_⟩) ?_ ?_
                  rotate_left
                  · intro w'
                    go_simp
                    with_reducible rfl
                  rotate_left
                  · simp only [Act.put, List.setIfInBounds_toArray, List.set_cons_zero, List.set_cons_succ, i64_w, i32_w]
                    rfl
                  refine one_ (i := 10) (N := some 26) #[true, true, true, true, true, true, true, true, true, true, true, false] rfl rfl (one_of HT_.out (by kernel_rfl)) (by decide) (fun K hK => ?_)
                  refine Kd.R_lit_step (Kd.int .u8) _ 5 ?hg (N := 26) ?hd (xs := ([(Go.bits .or .i64 (Go.bits .and .i64 (ji9) 255) (ji12)) % 256] : List Int)) (inner := [.int .u8 ((Go.bits .or .i64 (Go.bits .and .i64 (ji9) 255) (ji12)) % 256)]) (ok := fun _ => True) (okp := fun _ => True) ?hr ?hp (fun _ hk => hk) trivial (Below.refl _ _) (Nat.le_refl _) (by simp) ?_; (case hd => rfl); (case hg => rfl); (case hr => first | (go_simp; done) | (go_simp; rfl)); (case hp => exact (Reps.one (show Kd.M (Kd.int .u8) _ _ _ ((Go.bits .or .i64 (Go.bits .and .i64 (ji9) 255) (ji12)) % 256) [.int .u8 ((Go.bits .or .i64 (Go.bits .and .i64 (ji9) 255) (ji12)) % 256)] from rfl) (Reps.none _ _)))
                  intro v235 w27 ho28 hb hg_ hnew_
                  clear hg_ hnew_
                  (first | rw [← Ny234.out] at ho28 | (simp only [Int.reduceToNat] at ho28; rw [← Ny234.out] at ho28))
                  have n0_ := Aside0.mk (Kd.R_lower ho28 (below_size (by repeat (first | (with_reducible first | exact HB.out | apply below_alloc | apply pw_below_drewN | apply below_drew1) | exact HB.out))))
                  have n1_ := Aside0.mk (below_step (by repeat (first | (with_reducible first | exact HB.out | apply below_alloc | apply pw_below_drewN | apply below_drew1) | exact HB.out)) hb)
                  clear HB
                  have HO236 := n0_
                  have HB := n1_
                  clear n0_ n1_
                  clear hb ho28
                  refine hK.out _ _ trivial (fun hHeld => ?_)
                  clear hK K
                  refine norm_ (a' := ?_) ?_ ?_
                  rotate_left
                  · show Act.put _ (some 26) _ = _
                    simp only [Act.put, List.setIfInBounds_toArray, List.set_cons_zero, List.set_cons_succ, i64_w, i32_w]
                    rfl
                  refine pure_ (i := 11) (N := some 5) (v := ?_) (a' := ?_) #[true, true, true, true, true, true, true, true, true, true, true, true] rfl rfl (any_of HT_.out (by kernel_rfl)) (fun _ _ _ h => h) (Or.inl ⟨by rfl, ?_⟩) ?_ ?_
                  rotate_left
                  · intro w'
                    go_simp
                    with_reducible rfl
                  rotate_left
                  · simp only [Act.put, List.setIfInBounds_toArray, List.set_cons_zero, List.set_cons_succ, i64_w, i32_w]
                    rfl
                  refine done_ (done_of HT_.out (by kernel_rfl)) ?_
                  try go_wp2_with (first | ((with_reducible refine gate_builtin (b := .append) (xs := #[(.tmp 40), .tmp 46]) rfl ?_); at_builtin; refine Kd.R_append (Kd.int .u8) (w0 := w) w.heap.size rfl (.tmp 40) (.tmp 46) 22 5 (.int .u8 0) 1 rfl Tryd.underlying22 info5 rfl (by decide) (by omega) v235 y234 ((Go.bits .or .i64 128 (Go.bits .and .i64 (a0 / 64) 63)) % 256) [.int .u8 ((Go.bits .or .i64 128 (Go.bits .and .i64 (a0 / 64) 63)) % 256)] (fun _ => True) (fun _ => False) rfl rfl ?aP (fun _ hk => hk.elim) ?aF ?aO ?aB ?aS ?aL ?_; (case aP => exact rfl); (case aB => exact (by repeat (first | (with_reducible first | exact HB.out | apply below_alloc | apply pw_below_drewN | apply below_drew1) | exact HB.out))); (case aF => exact (fun _ _ => trivial)); (case aO => exact (by (with_reducible repeat (first | apply Kd.R_alloc | apply Kd.R_drewN | apply Kd.R_drew)); exact HO236.out)); (case aS => exact (below_size (by repeat (first | (with_reducible first | exact HB.out | apply below_alloc | apply pw_below_drewN | apply below_drew1) | exact HB.out)))); (case aL => have := LMc24.out; omega); intro v247 w29 ho hb hg hat; rw [← Ny246.out] at ho; have n0_ := Aside0.mk (hb); have n1_ := Aside0.mk (ho); clear HB; clear HO236; have HB := n0_; have HO248 := n1_; clear n0_ n1_; clear ho hb hg hat) | ((with_reducible refine gate_builtin (b := .append) (xs := #[(.tmp 48), .tmp 53]) rfl ?_); at_builtin; refine Kd.R_append (Kd.int .u8) (w0 := w) w.heap.size rfl (.tmp 48) (.tmp 53) 22 5 (.int .u8 0) 1 rfl Tryd.underlying22 info5 rfl (by decide) (by omega) v247 y246 ((Go.bits .or .i64 128 (Go.bits .and .i64 a0 63)) % 256) [.int .u8 ((Go.bits .or .i64 128 (Go.bits .and .i64 a0 63)) % 256)] (fun _ => True) (fun _ => False) rfl rfl ?aP (fun _ hk => hk.elim) ?aF ?aO ?aB ?aS ?aL ?_; (case aP => exact rfl); (case aB => exact (by repeat (first | (with_reducible first | exact HB.out | apply below_alloc | apply pw_below_drewN | apply below_drew1) | exact HB.out))); (case aF => exact (fun _ _ => trivial)); (case aO => exact (by (with_reducible repeat (first | apply Kd.R_alloc | apply Kd.R_drewN | apply Kd.R_drew)); exact HO248.out)); (case aS => exact (below_size (by repeat (first | (with_reducible first | exact HB.out | apply below_alloc | apply pw_below_drewN | apply below_drew1) | exact HB.out)))); (case aL => have := LMc25.out; omega); intro v250 w30 ho hb hg hat; rw [← Ny249.out] at ho; have n0_ := Aside0.mk (hb); have n1_ := Aside0.mk (ho); clear HB; clear HO248; have HB := n0_; have HO251 := n1_; clear n0_ n1_; clear ho hb hg hat))
                  go_ret2
                  exact ⟨_, by first | rfl | (simp [errW_none, errW_some] <;> rfl) | (simp only [← hji9, ← hji10, ← hji12]; first | rfl | (simp [errW_none, errW_some] <;> rfl)) | (simp [*, errW_none, errW_some] <;> rfl), by (with_reducible repeat (first | apply Kd.R_alloc | apply Kd.R_drewN | apply Kd.R_drew)); exact HO251.out, by repeat (first | (with_reducible first | exact HB.out | apply below_alloc | apply pw_below_drewN | apply below_drew1) | exact HB.out)⟩
                · rw [if_neg c25] at H
                  exact absurd H (by simp)
              · rw [if_neg c24] at H
                exact absurd H (by simp)
            · rw [if_neg c23] at H
              have c23b0 : (t230 == 3) = false := beq_eq_false_iff_ne.mpr c23
              have c23b1 : (t230 != 3) = true := bne_iff_ne.mpr c23
              by_cases c31 : y234.length < 140737488355328
              · rw [if_pos c31] at H
                have LMc31 := Aside0.mk c31
                clear c31
                obtain ⟨y252, hy252⟩ : ∃ y_ : List Int, y_ = (y234 ++ [(Go.bits .or .i64 128 (Go.bits .and .i64 a0 63)) % 256]) := ⟨_, rfl⟩
                replace H : (some (y252, 0)) = some (r1, r2) := by first | (rw [hy252]; with_reducible exact H) | (have H2_ := (Option.bind_some _ _).symm.trans H; rw [hy252]; with_reducible exact H2_) | (have H2_ := (Option.bind_some _ _).symm.trans H; with_reducible exact H2_) | with_reducible exact H | (rw [hy252]; exact H) | exact H
                have Ny252 := Aside0.mk hy252
                clear hy252
                simp only [Option.some.injEq, Prod.mk.injEq] at H
                obtain ⟨rfl, rfl⟩ := H
                go_enter Tryd.func25, Tryd.ntmps25
                try go_wp2_with (first | ((with_reducible refine gate_callee (f := 37) rfl ?_); refine goesL_ (some 7) rfl rfl Tryd.func37 (by kernel_rfl) rfl #[.int .i64 a0] rfl (by (try simp only [List.map_toArray, List.map_cons, List.map_nil]); first | done | rfl | (simp only [List.length_drop, List.length_take]; rfl)) ?_; (with_reducible refine (utf_may.calls a0 true _ A2.out).mono ?_); rintro e w' ⟨rfl, ⟨ndA, rfl⟩⟩; refine ⟨_, rfl, ?_⟩) | ((with_reducible refine gate_callee (f := 38) rfl ?_); refine goesL_ (some 10) rfl rfl Tryd.func38 (by kernel_rfl) rfl #[.int .i64 a0] rfl (by (try simp only [List.map_toArray, List.map_cons, List.map_nil]); first | done | rfl | (simp only [List.length_drop, List.length_take]; rfl)) ?_; (with_reducible refine (utf_size.calls a0 t230 _ A4.out).mono ?_); rintro e w' ⟨rfl, ⟨ndB, rfl⟩⟩; refine ⟨_, rfl, ?_⟩))
                have n0_ := Aside0.mk (below_drew1 HB.out)
                clear HB
                have HB := n0_
                clear n0_
                refine start_ (n := 12) (S := fun w' => True) (ds := []) #[false, false, false, false, false, false, false, false, false, false, false, false] (by kernel_rfl) rfl rfl trivial (fun hHeld => ?_); refine with_tabW utf_Put.tab6 utf_Put.bits6 (fun HT_ HW_ => ?_)
                clear HB
                have HB := Aside0.mk (below_drew1 (pw_below_drewN (Below.refl w.heap.size w) (ndA + ndB)))
                generalize (w.drewN (ndA + ndB)).drew = w32 at HB hHeld ⊢
                refine pure_ (i := 0) (N := some 16) (v := ?_) (a' := ?_) #[true, false, false, false, false, false, false, false, false, false, false, false] rfl rfl (any_of HT_.out (by kernel_rfl)) (fun _ _ _ h => h) (Or.inl ⟨by rfl, ?_⟩) ?_ ?_
                rotate_left
                · intro w'
                  go_simp
                  with_reducible rfl
                rotate_left
                · simp only [Act.put, List.setIfInBounds_toArray, List.set_cons_zero, List.set_cons_succ, i64_w, i32_w]
                  rfl
                refine pure_ (i := 1) (N := some 17) (v := ?_) (a' := ?_) #[true, true, false, false, false, false, false, false, false, false, false, false] rfl rfl (any_of HT_.out (by kernel_rfl)) (fun _ _ _ h => h) (Or.inl ⟨by rfl, ?_⟩) ?_ ?_
                rotate_left
                · intro w'
                  go_simp
                  with_reducible rfl
                rotate_left
                · simp only [Act.put, List.setIfInBounds_toArray, List.set_cons_zero, List.set_cons_succ, i64_w, i32_w]
                  rfl
                refine pure_ (i := 2) (N := some 18) (v := ?_) (a' := ?_) #[true, true, true, false, false, false, false, false, false, false, false, false] rfl rfl (any_of HT_.out (by kernel_rfl)) (fun _ _ _ h => h) (Or.inl ⟨by rfl, ?_⟩) ?_ ?_
                rotate_left
                · intro w'
                  go_simp
                  with_reducible rfl
                rotate_left
                · simp only [Act.put, List.setIfInBounds_toArray, List.set_cons_zero, List.set_cons_succ, i64_w, i32_w]
                  rfl
                refine pure_ (i := 3) (N := some 19) (v := ?_) (a' := ?_) #[true, true, true, true, false, false, false, false, false, false, false, false] rfl rfl (any_of HT_.out (by kernel_rfl)) (fun _ _ _ h => h) (Or.inl ⟨by rfl, ?_⟩) ?_ ?_
                rotate_left
                · intro w'
                  go_simp
                  with_reducible rfl
                rotate_left
                · simp only [Act.put, List.setIfInBounds_toArray, List.set_cons_zero, List.set_cons_succ, i64_w, i32_w]
                  rfl
                refine pure_ (i := 4) (N := some 20) (v := ?_) (a' := ?_) #[true, true, true, true, true, false, false, false, false, false, false, false] rfl rfl (any_of HT_.out (by kernel_rfl)) (fun _ _ _ h => h) (Or.inl ⟨by rfl, ?_⟩) ?_ ?_
                rotate_left
                · intro w'
                  go_simp
                  with_reducible rfl
                rotate_left
                · simp only [Act.put, List.setIfInBounds_toArray, List.set_cons_zero, List.set_cons_succ, i64_w, i32_w]
                  rfl
                refine pure_ (i := 5) (N := some 21) (v := ?_) (a' := ?_) #[true, true, true, true, true, true, false, false, false, false, false, false] rfl rfl (any_of HT_.out (by kernel_rfl)) (fun _ _ _ h => h) (Or.inl ⟨by rfl, ?_⟩) ?_ ?_
                rotate_left
                · intro w'
                  go_simp
                  with_reducible rfl
                rotate_left
                · simp only [Act.put, List.setIfInBounds_toArray, List.set_cons_zero, List.set_cons_succ, i64_w, i32_w]
                  rfl
                refine pure_ (i := 6) (N := some 22) (v := ?_) (a' := ?_) #[true, true, true, true, true, true, true, false, false, false, false, false] rfl rfl (any_of HT_.out (by kernel_rfl)) (fun _ _ _ h => h) (Or.inl ⟨by rfl, ?_⟩) ?_ ?_
                rotate_left
                · intro w'
                  go_simp
                  with_reducible rfl
                rotate_left
                · simp only [Act.put, List.setIfInBounds_toArray, List.set_cons_zero, List.set_cons_succ, i64_w, i32_w]
                  rfl
                refine pure_ (i := 7) (N := some 23) (v := ?_) (a' := ?_) #[true, true, true, true, true, true, true, true, false, false, false, false] rfl rfl (any_of HT_.out (by kernel_rfl)) (fun _ _ _ h => h) (Or.inl ⟨by rfl, ?_⟩) ?_ ?_
                rotate_left
                · intro w'
                  go_simp
                  with_reducible rfl
                rotate_left
                · simp only [Act.put, List.setIfInBounds_toArray, List.set_cons_zero, List.set_cons_succ, i64_w, i32_w]
                  rfl
                refine pure_ (i := 8) (N := some 24) (v := ?_) (a' := ?_) #[true, true, true, true, true, true, true, true, true, false, false, false] rfl rfl (any_of HT_.out (by kernel_rfl)) (fun _ _ _ h => h) (Or.inl ⟨by rfl, ?_⟩) ?_ ?_
                rotate_left
                · intro w'
                  go_simp
                  with_reducible rfl
                rotate_left
                · simp only [Act.put, List.setIfInBounds_toArray, List.set_cons_zero, List.set_cons_succ, i64_w, i32_w]
                  rfl
                refine pure_ (i := 9) (N := some 25) (v := ?_) (a' := ?_) #[true, true, true, true, true, true, true, true, true, true, false, false] rfl rfl (any_of HT_.out (by kernel_rfl)) (fun _ _ _ h => h) (Or.inl ⟨by rfl, ?_⟩) ?_ ?_
                rotate_left
                · intro w'
                  go_simp
                  with_reducible rfl
                rotate_left
                · simp only [Act.put, List.setIfInBounds_toArray, List.set_cons_zero, List.set_cons_succ, i64_w, i32_w]
                  rfl
                refine one_ (i := 10) (N := some 26) #[true, true, true, true, true, true, true, true, true, true, true, false] rfl rfl (one_of HT_.out (by kernel_rfl)) (by decide) (fun K hK => ?_)
                refine Kd.R_lit_step (Kd.int .u8) _ 5 ?hg (N := 26) ?hd (xs := ([(Go.bits .or .i64 (Go.bits .and .i64 (ji9) 255) (ji12)) % 256] : List Int)) (inner := [.int .u8 ((Go.bits .or .i64 (Go.bits .and .i64 (ji9) 255) (ji12)) % 256)]) (ok := fun _ => True) (okp := fun _ => True) ?hr ?hp (fun _ hk => hk) trivial (Below.refl _ _) (Nat.le_refl _) (by simp) ?_; (case hd => rfl); (case hg => rfl); (case hr => first | (go_simp; done) | (go_simp; rfl)); (case hp => exact (Reps.one (show Kd.M (Kd.int .u8) _ _ _ ((Go.bits .or .i64 (Go.bits .and .i64 (ji9) 255) (ji12)) % 256) [.int .u8 ((Go.bits .or .i64 (Go.bits .and .i64 (ji9) 255) (ji12)) % 256)] from rfl) (Reps.none _ _)))
                intro v235 w33 ho34 hb hg_ hnew_
                clear hg_ hnew_
                (first | rw [← Ny234.out] at ho34 | (simp only [Int.reduceToNat] at ho34; rw [← Ny234.out] at ho34))
                have n0_ := Aside0.mk (Kd.R_lower ho34 (below_size (by repeat (first | (with_reducible first | exact HB.out | apply below_alloc | apply pw_below_drewN | apply below_drew1) | exact HB.out))))
                have n1_ := Aside0.mk (below_step (by repeat (first | (with_reducible first | exact HB.out | apply below_alloc | apply pw_below_drewN | apply below_drew1) | exact HB.out)) hb)
                clear HB
                have HO236 := n0_
                have HB := n1_
                clear n0_ n1_
                clear hb ho34
                refine hK.out _ _ trivial (fun hHeld => ?_)
                clear hK K
                refine norm_ (a' := ?_) ?_ ?_
                rotate_left
                · show Act.put _ (some 26) _ = _
                  simp only [Act.put, List.setIfInBounds_toArray, List.set_cons_zero, List.set_cons_succ, i64_w, i32_w]
                  rfl
                refine pure_ (i := 11) (N := some 5) (v := ?_) (a' := ?_) #[true, true, true, true, true, true, true, true, true, true, true, true] rfl rfl (any_of HT_.out (by kernel_rfl)) (fun _ _ _ h => h) (Or.inl ⟨by rfl, ?_⟩) ?_ ?_
                rotate_left
                · intro w'
                  go_simp
                  with_reducible rfl
                rotate_left
                · simp only [Act.put, List.setIfInBounds_toArray, List.set_cons_zero, List.set_cons_succ, i64_w, i32_w]
                  rfl
                refine done_ (done_of HT_.out (by kernel_rfl)) ?_
                try go_wp2_with (first | ((with_reducible refine gate_builtin (b := .append) (xs := #[(.tmp 48), .tmp 53]) rfl ?_); at_builtin; refine Kd.R_append (Kd.int .u8) (w0 := w) w.heap.size rfl (.tmp 48) (.tmp 53) 22 5 (.int .u8 0) 1 rfl Tryd.underlying22 info5 rfl (by decide) (by omega) v235 y234 ((Go.bits .or .i64 128 (Go.bits .and .i64 a0 63)) % 256) [.int .u8 ((Go.bits .or .i64 128 (Go.bits .and .i64 a0 63)) % 256)] (fun _ => True) (fun _ => False) rfl rfl ?aP (fun _ hk => hk.elim) ?aF ?aO ?aB ?aS ?aL ?_; (case aP => exact rfl); (case aB => exact (by repeat (first | (with_reducible first | exact HB.out | apply below_alloc | apply pw_below_drewN | apply below_drew1) | exact HB.out))); (case aF => exact (fun _ _ => trivial)); (case aO => exact (by (with_reducible repeat (first | apply Kd.R_alloc | apply Kd.R_drewN | apply Kd.R_drew)); exact HO236.out)); (case aS => exact (below_size (by repeat (first | (with_reducible first | exact HB.out | apply below_alloc | apply pw_below_drewN | apply below_drew1) | exact HB.out)))); (case aL => have := LMc31.out; omega); intro v253 w35 ho hb hg hat; rw [← Ny252.out] at ho; have n0_ := Aside0.mk (hb); have n1_ := Aside0.mk (ho); clear HB; clear HO236; have HB := n0_; have HO254 := n1_; clear n0_ n1_; clear ho hb hg hat))
                go_ret2
                exact ⟨_, by first | rfl | (simp [errW_none, errW_some] <;> rfl) | (simp only [← hji9, ← hji10, ← hji12]; first | rfl | (simp [errW_none, errW_some] <;> rfl)) | (simp [*, errW_none, errW_some] <;> rfl), by (with_reducible repeat (first | apply Kd.R_alloc | apply Kd.R_drewN | apply Kd.R_drew)); exact HO254.out, by repeat (first | (with_reducible first | exact HB.out | apply below_alloc | apply pw_below_drewN | apply below_drew1) | exact HB.out)⟩
              · rw [if_neg c31] at H
                exact absurd H (by simp)
        · rw [if_neg c11] at H
          exact absurd H (by simp)
      · rw [if_neg c8] at H
        exact absurd H (by simp)
  · replace c3 := Bool.eq_false_iff.mpr c3
    subst c3
    have H1 : (some (([] : List Int), 2)) = some (r1, r2) := by rw [if_neg (show ¬ (false = true) by decide)] at H; exact H
    clear H
    have H := H1
    clear H1
    simp only [Option.some.injEq, Prod.mk.injEq] at H
    obtain ⟨rfl, rfl⟩ := H
    go_enter Tryd.func25, Tryd.ntmps25
    go_wp2_with (first | ((with_reducible refine gate_callee (f := 37) rfl ?_); refine goesL_ (some 7) rfl rfl Tryd.func37 (by kernel_rfl) rfl #[.int .i64 a0] rfl (by (try simp only [List.map_toArray, List.map_cons, List.map_nil]); first | done | rfl | (simp only [List.length_drop, List.length_take]; rfl)) ?_; (with_reducible refine (utf_may.calls a0 false _ A2.out).mono ?_); rintro e w' ⟨rfl, ⟨nd, rfl⟩⟩; refine ⟨_, rfl, ?_⟩))
    go_ret2
    exact ⟨_, by first | rfl | (simp [errW_none, errW_some] <;> rfl) | (simp [*, errW_none, errW_some] <;> rfl), by first | exact Kd.R_nil _ _ _ _ _ | exact Kd.N_nil _ _ _ _ _ | exact Kd.V_nil _ _ _ _ _ | exact Kd.Q_nil _ _ _ _ _ | exact Kd.S_nil _ _ _ _ _, by repeat (first | (with_reducible first | exact HB.out | apply below_alloc | apply pw_below_drewN | apply below_drew1) | exact HB.out)⟩
theorem utf_Put.total (r : Int) : ∃ b : List Int, ∃ e : Int, utf_Put.f r = some (b, e) := by
  obtain ⟨m, hm⟩ := utf_may.total r
  obtain ⟨n, hn, n1, n4⟩ := utf_size.total r
  unfold utf_Put.f
  rw [hm, hn]
  simp only [Option.bind_some]
  cases m with
  | false => exact ⟨_, _, rfl⟩
  | true =>
    rw [if_pos rfl]
    have h : n = 1 ∨ n = 2 ∨ n = 3 ∨ n = 4 := by omega
    rcases h with rfl | rfl | rfl | rfl
    · exact ⟨_, _, rfl⟩
    all_goals
      simp only [List.length_append, List.length_cons, List.length_nil, wrap64]
      exact ⟨_, _, rfl⟩
def putT (r : Int) : List Int × Int := (utf_Put.f r).getD ([], 0)
theorem putT_eq (r : Int) : utf_Put.f r = some ((putT r).1, (putT r).2) := by
  obtain ⟨b, e, h⟩ := utf_Put.total r
  unfold putT
  rw [h]; rfl
def endP (l : List (Int × Int)) : Int := l.foldl (fun _ p => wrap64 (p.1 + ((putT p.2).1.length : Int))) 0
theorem endP_snoc (l : List (Int × Int)) (x : Int × Int) : endP (l ++ [x]) = wrap64 (x.1 + ((putT x.2).1.length : Int)) := by simp [endP]
theorem keepsOthers_below {W W' : World} (h : Below W.heap.size W W') : KeepsOthers W W' := KeepsOthers.of_grownBy (grown_of_below h none) (fun j o e => by cases e)
theorem keepsBox_below {b : Nat} {W W' : World} (h : Below W.heap.size W W') : KeepsBox b W W' := fun v hv => _root_.Go.cell_kept hv (grown_of_below h none) (fun r e => by cases e)
def lex_well.f (a0 : ByteArray) : Option ByteArray := if a0.size ≤ 140737488355328 ∧ 0 ≤ endP (runesOf a0) ∧ endP (runesOf a0) ≤ (a0.size : Int) then some (a0.extract 0 (endP (runesOf a0)).toNat) else none
section
attribute [local go_sem] Oper.semAt_some
set_option maxRecDepth 100000 in
set_option maxHeartbeats 2000000 in
theorem lex_well.calls (a0 : ByteArray) (r : ByteArray) (w : World) (h : lex_well.f a0 = some r) :
    Calls Tryd.prog 13 #[.string a0] w fun e w' => e = .returned (.string r) ∧ Below w.heap.size w w' := by
  unfold lex_well.f at h
  split at h
  · rename_i hs3
    obtain ⟨hs, he0, he1⟩ := hs3
    obtain rfl := Option.some.inj h
    clear h
    refine (callsIn_wide (n := 5)).1 ?_
    refine callsIn_of_wp_marks Tryd.func13 rfl trivial ?_ rfl
    simp only [Tryd.ntmps13, List.size_toArray, List.length_cons, List.length_nil, Nat.reduceAdd, Nat.reduceSub, Array.replicate_succ, Array.replicate_zero, List.push_toArray, List.append_toArray, List.nil_append, List.cons_append]
    gi_wp2_with (refine ⟨trivial, ?_⟩; gi_at_call 24; refine (wide_of (utf_Runes.calls a0 _)).mono ?_; rintro e w' ⟨rfl, rfl⟩)
    have c0 := cellNew w (.int .i64 0) 3
    have c1 := cellNew (w.alloc (.cells #[.int .i64 0] 3)) (.string a0) 9
    rw [World.size_alloc] at c1
    have hB0 : Below w.heap.size w ((w.alloc (.cells #[.int .i64 0] 3)).alloc (.cells #[.string a0] 9)) := ((Below.refl _ w).alloc (Nat.le_refl _) _).alloc (by simp) _
    refine wpIn_rangeFunc_ownF rfl (by omega) (gf := 35) (lb := #[.pointer (some ⟨w.heap.size + 1, 0, none⟩)]) rfl trivial (enters_of Tryd.func35 (by kernel_rfl) rfl)
      (runes_stops 4 (by omega) a0 hs (w.heap.size + 1) _ (by simp) c1.1) keepsBox_t (fun W l o o' _ h hc _ => keepsBox_b W l o o' h hc) (Below.refl _ _) (fun _ => rfl)
      (fun pre W => (W.cell? ⟨w.heap.size, 0, none⟩ = some (.int .i64 (endP pre)) ∧ W.frozen? ⟨w.heap.size, 0, none⟩ = false) ∧ Below w.heap.size w W)
      (fun _ _ _ => False)
      (OwnFrom.and (Own.from (fun s A B row hs hg hr => ⟨_root_.Go.cell_kept hs.1 hg hr, (_root_.Go.frozen_kept hs.1 hg hr).trans hs.2⟩) _) (ownFrom_below (Nat.le_refl _) (by simp; omega)))
      (fun _ _ _ _ _ hs _ _ => hs)
      ⟨⟨cellAlloc _ c0.1, frozenAlloc _ c0.1 c0.2⟩, hB0⟩
      (fun x => { tmps := #[.string a0, undef, .string (⟨#[]⟩ : ByteArray), .pointer (some ⟨w.heap.size, 0, none⟩), .int .i64 x.1, .int .i64 x.2, undef, undef, .string a0, .func (.func 35) #[] #[.pointer (some ⟨w.heap.size + 1, 0, none⟩)], .int .i64 x.1, .int .i64 x.2, undef, undef, undef, undef, undef, undef, undef, undef, undef, undef, undef, undef], defers := [] }) ?assign ?body ?done ?stop
    case assign =>
      intro l x W K hK
      gi_wp2
      exact hK
    case body =>
      rintro l pre x W ⟨⟨hc, hf⟩, hB⟩ _
      gi_wp2_with (refine ⟨trivial, ?_⟩; gi_at_call 25; refine (CallsIn.inRound l (wide_of (utf_Put.calls x.2 (putT x.2).1 (putT x.2).2 _ (putT_eq x.2)))).mono ?_; rintro e w' ⟨v, rfl, hr, hb⟩; obtain ⟨A_, c_, rfl⟩ := Kd.R_slice hr; have hc2 := _root_.Go.cell_kept hc (grown_of_below hb none) (fun r e => by cases e); have hf2 := (_root_.Go.frozen_kept hc (grown_of_below hb none) (fun r e => by cases e)).trans hf)
      refine ⟨(keepsOthers_below hb).trans (KeepsOthers.setCell _ _ _), keepsBox_t (keepsBox_below hb) (keepsBox_set _ _ _ (by simp)), ⟨?_, ?_⟩, (below_then hB hB.size hb).setCell (p := ⟨w.heap.size, 0, none⟩) (Nat.le_refl _) _⟩
      · rw [endP_snoc]
        exact World.cell?_setCell_same' _ _ _ (by rw [hc2]; rfl)
      · rw [World.frozen?_setCell]
        exact hf2
    case done =>
      rintro D ys W hD rfl ⟨⟨hc, _⟩, hB⟩ hK
      gi_wp2
      refine ⟨by simp, .inl ⟨_, _, rfl, run_takeDeferred hK, ?_⟩⟩
      exact ⟨_, results_tmp rfl _ _ _, rfl, hB.trans (belowK_b (w := w) (Nat.le_refl _) W D _ _ (by simp at hD; omega) hK rfl rfl)⟩
    case stop =>
      rintro D c pre W _ _ h _
      exact h.elim
  · cases h
end
end Go.Proofs.YtpbphelaeleikaaDoor.PLong

import Derived.Test.YtjnhdamilbcmpaaDoorCuPTmx0
import Derived.Test.YtjnhdamilbcmpaaDoorCuPTmx4
import Derived.Test.YtjnhdamilbcmpaaDoorCuPTmx5
import Derived.Test.YtjnhdamilbcmpaaDoorCuPTmx6
import Derived.Test.YtjnhdamilbcmpaaDoorCuPTmx7
import Derived.Test.YtjnhdamilbcmpaaDoorCuPTmx11
namespace Go.Proofs.YtjnhdamilbcmpaaDoor.PTm
open Go.RowKit Go.Proofs.YtjnhdamilbcmpaaDoorW.PrintWords Go.Proofs.YtjnhdamilbcmpaaDoorW.PrintLast Go.Proofs.YtjnhdamilbcmpaaDoorW.PrintMore
attribute [local go_sem] max2_int min2_int max_two min_two max_three min_three max_four min_four
set_option linter.unusedVariables false
set_option linter.unusedSimpArgs false
set_option maxHeartbeats 8000000
set_option maxRecDepth 100000
structure SX (w0 w W : World) (g gy : Nat) (s : ByteArray) (at_ : Int) (cs : Array Value) : Prop where
 st : IsS65 w0 W g s at_
 below : Below w0.heap.size w0 W
 keep : KeepBut w W g none
 y : W.heap[gy]? = some (.cells cs 56 (0, 0))
 yw : w.heap.size ≤ gy
 yg : gy ≠ g
 w0w : w0.heap.size ≤ w.heap.size
structure SY (w0 w W : World) (g gy gi : Nat) (s : ByteArray) (at_ : Int) (cs : Array Value) (b : Bool) : Prop extends SX w0 w W g gy s at_ cs where
 i : W.heap[gi]? = some (.cells #[.bool b] 4 (0, 0))
 iw : w.heap.size ≤ gi
 ig : gi ≠ g
 iy : gi ≠ gy
structure SZ (w0 w W : World) (g gy gi gb : Nat) (s : ByteArray) (at_ : Int) (cs : Array Value) (b : Bool) (z : Int) : Prop extends SY w0 w W g gy gi s at_ cs b where
 b : W.heap[gb]? = some (.cells #[.int .i64 z] 3 (0, 0))
 bw : w.heap.size ≤ gb
 bg : gb ≠ g
 by_ : gb ≠ gy
 bi : gb ≠ gi
theorem SX.first {w0 w W : World} {g gy : Nat} {s : ByteArray} {at_ : Int} {cs : Array Value} (hI : IsS65 w0 w g s at_) (hB : Below w0.heap.size w0 w) (hg : gy = w.heap.size) (hy : W.heap[gy]? = some (.cells cs 56 (0, 0))) (hb : Below w.heap.size w W) : SX w0 w W g gy s at_ cs :=
 ⟨hI.below hb, below_then hB hB.size hb, KeepBut.of_below hb g none, hy, Nat.le_of_eq hg.symm, by rw [hg]; exact Ne.symm (Nat.ne_of_lt hI.lt), hB.size⟩
theorem SX.lower {w0 w W W' : World} {g gy : Nat} {s : ByteArray} {at_ : Int} {cs : Array Value} (h : SX w0 w W g gy s at_ cs) (hb : Below W.heap.size W W') : SX w0 w W' g gy s at_ cs :=
 ⟨h.st.below hb, below_then h.below h.below.size hb, h.keep.trans (KeepBut.of_below hb g none) (.inl rfl), blk_below h.y hb, h.yw, h.yg, h.w0w⟩
theorem SY.lower {w0 w W W' : World} {g gy gi : Nat} {s : ByteArray} {at_ : Int} {cs : Array Value} {b : Bool} (h : SY w0 w W g gy gi s at_ cs b) (hb : Below W.heap.size W W') : SY w0 w W' g gy gi s at_ cs b :=
 ⟨h.toSX.lower hb, blk_below h.i hb, h.iw, h.ig, h.iy⟩
theorem SZ.lower {w0 w W W' : World} {g gy gi gb : Nat} {s : ByteArray} {at_ z : Int} {cs : Array Value} {b : Bool} (h : SZ w0 w W g gy gi gb s at_ cs b z) (hb : Below W.heap.size W W') : SZ w0 w W' g gy gi gb s at_ cs b z :=
 ⟨h.toSY.lower hb, blk_below h.b hb, h.bw, h.bg, h.by_, h.bi⟩
theorem SY.next {w0 w W W' : World} {g gy gi : Nat} {s : ByteArray} {at_ : Int} {cs : Array Value} {b : Bool} (h : SX w0 w W g gy s at_ cs) (hg : gi = W.heap.size) (hy : W'.heap[gi]? = some (.cells #[.bool b] 4 (0, 0))) (hb : Below W.heap.size W W') : SY w0 w W' g gy gi s at_ cs b :=
 ⟨h.lower hb, hy, by rw [hg]; exact h.keep.1, by rw [hg]; exact Ne.symm (Nat.ne_of_lt h.st.lt), by rw [hg]; exact Ne.symm (Nat.ne_of_lt (blk_lt h.y))⟩
theorem SZ.next {w0 w W W' : World} {g gy gi gb : Nat} {s : ByteArray} {at_ z : Int} {cs : Array Value} {b : Bool} (h : SY w0 w W g gy gi s at_ cs b) (hg : gb = W.heap.size) (hy : W'.heap[gb]? = some (.cells #[.int .i64 z] 3 (0, 0))) (hb : Below W.heap.size W W') : SZ w0 w W' g gy gi gb s at_ cs b z :=
 ⟨h.lower hb, hy, by rw [hg]; exact h.keep.1, by rw [hg]; exact Ne.symm (Nat.ne_of_lt h.st.lt), by rw [hg]; exact Ne.symm (Nat.ne_of_lt (blk_lt h.y)), by rw [hg]; exact Ne.symm (Nat.ne_of_lt (blk_lt h.i))⟩
theorem SX.upd {w0 w W W' : World} {g gy gz : Nat} {s : ByteArray} {at_ : Int} {cs cs' : Array Value} (h : SX w0 w W g gy s at_ cs) (hu : Upd W W' gz) (hw : w.heap.size ≤ gz) (hg : gz ≠ g) (hy : W'.heap[gy]? = some (.cells cs' 56 (0, 0))) : SX w0 w W' g gy s at_ cs' :=
 ⟨⟨(hu.other g (Ne.symm hg)).trans h.st.1, h.st.2⟩, h.below.trans (hu.below (Nat.le_trans h.w0w hw)), hu.keep h.keep hw, hy, h.yw, h.yg, h.w0w⟩
theorem SZ.upy {w0 w W W' : World} {g gy gi gb : Nat} {s : ByteArray} {at_ z : Int} {cs cs' : Array Value} {b : Bool} (h : SZ w0 w W g gy gi gb s at_ cs b z) (hu : Upd W W' gy) (hn : W'.heap[gy]? = some (.cells cs' 56 (0, 0))) : SZ w0 w W' g gy gi gb s at_ cs' b z :=
 ⟨⟨h.toSX.upd hu h.yw h.yg hn, (hu.other gi h.iy).trans h.i, h.iw, h.ig, h.iy⟩, (hu.other gb h.by_).trans h.b, h.bw, h.bg, h.by_, h.bi⟩
theorem SZ.upi {w0 w W W' : World} {g gy gi gb : Nat} {s : ByteArray} {at_ z : Int} {cs : Array Value} {b b' : Bool} (h : SZ w0 w W g gy gi gb s at_ cs b z) (hu : Upd W W' gi) (hn : W'.heap[gi]? = some (.cells #[.bool b'] 4 (0, 0))) : SZ w0 w W' g gy gi gb s at_ cs b' z :=
 ⟨⟨h.toSX.upd hu h.iw h.ig ((hu.other gy (Ne.symm h.iy)).trans h.y), hn, h.iw, h.ig, h.iy⟩, (hu.other gb h.bi).trans h.b, h.bw, h.bg, h.by_, h.bi⟩
theorem SZ.upb {w0 w W W' : World} {g gy gi gb : Nat} {s : ByteArray} {at_ z z' : Int} {cs : Array Value} {b : Bool} (h : SZ w0 w W g gy gi gb s at_ cs b z) (hu : Upd W W' gb) (hn : W'.heap[gb]? = some (.cells #[.int .i64 z'] 3 (0, 0))) : SZ w0 w W' g gy gi gb s at_ cs b z' :=
 ⟨⟨h.toSX.upd hu h.bw h.bg ((hu.other gy (Ne.symm h.by_)).trans h.y), (hu.other gi (Ne.symm h.bi)).trans h.i, h.iw, h.ig, h.iy⟩, hn, h.bw, h.bg, h.by_, h.bi⟩
theorem SZ.call {w0 w W W' : World} {g gy gi gb : Nat} {s s' : ByteArray} {at_ at' z : Int} {cs : Array Value} {b : Bool} (h : SZ w0 w W g gy gi gb s at_ cs b z) (h1 : IsS65 w0 W' g s' at') (h2 : Below w0.heap.size w0 W') (h3 : KeepBut W W' g none) : SZ w0 w W' g gy gi gb s' at' cs b z :=
 ⟨⟨⟨h1, h2, h.keep.trans h3 (.inl rfl), (h3.2 gy (blk_lt h.y) h.yg (by simp)).trans h.y, h.yw, h.yg, h.w0w⟩, (h3.2 gi (blk_lt h.i) h.ig (by simp)).trans h.i, h.iw, h.ig, h.iy⟩, (h3.2 gb (blk_lt h.b) h.bg (by simp)).trans h.b, h.bw, h.bg, h.by_, h.bi⟩
theorem setCell_self {W : World} {gy o : Nat} {T : TypeId} {cs : Array Value} {f : Nat × Nat} {v : Value} (h : W.heap[gy]? = some (.cells cs T f)) (hv : cs[o]? = some v) : W.setCell ⟨gy, o, none⟩ v = W := by
 have key : ∀ F : Obj → Obj, F (.cells cs T f) = .cells cs T f → W.heap.modify gy F = W.heap := by
  intro F hF
  apply Array.ext_getElem?
  intro k
  rw [Array.getElem?_modify]
  split
  ·rename_i hk
   subst hk
   rw [h]
   simp [hF]
  rfl
 have e : cs.setIfInBounds o v = cs := by
  apply Array.ext_getElem?
  intro q
  rw [Array.getElem?_setIfInBounds]
  split
  ·rename_i hq
   subst hq
   split
   ·exact hv.symm
   rename_i hz
   rw [Array.getElem?_eq_none (Nat.le_of_not_lt hz)]
  rfl
 unfold World.setCell
 rw [key _ (by simp [e])]
theorem setCells_self {gy : Nat} {T : TypeId} {cs : Array Value} {f : Nat × Nat} : ∀ (vs : List Value) (o : Nat) (W : World), W.heap[gy]? = some (.cells cs T f) → (∀ i (hi : i < vs.length), cs[o + i]? = some vs[i]) → W.setCells gy o vs = W
 | [], _, _, _, _ => rfl
 | v :: vs, o, W, h, hv => by
  have e0 : W.setCell ⟨gy, o, none⟩ v = W := setCell_self h (hv 0 (Nat.succ_pos _))
  rw [World.setCells, e0]
  exact setCells_self vs (o + 1) W h fun i hi => by
   have := hv (i + 1) (by simpa using hi)
   simpa [Nat.add_assoc, Nat.add_comm 1 i] using this
theorem store_same {P : Program} {o : Oper} {a : Act} {W : World} {gy : Nat} {T TB : TypeId} {cs : Array Value} {u : Value} {seg : List Value} {p x : Operand} (ho : o.op = .store T p x) (haddr : a.eval p = .pointer (some ⟨gy, 0, none⟩)) (hx : a.eval x = u) (hu : u.cells.toList = seg) (hc : cs = seg.toArray) (hh : W.heap[gy]? = some (.cells cs TB (0, 0))) (ht : (P.info? T).map (·.size) = some seg.length) (h1 : ∀ q ∈ seg, q.oneCell' = true) (n : Nat) :
  o.quietAt P a (fun w' => ∃ n, w' = W.drewN n) (W.drewN n) undef := by
 have hst := run_store_run (P := P) (o := 0) T u seg (blk_drewN hh n) hu ht (by subst hc; simp) h1
 have hs : (W.drewN n).setCells gy 0 seg = W.drewN n := setCells_self seg 0 _ (blk_drewN hh n) fun i hi => by subst hc; simp
 have hex : Sem.run P (execOp a.eval o) (W.drewN n) = .ok .skip (W.drewN n) := by
  unfold execOp
  rw [ho]
  simp [haddr, hx, hst, hs]
 unfold Oper.quietAt
 rw [hex]
 exact ⟨rfl, rfl⟩
set_option maxRecDepth 100000 in
theorem safely_idle (py pis pbad : Addr) (w : World) :
  CallsD Tryd.prog 34 #[.pointer (some py), .pointer (some pis), .pointer (some pbad)] .returning w fun e u' w' => e = .returned (.tuple #[]) ∧ u' = .returning ∧ Below w.heap.size w w' := by
 have hta : ∀ (t : TypeId) (W : World), Sem.run Tryd.prog (Instr.typeAssert .nilIface t 80 true) W = .ok (.tuple #[.agg #[.int .i64 0], .bool false]) W := fun t W => by
  simp [Instr.typeAssert, run_underlying Tryd.underlying80, Tryd.zeroValue80]
 have hne : ∀ W : World, Sem.run Tryd.prog (binOp .neq 20 .nilIface .nilIface) W = .ok (.bool false) W := fun W => by kernel_rfl
 refine callsD_of_wpS Tryd.func34 rfl fun c₀ cs hu => ?_
 apply wpS_seq
 apply wpS_region
 simp [wpOpsS, go_sem, recoverD, hu, Tryd.ntmps34, Exit.thenS]
 refine wpS_of_wp ?_
 simp only [Array.replicate_succ, Array.replicate_zero, List.push_toArray, List.append_toArray, List.nil_append, List.cons_append, List.setIfInBounds_toArray, List.set_cons_zero, List.set_cons_succ]
 go_wp2
 cases c₀
 simp_all [bodyPostS, results, Tryd.results34]
 exact below_alloc (Below.refl _ _) _
def ls_safely.f (k : Nat) (s0_0 : ByteArray) (s0_1 : Int) : Option (Int × ByteArray × Int × ByteArray × ByteArray × Int × Bool × Int × ByteArray × Int) := (ls_next.f k s0_0 s0_1).bind fun b_ => some (b_.1, b_.2.1, b_.2.2.1, b_.2.2.2.1, b_.2.2.2.2.1, b_.2.2.2.2.2.1, b_.2.2.2.2.2.2.1, -1, b_.2.2.2.2.2.2.2.1, b_.2.2.2.2.2.2.2.2)
set_option maxHeartbeats 4000000 in
set_option maxRecDepth 100000 in
theorem ls_safely.calls (k : Nat) (g : Nat) (s0_0 : ByteArray) (s0_1 : Int) (r1 : Int) (r2 : ByteArray) (r3 : Int) (r4 : ByteArray) (r5 : ByteArray) (r6 : Int) (r7 : Bool) (r8 : Int) (r9 : ByteArray) (r10 : Int) (w0 w : World) (hI : IsS65 w0 w g s0_0 s0_1) (hB : Below w0.heap.size w0 w) (h : ls_safely.f k s0_0 s0_1 = some (r1, r2, r3, r4, r5, r6, r7, r8, r9, r10)) :
  Calls Tryd.prog 26 #[.pointer (some ⟨g, 0, none⟩)] w fun e w' => e = .returned (.tuple #[.agg #[.int .i64 r1, .string r2, .int .i64 r3, .string r4, .string r5, .int .i64 r6], .bool r7, .int .i64 r8]) ∧ IsS65 w0 w' g r9 r10 ∧ Below w0.heap.size w0 w' ∧ KeepBut w w' g none := by
 have hmf : ∀ (fn : Fn) (first cap : Array Value) (w : World), (Instr.makeFunc fn first cap).run Tryd.prog w = .ok (.func fn first cap) w := fun _ _ _ _ => rfl
 unfold ls_safely.f at h
 obtain ⟨⟨x1, x2, x3, x4, x5, x6, x7, x8, x9⟩, A0, H⟩ := Option.bind_eq_some_iff.mp h
 simp only [Option.some.injEq, Prod.mk.injEq] at H
 obtain ⟨rfl, rfl, rfl, rfl, rfl, rfl, rfl, rfl, rfl, rfl⟩ := H
 have AS := Ad.mk A0
 clear h A0
 have HI := Ad.mk hI
 have HB := Ad.mk hB
 clear hI hB
 go_enter_defers Tryd.func26, Tryd.ntmps26
 go_wp2_with (first | ((with_reducible refine gate_dst (N := 2) rfl ?_); refine box_event r1_ (N := 2) r1_ (cs := #[.int .i64 0, .string ⟨#[]⟩, .int .i64 0, .string ⟨#[]⟩, .string ⟨#[]⟩, .int .i64 0]) (t := 56) r2_ ?_; intro gy hgy w1 hy hb; have HX := Ad.mk (SX.first HI.out HB.out hgy hy hb); clear hgy hy hb HI HB) | ((with_reducible refine gate_dst (N := 3) rfl ?_); refine box_event r1_ (N := 3) r1_ (cs := #[.bool false]) (t := 4) r2_ ?_; intro gi hgi w2 hi hb; have HX2 := Ad.mk (SY.next HX.out hgi hi hb); clear hgi hi hb HX) | ((with_reducible refine gate_dst (N := 4) rfl ?_); refine box_event r1_ (N := 4) r1_ (cs := #[.int .i64 0]) (t := 3) r2_ ?_; intro gb hgb w3 hi hb; have HX3 := Ad.mk (SZ.next HX2.out hgb hi hb); clear hgb hi hb HX2) | ((with_reducible refine gate_store (t := 3) (p := 4) rfl ?_); refine store_seg (gy := gb) (j := 0) (T := 3) (TB := 3) (cs := #[.int .i64 0]) (new := #[.int .i64 (-1)]) (u := .int .i64 (-1)) (seg := [.int .i64 (-1)]) rfl (p := .tmp 4) (x := .const (.int .i64 (-1))) rfl rfl r1_ r1_ r1_ HX3.out.b k1_ s1_ h1_ rfl ?_; intro w4 hz hup; have HX4 := Ad.mk (HX3.out.upb hup hz); clear HX3 hz hup) | (go_at_call 35; refine (ls_next.calls k g s0_0 s0_1 x1 x2 x3 x4 x5 x6 x7 x8 x9 w0 _ HX4.out.st HX4.out.below AS.out).mono ?_; rintro e w5 ⟨rfl, h1, h2, h3⟩; have HX5 := Ad.mk (HX4.out.call h1 h2 h3); clear HX4 h1 h2 h3) | ((with_reducible refine gate_store (t := 56) (p := 2) rfl ?_); refine store_seg (gy := gy) (j := 0) (T := 56) (TB := 56) (cs := #[.int .i64 0, .string ⟨#[]⟩, .int .i64 0, .string ⟨#[]⟩, .string ⟨#[]⟩, .int .i64 0]) (new := #[.int .i64 x1, .string x2, .int .i64 x3, .string x4, .string x5, .int .i64 x6]) (u := .agg #[.int .i64 x1, .string x2, .int .i64 x3, .string x4, .string x5, .int .i64 x6]) (seg := [.int .i64 x1, .string x2, .int .i64 x3, .string x4, .string x5, .int .i64 x6]) rfl (p := .tmp 2) (x := .tmp 9) rfl rfl r1_ r1_ r1_ HX5.out.y k1_ s1_ h1_ rfl ?_; intro w6 hz hup; have HX6 := Ad.mk (HX5.out.upy hup hz); clear HX5 hz hup) | ((with_reducible refine gate_store (t := 4) (p := 3) rfl ?_); refine store_seg (gy := gi) (j := 0) (T := 4) (TB := 4) (cs := #[.bool false]) (new := #[.bool x7]) (u := .bool x7) (seg := [.bool x7]) rfl (p := .tmp 3) (x := .tmp 10) rfl rfl r1_ r1_ r1_ HX6.out.i k1_ s1_ h1_ rfl ?_; intro w7 hz hup; have HX7 := Ad.mk (HX6.out.upi hup hz); clear HX6 hz hup))
 have hy0 := (blk_cell HX7.out.y 0).trans rfl
 have hy1 := (blk_cell HX7.out.y 1).trans rfl
 have hy2 := (blk_cell HX7.out.y 2).trans rfl
 have hy3 := (blk_cell HX7.out.y 3).trans rfl
 have hy4 := (blk_cell HX7.out.y 4).trans rfl
 have hy5 := (blk_cell HX7.out.y 5).trans rfl
 have hi0 := (blk_cell HX7.out.i 0).trans rfl
 have hb0 := (blk_cell HX7.out.b 0).trans rfl
 refine wp_region_quiet_lit k1_ k1_ ?_
 quiet_step (fail)
 quiet_step (fail)
 quiet_step (fail)
 refine wpQuiet_step (fun K hK => ?_)
 rw [if_pos (by rfl)]
 refine ⟨undef, ?_, hK _ ?_⟩
 ·rintro w' ⟨n, rfl⟩
  refine store_same (T := 56) (cs := #[.int .i64 x1, .string x2, .int .i64 x3, .string x4, .string x5, .int .i64 x6]) (seg := [.int .i64 x1, .string x2, .int .i64 x3, .string x4, .string x5, .int .i64 x6]) (p := .tmp 2) (x := .tmp 11) rfl rfl rfl ?hu rfl HX7.out.y k1_ ?h1 n; (case hu => rfl); (case h1 => intro q hq; simp at hq; repeat (first | (rcases hq with rfl | hq; · rfl) | (subst hq; rfl)))
 clear hK K
 refine wpQuiet_step (fun K hK => ?_)
 rw [if_pos (by rfl)]
 refine ⟨undef, ?_, hK _ ?_⟩
 ·rintro w' ⟨n, rfl⟩
  refine store_same (T := 4) (cs := #[.bool x7]) (seg := [.bool x7]) (p := .tmp 3) (x := .tmp 12) rfl rfl rfl ?hu rfl HX7.out.i k1_ ?h1 n; (case hu => rfl); (case h1 => intro q hq; simp at hq; repeat (first | (rcases hq with rfl | hq; · rfl) | (subst hq; rfl)))
 clear hK K
 refine wpQuiet_step (fun K hK => ?_)
 rw [if_pos (by rfl)]
 refine ⟨undef, ?_, hK _ ?_⟩
 ·rintro w' ⟨n, rfl⟩
  refine store_same (T := 3) (cs := #[.int .i64 (-1)]) (seg := [.int .i64 (-1)]) (p := .tmp 4) (x := .tmp 13) rfl rfl rfl ?hu rfl HX7.out.b k1_ ?h1 n; (case hu => rfl); (case h1 => intro q hq; simp at hq; repeat (first | (rcases hq with rfl | hq; · rfl) | (subst hq; rfl)))
 clear hK K
 refine wpQuiet_nil ?_
 intro w8 hw8
 obtain ⟨nq, rfl⟩ := hw8
 go_wp2
 clear hy0
 clear hy1
 clear hy2
 clear hy3
 clear hy4
 clear hy5
 clear hi0 hb0
 refine leaves_cons (f := 34) (args := #[.pointer (some ⟨gy, 0, none⟩), .pointer (some ⟨gi, 0, none⟩), .pointer (some ⟨gb, 0, none⟩)]) (by simp) (by simp [go_sem]) ?_
 refine (safely_idle ⟨gy, 0, none⟩ ⟨gi, 0, none⟩ ⟨gb, 0, none⟩ _).mono ?_
 rintro e u' w9 ⟨rfl, rfl, hb9⟩
 have HX9 := Ad.mk ((HX7.out.lower (pw_below_drewN (Below.refl _ _) nq)).lower hb9)
 clear hb9 HX7
 have hy0 := (blk_cell HX9.out.y 0).trans (show _ = some (.int .i64 x1) from rfl)
 have hy1 := (blk_cell HX9.out.y 1).trans (show _ = some (.string x2) from rfl)
 have hy2 := (blk_cell HX9.out.y 2).trans (show _ = some (.int .i64 x3) from rfl)
 have hy3 := (blk_cell HX9.out.y 3).trans (show _ = some (.string x4) from rfl)
 have hy4 := (blk_cell HX9.out.y 4).trans (show _ = some (.string x5) from rfl)
 have hy5 := (blk_cell HX9.out.y 5).trans (show _ = some (.int .i64 x6) from rfl)
 have hi0 := (blk_cell HX9.out.i 0).trans (show _ = some (.bool x7) from rfl)
 have hb0 := (blk_cell HX9.out.b 0).trans (show _ = some (.int .i64 (-1)) from rfl)
 have := HX9.out.st
 have := HX9.out.below
 have := HX9.out.keep
 simp [Leaves, settle, results, Tryd.results26, go_sem, hy0, hy1, hy2, hy3, hy4, hy5, hi0, hb0, *]
def CaughtW (gy gi gb : Nat) (q : Int) (w w' : World) : Prop := (w'.os = w.os ∧ w'.tape = w.tape ∧ w'.output = w.output ∧ w.heap.size ≤ w'.heap.size ∧ ∀ k, k < w.heap.size → k ≠ gy → k ≠ gi → k ≠ gb → w'.heap[k]? = w.heap[k]?) ∧ w'.cell? ⟨gy, 0, none⟩ = some (.int .i64 0) ∧ w'.cell? ⟨gy, 1, none⟩ = some (.string ⟨#[]⟩) ∧ w'.cell? ⟨gy, 2, none⟩ = some (.int .i64 0) ∧ w'.cell? ⟨gy, 3, none⟩ = some (.string ⟨#[]⟩) ∧ w'.cell? ⟨gy, 4, none⟩ = some (.string ⟨#[]⟩) ∧ w'.cell? ⟨gy, 5, none⟩ = some (.int .i64 0) ∧ w'.cell? ⟨gi, 0, none⟩ = some (.bool false) ∧ w'.cell? ⟨gb, 0, none⟩ = some (.int .i64 q)
set_option maxHeartbeats 2000000 in
theorem caught_w {gy gi gb : Nat} (n1 : gy ≠ gi) (n2 : gy ≠ gb) (n3 : gi ≠ gb) {y0 : Int} {y1 : ByteArray} {y2 : Int} {y3 y4 : ByteArray} {y5 : Int} {b0 : Bool} {z0 : Int} (q : Int) {w : World} (hy : w.heap[gy]? = some (.cells #[.int .i64 y0, .string y1, .int .i64 y2, .string y3, .string y4, .int .i64 y5] 56 (0, 0))) (hi : w.heap[gi]? = some (.cells #[.bool b0] 4 (0, 0))) (hb : w.heap[gb]? = some (.cells #[.int .i64 z0] 3 (0, 0))) :
  CaughtW gy gi gb q w ((((((((((w.setCell ⟨gy, 0, none⟩ (.int .i64 0)).setCell ⟨gy, 1, none⟩ (.string ⟨#[]⟩)).setCell ⟨gy, 2, none⟩ (.int .i64 0)).setCell ⟨gy, 3, none⟩ (.string ⟨#[]⟩)).setCell ⟨gy, 4, none⟩ (.string ⟨#[]⟩)).setCell ⟨gy, 5, none⟩ (.int .i64 0)).setCell ⟨gi, 0, none⟩ (.bool false)).setCell ⟨gb, 0, none⟩ (.int .i64 q)).alloc (.cells #[.int .i64 q] 80)).drew) := by
 have k1 := blk_set (blk_set (blk_set (blk_set (blk_set (blk_set hy 0 (.int .i64 0)) 1 (.string ⟨#[]⟩)) 2 (.int .i64 0)) 3 (.string ⟨#[]⟩)) 4 (.string ⟨#[]⟩)) 5 (.int .i64 0)
 have k2 := blk_drew (blk_alloc (blk_far (blk_far k1 (p := ⟨gi, 0, none⟩) n1 (.bool false)) (p := ⟨gb, 0, none⟩) n2 (.int .i64 q)) (.cells #[.int .i64 q] 80))
 have i1 := blk_far (blk_far (blk_far (blk_far (blk_far (blk_far hi (p := ⟨gy, 0, none⟩) (Ne.symm n1) (.int .i64 0)) (p := ⟨gy, 1, none⟩) (Ne.symm n1) (.string ⟨#[]⟩)) (p := ⟨gy, 2, none⟩) (Ne.symm n1) (.int .i64 0)) (p := ⟨gy, 3, none⟩) (Ne.symm n1) (.string ⟨#[]⟩)) (p := ⟨gy, 4, none⟩) (Ne.symm n1) (.string ⟨#[]⟩)) (p := ⟨gy, 5, none⟩) (Ne.symm n1) (.int .i64 0)
 have i2 := blk_drew (blk_alloc (blk_far (blk_set i1 0 (.bool false)) (p := ⟨gb, 0, none⟩) n3 (.int .i64 q)) (.cells #[.int .i64 q] 80))
 have b1 := blk_far (blk_far (blk_far (blk_far (blk_far (blk_far hb (p := ⟨gy, 0, none⟩) (Ne.symm n2) (.int .i64 0)) (p := ⟨gy, 1, none⟩) (Ne.symm n2) (.string ⟨#[]⟩)) (p := ⟨gy, 2, none⟩) (Ne.symm n2) (.int .i64 0)) (p := ⟨gy, 3, none⟩) (Ne.symm n2) (.string ⟨#[]⟩)) (p := ⟨gy, 4, none⟩) (Ne.symm n2) (.string ⟨#[]⟩)) (p := ⟨gy, 5, none⟩) (Ne.symm n2) (.int .i64 0)
 have b2 := blk_drew (blk_alloc (blk_set (blk_far b1 (p := ⟨gi, 0, none⟩) (Ne.symm n3) (.bool false)) 0 (.int .i64 q)) (.cells #[.int .i64 q] 80))
 have k3 := k2.trans (show some _ = some (Obj.cells #[.int .i64 0, .string ⟨#[]⟩, .int .i64 0, .string ⟨#[]⟩, .string ⟨#[]⟩, .int .i64 0] 56 (0, 0)) by simp)
 have i3 := i2.trans (show some _ = some (Obj.cells #[.bool false] 4 (0, 0)) by simp)
 have b3 := b2.trans (show some _ = some (Obj.cells #[.int .i64 q] 3 (0, 0)) by simp)
 clear k1 k2 i1 i2 b1 b2
 have H0 := below_drew ((Below.setCell (p := ⟨gb, 0, none⟩) (Below.setCell (p := ⟨gi, 0, none⟩) (Below.setCell (p := ⟨gy, 5, none⟩) (Below.setCell (p := ⟨gy, 4, none⟩) (Below.setCell (p := ⟨gy, 3, none⟩) (Below.setCell (p := ⟨gy, 2, none⟩) (Below.setCell (p := ⟨gy, 1, none⟩) (Below.setCell (p := ⟨gy, 0, none⟩) (Below.refl 0 w) (Nat.zero_le _) (.int .i64 0)) (Nat.zero_le _) (.string ⟨#[]⟩)) (Nat.zero_le _) (.int .i64 0)) (Nat.zero_le _) (.string ⟨#[]⟩)) (Nat.zero_le _) (.string ⟨#[]⟩)) (Nat.zero_le _) (.int .i64 0)) (Nat.zero_le _) (.bool false)) (Nat.zero_le _) (.int .i64 q)).alloc (Nat.zero_le _) (.cells #[.int .i64 q] 80))
 refine ⟨⟨H0.os, H0.tape, H0.output, H0.size, fun k hk h1 h2 h3 => ?_⟩, (blk_cell k3 0).trans rfl, (blk_cell k3 1).trans rfl, (blk_cell k3 2).trans rfl, (blk_cell k3 3).trans rfl, (blk_cell k3 4).trans rfl, (blk_cell k3 5).trans rfl, (blk_cell i3 0).trans rfl, (blk_cell b3 0).trans rfl⟩
 have g0 : w.heap[k]? = some w.heap[k] := Array.getElem?_eq_getElem hk
 have z : ∀ {W : World} {p : Addr} (v : Value), W.heap[k]? = w.heap[k]? → k ≠ p.block → (W.setCell p v).heap[k]? = w.heap[k]? := fun v h hp => (Below.heap_setCell _ _ v k hp).trans h
 have e := z (p := ⟨gb, 0, none⟩) (.int .i64 q) (z (p := ⟨gi, 0, none⟩) (.bool false) (z (p := ⟨gy, 5, none⟩) (.int .i64 0) (z (p := ⟨gy, 4, none⟩) (.string ⟨#[]⟩) (z (p := ⟨gy, 3, none⟩) (.string ⟨#[]⟩) (z (p := ⟨gy, 2, none⟩) (.int .i64 0) (z (p := ⟨gy, 1, none⟩) (.string ⟨#[]⟩) (z (p := ⟨gy, 0, none⟩) (.int .i64 0) rfl h1) h1) h1) h1) h1) h1) h2) h3
 have hd : ∀ W : World, W.drew.heap = W.heap := fun _ => rfl
 rw [hd, Below.heap_alloc _ _ k (by simpa using hk)]
 exact e
set_option maxRecDepth 100000 in
set_option maxHeartbeats 2000000 in
theorem safely_caught (gy gi gb : Nat) (y0 : Int) (y1 : ByteArray) (y2 : Int) (y3 y4 : ByteArray) (y5 : Int) (b0 : Bool) (z0 q : Int) (w : World) (hy : w.heap[gy]? = some (.cells #[.int .i64 y0, .string y1, .int .i64 y2, .string y3, .string y4, .int .i64 y5] 56 (0, 0))) (hi : w.heap[gi]? = some (.cells #[.bool b0] 4 (0, 0))) (hb : w.heap[gb]? = some (.cells #[.int .i64 z0] 3 (0, 0))) :
  CallsD Tryd.prog 34 #[.pointer (some ⟨gy, 0, none⟩), .pointer (some ⟨gi, 0, none⟩), .pointer (some ⟨gb, 0, none⟩)] (.panicking (wrongC q)) w fun e u' w' => e = .returned (.tuple #[]) ∧ u' = .panicking [{ v := .iface 80 (.agg #[.int .i64 q]), recovered := true }] ∧ CaughtW gy gi gb q w w' := by
 have hta : ∀ (t : TypeId) (W : World), Sem.run Tryd.prog (Instr.typeAssert (.iface 80 (.agg #[.int .i64 q])) t 80 true) W = .ok (.tuple #[.agg #[.int .i64 q], .bool true]) W := fun t W => by
  simp [Instr.typeAssert, run_underlying Tryd.underlying80, Tryd.zeroValue80]
 have n1 : gy ≠ gi := blk_ne hy hi (by decide)
 have n2 : gy ≠ gb := blk_ne hy hb (by decide)
 have n3 : gi ≠ gb := blk_ne hi hb (by decide)
 have hy0 := (blk_cell hy 0).trans rfl
 have hy1 := (blk_cell hy 1).trans rfl
 have hy2 := (blk_cell hy 2).trans rfl
 have hy3 := (blk_cell hy 3).trans rfl
 have hy4 := (blk_cell hy 4).trans rfl
 have hy5 := (blk_cell hy 5).trans rfl
 have hi0 := (blk_cell hi 0).trans rfl
 have hb0 := (blk_cell hb 0).trans rfl
 have hyf := fun j => blk_frozen hy j
 have hif := fun j => blk_frozen hi j
 have hbf := fun j => blk_frozen hb j
 have ly := blk_lt hy
 have li := blk_lt hi
 have lb := blk_lt hb
 refine callsD_of_wpS Tryd.func34 rfl fun c₀ cs hu => ?_
 apply wpS_seq
 apply wpS_region
 simp [wpOpsS, go_sem, recoverD, hu, wrongC, Tryd.ntmps34, Exit.thenS]
 refine wpS_of_wp ?_
 simp only [Array.replicate_succ, Array.replicate_zero, List.push_toArray, List.append_toArray, List.nil_append, List.cons_append, List.setIfInBounds_toArray, List.set_cons_zero, List.set_cons_succ]
 go_wp2
 go_region
 go_wp2
 have m1 := Ne.symm n1
 have m2 := Ne.symm n2
 have m3 := Ne.symm n3
 have p1 : gy ≠ w.heap.size := Nat.ne_of_lt ly
 have p2 : gi ≠ w.heap.size := Nat.ne_of_lt li
 have p3 : gb ≠ w.heap.size := Nat.ne_of_lt lb
 have HCW := caught_w n1 n2 n3 q hy hi hb
 clear hy0 hy1 hy2 hy3 hy4 hy5 hi0 hb0 hyf hif hbf hta hy hi hb ly li lb n1 n2 n3 m1 m2 m3 p1 p2 p3
 cases c₀
 simp_all [bodyPostS, results, Tryd.results34]
theorem SZ.bad {w0 w W wf : World} {g gy gi gb : Nat} {s : ByteArray} {at_ z : Int} {cs : Array Value} {b : Bool} (h : SZ w0 w W g gy gi gb s at_ cs b z) (h2 : Below w0.heap.size w0 wf) (h3 : KeepBut W wf g none) : (Below w0.heap.size w0 wf ∧ KeepBut w wf g none) ∧ wf.heap[gy]? = some (.cells cs 56 (0, 0)) ∧ wf.heap[gi]? = some (.cells #[.bool b] 4 (0, 0)) ∧ wf.heap[gb]? = some (.cells #[.int .i64 z] 3 (0, 0)) :=
 ⟨⟨h2, h.keep.trans h3 (.inl rfl)⟩, (h3.2 gy (blk_lt h.y) h.yg (by simp)).trans h.y, (h3.2 gi (blk_lt h.i) h.ig (by simp)).trans h.i, (h3.2 gb (blk_lt h.b) h.bg (by simp)).trans h.b⟩
theorem CaughtW.ends {w0 w wf w9 : World} {g gy gi gb : Nat} {q : Int} (h : CaughtW gy gi gb q wf w9) (h2 : Below w0.heap.size w0 wf) (h3 : KeepBut w wf g none) (hw : w0.heap.size ≤ w.heap.size) (ly : w.heap.size ≤ gy) (li : w.heap.size ≤ gi) (lb : w.heap.size ≤ gb) : Below w0.heap.size w0 w9 ∧ KeepBut w w9 g none := by
 obtain ⟨⟨c1, c2, c3, c4, c5⟩, _⟩ := h
 have z2 := h2.size
 have z3 := h3.1
 refine ⟨⟨c1.trans h2.os, c2.trans h2.tape, c3.trans h2.output, by omega, fun k hk => (c5 k (by omega) (by omega) (by omega) (by omega)).trans (h2.block k hk)⟩, by omega, fun i hi hne hr => (c5 i (by omega) (by omega) (by omega) (by omega)).trans (h3.2 i hi hne hr)⟩
set_option maxHeartbeats 4000000 in
set_option maxRecDepth 100000 in
theorem safely_bad (k : Nat) (g : Nat) (s0_0 : ByteArray) (s0_1 : Int) (q : Int) (w0 w : World) (hI : IsS65 w0 w g s0_0 s0_1) (hB : Below w0.heap.size w0 w) (h : next_b k s0_0 s0_1 = some q) :
  Calls Tryd.prog 26 #[.pointer (some ⟨g, 0, none⟩)] w fun e w' => e = .returned (.tuple #[.agg #[.int .i64 0, .string ⟨#[]⟩, .int .i64 0, .string ⟨#[]⟩, .string ⟨#[]⟩, .int .i64 0], .bool false, .int .i64 q]) ∧ Below w0.heap.size w0 w' ∧ KeepBut w w' g none := by
 have hmf : ∀ (fn : Fn) (first cap : Array Value) (w : World), (Instr.makeFunc fn first cap).run Tryd.prog w = .ok (.func fn first cap) w := fun _ _ _ _ => rfl
 have AS := Ad.mk h
 clear h
 have HI := Ad.mk hI
 have HW := Ad.mk hB.size
 have HB := Ad.mk hB
 clear hI hB
 go_enter_defers Tryd.func26, Tryd.ntmps26
 go_wp2_with (first | ((with_reducible refine gate_dst (N := 2) rfl ?_); refine box_event r1_ (N := 2) r1_ (cs := #[.int .i64 0, .string ⟨#[]⟩, .int .i64 0, .string ⟨#[]⟩, .string ⟨#[]⟩, .int .i64 0]) (t := 56) r2_ ?_; intro gy hgy w1 hy hb; have HX := Ad.mk (SX.first HI.out HB.out hgy hy hb); clear hgy hy hb HI HB) | ((with_reducible refine gate_dst (N := 3) rfl ?_); refine box_event r1_ (N := 3) r1_ (cs := #[.bool false]) (t := 4) r2_ ?_; intro gi hgi w2 hi hb; have HX2 := Ad.mk (SY.next HX.out hgi hi hb); clear hgi hi hb HX) | ((with_reducible refine gate_dst (N := 4) rfl ?_); refine box_event r1_ (N := 4) r1_ (cs := #[.int .i64 0]) (t := 3) r2_ ?_; intro gb hgb w3 hi hb; have HX3 := Ad.mk (SZ.next HX2.out hgb hi hb); clear hgb hi hb HX2) | ((with_reducible refine gate_store (t := 3) (p := 4) rfl ?_); refine store_seg (gy := gb) (j := 0) (T := 3) (TB := 3) (cs := #[.int .i64 0]) (new := #[.int .i64 (-1)]) (u := .int .i64 (-1)) (seg := [.int .i64 (-1)]) rfl (p := .tmp 4) (x := .const (.int .i64 (-1))) rfl rfl r1_ r1_ r1_ HX3.out.b k1_ s1_ h1_ rfl ?_; intro w4 hz hup; have HX4 := Ad.mk (HX3.out.upb hup hz); clear HX3 hz hup) | (go_at_call 35; refine (next_bad k g s0_0 s0_1 q w0 _ HX4.out.st HX4.out.below AS.out).mono ?_; rintro e w5 ⟨rfl, h2, h3⟩; have HF := Ad.mk (HX4.out.bad h2 h3); have HL := Ad.mk (show w.heap.size ≤ gy ∧ w.heap.size ≤ gi ∧ w.heap.size ≤ gb from ⟨HX4.out.yw, HX4.out.iw, HX4.out.bw⟩); clear HX4 h2 h3))
 refine leaves_cons (f := 34) (args := #[.pointer (some ⟨gy, 0, none⟩), .pointer (some ⟨gi, 0, none⟩), .pointer (some ⟨gb, 0, none⟩)]) (by simp [wrongC]) (by simp [go_sem]) ?_
 refine (safely_caught gy gi gb _ _ _ _ _ _ _ _ q _ HF.out.2.1 HF.out.2.2.1 HF.out.2.2.2).mono ?_
 rintro e u' w9 ⟨rfl, rfl, hc⟩
 have hend := hc.ends HF.out.1.1 HF.out.1.2 HW.out HL.out.1 HL.out.2.1 HL.out.2.2
 obtain ⟨_, hy0, hy1, hy2, hy3, hy4, hy5, hi0, hb0⟩ := hc
 clear HF HL
 simp [Leaves, settle, results, Tryd.results26, go_sem, hy0, hy1, hy2, hy3, hy4, hy5, hi0, hb0]
 exact hend
def w5_num.f (a0 : Int) : Option (Int) := some a0
theorem w5_num.calls (a0 : Int) (r : Int) (w : World) (h : w5_num.f a0 = some r) :
  Calls Tryd.prog 8 #[.int .i64 a0] w fun e w' => e = .returned (.int .i64 r) ∧ Drawn0 w w' := by
 have H := h
 clear h
 unfold w5_num.f at H
 obtain rfl := Option.some.inj H
 go_enter Tryd.func8, Tryd.ntmps8
 go_wp2
 go_ret
 exact ⟨e1_, z5_⟩
def term_MayFollow.f (k : Nat) (a0_0 : Int) (a0_1 : ByteArray) (a0_2 : ByteArray) (a0_3 : Int) (a0_4 : ByteArray) (a0_5 : ByteArray) (a0_6 : Int) (a0_7 : ByteArray) (a0_8 : ByteArray) : Option (Bool) := (term_May.f k a0_0 a0_1 a0_2).bind fun t276 => (if t276 = true then ((term_May.f k a0_3 a0_4 a0_5).bind fun t277 => (if t277 = true then ((term_May.f k a0_6 a0_7 a0_8).bind fun t278 => (some t278)) else (some false))) else (some false))
theorem term_MayFollow.mono : ∀ a0 a1 a2 a3 a4 a5 a6 a7 a8 k, LeO (term_MayFollow.f k a0 a1 a2 a3 a4 a5 a6 a7 a8) (term_MayFollow.f (k + 1) a0 a1 a2 a3 a4 a5 a6 a7 a8) := by
 intro a0 a1 a2 a3 a4 a5 a6 a7 a8 k
 unfold term_MayFollow.f
 repeat' first
   | (with_reducible exact term_May.mono _ _ _ _)
   | (with_reducible exact LeO.refl _)
   | (with_reducible exact LeO.none _)
   | (with_reducible refine LeO.ite ?_ ?_)
   | (with_reducible refine LeO.bind ?_ (fun _ => ?_))
   | exact term_May.mono _ _ _ _
   | exact LeO.none _
   | refine LeO.ite ?_ ?_
   | refine LeO.bind ?_ (fun _ => ?_)
theorem term_MayFollow.calls (k : Nat) (a0_0 : Int) (a0_1 : ByteArray) (a0_2 : ByteArray) (a0_3 : Int) (a0_4 : ByteArray) (a0_5 : ByteArray) (a0_6 : Int) (a0_7 : ByteArray) (a0_8 : ByteArray) (r : Bool) (w : World) (h : term_MayFollow.f k a0_0 a0_1 a0_2 a0_3 a0_4 a0_5 a0_6 a0_7 a0_8 = some r) :
  Calls Tryd.prog 22 #[.agg #[.int .i64 a0_0, .string a0_1, .string a0_2, .int .i64 a0_3, .string a0_4, .string a0_5, .int .i64 a0_6, .string a0_7, .string a0_8]] w fun e w' => e = .returned (.bool r) ∧ Below w.heap.size w w' := by
 have hu38 := Tryd.underlying38
 have hu36 := Tryd.underlying36
 have HB := Ad.mk (Below.refl w.heap.size w)
 have H := h
 clear h
 unfold term_MayFollow.f at H
 obtain ⟨t276, A2, H⟩ := bi_ H
 by_cases c3 : t276 = true
 ·subst c3
  rw [if_pos rfl] at H
  obtain ⟨t277, A4, H⟩ := bi_ H
  by_cases c5 : t277 = true
  ·subst c5
   rw [if_pos rfl] at H
   obtain ⟨t278, A6, H⟩ := bi_ H
   obtain rfl := Option.some.inj H
   go_enter Tryd.func22, Tryd.ntmps22
   go_wp2_with (first | ((with_reducible refine gate_dst (N := 1) rfl ?_); refine box_event r1_ (N := 1) r1_ (cs := #[.int .i64 a0_0, .string a0_1, .string a0_2, .int .i64 a0_3, .string a0_4, .string a0_5, .int .i64 a0_6, .string a0_7, .string a0_8]) (t := 38) r2_ ?_; intro gb275 hg w7 hbox hb; have BK275 := Ad.mk (hbox); have GW275 := Ad.mk (bs_ : w.heap.size ≤ gb275); have GE275 := Ad.mk (bs_ : w.heap.size ≤ gb275); replace HB := Ad.mk (below_step b1_ hb); clear hb hbox hg; have hcz8_0 := cl_ (.int .i64 a0_0) BK275.out 0; have hcz8_1 := cl_ (.string a0_1) BK275.out 1; have hcz8_2 := cl_ (.string a0_2) BK275.out 2; have hcz8_3 := cl_ (.int .i64 a0_3) BK275.out 3; have hcz8_4 := cl_ (.string a0_4) BK275.out 4; have hcz8_5 := cl_ (.string a0_5) BK275.out 5; have hcz8_6 := cl_ (.int .i64 a0_6) BK275.out 6; have hcz8_7 := cl_ (.string a0_7) BK275.out 7; have hcz8_8 := cl_ (.string a0_8) BK275.out 8; have hfz8_0 := blk_frozen BK275.out 0; have hfz8_1 := blk_frozen BK275.out 1; have hfz8_2 := blk_frozen BK275.out 2; have hfz8_3 := blk_frozen BK275.out 3; have hfz8_4 := blk_frozen BK275.out 4; have hfz8_5 := blk_frozen BK275.out 5; have hfz8_6 := blk_frozen BK275.out 6; have hfz8_7 := blk_frozen BK275.out 7; have hfz8_8 := blk_frozen BK275.out 8) | ((with_reducible refine gate_callee (f := 28) rfl ?_); refine goesL_ (some 5) rfl rfl Tryd.func28 k1_ rfl #[.agg #[.int .i64 a0_0, .string a0_1, .string a0_2]] rfl g1_ ?_; (with_reducible refine (term_May.calls k a0_0 a0_1 a0_2 true _ A2.out).mono ?_); rintro e w9 ⟨rfl, hb⟩; refine ⟨_, rfl, ?_⟩; replace BK275 := Ad.mk (blk_below (g := gb275) (o := .cells #[.int .i64 a0_0, .string a0_1, .string a0_2, .int .i64 a0_3, .string a0_4, .string a0_5, .int .i64 a0_6, .string a0_7, .string a0_8] 38 (0, 0)) (bd_ BK275.out) hb); replace HB := Ad.mk (below_step z33_ hb); clear hb; have hcz10_0 := cl_ (.int .i64 a0_0) BK275.out 0; have hcz10_1 := cl_ (.string a0_1) BK275.out 1; have hcz10_2 := cl_ (.string a0_2) BK275.out 2; have hcz10_3 := cl_ (.int .i64 a0_3) BK275.out 3; have hcz10_4 := cl_ (.string a0_4) BK275.out 4; have hcz10_5 := cl_ (.string a0_5) BK275.out 5; have hcz10_6 := cl_ (.int .i64 a0_6) BK275.out 6; have hcz10_7 := cl_ (.string a0_7) BK275.out 7; have hcz10_8 := cl_ (.string a0_8) BK275.out 8; have hfz10_0 := blk_frozen BK275.out 0; have hfz10_1 := blk_frozen BK275.out 1; have hfz10_2 := blk_frozen BK275.out 2; have hfz10_3 := blk_frozen BK275.out 3; have hfz10_4 := blk_frozen BK275.out 4; have hfz10_5 := blk_frozen BK275.out 5; have hfz10_6 := blk_frozen BK275.out 6; have hfz10_7 := blk_frozen BK275.out 7; have hfz10_8 := blk_frozen BK275.out 8) | (go_at_call 28; (with_reducible refine (term_May.calls k a0_3 a0_4 a0_5 true _ A4.out).mono ?_); rintro e w11 ⟨rfl, hb⟩; replace BK275 := Ad.mk (blk_below (g := gb275) (o := .cells #[.int .i64 a0_0, .string a0_1, .string a0_2, .int .i64 a0_3, .string a0_4, .string a0_5, .int .i64 a0_6, .string a0_7, .string a0_8] 38 (0, 0)) (bd_ BK275.out) hb); replace HB := Ad.mk (below_step z33_ hb); clear hb; have hcz12_0 := cl_ (.int .i64 a0_0) BK275.out 0; have hcz12_1 := cl_ (.string a0_1) BK275.out 1; have hcz12_2 := cl_ (.string a0_2) BK275.out 2; have hcz12_3 := cl_ (.int .i64 a0_3) BK275.out 3; have hcz12_4 := cl_ (.string a0_4) BK275.out 4; have hcz12_5 := cl_ (.string a0_5) BK275.out 5; have hcz12_6 := cl_ (.int .i64 a0_6) BK275.out 6; have hcz12_7 := cl_ (.string a0_7) BK275.out 7; have hcz12_8 := cl_ (.string a0_8) BK275.out 8; have hfz12_0 := blk_frozen BK275.out 0; have hfz12_1 := blk_frozen BK275.out 1; have hfz12_2 := blk_frozen BK275.out 2; have hfz12_3 := blk_frozen BK275.out 3; have hfz12_4 := blk_frozen BK275.out 4; have hfz12_5 := blk_frozen BK275.out 5; have hfz12_6 := blk_frozen BK275.out 6; have hfz12_7 := blk_frozen BK275.out 7; have hfz12_8 := blk_frozen BK275.out 8) | (go_at_call 28; (with_reducible refine (term_May.calls k a0_6 a0_7 a0_8 t278 _ A6.out).mono ?_); rintro e w13 ⟨rfl, hb⟩; replace BK275 := Ad.mk (blk_below (g := gb275) (o := .cells #[.int .i64 a0_0, .string a0_1, .string a0_2, .int .i64 a0_3, .string a0_4, .string a0_5, .int .i64 a0_6, .string a0_7, .string a0_8] 38 (0, 0)) (bd_ BK275.out) hb); replace HB := Ad.mk (below_step z33_ hb); clear hb))
   go_ret
   exact ⟨e2_, by have G0 := GE275; exact z11_⟩
  replace c5 := Bool.eq_false_iff.mpr c5
  subst c5
  rw [if_neg (show ¬ (false = true) by decide)] at H
  obtain rfl := Option.some.inj H
  go_enter Tryd.func22, Tryd.ntmps22
  go_wp2_with (first | ((with_reducible refine gate_dst (N := 1) rfl ?_); refine box_event r1_ (N := 1) r1_ (cs := #[.int .i64 a0_0, .string a0_1, .string a0_2, .int .i64 a0_3, .string a0_4, .string a0_5, .int .i64 a0_6, .string a0_7, .string a0_8]) (t := 38) r2_ ?_; intro gb275 hg w14 hbox hb; have BK275 := Ad.mk (hbox); have GW275 := Ad.mk (bs_ : w.heap.size ≤ gb275); have GE275 := Ad.mk (bs_ : w.heap.size ≤ gb275); replace HB := Ad.mk (below_step b1_ hb); clear hb hbox hg; have hcz15_0 := cl_ (.int .i64 a0_0) BK275.out 0; have hcz15_1 := cl_ (.string a0_1) BK275.out 1; have hcz15_2 := cl_ (.string a0_2) BK275.out 2; have hcz15_3 := cl_ (.int .i64 a0_3) BK275.out 3; have hcz15_4 := cl_ (.string a0_4) BK275.out 4; have hcz15_5 := cl_ (.string a0_5) BK275.out 5; have hcz15_6 := cl_ (.int .i64 a0_6) BK275.out 6; have hcz15_7 := cl_ (.string a0_7) BK275.out 7; have hcz15_8 := cl_ (.string a0_8) BK275.out 8; have hfz15_0 := blk_frozen BK275.out 0; have hfz15_1 := blk_frozen BK275.out 1; have hfz15_2 := blk_frozen BK275.out 2; have hfz15_3 := blk_frozen BK275.out 3; have hfz15_4 := blk_frozen BK275.out 4; have hfz15_5 := blk_frozen BK275.out 5; have hfz15_6 := blk_frozen BK275.out 6; have hfz15_7 := blk_frozen BK275.out 7; have hfz15_8 := blk_frozen BK275.out 8) | ((with_reducible refine gate_callee (f := 28) rfl ?_); refine goesL_ (some 5) rfl rfl Tryd.func28 k1_ rfl #[.agg #[.int .i64 a0_0, .string a0_1, .string a0_2]] rfl g1_ ?_; (with_reducible refine (term_May.calls k a0_0 a0_1 a0_2 true _ A2.out).mono ?_); rintro e w16 ⟨rfl, hb⟩; refine ⟨_, rfl, ?_⟩; replace BK275 := Ad.mk (blk_below (g := gb275) (o := .cells #[.int .i64 a0_0, .string a0_1, .string a0_2, .int .i64 a0_3, .string a0_4, .string a0_5, .int .i64 a0_6, .string a0_7, .string a0_8] 38 (0, 0)) (bd_ BK275.out) hb); replace HB := Ad.mk (below_step z33_ hb); clear hb; have hcz17_0 := cl_ (.int .i64 a0_0) BK275.out 0; have hcz17_1 := cl_ (.string a0_1) BK275.out 1; have hcz17_2 := cl_ (.string a0_2) BK275.out 2; have hcz17_3 := cl_ (.int .i64 a0_3) BK275.out 3; have hcz17_4 := cl_ (.string a0_4) BK275.out 4; have hcz17_5 := cl_ (.string a0_5) BK275.out 5; have hcz17_6 := cl_ (.int .i64 a0_6) BK275.out 6; have hcz17_7 := cl_ (.string a0_7) BK275.out 7; have hcz17_8 := cl_ (.string a0_8) BK275.out 8; have hfz17_0 := blk_frozen BK275.out 0; have hfz17_1 := blk_frozen BK275.out 1; have hfz17_2 := blk_frozen BK275.out 2; have hfz17_3 := blk_frozen BK275.out 3; have hfz17_4 := blk_frozen BK275.out 4; have hfz17_5 := blk_frozen BK275.out 5; have hfz17_6 := blk_frozen BK275.out 6; have hfz17_7 := blk_frozen BK275.out 7; have hfz17_8 := blk_frozen BK275.out 8) | (go_at_call 28; (with_reducible refine (term_May.calls k a0_3 a0_4 a0_5 false _ A4.out).mono ?_); rintro e w18 ⟨rfl, hb⟩; replace BK275 := Ad.mk (blk_below (g := gb275) (o := .cells #[.int .i64 a0_0, .string a0_1, .string a0_2, .int .i64 a0_3, .string a0_4, .string a0_5, .int .i64 a0_6, .string a0_7, .string a0_8] 38 (0, 0)) (bd_ BK275.out) hb); replace HB := Ad.mk (below_step z33_ hb); clear hb))
  go_ret
  exact ⟨e2_, by have G0 := GE275; exact z11_⟩
 replace c3 := Bool.eq_false_iff.mpr c3
 subst c3
 rw [if_neg (show ¬ (false = true) by decide)] at H
 obtain rfl := Option.some.inj H
 go_enter Tryd.func22, Tryd.ntmps22
 go_wp2_with (first | ((with_reducible refine gate_dst (N := 1) rfl ?_); refine box_event r1_ (N := 1) r1_ (cs := #[.int .i64 a0_0, .string a0_1, .string a0_2, .int .i64 a0_3, .string a0_4, .string a0_5, .int .i64 a0_6, .string a0_7, .string a0_8]) (t := 38) r2_ ?_; intro gb275 hg w19 hbox hb; have BK275 := Ad.mk (hbox); have GW275 := Ad.mk (bs_ : w.heap.size ≤ gb275); have GE275 := Ad.mk (bs_ : w.heap.size ≤ gb275); replace HB := Ad.mk (below_step b1_ hb); clear hb hbox hg; have hcz20_0 := cl_ (.int .i64 a0_0) BK275.out 0; have hcz20_1 := cl_ (.string a0_1) BK275.out 1; have hcz20_2 := cl_ (.string a0_2) BK275.out 2; have hcz20_3 := cl_ (.int .i64 a0_3) BK275.out 3; have hcz20_4 := cl_ (.string a0_4) BK275.out 4; have hcz20_5 := cl_ (.string a0_5) BK275.out 5; have hcz20_6 := cl_ (.int .i64 a0_6) BK275.out 6; have hcz20_7 := cl_ (.string a0_7) BK275.out 7; have hcz20_8 := cl_ (.string a0_8) BK275.out 8; have hfz20_0 := blk_frozen BK275.out 0; have hfz20_1 := blk_frozen BK275.out 1; have hfz20_2 := blk_frozen BK275.out 2; have hfz20_3 := blk_frozen BK275.out 3; have hfz20_4 := blk_frozen BK275.out 4; have hfz20_5 := blk_frozen BK275.out 5; have hfz20_6 := blk_frozen BK275.out 6; have hfz20_7 := blk_frozen BK275.out 7; have hfz20_8 := blk_frozen BK275.out 8) | ((with_reducible refine gate_callee (f := 28) rfl ?_); refine goesL_ (some 5) rfl rfl Tryd.func28 k1_ rfl #[.agg #[.int .i64 a0_0, .string a0_1, .string a0_2]] rfl g1_ ?_; (with_reducible refine (term_May.calls k a0_0 a0_1 a0_2 false _ A2.out).mono ?_); rintro e w21 ⟨rfl, hb⟩; refine ⟨_, rfl, ?_⟩; replace BK275 := Ad.mk (blk_below (g := gb275) (o := .cells #[.int .i64 a0_0, .string a0_1, .string a0_2, .int .i64 a0_3, .string a0_4, .string a0_5, .int .i64 a0_6, .string a0_7, .string a0_8] 38 (0, 0)) (bd_ BK275.out) hb); replace HB := Ad.mk (below_step z33_ hb); clear hb))
 go_ret
 exact ⟨e2_, by have G0 := GE275; exact z11_⟩
def term_MayAdd.f (k : Nat) (a0_0 : Int) (a0_1 : ByteArray) (a0_2 : ByteArray) (a0_3 : Int) (a0_4 : ByteArray) (a0_5 : ByteArray) (a0_6 : Int) (a0_7 : ByteArray) (a0_8 : ByteArray) : Option (Bool) := (term_MayFollow.f k a0_0 a0_1 a0_2 a0_3 a0_4 a0_5 a0_6 a0_7 a0_8).bind fun t280 => (if t280 = true then (if a0_0 = 1 then (some (a0_3 == 1)) else (if a0_0 = 2 then (some (a0_3 == 1)) else (some false))) else (some false))
theorem term_MayAdd.mono : ∀ a0 a1 a2 a3 a4 a5 a6 a7 a8 k, LeO (term_MayAdd.f k a0 a1 a2 a3 a4 a5 a6 a7 a8) (term_MayAdd.f (k + 1) a0 a1 a2 a3 a4 a5 a6 a7 a8) := by
 intro a0 a1 a2 a3 a4 a5 a6 a7 a8 k
 unfold term_MayAdd.f
 repeat' first
   | (with_reducible exact term_MayFollow.mono _ _ _ _ _ _ _ _ _ _)
   | (with_reducible exact LeO.refl _)
   | (with_reducible exact LeO.none _)
   | (with_reducible refine LeO.ite ?_ ?_)
   | (with_reducible refine LeO.bind ?_ (fun _ => ?_))
   | exact term_MayFollow.mono _ _ _ _ _ _ _ _ _ _
   | exact LeO.none _
   | refine LeO.ite ?_ ?_
   | refine LeO.bind ?_ (fun _ => ?_)
theorem term_MayAdd.calls (k : Nat) (a0_0 : Int) (a0_1 : ByteArray) (a0_2 : ByteArray) (a0_3 : Int) (a0_4 : ByteArray) (a0_5 : ByteArray) (a0_6 : Int) (a0_7 : ByteArray) (a0_8 : ByteArray) (r : Bool) (w : World) (h : term_MayAdd.f k a0_0 a0_1 a0_2 a0_3 a0_4 a0_5 a0_6 a0_7 a0_8 = some r) :
  Calls Tryd.prog 12 #[.agg #[.int .i64 a0_0, .string a0_1, .string a0_2, .int .i64 a0_3, .string a0_4, .string a0_5, .int .i64 a0_6, .string a0_7, .string a0_8]] w fun e w' => e = .returned (.bool r) ∧ Below w.heap.size w w' := by
 have hu38 := Tryd.underlying38
 have HB := Ad.mk (Below.refl w.heap.size w)
 have H := h
 clear h
 unfold term_MayAdd.f at H
 obtain ⟨t280, A2, H⟩ := bi_ H
 by_cases c3 : t280 = true
 ·subst c3
  rw [if_pos rfl] at H
  by_cases c4 : a0_0 = 1
  ·rw [if_pos c4] at H
   have c4b0 := beq_iff_eq.mpr c4
   have c4b1 := bne_eq_false_iff_eq.mpr c4
   clear c4
   obtain rfl := Option.some.inj H
   go_enter Tryd.func12, Tryd.ntmps12
   go_wp2_with (first | ((with_reducible refine gate_dst (N := 1) rfl ?_); refine box_event r1_ (N := 1) r1_ (cs := #[.int .i64 a0_0, .string a0_1, .string a0_2, .int .i64 a0_3, .string a0_4, .string a0_5, .int .i64 a0_6, .string a0_7, .string a0_8]) (t := 38) r2_ ?_; intro gb279 hg w5 hbox hb; have BK279 := Ad.mk (hbox); have GW279 := Ad.mk (bs_ : w.heap.size ≤ gb279); have GE279 := Ad.mk (bs_ : w.heap.size ≤ gb279); replace HB := Ad.mk (below_step b1_ hb); clear hb hbox hg; have hcz6_0 := cl_ (.int .i64 a0_0) BK279.out 0; have hcz6_1 := cl_ (.string a0_1) BK279.out 1; have hcz6_2 := cl_ (.string a0_2) BK279.out 2; have hcz6_3 := cl_ (.int .i64 a0_3) BK279.out 3; have hcz6_4 := cl_ (.string a0_4) BK279.out 4; have hcz6_5 := cl_ (.string a0_5) BK279.out 5; have hcz6_6 := cl_ (.int .i64 a0_6) BK279.out 6; have hcz6_7 := cl_ (.string a0_7) BK279.out 7; have hcz6_8 := cl_ (.string a0_8) BK279.out 8; have hfz6_0 := blk_frozen BK279.out 0; have hfz6_1 := blk_frozen BK279.out 1; have hfz6_2 := blk_frozen BK279.out 2; have hfz6_3 := blk_frozen BK279.out 3; have hfz6_4 := blk_frozen BK279.out 4; have hfz6_5 := blk_frozen BK279.out 5; have hfz6_6 := blk_frozen BK279.out 6; have hfz6_7 := blk_frozen BK279.out 7; have hfz6_8 := blk_frozen BK279.out 8) | ((with_reducible refine gate_callee (f := 22) rfl ?_); refine goesL_ (some 4) rfl rfl Tryd.func22 k1_ rfl #[.agg #[.int .i64 a0_0, .string a0_1, .string a0_2, .int .i64 a0_3, .string a0_4, .string a0_5, .int .i64 a0_6, .string a0_7, .string a0_8]] rfl g1_ ?_; (with_reducible refine (term_MayFollow.calls k a0_0 a0_1 a0_2 a0_3 a0_4 a0_5 a0_6 a0_7 a0_8 true _ A2.out).mono ?_); rintro e w7 ⟨rfl, hb⟩; refine ⟨_, rfl, ?_⟩; replace BK279 := Ad.mk (blk_below (g := gb279) (o := .cells #[.int .i64 a0_0, .string a0_1, .string a0_2, .int .i64 a0_3, .string a0_4, .string a0_5, .int .i64 a0_6, .string a0_7, .string a0_8] 38 (0, 0)) (bd_ BK279.out) hb); replace HB := Ad.mk (below_step (by have GE := GE279; exact b2_) hb); clear hb; have hcz8_0 := cl_ (.int .i64 a0_0) BK279.out 0; have hcz8_1 := cl_ (.string a0_1) BK279.out 1; have hcz8_2 := cl_ (.string a0_2) BK279.out 2; have hcz8_3 := cl_ (.int .i64 a0_3) BK279.out 3; have hcz8_4 := cl_ (.string a0_4) BK279.out 4; have hcz8_5 := cl_ (.string a0_5) BK279.out 5; have hcz8_6 := cl_ (.int .i64 a0_6) BK279.out 6; have hcz8_7 := cl_ (.string a0_7) BK279.out 7; have hcz8_8 := cl_ (.string a0_8) BK279.out 8; have hfz8_0 := blk_frozen BK279.out 0; have hfz8_1 := blk_frozen BK279.out 1; have hfz8_2 := blk_frozen BK279.out 2; have hfz8_3 := blk_frozen BK279.out 3; have hfz8_4 := blk_frozen BK279.out 4; have hfz8_5 := blk_frozen BK279.out 5; have hfz8_6 := blk_frozen BK279.out 6; have hfz8_7 := blk_frozen BK279.out 7; have hfz8_8 := blk_frozen BK279.out 8))
   go_ret
   exact ⟨e2_, by have G0 := GE279; exact z11_⟩
  rw [if_neg c4] at H
  have c4b0 := beq_eq_false_iff_ne.mpr c4
  have c4b1 := bne_iff_ne.mpr c4
  by_cases c9 : a0_0 = 2
  ·rw [if_pos c9] at H
   have c9b0 := beq_iff_eq.mpr c9
   have c9b1 := bne_eq_false_iff_eq.mpr c9
   clear c9
   obtain rfl := Option.some.inj H
   go_enter Tryd.func12, Tryd.ntmps12
   go_wp2_with (first | ((with_reducible refine gate_dst (N := 1) rfl ?_); refine box_event r1_ (N := 1) r1_ (cs := #[.int .i64 a0_0, .string a0_1, .string a0_2, .int .i64 a0_3, .string a0_4, .string a0_5, .int .i64 a0_6, .string a0_7, .string a0_8]) (t := 38) r2_ ?_; intro gb279 hg w10 hbox hb; have BK279 := Ad.mk (hbox); have GW279 := Ad.mk (bs_ : w.heap.size ≤ gb279); have GE279 := Ad.mk (bs_ : w.heap.size ≤ gb279); replace HB := Ad.mk (below_step b1_ hb); clear hb hbox hg; have hcz11_0 := cl_ (.int .i64 a0_0) BK279.out 0; have hcz11_1 := cl_ (.string a0_1) BK279.out 1; have hcz11_2 := cl_ (.string a0_2) BK279.out 2; have hcz11_3 := cl_ (.int .i64 a0_3) BK279.out 3; have hcz11_4 := cl_ (.string a0_4) BK279.out 4; have hcz11_5 := cl_ (.string a0_5) BK279.out 5; have hcz11_6 := cl_ (.int .i64 a0_6) BK279.out 6; have hcz11_7 := cl_ (.string a0_7) BK279.out 7; have hcz11_8 := cl_ (.string a0_8) BK279.out 8; have hfz11_0 := blk_frozen BK279.out 0; have hfz11_1 := blk_frozen BK279.out 1; have hfz11_2 := blk_frozen BK279.out 2; have hfz11_3 := blk_frozen BK279.out 3; have hfz11_4 := blk_frozen BK279.out 4; have hfz11_5 := blk_frozen BK279.out 5; have hfz11_6 := blk_frozen BK279.out 6; have hfz11_7 := blk_frozen BK279.out 7; have hfz11_8 := blk_frozen BK279.out 8) | ((with_reducible refine gate_callee (f := 22) rfl ?_); refine goesL_ (some 4) rfl rfl Tryd.func22 k1_ rfl #[.agg #[.int .i64 a0_0, .string a0_1, .string a0_2, .int .i64 a0_3, .string a0_4, .string a0_5, .int .i64 a0_6, .string a0_7, .string a0_8]] rfl g1_ ?_; (with_reducible refine (term_MayFollow.calls k a0_0 a0_1 a0_2 a0_3 a0_4 a0_5 a0_6 a0_7 a0_8 true _ A2.out).mono ?_); rintro e w12 ⟨rfl, hb⟩; refine ⟨_, rfl, ?_⟩; replace BK279 := Ad.mk (blk_below (g := gb279) (o := .cells #[.int .i64 a0_0, .string a0_1, .string a0_2, .int .i64 a0_3, .string a0_4, .string a0_5, .int .i64 a0_6, .string a0_7, .string a0_8] 38 (0, 0)) (bd_ BK279.out) hb); replace HB := Ad.mk (below_step (by have GE := GE279; exact b2_) hb); clear hb; have hcz13_0 := cl_ (.int .i64 a0_0) BK279.out 0; have hcz13_1 := cl_ (.string a0_1) BK279.out 1; have hcz13_2 := cl_ (.string a0_2) BK279.out 2; have hcz13_3 := cl_ (.int .i64 a0_3) BK279.out 3; have hcz13_4 := cl_ (.string a0_4) BK279.out 4; have hcz13_5 := cl_ (.string a0_5) BK279.out 5; have hcz13_6 := cl_ (.int .i64 a0_6) BK279.out 6; have hcz13_7 := cl_ (.string a0_7) BK279.out 7; have hcz13_8 := cl_ (.string a0_8) BK279.out 8; have hfz13_0 := blk_frozen BK279.out 0; have hfz13_1 := blk_frozen BK279.out 1; have hfz13_2 := blk_frozen BK279.out 2; have hfz13_3 := blk_frozen BK279.out 3; have hfz13_4 := blk_frozen BK279.out 4; have hfz13_5 := blk_frozen BK279.out 5; have hfz13_6 := blk_frozen BK279.out 6; have hfz13_7 := blk_frozen BK279.out 7; have hfz13_8 := blk_frozen BK279.out 8))
   go_ret
   exact ⟨e2_, by have G0 := GE279; exact z11_⟩
  rw [if_neg c9] at H
  have c9b0 := beq_eq_false_iff_ne.mpr c9
  have c9b1 := bne_iff_ne.mpr c9
  obtain rfl := Option.some.inj H
  go_enter Tryd.func12, Tryd.ntmps12
  go_wp2_with (first | ((with_reducible refine gate_dst (N := 1) rfl ?_); refine box_event r1_ (N := 1) r1_ (cs := #[.int .i64 a0_0, .string a0_1, .string a0_2, .int .i64 a0_3, .string a0_4, .string a0_5, .int .i64 a0_6, .string a0_7, .string a0_8]) (t := 38) r2_ ?_; intro gb279 hg w14 hbox hb; have BK279 := Ad.mk (hbox); have GW279 := Ad.mk (bs_ : w.heap.size ≤ gb279); have GE279 := Ad.mk (bs_ : w.heap.size ≤ gb279); replace HB := Ad.mk (below_step b1_ hb); clear hb hbox hg; have hcz15_0 := cl_ (.int .i64 a0_0) BK279.out 0; have hcz15_1 := cl_ (.string a0_1) BK279.out 1; have hcz15_2 := cl_ (.string a0_2) BK279.out 2; have hcz15_3 := cl_ (.int .i64 a0_3) BK279.out 3; have hcz15_4 := cl_ (.string a0_4) BK279.out 4; have hcz15_5 := cl_ (.string a0_5) BK279.out 5; have hcz15_6 := cl_ (.int .i64 a0_6) BK279.out 6; have hcz15_7 := cl_ (.string a0_7) BK279.out 7; have hcz15_8 := cl_ (.string a0_8) BK279.out 8; have hfz15_0 := blk_frozen BK279.out 0; have hfz15_1 := blk_frozen BK279.out 1; have hfz15_2 := blk_frozen BK279.out 2; have hfz15_3 := blk_frozen BK279.out 3; have hfz15_4 := blk_frozen BK279.out 4; have hfz15_5 := blk_frozen BK279.out 5; have hfz15_6 := blk_frozen BK279.out 6; have hfz15_7 := blk_frozen BK279.out 7; have hfz15_8 := blk_frozen BK279.out 8) | ((with_reducible refine gate_callee (f := 22) rfl ?_); refine goesL_ (some 4) rfl rfl Tryd.func22 k1_ rfl #[.agg #[.int .i64 a0_0, .string a0_1, .string a0_2, .int .i64 a0_3, .string a0_4, .string a0_5, .int .i64 a0_6, .string a0_7, .string a0_8]] rfl g1_ ?_; (with_reducible refine (term_MayFollow.calls k a0_0 a0_1 a0_2 a0_3 a0_4 a0_5 a0_6 a0_7 a0_8 true _ A2.out).mono ?_); rintro e w16 ⟨rfl, hb⟩; refine ⟨_, rfl, ?_⟩; replace BK279 := Ad.mk (blk_below (g := gb279) (o := .cells #[.int .i64 a0_0, .string a0_1, .string a0_2, .int .i64 a0_3, .string a0_4, .string a0_5, .int .i64 a0_6, .string a0_7, .string a0_8] 38 (0, 0)) (bd_ BK279.out) hb); replace HB := Ad.mk (below_step (by have GE := GE279; exact b2_) hb); clear hb; have hcz17_0 := cl_ (.int .i64 a0_0) BK279.out 0; have hcz17_1 := cl_ (.string a0_1) BK279.out 1; have hcz17_2 := cl_ (.string a0_2) BK279.out 2; have hcz17_3 := cl_ (.int .i64 a0_3) BK279.out 3; have hcz17_4 := cl_ (.string a0_4) BK279.out 4; have hcz17_5 := cl_ (.string a0_5) BK279.out 5; have hcz17_6 := cl_ (.int .i64 a0_6) BK279.out 6; have hcz17_7 := cl_ (.string a0_7) BK279.out 7; have hcz17_8 := cl_ (.string a0_8) BK279.out 8; have hfz17_0 := blk_frozen BK279.out 0; have hfz17_1 := blk_frozen BK279.out 1; have hfz17_2 := blk_frozen BK279.out 2; have hfz17_3 := blk_frozen BK279.out 3; have hfz17_4 := blk_frozen BK279.out 4; have hfz17_5 := blk_frozen BK279.out 5; have hfz17_6 := blk_frozen BK279.out 6; have hfz17_7 := blk_frozen BK279.out 7; have hfz17_8 := blk_frozen BK279.out 8))
  go_ret
  exact ⟨e2_, by have G0 := GE279; exact z11_⟩
 replace c3 := Bool.eq_false_iff.mpr c3
 subst c3
 rw [if_neg (show ¬ (false = true) by decide)] at H
 obtain rfl := Option.some.inj H
 go_enter Tryd.func12, Tryd.ntmps12
 go_wp2_with (first | ((with_reducible refine gate_dst (N := 1) rfl ?_); refine box_event r1_ (N := 1) r1_ (cs := #[.int .i64 a0_0, .string a0_1, .string a0_2, .int .i64 a0_3, .string a0_4, .string a0_5, .int .i64 a0_6, .string a0_7, .string a0_8]) (t := 38) r2_ ?_; intro gb279 hg w18 hbox hb; have BK279 := Ad.mk (hbox); have GW279 := Ad.mk (bs_ : w.heap.size ≤ gb279); have GE279 := Ad.mk (bs_ : w.heap.size ≤ gb279); replace HB := Ad.mk (below_step b1_ hb); clear hb hbox hg; have hcz19_0 := cl_ (.int .i64 a0_0) BK279.out 0; have hcz19_1 := cl_ (.string a0_1) BK279.out 1; have hcz19_2 := cl_ (.string a0_2) BK279.out 2; have hcz19_3 := cl_ (.int .i64 a0_3) BK279.out 3; have hcz19_4 := cl_ (.string a0_4) BK279.out 4; have hcz19_5 := cl_ (.string a0_5) BK279.out 5; have hcz19_6 := cl_ (.int .i64 a0_6) BK279.out 6; have hcz19_7 := cl_ (.string a0_7) BK279.out 7; have hcz19_8 := cl_ (.string a0_8) BK279.out 8; have hfz19_0 := blk_frozen BK279.out 0; have hfz19_1 := blk_frozen BK279.out 1; have hfz19_2 := blk_frozen BK279.out 2; have hfz19_3 := blk_frozen BK279.out 3; have hfz19_4 := blk_frozen BK279.out 4; have hfz19_5 := blk_frozen BK279.out 5; have hfz19_6 := blk_frozen BK279.out 6; have hfz19_7 := blk_frozen BK279.out 7; have hfz19_8 := blk_frozen BK279.out 8) | ((with_reducible refine gate_callee (f := 22) rfl ?_); refine goesL_ (some 4) rfl rfl Tryd.func22 k1_ rfl #[.agg #[.int .i64 a0_0, .string a0_1, .string a0_2, .int .i64 a0_3, .string a0_4, .string a0_5, .int .i64 a0_6, .string a0_7, .string a0_8]] rfl g1_ ?_; (with_reducible refine (term_MayFollow.calls k a0_0 a0_1 a0_2 a0_3 a0_4 a0_5 a0_6 a0_7 a0_8 false _ A2.out).mono ?_); rintro e w20 ⟨rfl, hb⟩; refine ⟨_, rfl, ?_⟩; replace BK279 := Ad.mk (blk_below (g := gb279) (o := .cells #[.int .i64 a0_0, .string a0_1, .string a0_2, .int .i64 a0_3, .string a0_4, .string a0_5, .int .i64 a0_6, .string a0_7, .string a0_8] 38 (0, 0)) (bd_ BK279.out) hb); replace HB := Ad.mk (below_step (by have GE := GE279; exact b2_) hb); clear hb))
 go_ret
 exact ⟨e2_, by have G0 := GE279; exact z11_⟩
theorem utf_Put.total (r : Int) : ∃ b : List Int, ∃ e : Int, utf_Put.f r = some (b, e) := by
 obtain ⟨m, hm⟩ := utf_may.total r
 obtain ⟨n, hn, n1, n4⟩ := utf_size.total r
 unfold utf_Put.f
 rw [hm, hn]
 simp only [Option.bind_some]
 cases m with
 | false => exact ⟨_, _, rfl⟩
 | true =>
  rw [if_pos rfl]
  have h : n = 1 ∨ n = 2 ∨ n = 3 ∨ n = 4 := by omega
  rcases h with rfl | rfl | rfl | rfl
  ·exact ⟨_, _, rfl⟩
  all_goals
   simp only [List.length_append, List.length_cons, List.length_nil, wrap64]
   exact ⟨_, _, rfl⟩
def putT (r : Int) : List Int × Int := (utf_Put.f r).getD ([], 0)
theorem putT_eq (r : Int) : utf_Put.f r = some ((putT r).1, (putT r).2) := by
 obtain ⟨b, e, h⟩ := utf_Put.total r
 unfold putT
 rw [h]; rfl
def endP (l : List (Int × Int)) : Int := l.foldl (fun _ p => wrap64 (p.1 + ((putT p.2).1.length : Int))) 0
theorem endP_snoc (l : List (Int × Int)) (x : Int × Int) : endP (l ++ [x]) = wrap64 (x.1 + ((putT x.2).1.length : Int)) := by simp [endP]
theorem keepsOthers_below {W W' : World} (h : Below W.heap.size W W') : KeepsOthers W W' := KeepsOthers.of_grownBy (grown_of_below h none) (fun j o e => by cases e)
theorem keepsBox_below {b : Nat} {W W' : World} (h : Below W.heap.size W W') : KeepsBox b W W' := fun v hv => _root_.Go.cell_kept hv (grown_of_below h none) (fun r e => by cases e)
def lex_well.f (a0 : ByteArray) : Option ByteArray := if a0.size ≤ 140737488355328 ∧ 0 ≤ endP (runesOf a0) ∧ endP (runesOf a0) ≤ (a0.size : Int) then some (a0.extract 0 (endP (runesOf a0)).toNat) else none
section
attribute [local go_sem] Oper.semAt_some
set_option maxRecDepth 100000 in
set_option maxHeartbeats 2000000 in
theorem lex_well.calls (a0 : ByteArray) (r : ByteArray) (w : World) (h : lex_well.f a0 = some r) :
  Calls Tryd.prog 25 #[.string a0] w fun e w' => e = .returned (.string r) ∧ Below w.heap.size w w' := by
 unfold lex_well.f at h
 split at h
 ·rename_i hs3
  obtain ⟨hs, he0, he1⟩ := hs3
  obtain rfl := Option.some.inj h
  clear h
  refine (callsIn_wide (n := 5)).1 ?_
  refine callsIn_of_wp_marks Tryd.func25 rfl trivial ?_ rfl
  simp only [Tryd.ntmps25, List.size_toArray, List.length_cons, List.length_nil, Nat.reduceAdd, Nat.reduceSub, Array.replicate_succ, Array.replicate_zero, List.push_toArray, List.append_toArray, List.nil_append, List.cons_append]
  gi_wp2_with (refine ⟨trivial, ?_⟩; gi_at_call 32; refine (wide_of (utf_Runes.calls a0 _)).mono ?_; rintro e w' ⟨rfl, rfl⟩)
  have c0 := cellNew w (.int .i64 0) 3
  have c1 := cellNew (w.alloc (.cells #[.int .i64 0] 3)) (.string a0) 9
  rw [World.size_alloc] at c1
  have hB0 : Below w.heap.size w ((w.alloc (.cells #[.int .i64 0] 3)).alloc (.cells #[.string a0] 9)) := ((Below.refl _ w).alloc (Nat.le_refl _) _).alloc (by simp) _
  refine wpIn_rangeFunc_ownF rfl (by omega) (gf := 38) (lb := #[.pointer (some ⟨w.heap.size + 1, 0, none⟩)]) rfl trivial (enters_of Tryd.func38 k1_ rfl)
   (runes_stops 4 (by omega) a0 hs (w.heap.size + 1) _ (by simp) c1.1) keepsBox_t (fun W l o o' _ h hc _ => keepsBox_b W l o o' h hc) (Below.refl _ _) (fun _ => rfl)
   (fun pre W => (W.cell? ⟨w.heap.size, 0, none⟩ = some (.int .i64 (endP pre)) ∧ W.frozen? ⟨w.heap.size, 0, none⟩ = false) ∧ Below w.heap.size w W)
   (fun _ _ _ => False)
   (OwnFrom.and (Own.from (fun s A B row hs hg hr => ⟨_root_.Go.cell_kept hs.1 hg hr, (_root_.Go.frozen_kept hs.1 hg hr).trans hs.2⟩) _) (ownFrom_below (Nat.le_refl _) (by simp; omega)))
   (fun _ _ _ _ _ hs _ _ => hs)
   ⟨⟨cellAlloc _ c0.1, frozenAlloc _ c0.1 c0.2⟩, hB0⟩
   (fun x => { tmps := #[.string a0, undef, .string ⟨#[]⟩, .pointer (some ⟨w.heap.size, 0, none⟩), .int .i64 x.1, .int .i64 x.2, undef, undef, .string a0, .func (.func 38) #[] #[.pointer (some ⟨w.heap.size + 1, 0, none⟩)], .int .i64 x.1, .int .i64 x.2, undef, undef, undef, undef, undef, undef, undef, undef, undef, undef, undef, undef], defers := [] }) ?assign ?body ?done ?stop
  case assign =>
   intro l x W K hK
   gi_wp2
   exact hK
  case body =>
   rintro l pre x W ⟨⟨hc, hf⟩, hB⟩ _
   gi_wp2_with (refine ⟨trivial, ?_⟩; gi_at_call 33; refine (CallsIn.inRound l (wide_of (utf_Put.calls x.2 (putT x.2).1 (putT x.2).2 _ (putT_eq x.2)))).mono ?_; rintro e w' ⟨v, rfl, hr, hb⟩; obtain ⟨A_, c_, rfl⟩ := Kd.R_slice hr; have hc2 := _root_.Go.cell_kept hc (grown_of_below hb none) (fun r e => by cases e); have hf2 := (_root_.Go.frozen_kept hc (grown_of_below hb none) (fun r e => by cases e)).trans hf)
   refine ⟨(keepsOthers_below hb).trans (KeepsOthers.setCell _ _ _), keepsBox_t (keepsBox_below hb) (keepsBox_set _ _ _ (by simp)), ⟨?_, ?_⟩, (below_then hB hB.size hb).setCell (p := ⟨w.heap.size, 0, none⟩) (Nat.le_refl _) _⟩
   ·rw [endP_snoc]
    exact World.cell?_setCell_same' _ _ _ (by rw [hc2]; rfl)
   rw [World.frozen?_setCell]
   exact hf2
  case done =>
   rintro D ys W hD rfl ⟨⟨hc, _⟩, hB⟩ hK
   gi_wp2
   refine ⟨by simp, .inl ⟨_, _, rfl, run_takeDeferred hK, ?_⟩⟩
   exact ⟨_, results_tmp rfl _ _ _, rfl, hB.trans (belowK_b (w := w) (Nat.le_refl _) W D _ _ (by simp at hD; omega) hK rfl rfl)⟩
  case stop =>
   rintro D c pre W _ _ h _
   exact h.elim
 cases h
end
def lex_All.l0 : Nat → List S56 → ByteArray → Int → Option (List S56 × Int × Int)
 | 0, _, _, _ => none
 | k + 1, xs, s, a => match next_b k s a with
  | some q => if q ≥ 0 then some ([], q, 4) else none
  | none => (ls_safely.f k s a).bind fun (x1, x2, x3, x4, x5, x6, x7, x8, x9, x10) => if x8 ≥ 0 then some ([], x8, 4) else if x7 = true then (if xs.length < 1954687338268 then lex_All.l0 k (xs ++ [(⟨x1, x2, (⟨x3, x4, x5⟩ : S36), x6⟩ : S56)]) x9 x10 else none) else some (xs, 0, 0)
def lex_All.fuel (s : ByteArray) : Nat := 10 * s.size + 1000
def lex_All.f (_k : Nat) (a0 : ByteArray) : Option (List S56 × Int × Int) := if (a0.size : Int) > 1048576 then some ([], 0, 3) else (lex_well.f a0).bind fun t => if (t.size : Int) < (a0.size : Int) then some ([], t.size, 4) else lex_All.l0 (lex_All.fuel a0) [] a0 0
theorem lex_All.infoS : (Tryd.prog.info? 56).map (fun i => (i.zero, i.size, i.bytes)) = some (some (.agg #[.int .i64 0, .string ⟨#[]⟩, .int .i64 0, .string ⟨#[]⟩, .string ⟨#[]⟩, .int .i64 0]), 6, 72) := by kernel_rfl
theorem lex_All.mono : ∀ a0 k, LeO (lex_All.f k a0) (lex_All.f (k + 1) a0) := fun _ _ => LeO.refl _
structure BX (w W : World) (gy : Nat) (cs : Array Value) : Prop where
 below : Below w.heap.size w W
 y : W.heap[gy]? = some (.cells cs 56 (0, 0))
 yw : w.heap.size ≤ gy
structure AX (w W : World) (g gy : Nat) (v : Value) (xs : List S56) (s : ByteArray) (at_ : Int) (cs : Array Value) : Prop where
 st : IsS65 w W g s at_
 below : Below w.heap.size w W
 row : Kd.R k56 56 W w.heap.size (fun k => k ≠ g ∧ k ≠ gy) v xs
 y : W.heap[gy]? = some (.cells cs 56 (0, 0))
 yw : w.heap.size ≤ gy
 yg : gy ≠ g
theorem AX.upy {w W W' : World} {g gy : Nat} {v : Value} {xs : List S56} {s : ByteArray} {at_ : Int} {cs cs' : Array Value} (h : AX w W g gy v xs s at_ cs) (hu : Upd W W' gy) (hn : W'.heap[gy]? = some (.cells cs' 56 (0, 0))) : AX w W' g gy v xs s at_ cs' :=
 ⟨⟨(hu.other g (Ne.symm h.yg)).trans h.st.1, h.st.2⟩, h.below.trans (hu.below h.yw), Kd.R_move h.row (fun k hk => hu.other k hk.2), hn, h.yw, h.yg⟩
set_option maxHeartbeats 4000000 in
set_option maxRecDepth 100000 in
theorem lex_All.calls (k : Nat) (a0 : ByteArray) (r1 : List S56) (r2 r3 : Int) (w : World) (h : lex_All.f k a0 = some (r1, r2, r3)) :
  Calls Tryd.prog 17 #[.string a0] w fun e w' => ∃ v0_ : Value, e = .returned (.tuple #[v0_, .int .i64 r2, .int .i64 r3]) ∧ Kd.R k56 56 w' w.heap.size (fun _ => True) v0_ r1 ∧ Below w.heap.size w w' := by
 unfold lex_All.f at h
 by_cases c1 : (a0.size : Int) > 1048576
 ·rw [if_pos c1] at h
  simp only [Option.some.injEq, Prod.mk.injEq] at h
  obtain ⟨rfl, rfl, rfl⟩ := h
  have c1b : decide ((a0.size : Int) > 1048576) = true := decide_eq_true c1
  go_enter Tryd.func17, Tryd.ntmps17
  go_wp2
  go_ret3
  exact ⟨_, rfl, Kd.R_nil _ _ _ _ _, Below.refl _ _⟩
 rw [if_neg c1] at h
 have c1b : decide ((a0.size : Int) > 1048576) = false := decide_eq_false c1
 obtain ⟨t, A0, H⟩ := Option.bind_eq_some_iff.mp h
 have AW := Ad.mk A0
 clear h A0
 by_cases c2 : (t.size : Int) < (a0.size : Int)
 ·rw [if_pos c2] at H
  have c2b : decide ((t.size : Int) < (a0.size : Int)) = true := decide_eq_true c2
  simp only [Option.some.injEq, Prod.mk.injEq] at H
  obtain ⟨rfl, rfl, rfl⟩ := H
  go_enter Tryd.func17, Tryd.ntmps17
  go_wp2_with (first | (go_at_call 25; refine (lex_well.calls a0 t _ AW.out).mono ?_; rintro e w2 ⟨rfl, hb⟩; have HB := Ad.mk hb; clear hb))
  go_ret3
  exact ⟨_, rfl, Kd.R_nil _ _ _ _ _, HB.out⟩
 rw [if_neg c2] at H
 have c2b : decide ((t.size : Int) < (a0.size : Int)) = false := decide_eq_false c2
 have H' := Ad.mk H
 clear H
 go_enter Tryd.func17, Tryd.ntmps17
 go_wp2_with (first | (go_at_call 25; refine (lex_well.calls a0 t _ AW.out).mono ?_; rintro e w2 ⟨rfl, hb⟩; have HB := Ad.mk hb; clear hb) | ((with_reducible refine gate_dst (N := 24) rfl ?_); refine box_event r1_ (N := 24) r1_ (cs := #[.string a0, .int .i64 0]) (t := 65) r2_ ?_; intro g hg w3 hbox hb; have HS := Ad.mk (show IsS65 w w3 g a0 0 ∧ Below w.heap.size w w3 from ⟨⟨hbox, by rw [hg]; exact HB.out.size⟩, below_then HB.out HB.out.size hb⟩); clear hg hbox hb HB))
 go_loopg [6] (lex_All.fuel a0) (fun kq v6 w' => ∃ (xs : List S56) (s : ByteArray) (a : Int), Ad (lex_All.l0 kq xs s a = some (r1, r2, r3)) ∧ Ad (kq ≤ lex_All.fuel a0) ∧ Ad (Kd.R k56 56 w' w.heap.size (fun k => k ≠ g) v6 xs) ∧ Ad (IsS65 w w' g s a) ∧ Ad (Below w.heap.size w w'))
 case atStart => exact ⟨[], a0, 0, H', ⟨Nat.le_refl _⟩, ⟨Kd.R_nil _ _ _ _ _⟩, ⟨HS.out.1⟩, ⟨HS.out.2⟩⟩
 case round =>
  clear H' HS AW c2 c2b c1 c1b
  obtain ⟨xs, s, a, HA, HK1, HO, HI, HB⟩ := hrel
  cases gk with
  | zero => exact absurd HA.out (by simp [lex_All.l0])
  | succ k1 =>
   have H := HA.out
   clear HA
   simp only [lex_All.l0] at H
   cases hq : next_b k1 s a with
   | some q =>
    rw [hq] at H
    simp only at H
    by_cases c3 : q ≥ 0
    case neg => rw [if_neg c3] at H; cases H
    rw [if_pos c3] at H
    have c3b : decide (q ≥ 0) = true := decide_eq_true c3
    simp only [Option.some.injEq, Prod.mk.injEq] at H
    obtain ⟨rfl, rfl, rfl⟩ := H
    have HE := Ad.mk hq
    clear hq
    go_wp2_with (first | (go_at_call 26; refine (safely_bad k1 g s a q w _ HI.out HB.out HE.out).mono ?_; rintro e w4 ⟨rfl, h2, h3⟩; have HB1 := Ad.mk h2; clear h2 h3 HI HB HO) | ((with_reducible refine gate_dst (N := 8) rfl ?_); refine box_event r1_ (N := 8) r1_ (cs := #[.int .i64 0, .string ⟨#[]⟩, .int .i64 0, .string ⟨#[]⟩, .string ⟨#[]⟩, .int .i64 0]) (t := 56) r2_ ?_; intro gy hgy w5 hbox hb; have HX := Ad.mk (BX.mk (cs := #[.int .i64 0, .string ⟨#[]⟩, .int .i64 0, .string ⟨#[]⟩, .string ⟨#[]⟩, .int .i64 0]) (below_then HB1.out HB1.out.size hb) hbox z46_); clear hgy hbox hb HB1) | ((with_reducible refine gate_store (t := 56) (p := 8) rfl ?_); refine store_seg (gy := gy) (j := 0) (T := 56) (TB := 56) (cs := #[.int .i64 0, .string ⟨#[]⟩, .int .i64 0, .string ⟨#[]⟩, .string ⟨#[]⟩, .int .i64 0]) (new := #[.int .i64 0, .string ⟨#[]⟩, .int .i64 0, .string ⟨#[]⟩, .string ⟨#[]⟩, .int .i64 0]) (u := .agg #[.int .i64 0, .string ⟨#[]⟩, .int .i64 0, .string ⟨#[]⟩, .string ⟨#[]⟩, .int .i64 0]) (seg := [.int .i64 0, .string ⟨#[]⟩, .int .i64 0, .string ⟨#[]⟩, .string ⟨#[]⟩, .int .i64 0]) rfl (p := .tmp 8) (x := .tmp 28) rfl rfl r1_ r1_ r1_ HX.out.y k1_ s1_ h1_ rfl ?_; intro w6 hz hup; have HY := Ad.mk (show BX w w6 gy #[.int .i64 0, .string ⟨#[]⟩, .int .i64 0, .string ⟨#[]⟩, .string ⟨#[]⟩, .int .i64 0] from ⟨HX.out.below.trans (hup.below HX.out.yw), hz, HX.out.yw⟩); clear HX hz hup))
    go_ret3
    exact ⟨_, rfl, Kd.R_nil _ _ _ _ _, HY.out.below⟩
   | none =>
   rw [hq] at H
   simp only at H
   clear hq
   replace H := Option.bind_eq_some_iff.mp H
   obtain ⟨⟨x1, x2, x3, x4, x5, x6, x7, x8, x9, x10⟩, A0, H⟩ := H
   simp only at H
   have AS := Ad.mk A0
   clear A0
   by_cases c3 : x8 ≥ 0
   ·rw [if_pos c3] at H
    have c3b : decide (x8 ≥ 0) = true := decide_eq_true c3
    simp only [Option.some.injEq, Prod.mk.injEq] at H
    obtain ⟨rfl, rfl, rfl⟩ := H
    go_wp2_with (first | (go_at_call 26; refine (ls_safely.calls k1 g s a x1 x2 x3 x4 x5 x6 x7 x8 x9 x10 w _ HI.out HB.out AS.out).mono ?_; rintro e w4 ⟨rfl, h1, h2, h3⟩; have HI1 := Ad.mk h1; have HB1 := Ad.mk h2; have HO1 := Ad.mk (Kd.R_keep HO.out h3 (fun _ hk => hk)); clear h1 h2 h3 HI HB HO) | ((with_reducible refine gate_dst (N := 8) rfl ?_); refine box_event r1_ (N := 8) r1_ (cs := #[.int .i64 0, .string ⟨#[]⟩, .int .i64 0, .string ⟨#[]⟩, .string ⟨#[]⟩, .int .i64 0]) (t := 56) r2_ ?_; intro gy hgy w5 hbox hb; have HX := Ad.mk (AX.mk (cs := #[.int .i64 0, .string ⟨#[]⟩, .int .i64 0, .string ⟨#[]⟩, .string ⟨#[]⟩, .int .i64 0]) (HI1.out.below hb) (below_then HB1.out HB1.out.size hb) (Kd.R_mono (Kd.R_below (Kd.R_elderB HO1.out gy (Nat.le_of_eq hgy.symm)) hb) (fun _ hk => hk)) hbox z46_ (by rw [hgy]; exact Ne.symm (Nat.ne_of_lt HI1.out.lt))); clear hgy hbox hb HI1 HB1 HO1) | ((with_reducible refine gate_store (t := 56) (p := 8) rfl ?_); refine store_seg (gy := gy) (j := 0) (T := 56) (TB := 56) (cs := #[.int .i64 0, .string ⟨#[]⟩, .int .i64 0, .string ⟨#[]⟩, .string ⟨#[]⟩, .int .i64 0]) (new := #[.int .i64 x1, .string x2, .int .i64 x3, .string x4, .string x5, .int .i64 x6]) (u := .agg #[.int .i64 x1, .string x2, .int .i64 x3, .string x4, .string x5, .int .i64 x6]) (seg := [.int .i64 x1, .string x2, .int .i64 x3, .string x4, .string x5, .int .i64 x6]) rfl (p := .tmp 8) (x := .tmp 28) rfl rfl r1_ r1_ r1_ HX.out.y k1_ s1_ h1_ rfl ?_; intro w6 hz hup; have HY := Ad.mk (HX.out.upy hup hz); clear HX hz hup; have hy0 := (blk_cell HY.out.y 0).trans (show _ = some (.int .i64 x1) from rfl); have hy1 := (blk_cell HY.out.y 1).trans (show _ = some (.string x2) from rfl); have hy2 := (blk_cell HY.out.y 2).trans (show _ = some (.int .i64 x3) from rfl); have hy3 := (blk_cell HY.out.y 3).trans (show _ = some (.string x4) from rfl); have hy4 := (blk_cell HY.out.y 4).trans (show _ = some (.string x5) from rfl); have hy5 := (blk_cell HY.out.y 5).trans (show _ = some (.int .i64 x6) from rfl)))
    go_ret3
    exact ⟨_, rfl, Kd.R_nil _ _ _ _ _, HY.out.below⟩
   rw [if_neg c3] at H
   have c3b : decide (x8 ≥ 0) = false := decide_eq_false c3
   cases x7 with
   | false =>
    rw [if_neg (by decide)] at H
    simp only [Option.some.injEq, Prod.mk.injEq] at H
    obtain ⟨rfl, rfl, rfl⟩ := H
    go_wp2_with (first | (go_at_call 26; refine (ls_safely.calls k1 g s a x1 x2 x3 x4 x5 x6 false x8 x9 x10 w _ HI.out HB.out AS.out).mono ?_; rintro e w4 ⟨rfl, h1, h2, h3⟩; have HI1 := Ad.mk h1; have HB1 := Ad.mk h2; have HO1 := Ad.mk (Kd.R_keep HO.out h3 (fun _ hk => hk)); clear h1 h2 h3 HI HB HO) | ((with_reducible refine gate_dst (N := 8) rfl ?_); refine box_event r1_ (N := 8) r1_ (cs := #[.int .i64 0, .string ⟨#[]⟩, .int .i64 0, .string ⟨#[]⟩, .string ⟨#[]⟩, .int .i64 0]) (t := 56) r2_ ?_; intro gy hgy w5 hbox hb; have HX := Ad.mk (AX.mk (cs := #[.int .i64 0, .string ⟨#[]⟩, .int .i64 0, .string ⟨#[]⟩, .string ⟨#[]⟩, .int .i64 0]) (HI1.out.below hb) (below_then HB1.out HB1.out.size hb) (Kd.R_mono (Kd.R_below (Kd.R_elderB HO1.out gy (Nat.le_of_eq hgy.symm)) hb) (fun _ hk => hk)) hbox z46_ (by rw [hgy]; exact Ne.symm (Nat.ne_of_lt HI1.out.lt))); clear hgy hbox hb HI1 HB1 HO1) | ((with_reducible refine gate_store (t := 56) (p := 8) rfl ?_); refine store_seg (gy := gy) (j := 0) (T := 56) (TB := 56) (cs := #[.int .i64 0, .string ⟨#[]⟩, .int .i64 0, .string ⟨#[]⟩, .string ⟨#[]⟩, .int .i64 0]) (new := #[.int .i64 x1, .string x2, .int .i64 x3, .string x4, .string x5, .int .i64 x6]) (u := .agg #[.int .i64 x1, .string x2, .int .i64 x3, .string x4, .string x5, .int .i64 x6]) (seg := [.int .i64 x1, .string x2, .int .i64 x3, .string x4, .string x5, .int .i64 x6]) rfl (p := .tmp 8) (x := .tmp 28) rfl rfl r1_ r1_ r1_ HX.out.y k1_ s1_ h1_ rfl ?_; intro w6 hz hup; have HY := Ad.mk (HX.out.upy hup hz); clear HX hz hup; have hy0 := (blk_cell HY.out.y 0).trans (show _ = some (.int .i64 x1) from rfl); have hy1 := (blk_cell HY.out.y 1).trans (show _ = some (.string x2) from rfl); have hy2 := (blk_cell HY.out.y 2).trans (show _ = some (.int .i64 x3) from rfl); have hy3 := (blk_cell HY.out.y 3).trans (show _ = some (.string x4) from rfl); have hy4 := (blk_cell HY.out.y 4).trans (show _ = some (.string x5) from rfl); have hy5 := (blk_cell HY.out.y 5).trans (show _ = some (.int .i64 x6) from rfl)))
    go_ret3
    exact ⟨_, rfl, Kd.R_mono HY.out.row (fun _ _ => trivial), HY.out.below⟩
   | true =>
    rw [if_pos rfl] at H
    by_cases c4 : xs.length < 1954687338268
    ·rw [if_pos c4] at H
     have LM := Ad.mk c4
     clear c4
     have H' := Ad.mk H
     clear H
     go_wp2_with (first | (go_at_call 26; refine (ls_safely.calls k1 g s a x1 x2 x3 x4 x5 x6 true x8 x9 x10 w _ HI.out HB.out AS.out).mono ?_; rintro e w4 ⟨rfl, h1, h2, h3⟩; have HI1 := Ad.mk h1; have HB1 := Ad.mk h2; have HO1 := Ad.mk (Kd.R_keep HO.out h3 (fun _ hk => hk)); clear h1 h2 h3 HI HB HO) | ((with_reducible refine gate_dst (N := 8) rfl ?_); refine box_event r1_ (N := 8) r1_ (cs := #[.int .i64 0, .string ⟨#[]⟩, .int .i64 0, .string ⟨#[]⟩, .string ⟨#[]⟩, .int .i64 0]) (t := 56) r2_ ?_; intro gy hgy w5 hbox hb; have HX := Ad.mk (AX.mk (cs := #[.int .i64 0, .string ⟨#[]⟩, .int .i64 0, .string ⟨#[]⟩, .string ⟨#[]⟩, .int .i64 0]) (HI1.out.below hb) (below_then HB1.out HB1.out.size hb) (Kd.R_mono (Kd.R_below (Kd.R_elderB HO1.out gy (Nat.le_of_eq hgy.symm)) hb) (fun _ hk => hk)) hbox z46_ (by rw [hgy]; exact Ne.symm (Nat.ne_of_lt HI1.out.lt))); clear hgy hbox hb HI1 HB1 HO1) | ((with_reducible refine gate_store (t := 56) (p := 8) rfl ?_); refine store_seg (gy := gy) (j := 0) (T := 56) (TB := 56) (cs := #[.int .i64 0, .string ⟨#[]⟩, .int .i64 0, .string ⟨#[]⟩, .string ⟨#[]⟩, .int .i64 0]) (new := #[.int .i64 x1, .string x2, .int .i64 x3, .string x4, .string x5, .int .i64 x6]) (u := .agg #[.int .i64 x1, .string x2, .int .i64 x3, .string x4, .string x5, .int .i64 x6]) (seg := [.int .i64 x1, .string x2, .int .i64 x3, .string x4, .string x5, .int .i64 x6]) rfl (p := .tmp 8) (x := .tmp 28) rfl rfl r1_ r1_ r1_ HX.out.y k1_ s1_ h1_ rfl ?_; intro w6 hz hup; have HY := Ad.mk (HX.out.upy hup hz); clear HX hz hup; have hy0 := (blk_cell HY.out.y 0).trans (show _ = some (.int .i64 x1) from rfl); have hy1 := (blk_cell HY.out.y 1).trans (show _ = some (.string x2) from rfl); have hy2 := (blk_cell HY.out.y 2).trans (show _ = some (.int .i64 x3) from rfl); have hy3 := (blk_cell HY.out.y 3).trans (show _ = some (.string x4) from rfl); have hy4 := (blk_cell HY.out.y 4).trans (show _ = some (.string x5) from rfl); have hy5 := (blk_cell HY.out.y 5).trans (show _ = some (.int .i64 x6) from rfl)) | ((with_reducible refine gate_builtin (b := .append) (xs := #[(.tmp 39), .tmp 41]) rfl ?_); at_builtin; refine Kd.R_append k56 (w0 := w) w.heap.size rfl (.tmp 39) (.tmp 41) 51 56 (.agg #[.int .i64 0, .string ⟨#[]⟩, .int .i64 0, .string ⟨#[]⟩, .string ⟨#[]⟩, .int .i64 0]) 72 rfl Tryd.underlying51 lex_All.infoS rfl (by decide) (by omega) _ xs (⟨x1, x2, (⟨x3, x4, x5⟩ : S36), x6⟩ : S56) [.int .i64 x1, .string x2, .int .i64 x3, .string x4, .string x5, .int .i64 x6] (fun k_ => k_ ≠ g ∧ k_ ≠ gy) (fun _ => False) rfl (by first | (go_simp; done) | (go_simp; rfl)) ?aP (fun _ hk => hk.elim) ?aF ?aO ?aB ?aS ?aL ?_; (case aP => exact k56_mkM _ _ _ (⟨x1, x2, (⟨x3, x4, x5⟩ : S36), x6⟩ : S56)); (case aB => exact HY.out.below); (case aF => exact fun k_ hk => ⟨Kd.freshB HY.out.st.1 k_ hk, Kd.freshB HY.out.y k_ hk⟩); (case aO => exact HY.out.row); (case aS => exact HY.out.below.size); (case aL => have := LM.out; omega); intro v1 w7 ho hb hg hat; have HZ := Ad.mk (show Kd.R k56 56 w7 w.heap.size (fun k => k ≠ g) v1 (xs ++ [(⟨x1, x2, (⟨x3, x4, x5⟩ : S36), x6⟩ : S56)]) ∧ IsS65 w w7 g x9 x10 ∧ Below w.heap.size w w7 from ⟨Kd.R_mono ho (fun _ hk => hk.1), HY.out.st.grown hg (Kd.R_away HY.out.row (fun _ hk => hk.1)), hb⟩); clear HY ho hb hg hat))
     go_roundg k1
     case measure => have := HK1.out; omega
     case rel => exact ⟨_, x9, x10, H', ⟨by have := HK1.out; omega⟩, ⟨HZ.out.1⟩, ⟨HZ.out.2.1⟩, ⟨HZ.out.2.2⟩⟩
    rw [if_neg c4] at H
    cases H
def lex_Mark.f (a0_0 : Int) (a0_1 : ByteArray) (a0_2 : Int) (a0_3 : ByteArray) (a0_4 : ByteArray) (a0_5 : Int) (a1 : ByteArray) : Option (Bool) := if a0_0 = 8 then (some (a0_1.toList == a1.toList)) else (some false)
theorem lex_Mark.calls (a0_0 : Int) (a0_1 : ByteArray) (a0_2 : Int) (a0_3 : ByteArray) (a0_4 : ByteArray) (a0_5 : Int) (a1 : ByteArray) (r : Bool) (w : World) (h : lex_Mark.f a0_0 a0_1 a0_2 a0_3 a0_4 a0_5 a1 = some r) :
  Calls Tryd.prog 20 #[.agg #[.int .i64 a0_0, .string a0_1, .int .i64 a0_2, .string a0_3, .string a0_4, .int .i64 a0_5], .string a1] w fun e w' => e = .returned (.bool r) ∧ Below w.heap.size w w' := by
 have hu56 := Tryd.underlying56
 have HB := Ad.mk (Below.refl w.heap.size w)
 have H := h
 clear h
 unfold lex_Mark.f at H
 by_cases c3 : a0_0 = 8
 ·rw [if_pos c3] at H
  have c3b0 := beq_iff_eq.mpr c3
  have c3b1 := bne_eq_false_iff_eq.mpr c3
  clear c3
  obtain rfl := Option.some.inj H
  go_enter Tryd.func20, Tryd.ntmps20
  go_wp2_with (first | ((with_reducible refine gate_dst (N := 2) rfl ?_); refine box_event r1_ (N := 2) r1_ (cs := #[.int .i64 a0_0, .string a0_1, .int .i64 a0_2, .string a0_3, .string a0_4, .int .i64 a0_5]) (t := 56) r2_ ?_; intro gb281 hg w4 hbox hb; have BK281 := Ad.mk (hbox); have GW281 := Ad.mk (bs_ : w.heap.size ≤ gb281); have GE281 := Ad.mk (bs_ : w.heap.size ≤ gb281); replace HB := Ad.mk (below_step b1_ hb); clear hb hbox hg; obtain ⟨⟨hcz5_0, hcz5_1, hcz5_2, hcz5_3, hcz5_4, hcz5_5⟩, hfz5_0, hfz5_1, hfz5_2, hfz5_3, hfz5_4, hfz5_5⟩ := c6_ BK281.out))
  go_ret
  exact ⟨e2_, by have G0 := GE281; exact z11_⟩
 rw [if_neg c3] at H
 have c3b0 := beq_eq_false_iff_ne.mpr c3
 have c3b1 := bne_iff_ne.mpr c3
 obtain rfl := Option.some.inj H
 go_enter Tryd.func20, Tryd.ntmps20
 go_wp2_with (first | ((with_reducible refine gate_dst (N := 2) rfl ?_); refine box_event r1_ (N := 2) r1_ (cs := #[.int .i64 a0_0, .string a0_1, .int .i64 a0_2, .string a0_3, .string a0_4, .int .i64 a0_5]) (t := 56) r2_ ?_; intro gb281 hg w6 hbox hb; have BK281 := Ad.mk (hbox); have GW281 := Ad.mk (bs_ : w.heap.size ≤ gb281); have GE281 := Ad.mk (bs_ : w.heap.size ≤ gb281); replace HB := Ad.mk (below_step b1_ hb); clear hb hbox hg; obtain ⟨⟨hcz7_0, hcz7_1, hcz7_2, hcz7_3, hcz7_4, hcz7_5⟩, hfz7_0, hfz7_1, hfz7_2, hfz7_3, hfz7_4, hfz7_5⟩ := c6_ BK281.out))
 go_ret
 exact ⟨e2_, by have G0 := GE281; exact z11_⟩
def oneByteX (s : ByteArray) : Option UInt8 := match s with | ⟨⟨[c]⟩⟩ => some c | _ => none
theorem oneByteX_eq {s : ByteArray} {c : UInt8} (h : oneByteX s = some c) : s = ⟨#[c]⟩ := by
 unfold oneByteX at h
 split at h
 ·cases h; rfl
 cases h
def stringslite_Index.f (a0 a1 : ByteArray) : Option Int := (oneByteX a1).map fun c => Lib.indexByte a0.data.toList c
theorem stringslite_Index.calls (a0 a1 : ByteArray) (r : Int) (w : World) (h : stringslite_Index.f a0 a1 = some r) :
  Calls Tryd.prog 72 #[.string a0, .string a1] w fun e w' => e = .returned (.int .i64 r) ∧ Drawn0 w w' := by
 obtain ⟨c, hc, rfl⟩ := Option.map_eq_some_iff.mp h
 rw [oneByteX_eq hc]
 exact (Tryd.stringslite_Index_one a0 c w).mono fun e w' ⟨he, hw⟩ => ⟨he, by rw [hw]; exact Drawn0.refl w⟩
def stringslite_Cut.f (a0 : ByteArray) (a1 : ByteArray) : Option (ByteArray × ByteArray × Bool) := (stringslite_Index.f a0 a1).bind fun t282 => (if t282 ≥ 0 then (if 0 ≤ t282 then (if t282 ≤ (a0.size : Int) then (if 0 ≤ (wrap64 (t282 + (a1.size : Int))) then (if (wrap64 (t282 + (a1.size : Int))) ≤ (a0.size : Int) then (some (a0.extract 0 (t282 : Int).toNat, a0.extract ((wrap64 (t282 + (a1.size : Int))) : Int).toNat a0.size, true)) else (none)) else (none)) else (none)) else (none)) else (some (a0, (⟨#[]⟩ : ByteArray), false)))
theorem stringslite_Cut.calls (a0 : ByteArray) (a1 : ByteArray) (r1 : ByteArray) (r2 : ByteArray) (r3 : Bool) (w : World) (h : stringslite_Cut.f a0 a1 = some (r1, r2, r3)) :
  Calls Tryd.prog 51 #[.string a0, .string a1] w fun e w' => e = .returned (.tuple #[.string r1, .string r2, .bool r3]) ∧ Drawn0 w w' := by
 have H := h
 clear h
 unfold stringslite_Cut.f at H
 obtain ⟨t282, A3, H⟩ := bi_ H
 by_cases c4 : t282 ≥ 0
 ·rw [if_pos c4] at H
  have c4b0 : decide (0 ≤ t282) = true := decide_eq_true c4
  clear c4
  by_cases c5 : 0 ≤ t282
  ·rw [if_pos c5] at H
   have c5b0 := eq_true c5
   have c5b1 := decide_eq_true c5
   clear c5
   by_cases c6 : t282 ≤ (a0.size : Int)
   ·rw [if_pos c6] at H
    have c6b0 := eq_true c6
    have c6b1 := decide_eq_true c6
    clear c6
    obtain ⟨ji7, hji7⟩ : ∃ j_ : Int, (wrap64 (t282 + (a1.size : Int))) = j_ := ⟨_, rfl⟩
    replace H : (if 0 ≤ (ji7) then (if (ji7) ≤ (a0.size : Int) then (some (a0.extract 0 (t282 : Int).toNat, a0.extract ((ji7) : Int).toNat a0.size, true)) else (none)) else (none)) = some (r1, r2, r3) := by first | (rw [hji7] at H; exact H) | (simp only [hji7] at H ⊢; exact H)
    (try rw [hji7] at A3)
    have hji7w : (IntKind.i64.wrap (t282 + (a1.size : Int))) = ji7 := (i64_w _).trans hji7
    by_cases c8 : 0 ≤ (ji7)
    ·rw [if_pos c8] at H
     have c8b0 := eq_true c8
     have c8b1 := decide_eq_true c8
     clear c8
     by_cases c9 : (ji7) ≤ (a0.size : Int)
     ·rw [if_pos c9] at H
      have c9b0 := eq_true c9
      have c9b1 := decide_eq_true c9
      clear c9
      simp only [Option.some.injEq, Prod.mk.injEq] at H
      obtain ⟨rfl, rfl, rfl⟩ := H
      go_enter Tryd.func51, Tryd.ntmps51
      go_wp2_with (first | (go_at_call 72; (with_reducible refine (stringslite_Index.calls a0 a1 t282 _ A3.out).mono ?_); rintro e w' ⟨rfl, ⟨nd, rfl⟩⟩; (try first | exact ⟨rfl, _, World.drewN_drewN _ _ _⟩ | exact ⟨rfl, _, Eq.trans (World.drewN_drewN _ _ _) (congrArg (World.drewN _) (Nat.add_assoc _ _ _))⟩)))
      repeat (go_quiet (first | (go_at_call 72; (with_reducible refine (stringslite_Index.calls a0 a1 t282 _ A3.out).mono ?_); rintro e w' ⟨rfl, ⟨nd, rfl⟩⟩; (try first | exact ⟨rfl, _, World.drewN_drewN _ _ _⟩ | exact ⟨rfl, _, Eq.trans (World.drewN_drewN _ _ _) (congrArg (World.drewN _) (Nat.add_assoc _ _ _))⟩))); try go_wp2_with (first | (go_at_call 72; (with_reducible refine (stringslite_Index.calls a0 a1 t282 _ A3.out).mono ?_); rintro e w' ⟨rfl, ⟨nd, rfl⟩⟩; (try first | exact ⟨rfl, _, World.drewN_drewN _ _ _⟩ | exact ⟨rfl, _, Eq.trans (World.drewN_drewN _ _ _) (congrArg (World.drewN _) (Nat.add_assoc _ _ _))⟩))))
      go_ret3
      exact ⟨by first | rfl | (simp; done) | (simp only [← hji7] <;> (first | rfl | simp)) | (simp [*]; done), z5_⟩
     rw [if_neg c9] at H
     exact absurd H (by simp)
    rw [if_neg c8] at H
    exact absurd H (by simp)
   rw [if_neg c6] at H
   exact absurd H (by simp)
  rw [if_neg c5] at H
  exact absurd H (by simp)
 rw [if_neg c4] at H
 have c4b0 : decide (0 ≤ t282) = false := decide_eq_false c4
 clear c4
 simp only [Option.some.injEq, Prod.mk.injEq] at H
 obtain ⟨rfl, rfl, rfl⟩ := H
 go_enter Tryd.func51, Tryd.ntmps51
 go_wp2_with (first | (go_at_call 72; (with_reducible refine (stringslite_Index.calls a0 a1 t282 _ A3.out).mono ?_); rintro e w' ⟨rfl, ⟨nd, rfl⟩⟩; (try first | exact ⟨rfl, _, World.drewN_drewN _ _ _⟩ | exact ⟨rfl, _, Eq.trans (World.drewN_drewN _ _ _) (congrArg (World.drewN _) (Nat.add_assoc _ _ _))⟩)))
 repeat (go_quiet (first | (go_at_call 72; (with_reducible refine (stringslite_Index.calls a0 a1 t282 _ A3.out).mono ?_); rintro e w' ⟨rfl, ⟨nd, rfl⟩⟩; (try first | exact ⟨rfl, _, World.drewN_drewN _ _ _⟩ | exact ⟨rfl, _, Eq.trans (World.drewN_drewN _ _ _) (congrArg (World.drewN _) (Nat.add_assoc _ _ _))⟩))); try go_wp2_with (first | (go_at_call 72; (with_reducible refine (stringslite_Index.calls a0 a1 t282 _ A3.out).mono ?_); rintro e w' ⟨rfl, ⟨nd, rfl⟩⟩; (try first | exact ⟨rfl, _, World.drewN_drewN _ _ _⟩ | exact ⟨rfl, _, Eq.trans (World.drewN_drewN _ _ _) (congrArg (World.drewN _) (Nat.add_assoc _ _ _))⟩))))
 go_ret3
 exact ⟨e1_, z5_⟩
def strings_Cut.f (a0 : ByteArray) (a1 : ByteArray) : Option (ByteArray × ByteArray × Bool) := (stringslite_Cut.f a0 a1).bind fun bt283 => (some (bt283.1, bt283.2.1, bt283.2.2))
theorem strings_Cut.calls (a0 : ByteArray) (a1 : ByteArray) (r1 : ByteArray) (r2 : ByteArray) (r3 : Bool) (w : World) (h : strings_Cut.f a0 a1 = some (r1, r2, r3)) :
  Calls Tryd.prog 36 #[.string a0, .string a1] w fun e w' => e = .returned (.tuple #[.string r1, .string r2, .bool r3]) ∧ Drawn0 w w' := by
 have H := h
 clear h
 unfold strings_Cut.f at H
 obtain ⟨⟨t283, t284, t285⟩, A3, H⟩ := bi_ H
 try dsimp only at H
 simp only [Option.some.injEq, Prod.mk.injEq] at H
 obtain ⟨rfl, rfl, rfl⟩ := H
 go_enter Tryd.func36, Tryd.ntmps36
 go_wp2_with (first | ((with_reducible refine gate_callee (f := 51) rfl ?_); refine goesL_ (some 9) rfl rfl Tryd.func51 k1_ rfl #[.string a0, .string a1] rfl g1_ ?_; (with_reducible refine (stringslite_Cut.calls a0 a1 t283 t284 t285 _ A3.out).mono ?_); rintro e w' ⟨rfl, ⟨nd, rfl⟩⟩; refine ⟨_, rfl, ?_⟩))
 go_ret3
 exact ⟨e1_, z5_⟩
end Go.Proofs.YtjnhdamilbcmpaaDoor.PTm

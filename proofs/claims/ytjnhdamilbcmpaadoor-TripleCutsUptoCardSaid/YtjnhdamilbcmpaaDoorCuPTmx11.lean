import Derived.Test.YtjnhdamilbcmpaaDoorCuPTmx0
import Derived.Test.YtjnhdamilbcmpaaDoorCuPTmx4
import Derived.Test.YtjnhdamilbcmpaaDoorCuPTmx5
import Derived.Test.YtjnhdamilbcmpaaDoorCuPTmx6
import Derived.Test.YtjnhdamilbcmpaaDoorCuPTmx7
import Derived.Test.YtjnhdamilbcmpaaDoorCuPTmx8
import Derived.Test.YtjnhdamilbcmpaaDoorCuPTmx9
import Derived.Test.YtjnhdamilbcmpaaDoorCuPTmx10
namespace Go.Proofs.YtjnhdamilbcmpaaDoor.PTm
open Go.RowKit Go.Proofs.YtjnhdamilbcmpaaDoorW.PrintWords Go.Proofs.YtjnhdamilbcmpaaDoorW.PrintLast Go.Proofs.YtjnhdamilbcmpaaDoorW.PrintMore
attribute [local go_sem] max2_int min2_int max_two min_two max_three min_three max_four min_four
set_option linter.unusedVariables false
set_option linter.unusedSimpArgs false
set_option maxHeartbeats 8000000
set_option maxRecDepth 100000
structure Upd (W w1 : World) (gy : Nat) : Prop where
 os : w1.os = W.os
 tape : w1.tape = W.tape
 output : w1.output = W.output
 size : w1.heap.size = W.heap.size
 other : ∀ k, k ≠ gy → w1.heap[k]? = W.heap[k]?
theorem setCells_heap (gy : Nat) (T : TypeId) : ∀ (vs : List Value) (o : Nat) (W : World) (cs : Array Value), W.heap[gy]? = some (.cells cs T (0, 0)) → o + vs.length ≤ cs.size → (W.setCells gy o vs).heap[gy]? = some (.cells (cs.toList.take o ++ vs ++ cs.toList.drop (o + vs.length)).toArray T (0, 0)) ∧ Upd W (W.setCells gy o vs) gy
 | [], o, W, cs, h, _ => ⟨by simpa [World.setCells] using h, ⟨rfl, rfl, rfl, rfl, fun _ _ => rfl⟩⟩
 | v :: vs, o, W, cs, h, hl => by
  have hl' : o + (vs.length + 1) ≤ cs.size := by simpa using hl
  have h1 : (W.setCell ⟨gy, o, none⟩ v).heap[gy]? = some (.cells (cs.setIfInBounds o v) T (0, 0)) := by
   simp [World.setCell, Array.getElem?_modify, h]
  obtain ⟨i1, i2⟩ := setCells_heap gy T vs (o + 1) (W.setCell ⟨gy, o, none⟩ v) (cs.setIfInBounds o v) h1 (by simp; omega)
  have u1 : Upd W (W.setCell ⟨gy, o, none⟩ v) gy := ⟨rfl, rfl, rfl, by simp, fun k hk => by simp [World.setCell, Array.getElem?_modify, Ne.symm hk]⟩
  refine ⟨?_, ⟨i2.os.trans u1.os, i2.tape.trans u1.tape, i2.output.trans u1.output, i2.size.trans u1.size, fun k hk => (i2.other k hk).trans (u1.other k hk)⟩⟩
  rw [World.setCells]
  rw [i1]
  congr 2
  have e := list_seg_step cs.toList o v vs (by simpa using hl')
  simpa [Array.toList_setIfInBounds] using congrArg List.toArray e
theorem store_seg {P : Program} {ops : Array Oper} {rest : List Oper} {o : Oper} {a : Act} {Q : Exit → Act → World → Prop} {W : World} {gy j : Nat} {T TB : TypeId} {cs new : Array Value} {u : Value} {seg : List Value} (hgd : o.guard = none) {p x : Operand} (ho : o.op = .store T p x) (hN : o.dst = none)
  (haddr : a.eval p = .pointer (some ⟨gy, j, none⟩)) (hx : a.eval x = u) (hu : u.cells.toList = seg) (hh : W.heap[gy]? = some (.cells cs TB (0, 0))) (ht : (P.info? T).map (·.size) = some seg.length) (hfit : j + seg.length ≤ cs.size) (h1 : ∀ q ∈ seg, q.oneCell' = true)
  (hnew : (cs.toList.take j ++ seg ++ cs.toList.drop (j + seg.length)).toArray = new)
  (h : ∀ w1, w1.heap[gy]? = some (.cells new TB (0, 0)) → Upd W w1 gy → wpList P ops Q rest a w1) : wpList P ops Q (o :: rest) a W := by
 have hst := run_store_run (P := P) (o := j) T u seg hh hu ht hfit h1
 obtain ⟨hb, hup⟩ := setCells_heap gy TB seg j W cs hh hfit
 rw [hnew] at hb
 have h2 := h _ hb hup
 refine wpList_plain hgd fun K hK => ?_
 have hex : Sem.run P (execOp a.eval o) W = .ok .skip (W.setCells gy j seg) := by
  unfold execOp
  rw [ho]
  simp [haddr, hx, hst]
 unfold Oper.wp
 rw [hex]
 show K (a.put o.dst undef) _
 rw [hN]
 exact hK _ _ h2
theorem Upd.below {W w1 : World} {gy B : Nat} (h : Upd W w1 gy) (hB : B ≤ gy) : Below B W w1 := ⟨h.os, h.tape, h.output, Nat.le_of_eq h.size.symm, fun k hk => h.other k (by omega)⟩
theorem Upd.keep {w W w1 : World} {g gy : Nat} (h : Upd W w1 gy) (hk : KeepBut w W g none) (hg : w.heap.size ≤ gy) : KeepBut w w1 g none := ⟨by rw [h.size]; exact hk.1, fun i hi hne hr => (h.other i (by omega)).trans (hk.2 i hi hne hr)⟩
def wrongC (p : Int) : List PanicEntry := [{ v := .iface 80 (.agg #[.int .i64 p]), recovered := false }]
def Bad (w0 w : World) (g : Nat) (p : Int) (e : Ending) (w' : World) : Prop := e = .panicked (wrongC p) ∧ Below w0.heap.size w0 w' ∧ KeepBut w w' g none
structure ZX (w0 w W : World) (g : Nat) (s : ByteArray) (a : Int) : Prop where
 st : IsS65 w0 W g s a
 below : Below w0.heap.size w0 W
 keep : KeepBut w W g none
theorem ZX.first {w0 w : World} {g : Nat} {s : ByteArray} {a : Int} (h1 : IsS65 w0 w g s a) (h2 : Below w0.heap.size w0 w) : ZX w0 w w g s a := ⟨h1, h2, KeepBut.refl w g none⟩
theorem ZX.lower {w0 w W W' : World} {g : Nat} {s : ByteArray} {a : Int} (h : ZX w0 w W g s a) (hb : Below W.heap.size W W') : ZX w0 w W' g s a :=
 ⟨h.st.below hb, below_then h.below h.below.size hb, h.keep.trans (KeepBut.of_below hb g none) (.inl rfl)⟩
theorem ZX.call {w0 w W W' : World} {g : Nat} {s s' : ByteArray} {a a' : Int} (h : ZX w0 w W g s a) (h1 : IsS65 w0 W' g s' a') (h2 : Below w0.heap.size w0 W') (h3 : KeepBut W W' g none) : ZX w0 w W' g s' a' := ⟨h1, h2, h.keep.trans h3 (.inl rfl)⟩
theorem ZX.set {w0 w W : World} {g : Nat} {s : ByteArray} {a : Int} (h : ZX w0 w W g s a) (x : Int) : ZX w0 w (W.setCell ⟨g, 1, none⟩ (.int .i64 x)) g s x := ⟨h.st.set_1 x, below_set h.below h.st.ge, h.keep.set_ 1 _⟩
theorem ZX.drewN {w0 w W : World} {g : Nat} {s : ByteArray} {a : Int} (h : ZX w0 w W g s a) (n : Nat) : ZX w0 w (W.drewN n) g s a := h.lower (pw_below_drewN (Below.refl _ _) n)
theorem ZX.alloc {w0 w W : World} {g : Nat} {s : ByteArray} {a : Int} (h : ZX w0 w W g s a) (o : Obj) : ZX w0 w (W.alloc o) g s a := h.lower (below_alloc (Below.refl _ _) o)
theorem ZX.bad {w0 w W W' : World} {g : Nat} {s : ByteArray} {a p : Int} {e : Ending} (h : ZX w0 w W g s a) (k : Bad w0 W g p e W') : Bad w0 w g p e W' := ⟨k.1, k.2.1, h.keep.trans k.2.2 (.inl rfl)⟩
theorem ZX.ends {w0 w W : World} {g : Nat} {s : ByteArray} {a p : Int} (h : ZX w0 w W g s a) : Bad w0 w g p (.panicked (wrongC p)) W := ⟨rfl, h.below, h.keep⟩
theorem ZX.cell0 {w0 w W : World} {g : Nat} {s : ByteArray} {a : Int} (h : ZX w0 w W g s a) : W.cell? ⟨g, 0, none⟩ = some (.string s) := cellS65_0 h.st.1
theorem ZX.cell1 {w0 w W : World} {g : Nat} {s : ByteArray} {a : Int} (h : ZX w0 w W g s a) : W.cell? ⟨g, 1, none⟩ = some (.int .i64 a) := cellS65_1 h.st.1
theorem ZX.frozen1 {w0 w W : World} {g : Nat} {s : ByteArray} {a : Int} (h : ZX w0 w W g s a) : W.frozen? ⟨g, 1, none⟩ = false := blk_frozen h.st.1 1
theorem wrong_fail (g : Nat) (p : Int) (w : World) : Calls Tryd.prog 50 #[.pointer (some ⟨g, 0, none⟩), .int .i64 p] w fun e w' => e = .panicked (wrongC p) ∧ w' = w := by
 go_enter Tryd.func50, Tryd.ntmps50
 go_wp2
 exact ⟨rfl, rfl, rfl⟩
def chv (s : ByteArray) (i : Int) : Option Int := if i < (s.size : Int) then (if 0 ≤ i then some (bt s i) else none) else some 0
theorem chv_f {s : ByteArray} {i c : Int} (a : Int) (h : chv s i = some c) : ls_ch.f s a i = some (c, s, a) := by
 unfold chv at h
 unfold ls_ch.f
 split at h
 ·split at h
  ·cases h; rw [if_pos (by assumption), if_pos (by assumption)]
  cases h
 cases h; rw [if_neg (by assumption)]
def escaped_r (k : Nat) (s : ByteArray) (a : Int) (all : Bool) : Option (Int × ByteArray × Int) := (chv s (wrap64 (a + 1))).bind fun c => if c = 117 then ls_digits.f k s (wrap64 (wrap64 (a + 1) + 1)) 4 else if c = 85 then ls_digits.f k s (wrap64 (wrap64 (a + 1) + 1)) 8 else (strings_IndexByte.f (⟨#[116, 98, 110, 114, 102, 34, 39, 92]⟩ : ByteArray) c).bind fun i => if all = true ∧ c > 0 ∧ i ≥ 0 then (if i < 8 then some (wrap64 (bt (⟨#[9, 8, 10, 13, 12, 34, 39, 92]⟩ : ByteArray) i), s, wrap64 (wrap64 (a + 1) + 1)) else none) else some (-1, s, wrap64 (wrap64 (a + 1) + 1))
def escaped_b (k : Nat) (s : ByteArray) (a at_ : Int) (all : Bool) : Option Int := (escaped_r k s a all).bind fun r => (utf_Put.f r.1).bind fun b => if b.2 = 0 then none else some at_
def quoted_b : Nat → ByteArray → Int → Bool → Int → Nat → Int → Option Int
 | 0, _, _, _, _, _, _ => none
 | k + 1, s, en, all, at_, n, a => (chv s a).bind fun c => if c = en then none else if a ≥ (s.size : Int) ∨ (all = true ∧ (c = 10 ∨ c = 13)) then some at_ else if c = 92 then (match escaped_b k s a at_ all with | some q => some q | none => (ls_escaped.f k s a at_ all).bind fun r => if r.2.1 = s then (if n + r.1.length < 140737488355328 then quoted_b k s en all at_ (n + r.1.length) r.2.2 else none) else none) else if n < 140737488355328 then quoted_b k s en all at_ (n + 1) (wrap64 (a + 1)) else none
def iri_b (k : Nat) (s : ByteArray) (a : Int) : Option Int := (chv s a).bind fun c => if c = 60 then (match quoted_b k s 62 false a 0 (wrap64 (a + 1)) with | some q => some q | none => (ls_quoted.f k s a 62 false).bind fun r => (term_May.f k 1 r.1 (⟨#[]⟩ : ByteArray)).bind fun m => if m = true then none else some a) else none
def text_b (k : Nat) (s : ByteArray) (a : Int) : Option Int := (chv s a).bind fun c => if c = 34 then quoted_b k s 34 true a 0 (wrap64 (a + 1)) else none
def run_b (k : Nat) (s : ByteArray) (a a1 a2 : Int) (a3 : Nat) : Option Int := if a3 = 66 ∨ a3 = 67 ∨ a3 = 70 then (ls_run.l0 k a3 a s a).bind fun e => if wrap64 (e - a) > a2 then some a1 else none else none
def blank_b (k : Nat) (s : ByteArray) (a : Int) : Option Int := (chv s a).bind fun c => if c = 95 then (chv s (wrap64 (a + 1))).bind fun d => if d = 58 then (match run_b k s (wrap64 (a + 2)) a 64 66 with | some q => some q | none => (ls_run.f k s (wrap64 (a + 2)) a 64 66).bind fun r => (term_May.f k 2 r.1 (⟨#[]⟩ : ByteArray)).bind fun m => if m = true then none else some a) else none else none
def lang_b (k : Nat) (s : ByteArray) (a : Int) : Option Int := (chv s a).bind fun c => if c = 64 then (match run_b k s (wrap64 (a + 1)) a 35 67 with | some q => some q | none => (ls_run.f k s (wrap64 (a + 1)) a 35 67).bind fun r => (term_May.f k 4 (⟨#[]⟩ : ByteArray) r.1).bind fun m => if m = true then none else some a) else none
def variable_b (k : Nat) (s : ByteArray) (a : Int) : Option Int := (chv s a).bind fun c => if c = 63 then (match run_b k s (wrap64 (a + 1)) a 32 66 with | some q => some q | none => (ls_run.f k s (wrap64 (a + 1)) a 32 66).bind fun r => if r.1.toList = ([] : List UInt8) then some a else none) else none
def word_c (k : Nat) (s : ByteArray) (a : Int) : Option Int := match run_b k s a a 32 66 with | some q => some q | none => (ls_run.f k s a a 32 66).bind fun r => if r.2.1 = s then (chv s r.2.2).bind fun d => if d = 58 then (chv s (wrap64 (r.2.2 + 1))).bind fun e => if e = 45 then none else run_b k s (wrap64 (r.2.2 + 1)) a 64 70 else none else none
def word_b (k : Nat) (s : ByteArray) (a : Int) : Option Int := (chv s a).bind fun c => (lex_letter.f c).bind fun l => if l = true then word_c k s a else if c = 58 then (chv s (wrap64 (a + 1))).bind fun d => if d = 45 then none else word_c k s a else none
set_option maxHeartbeats 4000000 in
set_option maxRecDepth 100000 in
theorem run_bad0 (k : Nat) (g : Nat) (s0_0 : ByteArray) (s0_1 a1 a2 e : Int) (w0 w : World) (hI : IsS65 w0 w g s0_0 s0_1) (hB : Below w0.heap.size w0 w) (he : ls_run.l0 k 66 s0_1 s0_0 s0_1 = some e) (hl : Ad (wrap64 (e - s0_1) > a2)) :
  Calls Tryd.prog 65 #[.pointer (some ⟨g, 0, none⟩), .int .i64 a1, .int .i64 a2, .func (.func 66) #[] #[]] w fun e' w' => Bad w0 w g a1 e' w' := by
 have HI0 := Ad.mk hI
 have HK := Ad.mk (KeepBut.refl w g none)
 have HW0 := Ad.mk hB.size
 have HB := Ad.mk hB
 have HE := Ad.mk he
 clear hI hB he
 obtain ⟨HGz, hgz⟩ := HI0.out
 have hcz0 := cellS65_0 HGz
 have hcz1 := cellS65_1 HGz
 have hfz1 := blk_frozen HGz 1
 clear HGz hgz
 go_enter Tryd.func65, Tryd.ntmps65
 go_wp2
 clear hcz0 hcz1 hfz1
 go_loopg [] k (fun kq w' => ∃ (a : Int), Ad (ls_run.l0 kq 66 s0_1 s0_0 a = some e) ∧ Ad (kq ≤ k) ∧ Ad (IsS65 w0 w' g s0_0 a) ∧ Ad (KeepBut w w' g none) ∧ Ad (Below w0.heap.size w0 w'))
 case atStart => exact ⟨s0_1, HE, ⟨Nat.le_refl _⟩, ⟨(by have G0 := HI0; exact z19_)⟩, ⟨z14_⟩, ⟨(by have G0 := HI0; exact z15_)⟩⟩
 case round =>
  clear HE HI0 HK HB
  obtain ⟨a, HA, HK1, HI0, HK, HB⟩ := hrel
  cases gk with
  | zero => exact absurd HA.out z34_
  | succ k1 =>
   have H := HA.out
   clear HA
   simp only [ls_run.l0] at H
   obtain ⟨HGz, hgz⟩ := HI0.out
   have hcz0 := cellS65_0 HGz
   have hcz1 := cellS65_1 HGz
   have hfz1 := blk_frozen HGz 1
   clear HGz hgz
   by_cases c1 : a < (s0_0.size : Int)
   ·rw [if_pos c1] at H
    by_cases c2 : 0 ≤ a
    case neg => rw [if_neg c2] at H; cases H
    rw [if_pos c2] at H
    obtain ⟨b, A0, H⟩ := Option.bind_eq_some_iff.mp H
    have AB := Ad.mk (show lex_named.f (wrap64 (a - s0_1)) (bt s0_0 a) = some b by simpa [ls_run.is] using A0)
    clear A0
    have c1b : decide (a < (s0_0.size : Int)) = true := decide_eq_true c1
    have c2b : decide (0 ≤ a) = true := decide_eq_true c2
    have hx := bt_at s0_0 a
    replace c1 := eq_true c1
    replace c2 := eq_true c2
    have H' := Ad.mk H
    clear H
    cases b with
    | true =>
     have H := H'.out
     clear H'
     rw [if_pos rfl] at H
     have H' := Ad.mk H
     clear H
     go_wp2
     repeat (go_quiet (first | (go_at_call 66; (with_reducible refine (lex_named.calls (wrap64 (a - s0_1)) (bt s0_0 a) true _ AB.out).mono ?_); rintro e w' ⟨rfl, ⟨nd, rfl⟩⟩; (try first | exact ⟨rfl, _, World.drewN_drewN _ _ _⟩ | exact ⟨rfl, _, Eq.trans (World.drewN_drewN _ _ _) (congrArg (World.drewN _) (Nat.add_assoc _ _ _))⟩))); try go_wp2)
     go_roundg k1
     case measure => have := HK1.out; omega
     case rel => exact ⟨_, H', ⟨by have := HK1.out; omega⟩, ⟨(by have G0 := HI0; exact z19_)⟩, ⟨z14_⟩, ⟨(by have G0 := HI0; exact z15_)⟩⟩
    | false =>
     have H := H'.out
     clear H'
     rw [if_neg (by decide)] at H
     obtain rfl := Option.some.inj H
     clear H
     have hlb : decide (wrap64 (a - s0_1) > a2) = true := decide_eq_true (by have := hl.out; omega)
     go_wp2_with (first | (go_at_call 50; refine (wrong_fail g a1 _).mono ?_; rintro e wf ⟨rfl, rfl⟩))
     repeat (go_quiet (first | (go_at_call 66; (with_reducible refine (lex_named.calls (wrap64 (a - s0_1)) (bt s0_0 a) false _ AB.out).mono ?_); rintro e w' ⟨rfl, ⟨nd, rfl⟩⟩; (try first | exact ⟨rfl, _, World.drewN_drewN _ _ _⟩ | exact ⟨rfl, _, Eq.trans (World.drewN_drewN _ _ _) (congrArg (World.drewN _) (Nat.add_assoc _ _ _))⟩))); try go_wp2_with (first | (go_at_call 50; refine (wrong_fail g a1 _).mono ?_; rintro e wf ⟨rfl, rfl⟩)))
     exact ⟨rfl, rfl, (by have G0 := HI0; exact z15_), z14_⟩
   rw [if_neg c1] at H
   have c1b : decide (a < (s0_0.size : Int)) = false := decide_eq_false c1
   clear c1
   obtain rfl := Option.some.inj H
   clear H
   have hlb : decide (wrap64 (a - s0_1) > a2) = true := decide_eq_true (by have := hl.out; omega)
   go_wp2_with (first | (go_at_call 50; refine (wrong_fail g a1 _).mono ?_; rintro e wf ⟨rfl, rfl⟩))
   repeat (go_quiet (fail); try go_wp2_with (first | (go_at_call 50; refine (wrong_fail g a1 _).mono ?_; rintro e wf ⟨rfl, rfl⟩)))
   exact ⟨rfl, rfl, (by have G0 := HI0; exact z15_), z14_⟩
set_option maxHeartbeats 4000000 in
set_option maxRecDepth 100000 in
theorem run_bad1 (k : Nat) (g : Nat) (s0_0 : ByteArray) (s0_1 a1 a2 e : Int) (w0 w : World) (hI : IsS65 w0 w g s0_0 s0_1) (hB : Below w0.heap.size w0 w) (he : ls_run.l0 k 67 s0_1 s0_0 s0_1 = some e) (hl : Ad (wrap64 (e - s0_1) > a2)) :
  Calls Tryd.prog 65 #[.pointer (some ⟨g, 0, none⟩), .int .i64 a1, .int .i64 a2, .func (.func 67) #[] #[]] w fun e' w' => Bad w0 w g a1 e' w' := by
 have HI0 := Ad.mk hI
 have HK := Ad.mk (KeepBut.refl w g none)
 have HW0 := Ad.mk hB.size
 have HB := Ad.mk hB
 have HE := Ad.mk he
 clear hI hB he
 obtain ⟨HGz, hgz⟩ := HI0.out
 have hcz0 := cellS65_0 HGz
 have hcz1 := cellS65_1 HGz
 have hfz1 := blk_frozen HGz 1
 clear HGz hgz
 go_enter Tryd.func65, Tryd.ntmps65
 go_wp2
 clear hcz0 hcz1 hfz1
 go_loopg [] k (fun kq w' => ∃ (a : Int), Ad (ls_run.l0 kq 67 s0_1 s0_0 a = some e) ∧ Ad (kq ≤ k) ∧ Ad (IsS65 w0 w' g s0_0 a) ∧ Ad (KeepBut w w' g none) ∧ Ad (Below w0.heap.size w0 w'))
 case atStart => exact ⟨s0_1, HE, ⟨Nat.le_refl _⟩, ⟨(by have G0 := HI0; exact z19_)⟩, ⟨z14_⟩, ⟨(by have G0 := HI0; exact z15_)⟩⟩
 case round =>
  clear HE HI0 HK HB
  obtain ⟨a, HA, HK1, HI0, HK, HB⟩ := hrel
  cases gk with
  | zero => exact absurd HA.out z34_
  | succ k1 =>
   have H := HA.out
   clear HA
   simp only [ls_run.l0] at H
   obtain ⟨HGz, hgz⟩ := HI0.out
   have hcz0 := cellS65_0 HGz
   have hcz1 := cellS65_1 HGz
   have hfz1 := blk_frozen HGz 1
   clear HGz hgz
   by_cases c1 : a < (s0_0.size : Int)
   ·rw [if_pos c1] at H
    by_cases c2 : 0 ≤ a
    case neg => rw [if_neg c2] at H; cases H
    rw [if_pos c2] at H
    obtain ⟨b, A0, H⟩ := Option.bind_eq_some_iff.mp H
    have AB := Ad.mk (show ls_lang_1.f (wrap64 (a - s0_1)) (bt s0_0 a) = some b by simpa [ls_run.is] using A0)
    clear A0
    have c1b : decide (a < (s0_0.size : Int)) = true := decide_eq_true c1
    have c2b : decide (0 ≤ a) = true := decide_eq_true c2
    have hx := bt_at s0_0 a
    replace c1 := eq_true c1
    replace c2 := eq_true c2
    have H' := Ad.mk H
    clear H
    cases b with
    | true =>
     have H := H'.out
     clear H'
     rw [if_pos rfl] at H
     have H' := Ad.mk H
     clear H
     go_wp2
     repeat (go_quiet (first | (go_at_call 67; (with_reducible refine (ls_lang_1.calls (wrap64 (a - s0_1)) (bt s0_0 a) true _ AB.out).mono ?_); rintro e w' ⟨rfl, ⟨nd, rfl⟩⟩; (try first | exact ⟨rfl, _, World.drewN_drewN _ _ _⟩ | exact ⟨rfl, _, Eq.trans (World.drewN_drewN _ _ _) (congrArg (World.drewN _) (Nat.add_assoc _ _ _))⟩))); try go_wp2)
     go_roundg k1
     case measure => have := HK1.out; omega
     case rel => exact ⟨_, H', ⟨by have := HK1.out; omega⟩, ⟨(by have G0 := HI0; exact z19_)⟩, ⟨z14_⟩, ⟨(by have G0 := HI0; exact z15_)⟩⟩
    | false =>
     have H := H'.out
     clear H'
     rw [if_neg (by decide)] at H
     obtain rfl := Option.some.inj H
     clear H
     have hlb : decide (wrap64 (a - s0_1) > a2) = true := decide_eq_true (by have := hl.out; omega)
     go_wp2_with (first | (go_at_call 50; refine (wrong_fail g a1 _).mono ?_; rintro e wf ⟨rfl, rfl⟩))
     repeat (go_quiet (first | (go_at_call 67; (with_reducible refine (ls_lang_1.calls (wrap64 (a - s0_1)) (bt s0_0 a) false _ AB.out).mono ?_); rintro e w' ⟨rfl, ⟨nd, rfl⟩⟩; (try first | exact ⟨rfl, _, World.drewN_drewN _ _ _⟩ | exact ⟨rfl, _, Eq.trans (World.drewN_drewN _ _ _) (congrArg (World.drewN _) (Nat.add_assoc _ _ _))⟩))); try go_wp2_with (first | (go_at_call 50; refine (wrong_fail g a1 _).mono ?_; rintro e wf ⟨rfl, rfl⟩)))
     exact ⟨rfl, rfl, (by have G0 := HI0; exact z15_), z14_⟩
   rw [if_neg c1] at H
   have c1b : decide (a < (s0_0.size : Int)) = false := decide_eq_false c1
   clear c1
   obtain rfl := Option.some.inj H
   clear H
   have hlb : decide (wrap64 (a - s0_1) > a2) = true := decide_eq_true (by have := hl.out; omega)
   go_wp2_with (first | (go_at_call 50; refine (wrong_fail g a1 _).mono ?_; rintro e wf ⟨rfl, rfl⟩))
   repeat (go_quiet (fail); try go_wp2_with (first | (go_at_call 50; refine (wrong_fail g a1 _).mono ?_; rintro e wf ⟨rfl, rfl⟩)))
   exact ⟨rfl, rfl, (by have G0 := HI0; exact z15_), z14_⟩
set_option maxHeartbeats 4000000 in
set_option maxRecDepth 100000 in
theorem run_bad2 (k : Nat) (g : Nat) (s0_0 : ByteArray) (s0_1 a1 a2 e : Int) (w0 w : World) (hI : IsS65 w0 w g s0_0 s0_1) (hB : Below w0.heap.size w0 w) (he : ls_run.l0 k 70 s0_1 s0_0 s0_1 = some e) (hl : Ad (wrap64 (e - s0_1) > a2)) :
  Calls Tryd.prog 65 #[.pointer (some ⟨g, 0, none⟩), .int .i64 a1, .int .i64 a2, .func (.func 70) #[] #[]] w fun e' w' => Bad w0 w g a1 e' w' := by
 have HI0 := Ad.mk hI
 have HK := Ad.mk (KeepBut.refl w g none)
 have HW0 := Ad.mk hB.size
 have HB := Ad.mk hB
 have HE := Ad.mk he
 clear hI hB he
 obtain ⟨HGz, hgz⟩ := HI0.out
 have hcz0 := cellS65_0 HGz
 have hcz1 := cellS65_1 HGz
 have hfz1 := blk_frozen HGz 1
 clear HGz hgz
 go_enter Tryd.func65, Tryd.ntmps65
 go_wp2
 clear hcz0 hcz1 hfz1
 go_loopg [] k (fun kq w' => ∃ (a : Int), Ad (ls_run.l0 kq 70 s0_1 s0_0 a = some e) ∧ Ad (kq ≤ k) ∧ Ad (IsS65 w0 w' g s0_0 a) ∧ Ad (KeepBut w w' g none) ∧ Ad (Below w0.heap.size w0 w'))
 case atStart => exact ⟨s0_1, HE, ⟨Nat.le_refl _⟩, ⟨(by have G0 := HI0; exact z19_)⟩, ⟨z14_⟩, ⟨(by have G0 := HI0; exact z15_)⟩⟩
 case round =>
  clear HE HI0 HK HB
  obtain ⟨a, HA, HK1, HI0, HK, HB⟩ := hrel
  cases gk with
  | zero => exact absurd HA.out z34_
  | succ k1 =>
   have H := HA.out
   clear HA
   simp only [ls_run.l0] at H
   obtain ⟨HGz, hgz⟩ := HI0.out
   have hcz0 := cellS65_0 HGz
   have hcz1 := cellS65_1 HGz
   have hfz1 := blk_frozen HGz 1
   clear HGz hgz
   by_cases c1 : a < (s0_0.size : Int)
   ·rw [if_pos c1] at H
    by_cases c2 : 0 ≤ a
    case neg => rw [if_neg c2] at H; cases H
    rw [if_pos c2] at H
    obtain ⟨b, A0, H⟩ := Option.bind_eq_some_iff.mp H
    have AB := Ad.mk (show ls_word_1.f (wrap64 (a - s0_1)) (bt s0_0 a) = some b by simpa [ls_run.is] using A0)
    clear A0
    have c1b : decide (a < (s0_0.size : Int)) = true := decide_eq_true c1
    have c2b : decide (0 ≤ a) = true := decide_eq_true c2
    have hx := bt_at s0_0 a
    replace c1 := eq_true c1
    replace c2 := eq_true c2
    have H' := Ad.mk H
    clear H
    cases b with
    | true =>
     have H := H'.out
     clear H'
     rw [if_pos rfl] at H
     have H' := Ad.mk H
     clear H
     go_wp2
     repeat (go_quiet (first | (go_at_call 70; (with_reducible refine (ls_word_1.calls (wrap64 (a - s0_1)) (bt s0_0 a) true _ AB.out).mono ?_); rintro e w' ⟨rfl, ⟨nd, rfl⟩⟩; (try first | exact ⟨rfl, _, World.drewN_drewN _ _ _⟩ | exact ⟨rfl, _, Eq.trans (World.drewN_drewN _ _ _) (congrArg (World.drewN _) (Nat.add_assoc _ _ _))⟩))); try go_wp2)
     go_roundg k1
     case measure => have := HK1.out; omega
     case rel => exact ⟨_, H', ⟨by have := HK1.out; omega⟩, ⟨(by have G0 := HI0; exact z19_)⟩, ⟨z14_⟩, ⟨(by have G0 := HI0; exact z15_)⟩⟩
    | false =>
     have H := H'.out
     clear H'
     rw [if_neg (by decide)] at H
     obtain rfl := Option.some.inj H
     clear H
     have hlb : decide (wrap64 (a - s0_1) > a2) = true := decide_eq_true (by have := hl.out; omega)
     go_wp2_with (first | (go_at_call 50; refine (wrong_fail g a1 _).mono ?_; rintro e wf ⟨rfl, rfl⟩))
     repeat (go_quiet (first | (go_at_call 70; (with_reducible refine (ls_word_1.calls (wrap64 (a - s0_1)) (bt s0_0 a) false _ AB.out).mono ?_); rintro e w' ⟨rfl, ⟨nd, rfl⟩⟩; (try first | exact ⟨rfl, _, World.drewN_drewN _ _ _⟩ | exact ⟨rfl, _, Eq.trans (World.drewN_drewN _ _ _) (congrArg (World.drewN _) (Nat.add_assoc _ _ _))⟩))); try go_wp2_with (first | (go_at_call 50; refine (wrong_fail g a1 _).mono ?_; rintro e wf ⟨rfl, rfl⟩)))
     exact ⟨rfl, rfl, (by have G0 := HI0; exact z15_), z14_⟩
   rw [if_neg c1] at H
   have c1b : decide (a < (s0_0.size : Int)) = false := decide_eq_false c1
   clear c1
   obtain rfl := Option.some.inj H
   clear H
   have hlb : decide (wrap64 (a - s0_1) > a2) = true := decide_eq_true (by have := hl.out; omega)
   go_wp2_with (first | (go_at_call 50; refine (wrong_fail g a1 _).mono ?_; rintro e wf ⟨rfl, rfl⟩))
   repeat (go_quiet (fail); try go_wp2_with (first | (go_at_call 50; refine (wrong_fail g a1 _).mono ?_; rintro e wf ⟨rfl, rfl⟩)))
   exact ⟨rfl, rfl, (by have G0 := HI0; exact z15_), z14_⟩
theorem run_bad (k : Nat) (g : Nat) (s : ByteArray) (a a1 a2 : Int) (a3 : Nat) (q : Int) (w0 w : World) (hI : IsS65 w0 w g s a) (hB : Below w0.heap.size w0 w) (h : run_b k s a a1 a2 a3 = some q) :
  Calls Tryd.prog 65 #[.pointer (some ⟨g, 0, none⟩), .int .i64 a1, .int .i64 a2, .func (.func a3) #[] #[]] w fun e w' => Bad w0 w g q e w' := by
 unfold run_b at h
 by_cases c : a3 = 66 ∨ a3 = 67 ∨ a3 = 70
 ·rw [if_pos c] at h
  obtain ⟨e, he, h⟩ := Option.bind_eq_some_iff.mp h
  by_cases c1 : wrap64 (e - a) > a2
  ·rw [if_pos c1] at h
   obtain rfl := Option.some.inj h
   rcases c with rfl | rfl | rfl
   ·exact run_bad0 k g _ _ a1 a2 _ w0 w hI hB he ⟨c1⟩
   ·exact run_bad1 k g _ _ a1 a2 _ w0 w hI hB he ⟨c1⟩
   exact run_bad2 k g _ _ a1 a2 _ w0 w hI hB he ⟨c1⟩
  rw [if_neg c1] at h; cases h
 rw [if_neg c] at h; cases h
set_option maxHeartbeats 4000000 in
set_option maxRecDepth 100000 in
theorem escaped_bad (k : Nat) (g : Nat) (s : ByteArray) (a : Int) (at_ : Int) (all : Bool) (q : Int) (w0 w : World) (hI : IsS65 w0 w g s a) (hB : Below w0.heap.size w0 w) (h : escaped_b k s a at_ all = some q) :
  Calls Tryd.prog 78 #[.pointer (some ⟨g, 0, none⟩), .int .i64 at_, .bool all] w fun e w' => Bad w0 w g q e w' := by
 unfold escaped_b at h
 replace h := Option.bind_eq_some_iff.mp h
 obtain ⟨⟨r, s', a'⟩, A0, h⟩ := h
 try simp only at h
 have HR := Ad.mk A0
 clear A0
 replace h := Option.bind_eq_some_iff.mp h
 obtain ⟨⟨bs, z⟩, A0, h⟩ := h
 try simp only at h
 have HP := Ad.mk A0
 clear A0
 by_cases c0 : z = 0
 ·rw [if_pos c0] at h; cases h
 rw [if_neg c0] at h
 obtain rfl := Option.some.inj h
 have c0b : (z != 0) = true := by simpa using c0
 clear c0 h
 have hr := HR.out
 unfold escaped_r at hr
 obtain ⟨c, A0, hr⟩ := Option.bind_eq_some_iff.mp hr
 have HC := Ad.mk A0
 clear A0 HR
 by_cases c117 : c = 117
 ·subst c117
  have HD := Ad.mk (show ls_digits.f k s (wrap64 (wrap64 (a + 1) + 1)) 4 = some (r, s', a') by simpa using hr)
  clear hr
  have HZ := Ad.mk (ZX.first hI hB)
  clear hI hB
  have hs0 := HZ.out.cell0
  have hs1 := HZ.out.cell1
  have hsf := HZ.out.frozen1
  go_enter Tryd.func78, Tryd.ntmps78
  go_wp2_with (first | (go_at_call 63; refine (ls_ch.calls g s (wrap64 (a + 1)) (wrap64 (a + 1)) 117 s (wrap64 (a + 1)) w0 _ ?side1 ?side2 (chv_f _ HC.out)).mono ?_; (case side1 => exact (ZX.st (w := w) z9_)); (case side2 => exact (ZX.below (w := w) (g := g) z9_)); rintro e wc ⟨rfl, h1, h2, h3⟩; have HZ1 := Ad.mk (ZX.call (w := w) (W' := wc) z9_ h1 h2 h3); clear h1 h2 h3 HZ; (try clear hs0); (try clear hs1); (try clear hsf); have hs0 := HZ1.out.cell0; have hs1 := HZ1.out.cell1; have hsf := HZ1.out.frozen1) | (go_at_call 85; refine (ls_digits.calls k g s (wrap64 (wrap64 (a + 1) + 1)) 4 r s' a' w0 _ ?side1 ?side2 HD.out).mono ?_; (case side1 => exact (ZX.st (w := w) z10_)); (case side2 => exact (ZX.below (w := w) (g := g) z10_)); rintro e wd ⟨rfl, h1, h2, h3⟩; have HZ2 := Ad.mk (ZX.call (w := w) (W' := wd) z10_ h1 h2 h3); clear h1 h2 h3 HZ1; (try clear hs0); (try clear hs1); (try clear hsf); have hs0 := HZ2.out.cell0; have hs1 := HZ2.out.cell1; have hsf := HZ2.out.frozen1) | (go_at_call 33; refine (utf_Put.calls _ bs z _ HP.out).mono ?_; rintro e wp ⟨v, rfl, hv, hb⟩; obtain ⟨A_, c_, rfl⟩ := Kd.R_slice hv; have HZP := Ad.mk (ZX.lower (w := w) (W' := wp) z35_ hb); clear hb hv) | (go_at_call 50; refine (wrong_fail g at_ _).mono ?_; rintro e wf ⟨rfl, rfl⟩))
  exact ⟨rfl, ZX.ends z36_⟩
 by_cases c85 : c = 85
 ·subst c85
  have HD := Ad.mk (show ls_digits.f k s (wrap64 (wrap64 (a + 1) + 1)) 8 = some (r, s', a') by simpa using hr)
  clear hr
  have HZ := Ad.mk (ZX.first hI hB)
  clear hI hB
  have hs0 := HZ.out.cell0
  have hs1 := HZ.out.cell1
  have hsf := HZ.out.frozen1
  go_enter Tryd.func78, Tryd.ntmps78
  go_wp2_with (first | (go_at_call 63; refine (ls_ch.calls g s (wrap64 (a + 1)) (wrap64 (a + 1)) 85 s (wrap64 (a + 1)) w0 _ ?side1 ?side2 (chv_f _ HC.out)).mono ?_; (case side1 => exact (ZX.st (w := w) z9_)); (case side2 => exact (ZX.below (w := w) (g := g) z9_)); rintro e wc ⟨rfl, h1, h2, h3⟩; have HZ1 := Ad.mk (ZX.call (w := w) (W' := wc) z9_ h1 h2 h3); clear h1 h2 h3 HZ; (try clear hs0); (try clear hs1); (try clear hsf); have hs0 := HZ1.out.cell0; have hs1 := HZ1.out.cell1; have hsf := HZ1.out.frozen1) | (go_at_call 85; refine (ls_digits.calls k g s (wrap64 (wrap64 (a + 1) + 1)) 8 r s' a' w0 _ ?side1 ?side2 HD.out).mono ?_; (case side1 => exact (ZX.st (w := w) z10_)); (case side2 => exact (ZX.below (w := w) (g := g) z10_)); rintro e wd ⟨rfl, h1, h2, h3⟩; have HZ2 := Ad.mk (ZX.call (w := w) (W' := wd) z10_ h1 h2 h3); clear h1 h2 h3 HZ1; (try clear hs0); (try clear hs1); (try clear hsf); have hs0 := HZ2.out.cell0; have hs1 := HZ2.out.cell1; have hsf := HZ2.out.frozen1) | (go_at_call 33; refine (utf_Put.calls _ bs z _ HP.out).mono ?_; rintro e wp ⟨v, rfl, hv, hb⟩; obtain ⟨A_, c_, rfl⟩ := Kd.R_slice hv; have HZP := Ad.mk (ZX.lower (w := w) (W' := wp) z35_ hb); clear hb hv) | (go_at_call 50; refine (wrong_fail g at_ _).mono ?_; rintro e wf ⟨rfl, rfl⟩))
  exact ⟨rfl, ZX.ends z36_⟩
 have c1 : (c == 117) = false := by simpa using c117
 have c2 : (c == 85) = false := by simpa using c85
 rw [if_neg c117, if_neg c85] at hr
 obtain ⟨i, A0, hr⟩ := Option.bind_eq_some_iff.mp hr
 have HIB := Ad.mk A0
 clear A0 c117 c85
 cases all with
 | false =>
  rw [if_neg (by simp)] at hr
  simp only [Option.some.injEq, Prod.mk.injEq] at hr
  obtain ⟨rfl, rfl, rfl⟩ := hr
  have HZ := Ad.mk (ZX.first hI hB)
  clear hI hB
  have hs0 := HZ.out.cell0
  have hs1 := HZ.out.cell1
  have hsf := HZ.out.frozen1
  go_enter Tryd.func78, Tryd.ntmps78
  go_wp2_with (first | (go_at_call 63; refine (ls_ch.calls g s (wrap64 (a + 1)) (wrap64 (a + 1)) c s (wrap64 (a + 1)) w0 _ ?side1 ?side2 (chv_f _ HC.out)).mono ?_; (case side1 => exact (ZX.st (w := w) z9_)); (case side2 => exact (ZX.below (w := w) (g := g) z9_)); rintro e wc ⟨rfl, h1, h2, h3⟩; have HZ1 := Ad.mk (ZX.call (w := w) (W' := wc) z9_ h1 h2 h3); clear h1 h2 h3 HZ; (try clear hs0); (try clear hs1); (try clear hsf); have hs0 := HZ1.out.cell0; have hs1 := HZ1.out.cell1; have hsf := HZ1.out.frozen1) | (go_at_call 62; (with_reducible refine (strings_IndexByte.calls (⟨#[116, 98, 110, 114, 102, 34, 39, 92]⟩ : ByteArray) c i _ HIB.out).mono ?_); rintro e wi ⟨rfl, ⟨nd, rfl⟩⟩) | (go_at_call 33; refine (utf_Put.calls _ bs z _ HP.out).mono ?_; rintro e wp ⟨v, rfl, hv, hb⟩; obtain ⟨A_, c_, rfl⟩ := Kd.R_slice hv; have HZP := Ad.mk (ZX.lower (w := w) (W' := wp) z10_ hb); clear hb hv) | (go_at_call 50; refine (wrong_fail g at_ _).mono ?_; rintro e wf ⟨rfl, rfl⟩))
  exact ⟨rfl, ZX.ends z36_⟩
 | true =>
  by_cases c3 : c > 0
  case neg =>
   rw [if_neg (by simp [c3])] at hr
   simp only [Option.some.injEq, Prod.mk.injEq] at hr
   obtain ⟨rfl, rfl, rfl⟩ := hr
   have c3b : decide (c > 0) = false := decide_eq_false c3
   have HZ := Ad.mk (ZX.first hI hB)
   clear hI hB
   have hs0 := HZ.out.cell0
   have hs1 := HZ.out.cell1
   have hsf := HZ.out.frozen1
   go_enter Tryd.func78, Tryd.ntmps78
   go_wp2_with (first | (go_at_call 63; refine (ls_ch.calls g s (wrap64 (a + 1)) (wrap64 (a + 1)) c s (wrap64 (a + 1)) w0 _ ?side1 ?side2 (chv_f _ HC.out)).mono ?_; (case side1 => exact (ZX.st (w := w) z9_)); (case side2 => exact (ZX.below (w := w) (g := g) z9_)); rintro e wc ⟨rfl, h1, h2, h3⟩; have HZ1 := Ad.mk (ZX.call (w := w) (W' := wc) z9_ h1 h2 h3); clear h1 h2 h3 HZ; (try clear hs0); (try clear hs1); (try clear hsf); have hs0 := HZ1.out.cell0; have hs1 := HZ1.out.cell1; have hsf := HZ1.out.frozen1) | (go_at_call 62; (with_reducible refine (strings_IndexByte.calls (⟨#[116, 98, 110, 114, 102, 34, 39, 92]⟩ : ByteArray) c i _ HIB.out).mono ?_); rintro e wi ⟨rfl, ⟨nd, rfl⟩⟩) | (go_at_call 33; refine (utf_Put.calls _ bs z _ HP.out).mono ?_; rintro e wp ⟨v, rfl, hv, hb⟩; obtain ⟨A_, c_, rfl⟩ := Kd.R_slice hv; have HZP := Ad.mk (ZX.lower (w := w) (W' := wp) z10_ hb); clear hb hv) | (go_at_call 50; refine (wrong_fail g at_ _).mono ?_; rintro e wf ⟨rfl, rfl⟩))
   exact ⟨rfl, ZX.ends z36_⟩
  by_cases c4 : i ≥ 0
  case neg =>
   rw [if_neg (by simp [c3, c4])] at hr
   simp only [Option.some.injEq, Prod.mk.injEq] at hr
   obtain ⟨rfl, rfl, rfl⟩ := hr
   have c3b : decide (c > 0) = true := decide_eq_true c3
   have c4b : decide (i ≥ 0) = false := decide_eq_false c4
   have HZ := Ad.mk (ZX.first hI hB)
   clear hI hB
   have hs0 := HZ.out.cell0
   have hs1 := HZ.out.cell1
   have hsf := HZ.out.frozen1
   go_enter Tryd.func78, Tryd.ntmps78
   go_wp2_with (first | (go_at_call 63; refine (ls_ch.calls g s (wrap64 (a + 1)) (wrap64 (a + 1)) c s (wrap64 (a + 1)) w0 _ ?side1 ?side2 (chv_f _ HC.out)).mono ?_; (case side1 => exact (ZX.st (w := w) z9_)); (case side2 => exact (ZX.below (w := w) (g := g) z9_)); rintro e wc ⟨rfl, h1, h2, h3⟩; have HZ1 := Ad.mk (ZX.call (w := w) (W' := wc) z9_ h1 h2 h3); clear h1 h2 h3 HZ; (try clear hs0); (try clear hs1); (try clear hsf); have hs0 := HZ1.out.cell0; have hs1 := HZ1.out.cell1; have hsf := HZ1.out.frozen1) | (go_at_call 62; (with_reducible refine (strings_IndexByte.calls (⟨#[116, 98, 110, 114, 102, 34, 39, 92]⟩ : ByteArray) c i _ HIB.out).mono ?_); rintro e wi ⟨rfl, ⟨nd, rfl⟩⟩) | (go_at_call 33; refine (utf_Put.calls _ bs z _ HP.out).mono ?_; rintro e wp ⟨v, rfl, hv, hb⟩; obtain ⟨A_, c_, rfl⟩ := Kd.R_slice hv; have HZP := Ad.mk (ZX.lower (w := w) (W' := wp) z10_ hb); clear hb hv) | (go_at_call 50; refine (wrong_fail g at_ _).mono ?_; rintro e wf ⟨rfl, rfl⟩))
   exact ⟨rfl, ZX.ends z36_⟩
  rw [if_pos ⟨rfl, c3, c4⟩] at hr
  by_cases c5 : i < 8
  case neg => rw [if_neg c5] at hr; cases hr
  rw [if_pos c5] at hr
  simp only [Option.some.injEq, Prod.mk.injEq] at hr
  obtain ⟨rfl, rfl, rfl⟩ := hr
  have c3b : decide (c > 0) = true := decide_eq_true c3
  have c4b : decide (i ≥ 0) = true := decide_eq_true c4
  have c4c : decide (0 ≤ i) = true := decide_eq_true c4
  have c4d : (0 ≤ i) = True := eq_true c4
  have c5b : decide (i < 8) = true := decide_eq_true c5
  have c5c : (i < 8) = True := eq_true c5
  have hx := bt_at (⟨#[9, 8, 10, 13, 12, 34, 39, 92]⟩ : ByteArray) i
  clear c3 c4 c5
  have HZ := Ad.mk (ZX.first hI hB)
  clear hI hB
  have hs0 := HZ.out.cell0
  have hs1 := HZ.out.cell1
  have hsf := HZ.out.frozen1
  go_enter Tryd.func78, Tryd.ntmps78
  go_wp2_with (first | (go_at_call 63; refine (ls_ch.calls g s (wrap64 (a + 1)) (wrap64 (a + 1)) c s (wrap64 (a + 1)) w0 _ ?side1 ?side2 (chv_f _ HC.out)).mono ?_; (case side1 => exact (ZX.st (w := w) z9_)); (case side2 => exact (ZX.below (w := w) (g := g) z9_)); rintro e wc ⟨rfl, h1, h2, h3⟩; have HZ1 := Ad.mk (ZX.call (w := w) (W' := wc) z9_ h1 h2 h3); clear h1 h2 h3 HZ; (try clear hs0); (try clear hs1); (try clear hsf); have hs0 := HZ1.out.cell0; have hs1 := HZ1.out.cell1; have hsf := HZ1.out.frozen1) | (go_at_call 62; (with_reducible refine (strings_IndexByte.calls (⟨#[116, 98, 110, 114, 102, 34, 39, 92]⟩ : ByteArray) c i _ HIB.out).mono ?_); rintro e wi ⟨rfl, ⟨nd, rfl⟩⟩) | (go_at_call 33; refine (utf_Put.calls _ bs z _ HP.out).mono ?_; rintro e wp ⟨v, rfl, hv, hb⟩; obtain ⟨A_, c_, rfl⟩ := Kd.R_slice hv; have HZP := Ad.mk (ZX.lower (w := w) (W' := wp) z10_ hb); clear hb hv) | (go_at_call 50; refine (wrong_fail g at_ _).mono ?_; rintro e wf ⟨rfl, rfl⟩))
  exact ⟨rfl, ZX.ends z36_⟩
structure QX (w0 w W : World) (g : Nat) (s : ByteArray) (a : Int) (v : Value) (xs : List Int) : Prop where
 z : ZX w0 w W g s a
 row : Kd.R (Kd.int .u8) 5 W w.heap.size (fun _ => True) v xs
 le : w0.heap.size ≤ w.heap.size
theorem QX.app {w0 w W W' : World} {g : Nat} {s : ByteArray} {a : Int} {v v1 : Value} {xs ys : List Int} (h : QX w0 w W g s a v xs) (ho : Kd.R (Kd.int .u8) 5 W' w.heap.size (fun _ => True) v1 ys) (hb : Below w.heap.size W W') (hg : W.grownBy W' v.ownBlock) : QX w0 w W' g s a v1 ys :=
 ⟨⟨h.z.st.grown hg (IsS65.own_ne h.z.st h.row (by decide)), below_weaken h.z.below h.le hb, h.z.keep.trans (KeepBut.of_grown hg g) (Kd.R_base2 h.row)⟩, ho, h.le⟩
theorem QX.esc {w0 w W W' : World} {g : Nat} {s s' : ByteArray} {a a' : Int} {v v1 : Value} {xs ys : List Int} (h : QX w0 w W g s a v xs) (ho : Kd.R (Kd.int .u8) 5 W' W.heap.size (fun _ => True) v1 ys) (h1 : IsS65 w0 W' g s' a') (h2 : Below w0.heap.size w0 W') (h3 : KeepBut W W' g none) : QX w0 w W' g s' a' v xs :=
 ⟨h.z.call h1 h2 h3, Kd.R_mono (Kd.R_oldK (IsS65.apart h.z.st h.row (by decide)) h3) (fun _ _ => trivial), h.le⟩
theorem QX.new {w0 w W W' : World} {g : Nat} {s : ByteArray} {a : Int} {v v1 : Value} {xs ys : List Int} (h : QX w0 w W g s a v xs) (ho : Kd.R (Kd.int .u8) 5 W' W.heap.size (fun _ => True) v1 ys) (h3 : KeepBut W W' g none) : Kd.R (Kd.int .u8) 5 W' w.heap.size (fun k => some k ≠ v1.ownBlock) v xs :=
 Kd.R_mono (Kd.R_told (Kd.R_oldK (IsS65.apart h.z.st h.row (by decide)) h3) (Kd.R_base ho)) (fun _ h_ => h_.1.2)
theorem QX.set {w0 w W : World} {g : Nat} {s : ByteArray} {a : Int} {v : Value} {xs : List Int} (h : QX w0 w W g s a v xs) (x : Int) : QX w0 w (W.setCell ⟨g, 1, none⟩ (.int .i64 x)) g s x v xs :=
 ⟨h.z.set x, Kd.R_mono (Kd.R_far (p := ⟨g, 1, none⟩) (IsS65.apart h.z.st h.row (by decide)) (fun _ hk => hk.2) _) (fun _ _ => trivial), h.le⟩
theorem QX.drewN {w0 w W : World} {g : Nat} {s : ByteArray} {a : Int} {v : Value} {xs : List Int} (h : QX w0 w W g s a v xs) (n : Nat) : QX w0 w (W.drewN n) g s a v xs := ⟨h.z.drewN n, Kd.R_drewN h.row n, h.le⟩
theorem QX.call {w0 w W W' : World} {g : Nat} {s s' : ByteArray} {a a' : Int} {v : Value} {xs : List Int} (h : QX w0 w W g s a v xs) (h1 : IsS65 w0 W' g s' a') (h2 : Below w0.heap.size w0 W') (h3 : KeepBut W W' g none) : QX w0 w W' g s' a' v xs :=
 ⟨h.z.call h1 h2 h3, Kd.R_mono (Kd.R_keep (IsS65.apart h.z.st h.row (by decide)) h3 (fun _ hk => hk.2)) (fun _ _ => trivial), h.le⟩
set_option maxHeartbeats 4000000 in
set_option maxRecDepth 100000 in
theorem quoted_bad (k : Nat) (g : Nat) (s : ByteArray) (a : Int) (en : Int) (all : Bool) (q : Int) (w0 w : World) (hI : IsS65 w0 w g s a) (hB : Below w0.heap.size w0 w) (h : quoted_b k s en all a 0 (wrap64 (a + 1)) = some q) :
  Calls Tryd.prog 64 #[.pointer (some ⟨g, 0, none⟩), .int .u8 en, .bool all] w fun e w' => Bad w0 w g q e w' := by
 have HZ := Ad.mk (ZX.first hI hB)
 have HW := Ad.mk hB.size
 have HE := Ad.mk h
 clear hI hB h
 have hs0 := HZ.out.cell0
 have hs1 := HZ.out.cell1
 have hsf := HZ.out.frozen1
 go_enter Tryd.func64, Tryd.ntmps64
 go_wp2
 clear hs0 hs1 hsf
 go_loopg [8] k (fun kq v8 w' => ∃ (xs : List Int) (c : Int), Ad (quoted_b kq s en all a xs.length c = some q) ∧ Ad (kq ≤ k) ∧ Ad (QX w0 w w' g s c v8 xs))
 case atStart => exact ⟨[], wrap64 (a + 1), HE, ⟨Nat.le_refl _⟩, ⟨⟨z9_, Kd.R_nil _ _ _ _ _, HW.out⟩⟩⟩
 case round =>
  clear HE HZ
  obtain ⟨xs, i, HA, HK1, HQ⟩ := hrel
  cases gk with
  | zero => exact absurd HA.out (by simp [quoted_b])
  | succ k1 =>
   have h := HA.out
   clear HA
   simp only [quoted_b] at h
   replace h := Option.bind_eq_some_iff.mp h
   obtain ⟨c, A0, h⟩ := h
   have HC := Ad.mk A0
   clear A0
   by_cases c0 : c = en
   ·rw [if_pos c0] at h; cases h
   rw [if_neg c0] at h
   have c0b : (c != en) = true := by simpa using c0
   have c0c : (c == en) = false := by simpa using c0
   clear c0
   have hs0 := HQ.out.z.cell0
   have hs1 := HQ.out.z.cell1
   have hsf := HQ.out.z.frozen1
   by_cases d1 : i ≥ (s.size : Int)
   ·rw [if_pos (.inl d1)] at h
    obtain rfl := Option.some.inj h
    clear h
    have d1b : decide (i ≥ (s.size : Int)) = true := decide_eq_true d1
    clear d1
    go_wp2_with (first | (go_at_call 63; refine (ls_ch.calls g s i i _ s i w0 _ HQ.out.z.st HQ.out.z.below (chv_f _ HC.out)).mono ?_; rintro e w1 ⟨rfl, h1, h2, h3⟩; have HQ1 := Ad.mk (QX.call HQ.out h1 h2 h3); clear h1 h2 h3 HQ; (try clear hs0); (try clear hs1); (try clear hsf); have hs0 := HQ1.out.z.cell0; have hs1 := HQ1.out.z.cell1; have hsf := HQ1.out.z.frozen1) | (go_at_call 63; refine (ls_ch.calls g s i i _ s i w0 _ HQ1.out.z.st HQ1.out.z.below (chv_f _ HC.out)).mono ?_; rintro e w2 ⟨rfl, h1, h2, h3⟩; have HQ2 := Ad.mk (QX.call HQ1.out h1 h2 h3); clear h1 h2 h3 HQ1; (try clear hs0); (try clear hs1); (try clear hsf); have hs0 := HQ2.out.z.cell0; have hs1 := HQ2.out.z.cell1; have hsf := HQ2.out.z.frozen1))
    repeat (go_quiet (fail); try go_wp2_with (first | (go_at_call 50; refine (wrong_fail g a _).mono ?_; rintro e wf ⟨rfl, rfl⟩)))
    exact ⟨rfl, ZX.ends (QX.z z13_)⟩
   have d1b : decide (i ≥ (s.size : Int)) = false := decide_eq_false d1
   by_cases d2 : all = true ∧ (c = 10 ∨ c = 13)
   ·rw [if_pos (.inr d2)] at h
    obtain ⟨rfl, d2⟩ := d2
    by_cases d3 : c = 10
    ·subst d3
     obtain rfl := Option.some.inj h
     clear h
     clear d1 d2
     go_wp2_with (first | (go_at_call 63; refine (ls_ch.calls g s i i _ s i w0 _ HQ.out.z.st HQ.out.z.below (chv_f _ HC.out)).mono ?_; rintro e w1 ⟨rfl, h1, h2, h3⟩; have HQ1 := Ad.mk (QX.call HQ.out h1 h2 h3); clear h1 h2 h3 HQ; (try clear hs0); (try clear hs1); (try clear hsf); have hs0 := HQ1.out.z.cell0; have hs1 := HQ1.out.z.cell1; have hsf := HQ1.out.z.frozen1) | (go_at_call 63; refine (ls_ch.calls g s i i _ s i w0 _ HQ1.out.z.st HQ1.out.z.below (chv_f _ HC.out)).mono ?_; rintro e w2 ⟨rfl, h1, h2, h3⟩; have HQ2 := Ad.mk (QX.call HQ1.out h1 h2 h3); clear h1 h2 h3 HQ1; (try clear hs0); (try clear hs1); (try clear hsf); have hs0 := HQ2.out.z.cell0; have hs1 := HQ2.out.z.cell1; have hsf := HQ2.out.z.frozen1))
     repeat (go_quiet (fail); try go_wp2_with (first | (go_at_call 50; refine (wrong_fail g a _).mono ?_; rintro e wf ⟨rfl, rfl⟩)))
     exact ⟨rfl, ZX.ends (QX.z z13_)⟩
    obtain rfl : c = 13 := by omega
    obtain rfl := Option.some.inj h
    clear h
    clear d1 d2 d3
    go_wp2_with (first | (go_at_call 63; refine (ls_ch.calls g s i i _ s i w0 _ HQ.out.z.st HQ.out.z.below (chv_f _ HC.out)).mono ?_; rintro e w1 ⟨rfl, h1, h2, h3⟩; have HQ1 := Ad.mk (QX.call HQ.out h1 h2 h3); clear h1 h2 h3 HQ; (try clear hs0); (try clear hs1); (try clear hsf); have hs0 := HQ1.out.z.cell0; have hs1 := HQ1.out.z.cell1; have hsf := HQ1.out.z.frozen1) | (go_at_call 63; refine (ls_ch.calls g s i i _ s i w0 _ HQ1.out.z.st HQ1.out.z.below (chv_f _ HC.out)).mono ?_; rintro e w2 ⟨rfl, h1, h2, h3⟩; have HQ2 := Ad.mk (QX.call HQ1.out h1 h2 h3); clear h1 h2 h3 HQ1; (try clear hs0); (try clear hs1); (try clear hsf); have hs0 := HQ2.out.z.cell0; have hs1 := HQ2.out.z.cell1; have hsf := HQ2.out.z.frozen1))
    repeat (go_quiet (fail); try go_wp2_with (first | (go_at_call 50; refine (wrong_fail g a _).mono ?_; rintro e wf ⟨rfl, rfl⟩)))
    exact ⟨rfl, ZX.ends (QX.z z13_)⟩
   rw [if_neg (fun hn => hn.elim d1 d2)] at h
   clear d1
   cases all with
   | false =>
    clear d2
    by_cases d4 : c = 92
    ·subst d4
     rw [if_pos rfl] at h
     cases hq : escaped_b k1 s i a false with
     | some q' =>
      rw [hq] at h
      obtain rfl := Option.some.inj h
      have HE := Ad.mk hq
      clear hq h
      go_wp2_with (first | (go_at_call 63; refine (ls_ch.calls g s i i _ s i w0 _ HQ.out.z.st HQ.out.z.below (chv_f _ HC.out)).mono ?_; rintro e w1 ⟨rfl, h1, h2, h3⟩; have HQ1 := Ad.mk (QX.call HQ.out h1 h2 h3); clear h1 h2 h3 HQ; (try clear hs0); (try clear hs1); (try clear hsf); have hs0 := HQ1.out.z.cell0; have hs1 := HQ1.out.z.cell1; have hsf := HQ1.out.z.frozen1) | (go_at_call 63; refine (ls_ch.calls g s i i _ s i w0 _ HQ1.out.z.st HQ1.out.z.below (chv_f _ HC.out)).mono ?_; rintro e w2 ⟨rfl, h1, h2, h3⟩; have HQ2 := Ad.mk (QX.call HQ1.out h1 h2 h3); clear h1 h2 h3 HQ1; (try clear hs0); (try clear hs1); (try clear hsf); have hs0 := HQ2.out.z.cell0; have hs1 := HQ2.out.z.cell1; have hsf := HQ2.out.z.frozen1))
      repeat (go_quiet (fail); try go_wp2_with (first | (go_at_call 78; refine (escaped_bad k1 g s i a false q' w0 _ ?side1 ?side2 HE.out).mono ?_; (case side1 => exact (QX.z (w := w) (v := _) z13_).st); (case side2 => exact (QX.z (w := w) (v := _) z13_).below); rintro e wf ⟨rfl, hb1, hb2⟩; have HBAD := Ad.mk (ZX.bad (w := w) (QX.z z13_) (show Bad w0 _ g q' _ wf from ⟨rfl, hb1, hb2⟩)); clear hb1 hb2)))
      exact ⟨rfl, HBAD.out⟩
     | none =>
      rw [hq] at h
      simp only at h
      clear hq
      replace h := Option.bind_eq_some_iff.mp h
      obtain ⟨⟨ys, s', i'⟩, A0, h⟩ := h
      simp only at h
      have HE := Ad.mk A0
      clear A0
      by_cases d5 : s' = s
      case neg => rw [if_neg d5] at h; cases h
      replace d5 := d5.symm
      subst d5
      rw [if_pos rfl] at h
      by_cases d6 : xs.length + ys.length < 140737488355328
      case neg => rw [if_neg d6] at h; cases h
      rw [if_pos d6] at h
      have LM := Ad.mk d6
      have HN := Ad.mk h
      clear d6 h
      go_wp2_with (first | (go_at_call 63; refine (ls_ch.calls g s i i _ s i w0 _ HQ.out.z.st HQ.out.z.below (chv_f _ HC.out)).mono ?_; rintro e w1 ⟨rfl, h1, h2, h3⟩; have HQ1 := Ad.mk (QX.call HQ.out h1 h2 h3); clear h1 h2 h3 HQ; (try clear hs0); (try clear hs1); (try clear hsf); have hs0 := HQ1.out.z.cell0; have hs1 := HQ1.out.z.cell1; have hsf := HQ1.out.z.frozen1) | (go_at_call 63; refine (ls_ch.calls g s i i _ s i w0 _ HQ1.out.z.st HQ1.out.z.below (chv_f _ HC.out)).mono ?_; rintro e w2 ⟨rfl, h1, h2, h3⟩; have HQ2 := Ad.mk (QX.call HQ1.out h1 h2 h3); clear h1 h2 h3 HQ1; (try clear hs0); (try clear hs1); (try clear hsf); have hs0 := HQ2.out.z.cell0; have hs1 := HQ2.out.z.cell1; have hsf := HQ2.out.z.frozen1))
      repeat (go_quiet (fail); try go_wp2_with (first | (go_at_call 78; refine (ls_escaped.calls k1 g s i a false ys s i' w0 _ ?side1 ?side2 HE.out).mono ?_; (case side1 => exact (QX.z (w := w) (v := _) z13_).st); (case side2 => exact (QX.z (w := w) (v := _) z13_).below); rintro e w3 ⟨v1, rfl, ho, h1, h2, h3⟩; have HQ3 := Ad.mk (QX.esc (w := w) z13_ ho h1 h2 h3); have HR3 := Ad.mk (QX.new (w := w) z13_ ho h3); have HO3 := Ad.mk ho; have HS3 := Ad.mk (Nat.le_trans (QX.z (w := w) z13_).keep.1 h3.1); obtain ⟨Ao, co, rfl⟩ := Kd.R_slice ho; clear ho h1 h2 h3 HQ2; (try clear hs0); (try clear hs1); (try clear hsf)) | ((with_reducible refine gate_builtin (b := .append) (xs := #[(.tmp 74), .tmp 78]) rfl ?_); at_builtin; refine Kd.R_append_rows (Kd.int .u8) w.heap.size rfl (.tmp 74) (.tmp 78) 40 5 (.int .u8 0) 1 rfl Tryd.underlying40 info5 rfl (by decide) (by omega) _ xs ys _ _ _ (fun k_ => some k_ ≠ (.slice Ao ys.length co : Value).ownBlock) (fun _ => False) rfl rfl ?aO ?aR (fun _ _ h => h) (fun _ h => h.elim) ?aF (Below.refl _ _) ?aS ?aL ?_; (case aR => exact (Kd.R_reads' HO3.out).2.2); (case aF => exact (fun k_ hk => Kd.fresh' (Kd.R_lt HO3.out) k_ hk)); (case aO => exact HR3.out); (case aS => exact HS3.out); (case aL => have := LM.out; omega); intro v2 w4 ho hb hg hat; have HQ4 := Ad.mk (QX.app HQ3.out (Kd.R_mono ho (fun _ _ => trivial)) hb hg); clear ho hb hg hat HQ3 HR3 HO3 HS3)))
      go_roundg k1
      case measure => have := HK1.out; omega
      case rel => exact ⟨xs ++ ys, i', ⟨z48_⟩, ⟨by have := HK1.out; omega⟩, HQ4⟩
    rw [if_neg d4] at h
    have d4b : (c == 92) = false := by simpa using d4
    clear d4
    by_cases d6 : xs.length < 140737488355328
    case neg => rw [if_neg d6] at h; cases h
    rw [if_pos d6] at h
    have LM := Ad.mk d6
    have HN := Ad.mk h
    clear d6 h
    go_wp2_with (first | (go_at_call 63; refine (ls_ch.calls g s i i _ s i w0 _ HQ.out.z.st HQ.out.z.below (chv_f _ HC.out)).mono ?_; rintro e w1 ⟨rfl, h1, h2, h3⟩; have HQ1 := Ad.mk (QX.call HQ.out h1 h2 h3); clear h1 h2 h3 HQ; (try clear hs0); (try clear hs1); (try clear hsf); have hs0 := HQ1.out.z.cell0; have hs1 := HQ1.out.z.cell1; have hsf := HQ1.out.z.frozen1) | (go_at_call 63; refine (ls_ch.calls g s i i _ s i w0 _ HQ1.out.z.st HQ1.out.z.below (chv_f _ HC.out)).mono ?_; rintro e w2 ⟨rfl, h1, h2, h3⟩; have HQ2 := Ad.mk (QX.call HQ1.out h1 h2 h3); clear h1 h2 h3 HQ1; (try clear hs0); (try clear hs1); (try clear hsf); have hs0 := HQ2.out.z.cell0; have hs1 := HQ2.out.z.cell1; have hsf := HQ2.out.z.frozen1))
    repeat (go_quiet (fail); try go_wp2_with (first | ((with_reducible refine gate_builtin (b := .append) (xs := #[(.tmp 35), .tmp 37]) rfl ?_); at_builtin; refine Kd.R_append (Kd.int .u8) w.heap.size rfl (.tmp 35) (.tmp 37) 40 5 (.int .u8 0) 1 rfl Tryd.underlying40 info5 rfl (by decide) (by omega) _ xs c [.int .u8 c] (fun _ => True) (fun _ => False) rfl rfl ?aP (fun _ hk => hk.elim) ?aF ?aO (Below.refl _ _) ?aS ?aL ?_; (case aP => exact rfl); (case aF => exact (fun _ _ => trivial)); (case aO => exact QX.row (w0 := w0) (g := g) (s := s) (a := i) z13_); (case aS => exact (QX.z (w0 := w0) (g := g) (s := s) (a := i) z13_).keep.1); (case aL => have := LM.out; omega); intro v2 w4 ho hb hg hat; have HQ4 := Ad.mk (QX.app (w0 := w0) (g := g) (s := s) (a := i) z13_ ho hb hg); clear ho hb hg hat HQ2; (try clear hs0); (try clear hs1); (try clear hsf); have hs0 := HQ4.out.z.cell0; have hs1 := HQ4.out.z.cell1; have hsf := HQ4.out.z.frozen1)))
    go_roundg k1
    case measure => have := HK1.out; omega
    case rel => exact ⟨xs ++ [c], wrap64 (i + 1), ⟨z48_⟩, ⟨by have := HK1.out; omega⟩, ⟨(by repeat (first | exact HQ4.out | apply QX.set | apply QX.drewN))⟩⟩
   | true =>
    have d2b : (c == 10) = false := by simpa using fun hc => d2 ⟨rfl, .inl hc⟩
    have d2c : (c == 13) = false := by simpa using fun hc => d2 ⟨rfl, .inr hc⟩
    clear d2
    by_cases d4 : c = 92
    ·subst d4
     rw [if_pos rfl] at h
     cases hq : escaped_b k1 s i a true with
     | some q' =>
      rw [hq] at h
      obtain rfl := Option.some.inj h
      have HE := Ad.mk hq
      clear hq h
      go_wp2_with (first | (go_at_call 63; refine (ls_ch.calls g s i i _ s i w0 _ HQ.out.z.st HQ.out.z.below (chv_f _ HC.out)).mono ?_; rintro e w1 ⟨rfl, h1, h2, h3⟩; have HQ1 := Ad.mk (QX.call HQ.out h1 h2 h3); clear h1 h2 h3 HQ; (try clear hs0); (try clear hs1); (try clear hsf); have hs0 := HQ1.out.z.cell0; have hs1 := HQ1.out.z.cell1; have hsf := HQ1.out.z.frozen1) | (go_at_call 63; refine (ls_ch.calls g s i i _ s i w0 _ HQ1.out.z.st HQ1.out.z.below (chv_f _ HC.out)).mono ?_; rintro e w2 ⟨rfl, h1, h2, h3⟩; have HQ2 := Ad.mk (QX.call HQ1.out h1 h2 h3); clear h1 h2 h3 HQ1; (try clear hs0); (try clear hs1); (try clear hsf); have hs0 := HQ2.out.z.cell0; have hs1 := HQ2.out.z.cell1; have hsf := HQ2.out.z.frozen1))
      repeat (go_quiet (fail); try go_wp2_with (first | (go_at_call 78; refine (escaped_bad k1 g s i a true q' w0 _ ?side1 ?side2 HE.out).mono ?_; (case side1 => exact (QX.z (w := w) (v := _) z13_).st); (case side2 => exact (QX.z (w := w) (v := _) z13_).below); rintro e wf ⟨rfl, hb1, hb2⟩; have HBAD := Ad.mk (ZX.bad (w := w) (QX.z z13_) (show Bad w0 _ g q' _ wf from ⟨rfl, hb1, hb2⟩)); clear hb1 hb2)))
      exact ⟨rfl, HBAD.out⟩
     | none =>
      rw [hq] at h
      simp only at h
      clear hq
      replace h := Option.bind_eq_some_iff.mp h
      obtain ⟨⟨ys, s', i'⟩, A0, h⟩ := h
      simp only at h
      have HE := Ad.mk A0
      clear A0
      by_cases d5 : s' = s
      case neg => rw [if_neg d5] at h; cases h
      replace d5 := d5.symm
      subst d5
      rw [if_pos rfl] at h
      by_cases d6 : xs.length + ys.length < 140737488355328
      case neg => rw [if_neg d6] at h; cases h
      rw [if_pos d6] at h
      have LM := Ad.mk d6
      have HN := Ad.mk h
      clear d6 h
      go_wp2_with (first | (go_at_call 63; refine (ls_ch.calls g s i i _ s i w0 _ HQ.out.z.st HQ.out.z.below (chv_f _ HC.out)).mono ?_; rintro e w1 ⟨rfl, h1, h2, h3⟩; have HQ1 := Ad.mk (QX.call HQ.out h1 h2 h3); clear h1 h2 h3 HQ; (try clear hs0); (try clear hs1); (try clear hsf); have hs0 := HQ1.out.z.cell0; have hs1 := HQ1.out.z.cell1; have hsf := HQ1.out.z.frozen1) | (go_at_call 63; refine (ls_ch.calls g s i i _ s i w0 _ HQ1.out.z.st HQ1.out.z.below (chv_f _ HC.out)).mono ?_; rintro e w2 ⟨rfl, h1, h2, h3⟩; have HQ2 := Ad.mk (QX.call HQ1.out h1 h2 h3); clear h1 h2 h3 HQ1; (try clear hs0); (try clear hs1); (try clear hsf); have hs0 := HQ2.out.z.cell0; have hs1 := HQ2.out.z.cell1; have hsf := HQ2.out.z.frozen1))
      repeat (go_quiet (fail); try go_wp2_with (first | (go_at_call 78; refine (ls_escaped.calls k1 g s i a true ys s i' w0 _ ?side1 ?side2 HE.out).mono ?_; (case side1 => exact (QX.z (w := w) (v := _) z13_).st); (case side2 => exact (QX.z (w := w) (v := _) z13_).below); rintro e w3 ⟨v1, rfl, ho, h1, h2, h3⟩; have HQ3 := Ad.mk (QX.esc (w := w) z13_ ho h1 h2 h3); have HR3 := Ad.mk (QX.new (w := w) z13_ ho h3); have HO3 := Ad.mk ho; have HS3 := Ad.mk (Nat.le_trans (QX.z (w := w) z13_).keep.1 h3.1); obtain ⟨Ao, co, rfl⟩ := Kd.R_slice ho; clear ho h1 h2 h3 HQ2; (try clear hs0); (try clear hs1); (try clear hsf)) | ((with_reducible refine gate_builtin (b := .append) (xs := #[(.tmp 74), .tmp 78]) rfl ?_); at_builtin; refine Kd.R_append_rows (Kd.int .u8) w.heap.size rfl (.tmp 74) (.tmp 78) 40 5 (.int .u8 0) 1 rfl Tryd.underlying40 info5 rfl (by decide) (by omega) _ xs ys _ _ _ (fun k_ => some k_ ≠ (.slice Ao ys.length co : Value).ownBlock) (fun _ => False) rfl rfl ?aO ?aR (fun _ _ h => h) (fun _ h => h.elim) ?aF (Below.refl _ _) ?aS ?aL ?_; (case aR => exact (Kd.R_reads' HO3.out).2.2); (case aF => exact (fun k_ hk => Kd.fresh' (Kd.R_lt HO3.out) k_ hk)); (case aO => exact HR3.out); (case aS => exact HS3.out); (case aL => have := LM.out; omega); intro v2 w4 ho hb hg hat; have HQ4 := Ad.mk (QX.app HQ3.out (Kd.R_mono ho (fun _ _ => trivial)) hb hg); clear ho hb hg hat HQ3 HR3 HO3 HS3)))
      go_roundg k1
      case measure => have := HK1.out; omega
      case rel => exact ⟨xs ++ ys, i', ⟨z48_⟩, ⟨by have := HK1.out; omega⟩, HQ4⟩
    rw [if_neg d4] at h
    have d4b : (c == 92) = false := by simpa using d4
    clear d4
    by_cases d6 : xs.length < 140737488355328
    case neg => rw [if_neg d6] at h; cases h
    rw [if_pos d6] at h
    have LM := Ad.mk d6
    have HN := Ad.mk h
    clear d6 h
    go_wp2_with (first | (go_at_call 63; refine (ls_ch.calls g s i i _ s i w0 _ HQ.out.z.st HQ.out.z.below (chv_f _ HC.out)).mono ?_; rintro e w1 ⟨rfl, h1, h2, h3⟩; have HQ1 := Ad.mk (QX.call HQ.out h1 h2 h3); clear h1 h2 h3 HQ; (try clear hs0); (try clear hs1); (try clear hsf); have hs0 := HQ1.out.z.cell0; have hs1 := HQ1.out.z.cell1; have hsf := HQ1.out.z.frozen1) | (go_at_call 63; refine (ls_ch.calls g s i i _ s i w0 _ HQ1.out.z.st HQ1.out.z.below (chv_f _ HC.out)).mono ?_; rintro e w2 ⟨rfl, h1, h2, h3⟩; have HQ2 := Ad.mk (QX.call HQ1.out h1 h2 h3); clear h1 h2 h3 HQ1; (try clear hs0); (try clear hs1); (try clear hsf); have hs0 := HQ2.out.z.cell0; have hs1 := HQ2.out.z.cell1; have hsf := HQ2.out.z.frozen1))
    repeat (go_quiet (fail); try go_wp2_with (first | ((with_reducible refine gate_builtin (b := .append) (xs := #[(.tmp 35), .tmp 37]) rfl ?_); at_builtin; refine Kd.R_append (Kd.int .u8) w.heap.size rfl (.tmp 35) (.tmp 37) 40 5 (.int .u8 0) 1 rfl Tryd.underlying40 info5 rfl (by decide) (by omega) _ xs c [.int .u8 c] (fun _ => True) (fun _ => False) rfl rfl ?aP (fun _ hk => hk.elim) ?aF ?aO (Below.refl _ _) ?aS ?aL ?_; (case aP => exact rfl); (case aF => exact (fun _ _ => trivial)); (case aO => exact QX.row (w0 := w0) (g := g) (s := s) (a := i) z13_); (case aS => exact (QX.z (w0 := w0) (g := g) (s := s) (a := i) z13_).keep.1); (case aL => have := LM.out; omega); intro v2 w4 ho hb hg hat; have HQ4 := Ad.mk (QX.app (w0 := w0) (g := g) (s := s) (a := i) z13_ ho hb hg); clear ho hb hg hat HQ2; (try clear hs0); (try clear hs1); (try clear hsf); have hs0 := HQ4.out.z.cell0; have hs1 := HQ4.out.z.cell1; have hsf := HQ4.out.z.frozen1)))
    go_roundg k1
    case measure => have := HK1.out; omega
    case rel => exact ⟨xs ++ [c], wrap64 (i + 1), ⟨z48_⟩, ⟨by have := HK1.out; omega⟩, ⟨(by repeat (first | exact HQ4.out | apply QX.set | apply QX.drewN))⟩⟩
set_option maxHeartbeats 4000000 in
set_option maxRecDepth 100000 in
theorem iri_bad (k : Nat) (g : Nat) (s : ByteArray) (a : Int) (q : Int) (w0 w : World) (hI : IsS65 w0 w g s a) (hB : Below w0.heap.size w0 w) (h : iri_b k s a = some q) :
  Calls Tryd.prog 43 #[.pointer (some ⟨g, 0, none⟩)] w fun e w' => Bad w0 w g q e w' := by
 unfold iri_b at h
 replace h := Option.bind_eq_some_iff.mp h
 obtain ⟨c, A0, h⟩ := h
 try simp only at h
 have HC := Ad.mk A0
 clear A0
 by_cases c0 : c = 60
 case neg => rw [if_neg c0] at h; cases h
 subst c0
 rw [if_pos rfl] at h
 cases hq : quoted_b k s 62 false a 0 (wrap64 (a + 1)) with
 | some q' =>
  rw [hq] at h
  obtain rfl := Option.some.inj h
  have HE := Ad.mk hq
  clear hq h
  go_enter Tryd.func43, Tryd.ntmps43
  go_wp2_with (first | ((with_reducible refine gate_dst (N := 2) rfl ?_); refine box_event r1_ (N := 2) r1_ (cs := #[.int .i64 0, .string ⟨#[]⟩, .int .i64 0, .string ⟨#[]⟩, .string ⟨#[]⟩, .int .i64 0]) (t := 56) r2_ ?_; intro gb hgb wb hbox hb; have HZ := Ad.mk ((ZX.first hI hB).lower hb); clear hgb hbox hb; (try clear hs0); (try clear hs1); (try clear hsf); have hs0 := HZ.out.cell0; have hs1 := HZ.out.cell1; have hsf := HZ.out.frozen1) | (have hgd_ := HZ; clear hgd_; go_at_call 63; refine (ls_ch.calls g s a (a) _ s a w0 _ ?side1 ?side2 (chv_f _ HC.out)).mono ?_; (case side1 => exact (ZX.st (w := w) z9_)); (case side2 => exact (ZX.below (w := w) (g := g) z9_)); rintro e wc ⟨rfl, h1, h2, h3⟩; have HZ1 := Ad.mk (ZX.call (w := w) (W' := wc) z9_ h1 h2 h3); clear h1 h2 h3 HZ; (try clear hs0); (try clear hs1); (try clear hsf); have hs0 := HZ1.out.cell0; have hs1 := HZ1.out.cell1; have hsf := HZ1.out.frozen1) | (have hgd_ := HZ1; clear hgd_; go_at_call 64; refine (quoted_bad k g s a 62 false q' w0 _ ?side1 ?side2 HE.out).mono ?_; (case side1 => exact (ZX.st (w := w) z10_)); (case side2 => exact (ZX.below (w := w) (g := g) z10_)); rintro e wf ⟨rfl, hb1, hb2⟩; have HBAD := Ad.mk (ZX.bad (w := w) z10_ (show Bad w0 _ g q' _ wf from ⟨rfl, hb1, hb2⟩)); clear hb1 hb2))
  exact ⟨rfl, HBAD.out⟩
 | none =>
  rw [hq] at h
  simp only at h
  clear hq
  replace h := Option.bind_eq_some_iff.mp h
  obtain ⟨⟨t, s', a'⟩, A0, h⟩ := h
  try simp only at h
  have HE := Ad.mk A0
  clear A0
  replace h := Option.bind_eq_some_iff.mp h
  obtain ⟨m, A0, h⟩ := h
  try simp only at h
  have HM := Ad.mk A0
  clear A0
  cases m with
  | true => rw [if_pos rfl] at h; cases h
  | false =>
   rw [if_neg (by decide)] at h
   obtain rfl := Option.some.inj h
   clear h
   go_enter Tryd.func43, Tryd.ntmps43
   go_wp2_with (first | ((with_reducible refine gate_dst (N := 2) rfl ?_); refine box_event r1_ (N := 2) r1_ (cs := #[.int .i64 0, .string ⟨#[]⟩, .int .i64 0, .string ⟨#[]⟩, .string ⟨#[]⟩, .int .i64 0]) (t := 56) r2_ ?_; intro gb hgb wb hbox hb; have HZ := Ad.mk ((ZX.first hI hB).lower hb); clear hgb hbox hb; (try clear hs0); (try clear hs1); (try clear hsf); have hs0 := HZ.out.cell0; have hs1 := HZ.out.cell1; have hsf := HZ.out.frozen1) | (have hgd_ := HZ; clear hgd_; go_at_call 63; refine (ls_ch.calls g s a (a) _ s a w0 _ ?side1 ?side2 (chv_f _ HC.out)).mono ?_; (case side1 => exact (ZX.st (w := w) z9_)); (case side2 => exact (ZX.below (w := w) (g := g) z9_)); rintro e wc ⟨rfl, h1, h2, h3⟩; have HZ1 := Ad.mk (ZX.call (w := w) (W' := wc) z9_ h1 h2 h3); clear h1 h2 h3 HZ; (try clear hs0); (try clear hs1); (try clear hsf); have hs0 := HZ1.out.cell0; have hs1 := HZ1.out.cell1; have hsf := HZ1.out.frozen1) | (have hgd_ := HZ1; clear hgd_; go_at_call 64; refine (ls_quoted.calls k g s a 62 false t s' a' w0 _ ?side1 ?side2 HE.out).mono ?_; (case side1 => exact (ZX.st (w := w) z10_)); (case side2 => exact (ZX.below (w := w) (g := g) z10_)); rintro e wq ⟨rfl, h1, h2, h3⟩; have HZ2 := Ad.mk (ZX.call (w := w) (W' := wq) z10_ h1 h2 h3); clear h1 h2 h3 HZ1; (try clear hs0); (try clear hs1); (try clear hsf); have hs0 := HZ2.out.cell0; have hs1 := HZ2.out.cell1; have hsf := HZ2.out.frozen1) | ((with_reducible refine gate_dst (N := 5) rfl ?_); refine box_event r1_ (N := 5) r1_ (cs := #[.int .i64 0, .string ⟨#[]⟩, .string ⟨#[]⟩]) (t := 36) r2_ ?_; intro gx hgx wx hx hb; have HX := Ad.mk (show Below _ _ wx ∧ gx = _ ∧ wx.heap[gx]? = some (.cells #[.int .i64 0, .string ⟨#[]⟩, .string ⟨#[]⟩] 36 (0, 0)) from ⟨hb, hgx, hx⟩); clear hgx hx hb; (try clear hs0); (try clear hs1); (try clear hsf)) | ((with_reducible refine gate_store (t := 36) (p := 5) rfl ?_); refine store_seg (gy := gx) (j := 0) (T := 36) (TB := 36) (cs := #[.int .i64 0, .string ⟨#[]⟩, .string ⟨#[]⟩]) (new := #[.int .i64 1, .string t, .string ⟨#[]⟩]) (u := .agg #[.int .i64 1, .string t, .string ⟨#[]⟩]) (seg := [.int .i64 1, .string t, .string ⟨#[]⟩]) rfl (p := .tmp 5) (x := .tmp 20) rfl rfl r1_ r1_ r1_ HX.out.2.2 k1_ s1_ h1_ rfl ?_; intro wy hz hup; have HZ3 := Ad.mk (ZX.lower (w := w) (W' := wy) z35_ (HX.out.1.trans (hup.below (Nat.le_of_eq HX.out.2.1.symm)))); have HV := Ad.mk hz; clear hup hz HX HZ2; have hs0 := HZ3.out.cell0; have hs1 := HZ3.out.cell1; have hsf := HZ3.out.frozen1; have hv0 := (blk_cell HV.out 0).trans (show _ = some (.int .i64 1) from rfl); have hv1 := (blk_cell HV.out 1).trans (show _ = some (.string t) from rfl); have hv2 := (blk_cell HV.out 2).trans (show _ = some (.string ⟨#[]⟩) from rfl)) | (go_at_call 28; refine (term_May.calls k 1 t (⟨#[]⟩ : ByteArray) false _ HM.out).mono ?_; rintro e wm ⟨rfl, hb⟩; have HZ4 := Ad.mk (ZX.lower (w := w) (W' := wm) z51_ hb); clear hb) | (go_at_call 50; refine (wrong_fail g a _).mono ?_; rintro e wf ⟨rfl, rfl⟩))
   exact ⟨rfl, ZX.ends (by repeat (first | exact HZ4.out | apply ZX.set | apply ZX.drewN | apply ZX.alloc))⟩
set_option maxHeartbeats 4000000 in
set_option maxRecDepth 100000 in
theorem text_bad (k : Nat) (g : Nat) (s : ByteArray) (a : Int) (q : Int) (w0 w : World) (hI : IsS65 w0 w g s a) (hB : Below w0.heap.size w0 w) (h : text_b k s a = some q) :
  Calls Tryd.prog 45 #[.pointer (some ⟨g, 0, none⟩)] w fun e w' => Bad w0 w g q e w' := by
 unfold text_b at h
 replace h := Option.bind_eq_some_iff.mp h
 obtain ⟨c, A0, h⟩ := h
 try simp only at h
 have HC := Ad.mk A0
 clear A0
 by_cases c0 : c = 34
 case neg => rw [if_neg c0] at h; cases h
 subst c0
 rw [if_pos rfl] at h
 have HE := Ad.mk h
 clear h
 go_enter Tryd.func45, Tryd.ntmps45
 go_wp2_with (first | ((with_reducible refine gate_dst (N := 2) rfl ?_); refine box_event r1_ (N := 2) r1_ (cs := #[.int .i64 0, .string ⟨#[]⟩, .int .i64 0, .string ⟨#[]⟩, .string ⟨#[]⟩, .int .i64 0]) (t := 56) r2_ ?_; intro gb hgb wb hbox hb; have HZ := Ad.mk ((ZX.first hI hB).lower hb); clear hgb hbox hb; (try clear hs0); (try clear hs1); (try clear hsf); have hs0 := HZ.out.cell0; have hs1 := HZ.out.cell1; have hsf := HZ.out.frozen1) | (have hgd_ := HZ; clear hgd_; go_at_call 63; refine (ls_ch.calls g s a (a) _ s a w0 _ ?side1 ?side2 (chv_f _ HC.out)).mono ?_; (case side1 => exact (ZX.st (w := w) z9_)); (case side2 => exact (ZX.below (w := w) (g := g) z9_)); rintro e wc ⟨rfl, h1, h2, h3⟩; have HZ1 := Ad.mk (ZX.call (w := w) (W' := wc) z9_ h1 h2 h3); clear h1 h2 h3 HZ; (try clear hs0); (try clear hs1); (try clear hsf); have hs0 := HZ1.out.cell0; have hs1 := HZ1.out.cell1; have hsf := HZ1.out.frozen1) | (have hgd_ := HZ1; clear hgd_; go_at_call 64; refine (quoted_bad k g s a 34 true q w0 _ ?side1 ?side2 HE.out).mono ?_; (case side1 => exact (ZX.st (w := w) z10_)); (case side2 => exact (ZX.below (w := w) (g := g) z10_)); rintro e wf ⟨rfl, hb1, hb2⟩; have HBAD := Ad.mk (ZX.bad (w := w) z10_ (show Bad w0 _ g q _ wf from ⟨rfl, hb1, hb2⟩)); clear hb1 hb2))
 exact ⟨rfl, HBAD.out⟩
set_option maxHeartbeats 4000000 in
set_option maxRecDepth 100000 in
theorem lang_bad (k : Nat) (g : Nat) (s : ByteArray) (a : Int) (q : Int) (w0 w : World) (hI : IsS65 w0 w g s a) (hB : Below w0.heap.size w0 w) (h : lang_b k s a = some q) :
  Calls Tryd.prog 46 #[.pointer (some ⟨g, 0, none⟩)] w fun e w' => Bad w0 w g q e w' := by
 unfold lang_b at h
 replace h := Option.bind_eq_some_iff.mp h
 obtain ⟨c, A0, h⟩ := h
 try simp only at h
 have HC := Ad.mk A0
 clear A0
 by_cases c0 : c = 64
 case neg => rw [if_neg c0] at h; cases h
 subst c0
 rw [if_pos rfl] at h
 cases hq : run_b k s (wrap64 (a + 1)) a 35 67 with
 | some q' =>
  rw [hq] at h
  obtain rfl := Option.some.inj h
  have HE := Ad.mk hq
  clear hq h
  go_enter Tryd.func46, Tryd.ntmps46
  go_wp2_with (first | ((with_reducible refine gate_dst (N := 2) rfl ?_); refine box_event r1_ (N := 2) r1_ (cs := #[.int .i64 0, .string ⟨#[]⟩, .int .i64 0, .string ⟨#[]⟩, .string ⟨#[]⟩, .int .i64 0]) (t := 56) r2_ ?_; intro gb hgb wb hbox hb; have HZ := Ad.mk ((ZX.first hI hB).lower hb); clear hgb hbox hb; (try clear hs0); (try clear hs1); (try clear hsf); have hs0 := HZ.out.cell0; have hs1 := HZ.out.cell1; have hsf := HZ.out.frozen1) | (have hgd_ := HZ; clear hgd_; go_at_call 63; refine (ls_ch.calls g s a (a) _ s a w0 _ ?side1 ?side2 (chv_f _ HC.out)).mono ?_; (case side1 => exact (ZX.st (w := w) z9_)); (case side2 => exact (ZX.below (w := w) (g := g) z9_)); rintro e wc ⟨rfl, h1, h2, h3⟩; have HZ1 := Ad.mk (ZX.call (w := w) (W' := wc) z9_ h1 h2 h3); clear h1 h2 h3 HZ; (try clear hs0); (try clear hs1); (try clear hsf); have hs0 := HZ1.out.cell0; have hs1 := HZ1.out.cell1; have hsf := HZ1.out.frozen1) | (have hgd_ := HZ1; clear hgd_; go_at_call 65; refine (run_bad k g s (wrap64 (a + 1)) a 35 67 q' w0 _ ?side1 ?side2 HE.out).mono ?_; (case side1 => exact (ZX.st (w := w) z10_)); (case side2 => exact (ZX.below (w := w) (g := g) z10_)); rintro e wf ⟨rfl, hb1, hb2⟩; have HBAD := Ad.mk (ZX.bad (w := w) z10_ (show Bad w0 _ g q' _ wf from ⟨rfl, hb1, hb2⟩)); clear hb1 hb2))
  exact ⟨rfl, HBAD.out⟩
 | none =>
  rw [hq] at h
  simp only at h
  clear hq
  replace h := Option.bind_eq_some_iff.mp h
  obtain ⟨⟨t, s', a'⟩, A0, h⟩ := h
  try simp only at h
  have HE := Ad.mk A0
  clear A0
  replace h := Option.bind_eq_some_iff.mp h
  obtain ⟨m, A0, h⟩ := h
  try simp only at h
  have HM := Ad.mk A0
  clear A0
  cases m with
  | true => rw [if_pos rfl] at h; cases h
  | false =>
   rw [if_neg (by decide)] at h
   obtain rfl := Option.some.inj h
   clear h
   go_enter Tryd.func46, Tryd.ntmps46
   go_wp2_with (first | ((with_reducible refine gate_dst (N := 2) rfl ?_); refine box_event r1_ (N := 2) r1_ (cs := #[.int .i64 0, .string ⟨#[]⟩, .int .i64 0, .string ⟨#[]⟩, .string ⟨#[]⟩, .int .i64 0]) (t := 56) r2_ ?_; intro gb hgb wb hbox hb; have HZ := Ad.mk ((ZX.first hI hB).lower hb); clear hgb hbox hb; (try clear hs0); (try clear hs1); (try clear hsf); have hs0 := HZ.out.cell0; have hs1 := HZ.out.cell1; have hsf := HZ.out.frozen1) | (have hgd_ := HZ; clear hgd_; go_at_call 63; refine (ls_ch.calls g s a (a) _ s a w0 _ ?side1 ?side2 (chv_f _ HC.out)).mono ?_; (case side1 => exact (ZX.st (w := w) z9_)); (case side2 => exact (ZX.below (w := w) (g := g) z9_)); rintro e wc ⟨rfl, h1, h2, h3⟩; have HZ1 := Ad.mk (ZX.call (w := w) (W' := wc) z9_ h1 h2 h3); clear h1 h2 h3 HZ; (try clear hs0); (try clear hs1); (try clear hsf); have hs0 := HZ1.out.cell0; have hs1 := HZ1.out.cell1; have hsf := HZ1.out.frozen1) | (have hgd_ := HZ1; clear hgd_; go_at_call 65; refine (ls_run.calls k g s (wrap64 (a + 1)) a 35 67 t s' a' w0 _ ?side1 ?side2 HE.out).mono ?_; (case side1 => exact (ZX.st (w := w) z10_)); (case side2 => exact (ZX.below (w := w) (g := g) z10_)); rintro e wr ⟨rfl, h1, h2, h3⟩; have HZ2 := Ad.mk (ZX.call (w := w) (W' := wr) z10_ h1 h2 h3); clear h1 h2 h3 HZ1; (try clear hs0); (try clear hs1); (try clear hsf); have hs0 := HZ2.out.cell0; have hs1 := HZ2.out.cell1; have hsf := HZ2.out.frozen1) | (go_at_call 28; refine (term_May.calls k 4 (⟨#[]⟩ : ByteArray) t false _ HM.out).mono ?_; rintro e wm ⟨rfl, hb⟩; have HZ3 := Ad.mk (ZX.lower (w := w) (W' := wm) z35_ hb); clear hb) | (go_at_call 50; refine (wrong_fail g a _).mono ?_; rintro e wf ⟨rfl, rfl⟩))
   exact ⟨rfl, ZX.ends z51_⟩
set_option maxHeartbeats 4000000 in
set_option maxRecDepth 100000 in
theorem variable_bad (k : Nat) (g : Nat) (s : ByteArray) (a : Int) (q : Int) (w0 w : World) (hI : IsS65 w0 w g s a) (hB : Below w0.heap.size w0 w) (h : variable_b k s a = some q) :
  Calls Tryd.prog 47 #[.pointer (some ⟨g, 0, none⟩)] w fun e w' => Bad w0 w g q e w' := by
 unfold variable_b at h
 replace h := Option.bind_eq_some_iff.mp h
 obtain ⟨c, A0, h⟩ := h
 try simp only at h
 have HC := Ad.mk A0
 clear A0
 by_cases c0 : c = 63
 case neg => rw [if_neg c0] at h; cases h
 subst c0
 rw [if_pos rfl] at h
 cases hq : run_b k s (wrap64 (a + 1)) a 32 66 with
 | some q' =>
  rw [hq] at h
  obtain rfl := Option.some.inj h
  have HE := Ad.mk hq
  clear hq h
  go_enter Tryd.func47, Tryd.ntmps47
  go_wp2_with (first | ((with_reducible refine gate_dst (N := 2) rfl ?_); refine box_event r1_ (N := 2) r1_ (cs := #[.int .i64 0, .string ⟨#[]⟩, .int .i64 0, .string ⟨#[]⟩, .string ⟨#[]⟩, .int .i64 0]) (t := 56) r2_ ?_; intro gb hgb wb hbox hb; have HZ := Ad.mk ((ZX.first hI hB).lower hb); clear hgb hbox hb; (try clear hs0); (try clear hs1); (try clear hsf); have hs0 := HZ.out.cell0; have hs1 := HZ.out.cell1; have hsf := HZ.out.frozen1) | (have hgd_ := HZ; clear hgd_; go_at_call 63; refine (ls_ch.calls g s a (a) _ s a w0 _ ?side1 ?side2 (chv_f _ HC.out)).mono ?_; (case side1 => exact (ZX.st (w := w) z9_)); (case side2 => exact (ZX.below (w := w) (g := g) z9_)); rintro e wc ⟨rfl, h1, h2, h3⟩; have HZ1 := Ad.mk (ZX.call (w := w) (W' := wc) z9_ h1 h2 h3); clear h1 h2 h3 HZ; (try clear hs0); (try clear hs1); (try clear hsf); have hs0 := HZ1.out.cell0; have hs1 := HZ1.out.cell1; have hsf := HZ1.out.frozen1) | (have hgd_ := HZ1; clear hgd_; go_at_call 65; refine (run_bad k g s (wrap64 (a + 1)) a 32 66 q' w0 _ ?side1 ?side2 HE.out).mono ?_; (case side1 => exact (ZX.st (w := w) z10_)); (case side2 => exact (ZX.below (w := w) (g := g) z10_)); rintro e wf ⟨rfl, hb1, hb2⟩; have HBAD := Ad.mk (ZX.bad (w := w) z10_ (show Bad w0 _ g q' _ wf from ⟨rfl, hb1, hb2⟩)); clear hb1 hb2))
  exact ⟨rfl, HBAD.out⟩
 | none =>
  rw [hq] at h
  simp only at h
  clear hq
  replace h := Option.bind_eq_some_iff.mp h
  obtain ⟨⟨t, s', a'⟩, A0, h⟩ := h
  try simp only at h
  have HE := Ad.mk A0
  clear A0
  by_cases ct : t.toList = ([] : List UInt8)
  case neg => rw [if_neg ct] at h; cases h
  rw [if_pos ct] at h
  obtain rfl := Option.some.inj h
  clear h
  have ct1 : t.toList.isEmpty = true := by rw [ct]; rfl
  have ct2 : (!t.toList.isEmpty) = false := by rw [ct]; rfl
  have ct3 : (t.toList == ([] : List UInt8)) = true := by rw [ct]; rfl
  go_enter Tryd.func47, Tryd.ntmps47
  go_wp2_with (first | ((with_reducible refine gate_dst (N := 2) rfl ?_); refine box_event r1_ (N := 2) r1_ (cs := #[.int .i64 0, .string ⟨#[]⟩, .int .i64 0, .string ⟨#[]⟩, .string ⟨#[]⟩, .int .i64 0]) (t := 56) r2_ ?_; intro gb hgb wb hbox hb; have HZ := Ad.mk ((ZX.first hI hB).lower hb); clear hgb hbox hb; (try clear hs0); (try clear hs1); (try clear hsf); have hs0 := HZ.out.cell0; have hs1 := HZ.out.cell1; have hsf := HZ.out.frozen1) | (have hgd_ := HZ; clear hgd_; go_at_call 63; refine (ls_ch.calls g s a (a) _ s a w0 _ ?side1 ?side2 (chv_f _ HC.out)).mono ?_; (case side1 => exact (ZX.st (w := w) z9_)); (case side2 => exact (ZX.below (w := w) (g := g) z9_)); rintro e wc ⟨rfl, h1, h2, h3⟩; have HZ1 := Ad.mk (ZX.call (w := w) (W' := wc) z9_ h1 h2 h3); clear h1 h2 h3 HZ; (try clear hs0); (try clear hs1); (try clear hsf); have hs0 := HZ1.out.cell0; have hs1 := HZ1.out.cell1; have hsf := HZ1.out.frozen1) | (have hgd_ := HZ1; clear hgd_; go_at_call 65; refine (ls_run.calls k g s (wrap64 (a + 1)) a 32 66 t s' a' w0 _ ?side1 ?side2 HE.out).mono ?_; (case side1 => exact (ZX.st (w := w) z10_)); (case side2 => exact (ZX.below (w := w) (g := g) z10_)); rintro e wr ⟨rfl, h1, h2, h3⟩; have HZ2 := Ad.mk (ZX.call (w := w) (W' := wr) z10_ h1 h2 h3); clear h1 h2 h3 HZ1; (try clear hs0); (try clear hs1); (try clear hsf); have hs0 := HZ2.out.cell0; have hs1 := HZ2.out.cell1; have hsf := HZ2.out.frozen1) | (go_at_call 50; refine (wrong_fail g a _).mono ?_; rintro e wf ⟨rfl, rfl⟩))
  exact ⟨rfl, ZX.ends z35_⟩
set_option maxHeartbeats 4000000 in
set_option maxRecDepth 100000 in
theorem blank_bad (k : Nat) (g : Nat) (s : ByteArray) (a : Int) (q : Int) (w0 w : World) (hI : IsS65 w0 w g s a) (hB : Below w0.heap.size w0 w) (h : blank_b k s a = some q) :
  Calls Tryd.prog 44 #[.pointer (some ⟨g, 0, none⟩)] w fun e w' => Bad w0 w g q e w' := by
 unfold blank_b at h
 replace h := Option.bind_eq_some_iff.mp h
 obtain ⟨c, A0, h⟩ := h
 try simp only at h
 have HC := Ad.mk A0
 clear A0
 by_cases c0 : c = 95
 case neg => rw [if_neg c0] at h; cases h
 subst c0
 rw [if_pos rfl] at h
 replace h := Option.bind_eq_some_iff.mp h
 obtain ⟨d, A0, h⟩ := h
 try simp only at h
 have HD := Ad.mk A0
 clear A0
 by_cases c1 : d = 58
 case neg => rw [if_neg c1] at h; cases h
 subst c1
 rw [if_pos rfl] at h
 cases hq : run_b k s (wrap64 (a + 2)) a 64 66 with
 | some q' =>
  rw [hq] at h
  obtain rfl := Option.some.inj h
  have HE := Ad.mk hq
  clear hq h
  go_enter Tryd.func44, Tryd.ntmps44
  go_wp2_with (first | ((with_reducible refine gate_dst (N := 2) rfl ?_); refine box_event r1_ (N := 2) r1_ (cs := #[.int .i64 0, .string ⟨#[]⟩, .int .i64 0, .string ⟨#[]⟩, .string ⟨#[]⟩, .int .i64 0]) (t := 56) r2_ ?_; intro gb hgb wb hbox hb; have HZ := Ad.mk ((ZX.first hI hB).lower hb); clear hgb hbox hb; (try clear hs0); (try clear hs1); (try clear hsf); have hs0 := HZ.out.cell0; have hs1 := HZ.out.cell1; have hsf := HZ.out.frozen1) | (have hgd_ := HZ; clear hgd_; go_at_call 63; refine (ls_ch.calls g s a (a) _ s a w0 _ ?side1 ?side2 (chv_f _ HC.out)).mono ?_; (case side1 => exact (ZX.st (w := w) z9_)); (case side2 => exact (ZX.below (w := w) (g := g) z9_)); rintro e wc ⟨rfl, h1, h2, h3⟩; have HZ1 := Ad.mk (ZX.call (w := w) (W' := wc) z9_ h1 h2 h3); clear h1 h2 h3 HZ; (try clear hs0); (try clear hs1); (try clear hsf); have hs0 := HZ1.out.cell0; have hs1 := HZ1.out.cell1; have hsf := HZ1.out.frozen1) | (have hgd_ := HZ1; clear hgd_; go_at_call 63; refine (ls_ch.calls g s a (wrap64 (a + 1)) _ s a w0 _ ?side1 ?side2 (chv_f _ HD.out)).mono ?_; (case side1 => exact (ZX.st (w := w) z37_)); (case side2 => exact (ZX.below (w := w) (g := g) z37_)); rintro e wc2 ⟨rfl, h1, h2, h3⟩; have HZ1c := Ad.mk (ZX.call (w := w) (W' := wc2) z37_ h1 h2 h3); clear h1 h2 h3 HZ1; (try clear hs0); (try clear hs1); (try clear hsf); have hs0 := HZ1c.out.cell0; have hs1 := HZ1c.out.cell1; have hsf := HZ1c.out.frozen1) | (have hgd_ := HZ1c; clear hgd_; go_at_call 65; refine (run_bad k g s (wrap64 (a + 2)) a 64 66 q' w0 _ ?side1 ?side2 HE.out).mono ?_; (case side1 => exact (ZX.st (w := w) z37_)); (case side2 => exact (ZX.below (w := w) (g := g) z37_)); rintro e wf ⟨rfl, hb1, hb2⟩; have HBAD := Ad.mk (ZX.bad (w := w) z37_ (show Bad w0 _ g q' _ wf from ⟨rfl, hb1, hb2⟩)); clear hb1 hb2))
  exact ⟨rfl, HBAD.out⟩
 | none =>
  rw [hq] at h
  simp only at h
  clear hq
  replace h := Option.bind_eq_some_iff.mp h
  obtain ⟨⟨t, s', a'⟩, A0, h⟩ := h
  try simp only at h
  have HE := Ad.mk A0
  clear A0
  replace h := Option.bind_eq_some_iff.mp h
  obtain ⟨m, A0, h⟩ := h
  try simp only at h
  have HM := Ad.mk A0
  clear A0
  cases m with
  | true => rw [if_pos rfl] at h; cases h
  | false =>
   rw [if_neg (by decide)] at h
   obtain rfl := Option.some.inj h
   clear h
   go_enter Tryd.func44, Tryd.ntmps44
   go_wp2_with (first | ((with_reducible refine gate_dst (N := 2) rfl ?_); refine box_event r1_ (N := 2) r1_ (cs := #[.int .i64 0, .string ⟨#[]⟩, .int .i64 0, .string ⟨#[]⟩, .string ⟨#[]⟩, .int .i64 0]) (t := 56) r2_ ?_; intro gb hgb wb hbox hb; have HZ := Ad.mk ((ZX.first hI hB).lower hb); clear hgb hbox hb; (try clear hs0); (try clear hs1); (try clear hsf); have hs0 := HZ.out.cell0; have hs1 := HZ.out.cell1; have hsf := HZ.out.frozen1) | (have hgd_ := HZ; clear hgd_; go_at_call 63; refine (ls_ch.calls g s a (a) _ s a w0 _ ?side1 ?side2 (chv_f _ HC.out)).mono ?_; (case side1 => exact (ZX.st (w := w) z9_)); (case side2 => exact (ZX.below (w := w) (g := g) z9_)); rintro e wc ⟨rfl, h1, h2, h3⟩; have HZ1 := Ad.mk (ZX.call (w := w) (W' := wc) z9_ h1 h2 h3); clear h1 h2 h3 HZ; (try clear hs0); (try clear hs1); (try clear hsf); have hs0 := HZ1.out.cell0; have hs1 := HZ1.out.cell1; have hsf := HZ1.out.frozen1) | (have hgd_ := HZ1; clear hgd_; go_at_call 63; refine (ls_ch.calls g s a (wrap64 (a + 1)) _ s a w0 _ ?side1 ?side2 (chv_f _ HD.out)).mono ?_; (case side1 => exact (ZX.st (w := w) z10_)); (case side2 => exact (ZX.below (w := w) (g := g) z10_)); rintro e wc2 ⟨rfl, h1, h2, h3⟩; have HZ1b := Ad.mk (ZX.call (w := w) (W' := wc2) z10_ h1 h2 h3); clear h1 h2 h3 HZ1; (try clear hs0); (try clear hs1); (try clear hsf); have hs0 := HZ1b.out.cell0; have hs1 := HZ1b.out.cell1; have hsf := HZ1b.out.frozen1) | (have hgd_ := HZ1b; clear hgd_; go_at_call 65; refine (ls_run.calls k g s (wrap64 (a + 2)) a 64 66 t s' a' w0 _ ?side1 ?side2 HE.out).mono ?_; (case side1 => exact (ZX.st (w := w) z52_)); (case side2 => exact (ZX.below (w := w) (g := g) z52_)); rintro e wr ⟨rfl, h1, h2, h3⟩; have HZ2 := Ad.mk (ZX.call (w := w) (W' := wr) z52_ h1 h2 h3); clear h1 h2 h3 HZ1b; (try clear hs0); (try clear hs1); (try clear hsf); have hs0 := HZ2.out.cell0; have hs1 := HZ2.out.cell1; have hsf := HZ2.out.frozen1) | ((with_reducible refine gate_dst (N := 5) rfl ?_); refine box_event r1_ (N := 5) r1_ (cs := #[.int .i64 0, .string ⟨#[]⟩, .string ⟨#[]⟩]) (t := 36) r2_ ?_; intro gx hgx wx hx hb; have HX := Ad.mk (show Below _ _ wx ∧ gx = _ ∧ wx.heap[gx]? = some (.cells #[.int .i64 0, .string ⟨#[]⟩, .string ⟨#[]⟩] 36 (0, 0)) from ⟨hb, hgx, hx⟩); clear hgx hx hb; (try clear hs0); (try clear hs1); (try clear hsf)) | ((with_reducible refine gate_store (t := 36) (p := 5) rfl ?_); refine store_seg (gy := gx) (j := 0) (T := 36) (TB := 36) (cs := #[.int .i64 0, .string ⟨#[]⟩, .string ⟨#[]⟩]) (new := #[.int .i64 2, .string t, .string ⟨#[]⟩]) (u := .agg #[.int .i64 2, .string t, .string ⟨#[]⟩]) (seg := [.int .i64 2, .string t, .string ⟨#[]⟩]) rfl (p := .tmp 5) (x := .tmp 38) rfl rfl r1_ r1_ r1_ HX.out.2.2 k1_ s1_ h1_ rfl ?_; intro wy hz hup; have HZ3 := Ad.mk (ZX.lower (w := w) (W' := wy) z35_ (HX.out.1.trans (hup.below (Nat.le_of_eq HX.out.2.1.symm)))); have HV := Ad.mk hz; clear hup hz HX HZ2; have hs0 := HZ3.out.cell0; have hs1 := HZ3.out.cell1; have hsf := HZ3.out.frozen1; have hv0 := (blk_cell HV.out 0).trans (show _ = some (.int .i64 2) from rfl); have hv1 := (blk_cell HV.out 1).trans (show _ = some (.string t) from rfl); have hv2 := (blk_cell HV.out 2).trans (show _ = some (.string ⟨#[]⟩) from rfl)) | (go_at_call 28; refine (term_May.calls k 2 t (⟨#[]⟩ : ByteArray) false _ HM.out).mono ?_; rintro e wm ⟨rfl, hb⟩; have HZ4 := Ad.mk (ZX.lower (w := w) (W' := wm) z51_ hb); clear hb) | (go_at_call 50; refine (wrong_fail g a _).mono ?_; rintro e wf ⟨rfl, rfl⟩))
   exact ⟨rfl, ZX.ends (by repeat (first | exact HZ4.out | apply ZX.set | apply ZX.drewN | apply ZX.alloc))⟩
set_option maxHeartbeats 4000000 in
set_option maxRecDepth 100000 in
theorem word_bad (k : Nat) (g : Nat) (s : ByteArray) (a : Int) (q : Int) (w0 w : World) (hI : IsS65 w0 w g s a) (hB : Below w0.heap.size w0 w) (h : word_b k s a = some q) :
  Calls Tryd.prog 48 #[.pointer (some ⟨g, 0, none⟩)] w fun e w' => Bad w0 w g q e w' := by
 unfold word_b at h
 replace h := Option.bind_eq_some_iff.mp h
 obtain ⟨c, A0, h⟩ := h
 try simp only at h
 have HC := Ad.mk A0
 clear A0
 replace h := Option.bind_eq_some_iff.mp h
 obtain ⟨l, A0, h⟩ := h
 try simp only at h
 have HL := Ad.mk A0
 clear A0
 cases l with
 | true =>
  rw [if_pos rfl] at h
  unfold word_c at h
  cases hq : run_b k s a a 32 66 with
  | some q' =>
   rw [hq] at h
   obtain rfl := Option.some.inj h
   have HE := Ad.mk hq
   clear hq h
   go_enter Tryd.func48, Tryd.ntmps48
   go_wp2_with (first | ((with_reducible refine gate_dst (N := 2) rfl ?_); refine box_event r1_ (N := 2) r1_ (cs := #[.int .i64 0, .string ⟨#[]⟩, .int .i64 0, .string ⟨#[]⟩, .string ⟨#[]⟩, .int .i64 0]) (t := 56) r2_ ?_; intro gb hgb wb hbox hb; have HZ := Ad.mk ((ZX.first hI hB).lower hb); clear hgb hbox hb; (try clear hs0); (try clear hs1); (try clear hsf); have hs0 := HZ.out.cell0; have hs1 := HZ.out.cell1; have hsf := HZ.out.frozen1) | (have hgd_ := HZ; clear hgd_; go_at_call 63; refine (ls_ch.calls g s a (a) _ s a w0 _ ?side1 ?side2 (chv_f _ HC.out)).mono ?_; (case side1 => exact (ZX.st (w := w) z9_)); (case side2 => exact (ZX.below (w := w) (g := g) z9_)); rintro e wc ⟨rfl, h1, h2, h3⟩; have HZ1 := Ad.mk (ZX.call (w := w) (W' := wc) z9_ h1 h2 h3); clear h1 h2 h3 HZ; (try clear hs0); (try clear hs1); (try clear hsf); have hs0 := HZ1.out.cell0; have hs1 := HZ1.out.cell1; have hsf := HZ1.out.frozen1) | (go_at_call 69; (with_reducible refine (lex_letter.calls _ true _ HL.out).mono ?_); rintro e w' ⟨rfl, ⟨nd, rfl⟩⟩) | (have hgd_ := HZ1; clear hgd_; go_at_call 65; refine (run_bad k g s a a 32 66 q' w0 _ ?side1 ?side2 HE.out).mono ?_; (case side1 => exact (ZX.st (w := w) z10_)); (case side2 => exact (ZX.below (w := w) (g := g) z10_)); rintro e wf ⟨rfl, hb1, hb2⟩; have HBAD := Ad.mk (ZX.bad (w := w) z10_ (show Bad w0 _ g q' _ wf from ⟨rfl, hb1, hb2⟩)); clear hb1 hb2))
   exact ⟨rfl, HBAD.out⟩
  | none =>
   rw [hq] at h
   simp only at h
   clear hq
   replace h := Option.bind_eq_some_iff.mp h
   obtain ⟨⟨t, s', a'⟩, A0, h⟩ := h
   try simp only at h
   have HE0 := Ad.mk A0
   clear A0
   by_cases d5 : s' = s
   case neg => rw [if_neg d5] at h; cases h
   replace d5 := d5.symm
   subst d5
   rw [if_pos rfl] at h
   have HE := HE0
   replace h := Option.bind_eq_some_iff.mp h
   obtain ⟨u, A0, h⟩ := h
   try simp only at h
   have HU := Ad.mk A0
   clear A0
   by_cases d6 : u = 58
   case neg => rw [if_neg d6] at h; cases h
   subst d6
   rw [if_pos rfl] at h
   replace h := Option.bind_eq_some_iff.mp h
   obtain ⟨v, A0, h⟩ := h
   try simp only at h
   have HVV := Ad.mk A0
   clear A0
   by_cases d7 : v = 45
   case pos => rw [if_pos d7] at h; cases h
   rw [if_neg d7] at h
   have d7b : (v == 45) = false := by simpa using d7
   clear d7
   have HB2 := Ad.mk h
   clear h
   go_enter Tryd.func48, Tryd.ntmps48
   go_wp2_with (first | ((with_reducible refine gate_dst (N := 2) rfl ?_); refine box_event r1_ (N := 2) r1_ (cs := #[.int .i64 0, .string ⟨#[]⟩, .int .i64 0, .string ⟨#[]⟩, .string ⟨#[]⟩, .int .i64 0]) (t := 56) r2_ ?_; intro gb hgb wb hbox hb; have HZ := Ad.mk ((ZX.first hI hB).lower hb); clear hgb hbox hb; (try clear hs0); (try clear hs1); (try clear hsf); have hs0 := HZ.out.cell0; have hs1 := HZ.out.cell1; have hsf := HZ.out.frozen1) | (have hgd_ := HZ; clear hgd_; go_at_call 63; refine (ls_ch.calls g s a (a) _ s a w0 _ ?side1 ?side2 (chv_f _ HC.out)).mono ?_; (case side1 => exact (ZX.st (w := w) z9_)); (case side2 => exact (ZX.below (w := w) (g := g) z9_)); rintro e wc ⟨rfl, h1, h2, h3⟩; have HZ1 := Ad.mk (ZX.call (w := w) (W' := wc) z9_ h1 h2 h3); clear h1 h2 h3 HZ; (try clear hs0); (try clear hs1); (try clear hsf); have hs0 := HZ1.out.cell0; have hs1 := HZ1.out.cell1; have hsf := HZ1.out.frozen1) | (go_at_call 69; (with_reducible refine (lex_letter.calls _ true _ HL.out).mono ?_); rintro e w' ⟨rfl, ⟨nd, rfl⟩⟩) | (have hgd_ := HZ1; clear hgd_; go_at_call 65; refine (ls_run.calls k g s a a 32 66 t s a' w0 _ ?side1 ?side2 HE.out).mono ?_; (case side1 => exact (ZX.st (w := w) z10_)); (case side2 => exact (ZX.below (w := w) (g := g) z10_)); rintro e wr ⟨rfl, h1, h2, h3⟩; have HZ5 := Ad.mk (ZX.call (w := w) (W' := wr) z10_ h1 h2 h3); clear h1 h2 h3 HZ1; (try clear hs0); (try clear hs1); (try clear hsf); have hs0 := HZ5.out.cell0; have hs1 := HZ5.out.cell1; have hsf := HZ5.out.frozen1) | (have hgd_ := HZ5; clear hgd_; go_at_call 63; refine (ls_ch.calls g s a' (a') _ s a' w0 _ ?side1 ?side2 (chv_f _ HU.out)).mono ?_; (case side1 => exact (ZX.st (w := w) z38_)); (case side2 => exact (ZX.below (w := w) (g := g) z38_)); rintro e wu ⟨rfl, h1, h2, h3⟩; have HZ6 := Ad.mk (ZX.call (w := w) (W' := wu) z38_ h1 h2 h3); clear h1 h2 h3 HZ5; (try clear hs0); (try clear hs1); (try clear hsf); have hs0 := HZ6.out.cell0; have hs1 := HZ6.out.cell1; have hsf := HZ6.out.frozen1) | (have hgd_ := HZ6; clear hgd_; go_at_call 63; refine (ls_ch.calls g s a' (wrap64 (a' + 1)) _ s a' w0 _ ?side1 ?side2 (chv_f _ HVV.out)).mono ?_; (case side1 => exact (ZX.st (w := w) z39_)); (case side2 => exact (ZX.below (w := w) (g := g) z39_)); rintro e wv ⟨rfl, h1, h2, h3⟩; have HZ7 := Ad.mk (ZX.call (w := w) (W' := wv) z39_ h1 h2 h3); clear h1 h2 h3 HZ6; (try clear hs0); (try clear hs1); (try clear hsf); have hs0 := HZ7.out.cell0; have hs1 := HZ7.out.cell1; have hsf := HZ7.out.frozen1) | (have hgd_ := HZ7; clear hgd_; go_at_call 65; refine (run_bad k g s (wrap64 (a' + 1)) a 64 70 q w0 _ ?side1 ?side2 HB2.out).mono ?_; (case side1 => exact (ZX.st (w := w) z40_)); (case side2 => exact (ZX.below (w := w) (g := g) z40_)); rintro e wf ⟨rfl, hb1, hb2⟩; have HBAD := Ad.mk (ZX.bad (w := w) z40_ (show Bad w0 _ g q _ wf from ⟨rfl, hb1, hb2⟩)); clear hb1 hb2))
   exact ⟨rfl, HBAD.out⟩
 | false =>
  rw [if_neg (by decide)] at h
  by_cases c1 : c = 58
  case neg => rw [if_neg c1] at h; cases h
  subst c1
  rw [if_pos rfl] at h
  replace h := Option.bind_eq_some_iff.mp h
  obtain ⟨d, A0, h⟩ := h
  try simp only at h
  have HD := Ad.mk A0
  clear A0
  by_cases c2 : d = 45
  case pos => rw [if_pos c2] at h; cases h
  rw [if_neg c2] at h
  have c2b : (d == 45) = false := by simpa using c2
  clear c2
  unfold word_c at h
  cases hq : run_b k s a a 32 66 with
  | some q' =>
   rw [hq] at h
   obtain rfl := Option.some.inj h
   have HE := Ad.mk hq
   clear hq h
   go_enter Tryd.func48, Tryd.ntmps48
   go_wp2_with (first | ((with_reducible refine gate_dst (N := 2) rfl ?_); refine box_event r1_ (N := 2) r1_ (cs := #[.int .i64 0, .string ⟨#[]⟩, .int .i64 0, .string ⟨#[]⟩, .string ⟨#[]⟩, .int .i64 0]) (t := 56) r2_ ?_; intro gb hgb wb hbox hb; have HZ := Ad.mk ((ZX.first hI hB).lower hb); clear hgb hbox hb; (try clear hs0); (try clear hs1); (try clear hsf); have hs0 := HZ.out.cell0; have hs1 := HZ.out.cell1; have hsf := HZ.out.frozen1) | (have hgd_ := HZ; clear hgd_; go_at_call 63; refine (ls_ch.calls g s a (a) _ s a w0 _ ?side1 ?side2 (chv_f _ HC.out)).mono ?_; (case side1 => exact (ZX.st (w := w) z9_)); (case side2 => exact (ZX.below (w := w) (g := g) z9_)); rintro e wc ⟨rfl, h1, h2, h3⟩; have HZ1 := Ad.mk (ZX.call (w := w) (W' := wc) z9_ h1 h2 h3); clear h1 h2 h3 HZ; (try clear hs0); (try clear hs1); (try clear hsf); have hs0 := HZ1.out.cell0; have hs1 := HZ1.out.cell1; have hsf := HZ1.out.frozen1) | (go_at_call 69; (with_reducible refine (lex_letter.calls _ false _ HL.out).mono ?_); rintro e w' ⟨rfl, ⟨nd, rfl⟩⟩) | (have hgd_ := HZ1; clear hgd_; go_at_call 63; refine (ls_ch.calls g s a (wrap64 (a + 1)) _ s a w0 _ ?side1 ?side2 (chv_f _ HD.out)).mono ?_; (case side1 => exact (ZX.st (w := w) z10_)); (case side2 => exact (ZX.below (w := w) (g := g) z10_)); rintro e wc2 ⟨rfl, h1, h2, h3⟩; have HZ1c := Ad.mk (ZX.call (w := w) (W' := wc2) z10_ h1 h2 h3); clear h1 h2 h3 HZ1; (try clear hs0); (try clear hs1); (try clear hsf); have hs0 := HZ1c.out.cell0; have hs1 := HZ1c.out.cell1; have hsf := HZ1c.out.frozen1) | (have hgd_ := HZ1c; clear hgd_; go_at_call 65; refine (run_bad k g s a a 32 66 q' w0 _ ?side1 ?side2 HE.out).mono ?_; (case side1 => exact (ZX.st (w := w) z41_)); (case side2 => exact (ZX.below (w := w) (g := g) z41_)); rintro e wf ⟨rfl, hb1, hb2⟩; have HBAD := Ad.mk (ZX.bad (w := w) z41_ (show Bad w0 _ g q' _ wf from ⟨rfl, hb1, hb2⟩)); clear hb1 hb2))
   exact ⟨rfl, HBAD.out⟩
  | none =>
   rw [hq] at h
   simp only at h
   clear hq
   replace h := Option.bind_eq_some_iff.mp h
   obtain ⟨⟨t, s', a'⟩, A0, h⟩ := h
   try simp only at h
   have HE0 := Ad.mk A0
   clear A0
   by_cases d5 : s' = s
   case neg => rw [if_neg d5] at h; cases h
   replace d5 := d5.symm
   subst d5
   rw [if_pos rfl] at h
   have HE := HE0
   replace h := Option.bind_eq_some_iff.mp h
   obtain ⟨u, A0, h⟩ := h
   try simp only at h
   have HU := Ad.mk A0
   clear A0
   by_cases d6 : u = 58
   case neg => rw [if_neg d6] at h; cases h
   subst d6
   rw [if_pos rfl] at h
   replace h := Option.bind_eq_some_iff.mp h
   obtain ⟨v, A0, h⟩ := h
   try simp only at h
   have HVV := Ad.mk A0
   clear A0
   by_cases d7 : v = 45
   case pos => rw [if_pos d7] at h; cases h
   rw [if_neg d7] at h
   have d7b : (v == 45) = false := by simpa using d7
   clear d7
   have HB2 := Ad.mk h
   clear h
   go_enter Tryd.func48, Tryd.ntmps48
   go_wp2_with (first | ((with_reducible refine gate_dst (N := 2) rfl ?_); refine box_event r1_ (N := 2) r1_ (cs := #[.int .i64 0, .string ⟨#[]⟩, .int .i64 0, .string ⟨#[]⟩, .string ⟨#[]⟩, .int .i64 0]) (t := 56) r2_ ?_; intro gb hgb wb hbox hb; have HZ := Ad.mk ((ZX.first hI hB).lower hb); clear hgb hbox hb; (try clear hs0); (try clear hs1); (try clear hsf); have hs0 := HZ.out.cell0; have hs1 := HZ.out.cell1; have hsf := HZ.out.frozen1) | (have hgd_ := HZ; clear hgd_; go_at_call 63; refine (ls_ch.calls g s a (a) _ s a w0 _ ?side1 ?side2 (chv_f _ HC.out)).mono ?_; (case side1 => exact (ZX.st (w := w) z9_)); (case side2 => exact (ZX.below (w := w) (g := g) z9_)); rintro e wc ⟨rfl, h1, h2, h3⟩; have HZ1 := Ad.mk (ZX.call (w := w) (W' := wc) z9_ h1 h2 h3); clear h1 h2 h3 HZ; (try clear hs0); (try clear hs1); (try clear hsf); have hs0 := HZ1.out.cell0; have hs1 := HZ1.out.cell1; have hsf := HZ1.out.frozen1) | (go_at_call 69; (with_reducible refine (lex_letter.calls _ false _ HL.out).mono ?_); rintro e w' ⟨rfl, ⟨nd, rfl⟩⟩) | (have hgd_ := HZ1; clear hgd_; go_at_call 63; refine (ls_ch.calls g s a (wrap64 (a + 1)) _ s a w0 _ ?side1 ?side2 (chv_f _ HD.out)).mono ?_; (case side1 => exact (ZX.st (w := w) z10_)); (case side2 => exact (ZX.below (w := w) (g := g) z10_)); rintro e wc2 ⟨rfl, h1, h2, h3⟩; have HZ1c := Ad.mk (ZX.call (w := w) (W' := wc2) z10_ h1 h2 h3); clear h1 h2 h3 HZ1; (try clear hs0); (try clear hs1); (try clear hsf); have hs0 := HZ1c.out.cell0; have hs1 := HZ1c.out.cell1; have hsf := HZ1c.out.frozen1) | (have hgd_ := HZ1c; clear hgd_; go_at_call 65; refine (ls_run.calls k g s a a 32 66 t s a' w0 _ ?side1 ?side2 HE.out).mono ?_; (case side1 => exact (ZX.st (w := w) z41_)); (case side2 => exact (ZX.below (w := w) (g := g) z41_)); rintro e wr ⟨rfl, h1, h2, h3⟩; have HZ5 := Ad.mk (ZX.call (w := w) (W' := wr) z41_ h1 h2 h3); clear h1 h2 h3 HZ1c; (try clear hs0); (try clear hs1); (try clear hsf); have hs0 := HZ5.out.cell0; have hs1 := HZ5.out.cell1; have hsf := HZ5.out.frozen1) | (have hgd_ := HZ5; clear hgd_; go_at_call 63; refine (ls_ch.calls g s a' (a') _ s a' w0 _ ?side1 ?side2 (chv_f _ HU.out)).mono ?_; (case side1 => exact (ZX.st (w := w) z38_)); (case side2 => exact (ZX.below (w := w) (g := g) z38_)); rintro e wu ⟨rfl, h1, h2, h3⟩; have HZ6 := Ad.mk (ZX.call (w := w) (W' := wu) z38_ h1 h2 h3); clear h1 h2 h3 HZ5; (try clear hs0); (try clear hs1); (try clear hsf); have hs0 := HZ6.out.cell0; have hs1 := HZ6.out.cell1; have hsf := HZ6.out.frozen1) | (have hgd_ := HZ6; clear hgd_; go_at_call 63; refine (ls_ch.calls g s a' (wrap64 (a' + 1)) _ s a' w0 _ ?side1 ?side2 (chv_f _ HVV.out)).mono ?_; (case side1 => exact (ZX.st (w := w) z39_)); (case side2 => exact (ZX.below (w := w) (g := g) z39_)); rintro e wv ⟨rfl, h1, h2, h3⟩; have HZ7 := Ad.mk (ZX.call (w := w) (W' := wv) z39_ h1 h2 h3); clear h1 h2 h3 HZ6; (try clear hs0); (try clear hs1); (try clear hsf); have hs0 := HZ7.out.cell0; have hs1 := HZ7.out.cell1; have hsf := HZ7.out.frozen1) | (have hgd_ := HZ7; clear hgd_; go_at_call 65; refine (run_bad k g s (wrap64 (a' + 1)) a 64 70 q w0 _ ?side1 ?side2 HB2.out).mono ?_; (case side1 => exact (ZX.st (w := w) z40_)); (case side2 => exact (ZX.below (w := w) (g := g) z40_)); rintro e wf ⟨rfl, hb1, hb2⟩; have HBAD := Ad.mk (ZX.bad (w := w) z40_ (show Bad w0 _ g q _ wf from ⟨rfl, hb1, hb2⟩)); clear hb1 hb2))
   exact ⟨rfl, HBAD.out⟩
structure NX (w0 w W : World) (g gb gs : Nat) (s : ByteArray) (at_ : Int) (cs fs : Array Value) (T : TypeId) : Prop where
 st : IsS65 w0 W g s at_
 below : Below w0.heap.size w0 W
 keep : KeepBut w W g none
 res : W.heap[gb]? = some (.cells cs 56 (0, 0))
 rows : W.heap[gs]? = some (.cells fs T (0, 0))
 gbw : w.heap.size ≤ gb
 gsw : w.heap.size ≤ gs
 gbg : gb ≠ g
 gsg : gs ≠ g
 gbs : gb ≠ gs
theorem NX.call {w0 w W W' : World} {g gb gs : Nat} {s s' : ByteArray} {at_ at' : Int} {cs fs : Array Value} {T : TypeId} (h : NX w0 w W g gb gs s at_ cs fs T) (h1 : IsS65 w0 W' g s' at') (h2 : Below w0.heap.size w0 W') (h3 : KeepBut W W' g none) : NX w0 w W' g gb gs s' at' cs fs T :=
 ⟨h1, h2, h.keep.trans h3 (.inl rfl), (h3.2 gb (blk_lt h.res) h.gbg (by simp)).trans h.res, (h3.2 gs (blk_lt h.rows) h.gsg (by simp)).trans h.rows, h.gbw, h.gsw, h.gbg, h.gsg, h.gbs⟩
theorem NX.lower {w0 w W W' : World} {g gb gs : Nat} {s : ByteArray} {at_ : Int} {cs fs : Array Value} {T : TypeId} (h : NX w0 w W g gb gs s at_ cs fs T) (hb : Below W.heap.size W W') : NX w0 w W' g gb gs s at_ cs fs T :=
 ⟨h.st.below hb, below_then h.below h.below.size hb, h.keep.trans (KeepBut.of_below hb g none) (.inl rfl), blk_below h.res hb, blk_below h.rows hb, h.gbw, h.gsw, h.gbg, h.gsg, h.gbs⟩
theorem NX.drew {w0 w W : World} {g gb gs : Nat} {s : ByteArray} {at_ : Int} {cs fs : Array Value} {T : TypeId} (h : NX w0 w W g gb gs s at_ cs fs T) (n : Nat) : NX w0 w (W.drewN n) g gb gs s at_ cs fs T :=
 h.lower (pw_below_drewN (Below.refl _ _) n)
theorem NX.upd {w0 w W W' : World} {g gb gs gy : Nat} {s : ByteArray} {at_ : Int} {cs fs : Array Value} {T : TypeId} (h : NX w0 w W g gb gs s at_ cs fs T) (hu : Upd W W' gy) (h0 : w0.heap.size ≤ gy) (hw : w.heap.size ≤ gy) (hg : gy ≠ g) (hb : gy ≠ gb) (hs : gy ≠ gs) : NX w0 w W' g gb gs s at_ cs fs T :=
 ⟨⟨(hu.other g (Ne.symm hg)).trans h.st.1, h.st.2⟩, h.below.trans (hu.below h0), hu.keep h.keep hw, (hu.other gb (Ne.symm hb)).trans h.res, (hu.other gs (Ne.symm hs)).trans h.rows, h.gbw, h.gsw, h.gbg, h.gsg, h.gbs⟩
theorem NX.fill {w0 w W W' : World} {g gb gs : Nat} {s : ByteArray} {at_ : Int} {cs fs new : Array Value} {T : TypeId} (h : NX w0 w W g gb gs s at_ cs fs T) (hu : Upd W W' gb) (h0 : w0.heap.size ≤ gb) (hn : W'.heap[gb]? = some (.cells new 56 (0, 0))) : NX w0 w W' g gb gs s at_ new fs T :=
 ⟨⟨(hu.other g (Ne.symm h.gbg)).trans h.st.1, h.st.2⟩, h.below.trans (hu.below h0), hu.keep h.keep h.gbw, hn, (hu.other gs (Ne.symm h.gbs)).trans h.rows, h.gbw, h.gsw, h.gbg, h.gsg, h.gbs⟩
theorem slice_event {P : Program} {ops : Array Oper} {rest : List Oper} {o : Oper} {a : Act} {Q : Exit → Act → World → Prop} {W : World} (hgd : o.guard = none) {N : Tmp} (_hd : o.dst = some N) {cs : Array Value} {t : TypeId} {n : Nat}
  (hrun : (execOp a.eval o).run P W = .ok (.value (.slice (some ⟨W.heap.size, 0, none⟩) n n)) (W.alloc (.cells cs t (0, 0))))
  (h : ∀ g, g = W.heap.size → ∀ w1, w1.heap[g]? = some (.cells cs t (0, 0)) → Below W.heap.size W w1 → wpList P ops Q rest (a.put o.dst (.slice (some ⟨g, 0, none⟩) n n)) w1) : wpList P ops Q (o :: rest) a W :=
 Kd.event_run hgd hrun (h _ rfl _ (blk_new W _) (below_alloc (Below.refl _ _) _))
def ls_next.g (k : Nat) (s_ : ByteArray) (a_ from_ : Int) : Option (Int × ByteArray × Int × ByteArray × ByteArray × Int × Bool × ByteArray × Int) := ((ls_iri.f k s_ a_).bind fun r_ => if r_.2.2.2.2.2.2.1 = true then some (r_.1, r_.2.1, r_.2.2.1, r_.2.2.2.1, r_.2.2.2.2.1, from_, true, r_.2.2.2.2.2.2.2.1, r_.2.2.2.2.2.2.2.2) else (fun (s_ : ByteArray) (a_ : Int) => ((ls_blank.f k s_ a_).bind fun r_ => if r_.2.2.2.2.2.2.1 = true then some (r_.1, r_.2.1, r_.2.2.1, r_.2.2.2.1, r_.2.2.2.2.1, from_, true, r_.2.2.2.2.2.2.2.1, r_.2.2.2.2.2.2.2.2) else (fun (s_ : ByteArray) (a_ : Int) => ((ls_text.f k s_ a_).bind fun r_ => if r_.2.2.2.2.2.2.1 = true then some (r_.1, r_.2.1, r_.2.2.1, r_.2.2.2.1, r_.2.2.2.2.1, from_, true, r_.2.2.2.2.2.2.2.1, r_.2.2.2.2.2.2.2.2) else (fun (s_ : ByteArray) (a_ : Int) => ((ls_lang.f k s_ a_).bind fun r_ => if r_.2.2.2.2.2.2.1 = true then some (r_.1, r_.2.1, r_.2.2.1, r_.2.2.2.1, r_.2.2.2.2.1, from_, true, r_.2.2.2.2.2.2.2.1, r_.2.2.2.2.2.2.2.2) else (fun (s_ : ByteArray) (a_ : Int) => ((ls_variable.f k s_ a_).bind fun r_ => if r_.2.2.2.2.2.2.1 = true then some (r_.1, r_.2.1, r_.2.2.1, r_.2.2.2.1, r_.2.2.2.2.1, from_, true, r_.2.2.2.2.2.2.2.1, r_.2.2.2.2.2.2.2.2) else (fun (s_ : ByteArray) (a_ : Int) => ((ls_word.f k s_ a_).bind fun r_ => if r_.2.2.2.2.2.2.1 = true then some (r_.1, r_.2.1, r_.2.2.1, r_.2.2.2.1, r_.2.2.2.2.1, from_, true, r_.2.2.2.2.2.2.2.1, r_.2.2.2.2.2.2.2.2) else (fun (s_ : ByteArray) (a_ : Int) => ((ls_mark.f k s_ a_).bind fun r_ => if r_.2.2.2.2.2.2.1 = true then some (r_.1, r_.2.1, r_.2.2.1, r_.2.2.2.1, r_.2.2.2.2.1, from_, true, r_.2.2.2.2.2.2.2.1, r_.2.2.2.2.2.2.2.2) else (fun (s_ : ByteArray) (a_ : Int) => none) r_.2.2.2.2.2.2.2.1 r_.2.2.2.2.2.2.2.2)) r_.2.2.2.2.2.2.2.1 r_.2.2.2.2.2.2.2.2)) r_.2.2.2.2.2.2.2.1 r_.2.2.2.2.2.2.2.2)) r_.2.2.2.2.2.2.2.1 r_.2.2.2.2.2.2.2.2)) r_.2.2.2.2.2.2.2.1 r_.2.2.2.2.2.2.2.2)) r_.2.2.2.2.2.2.2.1 r_.2.2.2.2.2.2.2.2)) r_.2.2.2.2.2.2.2.1 r_.2.2.2.2.2.2.2.2)
def ls_next.f (k : Nat) (s0_0 : ByteArray) (s0_1 : Int) : Option (Int × ByteArray × Int × ByteArray × ByteArray × Int × Bool × ByteArray × Int) := (ls_skip.f k s0_0 s0_1).bind fun b_ => if b_.2 ≥ (b_.1.size : Int) then some (0, (⟨#[]⟩ : ByteArray), 0, (⟨#[]⟩ : ByteArray), (⟨#[]⟩ : ByteArray), 0, false, b_.1, b_.2) else ls_next.g k b_.1 b_.2 b_.2
set_option maxHeartbeats 4000000 in
set_option maxRecDepth 100000 in
theorem ls_next.calls (k : Nat) (g : Nat) (s0_0 : ByteArray) (s0_1 : Int) (r1 : Int) (r2 : ByteArray) (r3 : Int) (r4 : ByteArray) (r5 : ByteArray) (r6 : Int) (r7 : Bool) (r8 : ByteArray) (r9 : Int) (w0 w : World) (hI : IsS65 w0 w g s0_0 s0_1) (hB : Below w0.heap.size w0 w) (h : ls_next.f k s0_0 s0_1 = some (r1, r2, r3, r4, r5, r6, r7, r8, r9)) :
  Calls Tryd.prog 35 #[.pointer (some ⟨g, 0, none⟩)] w fun e w' => e = .returned (.tuple #[.agg #[.int .i64 r1, .string r2, .int .i64 r3, .string r4, .string r5, .int .i64 r6], .bool r7]) ∧ IsS65 w0 w' g r8 r9 ∧ Below w0.heap.size w0 w' ∧ KeepBut w w' g none := by
 have hmf : ∀ (fn : Fn) (first cap : Array Value) (w : World), (Instr.makeFunc fn first cap).run Tryd.prog w = .ok (.func fn first cap) w := fun _ _ _ _ => rfl
 unfold ls_next.f at h
 obtain ⟨⟨s1, a1⟩, A0, H⟩ := Option.bind_eq_some_iff.mp h
 simp only at H
 have AS := Ad.mk A0
 clear h A0
 have HI := Ad.mk hI
 have HW0 := Ad.mk hB.size
 have HB := Ad.mk hB
 have HH := Ad.mk H
 clear hI hB H
 go_enter Tryd.func35, Tryd.ntmps35
 go_upto_region 2 with (first | ((with_reducible refine gate_dst (N := 2) rfl ?_); refine box_event r1_ (N := 2) r1_ (cs := #[.int .i64 0, .string ⟨#[]⟩, .int .i64 0, .string ⟨#[]⟩, .string ⟨#[]⟩, .int .i64 0]) (t := 56) r2_ ?_; intro gb hgb w1 hbox hb; have HX := Ad.mk (show IsS65 w0 w1 g s0_0 s0_1 ∧ Below w0.heap.size w0 w1 ∧ KeepBut w w1 g none ∧ w1.heap[gb]? = some (.cells #[.int .i64 0, .string ⟨#[]⟩, .int .i64 0, .string ⟨#[]⟩, .string ⟨#[]⟩, .int .i64 0] 56 (0, 0)) ∧ w.heap.size ≤ gb ∧ gb ≠ g from ⟨HI.out.below hb, below_then HB.out HB.out.size hb, KeepBut.of_below hb g none, hbox, Nat.le_of_eq hgb.symm, by rw [hgb]; exact Ne.symm (Nat.ne_of_lt HI.out.lt)⟩); clear hgb hbox hb HI HB) | (go_at_call 42; refine (ls_skip.calls k g s0_0 s0_1 s1 a1 w0 _ HX.out.1 HX.out.2.1 AS.out).mono ?_; rintro e w2 ⟨rfl, h1, h2, h3⟩; have HX2 := Ad.mk (show IsS65 w0 w2 g s1 a1 ∧ Below w0.heap.size w0 w2 ∧ KeepBut w w2 g none ∧ w2.heap[gb]? = some (.cells #[.int .i64 0, .string ⟨#[]⟩, .int .i64 0, .string ⟨#[]⟩, .string ⟨#[]⟩, .int .i64 0] 56 (0, 0)) ∧ w.heap.size ≤ gb ∧ gb ≠ g from ⟨h1, h2, HX.out.2.2.1.trans h3 (.inl rfl), (h3.2 gb (blk_lt HX.out.2.2.2.1) HX.out.2.2.2.2.2 (by simp)).trans HX.out.2.2.2.1, HX.out.2.2.2.2⟩); clear HX h1 h2 h3))
 have hc0 : w2.cell? ⟨g, 0, none⟩ = some (.string s1) := (blk_cell HX2.out.1.1 0).trans rfl
 have hc1 : w2.cell? ⟨g, 1, none⟩ = some (.int .i64 a1) := (blk_cell HX2.out.1.1 1).trans rfl
 by_cases c1 : a1 ≥ (s1.size : Int)
 ·have c1b : decide (a1 ≥ (s1.size : Int)) = true := decide_eq_true c1
  have H := HH.out
  clear HH
  rw [if_pos c1] at H
  simp only [Option.some.injEq, Prod.mk.injEq] at H
  obtain ⟨rfl, rfl, rfl, rfl, rfl, rfl, rfl, rfl, rfl⟩ := H
  repeat (go_quiet (fail); try go_wp2_with (first | ((with_reducible refine gate_store (t := 56) (p := 2) rfl ?_); refine store_seg (gy := gb) (j := 0) (T := 56) (TB := 56) (cs := #[.int .i64 0, .string ⟨#[]⟩, .int .i64 0, .string ⟨#[]⟩, .string ⟨#[]⟩, .int .i64 0]) (new := #[.int .i64 0, .string ⟨#[]⟩, .int .i64 0, .string ⟨#[]⟩, .string ⟨#[]⟩, .int .i64 0]) (u := .agg #[.int .i64 0, .string ⟨#[]⟩, .int .i64 0, .string ⟨#[]⟩, .string ⟨#[]⟩, .int .i64 0]) (seg := [.int .i64 0, .string ⟨#[]⟩, .int .i64 0, .string ⟨#[]⟩, .string ⟨#[]⟩, .int .i64 0]) rfl (p := .tmp 2) (x := .tmp 21) rfl rfl r1_ r1_ r1_ HX2.out.2.2.2.1 k1_ s1_ h1_ rfl ?_; intro w4 hz hup; have HZ := Ad.mk hz; have HU := Ad.mk hup; clear hz hup)))
  refine bodyPost_ret (results_ct rfl _ _ gb 56 #[.int .i64 0, .string ⟨#[]⟩, .int .i64 0, .string ⟨#[]⟩, .string ⟨#[]⟩, .int .i64 0] (0, 0) _ rfl HZ.out Tryd.underlying56 rfl k1_) rfl ?_
  exact ⟨rfl, ⟨(HU.out.other g (Ne.symm HX2.out.2.2.2.2.2)).trans HX2.out.1.1, HX2.out.1.2⟩, (pw_below_drewN HX2.out.2.1 nq).trans (HU.out.below (Nat.le_trans HW0.out HX2.out.2.2.2.2.1)), HU.out.keep (keep_drewN HX2.out.2.2.1 nq) HX2.out.2.2.2.2.1⟩
 have c1b : decide (a1 ≥ (s1.size : Int)) = false := decide_eq_false c1
 have H := HH.out
 clear HH
 rw [if_neg c1] at H
 unfold ls_next.g at H
 go_quiet (fail)
 go_wp2_with (first | ((with_reducible refine gate_dst (N := 40) rfl ?_); refine slice_event ?hg (N := 40) ?hd (cs := #[.func (.func 43) #[.pointer (some ⟨g, 0, none⟩)] #[], .func (.func 44) #[.pointer (some ⟨g, 0, none⟩)] #[], .func (.func 45) #[.pointer (some ⟨g, 0, none⟩)] #[], .func (.func 46) #[.pointer (some ⟨g, 0, none⟩)] #[], .func (.func 47) #[.pointer (some ⟨g, 0, none⟩)] #[], .func (.func 48) #[.pointer (some ⟨g, 0, none⟩)] #[], .func (.func 49) #[.pointer (some ⟨g, 0, none⟩)] #[]]) (t := 83) (n := 7) ?hr ?_; (case hd => rfl); (case hg => rfl); (case hr => first | (go_simp; done) | (go_simp; rfl)); intro gs hgs w3 hbox hb; have HN := Ad.mk (show NX w0 w w3 g gb gs s1 a1 #[.int .i64 0, .string ⟨#[]⟩, .int .i64 0, .string ⟨#[]⟩, .string ⟨#[]⟩, .int .i64 0] #[.func (.func 43) #[.pointer (some ⟨g, 0, none⟩)] #[], .func (.func 44) #[.pointer (some ⟨g, 0, none⟩)] #[], .func (.func 45) #[.pointer (some ⟨g, 0, none⟩)] #[], .func (.func 46) #[.pointer (some ⟨g, 0, none⟩)] #[], .func (.func 47) #[.pointer (some ⟨g, 0, none⟩)] #[], .func (.func 48) #[.pointer (some ⟨g, 0, none⟩)] #[], .func (.func 49) #[.pointer (some ⟨g, 0, none⟩)] #[]] 83 from ⟨(IsS65.drewN HX2.out.1 nq).below hb, below_then (pw_below_drewN HX2.out.2.1 nq) HX2.out.2.1.size hb, HX2.out.2.2.1.trans (KeepBut.of_below hb g none) (.inl rfl), blk_below (blk_drewN HX2.out.2.2.2.1 nq) hb, hbox, HX2.out.2.2.2.2.1, by rw [hgs]; exact HX2.out.2.2.1.1, HX2.out.2.2.2.2.2, by rw [hgs]; exact Ne.symm (Nat.ne_of_lt HX2.out.1.lt), by rw [hgs]; exact Nat.ne_of_lt (blk_lt HX2.out.2.2.2.1)⟩); clear hgs hbox hb))
 clear hc0 hc1 c1 c1b HX2
 refine wp_loop_rounds 7 ?_
 obtain ⟨⟨x1_0, x2_0, x3_0, x4_0, x5_0, x6_0, x7_0, x8_0, x9_0⟩, A, H⟩ := Option.bind_eq_some_iff.mp H
 try simp only at H
 have AR := Ad.mk A
 clear A
 have hf_ : w3.cell? ⟨gs, 0, none⟩ = some (.func (.func 43) #[.pointer (some ⟨g, 0, none⟩)] #[]) := (blk_cell HN.out.rows 0).trans rfl
 cases x7_0 with
 | true =>
  rw [if_pos rfl] at H
  simp only [Option.some.injEq, Prod.mk.injEq] at H
  obtain ⟨rfl, rfl, rfl, rfl, rfl, rfl, rfl, rfl, rfl⟩ := H
  rw [rounds_succ]
  go_wp2_with (first | (go_at_call 43; refine (ls_iri.calls k g s1 a1 x1_0 x2_0 x3_0 x4_0 x5_0 x6_0 true x8_0 x9_0 w0 _ HN.out.st HN.out.below AR.out).mono ?_; rintro e wa0 ⟨rfl, h1, h2, h3⟩; have HN1 := Ad.mk (HN.out.call h1 h2 h3); clear HN h1 h2 h3) | ((with_reducible refine gate_dst (N := 7) rfl ?_); refine box_event r1_ (N := 7) r1_ (cs := #[.int .i64 0, .string ⟨#[]⟩, .int .i64 0, .string ⟨#[]⟩, .string ⟨#[]⟩, .int .i64 0]) (t := 56) r2_ ?_; intro gy hgy wb0 hbox hb; have HN2 := Ad.mk (HN1.out.lower hb); have HY := Ad.mk hbox; have HF := Ad.mk (show w0.heap.size ≤ gy ∧ w.heap.size ≤ gy ∧ gy ≠ g ∧ gy ≠ gb ∧ gy ≠ gs from ⟨by rw [hgy]; exact HN1.out.below.size, by rw [hgy]; exact HN1.out.keep.1, by have G0 := HN1; exact z16_, by have G0 := HN1; exact z17_, by have G0 := HN1; exact z18_⟩); clear HN1 hgy hbox hb) | ((with_reducible refine gate_store (t := 56) (p := 7) rfl ?_); refine store_seg (gy := gy) (j := 0) (T := 56) (TB := 56) (cs := #[.int .i64 0, .string ⟨#[]⟩, .int .i64 0, .string ⟨#[]⟩, .string ⟨#[]⟩, .int .i64 0]) (new := #[.int .i64 x1_0, .string x2_0, .int .i64 x3_0, .string x4_0, .string x5_0, .int .i64 x6_0]) (u := .agg #[.int .i64 x1_0, .string x2_0, .int .i64 x3_0, .string x4_0, .string x5_0, .int .i64 x6_0]) (seg := [.int .i64 x1_0, .string x2_0, .int .i64 x3_0, .string x4_0, .string x5_0, .int .i64 x6_0]) rfl (p := .tmp 7) (x := .tmp 49) rfl rfl r1_ r1_ r1_ HY.out k1_ s1_ h1_ rfl ?_; intro wd0 hz hup; have HN := Ad.mk (HN2.out.upd hup HF.out.1 HF.out.2.1 HF.out.2.2.1 HF.out.2.2.2.1 HF.out.2.2.2.2); have HZ := Ad.mk hz; clear HN2 HY hz hup) | ((with_reducible refine gate_store (t := 3) (p := 53) rfl ?_); refine store_seg (gy := gy) (j := 5) (T := 3) (TB := 56) (cs := #[.int .i64 x1_0, .string x2_0, .int .i64 x3_0, .string x4_0, .string x5_0, .int .i64 x6_0]) (new := #[.int .i64 x1_0, .string x2_0, .int .i64 x3_0, .string x4_0, .string x5_0, .int .i64 a1]) (u := .int .i64 a1) (seg := [.int .i64 a1]) rfl (p := .tmp 53) (x := .tmp 52) rfl rfl r1_ r1_ r1_ HZ.out k1_ s1_ h1_ rfl ?_; intro we0 hz hup; have HN3 := Ad.mk (HN.out.upd hup HF.out.1 HF.out.2.1 HF.out.2.2.1 HF.out.2.2.2.1 HF.out.2.2.2.2); have HZ2 := Ad.mk hz; clear HN HZ hup; have hl0_ := (blk_cell hz 0).trans (show _ = some (.int .i64 x1_0) from rfl); have hl1_ := (blk_cell hz 1).trans (show _ = some (.string x2_0) from rfl); have hl2_ := (blk_cell hz 2).trans (show _ = some (.int .i64 x3_0) from rfl); have hl3_ := (blk_cell hz 3).trans (show _ = some (.string x4_0) from rfl); have hl4_ := (blk_cell hz 4).trans (show _ = some (.string x5_0) from rfl); have hl5_ := (blk_cell hz 5).trans (show _ = some (.int .i64 a1) from rfl); clear hz) | ((with_reducible refine gate_store (t := 56) (p := 2) rfl ?_); refine store_seg (gy := gb) (j := 0) (T := 56) (TB := 56) (cs := #[.int .i64 0, .string ⟨#[]⟩, .int .i64 0, .string ⟨#[]⟩, .string ⟨#[]⟩, .int .i64 0]) (new := #[.int .i64 x1_0, .string x2_0, .int .i64 x3_0, .string x4_0, .string x5_0, .int .i64 a1]) (u := .agg #[.int .i64 x1_0, .string x2_0, .int .i64 x3_0, .string x4_0, .string x5_0, .int .i64 a1]) (seg := [.int .i64 x1_0, .string x2_0, .int .i64 x3_0, .string x4_0, .string x5_0, .int .i64 a1]) rfl (p := .tmp 2) (x := .tmp 54) rfl rfl r1_ r1_ r1_ HN3.out.res k1_ s1_ h1_ rfl ?_; intro wf0 hz hup; have HN4 := Ad.mk (HN3.out.fill hup (Nat.le_trans HW0.out HN3.out.gbw) hz); clear HN3 hz hup))
  refine bodyPost_ret (results_ct rfl _ _ gb 56 #[.int .i64 x1_0, .string x2_0, .int .i64 x3_0, .string x4_0, .string x5_0, .int .i64 a1] (0, 0) _ rfl HN4.out.res Tryd.underlying56 rfl k1_) rfl ?_
  exact ⟨rfl, HN4.out.st, HN4.out.below, HN4.out.keep⟩
 | false =>
  rw [if_neg (by decide)] at H
  try simp only at H
  rw [rounds_succ]
  go_wp2_with (first | (go_at_call 43; refine (ls_iri.calls k g s1 a1 x1_0 x2_0 x3_0 x4_0 x5_0 x6_0 false x8_0 x9_0 w0 _ HN.out.st HN.out.below AR.out).mono ?_; rintro e wa0 ⟨rfl, h1, h2, h3⟩; have HN1 := Ad.mk (HN.out.call h1 h2 h3); clear HN h1 h2 h3) | ((with_reducible refine gate_dst (N := 7) rfl ?_); refine box_event r1_ (N := 7) r1_ (cs := #[.int .i64 0, .string ⟨#[]⟩, .int .i64 0, .string ⟨#[]⟩, .string ⟨#[]⟩, .int .i64 0]) (t := 56) r2_ ?_; intro gy hgy wb0 hbox hb; have HN2 := Ad.mk (HN1.out.lower hb); have HY := Ad.mk hbox; have HF := Ad.mk (show w0.heap.size ≤ gy ∧ w.heap.size ≤ gy ∧ gy ≠ g ∧ gy ≠ gb ∧ gy ≠ gs from ⟨by rw [hgy]; exact HN1.out.below.size, by rw [hgy]; exact HN1.out.keep.1, by have G0 := HN1; exact z16_, by have G0 := HN1; exact z17_, by have G0 := HN1; exact z18_⟩); clear HN1 hgy hbox hb) | ((with_reducible refine gate_store (t := 56) (p := 7) rfl ?_); refine store_seg (gy := gy) (j := 0) (T := 56) (TB := 56) (cs := #[.int .i64 0, .string ⟨#[]⟩, .int .i64 0, .string ⟨#[]⟩, .string ⟨#[]⟩, .int .i64 0]) (new := #[.int .i64 x1_0, .string x2_0, .int .i64 x3_0, .string x4_0, .string x5_0, .int .i64 x6_0]) (u := .agg #[.int .i64 x1_0, .string x2_0, .int .i64 x3_0, .string x4_0, .string x5_0, .int .i64 x6_0]) (seg := [.int .i64 x1_0, .string x2_0, .int .i64 x3_0, .string x4_0, .string x5_0, .int .i64 x6_0]) rfl (p := .tmp 7) (x := .tmp 49) rfl rfl r1_ r1_ r1_ HY.out k1_ s1_ h1_ rfl ?_; intro wd0 hz hup; have HN := Ad.mk (HN2.out.upd hup HF.out.1 HF.out.2.1 HF.out.2.2.1 HF.out.2.2.2.1 HF.out.2.2.2.2); have HZ := Ad.mk hz; clear HN2 HY hz hup))
  clear HZ HF hf_ AR
  obtain ⟨⟨x1_1, x2_1, x3_1, x4_1, x5_1, x6_1, x7_1, x8_1, x9_1⟩, A, H⟩ := Option.bind_eq_some_iff.mp H
  try simp only at H
  have AR := Ad.mk A
  clear A
  have hf_ : wd0.cell? ⟨gs, 1, none⟩ = some (.func (.func 44) #[.pointer (some ⟨g, 0, none⟩)] #[]) := (blk_cell HN.out.rows 1).trans rfl
  cases x7_1 with
  | true =>
   rw [if_pos rfl] at H
   simp only [Option.some.injEq, Prod.mk.injEq] at H
   obtain ⟨rfl, rfl, rfl, rfl, rfl, rfl, rfl, rfl, rfl⟩ := H
   rw [rounds_succ]
   go_wp2_with (first | (go_at_call 44; refine (ls_blank.calls k g x8_0 x9_0 x1_1 x2_1 x3_1 x4_1 x5_1 x6_1 true x8_1 x9_1 w0 _ HN.out.st HN.out.below AR.out).mono ?_; rintro e wa1 ⟨rfl, h1, h2, h3⟩; have HN1 := Ad.mk (HN.out.call h1 h2 h3); clear HN h1 h2 h3) | ((with_reducible refine gate_dst (N := 7) rfl ?_); refine box_event r1_ (N := 7) r1_ (cs := #[.int .i64 0, .string ⟨#[]⟩, .int .i64 0, .string ⟨#[]⟩, .string ⟨#[]⟩, .int .i64 0]) (t := 56) r2_ ?_; intro gy hgy wb1 hbox hb; have HN2 := Ad.mk (HN1.out.lower hb); have HY := Ad.mk hbox; have HF := Ad.mk (show w0.heap.size ≤ gy ∧ w.heap.size ≤ gy ∧ gy ≠ g ∧ gy ≠ gb ∧ gy ≠ gs from ⟨by rw [hgy]; exact HN1.out.below.size, by rw [hgy]; exact HN1.out.keep.1, by have G0 := HN1; exact z16_, by have G0 := HN1; exact z17_, by have G0 := HN1; exact z18_⟩); clear HN1 hgy hbox hb) | ((with_reducible refine gate_store (t := 56) (p := 7) rfl ?_); refine store_seg (gy := gy) (j := 0) (T := 56) (TB := 56) (cs := #[.int .i64 0, .string ⟨#[]⟩, .int .i64 0, .string ⟨#[]⟩, .string ⟨#[]⟩, .int .i64 0]) (new := #[.int .i64 x1_1, .string x2_1, .int .i64 x3_1, .string x4_1, .string x5_1, .int .i64 x6_1]) (u := .agg #[.int .i64 x1_1, .string x2_1, .int .i64 x3_1, .string x4_1, .string x5_1, .int .i64 x6_1]) (seg := [.int .i64 x1_1, .string x2_1, .int .i64 x3_1, .string x4_1, .string x5_1, .int .i64 x6_1]) rfl (p := .tmp 7) (x := .tmp 49) rfl rfl r1_ r1_ r1_ HY.out k1_ s1_ h1_ rfl ?_; intro wd1 hz hup; have HN := Ad.mk (HN2.out.upd hup HF.out.1 HF.out.2.1 HF.out.2.2.1 HF.out.2.2.2.1 HF.out.2.2.2.2); have HZ := Ad.mk hz; clear HN2 HY hz hup) | ((with_reducible refine gate_store (t := 3) (p := 53) rfl ?_); refine store_seg (gy := gy) (j := 5) (T := 3) (TB := 56) (cs := #[.int .i64 x1_1, .string x2_1, .int .i64 x3_1, .string x4_1, .string x5_1, .int .i64 x6_1]) (new := #[.int .i64 x1_1, .string x2_1, .int .i64 x3_1, .string x4_1, .string x5_1, .int .i64 a1]) (u := .int .i64 a1) (seg := [.int .i64 a1]) rfl (p := .tmp 53) (x := .tmp 52) rfl rfl r1_ r1_ r1_ HZ.out k1_ s1_ h1_ rfl ?_; intro we1 hz hup; have HN3 := Ad.mk (HN.out.upd hup HF.out.1 HF.out.2.1 HF.out.2.2.1 HF.out.2.2.2.1 HF.out.2.2.2.2); have HZ2 := Ad.mk hz; clear HN HZ hup; have hl0_ := (blk_cell hz 0).trans (show _ = some (.int .i64 x1_1) from rfl); have hl1_ := (blk_cell hz 1).trans (show _ = some (.string x2_1) from rfl); have hl2_ := (blk_cell hz 2).trans (show _ = some (.int .i64 x3_1) from rfl); have hl3_ := (blk_cell hz 3).trans (show _ = some (.string x4_1) from rfl); have hl4_ := (blk_cell hz 4).trans (show _ = some (.string x5_1) from rfl); have hl5_ := (blk_cell hz 5).trans (show _ = some (.int .i64 a1) from rfl); clear hz) | ((with_reducible refine gate_store (t := 56) (p := 2) rfl ?_); refine store_seg (gy := gb) (j := 0) (T := 56) (TB := 56) (cs := #[.int .i64 0, .string ⟨#[]⟩, .int .i64 0, .string ⟨#[]⟩, .string ⟨#[]⟩, .int .i64 0]) (new := #[.int .i64 x1_1, .string x2_1, .int .i64 x3_1, .string x4_1, .string x5_1, .int .i64 a1]) (u := .agg #[.int .i64 x1_1, .string x2_1, .int .i64 x3_1, .string x4_1, .string x5_1, .int .i64 a1]) (seg := [.int .i64 x1_1, .string x2_1, .int .i64 x3_1, .string x4_1, .string x5_1, .int .i64 a1]) rfl (p := .tmp 2) (x := .tmp 54) rfl rfl r1_ r1_ r1_ HN3.out.res k1_ s1_ h1_ rfl ?_; intro wf1 hz hup; have HN4 := Ad.mk (HN3.out.fill hup (Nat.le_trans HW0.out HN3.out.gbw) hz); clear HN3 hz hup))
   refine bodyPost_ret (results_ct rfl _ _ gb 56 #[.int .i64 x1_1, .string x2_1, .int .i64 x3_1, .string x4_1, .string x5_1, .int .i64 a1] (0, 0) _ rfl HN4.out.res Tryd.underlying56 rfl k1_) rfl ?_
   exact ⟨rfl, HN4.out.st, HN4.out.below, HN4.out.keep⟩
  | false =>
   rw [if_neg (by decide)] at H
   try simp only at H
   rw [rounds_succ]
   go_wp2_with (first | (go_at_call 44; refine (ls_blank.calls k g x8_0 x9_0 x1_1 x2_1 x3_1 x4_1 x5_1 x6_1 false x8_1 x9_1 w0 _ HN.out.st HN.out.below AR.out).mono ?_; rintro e wa1 ⟨rfl, h1, h2, h3⟩; have HN1 := Ad.mk (HN.out.call h1 h2 h3); clear HN h1 h2 h3) | ((with_reducible refine gate_dst (N := 7) rfl ?_); refine box_event r1_ (N := 7) r1_ (cs := #[.int .i64 0, .string ⟨#[]⟩, .int .i64 0, .string ⟨#[]⟩, .string ⟨#[]⟩, .int .i64 0]) (t := 56) r2_ ?_; intro gy hgy wb1 hbox hb; have HN2 := Ad.mk (HN1.out.lower hb); have HY := Ad.mk hbox; have HF := Ad.mk (show w0.heap.size ≤ gy ∧ w.heap.size ≤ gy ∧ gy ≠ g ∧ gy ≠ gb ∧ gy ≠ gs from ⟨by rw [hgy]; exact HN1.out.below.size, by rw [hgy]; exact HN1.out.keep.1, by have G0 := HN1; exact z16_, by have G0 := HN1; exact z17_, by have G0 := HN1; exact z18_⟩); clear HN1 hgy hbox hb) | ((with_reducible refine gate_store (t := 56) (p := 7) rfl ?_); refine store_seg (gy := gy) (j := 0) (T := 56) (TB := 56) (cs := #[.int .i64 0, .string ⟨#[]⟩, .int .i64 0, .string ⟨#[]⟩, .string ⟨#[]⟩, .int .i64 0]) (new := #[.int .i64 x1_1, .string x2_1, .int .i64 x3_1, .string x4_1, .string x5_1, .int .i64 x6_1]) (u := .agg #[.int .i64 x1_1, .string x2_1, .int .i64 x3_1, .string x4_1, .string x5_1, .int .i64 x6_1]) (seg := [.int .i64 x1_1, .string x2_1, .int .i64 x3_1, .string x4_1, .string x5_1, .int .i64 x6_1]) rfl (p := .tmp 7) (x := .tmp 49) rfl rfl r1_ r1_ r1_ HY.out k1_ s1_ h1_ rfl ?_; intro wd1 hz hup; have HN := Ad.mk (HN2.out.upd hup HF.out.1 HF.out.2.1 HF.out.2.2.1 HF.out.2.2.2.1 HF.out.2.2.2.2); have HZ := Ad.mk hz; clear HN2 HY hz hup))
   clear HZ HF hf_ AR
   obtain ⟨⟨x1_2, x2_2, x3_2, x4_2, x5_2, x6_2, x7_2, x8_2, x9_2⟩, A, H⟩ := Option.bind_eq_some_iff.mp H
   try simp only at H
   have AR := Ad.mk A
   clear A
   have hf_ : wd1.cell? ⟨gs, 2, none⟩ = some (.func (.func 45) #[.pointer (some ⟨g, 0, none⟩)] #[]) := (blk_cell HN.out.rows 2).trans rfl
   cases x7_2 with
   | true =>
    rw [if_pos rfl] at H
    simp only [Option.some.injEq, Prod.mk.injEq] at H
    obtain ⟨rfl, rfl, rfl, rfl, rfl, rfl, rfl, rfl, rfl⟩ := H
    rw [rounds_succ]
    go_wp2_with (first | (go_at_call 45; refine (ls_text.calls k g x8_1 x9_1 x1_2 x2_2 x3_2 x4_2 x5_2 x6_2 true x8_2 x9_2 w0 _ HN.out.st HN.out.below AR.out).mono ?_; rintro e wa2 ⟨rfl, h1, h2, h3⟩; have HN1 := Ad.mk (HN.out.call h1 h2 h3); clear HN h1 h2 h3) | ((with_reducible refine gate_dst (N := 7) rfl ?_); refine box_event r1_ (N := 7) r1_ (cs := #[.int .i64 0, .string ⟨#[]⟩, .int .i64 0, .string ⟨#[]⟩, .string ⟨#[]⟩, .int .i64 0]) (t := 56) r2_ ?_; intro gy hgy wb2 hbox hb; have HN2 := Ad.mk (HN1.out.lower hb); have HY := Ad.mk hbox; have HF := Ad.mk (show w0.heap.size ≤ gy ∧ w.heap.size ≤ gy ∧ gy ≠ g ∧ gy ≠ gb ∧ gy ≠ gs from ⟨by rw [hgy]; exact HN1.out.below.size, by rw [hgy]; exact HN1.out.keep.1, by have G0 := HN1; exact z16_, by have G0 := HN1; exact z17_, by have G0 := HN1; exact z18_⟩); clear HN1 hgy hbox hb) | ((with_reducible refine gate_store (t := 56) (p := 7) rfl ?_); refine store_seg (gy := gy) (j := 0) (T := 56) (TB := 56) (cs := #[.int .i64 0, .string ⟨#[]⟩, .int .i64 0, .string ⟨#[]⟩, .string ⟨#[]⟩, .int .i64 0]) (new := #[.int .i64 x1_2, .string x2_2, .int .i64 x3_2, .string x4_2, .string x5_2, .int .i64 x6_2]) (u := .agg #[.int .i64 x1_2, .string x2_2, .int .i64 x3_2, .string x4_2, .string x5_2, .int .i64 x6_2]) (seg := [.int .i64 x1_2, .string x2_2, .int .i64 x3_2, .string x4_2, .string x5_2, .int .i64 x6_2]) rfl (p := .tmp 7) (x := .tmp 49) rfl rfl r1_ r1_ r1_ HY.out k1_ s1_ h1_ rfl ?_; intro wd2 hz hup; have HN := Ad.mk (HN2.out.upd hup HF.out.1 HF.out.2.1 HF.out.2.2.1 HF.out.2.2.2.1 HF.out.2.2.2.2); have HZ := Ad.mk hz; clear HN2 HY hz hup) | ((with_reducible refine gate_store (t := 3) (p := 53) rfl ?_); refine store_seg (gy := gy) (j := 5) (T := 3) (TB := 56) (cs := #[.int .i64 x1_2, .string x2_2, .int .i64 x3_2, .string x4_2, .string x5_2, .int .i64 x6_2]) (new := #[.int .i64 x1_2, .string x2_2, .int .i64 x3_2, .string x4_2, .string x5_2, .int .i64 a1]) (u := .int .i64 a1) (seg := [.int .i64 a1]) rfl (p := .tmp 53) (x := .tmp 52) rfl rfl r1_ r1_ r1_ HZ.out k1_ s1_ h1_ rfl ?_; intro we2 hz hup; have HN3 := Ad.mk (HN.out.upd hup HF.out.1 HF.out.2.1 HF.out.2.2.1 HF.out.2.2.2.1 HF.out.2.2.2.2); have HZ2 := Ad.mk hz; clear HN HZ hup; have hl0_ := (blk_cell hz 0).trans (show _ = some (.int .i64 x1_2) from rfl); have hl1_ := (blk_cell hz 1).trans (show _ = some (.string x2_2) from rfl); have hl2_ := (blk_cell hz 2).trans (show _ = some (.int .i64 x3_2) from rfl); have hl3_ := (blk_cell hz 3).trans (show _ = some (.string x4_2) from rfl); have hl4_ := (blk_cell hz 4).trans (show _ = some (.string x5_2) from rfl); have hl5_ := (blk_cell hz 5).trans (show _ = some (.int .i64 a1) from rfl); clear hz) | ((with_reducible refine gate_store (t := 56) (p := 2) rfl ?_); refine store_seg (gy := gb) (j := 0) (T := 56) (TB := 56) (cs := #[.int .i64 0, .string ⟨#[]⟩, .int .i64 0, .string ⟨#[]⟩, .string ⟨#[]⟩, .int .i64 0]) (new := #[.int .i64 x1_2, .string x2_2, .int .i64 x3_2, .string x4_2, .string x5_2, .int .i64 a1]) (u := .agg #[.int .i64 x1_2, .string x2_2, .int .i64 x3_2, .string x4_2, .string x5_2, .int .i64 a1]) (seg := [.int .i64 x1_2, .string x2_2, .int .i64 x3_2, .string x4_2, .string x5_2, .int .i64 a1]) rfl (p := .tmp 2) (x := .tmp 54) rfl rfl r1_ r1_ r1_ HN3.out.res k1_ s1_ h1_ rfl ?_; intro wf2 hz hup; have HN4 := Ad.mk (HN3.out.fill hup (Nat.le_trans HW0.out HN3.out.gbw) hz); clear HN3 hz hup))
    refine bodyPost_ret (results_ct rfl _ _ gb 56 #[.int .i64 x1_2, .string x2_2, .int .i64 x3_2, .string x4_2, .string x5_2, .int .i64 a1] (0, 0) _ rfl HN4.out.res Tryd.underlying56 rfl k1_) rfl ?_
    exact ⟨rfl, HN4.out.st, HN4.out.below, HN4.out.keep⟩
   | false =>
    rw [if_neg (by decide)] at H
    try simp only at H
    rw [rounds_succ]
    go_wp2_with (first | (go_at_call 45; refine (ls_text.calls k g x8_1 x9_1 x1_2 x2_2 x3_2 x4_2 x5_2 x6_2 false x8_2 x9_2 w0 _ HN.out.st HN.out.below AR.out).mono ?_; rintro e wa2 ⟨rfl, h1, h2, h3⟩; have HN1 := Ad.mk (HN.out.call h1 h2 h3); clear HN h1 h2 h3) | ((with_reducible refine gate_dst (N := 7) rfl ?_); refine box_event r1_ (N := 7) r1_ (cs := #[.int .i64 0, .string ⟨#[]⟩, .int .i64 0, .string ⟨#[]⟩, .string ⟨#[]⟩, .int .i64 0]) (t := 56) r2_ ?_; intro gy hgy wb2 hbox hb; have HN2 := Ad.mk (HN1.out.lower hb); have HY := Ad.mk hbox; have HF := Ad.mk (show w0.heap.size ≤ gy ∧ w.heap.size ≤ gy ∧ gy ≠ g ∧ gy ≠ gb ∧ gy ≠ gs from ⟨by rw [hgy]; exact HN1.out.below.size, by rw [hgy]; exact HN1.out.keep.1, by have G0 := HN1; exact z16_, by have G0 := HN1; exact z17_, by have G0 := HN1; exact z18_⟩); clear HN1 hgy hbox hb) | ((with_reducible refine gate_store (t := 56) (p := 7) rfl ?_); refine store_seg (gy := gy) (j := 0) (T := 56) (TB := 56) (cs := #[.int .i64 0, .string ⟨#[]⟩, .int .i64 0, .string ⟨#[]⟩, .string ⟨#[]⟩, .int .i64 0]) (new := #[.int .i64 x1_2, .string x2_2, .int .i64 x3_2, .string x4_2, .string x5_2, .int .i64 x6_2]) (u := .agg #[.int .i64 x1_2, .string x2_2, .int .i64 x3_2, .string x4_2, .string x5_2, .int .i64 x6_2]) (seg := [.int .i64 x1_2, .string x2_2, .int .i64 x3_2, .string x4_2, .string x5_2, .int .i64 x6_2]) rfl (p := .tmp 7) (x := .tmp 49) rfl rfl r1_ r1_ r1_ HY.out k1_ s1_ h1_ rfl ?_; intro wd2 hz hup; have HN := Ad.mk (HN2.out.upd hup HF.out.1 HF.out.2.1 HF.out.2.2.1 HF.out.2.2.2.1 HF.out.2.2.2.2); have HZ := Ad.mk hz; clear HN2 HY hz hup))
    clear HZ HF hf_ AR
    obtain ⟨⟨x1_3, x2_3, x3_3, x4_3, x5_3, x6_3, x7_3, x8_3, x9_3⟩, A, H⟩ := Option.bind_eq_some_iff.mp H
    try simp only at H
    have AR := Ad.mk A
    clear A
    have hf_ : wd2.cell? ⟨gs, 3, none⟩ = some (.func (.func 46) #[.pointer (some ⟨g, 0, none⟩)] #[]) := (blk_cell HN.out.rows 3).trans rfl
    cases x7_3 with
    | true =>
     rw [if_pos rfl] at H
     simp only [Option.some.injEq, Prod.mk.injEq] at H
     obtain ⟨rfl, rfl, rfl, rfl, rfl, rfl, rfl, rfl, rfl⟩ := H
     rw [rounds_succ]
     go_wp2_with (first | (go_at_call 46; refine (ls_lang.calls k g x8_2 x9_2 x1_3 x2_3 x3_3 x4_3 x5_3 x6_3 true x8_3 x9_3 w0 _ HN.out.st HN.out.below AR.out).mono ?_; rintro e wa3 ⟨rfl, h1, h2, h3⟩; have HN1 := Ad.mk (HN.out.call h1 h2 h3); clear HN h1 h2 h3) | ((with_reducible refine gate_dst (N := 7) rfl ?_); refine box_event r1_ (N := 7) r1_ (cs := #[.int .i64 0, .string ⟨#[]⟩, .int .i64 0, .string ⟨#[]⟩, .string ⟨#[]⟩, .int .i64 0]) (t := 56) r2_ ?_; intro gy hgy wb3 hbox hb; have HN2 := Ad.mk (HN1.out.lower hb); have HY := Ad.mk hbox; have HF := Ad.mk (show w0.heap.size ≤ gy ∧ w.heap.size ≤ gy ∧ gy ≠ g ∧ gy ≠ gb ∧ gy ≠ gs from ⟨by rw [hgy]; exact HN1.out.below.size, by rw [hgy]; exact HN1.out.keep.1, by have G0 := HN1; exact z16_, by have G0 := HN1; exact z17_, by have G0 := HN1; exact z18_⟩); clear HN1 hgy hbox hb) | ((with_reducible refine gate_store (t := 56) (p := 7) rfl ?_); refine store_seg (gy := gy) (j := 0) (T := 56) (TB := 56) (cs := #[.int .i64 0, .string ⟨#[]⟩, .int .i64 0, .string ⟨#[]⟩, .string ⟨#[]⟩, .int .i64 0]) (new := #[.int .i64 x1_3, .string x2_3, .int .i64 x3_3, .string x4_3, .string x5_3, .int .i64 x6_3]) (u := .agg #[.int .i64 x1_3, .string x2_3, .int .i64 x3_3, .string x4_3, .string x5_3, .int .i64 x6_3]) (seg := [.int .i64 x1_3, .string x2_3, .int .i64 x3_3, .string x4_3, .string x5_3, .int .i64 x6_3]) rfl (p := .tmp 7) (x := .tmp 49) rfl rfl r1_ r1_ r1_ HY.out k1_ s1_ h1_ rfl ?_; intro wd3 hz hup; have HN := Ad.mk (HN2.out.upd hup HF.out.1 HF.out.2.1 HF.out.2.2.1 HF.out.2.2.2.1 HF.out.2.2.2.2); have HZ := Ad.mk hz; clear HN2 HY hz hup) | ((with_reducible refine gate_store (t := 3) (p := 53) rfl ?_); refine store_seg (gy := gy) (j := 5) (T := 3) (TB := 56) (cs := #[.int .i64 x1_3, .string x2_3, .int .i64 x3_3, .string x4_3, .string x5_3, .int .i64 x6_3]) (new := #[.int .i64 x1_3, .string x2_3, .int .i64 x3_3, .string x4_3, .string x5_3, .int .i64 a1]) (u := .int .i64 a1) (seg := [.int .i64 a1]) rfl (p := .tmp 53) (x := .tmp 52) rfl rfl r1_ r1_ r1_ HZ.out k1_ s1_ h1_ rfl ?_; intro we3 hz hup; have HN3 := Ad.mk (HN.out.upd hup HF.out.1 HF.out.2.1 HF.out.2.2.1 HF.out.2.2.2.1 HF.out.2.2.2.2); have HZ2 := Ad.mk hz; clear HN HZ hup; have hl0_ := (blk_cell hz 0).trans (show _ = some (.int .i64 x1_3) from rfl); have hl1_ := (blk_cell hz 1).trans (show _ = some (.string x2_3) from rfl); have hl2_ := (blk_cell hz 2).trans (show _ = some (.int .i64 x3_3) from rfl); have hl3_ := (blk_cell hz 3).trans (show _ = some (.string x4_3) from rfl); have hl4_ := (blk_cell hz 4).trans (show _ = some (.string x5_3) from rfl); have hl5_ := (blk_cell hz 5).trans (show _ = some (.int .i64 a1) from rfl); clear hz) | ((with_reducible refine gate_store (t := 56) (p := 2) rfl ?_); refine store_seg (gy := gb) (j := 0) (T := 56) (TB := 56) (cs := #[.int .i64 0, .string ⟨#[]⟩, .int .i64 0, .string ⟨#[]⟩, .string ⟨#[]⟩, .int .i64 0]) (new := #[.int .i64 x1_3, .string x2_3, .int .i64 x3_3, .string x4_3, .string x5_3, .int .i64 a1]) (u := .agg #[.int .i64 x1_3, .string x2_3, .int .i64 x3_3, .string x4_3, .string x5_3, .int .i64 a1]) (seg := [.int .i64 x1_3, .string x2_3, .int .i64 x3_3, .string x4_3, .string x5_3, .int .i64 a1]) rfl (p := .tmp 2) (x := .tmp 54) rfl rfl r1_ r1_ r1_ HN3.out.res k1_ s1_ h1_ rfl ?_; intro wf3 hz hup; have HN4 := Ad.mk (HN3.out.fill hup (Nat.le_trans HW0.out HN3.out.gbw) hz); clear HN3 hz hup))
     refine bodyPost_ret (results_ct rfl _ _ gb 56 #[.int .i64 x1_3, .string x2_3, .int .i64 x3_3, .string x4_3, .string x5_3, .int .i64 a1] (0, 0) _ rfl HN4.out.res Tryd.underlying56 rfl k1_) rfl ?_
     exact ⟨rfl, HN4.out.st, HN4.out.below, HN4.out.keep⟩
    | false =>
     rw [if_neg (by decide)] at H
     try simp only at H
     rw [rounds_succ]
     go_wp2_with (first | (go_at_call 46; refine (ls_lang.calls k g x8_2 x9_2 x1_3 x2_3 x3_3 x4_3 x5_3 x6_3 false x8_3 x9_3 w0 _ HN.out.st HN.out.below AR.out).mono ?_; rintro e wa3 ⟨rfl, h1, h2, h3⟩; have HN1 := Ad.mk (HN.out.call h1 h2 h3); clear HN h1 h2 h3) | ((with_reducible refine gate_dst (N := 7) rfl ?_); refine box_event r1_ (N := 7) r1_ (cs := #[.int .i64 0, .string ⟨#[]⟩, .int .i64 0, .string ⟨#[]⟩, .string ⟨#[]⟩, .int .i64 0]) (t := 56) r2_ ?_; intro gy hgy wb3 hbox hb; have HN2 := Ad.mk (HN1.out.lower hb); have HY := Ad.mk hbox; have HF := Ad.mk (show w0.heap.size ≤ gy ∧ w.heap.size ≤ gy ∧ gy ≠ g ∧ gy ≠ gb ∧ gy ≠ gs from ⟨by rw [hgy]; exact HN1.out.below.size, by rw [hgy]; exact HN1.out.keep.1, by have G0 := HN1; exact z16_, by have G0 := HN1; exact z17_, by have G0 := HN1; exact z18_⟩); clear HN1 hgy hbox hb) | ((with_reducible refine gate_store (t := 56) (p := 7) rfl ?_); refine store_seg (gy := gy) (j := 0) (T := 56) (TB := 56) (cs := #[.int .i64 0, .string ⟨#[]⟩, .int .i64 0, .string ⟨#[]⟩, .string ⟨#[]⟩, .int .i64 0]) (new := #[.int .i64 x1_3, .string x2_3, .int .i64 x3_3, .string x4_3, .string x5_3, .int .i64 x6_3]) (u := .agg #[.int .i64 x1_3, .string x2_3, .int .i64 x3_3, .string x4_3, .string x5_3, .int .i64 x6_3]) (seg := [.int .i64 x1_3, .string x2_3, .int .i64 x3_3, .string x4_3, .string x5_3, .int .i64 x6_3]) rfl (p := .tmp 7) (x := .tmp 49) rfl rfl r1_ r1_ r1_ HY.out k1_ s1_ h1_ rfl ?_; intro wd3 hz hup; have HN := Ad.mk (HN2.out.upd hup HF.out.1 HF.out.2.1 HF.out.2.2.1 HF.out.2.2.2.1 HF.out.2.2.2.2); have HZ := Ad.mk hz; clear HN2 HY hz hup))
     clear HZ HF hf_ AR
     obtain ⟨⟨x1_4, x2_4, x3_4, x4_4, x5_4, x6_4, x7_4, x8_4, x9_4⟩, A, H⟩ := Option.bind_eq_some_iff.mp H
     try simp only at H
     have AR := Ad.mk A
     clear A
     have hf_ : wd3.cell? ⟨gs, 4, none⟩ = some (.func (.func 47) #[.pointer (some ⟨g, 0, none⟩)] #[]) := (blk_cell HN.out.rows 4).trans rfl
     cases x7_4 with
     | true =>
      rw [if_pos rfl] at H
      simp only [Option.some.injEq, Prod.mk.injEq] at H
      obtain ⟨rfl, rfl, rfl, rfl, rfl, rfl, rfl, rfl, rfl⟩ := H
      rw [rounds_succ]
      go_wp2_with (first | (go_at_call 47; refine (ls_variable.calls k g x8_3 x9_3 x1_4 x2_4 x3_4 x4_4 x5_4 x6_4 true x8_4 x9_4 w0 _ HN.out.st HN.out.below AR.out).mono ?_; rintro e wa4 ⟨rfl, h1, h2, h3⟩; have HN1 := Ad.mk (HN.out.call h1 h2 h3); clear HN h1 h2 h3) | ((with_reducible refine gate_dst (N := 7) rfl ?_); refine box_event r1_ (N := 7) r1_ (cs := #[.int .i64 0, .string ⟨#[]⟩, .int .i64 0, .string ⟨#[]⟩, .string ⟨#[]⟩, .int .i64 0]) (t := 56) r2_ ?_; intro gy hgy wb4 hbox hb; have HN2 := Ad.mk (HN1.out.lower hb); have HY := Ad.mk hbox; have HF := Ad.mk (show w0.heap.size ≤ gy ∧ w.heap.size ≤ gy ∧ gy ≠ g ∧ gy ≠ gb ∧ gy ≠ gs from ⟨by rw [hgy]; exact HN1.out.below.size, by rw [hgy]; exact HN1.out.keep.1, by have G0 := HN1; exact z16_, by have G0 := HN1; exact z17_, by have G0 := HN1; exact z18_⟩); clear HN1 hgy hbox hb) | ((with_reducible refine gate_store (t := 56) (p := 7) rfl ?_); refine store_seg (gy := gy) (j := 0) (T := 56) (TB := 56) (cs := #[.int .i64 0, .string ⟨#[]⟩, .int .i64 0, .string ⟨#[]⟩, .string ⟨#[]⟩, .int .i64 0]) (new := #[.int .i64 x1_4, .string x2_4, .int .i64 x3_4, .string x4_4, .string x5_4, .int .i64 x6_4]) (u := .agg #[.int .i64 x1_4, .string x2_4, .int .i64 x3_4, .string x4_4, .string x5_4, .int .i64 x6_4]) (seg := [.int .i64 x1_4, .string x2_4, .int .i64 x3_4, .string x4_4, .string x5_4, .int .i64 x6_4]) rfl (p := .tmp 7) (x := .tmp 49) rfl rfl r1_ r1_ r1_ HY.out k1_ s1_ h1_ rfl ?_; intro wd4 hz hup; have HN := Ad.mk (HN2.out.upd hup HF.out.1 HF.out.2.1 HF.out.2.2.1 HF.out.2.2.2.1 HF.out.2.2.2.2); have HZ := Ad.mk hz; clear HN2 HY hz hup) | ((with_reducible refine gate_store (t := 3) (p := 53) rfl ?_); refine store_seg (gy := gy) (j := 5) (T := 3) (TB := 56) (cs := #[.int .i64 x1_4, .string x2_4, .int .i64 x3_4, .string x4_4, .string x5_4, .int .i64 x6_4]) (new := #[.int .i64 x1_4, .string x2_4, .int .i64 x3_4, .string x4_4, .string x5_4, .int .i64 a1]) (u := .int .i64 a1) (seg := [.int .i64 a1]) rfl (p := .tmp 53) (x := .tmp 52) rfl rfl r1_ r1_ r1_ HZ.out k1_ s1_ h1_ rfl ?_; intro we4 hz hup; have HN3 := Ad.mk (HN.out.upd hup HF.out.1 HF.out.2.1 HF.out.2.2.1 HF.out.2.2.2.1 HF.out.2.2.2.2); have HZ2 := Ad.mk hz; clear HN HZ hup; have hl0_ := (blk_cell hz 0).trans (show _ = some (.int .i64 x1_4) from rfl); have hl1_ := (blk_cell hz 1).trans (show _ = some (.string x2_4) from rfl); have hl2_ := (blk_cell hz 2).trans (show _ = some (.int .i64 x3_4) from rfl); have hl3_ := (blk_cell hz 3).trans (show _ = some (.string x4_4) from rfl); have hl4_ := (blk_cell hz 4).trans (show _ = some (.string x5_4) from rfl); have hl5_ := (blk_cell hz 5).trans (show _ = some (.int .i64 a1) from rfl); clear hz) | ((with_reducible refine gate_store (t := 56) (p := 2) rfl ?_); refine store_seg (gy := gb) (j := 0) (T := 56) (TB := 56) (cs := #[.int .i64 0, .string ⟨#[]⟩, .int .i64 0, .string ⟨#[]⟩, .string ⟨#[]⟩, .int .i64 0]) (new := #[.int .i64 x1_4, .string x2_4, .int .i64 x3_4, .string x4_4, .string x5_4, .int .i64 a1]) (u := .agg #[.int .i64 x1_4, .string x2_4, .int .i64 x3_4, .string x4_4, .string x5_4, .int .i64 a1]) (seg := [.int .i64 x1_4, .string x2_4, .int .i64 x3_4, .string x4_4, .string x5_4, .int .i64 a1]) rfl (p := .tmp 2) (x := .tmp 54) rfl rfl r1_ r1_ r1_ HN3.out.res k1_ s1_ h1_ rfl ?_; intro wf4 hz hup; have HN4 := Ad.mk (HN3.out.fill hup (Nat.le_trans HW0.out HN3.out.gbw) hz); clear HN3 hz hup))
      refine bodyPost_ret (results_ct rfl _ _ gb 56 #[.int .i64 x1_4, .string x2_4, .int .i64 x3_4, .string x4_4, .string x5_4, .int .i64 a1] (0, 0) _ rfl HN4.out.res Tryd.underlying56 rfl k1_) rfl ?_
      exact ⟨rfl, HN4.out.st, HN4.out.below, HN4.out.keep⟩
     | false =>
      rw [if_neg (by decide)] at H
      try simp only at H
      rw [rounds_succ]
      go_wp2_with (first | (go_at_call 47; refine (ls_variable.calls k g x8_3 x9_3 x1_4 x2_4 x3_4 x4_4 x5_4 x6_4 false x8_4 x9_4 w0 _ HN.out.st HN.out.below AR.out).mono ?_; rintro e wa4 ⟨rfl, h1, h2, h3⟩; have HN1 := Ad.mk (HN.out.call h1 h2 h3); clear HN h1 h2 h3) | ((with_reducible refine gate_dst (N := 7) rfl ?_); refine box_event r1_ (N := 7) r1_ (cs := #[.int .i64 0, .string ⟨#[]⟩, .int .i64 0, .string ⟨#[]⟩, .string ⟨#[]⟩, .int .i64 0]) (t := 56) r2_ ?_; intro gy hgy wb4 hbox hb; have HN2 := Ad.mk (HN1.out.lower hb); have HY := Ad.mk hbox; have HF := Ad.mk (show w0.heap.size ≤ gy ∧ w.heap.size ≤ gy ∧ gy ≠ g ∧ gy ≠ gb ∧ gy ≠ gs from ⟨by rw [hgy]; exact HN1.out.below.size, by rw [hgy]; exact HN1.out.keep.1, by have G0 := HN1; exact z16_, by have G0 := HN1; exact z17_, by have G0 := HN1; exact z18_⟩); clear HN1 hgy hbox hb) | ((with_reducible refine gate_store (t := 56) (p := 7) rfl ?_); refine store_seg (gy := gy) (j := 0) (T := 56) (TB := 56) (cs := #[.int .i64 0, .string ⟨#[]⟩, .int .i64 0, .string ⟨#[]⟩, .string ⟨#[]⟩, .int .i64 0]) (new := #[.int .i64 x1_4, .string x2_4, .int .i64 x3_4, .string x4_4, .string x5_4, .int .i64 x6_4]) (u := .agg #[.int .i64 x1_4, .string x2_4, .int .i64 x3_4, .string x4_4, .string x5_4, .int .i64 x6_4]) (seg := [.int .i64 x1_4, .string x2_4, .int .i64 x3_4, .string x4_4, .string x5_4, .int .i64 x6_4]) rfl (p := .tmp 7) (x := .tmp 49) rfl rfl r1_ r1_ r1_ HY.out k1_ s1_ h1_ rfl ?_; intro wd4 hz hup; have HN := Ad.mk (HN2.out.upd hup HF.out.1 HF.out.2.1 HF.out.2.2.1 HF.out.2.2.2.1 HF.out.2.2.2.2); have HZ := Ad.mk hz; clear HN2 HY hz hup))
      clear HZ HF hf_ AR
      obtain ⟨⟨x1_5, x2_5, x3_5, x4_5, x5_5, x6_5, x7_5, x8_5, x9_5⟩, A, H⟩ := Option.bind_eq_some_iff.mp H
      try simp only at H
      have AR := Ad.mk A
      clear A
      have hf_ : wd4.cell? ⟨gs, 5, none⟩ = some (.func (.func 48) #[.pointer (some ⟨g, 0, none⟩)] #[]) := (blk_cell HN.out.rows 5).trans rfl
      cases x7_5 with
      | true =>
       rw [if_pos rfl] at H
       simp only [Option.some.injEq, Prod.mk.injEq] at H
       obtain ⟨rfl, rfl, rfl, rfl, rfl, rfl, rfl, rfl, rfl⟩ := H
       rw [rounds_succ]
       go_wp2_with (first | (go_at_call 48; refine (ls_word.calls k g x8_4 x9_4 x1_5 x2_5 x3_5 x4_5 x5_5 x6_5 true x8_5 x9_5 w0 _ HN.out.st HN.out.below AR.out).mono ?_; rintro e wa5 ⟨rfl, h1, h2, h3⟩; have HN1 := Ad.mk (HN.out.call h1 h2 h3); clear HN h1 h2 h3) | ((with_reducible refine gate_dst (N := 7) rfl ?_); refine box_event r1_ (N := 7) r1_ (cs := #[.int .i64 0, .string ⟨#[]⟩, .int .i64 0, .string ⟨#[]⟩, .string ⟨#[]⟩, .int .i64 0]) (t := 56) r2_ ?_; intro gy hgy wb5 hbox hb; have HN2 := Ad.mk (HN1.out.lower hb); have HY := Ad.mk hbox; have HF := Ad.mk (show w0.heap.size ≤ gy ∧ w.heap.size ≤ gy ∧ gy ≠ g ∧ gy ≠ gb ∧ gy ≠ gs from ⟨by rw [hgy]; exact HN1.out.below.size, by rw [hgy]; exact HN1.out.keep.1, by have G0 := HN1; exact z16_, by have G0 := HN1; exact z17_, by have G0 := HN1; exact z18_⟩); clear HN1 hgy hbox hb) | ((with_reducible refine gate_store (t := 56) (p := 7) rfl ?_); refine store_seg (gy := gy) (j := 0) (T := 56) (TB := 56) (cs := #[.int .i64 0, .string ⟨#[]⟩, .int .i64 0, .string ⟨#[]⟩, .string ⟨#[]⟩, .int .i64 0]) (new := #[.int .i64 x1_5, .string x2_5, .int .i64 x3_5, .string x4_5, .string x5_5, .int .i64 x6_5]) (u := .agg #[.int .i64 x1_5, .string x2_5, .int .i64 x3_5, .string x4_5, .string x5_5, .int .i64 x6_5]) (seg := [.int .i64 x1_5, .string x2_5, .int .i64 x3_5, .string x4_5, .string x5_5, .int .i64 x6_5]) rfl (p := .tmp 7) (x := .tmp 49) rfl rfl r1_ r1_ r1_ HY.out k1_ s1_ h1_ rfl ?_; intro wd5 hz hup; have HN := Ad.mk (HN2.out.upd hup HF.out.1 HF.out.2.1 HF.out.2.2.1 HF.out.2.2.2.1 HF.out.2.2.2.2); have HZ := Ad.mk hz; clear HN2 HY hz hup) | ((with_reducible refine gate_store (t := 3) (p := 53) rfl ?_); refine store_seg (gy := gy) (j := 5) (T := 3) (TB := 56) (cs := #[.int .i64 x1_5, .string x2_5, .int .i64 x3_5, .string x4_5, .string x5_5, .int .i64 x6_5]) (new := #[.int .i64 x1_5, .string x2_5, .int .i64 x3_5, .string x4_5, .string x5_5, .int .i64 a1]) (u := .int .i64 a1) (seg := [.int .i64 a1]) rfl (p := .tmp 53) (x := .tmp 52) rfl rfl r1_ r1_ r1_ HZ.out k1_ s1_ h1_ rfl ?_; intro we5 hz hup; have HN3 := Ad.mk (HN.out.upd hup HF.out.1 HF.out.2.1 HF.out.2.2.1 HF.out.2.2.2.1 HF.out.2.2.2.2); have HZ2 := Ad.mk hz; clear HN HZ hup; have hl0_ := (blk_cell hz 0).trans (show _ = some (.int .i64 x1_5) from rfl); have hl1_ := (blk_cell hz 1).trans (show _ = some (.string x2_5) from rfl); have hl2_ := (blk_cell hz 2).trans (show _ = some (.int .i64 x3_5) from rfl); have hl3_ := (blk_cell hz 3).trans (show _ = some (.string x4_5) from rfl); have hl4_ := (blk_cell hz 4).trans (show _ = some (.string x5_5) from rfl); have hl5_ := (blk_cell hz 5).trans (show _ = some (.int .i64 a1) from rfl); clear hz) | ((with_reducible refine gate_store (t := 56) (p := 2) rfl ?_); refine store_seg (gy := gb) (j := 0) (T := 56) (TB := 56) (cs := #[.int .i64 0, .string ⟨#[]⟩, .int .i64 0, .string ⟨#[]⟩, .string ⟨#[]⟩, .int .i64 0]) (new := #[.int .i64 x1_5, .string x2_5, .int .i64 x3_5, .string x4_5, .string x5_5, .int .i64 a1]) (u := .agg #[.int .i64 x1_5, .string x2_5, .int .i64 x3_5, .string x4_5, .string x5_5, .int .i64 a1]) (seg := [.int .i64 x1_5, .string x2_5, .int .i64 x3_5, .string x4_5, .string x5_5, .int .i64 a1]) rfl (p := .tmp 2) (x := .tmp 54) rfl rfl r1_ r1_ r1_ HN3.out.res k1_ s1_ h1_ rfl ?_; intro wf5 hz hup; have HN4 := Ad.mk (HN3.out.fill hup (Nat.le_trans HW0.out HN3.out.gbw) hz); clear HN3 hz hup))
       refine bodyPost_ret (results_ct rfl _ _ gb 56 #[.int .i64 x1_5, .string x2_5, .int .i64 x3_5, .string x4_5, .string x5_5, .int .i64 a1] (0, 0) _ rfl HN4.out.res Tryd.underlying56 rfl k1_) rfl ?_
       exact ⟨rfl, HN4.out.st, HN4.out.below, HN4.out.keep⟩
      | false =>
       rw [if_neg (by decide)] at H
       try simp only at H
       rw [rounds_succ]
       go_wp2_with (first | (go_at_call 48; refine (ls_word.calls k g x8_4 x9_4 x1_5 x2_5 x3_5 x4_5 x5_5 x6_5 false x8_5 x9_5 w0 _ HN.out.st HN.out.below AR.out).mono ?_; rintro e wa5 ⟨rfl, h1, h2, h3⟩; have HN1 := Ad.mk (HN.out.call h1 h2 h3); clear HN h1 h2 h3) | ((with_reducible refine gate_dst (N := 7) rfl ?_); refine box_event r1_ (N := 7) r1_ (cs := #[.int .i64 0, .string ⟨#[]⟩, .int .i64 0, .string ⟨#[]⟩, .string ⟨#[]⟩, .int .i64 0]) (t := 56) r2_ ?_; intro gy hgy wb5 hbox hb; have HN2 := Ad.mk (HN1.out.lower hb); have HY := Ad.mk hbox; have HF := Ad.mk (show w0.heap.size ≤ gy ∧ w.heap.size ≤ gy ∧ gy ≠ g ∧ gy ≠ gb ∧ gy ≠ gs from ⟨by rw [hgy]; exact HN1.out.below.size, by rw [hgy]; exact HN1.out.keep.1, by have G0 := HN1; exact z16_, by have G0 := HN1; exact z17_, by have G0 := HN1; exact z18_⟩); clear HN1 hgy hbox hb) | ((with_reducible refine gate_store (t := 56) (p := 7) rfl ?_); refine store_seg (gy := gy) (j := 0) (T := 56) (TB := 56) (cs := #[.int .i64 0, .string ⟨#[]⟩, .int .i64 0, .string ⟨#[]⟩, .string ⟨#[]⟩, .int .i64 0]) (new := #[.int .i64 x1_5, .string x2_5, .int .i64 x3_5, .string x4_5, .string x5_5, .int .i64 x6_5]) (u := .agg #[.int .i64 x1_5, .string x2_5, .int .i64 x3_5, .string x4_5, .string x5_5, .int .i64 x6_5]) (seg := [.int .i64 x1_5, .string x2_5, .int .i64 x3_5, .string x4_5, .string x5_5, .int .i64 x6_5]) rfl (p := .tmp 7) (x := .tmp 49) rfl rfl r1_ r1_ r1_ HY.out k1_ s1_ h1_ rfl ?_; intro wd5 hz hup; have HN := Ad.mk (HN2.out.upd hup HF.out.1 HF.out.2.1 HF.out.2.2.1 HF.out.2.2.2.1 HF.out.2.2.2.2); have HZ := Ad.mk hz; clear HN2 HY hz hup))
       clear HZ HF hf_ AR
       obtain ⟨⟨x1_6, x2_6, x3_6, x4_6, x5_6, x6_6, x7_6, x8_6, x9_6⟩, A, H⟩ := Option.bind_eq_some_iff.mp H
       try simp only at H
       have AR := Ad.mk A
       clear A
       have hf_ : wd5.cell? ⟨gs, 6, none⟩ = some (.func (.func 49) #[.pointer (some ⟨g, 0, none⟩)] #[]) := (blk_cell HN.out.rows 6).trans rfl
       cases x7_6 with
       | true =>
        rw [if_pos rfl] at H
        simp only [Option.some.injEq, Prod.mk.injEq] at H
        obtain ⟨rfl, rfl, rfl, rfl, rfl, rfl, rfl, rfl, rfl⟩ := H
        rw [rounds_succ]
        go_wp2_with (first | (go_at_call 49; refine (ls_mark.calls k g x8_5 x9_5 x1_6 x2_6 x3_6 x4_6 x5_6 x6_6 true x8_6 x9_6 w0 _ HN.out.st HN.out.below AR.out).mono ?_; rintro e wa6 ⟨rfl, h1, h2, h3⟩; have HN1 := Ad.mk (HN.out.call h1 h2 h3); clear HN h1 h2 h3) | ((with_reducible refine gate_dst (N := 7) rfl ?_); refine box_event r1_ (N := 7) r1_ (cs := #[.int .i64 0, .string ⟨#[]⟩, .int .i64 0, .string ⟨#[]⟩, .string ⟨#[]⟩, .int .i64 0]) (t := 56) r2_ ?_; intro gy hgy wb6 hbox hb; have HN2 := Ad.mk (HN1.out.lower hb); have HY := Ad.mk hbox; have HF := Ad.mk (show w0.heap.size ≤ gy ∧ w.heap.size ≤ gy ∧ gy ≠ g ∧ gy ≠ gb ∧ gy ≠ gs from ⟨by rw [hgy]; exact HN1.out.below.size, by rw [hgy]; exact HN1.out.keep.1, by have G0 := HN1; exact z16_, by have G0 := HN1; exact z17_, by have G0 := HN1; exact z18_⟩); clear HN1 hgy hbox hb) | ((with_reducible refine gate_store (t := 56) (p := 7) rfl ?_); refine store_seg (gy := gy) (j := 0) (T := 56) (TB := 56) (cs := #[.int .i64 0, .string ⟨#[]⟩, .int .i64 0, .string ⟨#[]⟩, .string ⟨#[]⟩, .int .i64 0]) (new := #[.int .i64 x1_6, .string x2_6, .int .i64 x3_6, .string x4_6, .string x5_6, .int .i64 x6_6]) (u := .agg #[.int .i64 x1_6, .string x2_6, .int .i64 x3_6, .string x4_6, .string x5_6, .int .i64 x6_6]) (seg := [.int .i64 x1_6, .string x2_6, .int .i64 x3_6, .string x4_6, .string x5_6, .int .i64 x6_6]) rfl (p := .tmp 7) (x := .tmp 49) rfl rfl r1_ r1_ r1_ HY.out k1_ s1_ h1_ rfl ?_; intro wd6 hz hup; have HN := Ad.mk (HN2.out.upd hup HF.out.1 HF.out.2.1 HF.out.2.2.1 HF.out.2.2.2.1 HF.out.2.2.2.2); have HZ := Ad.mk hz; clear HN2 HY hz hup) | ((with_reducible refine gate_store (t := 3) (p := 53) rfl ?_); refine store_seg (gy := gy) (j := 5) (T := 3) (TB := 56) (cs := #[.int .i64 x1_6, .string x2_6, .int .i64 x3_6, .string x4_6, .string x5_6, .int .i64 x6_6]) (new := #[.int .i64 x1_6, .string x2_6, .int .i64 x3_6, .string x4_6, .string x5_6, .int .i64 a1]) (u := .int .i64 a1) (seg := [.int .i64 a1]) rfl (p := .tmp 53) (x := .tmp 52) rfl rfl r1_ r1_ r1_ HZ.out k1_ s1_ h1_ rfl ?_; intro we6 hz hup; have HN3 := Ad.mk (HN.out.upd hup HF.out.1 HF.out.2.1 HF.out.2.2.1 HF.out.2.2.2.1 HF.out.2.2.2.2); have HZ2 := Ad.mk hz; clear HN HZ hup; have hl0_ := (blk_cell hz 0).trans (show _ = some (.int .i64 x1_6) from rfl); have hl1_ := (blk_cell hz 1).trans (show _ = some (.string x2_6) from rfl); have hl2_ := (blk_cell hz 2).trans (show _ = some (.int .i64 x3_6) from rfl); have hl3_ := (blk_cell hz 3).trans (show _ = some (.string x4_6) from rfl); have hl4_ := (blk_cell hz 4).trans (show _ = some (.string x5_6) from rfl); have hl5_ := (blk_cell hz 5).trans (show _ = some (.int .i64 a1) from rfl); clear hz) | ((with_reducible refine gate_store (t := 56) (p := 2) rfl ?_); refine store_seg (gy := gb) (j := 0) (T := 56) (TB := 56) (cs := #[.int .i64 0, .string ⟨#[]⟩, .int .i64 0, .string ⟨#[]⟩, .string ⟨#[]⟩, .int .i64 0]) (new := #[.int .i64 x1_6, .string x2_6, .int .i64 x3_6, .string x4_6, .string x5_6, .int .i64 a1]) (u := .agg #[.int .i64 x1_6, .string x2_6, .int .i64 x3_6, .string x4_6, .string x5_6, .int .i64 a1]) (seg := [.int .i64 x1_6, .string x2_6, .int .i64 x3_6, .string x4_6, .string x5_6, .int .i64 a1]) rfl (p := .tmp 2) (x := .tmp 54) rfl rfl r1_ r1_ r1_ HN3.out.res k1_ s1_ h1_ rfl ?_; intro wf6 hz hup; have HN4 := Ad.mk (HN3.out.fill hup (Nat.le_trans HW0.out HN3.out.gbw) hz); clear HN3 hz hup))
        refine bodyPost_ret (results_ct rfl _ _ gb 56 #[.int .i64 x1_6, .string x2_6, .int .i64 x3_6, .string x4_6, .string x5_6, .int .i64 a1] (0, 0) _ rfl HN4.out.res Tryd.underlying56 rfl k1_) rfl ?_
        exact ⟨rfl, HN4.out.st, HN4.out.below, HN4.out.keep⟩
       | false =>
        rw [if_neg (by decide)] at H
        cases H
def next_c (k : Nat) (s : ByteArray) (a : Int) : Option Int := (match iri_b k s a with | some q => some q | none => (ls_iri.f k s a).bind fun r => if r.2.2.2.2.2.2.1 = true then none else if r.2.2.2.2.2.2.2.1 = s ∧ r.2.2.2.2.2.2.2.2 = a then (match blank_b k s a with | some q => some q | none => (ls_blank.f k s a).bind fun r => if r.2.2.2.2.2.2.1 = true then none else if r.2.2.2.2.2.2.2.1 = s ∧ r.2.2.2.2.2.2.2.2 = a then (match text_b k s a with | some q => some q | none => (ls_text.f k s a).bind fun r => if r.2.2.2.2.2.2.1 = true then none else if r.2.2.2.2.2.2.2.1 = s ∧ r.2.2.2.2.2.2.2.2 = a then (match lang_b k s a with | some q => some q | none => (ls_lang.f k s a).bind fun r => if r.2.2.2.2.2.2.1 = true then none else if r.2.2.2.2.2.2.2.1 = s ∧ r.2.2.2.2.2.2.2.2 = a then (match variable_b k s a with | some q => some q | none => (ls_variable.f k s a).bind fun r => if r.2.2.2.2.2.2.1 = true then none else if r.2.2.2.2.2.2.2.1 = s ∧ r.2.2.2.2.2.2.2.2 = a then (match word_b k s a with | some q => some q | none => (ls_word.f k s a).bind fun r => if r.2.2.2.2.2.2.1 = true then none else if r.2.2.2.2.2.2.2.1 = s ∧ r.2.2.2.2.2.2.2.2 = a then ((ls_mark.f k s a).bind fun r => if r.2.2.2.2.2.2.1 = true then none else if r.2.2.2.2.2.2.2.1 = s ∧ r.2.2.2.2.2.2.2.2 = a then some a else none) else none) else none) else none) else none) else none) else none)
def next_b (k : Nat) (s : ByteArray) (a : Int) : Option Int := (ls_skip.f k s a).bind fun b => if b.1 = s then (if b.2 ≥ (s.size : Int) then none else next_c k s b.2) else none
theorem NX.z {w0 w W : World} {g gb gs : Nat} {s : ByteArray} {a : Int} {cs fs : Array Value} {T : TypeId} (h : NX w0 w W g gb gs s a cs fs T) : ZX w0 w W g s a := ⟨h.st, h.below, h.keep⟩
set_option maxHeartbeats 4000000 in
set_option maxRecDepth 100000 in
theorem next_bad (k : Nat) (g : Nat) (s0_0 : ByteArray) (s0_1 : Int) (q : Int) (w0 w : World) (hI : IsS65 w0 w g s0_0 s0_1) (hB : Below w0.heap.size w0 w) (h : next_b k s0_0 s0_1 = some q) :
  Calls Tryd.prog 35 #[.pointer (some ⟨g, 0, none⟩)] w fun e w' => Bad w0 w g q e w' := by
 have hmf : ∀ (fn : Fn) (first cap : Array Value) (w : World), (Instr.makeFunc fn first cap).run Tryd.prog w = .ok (.func fn first cap) w := fun _ _ _ _ => rfl
 unfold next_b at h
 obtain ⟨⟨s1, a1⟩, A0, H⟩ := Option.bind_eq_some_iff.mp h
 simp only at H
 clear h
 by_cases hs : s1 = s0_0
 case neg => rw [if_neg hs] at H; cases H
 rw [if_pos hs] at H
 replace hs := hs.symm
 subst hs
 by_cases c1 : a1 ≥ (s0_0.size : Int)
 case pos => rw [if_pos c1] at H; cases H
 rw [if_neg c1] at H
 have c1b : decide (a1 ≥ (s0_0.size : Int)) = false := decide_eq_false c1
 clear c1
 have AS := Ad.mk A0
 clear A0
 have HI := Ad.mk hI
 have HW0 := Ad.mk hB.size
 have HB := Ad.mk hB
 have HH := Ad.mk H
 clear hI hB H
 go_enter Tryd.func35, Tryd.ntmps35
 go_upto_region 2 with (first | ((with_reducible refine gate_dst (N := 2) rfl ?_); refine box_event r1_ (N := 2) r1_ (cs := #[.int .i64 0, .string ⟨#[]⟩, .int .i64 0, .string ⟨#[]⟩, .string ⟨#[]⟩, .int .i64 0]) (t := 56) r2_ ?_; intro gb hgb w1 hbox hb; have HX := Ad.mk (show IsS65 w0 w1 g s0_0 s0_1 ∧ Below w0.heap.size w0 w1 ∧ KeepBut w w1 g none ∧ w1.heap[gb]? = some (.cells #[.int .i64 0, .string ⟨#[]⟩, .int .i64 0, .string ⟨#[]⟩, .string ⟨#[]⟩, .int .i64 0] 56 (0, 0)) ∧ w.heap.size ≤ gb ∧ gb ≠ g from ⟨HI.out.below hb, below_then HB.out HB.out.size hb, KeepBut.of_below hb g none, hbox, Nat.le_of_eq hgb.symm, by rw [hgb]; exact Ne.symm (Nat.ne_of_lt HI.out.lt)⟩); clear hgb hbox hb HI HB) | (go_at_call 42; refine (ls_skip.calls k g s0_0 s0_1 s0_0 a1 w0 _ HX.out.1 HX.out.2.1 AS.out).mono ?_; rintro e w2 ⟨rfl, h1, h2, h3⟩; have HX2 := Ad.mk (show IsS65 w0 w2 g s0_0 a1 ∧ Below w0.heap.size w0 w2 ∧ KeepBut w w2 g none ∧ w2.heap[gb]? = some (.cells #[.int .i64 0, .string ⟨#[]⟩, .int .i64 0, .string ⟨#[]⟩, .string ⟨#[]⟩, .int .i64 0] 56 (0, 0)) ∧ w.heap.size ≤ gb ∧ gb ≠ g from ⟨h1, h2, HX.out.2.2.1.trans h3 (.inl rfl), (h3.2 gb (blk_lt HX.out.2.2.2.1) HX.out.2.2.2.2.2 (by simp)).trans HX.out.2.2.2.1, HX.out.2.2.2.2⟩); clear HX h1 h2 h3))
 have hc0 : w2.cell? ⟨g, 0, none⟩ = some (.string s0_0) := (blk_cell HX2.out.1.1 0).trans rfl
 have hc1 : w2.cell? ⟨g, 1, none⟩ = some (.int .i64 a1) := (blk_cell HX2.out.1.1 1).trans rfl
 have H := HH.out
 clear HH
 unfold next_c at H
 go_quiet (fail)
 go_wp2_with (first | ((with_reducible refine gate_dst (N := 40) rfl ?_); refine slice_event ?hg (N := 40) ?hd (cs := #[.func (.func 43) #[.pointer (some ⟨g, 0, none⟩)] #[], .func (.func 44) #[.pointer (some ⟨g, 0, none⟩)] #[], .func (.func 45) #[.pointer (some ⟨g, 0, none⟩)] #[], .func (.func 46) #[.pointer (some ⟨g, 0, none⟩)] #[], .func (.func 47) #[.pointer (some ⟨g, 0, none⟩)] #[], .func (.func 48) #[.pointer (some ⟨g, 0, none⟩)] #[], .func (.func 49) #[.pointer (some ⟨g, 0, none⟩)] #[]]) (t := 83) (n := 7) ?hr ?_; (case hd => rfl); (case hg => rfl); (case hr => first | (go_simp; done) | (go_simp; rfl)); intro gs hgs w3 hbox hb; have HN := Ad.mk (show NX w0 w w3 g gb gs s0_0 a1 #[.int .i64 0, .string ⟨#[]⟩, .int .i64 0, .string ⟨#[]⟩, .string ⟨#[]⟩, .int .i64 0] #[.func (.func 43) #[.pointer (some ⟨g, 0, none⟩)] #[], .func (.func 44) #[.pointer (some ⟨g, 0, none⟩)] #[], .func (.func 45) #[.pointer (some ⟨g, 0, none⟩)] #[], .func (.func 46) #[.pointer (some ⟨g, 0, none⟩)] #[], .func (.func 47) #[.pointer (some ⟨g, 0, none⟩)] #[], .func (.func 48) #[.pointer (some ⟨g, 0, none⟩)] #[], .func (.func 49) #[.pointer (some ⟨g, 0, none⟩)] #[]] 83 from ⟨(IsS65.drewN HX2.out.1 nq).below hb, below_then (pw_below_drewN HX2.out.2.1 nq) HX2.out.2.1.size hb, HX2.out.2.2.1.trans (KeepBut.of_below hb g none) (.inl rfl), blk_below (blk_drewN HX2.out.2.2.2.1 nq) hb, hbox, HX2.out.2.2.2.2.1, by rw [hgs]; exact HX2.out.2.2.1.1, HX2.out.2.2.2.2.2, by rw [hgs]; exact Ne.symm (Nat.ne_of_lt HX2.out.1.lt), by rw [hgs]; exact Nat.ne_of_lt (blk_lt HX2.out.2.2.2.1)⟩); clear hgs hbox hb))
 clear hc0 hc1 c1b HX2
 refine wp_loop_rounds 8 ?_
 have hf_ : w3.cell? ⟨gs, 0, none⟩ = some (.func (.func 43) #[.pointer (some ⟨g, 0, none⟩)] #[]) := (blk_cell HN.out.rows 0).trans rfl
 cases hq : iri_b k s0_0 a1 with
 | some q' =>
  rw [hq] at H
  obtain rfl := Option.some.inj H
  have HE := Ad.mk hq
  clear hq H
  rw [rounds_succ]
  go_wp2_with (first | (go_at_call 43; refine (iri_bad k g s0_0 a1 q' w0 _ HN.out.st HN.out.below HE.out).mono ?_; rintro e wf ⟨rfl, hb1, hb2⟩; have HBAD := Ad.mk (ZX.bad (w := w) HN.out.z (show Bad w0 _ g q' _ wf from ⟨rfl, hb1, hb2⟩)); clear hb1 hb2))
  exact ⟨rfl, HBAD.out⟩
 | none =>
  rw [hq] at H
  simp only at H
  clear hq
  replace H := Option.bind_eq_some_iff.mp H
  obtain ⟨⟨x1_0, x2_0, x3_0, x4_0, x5_0, x6_0, x7_0, x8_0, x9_0⟩, A, H⟩ := H
  try simp only at H
  cases x7_0 with
  | true => rw [if_pos rfl] at H; cases H
  | false =>
   rw [if_neg (by decide)] at H
   by_cases hs : x8_0 = s0_0 ∧ x9_0 = a1
   case neg => rw [if_neg hs] at H; cases H
   rw [if_pos hs] at H
   obtain ⟨e1_, e2_⟩ := hs
   replace e1_ := e1_.symm
   subst e1_
   replace e2_ := e2_.symm
   subst e2_
   have AR := Ad.mk A
   clear A
   rw [rounds_succ]
   go_wp2_with (first | (go_at_call 43; refine (ls_iri.calls k g s0_0 a1 x1_0 x2_0 x3_0 x4_0 x5_0 x6_0 false s0_0 a1 w0 _ HN.out.st HN.out.below AR.out).mono ?_; rintro e wa0 ⟨rfl, h1, h2, h3⟩; have HN1 := Ad.mk (HN.out.call h1 h2 h3); clear HN h1 h2 h3) | ((with_reducible refine gate_dst (N := 7) rfl ?_); refine box_event r1_ (N := 7) r1_ (cs := #[.int .i64 0, .string ⟨#[]⟩, .int .i64 0, .string ⟨#[]⟩, .string ⟨#[]⟩, .int .i64 0]) (t := 56) r2_ ?_; intro gy hgy wb0 hbox hb; have HN2 := Ad.mk (HN1.out.lower hb); have HY := Ad.mk hbox; have HF := Ad.mk (show w0.heap.size ≤ gy ∧ w.heap.size ≤ gy ∧ gy ≠ g ∧ gy ≠ gb ∧ gy ≠ gs from ⟨by rw [hgy]; exact HN1.out.below.size, by rw [hgy]; exact HN1.out.keep.1, by have G0 := HN1; exact z16_, by have G0 := HN1; exact z17_, by have G0 := HN1; exact z18_⟩); clear HN1 hgy hbox hb) | ((with_reducible refine gate_store (t := 56) (p := 7) rfl ?_); refine store_seg (gy := gy) (j := 0) (T := 56) (TB := 56) (cs := #[.int .i64 0, .string ⟨#[]⟩, .int .i64 0, .string ⟨#[]⟩, .string ⟨#[]⟩, .int .i64 0]) (new := #[.int .i64 x1_0, .string x2_0, .int .i64 x3_0, .string x4_0, .string x5_0, .int .i64 x6_0]) (u := .agg #[.int .i64 x1_0, .string x2_0, .int .i64 x3_0, .string x4_0, .string x5_0, .int .i64 x6_0]) (seg := [.int .i64 x1_0, .string x2_0, .int .i64 x3_0, .string x4_0, .string x5_0, .int .i64 x6_0]) rfl (p := .tmp 7) (x := .tmp 49) rfl rfl r1_ r1_ r1_ HY.out k1_ s1_ h1_ rfl ?_; intro wd0 hz hup; have HN := Ad.mk (HN2.out.upd hup HF.out.1 HF.out.2.1 HF.out.2.2.1 HF.out.2.2.2.1 HF.out.2.2.2.2); have HZ := Ad.mk hz; clear HN2 HY hz hup))
   clear HZ HF hf_ AR
   have hf_ : wd0.cell? ⟨gs, 1, none⟩ = some (.func (.func 44) #[.pointer (some ⟨g, 0, none⟩)] #[]) := (blk_cell HN.out.rows 1).trans rfl
   cases hq : blank_b k s0_0 a1 with
   | some q' =>
    rw [hq] at H
    obtain rfl := Option.some.inj H
    have HE := Ad.mk hq
    clear hq H
    rw [rounds_succ]
    go_wp2_with (first | (go_at_call 44; refine (blank_bad k g s0_0 a1 q' w0 _ HN.out.st HN.out.below HE.out).mono ?_; rintro e wf ⟨rfl, hb1, hb2⟩; have HBAD := Ad.mk (ZX.bad (w := w) HN.out.z (show Bad w0 _ g q' _ wf from ⟨rfl, hb1, hb2⟩)); clear hb1 hb2))
    exact ⟨rfl, HBAD.out⟩
   | none =>
    rw [hq] at H
    simp only at H
    clear hq
    replace H := Option.bind_eq_some_iff.mp H
    obtain ⟨⟨x1_1, x2_1, x3_1, x4_1, x5_1, x6_1, x7_1, x8_1, x9_1⟩, A, H⟩ := H
    try simp only at H
    cases x7_1 with
    | true => rw [if_pos rfl] at H; cases H
    | false =>
     rw [if_neg (by decide)] at H
     by_cases hs : x8_1 = s0_0 ∧ x9_1 = a1
     case neg => rw [if_neg hs] at H; cases H
     rw [if_pos hs] at H
     obtain ⟨e1_, e2_⟩ := hs
     replace e1_ := e1_.symm
     subst e1_
     replace e2_ := e2_.symm
     subst e2_
     have AR := Ad.mk A
     clear A
     rw [rounds_succ]
     go_wp2_with (first | (go_at_call 44; refine (ls_blank.calls k g s0_0 a1 x1_1 x2_1 x3_1 x4_1 x5_1 x6_1 false s0_0 a1 w0 _ HN.out.st HN.out.below AR.out).mono ?_; rintro e wa1 ⟨rfl, h1, h2, h3⟩; have HN1 := Ad.mk (HN.out.call h1 h2 h3); clear HN h1 h2 h3) | ((with_reducible refine gate_dst (N := 7) rfl ?_); refine box_event r1_ (N := 7) r1_ (cs := #[.int .i64 0, .string ⟨#[]⟩, .int .i64 0, .string ⟨#[]⟩, .string ⟨#[]⟩, .int .i64 0]) (t := 56) r2_ ?_; intro gy hgy wb1 hbox hb; have HN2 := Ad.mk (HN1.out.lower hb); have HY := Ad.mk hbox; have HF := Ad.mk (show w0.heap.size ≤ gy ∧ w.heap.size ≤ gy ∧ gy ≠ g ∧ gy ≠ gb ∧ gy ≠ gs from ⟨by rw [hgy]; exact HN1.out.below.size, by rw [hgy]; exact HN1.out.keep.1, by have G0 := HN1; exact z16_, by have G0 := HN1; exact z17_, by have G0 := HN1; exact z18_⟩); clear HN1 hgy hbox hb) | ((with_reducible refine gate_store (t := 56) (p := 7) rfl ?_); refine store_seg (gy := gy) (j := 0) (T := 56) (TB := 56) (cs := #[.int .i64 0, .string ⟨#[]⟩, .int .i64 0, .string ⟨#[]⟩, .string ⟨#[]⟩, .int .i64 0]) (new := #[.int .i64 x1_1, .string x2_1, .int .i64 x3_1, .string x4_1, .string x5_1, .int .i64 x6_1]) (u := .agg #[.int .i64 x1_1, .string x2_1, .int .i64 x3_1, .string x4_1, .string x5_1, .int .i64 x6_1]) (seg := [.int .i64 x1_1, .string x2_1, .int .i64 x3_1, .string x4_1, .string x5_1, .int .i64 x6_1]) rfl (p := .tmp 7) (x := .tmp 49) rfl rfl r1_ r1_ r1_ HY.out k1_ s1_ h1_ rfl ?_; intro wd1 hz hup; have HN := Ad.mk (HN2.out.upd hup HF.out.1 HF.out.2.1 HF.out.2.2.1 HF.out.2.2.2.1 HF.out.2.2.2.2); have HZ := Ad.mk hz; clear HN2 HY hz hup))
     clear HZ HF hf_ AR
     have hf_ : wd1.cell? ⟨gs, 2, none⟩ = some (.func (.func 45) #[.pointer (some ⟨g, 0, none⟩)] #[]) := (blk_cell HN.out.rows 2).trans rfl
     cases hq : text_b k s0_0 a1 with
     | some q' =>
      rw [hq] at H
      obtain rfl := Option.some.inj H
      have HE := Ad.mk hq
      clear hq H
      rw [rounds_succ]
      go_wp2_with (first | (go_at_call 45; refine (text_bad k g s0_0 a1 q' w0 _ HN.out.st HN.out.below HE.out).mono ?_; rintro e wf ⟨rfl, hb1, hb2⟩; have HBAD := Ad.mk (ZX.bad (w := w) HN.out.z (show Bad w0 _ g q' _ wf from ⟨rfl, hb1, hb2⟩)); clear hb1 hb2))
      exact ⟨rfl, HBAD.out⟩
     | none =>
      rw [hq] at H
      simp only at H
      clear hq
      replace H := Option.bind_eq_some_iff.mp H
      obtain ⟨⟨x1_2, x2_2, x3_2, x4_2, x5_2, x6_2, x7_2, x8_2, x9_2⟩, A, H⟩ := H
      try simp only at H
      cases x7_2 with
      | true => rw [if_pos rfl] at H; cases H
      | false =>
       rw [if_neg (by decide)] at H
       by_cases hs : x8_2 = s0_0 ∧ x9_2 = a1
       case neg => rw [if_neg hs] at H; cases H
       rw [if_pos hs] at H
       obtain ⟨e1_, e2_⟩ := hs
       replace e1_ := e1_.symm
       subst e1_
       replace e2_ := e2_.symm
       subst e2_
       have AR := Ad.mk A
       clear A
       rw [rounds_succ]
       go_wp2_with (first | (go_at_call 45; refine (ls_text.calls k g s0_0 a1 x1_2 x2_2 x3_2 x4_2 x5_2 x6_2 false s0_0 a1 w0 _ HN.out.st HN.out.below AR.out).mono ?_; rintro e wa2 ⟨rfl, h1, h2, h3⟩; have HN1 := Ad.mk (HN.out.call h1 h2 h3); clear HN h1 h2 h3) | ((with_reducible refine gate_dst (N := 7) rfl ?_); refine box_event r1_ (N := 7) r1_ (cs := #[.int .i64 0, .string ⟨#[]⟩, .int .i64 0, .string ⟨#[]⟩, .string ⟨#[]⟩, .int .i64 0]) (t := 56) r2_ ?_; intro gy hgy wb2 hbox hb; have HN2 := Ad.mk (HN1.out.lower hb); have HY := Ad.mk hbox; have HF := Ad.mk (show w0.heap.size ≤ gy ∧ w.heap.size ≤ gy ∧ gy ≠ g ∧ gy ≠ gb ∧ gy ≠ gs from ⟨by rw [hgy]; exact HN1.out.below.size, by rw [hgy]; exact HN1.out.keep.1, by have G0 := HN1; exact z16_, by have G0 := HN1; exact z17_, by have G0 := HN1; exact z18_⟩); clear HN1 hgy hbox hb) | ((with_reducible refine gate_store (t := 56) (p := 7) rfl ?_); refine store_seg (gy := gy) (j := 0) (T := 56) (TB := 56) (cs := #[.int .i64 0, .string ⟨#[]⟩, .int .i64 0, .string ⟨#[]⟩, .string ⟨#[]⟩, .int .i64 0]) (new := #[.int .i64 x1_2, .string x2_2, .int .i64 x3_2, .string x4_2, .string x5_2, .int .i64 x6_2]) (u := .agg #[.int .i64 x1_2, .string x2_2, .int .i64 x3_2, .string x4_2, .string x5_2, .int .i64 x6_2]) (seg := [.int .i64 x1_2, .string x2_2, .int .i64 x3_2, .string x4_2, .string x5_2, .int .i64 x6_2]) rfl (p := .tmp 7) (x := .tmp 49) rfl rfl r1_ r1_ r1_ HY.out k1_ s1_ h1_ rfl ?_; intro wd2 hz hup; have HN := Ad.mk (HN2.out.upd hup HF.out.1 HF.out.2.1 HF.out.2.2.1 HF.out.2.2.2.1 HF.out.2.2.2.2); have HZ := Ad.mk hz; clear HN2 HY hz hup))
       clear HZ HF hf_ AR
       have hf_ : wd2.cell? ⟨gs, 3, none⟩ = some (.func (.func 46) #[.pointer (some ⟨g, 0, none⟩)] #[]) := (blk_cell HN.out.rows 3).trans rfl
       cases hq : lang_b k s0_0 a1 with
       | some q' =>
        rw [hq] at H
        obtain rfl := Option.some.inj H
        have HE := Ad.mk hq
        clear hq H
        rw [rounds_succ]
        go_wp2_with (first | (go_at_call 46; refine (lang_bad k g s0_0 a1 q' w0 _ HN.out.st HN.out.below HE.out).mono ?_; rintro e wf ⟨rfl, hb1, hb2⟩; have HBAD := Ad.mk (ZX.bad (w := w) HN.out.z (show Bad w0 _ g q' _ wf from ⟨rfl, hb1, hb2⟩)); clear hb1 hb2))
        exact ⟨rfl, HBAD.out⟩
       | none =>
        rw [hq] at H
        simp only at H
        clear hq
        replace H := Option.bind_eq_some_iff.mp H
        obtain ⟨⟨x1_3, x2_3, x3_3, x4_3, x5_3, x6_3, x7_3, x8_3, x9_3⟩, A, H⟩ := H
        try simp only at H
        cases x7_3 with
        | true => rw [if_pos rfl] at H; cases H
        | false =>
         rw [if_neg (by decide)] at H
         by_cases hs : x8_3 = s0_0 ∧ x9_3 = a1
         case neg => rw [if_neg hs] at H; cases H
         rw [if_pos hs] at H
         obtain ⟨e1_, e2_⟩ := hs
         replace e1_ := e1_.symm
         subst e1_
         replace e2_ := e2_.symm
         subst e2_
         have AR := Ad.mk A
         clear A
         rw [rounds_succ]
         go_wp2_with (first | (go_at_call 46; refine (ls_lang.calls k g s0_0 a1 x1_3 x2_3 x3_3 x4_3 x5_3 x6_3 false s0_0 a1 w0 _ HN.out.st HN.out.below AR.out).mono ?_; rintro e wa3 ⟨rfl, h1, h2, h3⟩; have HN1 := Ad.mk (HN.out.call h1 h2 h3); clear HN h1 h2 h3) | ((with_reducible refine gate_dst (N := 7) rfl ?_); refine box_event r1_ (N := 7) r1_ (cs := #[.int .i64 0, .string ⟨#[]⟩, .int .i64 0, .string ⟨#[]⟩, .string ⟨#[]⟩, .int .i64 0]) (t := 56) r2_ ?_; intro gy hgy wb3 hbox hb; have HN2 := Ad.mk (HN1.out.lower hb); have HY := Ad.mk hbox; have HF := Ad.mk (show w0.heap.size ≤ gy ∧ w.heap.size ≤ gy ∧ gy ≠ g ∧ gy ≠ gb ∧ gy ≠ gs from ⟨by rw [hgy]; exact HN1.out.below.size, by rw [hgy]; exact HN1.out.keep.1, by have G0 := HN1; exact z16_, by have G0 := HN1; exact z17_, by have G0 := HN1; exact z18_⟩); clear HN1 hgy hbox hb) | ((with_reducible refine gate_store (t := 56) (p := 7) rfl ?_); refine store_seg (gy := gy) (j := 0) (T := 56) (TB := 56) (cs := #[.int .i64 0, .string ⟨#[]⟩, .int .i64 0, .string ⟨#[]⟩, .string ⟨#[]⟩, .int .i64 0]) (new := #[.int .i64 x1_3, .string x2_3, .int .i64 x3_3, .string x4_3, .string x5_3, .int .i64 x6_3]) (u := .agg #[.int .i64 x1_3, .string x2_3, .int .i64 x3_3, .string x4_3, .string x5_3, .int .i64 x6_3]) (seg := [.int .i64 x1_3, .string x2_3, .int .i64 x3_3, .string x4_3, .string x5_3, .int .i64 x6_3]) rfl (p := .tmp 7) (x := .tmp 49) rfl rfl r1_ r1_ r1_ HY.out k1_ s1_ h1_ rfl ?_; intro wd3 hz hup; have HN := Ad.mk (HN2.out.upd hup HF.out.1 HF.out.2.1 HF.out.2.2.1 HF.out.2.2.2.1 HF.out.2.2.2.2); have HZ := Ad.mk hz; clear HN2 HY hz hup))
         clear HZ HF hf_ AR
         have hf_ : wd3.cell? ⟨gs, 4, none⟩ = some (.func (.func 47) #[.pointer (some ⟨g, 0, none⟩)] #[]) := (blk_cell HN.out.rows 4).trans rfl
         cases hq : variable_b k s0_0 a1 with
         | some q' =>
          rw [hq] at H
          obtain rfl := Option.some.inj H
          have HE := Ad.mk hq
          clear hq H
          rw [rounds_succ]
          go_wp2_with (first | (go_at_call 47; refine (variable_bad k g s0_0 a1 q' w0 _ HN.out.st HN.out.below HE.out).mono ?_; rintro e wf ⟨rfl, hb1, hb2⟩; have HBAD := Ad.mk (ZX.bad (w := w) HN.out.z (show Bad w0 _ g q' _ wf from ⟨rfl, hb1, hb2⟩)); clear hb1 hb2))
          exact ⟨rfl, HBAD.out⟩
         | none =>
          rw [hq] at H
          simp only at H
          clear hq
          replace H := Option.bind_eq_some_iff.mp H
          obtain ⟨⟨x1_4, x2_4, x3_4, x4_4, x5_4, x6_4, x7_4, x8_4, x9_4⟩, A, H⟩ := H
          try simp only at H
          cases x7_4 with
          | true => rw [if_pos rfl] at H; cases H
          | false =>
           rw [if_neg (by decide)] at H
           by_cases hs : x8_4 = s0_0 ∧ x9_4 = a1
           case neg => rw [if_neg hs] at H; cases H
           rw [if_pos hs] at H
           obtain ⟨e1_, e2_⟩ := hs
           replace e1_ := e1_.symm
           subst e1_
           replace e2_ := e2_.symm
           subst e2_
           have AR := Ad.mk A
           clear A
           rw [rounds_succ]
           go_wp2_with (first | (go_at_call 47; refine (ls_variable.calls k g s0_0 a1 x1_4 x2_4 x3_4 x4_4 x5_4 x6_4 false s0_0 a1 w0 _ HN.out.st HN.out.below AR.out).mono ?_; rintro e wa4 ⟨rfl, h1, h2, h3⟩; have HN1 := Ad.mk (HN.out.call h1 h2 h3); clear HN h1 h2 h3) | ((with_reducible refine gate_dst (N := 7) rfl ?_); refine box_event r1_ (N := 7) r1_ (cs := #[.int .i64 0, .string ⟨#[]⟩, .int .i64 0, .string ⟨#[]⟩, .string ⟨#[]⟩, .int .i64 0]) (t := 56) r2_ ?_; intro gy hgy wb4 hbox hb; have HN2 := Ad.mk (HN1.out.lower hb); have HY := Ad.mk hbox; have HF := Ad.mk (show w0.heap.size ≤ gy ∧ w.heap.size ≤ gy ∧ gy ≠ g ∧ gy ≠ gb ∧ gy ≠ gs from ⟨by rw [hgy]; exact HN1.out.below.size, by rw [hgy]; exact HN1.out.keep.1, by have G0 := HN1; exact z16_, by have G0 := HN1; exact z17_, by have G0 := HN1; exact z18_⟩); clear HN1 hgy hbox hb) | ((with_reducible refine gate_store (t := 56) (p := 7) rfl ?_); refine store_seg (gy := gy) (j := 0) (T := 56) (TB := 56) (cs := #[.int .i64 0, .string ⟨#[]⟩, .int .i64 0, .string ⟨#[]⟩, .string ⟨#[]⟩, .int .i64 0]) (new := #[.int .i64 x1_4, .string x2_4, .int .i64 x3_4, .string x4_4, .string x5_4, .int .i64 x6_4]) (u := .agg #[.int .i64 x1_4, .string x2_4, .int .i64 x3_4, .string x4_4, .string x5_4, .int .i64 x6_4]) (seg := [.int .i64 x1_4, .string x2_4, .int .i64 x3_4, .string x4_4, .string x5_4, .int .i64 x6_4]) rfl (p := .tmp 7) (x := .tmp 49) rfl rfl r1_ r1_ r1_ HY.out k1_ s1_ h1_ rfl ?_; intro wd4 hz hup; have HN := Ad.mk (HN2.out.upd hup HF.out.1 HF.out.2.1 HF.out.2.2.1 HF.out.2.2.2.1 HF.out.2.2.2.2); have HZ := Ad.mk hz; clear HN2 HY hz hup))
           clear HZ HF hf_ AR
           have hf_ : wd4.cell? ⟨gs, 5, none⟩ = some (.func (.func 48) #[.pointer (some ⟨g, 0, none⟩)] #[]) := (blk_cell HN.out.rows 5).trans rfl
           cases hq : word_b k s0_0 a1 with
           | some q' =>
            rw [hq] at H
            obtain rfl := Option.some.inj H
            have HE := Ad.mk hq
            clear hq H
            rw [rounds_succ]
            go_wp2_with (first | (go_at_call 48; refine (word_bad k g s0_0 a1 q' w0 _ HN.out.st HN.out.below HE.out).mono ?_; rintro e wf ⟨rfl, hb1, hb2⟩; have HBAD := Ad.mk (ZX.bad (w := w) HN.out.z (show Bad w0 _ g q' _ wf from ⟨rfl, hb1, hb2⟩)); clear hb1 hb2))
            exact ⟨rfl, HBAD.out⟩
           | none =>
            rw [hq] at H
            simp only at H
            clear hq
            replace H := Option.bind_eq_some_iff.mp H
            obtain ⟨⟨x1_5, x2_5, x3_5, x4_5, x5_5, x6_5, x7_5, x8_5, x9_5⟩, A, H⟩ := H
            try simp only at H
            cases x7_5 with
            | true => rw [if_pos rfl] at H; cases H
            | false =>
             rw [if_neg (by decide)] at H
             by_cases hs : x8_5 = s0_0 ∧ x9_5 = a1
             case neg => rw [if_neg hs] at H; cases H
             rw [if_pos hs] at H
             obtain ⟨e1_, e2_⟩ := hs
             replace e1_ := e1_.symm
             subst e1_
             replace e2_ := e2_.symm
             subst e2_
             have AR := Ad.mk A
             clear A
             rw [rounds_succ]
             go_wp2_with (first | (go_at_call 48; refine (ls_word.calls k g s0_0 a1 x1_5 x2_5 x3_5 x4_5 x5_5 x6_5 false s0_0 a1 w0 _ HN.out.st HN.out.below AR.out).mono ?_; rintro e wa5 ⟨rfl, h1, h2, h3⟩; have HN1 := Ad.mk (HN.out.call h1 h2 h3); clear HN h1 h2 h3) | ((with_reducible refine gate_dst (N := 7) rfl ?_); refine box_event r1_ (N := 7) r1_ (cs := #[.int .i64 0, .string ⟨#[]⟩, .int .i64 0, .string ⟨#[]⟩, .string ⟨#[]⟩, .int .i64 0]) (t := 56) r2_ ?_; intro gy hgy wb5 hbox hb; have HN2 := Ad.mk (HN1.out.lower hb); have HY := Ad.mk hbox; have HF := Ad.mk (show w0.heap.size ≤ gy ∧ w.heap.size ≤ gy ∧ gy ≠ g ∧ gy ≠ gb ∧ gy ≠ gs from ⟨by rw [hgy]; exact HN1.out.below.size, by rw [hgy]; exact HN1.out.keep.1, by have G0 := HN1; exact z16_, by have G0 := HN1; exact z17_, by have G0 := HN1; exact z18_⟩); clear HN1 hgy hbox hb) | ((with_reducible refine gate_store (t := 56) (p := 7) rfl ?_); refine store_seg (gy := gy) (j := 0) (T := 56) (TB := 56) (cs := #[.int .i64 0, .string ⟨#[]⟩, .int .i64 0, .string ⟨#[]⟩, .string ⟨#[]⟩, .int .i64 0]) (new := #[.int .i64 x1_5, .string x2_5, .int .i64 x3_5, .string x4_5, .string x5_5, .int .i64 x6_5]) (u := .agg #[.int .i64 x1_5, .string x2_5, .int .i64 x3_5, .string x4_5, .string x5_5, .int .i64 x6_5]) (seg := [.int .i64 x1_5, .string x2_5, .int .i64 x3_5, .string x4_5, .string x5_5, .int .i64 x6_5]) rfl (p := .tmp 7) (x := .tmp 49) rfl rfl r1_ r1_ r1_ HY.out k1_ s1_ h1_ rfl ?_; intro wd5 hz hup; have HN := Ad.mk (HN2.out.upd hup HF.out.1 HF.out.2.1 HF.out.2.2.1 HF.out.2.2.2.1 HF.out.2.2.2.2); have HZ := Ad.mk hz; clear HN2 HY hz hup))
             clear HZ HF hf_ AR
             have hf_ : wd5.cell? ⟨gs, 6, none⟩ = some (.func (.func 49) #[.pointer (some ⟨g, 0, none⟩)] #[]) := (blk_cell HN.out.rows 6).trans rfl
             replace H := Option.bind_eq_some_iff.mp H
             obtain ⟨⟨x1_6, x2_6, x3_6, x4_6, x5_6, x6_6, x7_6, x8_6, x9_6⟩, A, H⟩ := H
             try simp only at H
             cases x7_6 with
             | true => rw [if_pos rfl] at H; cases H
             | false =>
              rw [if_neg (by decide)] at H
              by_cases hs : x8_6 = s0_0 ∧ x9_6 = a1
              case neg => rw [if_neg hs] at H; cases H
              rw [if_pos hs] at H
              obtain ⟨e1_, e2_⟩ := hs
              replace e1_ := e1_.symm
              subst e1_
              replace e2_ := e2_.symm
              subst e2_
              have AR := Ad.mk A
              clear A
              rw [rounds_succ]
              go_wp2_with (first | (go_at_call 49; refine (ls_mark.calls k g s0_0 a1 x1_6 x2_6 x3_6 x4_6 x5_6 x6_6 false s0_0 a1 w0 _ HN.out.st HN.out.below AR.out).mono ?_; rintro e wa6 ⟨rfl, h1, h2, h3⟩; have HN1 := Ad.mk (HN.out.call h1 h2 h3); clear HN h1 h2 h3) | ((with_reducible refine gate_dst (N := 7) rfl ?_); refine box_event r1_ (N := 7) r1_ (cs := #[.int .i64 0, .string ⟨#[]⟩, .int .i64 0, .string ⟨#[]⟩, .string ⟨#[]⟩, .int .i64 0]) (t := 56) r2_ ?_; intro gy hgy wb6 hbox hb; have HN2 := Ad.mk (HN1.out.lower hb); have HY := Ad.mk hbox; have HF := Ad.mk (show w0.heap.size ≤ gy ∧ w.heap.size ≤ gy ∧ gy ≠ g ∧ gy ≠ gb ∧ gy ≠ gs from ⟨by rw [hgy]; exact HN1.out.below.size, by rw [hgy]; exact HN1.out.keep.1, by have G0 := HN1; exact z16_, by have G0 := HN1; exact z17_, by have G0 := HN1; exact z18_⟩); clear HN1 hgy hbox hb) | ((with_reducible refine gate_store (t := 56) (p := 7) rfl ?_); refine store_seg (gy := gy) (j := 0) (T := 56) (TB := 56) (cs := #[.int .i64 0, .string ⟨#[]⟩, .int .i64 0, .string ⟨#[]⟩, .string ⟨#[]⟩, .int .i64 0]) (new := #[.int .i64 x1_6, .string x2_6, .int .i64 x3_6, .string x4_6, .string x5_6, .int .i64 x6_6]) (u := .agg #[.int .i64 x1_6, .string x2_6, .int .i64 x3_6, .string x4_6, .string x5_6, .int .i64 x6_6]) (seg := [.int .i64 x1_6, .string x2_6, .int .i64 x3_6, .string x4_6, .string x5_6, .int .i64 x6_6]) rfl (p := .tmp 7) (x := .tmp 49) rfl rfl r1_ r1_ r1_ HY.out k1_ s1_ h1_ rfl ?_; intro wd6 hz hup; have HN := Ad.mk (HN2.out.upd hup HF.out.1 HF.out.2.1 HF.out.2.2.1 HF.out.2.2.2.1 HF.out.2.2.2.2); have HZ := Ad.mk hz; clear HN2 HY hz hup))
              clear HZ HF hf_ AR
              obtain rfl := Option.some.inj H
              try clear H
              rw [rounds_succ]
              have hn0 := (blk_cell HN.out.st.1 0).trans (show _ = some (.string s0_0) from rfl)
              go_wp2_with (first | (go_at_call 50; refine (wrong_fail g a1 _).mono ?_; rintro e wf ⟨rfl, rfl⟩))
              exact ⟨rfl, ZX.ends HN.out.z⟩
end Go.Proofs.YtjnhdamilbcmpaaDoor.PTm

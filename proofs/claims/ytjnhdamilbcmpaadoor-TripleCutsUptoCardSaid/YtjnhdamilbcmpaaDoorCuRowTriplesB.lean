import Derived.Test.YtjnhdamilbcmpaaDoorCuRowTriples
import Derived.JoinedCond
import Derived.LaidLaws
namespace Go.Proofs.YtjnhdamilbcmpaaDoor
open Go.ChangeShapes Go.WideShapes Go.ChangeAt Go.RowKit
set_option linter.unusedVariables false
def Upto (B : Nat) (x : PTm.S38) : Prop := (x.f0.f1.size ≤ B ∧ x.f0.f2.size ≤ B) ∧ (x.f1.f1.size ≤ B ∧ x.f1.f2.size ≤ B) ∧ (x.f2.f1.size ≤ B ∧ x.f2.f2.size ≤ B)
set_option maxRecDepth 100000 in
theorem open_termB {H : Type} {enc : TypeId × Value → H} {w : World} {base : Nat} {sp : Nat → Bool} {held : Bool} {m : Nat} {cs : List Value} {x : DataW H × List MemPlace} (h : DataW.trod enc Tryd.prog w base sp held m 36 cs = some x) :
  ∃ (n : Int) (s y : ByteArray), cs = [.int .i64 n, .string s, .string y] ∧ s.size ≤ Rows.uptoBulk x.1 ∧ y.size ≤ Rows.uptoBulk x.1 := by
 obtain ⟨y0, y1, y2, k, hx, hl, h0, h1, h2⟩ := Go.Deep.trod_struct3 Tryd.underlying36 h
 rw [show Tryd.prog.cellsOf 36 = 3 by kernel_rfl] at hl
 match cs, hl with
 | [a, b, c], _ =>
  rw [show Tryd.prog.cellsOf 34 = 1 by kernel_rfl] at h0
  rw [show Tryd.prog.cellsOf 9 = 1 by kernel_rfl] at h1 h2
  obtain ⟨n, e0, _⟩ := DataW.trod_int Tryd.underlying34 h0
  obtain ⟨s, e1, g1, _⟩ := DataW.trod_string Tryd.underlying9 h1
  obtain ⟨y, e2, g2, _⟩ := DataW.trod_string Tryd.underlying9 h2
  simp only [List.drop_zero, List.take_succ_cons, List.take_zero, List.cons.injEq, and_true, List.drop_succ_cons] at e0 e1 e2
  refine ⟨n, s, y, by rw [e0, e1, e2], ?_, ?_⟩
  ·rw [hx, g1, g2]
   simp only [Rows.uptoBulk, Rows.uptoBulkAll]
   have : s.data.toList.length = s.size := rfl
   omega
  ·rw [hx, g1, g2]
   simp only [Rows.uptoBulk, Rows.uptoBulkAll]
   have : y.data.toList.length = y.size := rfl
   omega
theorem bulk_mem {H : Type} : ∀ (l : List (DataW H)) (d : DataW H), d ∈ l → Rows.uptoBulk d ≤ Rows.uptoBulkAll l
 | e :: l, d, h => by
  rw [Rows.uptoBulkAll]
  rcases List.mem_cons.1 h with rfl | h
  ·omega
  ·have := bulk_mem l d h
   omega
set_option maxRecDepth 100000 in
theorem open_triple9B {H : Type} {enc : TypeId × Value → H} {w : World} {base : Nat} {sp : Nat → Bool} {held : Bool} {m : Nat} {cs : List Value} {x : DataW H × List MemPlace} (hlen : cs.length = 9) (h : DataW.trod enc Tryd.prog w base sp held m 38 cs = some x) :
  ∃ y : PTm.S38, cs = PTm.enc9 y ∧ Upto (Rows.uptoBulk x.1) y := by
 obtain ⟨xs, m, _, hx, _, hxl, hel⟩ := DataW.trod_array Tryd.underlying38 h
 have e0 := hel 0 (by omega)
 have e1 := hel 1 (by omega)
 have e2 := hel 2 (by omega)
 rw [show Tryd.prog.cellsOf 36 = 3 by kernel_rfl] at e0 e1 e2
 rw [List.getElem?_eq_getElem (by omega)] at e0 e1 e2
 obtain ⟨n1, t1, x1, q1, a1, b1⟩ := open_termB e0
 obtain ⟨n2, t2, x2, q2, a2, b2⟩ := open_termB e1
 obtain ⟨n3, t3, x3, q3, a3, b3⟩ := open_termB e2
 have hb : ∀ (i : Nat) (hi : i < xs.length), Rows.uptoBulk (xs[i]).1 ≤ Rows.uptoBulk x.1 := by
  intro i hi
  rw [hx]
  have := bulk_mem (xs.map (·.1)) (xs[i]).1 (List.mem_map_of_mem (List.getElem_mem hi))
  rw [Rows.uptoBulk]
  omega
 have c1 := hb 0 (by omega)
 have c2 := hb 1 (by omega)
 have c3 := hb 2 (by omega)
 refine ⟨⟨⟨n1, t1, x1⟩, ⟨n2, t2, x2⟩, ⟨n3, t3, x3⟩⟩, ?_, ?_⟩
 ·clear hel e0 e1 e2 hx h hb a1 b1 a2 b2 a3 b3 c1 c2 c3
  match cs, hlen, q1, q2, q3 with
  | [a1, a2, a3, a4, a5, a6, a7, a8, a9], _, q1, q2, q3 =>
   simp at q1 q2 q3
   obtain ⟨rfl, rfl, rfl⟩ := q1
   obtain ⟨rfl, rfl, rfl⟩ := q2
   obtain ⟨rfl, rfl, rfl⟩ := q3
   rfl
 ·unfold Upto
  dsimp only
  omega
set_option maxRecDepth 100000 in
theorem open_triplesB {H : Type} {enc : TypeId × Value → H} {w : World} {r : Reach} {b0 base : Nat} {sp : Nat → Bool} {held : Bool} {v : Value} {d : DataW H} {p : List MemPlace}
  (hv : Value.okWide Tryd.prog w r b0 22 v) (h : DataW.Trod enc Tryd.prog w base sp held 22 v d p) :
  ∃ (A : Option Addr) (c : Nat) (l : List PTm.S38), v = .slice A l.length c ∧ l.length ≤ c ∧ YtjnhdamilbcmpaaDoorW.PrintWords.Kd.C PTm.k38 w A l.length l ∧ ∀ x ∈ l, Upto (Rows.uptoBulk d) x := by
 obtain ⟨A, n, c, rfl⟩ := okWide_slice Tryd.underlying22 hv
 obtain ⟨fuel, hf⟩ := h
 rcases Go.Deep.open_slice Tryd.underlying22 hf with ⟨hcs, _⟩ | ⟨a, len, cap, m, q, D, Pl, hcs, _, hl, hm, hmm, hD, hx⟩
 ·simp [Value.cells] at hcs
  obtain ⟨rfl, rfl, rfl⟩ := hcs
  exact ⟨none, 0, [], rfl, Nat.le_refl _, ⟨rfl, by simp, fun h => absurd h (by simp)⟩, fun _ h => by cases h⟩
 ·simp [Value.cells] at hcs
  obtain ⟨rfl, rfl, rfl⟩ := hcs
  have hlm : n ≤ m := by rw [hmm]; split <;> omega
  have hd : d = .slice ((List.range n).map D) ((List.range (m - n)).map fun j => D (n + j)) := congrArg Prod.fst hD
  have hbk : ∀ i, i < n → Rows.uptoBulk (D i) ≤ Rows.uptoBulk d := by
   intro i hi
   rw [hd, Rows.uptoBulk]
   have := bulk_mem ((List.range n).map D) (D i) (List.mem_map_of_mem (List.mem_range.2 hi))
   omega
  have each : ∀ i, i < n → ∃ y : PTm.S38, (∀ j u, (PTm.enc9 y)[j]? = some u → w.cell? (a.add (i * 9 + j)) = some u) ∧ Upto (Rows.uptoBulk d) y := by
   intro i hi
   obtain ⟨cs', h1, h2⟩ := hx i (by omega)
   rw [show Tryd.prog.cellsOf 38 = 9 by kernel_rfl] at h1
   obtain ⟨_, hlen, hcell⟩ := World.cells?_some h1
   obtain ⟨y, rfl, hup⟩ := open_triple9B hlen h2
   refine ⟨y, fun j u hu => ?_, ?_⟩
   ·have hj : j < 9 := by
     have := (List.getElem?_eq_some_iff.1 hu).1
     rwa [PTm.enc9_len] at this
    have e := hcell j hj
    rw [Go.Deep.add_add] at e
    rw [e]
    exact hu
   ·have := hbk i hi
    unfold Upto at hup ⊢
    dsimp only at hup
    omega
  haveI : Inhabited PTm.S38 := ⟨PTm.z38⟩
  obtain ⟨q, hq⟩ := Go.Deep.choose_lt each
  have hln : ((List.range n).map q).length = n := by simp
  refine ⟨some a, c, (List.range n).map q, by rw [hln], by omega, ?_, ?_⟩
  ·rw [hln]
   refine ⟨hln, by unfold maxLen at hm; omega, fun _ => ⟨a, rfl, fun j y hy => ?_⟩⟩
   have hj : j < n := by
    have := (List.getElem?_eq_some_iff.1 hy).1
    rwa [hln] at this
   have hyq : y = q j := by
    rw [List.getElem?_map, List.getElem?_range hj] at hy
    exact (Option.some.inj hy).symm
   subst hyq
   exact ⟨PTm.enc9 (q j), rfl, PTm.k38_mk w (q j), (hq j hj).1⟩
  ·intro x hx
   obtain ⟨j, hj, rfl⟩ := List.mem_map.1 hx
   exact (hq j (List.mem_range.1 hj)).2
theorem returnsInHanded_of_cond_and {H : Type} {enc : TypeId × Value → H} {a : Assume} {C : Checked} {os : Os} {f : FuncId} {fn : Func} {s : OpenSpec} {k : (H : Type) → List (DataW H) → Bool} (hk : s.cond = some k) {F : Stop.Interp} {conds : List PathCond} {apart fresh handsOn again : Bool} {X : World → Array Value → Prop}
  (hX : ∀ (w w' : World) (args : Array Value), w.heap = w'.heap → X w args → X w' args)
  (own : ownKnob C.prog.godebug = none) (started : os.Started) (noInit : C.prog.inits.idxOf? f = none) (hfn : C.prog.funcs[f]? = some fn)
  (witness : ∃ (w : World) (tape : Tape) (i : Input), w.os = os ∧ (w.forCall tape i).Shaped C.prog ∧ i.vars = [] ∧ Input.okWide C.prog (w.forCall tape i) .any w.heap.size f i ∧
   ((s.pre enc C.prog fn conds apart (w.forCall tape i).memory i.args ∧ X (w.forCall tape i).memory i.args) ∧ sizedMet enc C.prog fn s apart (w.forCall tape i).memory i.args) ∧ a.holds C.prog (lone (Frame.enter C.prog f i.args .normal) [] (w.forCall tape i)))
  (contract : ∀ (W : World) (base : Nat) (args : Array Value) (ds gs : List (DataW H)) (before : List MemPlace),
   (∀ (j : Nat) t v, fn.params[j]? = some t → args[j]? = some v → Value.okWide C.prog W .any base t v) →
   DataW.Whole enc C.prog fn.params.toList s.vars apart W args.toList ds gs before →
   conds.all (PathCond.test C.prog ⟨fn.params.toList, ds, s.bare.plain.varTypes C.prog, gs⟩) = true → k H (ds ++ gs) = true → X W args →
   a.holds C.prog (lone (Frame.enter C.prog f args .normal) [] W) →
   Calls C.prog f args W fun e W' => ∃ v, e = .returned v ∧ (s.at F).post enc C.prog fn apart fresh handsOn again W args v W') :
  ReturnsInHanded a C os f .any (fun w args => (s.pre enc C.prog fn conds apart w args ∧ X w args) ∧ sizedMet enc C.prog fn s apart w args) ((s.at F).post enc C.prog fn apart fresh handsOn again) := by
 refine returnsInHanded_of_calls own started noInit witness ?_
 intro w tape i _ _ _ hok hpre hholds
 obtain ⟨_, _, _, fn', hfn', _, _, _, _, hval⟩ := hok
 have e : fn' = fn := Option.some.inj (hfn'.symm.trans hfn)
 subst e
 obtain ⟨⟨hp, hx⟩, hz⟩ := hpre
 obtain ⟨ds, gs, before, hw, hc, hkk⟩ := (OpenSpec.pre_some hk conds apart _ _).1 hp
 have hw' := DataW.Whole.of_heap (w' := w.forCall tape i) (by rfl) hw
 refine (contract (w.forCall tape i) w.heap.size i.args ds gs before hval hw' hc hkk (hX _ _ _ (by rfl) hx) hholds).mono fun e W' ⟨v, he, hp⟩ => ?_
 subst he
 exact ChangeSpec.post_blind hp
end Go.Proofs.YtjnhdamilbcmpaaDoor

import Derived.Test.YtegmcmndjnbkaaaDoorRows
import Derived.Test.YtegmcmndjnbkaaaDoorOrPSortx8
import Derived.ProofKit
import Derived.OpenShut
import Derived.ChangeOld
import Derived.ChangeArms
import Derived.Deep.Strs
import Derived.Deep.Slices
import Derived.Below
import Derived.Carry
namespace Go.Proofs.YtegmcmndjnbkaaaDoor
open Go.ChangeShapes Go.WideShapes Go.ChangeAt Go.RowKit
set_option linter.unusedVariables false
set_option maxRecDepth 100000 in
theorem open_term {H : Type} {enc : TypeId × Value → H} {w : World} {base : Nat} {sp : Nat → Bool} {held : Bool} {m : Nat} {cs : List Value} {x : DataW H × List MemPlace} (h : DataW.trod enc Tryd.prog w base sp held m 26 cs = some x) :
    ∃ (n : Int) (s y : ByteArray), cs = [.int .i64 n, .string s, .string y] := by
  obtain ⟨y0, y1, y2, k, _, hl, h0, h1, h2⟩ := Go.Deep.trod_struct3 Tryd.underlying26 h
  rw [show Tryd.prog.cellsOf 26 = 3 by kernel_rfl] at hl
  match cs, hl with
  | [a, b, c], _ =>
    rw [show Tryd.prog.cellsOf 24 = 1 by kernel_rfl] at h0
    rw [show Tryd.prog.cellsOf 9 = 1 by kernel_rfl] at h1 h2
    obtain ⟨n, e0, _⟩ := DataW.trod_int Tryd.underlying24 h0
    obtain ⟨s, e1, _⟩ := DataW.trod_string Tryd.underlying9 h1
    obtain ⟨y, e2, _⟩ := DataW.trod_string Tryd.underlying9 h2
    simp only [List.drop_zero, List.take_succ_cons, List.take_zero, List.cons.injEq, and_true, List.drop_succ_cons] at e0 e1 e2
    exact ⟨n, s, y, by rw [e0, e1, e2]⟩
set_option maxRecDepth 100000 in
theorem open_triple9 {H : Type} {enc : TypeId × Value → H} {w : World} {base : Nat} {sp : Nat → Bool} {held : Bool} {m : Nat} {cs : List Value} {x : DataW H × List MemPlace} (hlen : cs.length = 9) (h : DataW.trod enc Tryd.prog w base sp held m 29 cs = some x) :
    ∃ y : PSort.S29, cs = PSort.enc9 y := by
  obtain ⟨xs, m, _, _, _, hxl, hel⟩ := DataW.trod_array Tryd.underlying29 h
  have e0 := hel 0 (by omega)
  have e1 := hel 1 (by omega)
  have e2 := hel 2 (by omega)
  rw [show Tryd.prog.cellsOf 26 = 3 by kernel_rfl] at e0 e1 e2
  rw [List.getElem?_eq_getElem (by omega)] at e0 e1 e2
  obtain ⟨n1, t1, x1, q1⟩ := open_term e0
  obtain ⟨n2, t2, x2, q2⟩ := open_term e1
  obtain ⟨n3, t3, x3, q3⟩ := open_term e2
  refine ⟨⟨⟨n1, t1, x1⟩, ⟨n2, t2, x2⟩, ⟨n3, t3, x3⟩⟩, ?_⟩
  match cs, hlen with
  | [a1, a2, a3, a4, a5, a6, a7, a8, a9], _ =>
    simp at q1 q2 q3
    obtain ⟨rfl, rfl, rfl⟩ := q1
    obtain ⟨rfl, rfl, rfl⟩ := q2
    obtain ⟨rfl, rfl, rfl⟩ := q3
    rfl
set_option maxRecDepth 100000 in
theorem open_one {H : Type} {enc : TypeId × Value → H} {w : World} {r : Reach} {b0 base : Nat} {sp : Nat → Bool} {held : Bool} {v : Value} {d : DataW H} {p : List MemPlace}
    (hv : Value.okWide Tryd.prog w r b0 29 v) (h : DataW.Trod enc Tryd.prog w base sp held 29 v d p) : ∃ y : PSort.S29, v = .agg (PSort.enc9 y).toArray := by
  unfold Value.okWide at hv
  rw [Tryd.underlying29] at hv
  obtain ⟨cs, rfl, hsz, _⟩ := hv
  rw [show Tryd.prog.cellsOf 29 = 9 by kernel_rfl] at hsz
  obtain ⟨fuel, hf⟩ := h
  obtain ⟨y, hy⟩ := open_triple9 (by simpa [Value.cells] using hsz) hf
  refine ⟨y, ?_⟩
  rw [← hy]
  rfl
set_option maxRecDepth 100000 in
theorem open_triples {H : Type} {enc : TypeId × Value → H} {w : World} {r : Reach} {b0 base : Nat} {sp : Nat → Bool} {held : Bool} {v : Value} {d : DataW H} {p : List MemPlace}
    (hv : Value.okWide Tryd.prog w r b0 39 v) (h : DataW.Trod enc Tryd.prog w base sp held 39 v d p) :
    ∃ (A : Option Addr) (c : Nat) (l : List PSort.S29), v = .slice A l.length c ∧ l.length ≤ c ∧ YtegmcmndjnbkaaaDoorW.PrintWords.Kd.C PSort.k29 w A l.length l := by
  obtain ⟨A, n, c, rfl⟩ := okWide_slice Tryd.underlying39 hv
  obtain ⟨fuel, hf⟩ := h
  rcases Go.Deep.open_slice Tryd.underlying39 hf with ⟨hcs, _⟩ | ⟨a, len, cap, m, q, D, Pl, hcs, _, hl, hm, hmm, _, hx⟩
  · simp [Value.cells] at hcs
    obtain ⟨rfl, rfl, rfl⟩ := hcs
    exact ⟨none, 0, [], rfl, Nat.le_refl _, rfl, by simp, fun h => absurd h (by simp)⟩
  · simp [Value.cells] at hcs
    obtain ⟨rfl, rfl, rfl⟩ := hcs
    have hlm : n ≤ m := by rw [hmm]; split <;> omega
    have each : ∀ i, i < n → ∃ y : PSort.S29, ∀ j u, (PSort.enc9 y)[j]? = some u → w.cell? (a.add (i * 9 + j)) = some u := by
      intro i hi
      obtain ⟨cs', h1, h2⟩ := hx i (by omega)
      rw [show Tryd.prog.cellsOf 29 = 9 by kernel_rfl] at h1
      obtain ⟨_, hlen, hcell⟩ := World.cells?_some h1
      obtain ⟨y, rfl⟩ := open_triple9 hlen h2
      refine ⟨y, fun j u hu => ?_⟩
      have hj : j < 9 := by
        have := (List.getElem?_eq_some_iff.1 hu).1
        rwa [PSort.enc9_len] at this
      have e := hcell j hj
      rw [Go.Deep.add_add] at e
      rw [e]
      exact hu
    obtain ⟨q, hq⟩ := Go.Deep.choose_lt each
    have hln : ((List.range n).map q).length = n := by simp
    refine ⟨some a, c, (List.range n).map q, by rw [hln], by omega, ?_⟩
    rw [hln]
    refine ⟨hln, by unfold maxLen at hm; omega, fun _ => ⟨a, rfl, fun j y hy => ?_⟩⟩
    have hj : j < n := by
      have := (List.getElem?_eq_some_iff.1 hy).1
      rwa [hln] at this
    have hyq : y = q j := by
      rw [List.getElem?_map, List.getElem?_range hj] at hy
      exact (Option.some.inj hy).symm
    subst hyq
    exact ⟨PSort.enc9 (q j), rfl, PSort.k29_mk w (q j), hq j hj⟩
end Go.Proofs.YtegmcmndjnbkaaaDoor

import Derived.Test.YtegmcmndjnbkaaaDoorRows
import Derived.ProofKit
import Derived.OpenShut
import Derived.ChangeOld
import Derived.ChangeArms
import Derived.Deep.Strs
import Derived.Below
import Derived.Carry
namespace Go.Proofs.YtegmcmndjnbkaaaDoor
open Go.ChangeShapes Go.WideShapes Go.ChangeAt Go.RowKit
set_option linter.unusedVariables false
set_option maxRecDepth 100000 in
theorem open_term {H : Type} {enc : TypeId × Value → H} {w : World} {base : Nat} {sp : Nat → Bool} {held : Bool} {m : Nat} {cs : List Value} {x : DataW H × List MemPlace} (h : DataW.trod enc Tryd.prog w base sp held m 26 cs = some x) :
    ∃ (n : Int) (s y : ByteArray), cs = [.int .i64 n, .string s, .string y] := by
  obtain ⟨y0, y1, y2, k, _, hl, h0, h1, h2⟩ := Go.Deep.trod_struct3 Tryd.underlying26 h
  rw [show Tryd.prog.cellsOf 26 = 3 by kernel_rfl] at hl
  match cs, hl with
  | [a, b, c], _ =>
    rw [show Tryd.prog.cellsOf 24 = 1 by kernel_rfl] at h0
    rw [show Tryd.prog.cellsOf 9 = 1 by kernel_rfl] at h1 h2
    obtain ⟨n, e0, _⟩ := DataW.trod_int Tryd.underlying24 h0
    obtain ⟨s, e1, _⟩ := DataW.trod_string Tryd.underlying9 h1
    obtain ⟨y, e2, _⟩ := DataW.trod_string Tryd.underlying9 h2
    simp only [List.drop_zero, List.take_succ_cons, List.take_zero, List.cons.injEq, and_true, List.drop_succ_cons] at e0 e1 e2
    exact ⟨n, s, y, by rw [e0, e1, e2]⟩
set_option maxRecDepth 100000 in
theorem open_triple {H : Type} {enc : TypeId × Value → H} {w : World} {r : Reach} {b0 base : Nat} {sp : Nat → Bool} {held : Bool} {v : Value} {d : DataW H} {p : List MemPlace}
    (hv : Value.okWide Tryd.prog w r b0 29 v) (h : DataW.Trod enc Tryd.prog w base sp held 29 v d p) :
    ∃ (n1 : Int) (t1 x1 : ByteArray) (n2 : Int) (t2 x2 : ByteArray) (n3 : Int) (t3 x3 : ByteArray), v = .agg #[.int .i64 n1, .string t1, .string x1, .int .i64 n2, .string t2, .string x2, .int .i64 n3, .string t3, .string x3] := by
  unfold Value.okWide at hv
  rw [Tryd.underlying29] at hv
  obtain ⟨cs, rfl, hsz, _⟩ := hv
  rw [show Tryd.prog.cellsOf 29 = 9 by kernel_rfl] at hsz
  obtain ⟨fuel, hf⟩ := h
  obtain ⟨xs, m, _, _, _, hlen, hel⟩ := DataW.trod_array Tryd.underlying29 hf
  have e0 := hel 0 (by omega)
  have e1 := hel 1 (by omega)
  have e2 := hel 2 (by omega)
  rw [show Tryd.prog.cellsOf 26 = 3 by kernel_rfl] at e0 e1 e2
  rw [List.getElem?_eq_getElem (by omega)] at e0 e1 e2
  obtain ⟨n1, t1, x1, q1⟩ := open_term e0
  obtain ⟨n2, t2, x2, q2⟩ := open_term e1
  obtain ⟨n3, t3, x3, q3⟩ := open_term e2
  refine ⟨n1, t1, x1, n2, t2, x2, n3, t3, x3, ?_⟩
  obtain ⟨l⟩ := cs
  have hl9 : l.length = 9 := hsz
  match l, hl9 with
  | [a1, a2, a3, a4, a5, a6, a7, a8, a9], _ =>
    simp [Value.cells] at q1 q2 q3
    obtain ⟨rfl, rfl, rfl⟩ := q1
    obtain ⟨rfl, rfl, rfl⟩ := q2
    obtain ⟨rfl, rfl, rfl⟩ := q3
    rfl
end Go.Proofs.YtegmcmndjnbkaaaDoor

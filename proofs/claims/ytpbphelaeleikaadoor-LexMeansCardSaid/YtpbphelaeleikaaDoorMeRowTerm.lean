import Derived.Test.YtpbphelaeleikaaDoorRows
import Derived.ProofKit
import Derived.OpenShut
import Derived.ChangeOld
import Derived.ChangeArms
import Derived.Deep.Strs
import Derived.Below
import Derived.Carry
namespace Go.Proofs.YtpbphelaeleikaaDoor
open Go.ChangeShapes Go.WideShapes Go.ChangeAt Go.RowKit
set_option linter.unusedVariables false
set_option maxRecDepth 100000 in
theorem open_term {H : Type} {enc : TypeId × Value → H} {w : World} {base : Nat} {sp : Nat → Bool} {held : Bool} {m : Nat} {cs : List Value} {x : DataW H × List MemPlace} (h : DataW.trod enc Tryd.prog w base sp held m 31 cs = some x) :
  ∃ (n : Int) (s y : ByteArray), cs = [.int .i64 n, .string s, .string y] := by
 obtain ⟨y0, y1, y2, k, _, hl, h0, h1, h2⟩ := Go.Deep.trod_struct3 Tryd.underlying31 h
 rw [show Tryd.prog.cellsOf 31 = 3 by kernel_rfl] at hl
 match cs, hl with
 | [a, b, c], _ =>
  rw [show Tryd.prog.cellsOf 29 = 1 by kernel_rfl] at h0
  rw [show Tryd.prog.cellsOf 9 = 1 by kernel_rfl] at h1 h2
  obtain ⟨n, e0, _⟩ := DataW.trod_int Tryd.underlying29 h0
  obtain ⟨s, e1, _⟩ := DataW.trod_string Tryd.underlying9 h1
  obtain ⟨y, e2, _⟩ := DataW.trod_string Tryd.underlying9 h2
  simp only [List.drop_zero, List.take_succ_cons, List.take_zero, List.cons.injEq, and_true, List.drop_succ_cons] at e0 e1 e2
  exact ⟨n, s, y, by rw [e0, e1, e2]⟩
set_option maxRecDepth 100000 in
theorem open_termv {H : Type} {enc : TypeId × Value → H} {w : World} {r : Reach} {b0 base : Nat} {sp : Nat → Bool} {held : Bool} {v : Value} {d : DataW H} {p : List MemPlace}
  (hv : Value.okWide Tryd.prog w r b0 31 v) (h : DataW.Trod enc Tryd.prog w base sp held 31 v d p) :
  ∃ (n : Int) (t x : ByteArray), v = .agg #[.int .i64 n, .string t, .string x] := by
 unfold Value.okWide at hv
 rw [Tryd.underlying31] at hv
 obtain ⟨cs, rfl, hsz, _⟩ := hv
 obtain ⟨fuel, hf⟩ := h
 obtain ⟨n, t, x, q⟩ := open_term hf
 refine ⟨n, t, x, ?_⟩
 obtain ⟨l⟩ := cs
 have q2 : l = [.int .i64 n, .string t, .string x] := by simpa [Value.cells] using q
 rw [q2]
end Go.Proofs.YtpbphelaeleikaaDoor

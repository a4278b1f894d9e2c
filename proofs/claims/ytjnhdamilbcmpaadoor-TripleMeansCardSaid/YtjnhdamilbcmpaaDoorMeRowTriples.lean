import Derived.Test.YtjnhdamilbcmpaaDoorRows
import Derived.Test.YtjnhdamilbcmpaaDoorMePTmx0
import Derived.Test.YtjnhdamilbcmpaaDoorMePTmx1
import Derived.Test.YtjnhdamilbcmpaaDoorMePTmx2
import Derived.Test.YtjnhdamilbcmpaaDoorMePTmx3
import Derived.Test.YtjnhdamilbcmpaaDoorMePTmx4
import Derived.Test.YtjnhdamilbcmpaaDoorMePTmx5
import Derived.Test.YtjnhdamilbcmpaaDoorMePTmx6
import Derived.Test.YtjnhdamilbcmpaaDoorMePTmx7
import Derived.Test.YtjnhdamilbcmpaaDoorMePTmx8
import Derived.Test.YtjnhdamilbcmpaaDoorMePTmx9
import Derived.Test.YtjnhdamilbcmpaaDoorMePTmx10
import Derived.Test.YtjnhdamilbcmpaaDoorMePTmx11
import Derived.Test.YtjnhdamilbcmpaaDoorMePTmx12
import Derived.Test.YtjnhdamilbcmpaaDoorMePTmx13
import Derived.Test.YtjnhdamilbcmpaaDoorMePTmx14
import Derived.Test.YtjnhdamilbcmpaaDoorMePTmx15
import Derived.Test.YtjnhdamilbcmpaaDoorMePTmx16
import Derived.Test.YtjnhdamilbcmpaaDoorMePTmx17
import Derived.ProofKit
import Derived.OpenShut
import Derived.ChangeOld
import Derived.ChangeArms
import Derived.Deep.Strs
import Derived.Deep.Slices
import Derived.Below
import Derived.Carry
namespace Go.Proofs.YtjnhdamilbcmpaaDoor
open Go.ChangeShapes Go.WideShapes Go.ChangeAt Go.RowKit
set_option linter.unusedVariables false
def PTm.enc9 (x : PTm.S38) : List Value := [.int .i64 x.f0.f0, .string x.f0.f1, .string x.f0.f2, .int .i64 x.f1.f0, .string x.f1.f1, .string x.f1.f2, .int .i64 x.f2.f0, .string x.f2.f1, .string x.f2.f2]
theorem PTm.enc9_len (x : PTm.S38) : (PTm.enc9 x).length = 9 := rfl
set_option maxRecDepth 100000 in
theorem open_term {H : Type} {enc : TypeId × Value → H} {w : World} {base : Nat} {sp : Nat → Bool} {held : Bool} {m : Nat} {cs : List Value} {x : DataW H × List MemPlace} (h : DataW.trod enc Tryd.prog w base sp held m 36 cs = some x) :
  ∃ (n : Int) (s y : ByteArray), cs = [.int .i64 n, .string s, .string y] := by
 obtain ⟨y0, y1, y2, k, _, hl, h0, h1, h2⟩ := Go.Deep.trod_struct3 Tryd.underlying36 h
 rw [show Tryd.prog.cellsOf 36 = 3 by kernel_rfl] at hl
 match cs, hl with
 | [a, b, c], _ =>
  rw [show Tryd.prog.cellsOf 34 = 1 by kernel_rfl] at h0
  rw [show Tryd.prog.cellsOf 9 = 1 by kernel_rfl] at h1 h2
  obtain ⟨n, e0, _⟩ := DataW.trod_int Tryd.underlying34 h0
  obtain ⟨s, e1, _⟩ := DataW.trod_string Tryd.underlying9 h1
  obtain ⟨y, e2, _⟩ := DataW.trod_string Tryd.underlying9 h2
  simp only [List.drop_zero, List.take_succ_cons, List.take_zero, List.cons.injEq, and_true, List.drop_succ_cons] at e0 e1 e2
  exact ⟨n, s, y, by rw [e0, e1, e2]⟩
set_option maxRecDepth 100000 in
theorem open_triple9 {H : Type} {enc : TypeId × Value → H} {w : World} {base : Nat} {sp : Nat → Bool} {held : Bool} {m : Nat} {cs : List Value} {x : DataW H × List MemPlace} (hlen : cs.length = 9) (h : DataW.trod enc Tryd.prog w base sp held m 38 cs = some x) :
  ∃ y : PTm.S38, cs = PTm.enc9 y := by
 obtain ⟨xs, m, _, _, _, hxl, hel⟩ := DataW.trod_array Tryd.underlying38 h
 have e0 := hel 0 (by omega)
 have e1 := hel 1 (by omega)
 have e2 := hel 2 (by omega)
 rw [show Tryd.prog.cellsOf 36 = 3 by kernel_rfl] at e0 e1 e2
 rw [List.getElem?_eq_getElem (by omega)] at e0 e1 e2
 obtain ⟨n1, t1, x1, q1⟩ := open_term e0
 obtain ⟨n2, t2, x2, q2⟩ := open_term e1
 obtain ⟨n3, t3, x3, q3⟩ := open_term e2
 refine ⟨⟨⟨n1, t1, x1⟩, ⟨n2, t2, x2⟩, ⟨n3, t3, x3⟩⟩, ?_⟩
 match cs, hlen with
 | [a1, a2, a3, a4, a5, a6, a7, a8, a9], _ =>
  simp at q1 q2 q3
  obtain ⟨rfl, rfl, rfl⟩ := q1
  obtain ⟨rfl, rfl, rfl⟩ := q2
  obtain ⟨rfl, rfl, rfl⟩ := q3
  rfl
set_option maxRecDepth 100000 in
theorem open_triples {H : Type} {enc : TypeId × Value → H} {w : World} {r : Reach} {b0 base : Nat} {sp : Nat → Bool} {held : Bool} {v : Value} {d : DataW H} {p : List MemPlace}
  (hv : Value.okWide Tryd.prog w r b0 22 v) (h : DataW.Trod enc Tryd.prog w base sp held 22 v d p) :
  ∃ (A : Option Addr) (c : Nat) (l : List PTm.S38), v = .slice A l.length c ∧ l.length ≤ c ∧ YtjnhdamilbcmpaaDoorW.PrintWords.Kd.C PTm.k38 w A l.length l := by
 obtain ⟨A, n, c, rfl⟩ := okWide_slice Tryd.underlying22 hv
 obtain ⟨fuel, hf⟩ := h
 rcases Go.Deep.open_slice Tryd.underlying22 hf with ⟨hcs, _⟩ | ⟨a, len, cap, m, q, D, Pl, hcs, _, hl, hm, hmm, _, hx⟩
 ·simp [Value.cells] at hcs
  obtain ⟨rfl, rfl, rfl⟩ := hcs
  exact ⟨none, 0, [], rfl, Nat.le_refl _, rfl, by simp, fun h => absurd h (by simp)⟩
 ·simp [Value.cells] at hcs
  obtain ⟨rfl, rfl, rfl⟩ := hcs
  have hlm : n ≤ m := by rw [hmm]; split <;> omega
  have each : ∀ i, i < n → ∃ y : PTm.S38, ∀ j u, (PTm.enc9 y)[j]? = some u → w.cell? (a.add (i * 9 + j)) = some u := by
   intro i hi
   obtain ⟨cs', h1, h2⟩ := hx i (by omega)
   rw [show Tryd.prog.cellsOf 38 = 9 by kernel_rfl] at h1
   obtain ⟨_, hlen, hcell⟩ := World.cells?_some h1
   obtain ⟨y, rfl⟩ := open_triple9 hlen h2
   refine ⟨y, fun j u hu => ?_⟩
   have hj : j < 9 := by
    have := (List.getElem?_eq_some_iff.1 hu).1
    rwa [PTm.enc9_len] at this
   have e := hcell j hj
   rw [Go.Deep.add_add] at e
   rw [e]
   exact hu
  haveI : Inhabited PTm.S38 := ⟨PTm.z38⟩
  obtain ⟨q, hq⟩ := Go.Deep.choose_lt each
  have hln : ((List.range n).map q).length = n := by simp
  refine ⟨some a, c, (List.range n).map q, by rw [hln], by omega, ?_⟩
  rw [hln]
  refine ⟨hln, by unfold maxLen at hm; omega, fun _ => ⟨a, rfl, fun j y hy => ?_⟩⟩
  have hj : j < n := by
   have := (List.getElem?_eq_some_iff.1 hy).1
   rwa [hln] at this
  have hyq : y = q j := by
   rw [List.getElem?_map, List.getElem?_range hj] at hy
   exact (Option.some.inj hy).symm
  subst hyq
  exact ⟨PTm.enc9 (q j), rfl, PTm.k38_mk w (q j), hq j hj⟩
end Go.Proofs.YtjnhdamilbcmpaaDoor

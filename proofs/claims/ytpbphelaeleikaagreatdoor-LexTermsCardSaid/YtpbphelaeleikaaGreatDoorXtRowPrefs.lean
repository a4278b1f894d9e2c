import Derived.Test.YtpbphelaeleikaaGreatDoorRows
import Derived.Test.YtpbphelaeleikaaGreatDoorXtPLtx0
import Derived.Test.YtpbphelaeleikaaGreatDoorXtPLtx1
import Derived.Test.YtpbphelaeleikaaGreatDoorXtPLtx2
import Derived.Test.YtpbphelaeleikaaGreatDoorXtPLtx3
import Derived.Test.YtpbphelaeleikaaGreatDoorXtPLtx4
import Derived.Test.YtpbphelaeleikaaGreatDoorXtPLtx5
import Derived.Test.YtpbphelaeleikaaGreatDoorXtPLtx6
import Derived.Test.YtpbphelaeleikaaGreatDoorXtPLtx7
import Derived.Test.YtpbphelaeleikaaGreatDoorXtPLtx8
import Derived.Test.YtpbphelaeleikaaGreatDoorXtPLtx9
import Derived.Test.YtpbphelaeleikaaGreatDoorXtPLtx10
import Derived.Test.YtpbphelaeleikaaGreatDoorXtPLtx11
import Derived.Test.YtpbphelaeleikaaGreatDoorXtPLtx12
import Derived.Test.YtpbphelaeleikaaGreatDoorXtPLtx13
import Derived.Test.YtpbphelaeleikaaGreatDoorXtPLtx14
import Derived.Test.YtpbphelaeleikaaGreatDoorXtPLtx15
import Derived.Test.YtpbphelaeleikaaGreatDoorXtPLtx16
import Derived.Test.YtpbphelaeleikaaGreatDoorXtPLtx17
import Derived.Test.YtpbphelaeleikaaGreatDoorXtPLtx18
import Derived.Test.YtpbphelaeleikaaGreatDoorXtPLtx19
import Derived.Test.YtpbphelaeleikaaGreatDoorXtPLtx20
import Derived.ProofKit
import Derived.OpenShut
import Derived.ChangeOld
import Derived.ChangeArms
import Derived.Deep.Strs
import Derived.Deep.Slices
import Derived.Below
import Derived.Carry
namespace Go.Proofs.YtpbphelaeleikaaGreatDoor
open Go.ChangeShapes Go.WideShapes Go.ChangeAt Go.RowKit
set_option linter.unusedVariables false
def PLt.enc2 (x : PLt.S24) : List Value := [.string x.f0, .string x.f1]
theorem PLt.enc2_len (x : PLt.S24) : (PLt.enc2 x).length = 2 := rfl
set_option maxRecDepth 100000 in
theorem open_pref {H : Type} {enc : TypeId × Value → H} {w : World} {base : Nat} {sp : Nat → Bool} {held : Bool} {m : Nat} {cs : List Value} {x : DataW H × List MemPlace} (hlen : cs.length = 2) (h : DataW.trod enc Tryz.prog w base sp held m 24 cs = some x) :
  ∃ y : PLt.S24, cs = PLt.enc2 y := by
 obtain ⟨xs, k, _, _, hl, hxl, hf⟩ := DataW.trod_struct Tryz.underlying24 h
 match cs, hlen, xs, hxl, hf with
 | [a, b], _, [y0, y1], _, hf =>
  have h0 := hf 0 _ rfl
  have h1 := hf 1 _ rfl
  change DataW.trod _ _ _ _ _ _ _ 9 (([a, b].drop 0).take (Tryz.prog.cellsOf 9)) = some y0 at h0
  change DataW.trod _ _ _ _ _ _ _ 9 (([a, b].drop 1).take (Tryz.prog.cellsOf 9)) = some y1 at h1
  rw [show Tryz.prog.cellsOf 9 = 1 by kernel_rfl] at h0 h1
  obtain ⟨s, e1, _⟩ := DataW.trod_string Tryz.underlying9 h0
  obtain ⟨y, e2, _⟩ := DataW.trod_string Tryz.underlying9 h1
  simp only [List.drop_zero, List.take_succ_cons, List.take_zero, List.cons.injEq, and_true, List.drop_succ_cons] at e1 e2
  exact ⟨⟨s, y⟩, by rw [e1, e2]; rfl⟩
set_option maxRecDepth 100000 in
theorem open_prefs {H : Type} {enc : TypeId × Value → H} {w : World} {r : Reach} {b0 base : Nat} {sp : Nat → Bool} {held : Bool} {v : Value} {d : DataW H} {p : List MemPlace}
  (hv : Value.okWide Tryz.prog w r b0 22 v) (h : DataW.Trod enc Tryz.prog w base sp held 22 v d p) :
  ∃ (A : Option Addr) (c : Nat) (l : List PLt.S24), v = .slice A l.length c ∧ l.length ≤ c ∧ YtpbphelaeleikaaGreatDoorW.PrintWords.Kd.C PLt.k24 w A l.length l := by
 obtain ⟨A, n, c, rfl⟩ := okWide_slice Tryz.underlying22 hv
 obtain ⟨fuel, hf⟩ := h
 rcases Go.Deep.open_slice Tryz.underlying22 hf with ⟨hcs, _⟩ | ⟨a, len, cap, m, q, D, Pl, hcs, _, hl, hm, hmm, _, hx⟩
 ·simp [Value.cells] at hcs
  obtain ⟨rfl, rfl, rfl⟩ := hcs
  exact ⟨none, 0, [], rfl, Nat.le_refl _, rfl, by simp, fun h => absurd h (by simp)⟩
 ·simp [Value.cells] at hcs
  obtain ⟨rfl, rfl, rfl⟩ := hcs
  have hlm : n ≤ m := by rw [hmm]; split <;> omega
  have each : ∀ i, i < n → ∃ y : PLt.S24, ∀ j u, (PLt.enc2 y)[j]? = some u → w.cell? (a.add (i * 2 + j)) = some u := by
   intro i hi
   obtain ⟨cs', h1, h2⟩ := hx i (by omega)
   rw [show Tryz.prog.cellsOf 24 = 2 by kernel_rfl] at h1
   obtain ⟨_, hlen, hcell⟩ := World.cells?_some h1
   obtain ⟨y, rfl⟩ := open_pref hlen h2
   refine ⟨y, fun j u hu => ?_⟩
   have hj : j < 2 := by
    have := (List.getElem?_eq_some_iff.1 hu).1
    rwa [PLt.enc2_len] at this
   have e := hcell j hj
   rw [Go.Deep.add_add] at e
   rw [e]
   exact hu
  haveI : Inhabited PLt.S24 := ⟨PLt.z24⟩
  obtain ⟨q, hq⟩ := Go.Deep.choose_lt each
  have hln : ((List.range n).map q).length = n := by simp
  refine ⟨some a, c, (List.range n).map q, by rw [hln], by omega, ?_⟩
  rw [hln]
  refine ⟨hln, by unfold maxLen at hm; omega, fun _ => ⟨a, rfl, fun j y hy => ?_⟩⟩
  have hj : j < n := by
   have := (List.getElem?_eq_some_iff.1 hy).1
   rwa [hln] at this
  have hyq : y = q j := by
   rw [List.getElem?_map, List.getElem?_range hj] at hy
   exact (Option.some.inj hy).symm
  subst hyq
  exact ⟨PLt.enc2 (q j), rfl, PLt.k24_mk w (q j), hq j hj⟩
end Go.Proofs.YtpbphelaeleikaaGreatDoor

import Derived.Test.YtpbphelaeleikaaGreatDoorProg
import Derived.Below
import Derived.Deep.Draws
import Derived.Deep.AppendLies
import Derived.Maps.AppendAt
import Derived.OwnWalk
import Derived.Laws.BytesArg
import Derived.Laws.MakeOwn
import Derived.Laws.OwnMore
import Derived.Deep.OwnRows
import Derived.Tactics
import Derived.Lib.ConvBytes
import Derived.Laws.Slices
import Derived.WalkKit
import Derived.KernelRfl
import Derived.RowKit3
import Derived.Deep.LoopGhost
import Derived.Deep.QuietTactic
import Derived.BigQuiet
import Derived.WideLaws
import Derived.Deep.DeepCutAuto
import Derived.Deep.CutBlock
import Derived.Deep.RegionHeld3
import Derived.Laws.Rows
import Derived.Lib.AppendStr
import Derived.ArgAppend
import Derived.Laws.IdiomCopy
import Derived.OrdersHeld
import Derived.Laws.BitsLemmas
import Derived.RowKit
import Derived.ChangeKeysEq
import Derived.Laws.Runes
import Derived.Test.YtpbphelaeleikaaGreatDoorXtWWords
import Derived.Test.YtpbphelaeleikaaGreatDoorXtWLast
import Derived.Test.YtpbphelaeleikaaGreatDoorXtWTab
import Derived.Laws.StructEq
import Derived.Test.YtpbphelaeleikaaGreatDoorXtWRepsOne
import Derived.Test.YtpbphelaeleikaaGreatDoorXtWGuard
import Derived.Test.YtpbphelaeleikaaGreatDoorXtWMore
import Derived.MapKept
import Derived.ScopeJumps
import Derived.WalkMore
import Derived.RangeFuncNested
import Derived.RangeFuncBound
import Derived.RangeFuncCalls
import Derived.RangeFuncLeaves
import Derived.Shelf.Abstract
import Derived.Shelf.RegionOpen
import Derived.OwnWalkIn
import Derived.TacticsInMore
import Derived.LoopNIn
import Derived.LoopIn
import Derived.RangeFuncBox
import Derived.Test.YtpbphelaeleikaaGreatDoorXtShelf
import Derived.BigRegion
import Derived.WalkLawsBesides
namespace Go.Proofs.YtpbphelaeleikaaGreatDoor.PLt
open Go.RowKit Go.Proofs.YtpbphelaeleikaaGreatDoorW.PrintWords Go.Proofs.YtpbphelaeleikaaGreatDoorW.PrintLast Go.Proofs.YtpbphelaeleikaaGreatDoorW.PrintMore
attribute [local go_sem] max2_int min2_int max_two min_two max_three min_three max_four min_four
set_option linter.unusedVariables false
set_option linter.unusedSimpArgs false
def errW : Option Int → Value
  | none => .nilIface
  | some c => .iface 0 (.int .i64 c)
theorem errW_none : errW none = .nilIface := rfl
theorem errW_some (c : Int) : errW (some c) = .iface 0 (.int .i64 c) := rfl
theorem info5 : (Tryz.prog.info? 5).map (fun i => (i.zero, i.size, i.bytes)) = some (some (.int .u8 0), 1, 1) := by kernel_rfl
theorem info43 : (Tryz.prog.info? 43).map (fun i => (i.zero, i.size, i.bytes)) = some (some (.agg #[(.int .i64 0), (.string ⟨#[]⟩), (.int .i64 0), (.string ⟨#[]⟩), (.string ⟨#[]⟩), (.int .i64 0)]), 6, 72) := by kernel_rfl
theorem info61 : (Tryz.prog.info? 61).map (fun i => (i.zero, i.size, i.bytes)) = some (some (.agg #[(.int .i64 0), (.int .i64 0)]), 2, 16) := by kernel_rfl
structure S31 where
  f0 : Int
  f1 : ByteArray
  f2 : ByteArray
def z31 : S31 := ⟨(0 : Int), (⟨#[]⟩ : ByteArray), (⟨#[]⟩ : ByteArray)⟩
def k31 : Kd S31 := Kd.iso (Kd.pair (Kd.int .i64) (Kd.pair Kd.string Kd.string)) (fun x : S31 => (x.f0, x.f1, x.f2))
theorem k31_open {w : World} {x : S31} {cs : List Value} (h : k31.K w x cs) : cs = [.int .i64 x.f0, .string x.f1, .string x.f2] := by
  obtain ⟨_, _, rfl, rfl, ⟨_, _, rfl, rfl, rfl⟩⟩ := h
  exact rfl
theorem k31_mkM (w : World) (base : Nat) (ok : Nat → Prop) (x : S31)  : k31.M w base ok x [.int .i64 x.f0, .string x.f1, .string x.f2] := ⟨[.int .i64 x.f0], [.string x.f1, .string x.f2], rfl, rfl, ⟨[.string x.f1], [.string x.f2], rfl, rfl, rfl⟩⟩
structure S43 where
  f0 : Int
  f1 : ByteArray
  f2 : S31
  f3 : Int
def z43 : S43 := ⟨(0 : Int), (⟨#[]⟩ : ByteArray), z31, (0 : Int)⟩
def k43 : Kd S43 := Kd.iso (Kd.pair (Kd.int .i64) (Kd.pair Kd.string (Kd.pair k31 (Kd.int .i64)))) (fun x : S43 => (x.f0, x.f1, x.f2, x.f3))
theorem k43_open {w : World} {x : S43} {cs : List Value} (h : k43.K w x cs) : cs = [.int .i64 x.f0, .string x.f1, .int .i64 x.f2.f0, .string x.f2.f1, .string x.f2.f2, .int .i64 x.f3] := by
  obtain ⟨_, _, rfl, rfl, ⟨_, _, rfl, rfl, ⟨_, _, rfl, s2, rfl⟩⟩⟩ := h
  obtain rfl := k31_open s2
  exact rfl
theorem k43_mkM (w : World) (base : Nat) (ok : Nat → Prop) (x : S43)  : k43.M w base ok x [.int .i64 x.f0, .string x.f1, .int .i64 x.f2.f0, .string x.f2.f1, .string x.f2.f2, .int .i64 x.f3] := ⟨[.int .i64 x.f0], [.string x.f1, .int .i64 x.f2.f0, .string x.f2.f1, .string x.f2.f2, .int .i64 x.f3], rfl, rfl, ⟨[.string x.f1], [.int .i64 x.f2.f0, .string x.f2.f1, .string x.f2.f2, .int .i64 x.f3], rfl, rfl, ⟨[.int .i64 x.f2.f0, .string x.f2.f1, .string x.f2.f2], [.int .i64 x.f3], rfl, (k31_mkM w base ok x.f2 ), rfl⟩⟩⟩
def rd_T43 (xs : List S43) (i : Int) : S43 := xs.getD i.toNat z43
theorem at_T43 {w : World} {A : Option Addr} {n : Nat} {xs : List S43} (h : Kd.C k43 w A n xs) (i : Int) (h0 : 0 ≤ i) (h1 : i < n) : ∃ ad , A = some ad ∧ w.cell? (ad.add (i.toNat * 6)) = some (.int .i64 (rd_T43 xs i).f0) ∧ w.cell? ⟨(ad.add (i.toNat * 6)).block, (ad.add (i.toNat * 6)).off + 1, none⟩ = some (.string (rd_T43 xs i).f1) ∧ w.cell? ⟨(ad.add (i.toNat * 6)).block, (ad.add (i.toNat * 6)).off + 2, none⟩ = some (.int .i64 (rd_T43 xs i).f2.f0) ∧ w.cell? ⟨(ad.add (i.toNat * 6)).block, (ad.add (i.toNat * 6)).off + 3, none⟩ = some (.string (rd_T43 xs i).f2.f1) ∧ w.cell? ⟨(ad.add (i.toNat * 6)).block, (ad.add (i.toNat * 6)).off + 4, none⟩ = some (.string (rd_T43 xs i).f2.f2) ∧ w.cell? ⟨(ad.add (i.toNat * 6)).block, (ad.add (i.toNat * 6)).off + 5, none⟩ = some (.int .i64 (rd_T43 xs i).f3) := by
  obtain ⟨ad, c, e, _, hK, hc0⟩ := Kd.C_get h z43 i h0 h1
  have hc : ∀ j u, c[j]? = some u → w.cell? (ad.add (i.toNat * 6 + j)) = some u := hc0
  obtain rfl := k43_open hK
  exact ⟨ad, e, hc 0 _ rfl, by rw [← add_field _ _ 1 (by omega)]; exact hc 1 _ rfl, by rw [← add_field _ _ 2 (by omega)]; exact hc 2 _ rfl, by rw [← add_field _ _ 3 (by omega)]; exact hc 3 _ rfl, by rw [← add_field _ _ 4 (by omega)]; exact hc 4 _ rfl, by rw [← add_field _ _ 5 (by omega)]; exact hc 5 _ rfl⟩
structure S61 where
  f0 : Int
  f1 : Int
def k61 : Kd S61 := Kd.iso (Kd.pair (Kd.int .i64) (Kd.int .i64)) (fun x : S61 => (x.f0, x.f1))
theorem k61_mkM (w : World) (base : Nat) (ok : Nat → Prop) (x : S61)  : k61.M w base ok x [.int .i64 x.f0, .int .i64 x.f1] := ⟨[.int .i64 x.f0], [.int .i64 x.f1], rfl, rfl, rfl⟩
structure S24 where
  f0 : ByteArray
  f1 : ByteArray
def z24 : S24 := ⟨(⟨#[]⟩ : ByteArray), (⟨#[]⟩ : ByteArray)⟩
def k24 : Kd S24 := Kd.iso (Kd.pair Kd.string Kd.string) (fun x : S24 => (x.f0, x.f1))
theorem k24_open {w : World} {x : S24} {cs : List Value} (h : k24.K w x cs) : cs = [.string x.f0, .string x.f1] := by
  obtain ⟨_, _, rfl, rfl, rfl⟩ := h
  exact rfl
theorem k24_mk (w : World) (x : S24)  : k24.K w x [.string x.f0, .string x.f1] := ⟨[.string x.f0], [.string x.f1], rfl, rfl, rfl⟩
def rd_T24 (xs : List S24) (i : Int) : S24 := xs.getD i.toNat z24
theorem at_T24 {w : World} {A : Option Addr} {n : Nat} {xs : List S24} (h : Kd.C k24 w A n xs) (i : Int) (h0 : 0 ≤ i) (h1 : i < n) : ∃ ad , A = some ad ∧ w.cell? (ad.add (i.toNat * 2)) = some (.string (rd_T24 xs i).f0) ∧ w.cell? ⟨(ad.add (i.toNat * 2)).block, (ad.add (i.toNat * 2)).off + 1, none⟩ = some (.string (rd_T24 xs i).f1) := by
  obtain ⟨ad, c, e, _, hK, hc0⟩ := Kd.C_get h z24 i h0 h1
  have hc : ∀ j u, c[j]? = some u → w.cell? (ad.add (i.toNat * 2 + j)) = some u := hc0
  obtain rfl := k24_open hK
  exact ⟨ad, e, hc 0 _ rfl, by rw [← add_field _ _ 1 (by omega)]; exact hc 1 _ rfl⟩
theorem b1_ {p : Prop} (h : p := by repeat (first | (with_reducible first | exact HB.out | apply below_alloc | apply pw_below_drewN | apply below_drew1) | exact HB.out)) : p := h
theorem b2_ {p : Prop} (h : p := by repeat (first | (with_reducible first | exact HB.out | apply below_alloc | apply pw_below_drewN | apply below_drew1 | refine below_set ?_ GE.out) | exact HB.out)) : p := h
theorem e1_ {p : Prop} (h : p := by first | rfl | (simp; done) | (simp [*]; done)) : p := h
theorem e2_ {p : Prop} (h : p := by first | rfl | (simp [errW_none, errW_some] <;> rfl) | (simp [*, errW_none, errW_some] <;> rfl)) : p := h
theorem a1_ {p : Prop} (h : p := by first | (with_reducible assumption) | assumption) : p := h
theorem g1_ {p : Prop} (h : p := by (try simp only [List.map_toArray, List.map_cons, List.map_nil]); first | done | rfl | (simp only [List.length_drop, List.length_take]; rfl)) : p := h
theorem r1_ {p : Prop} (h : p := by rfl) : p := h
theorem r2_ {p : Prop} (h : p := by first | (go_simp; done) | (go_simp; rfl)) : p := h
theorem k1_ {p : Prop} (h : p := by kernel_rfl) : p := h
theorem o1_ {p : Prop} (h : p := by have := HK1.out; first | omega | exact Nat.le_refl _) : p := h
theorem s1_ {p : Prop} (h : p := by simp) : p := h
theorem h1_ {p : Prop} (h : p := by intro q hq; simp at hq; repeat (first | (rcases hq with rfl | hq; · rfl) | (subst hq; rfl))) : p := h
theorem bd_ {p q : Prop} (hq : q) (h : q → p := by intro hq_; (with_reducible repeat (first | refine blk_drewN ?_ _ | refine blk_drew ?_ | refine blk_alloc ?_ _)); exact hq_) : p := h hq
theorem bs_ {p : Prop} (h : p := by rw [hg]; exact (below_size b1_)) : p := h
theorem cl_ {W : World} {g : Nat} {cs : Array Value} {t : TypeId} (v : Value) (h : W.heap[g]? = some (.cells cs t (0, 0))) (i : Nat) (e : cs[i]? = some v := by rfl) : W.cell? ⟨g, i, none⟩ = some v := (blk_cell h i).trans e
theorem bi_ {α β : Type} {o : Option α} {f : α → Option β} {r : β} (h : o.bind f = some r) : ∃ t, Ad (o = some t) ∧ f t = some r := by
  obtain ⟨t, h1, h2⟩ := Option.bind_eq_some_iff.mp h
  exact ⟨t, Ad.mk h1, h2⟩
theorem yb_ {α β : Type} {x : α} {f : α → Option β} {r : β} (h : (some x).bind f = some r) : ∃ y, y = x ∧ f y = some r := ⟨x, rfl, h⟩
theorem c3_ {w : World} {g : Nat} {t : TypeId} {v0 v1 v2 : Value} (h : w.heap[g]? = some (.cells #[v0, v1, v2] t (0, 0))) : (w.cell? ⟨g, 0, none⟩ = some v0 ∧ w.cell? ⟨g, 1, none⟩ = some v1 ∧ w.cell? ⟨g, 2, none⟩ = some v2) ∧ w.frozen? ⟨g, 0, none⟩ = false ∧ w.frozen? ⟨g, 1, none⟩ = false ∧ w.frozen? ⟨g, 2, none⟩ = false := ⟨⟨blk_cell h 0, blk_cell h 1, blk_cell h 2⟩, blk_frozen h 0, blk_frozen h 1, blk_frozen h 2⟩
theorem c6_ {w : World} {g : Nat} {t : TypeId} {v0 v1 v2 v3 v4 v5 : Value} (h : w.heap[g]? = some (.cells #[v0, v1, v2, v3, v4, v5] t (0, 0))) : (w.cell? ⟨g, 0, none⟩ = some v0 ∧ w.cell? ⟨g, 1, none⟩ = some v1 ∧ w.cell? ⟨g, 2, none⟩ = some v2 ∧ w.cell? ⟨g, 3, none⟩ = some v3 ∧ w.cell? ⟨g, 4, none⟩ = some v4 ∧ w.cell? ⟨g, 5, none⟩ = some v5) ∧ w.frozen? ⟨g, 0, none⟩ = false ∧ w.frozen? ⟨g, 1, none⟩ = false ∧ w.frozen? ⟨g, 2, none⟩ = false ∧ w.frozen? ⟨g, 3, none⟩ = false ∧ w.frozen? ⟨g, 4, none⟩ = false ∧ w.frozen? ⟨g, 5, none⟩ = false := ⟨⟨blk_cell h 0, blk_cell h 1, blk_cell h 2, blk_cell h 3, blk_cell h 4, blk_cell h 5⟩, blk_frozen h 0, blk_frozen h 1, blk_frozen h 2, blk_frozen h 3, blk_frozen h 4, blk_frozen h 5⟩
theorem c9_ {w : World} {g : Nat} {t : TypeId} {v0 v1 v2 v3 v4 v5 v6 v7 v8 : Value} (h : w.heap[g]? = some (.cells #[v0, v1, v2, v3, v4, v5, v6, v7, v8] t (0, 0))) : (w.cell? ⟨g, 0, none⟩ = some v0 ∧ w.cell? ⟨g, 1, none⟩ = some v1 ∧ w.cell? ⟨g, 2, none⟩ = some v2 ∧ w.cell? ⟨g, 3, none⟩ = some v3 ∧ w.cell? ⟨g, 4, none⟩ = some v4 ∧ w.cell? ⟨g, 5, none⟩ = some v5 ∧ w.cell? ⟨g, 6, none⟩ = some v6 ∧ w.cell? ⟨g, 7, none⟩ = some v7 ∧ w.cell? ⟨g, 8, none⟩ = some v8) ∧ w.frozen? ⟨g, 0, none⟩ = false ∧ w.frozen? ⟨g, 1, none⟩ = false ∧ w.frozen? ⟨g, 2, none⟩ = false ∧ w.frozen? ⟨g, 3, none⟩ = false ∧ w.frozen? ⟨g, 4, none⟩ = false ∧ w.frozen? ⟨g, 5, none⟩ = false ∧ w.frozen? ⟨g, 6, none⟩ = false ∧ w.frozen? ⟨g, 7, none⟩ = false ∧ w.frozen? ⟨g, 8, none⟩ = false := ⟨⟨blk_cell h 0, blk_cell h 1, blk_cell h 2, blk_cell h 3, blk_cell h 4, blk_cell h 5, blk_cell h 6, blk_cell h 7, blk_cell h 8⟩, blk_frozen h 0, blk_frozen h 1, blk_frozen h 2, blk_frozen h 3, blk_frozen h 4, blk_frozen h 5, blk_frozen h 6, blk_frozen h 7, blk_frozen h 8⟩
theorem py_ {p : Prop} (h : p := by intro w'; go_simp; with_reducible rfl) : p := h
theorem pa_ {p : Prop} (h : p := by simp only [Act.put, List.setIfInBounds_toArray, List.set_cons_zero, List.set_cons_succ, i64_w, i32_w]; rfl) : p := h
theorem z1_ {p : Prop} (h : p := by repeat (first | exact Drawn0.refl _ | apply Drawn0.step)) : p := h
theorem z2_ {p : Prop} (h : p := by repeat (first | (with_reducible first | exact HB.out | apply below_alloc | apply pw_below_drewN | apply below_drew1 | refine below_set ?_ G0.out | refine below_set ?_ G1.out) | exact HB.out)) : p := h
theorem z3_ {p : Prop} (h : p := by (with_reducible repeat (first | apply Kd.R_alloc | apply Kd.R_drewN | apply Kd.R_drew)); exact G0.out) : p := h
theorem z4_ {p : Prop} (h : p := by repeat (first | (with_reducible first | exact HK.out | apply KeepBut.set_ | apply keep_drewN | apply keep_drew | apply keep_alloc | refine keep_far ?_ G0.out _) | exact HK.out)) : p := h
theorem z5_ {p : Prop} (h : p := by repeat (first | (with_reducible first | exact G0.out | apply IsS73.alloc | apply IsS73.drewN | apply IsS73.drew | apply IsS73.set_0 | apply IsS73.set_1 | refine IsS73.far ?_ G1.out _) | exact G0.out)) : p := h
theorem z6_ {p : Prop} (h : p := by repeat (first | (with_reducible first | exact HB.out | apply below_alloc | apply pw_below_drewN | apply below_drew1 | refine below_set ?_ (IsS73.ge G0.out) | refine below_set ?_ G1.out) | exact HB.out)) : p := h
theorem z7_ {p : Prop} (h : p := by repeat (first | (with_reducible first | exact HB.out | apply below_alloc | apply pw_below_drewN | apply below_drew1 | refine below_set ?_ G0.out) | exact HB.out)) : p := h
theorem z8_ {p : Prop} (h : p := by repeat (first | (with_reducible first | exact G0.out | apply IsS73.alloc | apply IsS73.drewN | apply IsS73.drew | apply IsS73.set_0 | apply IsS73.set_1) | exact G0.out)) : p := h
theorem z9_ {p : Prop} (h : p := by repeat (first | (with_reducible first | exact HK.out | apply KeepBut.set_ | apply keep_drewN | apply keep_drew | apply keep_alloc) | exact HK.out)) : p := h
theorem z10_ {p : Prop} (h : p := by repeat (first | (with_reducible first | exact HB.out | apply below_alloc | apply pw_below_drewN | apply below_drew1 | refine below_set ?_ (IsS73.ge G0.out)) | exact HB.out)) : p := h
theorem z11_ {p : Prop} (h : p := by rw [hg]; exact (keep_size (w := w) (g := g) (row := none) (by repeat (first | (with_reducible first | exact HK.out | apply KeepBut.set_ | apply keep_drewN | apply keep_drew | apply keep_alloc) | exact HK.out)))) : p := h
theorem z12_ {p : Prop} (h : p := by first | omega | exact Nat.le_refl _) : p := h
theorem z13_ {p : Prop} (h : p := by refine bd_ ?_; refine blk_far ?_ G0.out _; refine bd_ ?_; refine blk_far ?_ G0.out _; refine bd_ ?_; refine blk_far ?_ G0.out _; refine bd_ ?_; exact G1.out) : p := h
theorem z14_ {p : Prop} (h : p := by repeat (first | (with_reducible first | exact HB.out | apply below_alloc | apply pw_below_drewN | apply below_drew1 | refine below_set ?_ G0.out | refine below_set ?_ G1.out | refine below_set ?_ G2.out) | exact HB.out)) : p := h
theorem z15_ {p : Prop} (h : p := by rw [hg]; exact Nat.ne_of_lt (IsS73.lt (show IsS73 w0 _ g s0_0 s0_1 from by repeat (first | (with_reducible first | exact G0.out | apply IsS73.alloc | apply IsS73.drewN | apply IsS73.drew | apply IsS73.set_0 | apply IsS73.set_1) | exact G0.out)))) : p := h
theorem z16_ {p : Prop} (h : p := by rw [hg]; exact Nat.ne_of_gt (IsS73.lt (show IsS73 w0 _ g s0_0 s0_1 from by repeat (first | (with_reducible first | exact G0.out | apply IsS73.alloc | apply IsS73.drewN | apply IsS73.drew | apply IsS73.set_0 | apply IsS73.set_1) | exact G0.out)))) : p := h
theorem z17_ {p : Prop} (h : p := by rw [hg]; exact (below_size (by repeat (first | (with_reducible first | exact HB.out | apply below_alloc | apply pw_below_drewN | apply below_drew1 | refine below_set ?_ G0.out | refine below_set ?_ G1.out) | exact HB.out)))) : p := h
theorem z18_ {p : Prop} (h : p := by rw [hgy]; exact Ne.symm (Nat.ne_of_lt G0.out.st.lt)) : p := h
theorem z19_ {p : Prop} (h : p := by rw [hgy]; exact Ne.symm (Nat.ne_of_lt (blk_lt G0.out.res))) : p := h
theorem z20_ {p : Prop} (h : p := by rw [hgy]; exact Ne.symm (Nat.ne_of_lt (blk_lt G0.out.rows))) : p := h
theorem z21_ {p : Prop} (h : p := by repeat (first | exact G0.out | apply IsS73.drewN | apply IsS73.set_1)) : p := h
theorem z22_ {p : Prop} (h : p := by repeat (first | exact HK.out | apply KeepBut.set_ | apply keep_drewN)) : p := h
theorem z23_ {p : Prop} (h : p := by repeat (first | exact HB.out | apply pw_below_drewN | refine below_set ?_ (IsS73.ge G0.out))) : p := h
theorem z24_ {p : Prop} (h : p := by first | exact Kd.R_nil _ _ _ _ _ | exact Kd.N_nil _ _ _ _ _ | exact Kd.V_nil _ _ _ _ _ | exact Kd.Q_nil _ _ _ _ _ | exact Kd.S_nil _ _ _ _ _) : p := h
theorem z25_ {p : Prop} (h : p := by rw [hg]; exact Nat.ne_of_lt (blk_lt (g := gb408) (o := .cells #[.int .i64 0, .string ⟨#[]⟩, .string ⟨#[]⟩] 31 (0, 0)) (bd_ G0.out))) : p := h
theorem z26_ {p : Prop} (h : p := by rw [hg]; exact Nat.ne_of_gt (blk_lt (g := gb408) (o := .cells #[.int .i64 0, .string ⟨#[]⟩, .string ⟨#[]⟩] 31 (0, 0)) (bd_ G0.out))) : p := h
theorem z27_ {p : Prop} (h : p := by have := HK1.out; have := HK2.out; omega) : p := h
theorem z28_ {p : Prop} (h : p := by rw [← hq_]; exact (by repeat (first | (with_reducible first | exact HB.out | apply below_alloc | apply pw_below_drewN | apply below_drew1 | refine below_set ?_ G0.out | refine below_set ?_ G1.out) | exact HB.out))) : p := h
theorem z29_ {p : Prop} (h : p := by repeat (first | exact (Kd.C_below G0.out HB.out) | (with_reducible refine Kd.C_alloc ?_ _) | (with_reducible refine Kd.C_drewN ?_ _) | (with_reducible refine Kd.C_drew ?_))) : p := h
theorem z30_ {p : Prop} (h : p := by refine bd_ ?_; refine blk_far ?_ G0.out _; refine bd_ ?_; refine blk_far ?_ G0.out _; refine bd_ ?_; exact G1.out) : p := h
theorem z31_ {p : Prop} (h : p := by refine bd_ ?_; refine blk_put (cs := #[.int .i64 0, .string ⟨#[]⟩, .int .i64 0, .string ⟨#[]⟩, .string ⟨#[]⟩, .int .i64 0]) ?_ 5 _ rfl; refine bd_ ?_; refine blk_put (cs := #[.int .i64 0, .string ⟨#[]⟩, .int .i64 0, .string ⟨#[]⟩, .string ⟨#[]⟩, .int .i64 0]) ?_ 4 _ rfl; refine bd_ ?_; refine blk_put (cs := #[.int .i64 0, .string ⟨#[]⟩, .int .i64 0, .string ⟨#[]⟩, .string ⟨#[]⟩, .int .i64 0]) ?_ 3 _ rfl; refine bd_ ?_; refine blk_put (cs := #[.int .i64 0, .string ⟨#[]⟩, .int .i64 0, .string ⟨#[]⟩, .string ⟨#[]⟩, .int .i64 0]) ?_ 2 _ rfl; refine bd_ ?_; refine blk_put (cs := #[.int .i64 0, .string ⟨#[]⟩, .int .i64 0, .string ⟨#[]⟩, .string ⟨#[]⟩, .int .i64 0]) ?_ 1 _ rfl; refine bd_ ?_; refine blk_put (cs := #[.int .i64 0, .string ⟨#[]⟩, .int .i64 0, .string ⟨#[]⟩, .string ⟨#[]⟩, .int .i64 0]) ?_ 0 _ rfl; refine bd_ ?_; exact G0.out) : p := h
theorem z32_ {p : Prop} (h : p := by simp [Go.MapKept.IsKey]) : p := h
theorem z33_ {p : Prop} (h : p := by rw [hg]; exact (below_size (by have GE := GE272; exact b2_))) : p := h
theorem z34_ {p : Prop} (h : p := by repeat (first | exact Below.refl _ _ | apply below_alloc | apply pw_below_drewN | apply below_drew1 | apply below_drew)) : p := h
theorem z35_ {p : Prop} (h : p := by rw [hg]; exact (below_size (by have GE := GE402; exact b2_))) : p := h
theorem z36_ {p : Prop} (h : p := by refine bd_ ?_; refine blk_put (cs := #[.int .i64 0, .string ⟨#[]⟩, .string ⟨#[]⟩]) ?_ 2 _ rfl; refine bd_ ?_; refine blk_put (cs := #[.int .i64 0, .string ⟨#[]⟩, .string ⟨#[]⟩]) ?_ 1 _ rfl; refine bd_ ?_; refine blk_put (cs := #[.int .i64 0, .string ⟨#[]⟩, .string ⟨#[]⟩]) ?_ 0 _ rfl; refine bd_ ?_; exact G0.out) : p := h
theorem z37_ {p : Prop} (h : p := by rw [hg]; exact (below_size (by have GE := GE408; exact b2_))) : p := h
theorem z38_ {p : Prop} (h : p := by first | (rw [add_block]; exact hn420_0) | (show (Addr.add _ _).block ≠ _; rw [add_block]; exact hn420_0) | exact hn420_0) : p := h
theorem z39_ {p : Prop} (h : p := by first | (rw [add_block]; exact hn420_1) | (show (Addr.add _ _).block ≠ _; rw [add_block]; exact hn420_1) | exact hn420_1) : p := h
theorem z40_ {p : Prop} (h : p := by first | (rw [add_block]; exact hn420_2) | (show (Addr.add _ _).block ≠ _; rw [add_block]; exact hn420_2) | exact hn420_2) : p := h
theorem z41_ {p : Prop} (h : p := by rw [hg]; exact Nat.ne_of_lt (blk_lt (g := gb419) (o := .cells #[.int .i64 x420000_17, .string ((rd_T43 l0 0).f1), .string x420002_17] 31 (0, 0)) (bd_ G0.out))) : p := h
theorem z42_ {p : Prop} (h : p := by rw [hg]; exact Nat.ne_of_gt (blk_lt (g := gb419) (o := .cells #[.int .i64 x420000_17, .string ((rd_T43 l0 0).f1), .string x420002_17] 31 (0, 0)) (bd_ G0.out))) : p := h
theorem z43_ {p : Prop} (h : p := by have GE := GE243; exact b2_) : p := h
theorem z44_ {p : Prop} (h : p := by repeat (first | (with_reducible first | exact HK.out | apply KeepBut.set_ | apply keep_drewN | apply keep_drew | apply keep_alloc | refine keep_far ?_ G0.out _ | refine keep_far ?_ G1.out _) | exact HK.out)) : p := h
theorem z45_ {p : Prop} (h : p := by repeat (first | (with_reducible first | exact HB.out | apply below_alloc | apply pw_below_drewN | apply below_drew1 | refine below_set ?_ (IsS73.ge G0.out) | refine below_set ?_ G1.out | refine below_set ?_ G2.out) | exact HB.out)) : p := h
theorem z46_ {p : Prop} (h : p := by repeat (first | (with_reducible first | exact G0.out | apply IsS73.alloc | apply IsS73.drewN | apply IsS73.drew | apply IsS73.set_0 | apply IsS73.set_1 | refine IsS73.far ?_ G1.out _ | refine IsS73.far ?_ G2.out _) | exact G0.out)) : p := h
theorem z47_ {p : Prop} (h : p := by have GE := GE122; exact b2_) : p := h
theorem z48_ {p : Prop} (h : p := by have := HK1.out; have := HJ44.out; have := HK3.out; omega) : p := h
theorem z49_ {p : Prop} (h : p := by have GE := GE408; exact b2_) : p := h
theorem z50_ {p : Prop} (h : p := by rw [hg]; exact (keep_size (w := w) (g := g) (row := none) (by repeat (first | (with_reducible first | exact HK.out | apply KeepBut.set_ | apply keep_drewN | apply keep_drew | apply keep_alloc | refine keep_far ?_ G0.out _) | exact HK.out)))) : p := h
theorem z51_ {p : Prop} (h : p := by have := HK1.out; have := HJ1.out; have := HK3.out; have := HJ8.out; omega) : p := h
theorem z52_ {p : Prop} (h : p := by rw [hg]; exact Nat.ne_of_lt (blk_lt (g := gb402) (o := .cells #[.int .i64 a0_0, .string a0_1, .int .i64 a0_2, .string a0_3, .string a0_4, .int .i64 a0_5] 43 (0, 0)) (bd_ G0.out))) : p := h
theorem z53_ {p : Prop} (h : p := by rw [hg]; exact Nat.ne_of_gt (blk_lt (g := gb402) (o := .cells #[.int .i64 a0_0, .string a0_1, .int .i64 a0_2, .string a0_3, .string a0_4, .int .i64 a0_5] 43 (0, 0)) (bd_ G0.out))) : p := h
theorem z54_ {p : Prop} (h : p := by have := HJ4.out; first | omega | exact Nat.le_refl _) : p := h
theorem z55_ {p : Prop} (h : p := by have := HJ4.out; have := HJ16.out; have := HK3.out; omega) : p := h
theorem z56_ {p : Prop} (h : p := by refine bd_ ?_; refine blk_put (cs := #[.int .i64 t425, .string t426, .string ⟨#[]⟩]) ?_ 2 _ rfl; refine bd_ ?_; refine blk_put (cs := #[.int .i64 t425, .string ⟨#[]⟩, .string ⟨#[]⟩]) ?_ 1 _ rfl; refine bd_ ?_; refine blk_put (cs := #[.int .i64 0, .string ⟨#[]⟩, .string ⟨#[]⟩]) ?_ 0 _ rfl; refine bd_ ?_; exact G0.out) : p := h
theorem z57_ {p : Prop} (h : p := by (with_reducible repeat (first | apply Kd.R_alloc | apply Kd.R_drewN | apply Kd.R_drew)); exact Kd.R_mono G0.out (fun _ hk => hk.2)) : p := h
theorem z58_ {p : Prop} (h : p := by rw [hg]; exact Nat.ne_of_lt (blk_lt (g := gb272) (o := .cells #[.int .i64 a0_0, .string a0_1, .int .i64 a0_2, .string a0_3, .string a0_4, .int .i64 a0_5] 43 (0, 0)) (bd_ G0.out))) : p := h
theorem z59_ {p : Prop} (h : p := by rw [hg]; exact Nat.ne_of_gt (blk_lt (g := gb272) (o := .cells #[.int .i64 a0_0, .string a0_1, .int .i64 a0_2, .string a0_3, .string a0_4, .int .i64 a0_5] 43 (0, 0)) (bd_ G0.out))) : p := h
theorem z60_ {p : Prop} (h : p := by refine bd_ ?_; refine blk_put (cs := #[.int .i64 a0_0, .string a0_1, .int .i64 a0_2, .string a0_3, .string a0_4, .int .i64 0]) ?_ 5 _ rfl; refine bd_ ?_; refine blk_put (cs := #[.int .i64 a0_0, .string a0_1, .int .i64 a0_2, .string a0_3, .string ⟨#[]⟩, .int .i64 0]) ?_ 4 _ rfl; refine bd_ ?_; refine blk_put (cs := #[.int .i64 a0_0, .string a0_1, .int .i64 a0_2, .string ⟨#[]⟩, .string ⟨#[]⟩, .int .i64 0]) ?_ 3 _ rfl; refine bd_ ?_; refine blk_put (cs := #[.int .i64 a0_0, .string a0_1, .int .i64 0, .string ⟨#[]⟩, .string ⟨#[]⟩, .int .i64 0]) ?_ 2 _ rfl; refine bd_ ?_; refine blk_put (cs := #[.int .i64 a0_0, .string ⟨#[]⟩, .int .i64 0, .string ⟨#[]⟩, .string ⟨#[]⟩, .int .i64 0]) ?_ 1 _ rfl; refine bd_ ?_; refine blk_put (cs := #[.int .i64 0, .string ⟨#[]⟩, .int .i64 0, .string ⟨#[]⟩, .string ⟨#[]⟩, .int .i64 0]) ?_ 0 _ rfl; refine bd_ ?_; exact G0.out) : p := h
theorem z61_ {p : Prop} (h : p := by first | rfl | (simp [errW_none, errW_some] <;> rfl) | (simp only [← hji9, ← hji10, ← hji12]; first | rfl | (simp [errW_none, errW_some] <;> rfl)) | (simp [*, errW_none, errW_some] <;> rfl)) : p := h
theorem z62_ {p : Prop} (h : p := by first | exact Nat.ne_of_lt (Nat.lt_of_lt_of_le (by have := World.block_lt_of_cell? _ _ hw405_0; first | rwa [add_block] at this | exact this) G0.out) | (rw [add_block]; exact Nat.ne_of_lt (Nat.lt_of_lt_of_le (by have := World.block_lt_of_cell? _ _ hw405_0; first | rwa [add_block] at this | exact this) G0.out)) | (show (Addr.add _ _).block ≠ _; rw [add_block]; exact Nat.ne_of_lt (Nat.lt_of_lt_of_le (by have := World.block_lt_of_cell? _ _ hw405_0; first | rwa [add_block] at this | exact this) G0.out)) | (dsimp only; exact Nat.ne_of_lt (Nat.lt_of_lt_of_le (by have := World.block_lt_of_cell? _ _ hw405_0; first | rwa [add_block] at this | exact this) G0.out))) : p := h
theorem z63_ {p : Prop} (h : p := by first | exact Nat.ne_of_lt (Nat.lt_of_lt_of_le (by have := World.block_lt_of_cell? _ _ hw405_1; first | rwa [add_block] at this | exact this) G0.out) | (rw [add_block]; exact Nat.ne_of_lt (Nat.lt_of_lt_of_le (by have := World.block_lt_of_cell? _ _ hw405_1; first | rwa [add_block] at this | exact this) G0.out)) | (show (Addr.add _ _).block ≠ _; rw [add_block]; exact Nat.ne_of_lt (Nat.lt_of_lt_of_le (by have := World.block_lt_of_cell? _ _ hw405_1; first | rwa [add_block] at this | exact this) G0.out)) | (dsimp only; exact Nat.ne_of_lt (Nat.lt_of_lt_of_le (by have := World.block_lt_of_cell? _ _ hw405_1; first | rwa [add_block] at this | exact this) G0.out))) : p := h
theorem z64_ {p : Prop} (h : p := by have := HJ1.out; have := HK2.out; have := HJ13.out; omega) : p := h
theorem z65_ {p : Prop} (h : p := by have := HK1.out; have := HJ4.out; first | omega | exact Nat.le_refl _) : p := h
theorem z66_ {p : Prop} (h : p := by refine bd_ ?_; refine blk_put (cs := #[.int .i64 a2_0, .string a2_1, .int .i64 a2_2, .string a2_3, .string a2_4, .int .i64 0]) ?_ 5 _ rfl; refine bd_ ?_; refine blk_put (cs := #[.int .i64 a2_0, .string a2_1, .int .i64 a2_2, .string a2_3, .string ⟨#[]⟩, .int .i64 0]) ?_ 4 _ rfl; refine bd_ ?_; refine blk_put (cs := #[.int .i64 a2_0, .string a2_1, .int .i64 a2_2, .string ⟨#[]⟩, .string ⟨#[]⟩, .int .i64 0]) ?_ 3 _ rfl; refine bd_ ?_; refine blk_put (cs := #[.int .i64 a2_0, .string a2_1, .int .i64 0, .string ⟨#[]⟩, .string ⟨#[]⟩, .int .i64 0]) ?_ 2 _ rfl; refine bd_ ?_; refine blk_put (cs := #[.int .i64 a2_0, .string ⟨#[]⟩, .int .i64 0, .string ⟨#[]⟩, .string ⟨#[]⟩, .int .i64 0]) ?_ 1 _ rfl; refine bd_ ?_; refine blk_put (cs := #[.int .i64 0, .string ⟨#[]⟩, .int .i64 0, .string ⟨#[]⟩, .string ⟨#[]⟩, .int .i64 0]) ?_ 0 _ rfl; refine bd_ ?_; exact G0.out) : p := h
theorem z67_ {p : Prop} (h : p := by have := HK1.out; have := HJ44.out; have := HK3.out; first | omega | exact Nat.le_refl _) : p := h
theorem z68_ {p : Prop} (h : p := by (try simp only [List.map_toArray, List.map_cons, List.map_nil]); first | done | (simp only [hji114]; rfl) | rfl | (simp only [List.length_drop, List.length_take]; rfl)) : p := h
theorem z69_ {p : Prop} (h : p := by refine bd_ ?_; refine blk_put (cs := #[.int .i64 5, .string (a0.extract ((ji114) : Int).toNat (t316 : Int).toNat), .int .i64 0, .string ⟨#[]⟩, .string ⟨#[]⟩, .int .i64 x285005_1]) ?_ 5 _ rfl; refine bd_ ?_; refine blk_put (cs := #[.int .i64 5, .string (a0.extract ((ji114) : Int).toNat (t316 : Int).toNat), .int .i64 0, .string ⟨#[]⟩, .string x285004_1, .int .i64 x285005_1]) ?_ 4 _ rfl; refine bd_ ?_; refine blk_put (cs := #[.int .i64 5, .string (a0.extract ((ji114) : Int).toNat (t316 : Int).toNat), .int .i64 0, .string x285003_1, .string x285004_1, .int .i64 x285005_1]) ?_ 3 _ rfl; refine bd_ ?_; refine blk_put (cs := #[.int .i64 5, .string (a0.extract ((ji114) : Int).toNat (t316 : Int).toNat), .int .i64 x285002_1, .string x285003_1, .string x285004_1, .int .i64 x285005_1]) ?_ 2 _ rfl; refine bd_ ?_; refine blk_put (cs := #[.int .i64 5, .string x285001_1, .int .i64 x285002_1, .string x285003_1, .string x285004_1, .int .i64 x285005_1]) ?_ 1 _ rfl; refine bd_ ?_; refine blk_put (cs := #[.int .i64 x285000_1, .string x285001_1, .int .i64 x285002_1, .string x285003_1, .string x285004_1, .int .i64 x285005_1]) ?_ 0 _ rfl; refine bd_ ?_; refine blk_far ?_ G0.out _; refine bd_ ?_; refine blk_far ?_ G0.out _; refine bd_ ?_; exact G1.out) : p := h
theorem z70_ {p : Prop} (h : p := by first | rfl | (simp [errW_none, errW_some] <;> rfl) | (simp only [← hji114]; first | rfl | (simp [errW_none, errW_some] <;> rfl)) | (simp [*, errW_none, errW_some] <;> rfl)) : p := h
theorem z71_ {p : Prop} (h : p := by have := World.block_lt_of_cell? _ _ hx420_0; first | rwa [add_block] at this | exact this) : p := h
theorem z72_ {p : Prop} (h : p := by refine bd_ ?_; refine blk_put (cs := #[.int .i64 x420000_17, .string ((rd_T43 l0 0).f1), .string ⟨#[]⟩]) ?_ 2 _ rfl; refine bd_ ?_; refine blk_put (cs := #[.int .i64 x420000_17, .string ⟨#[]⟩, .string ⟨#[]⟩]) ?_ 1 _ rfl; refine bd_ ?_; refine blk_put (cs := #[.int .i64 0, .string ⟨#[]⟩, .string ⟨#[]⟩]) ?_ 0 _ rfl; refine bd_ ?_; exact G0.out) : p := h
theorem z73_ {p : Prop} (h : p := by rw [hg]; exact Nat.ne_of_lt (blk_lt (g := gb140) (o := .cells #[.int .i64 0, .string ⟨#[]⟩, .int .i64 0, .string ⟨#[]⟩, .string ⟨#[]⟩, .int .i64 0] 43 (0, 0)) (bd_ G0.out))) : p := h
theorem z74_ {p : Prop} (h : p := by rw [hg]; exact Nat.ne_of_gt (blk_lt (g := gb140) (o := .cells #[.int .i64 0, .string ⟨#[]⟩, .int .i64 0, .string ⟨#[]⟩, .string ⟨#[]⟩, .int .i64 0] 43 (0, 0)) (bd_ G0.out))) : p := h
theorem z75_ {p : Prop} (h : p := by rw [hg]; exact Nat.ne_of_lt (IsS73.lt (show IsS73 w0 _ g t145 t146 from by repeat (first | (with_reducible first | exact G0.out | apply IsS73.alloc | apply IsS73.drewN | apply IsS73.drew | apply IsS73.set_0 | apply IsS73.set_1 | refine IsS73.far ?_ G1.out _) | exact G0.out)))) : p := h
theorem z76_ {p : Prop} (h : p := by rw [hg]; exact Nat.ne_of_gt (IsS73.lt (show IsS73 w0 _ g t145 t146 from by repeat (first | (with_reducible first | exact G0.out | apply IsS73.alloc | apply IsS73.drewN | apply IsS73.drew | apply IsS73.set_0 | apply IsS73.set_1 | refine IsS73.far ?_ G1.out _) | exact G0.out)))) : p := h
theorem z77_ {p : Prop} (h : p := by refine bd_ ?_; refine blk_put (cs := #[.int .i64 1, .string t144, .string ⟨#[]⟩]) ?_ 2 _ rfl; refine bd_ ?_; refine blk_put (cs := #[.int .i64 1, .string ⟨#[]⟩, .string ⟨#[]⟩]) ?_ 1 _ rfl; refine bd_ ?_; refine blk_put (cs := #[.int .i64 0, .string ⟨#[]⟩, .string ⟨#[]⟩]) ?_ 0 _ rfl; refine bd_ ?_; exact G0.out) : p := h
theorem z78_ {p : Prop} (h : p := by refine bd_ ?_; refine blk_put (cs := #[.int .i64 1, .string ⟨#[]⟩, .int .i64 1, .string t144, .string ⟨#[]⟩, .int .i64 0]) ?_ 5 _ rfl; refine bd_ ?_; refine blk_put (cs := #[.int .i64 1, .string ⟨#[]⟩, .int .i64 1, .string t144, .string ⟨#[]⟩, .int .i64 0]) ?_ 4 _ rfl; refine bd_ ?_; refine blk_put (cs := #[.int .i64 1, .string ⟨#[]⟩, .int .i64 1, .string ⟨#[]⟩, .string ⟨#[]⟩, .int .i64 0]) ?_ 3 _ rfl; refine bd_ ?_; refine blk_put (cs := #[.int .i64 1, .string ⟨#[]⟩, .int .i64 0, .string ⟨#[]⟩, .string ⟨#[]⟩, .int .i64 0]) ?_ 2 _ rfl; refine bd_ ?_; refine blk_put (cs := #[.int .i64 1, .string ⟨#[]⟩, .int .i64 0, .string ⟨#[]⟩, .string ⟨#[]⟩, .int .i64 0]) ?_ 1 _ rfl; refine bd_ ?_; refine blk_put (cs := #[.int .i64 0, .string ⟨#[]⟩, .int .i64 0, .string ⟨#[]⟩, .string ⟨#[]⟩, .int .i64 0]) ?_ 0 _ rfl; refine bd_ ?_; exact G0.out) : p := h
theorem z79_ {p : Prop} (h : p := by refine bd_ ?_; refine blk_put (cs := #[.int .i64 4, .string t166, .int .i64 0, .string ⟨#[]⟩, .string ⟨#[]⟩, .int .i64 0]) ?_ 5 _ rfl; refine bd_ ?_; refine blk_put (cs := #[.int .i64 4, .string t166, .int .i64 0, .string ⟨#[]⟩, .string ⟨#[]⟩, .int .i64 0]) ?_ 4 _ rfl; refine bd_ ?_; refine blk_put (cs := #[.int .i64 4, .string t166, .int .i64 0, .string ⟨#[]⟩, .string ⟨#[]⟩, .int .i64 0]) ?_ 3 _ rfl; refine bd_ ?_; refine blk_put (cs := #[.int .i64 4, .string t166, .int .i64 0, .string ⟨#[]⟩, .string ⟨#[]⟩, .int .i64 0]) ?_ 2 _ rfl; refine bd_ ?_; refine blk_put (cs := #[.int .i64 4, .string ⟨#[]⟩, .int .i64 0, .string ⟨#[]⟩, .string ⟨#[]⟩, .int .i64 0]) ?_ 1 _ rfl; refine bd_ ?_; refine blk_put (cs := #[.int .i64 0, .string ⟨#[]⟩, .int .i64 0, .string ⟨#[]⟩, .string ⟨#[]⟩, .int .i64 0]) ?_ 0 _ rfl; refine bd_ ?_; exact G0.out) : p := h
theorem z80_ {p : Prop} (h : p := by refine bd_ ?_; refine blk_put (cs := #[.int .i64 5, .string t176, .int .i64 0, .string ⟨#[]⟩, .string ⟨#[]⟩, .int .i64 0]) ?_ 5 _ rfl; refine bd_ ?_; refine blk_put (cs := #[.int .i64 5, .string t176, .int .i64 0, .string ⟨#[]⟩, .string ⟨#[]⟩, .int .i64 0]) ?_ 4 _ rfl; refine bd_ ?_; refine blk_put (cs := #[.int .i64 5, .string t176, .int .i64 0, .string ⟨#[]⟩, .string ⟨#[]⟩, .int .i64 0]) ?_ 3 _ rfl; refine bd_ ?_; refine blk_put (cs := #[.int .i64 5, .string t176, .int .i64 0, .string ⟨#[]⟩, .string ⟨#[]⟩, .int .i64 0]) ?_ 2 _ rfl; refine bd_ ?_; refine blk_put (cs := #[.int .i64 5, .string ⟨#[]⟩, .int .i64 0, .string ⟨#[]⟩, .string ⟨#[]⟩, .int .i64 0]) ?_ 1 _ rfl; refine bd_ ?_; refine blk_put (cs := #[.int .i64 0, .string ⟨#[]⟩, .int .i64 0, .string ⟨#[]⟩, .string ⟨#[]⟩, .int .i64 0]) ?_ 0 _ rfl; refine bd_ ?_; exact G0.out) : p := h
theorem z81_ {p : Prop} (h : p := by refine bd_ ?_; refine blk_put (cs := #[.int .i64 6, .string t189, .int .i64 0, .string ⟨#[]⟩, .string ⟨#[]⟩, .int .i64 0]) ?_ 5 _ rfl; refine bd_ ?_; refine blk_put (cs := #[.int .i64 6, .string t189, .int .i64 0, .string ⟨#[]⟩, .string ⟨#[]⟩, .int .i64 0]) ?_ 4 _ rfl; refine bd_ ?_; refine blk_put (cs := #[.int .i64 6, .string t189, .int .i64 0, .string ⟨#[]⟩, .string ⟨#[]⟩, .int .i64 0]) ?_ 3 _ rfl; refine bd_ ?_; refine blk_put (cs := #[.int .i64 6, .string t189, .int .i64 0, .string ⟨#[]⟩, .string ⟨#[]⟩, .int .i64 0]) ?_ 2 _ rfl; refine bd_ ?_; refine blk_put (cs := #[.int .i64 6, .string ⟨#[]⟩, .int .i64 0, .string ⟨#[]⟩, .string ⟨#[]⟩, .int .i64 0]) ?_ 1 _ rfl; refine bd_ ?_; refine blk_put (cs := #[.int .i64 0, .string ⟨#[]⟩, .int .i64 0, .string ⟨#[]⟩, .string ⟨#[]⟩, .int .i64 0]) ?_ 0 _ rfl; refine bd_ ?_; exact G0.out) : p := h
theorem z82_ {p : Prop} (h : p := by have := HJ2.out; have := HK2.out; have := HJ13.out; first | omega | exact Nat.le_refl _) : p := h
theorem z83_ {p : Prop} (h : p := by have := HJ2.out; have := HK2.out; have := HJ13.out; have := HJ16.out; first | omega | exact Nat.le_refl _) : p := h
theorem z84_ {p : Prop} (h : p := by have := HJ2.out; have := HK2.out; have := HJ13.out; have := HJ16.out; have := HJ18.out; omega) : p := h
theorem z85_ {p : Prop} (h : p := by refine bd_ ?_; refine blk_put (cs := #[.int .i64 t329, .string t330, .int .i64 t331, .string t332, .string t333, .int .i64 0]) ?_ 5 _ rfl; refine bd_ ?_; refine blk_put (cs := #[.int .i64 t329, .string t330, .int .i64 t331, .string t332, .string ⟨#[]⟩, .int .i64 0]) ?_ 4 _ rfl; refine bd_ ?_; refine blk_put (cs := #[.int .i64 t329, .string t330, .int .i64 t331, .string ⟨#[]⟩, .string ⟨#[]⟩, .int .i64 0]) ?_ 3 _ rfl; refine bd_ ?_; refine blk_put (cs := #[.int .i64 t329, .string t330, .int .i64 0, .string ⟨#[]⟩, .string ⟨#[]⟩, .int .i64 0]) ?_ 2 _ rfl; refine bd_ ?_; refine blk_put (cs := #[.int .i64 t329, .string ⟨#[]⟩, .int .i64 0, .string ⟨#[]⟩, .string ⟨#[]⟩, .int .i64 0]) ?_ 1 _ rfl; refine bd_ ?_; refine blk_put (cs := #[.int .i64 0, .string ⟨#[]⟩, .int .i64 0, .string ⟨#[]⟩, .string ⟨#[]⟩, .int .i64 0]) ?_ 0 _ rfl; refine bd_ ?_; exact G0.out) : p := h
theorem z86_ {p : Prop} (h : p := by have := HK1.out; have := HJ1.out; have := HK3.out; first | omega | exact Nat.le_refl _) : p := h
theorem z87_ {p : Prop} (h : p := by (try simp only [List.map_toArray, List.map_cons, List.map_nil]); first | done | (simp only [hji3]; rfl) | rfl | (simp only [List.length_drop, List.length_take]; rfl)) : p := h
theorem z88_ {p : Prop} (h : p := by refine bd_ ?_; refine blk_put (cs := #[.int .i64 7, .string (a0.extract (a1 : Int).toNat (x8_3 : Int).toNat), .int .i64 a2_2, .string a2_3, .string a2_4, .int .i64 0]) ?_ 5 _ rfl; refine bd_ ?_; refine blk_put (cs := #[.int .i64 7, .string (a0.extract (a1 : Int).toNat (x8_3 : Int).toNat), .int .i64 a2_2, .string a2_3, .string ⟨#[]⟩, .int .i64 0]) ?_ 4 _ rfl; refine bd_ ?_; refine blk_put (cs := #[.int .i64 7, .string (a0.extract (a1 : Int).toNat (x8_3 : Int).toNat), .int .i64 a2_2, .string ⟨#[]⟩, .string ⟨#[]⟩, .int .i64 0]) ?_ 3 _ rfl; refine bd_ ?_; refine blk_put (cs := #[.int .i64 7, .string (a0.extract (a1 : Int).toNat (x8_3 : Int).toNat), .int .i64 0, .string ⟨#[]⟩, .string ⟨#[]⟩, .int .i64 0]) ?_ 2 _ rfl; refine bd_ ?_; refine blk_put (cs := #[.int .i64 7, .string ⟨#[]⟩, .int .i64 0, .string ⟨#[]⟩, .string ⟨#[]⟩, .int .i64 0]) ?_ 1 _ rfl; refine bd_ ?_; refine blk_put (cs := #[.int .i64 0, .string ⟨#[]⟩, .int .i64 0, .string ⟨#[]⟩, .string ⟨#[]⟩, .int .i64 0]) ?_ 0 _ rfl; refine bd_ ?_; refine blk_far ?_ G0.out _; refine bd_ ?_; refine blk_far ?_ G0.out _; refine bd_ ?_; exact G1.out) : p := h
theorem z89_ {p : Prop} (h : p := by refine bd_ ?_; refine blk_far ?_ G0.out _; refine bd_ ?_; refine blk_far ?_ G0.out _; refine bd_ ?_; refine blk_far ?_ G0.out _; refine bd_ ?_; refine blk_far ?_ G0.out _; refine bd_ ?_; exact G1.out) : p := h
theorem z90_ {p : Prop} (h : p := by (try simp only [List.map_toArray, List.map_cons, List.map_nil]); first | done | (simp only [hji52]; rfl) | rfl | (simp only [List.length_drop, List.length_take]; rfl)) : p := h
theorem z91_ {p : Prop} (h : p := by (try simp only [List.map_toArray, List.map_cons, List.map_nil]); first | done | (simp only [hji90]; rfl) | rfl | (simp only [List.length_drop, List.length_take]; rfl)) : p := h
theorem z92_ {p : Prop} (h : p := by refine bd_ ?_; refine blk_put (cs := #[.int .i64 4, .string x286001_1, .int .i64 0, .string ⟨#[]⟩, .string ⟨#[]⟩, .int .i64 a1]) ?_ 1 _ rfl; refine bd_ ?_; refine blk_put (cs := #[.int .i64 x286000_1, .string x286001_1, .int .i64 0, .string ⟨#[]⟩, .string ⟨#[]⟩, .int .i64 a1]) ?_ 0 _ rfl; refine bd_ ?_; exact G0.out) : p := h
theorem z93_ {p : Prop} (h : p := by refine bd_ ?_; refine blk_put (cs := #[.int .i64 4, .string (a0.extract ((ji90) : Int).toNat (x15_72 : Int).toNat), .int .i64 0, .string ⟨#[]⟩, .string ⟨#[]⟩, .int .i64 x285005_1]) ?_ 5 _ rfl; refine bd_ ?_; refine blk_put (cs := #[.int .i64 4, .string (a0.extract ((ji90) : Int).toNat (x15_72 : Int).toNat), .int .i64 0, .string ⟨#[]⟩, .string x285004_1, .int .i64 x285005_1]) ?_ 4 _ rfl; refine bd_ ?_; refine blk_put (cs := #[.int .i64 4, .string (a0.extract ((ji90) : Int).toNat (x15_72 : Int).toNat), .int .i64 0, .string x285003_1, .string x285004_1, .int .i64 x285005_1]) ?_ 3 _ rfl; refine bd_ ?_; refine blk_put (cs := #[.int .i64 4, .string (a0.extract ((ji90) : Int).toNat (x15_72 : Int).toNat), .int .i64 x285002_1, .string x285003_1, .string x285004_1, .int .i64 x285005_1]) ?_ 2 _ rfl; refine bd_ ?_; refine blk_put (cs := #[.int .i64 4, .string x285001_1, .int .i64 x285002_1, .string x285003_1, .string x285004_1, .int .i64 x285005_1]) ?_ 1 _ rfl; refine bd_ ?_; refine blk_put (cs := #[.int .i64 x285000_1, .string x285001_1, .int .i64 x285002_1, .string x285003_1, .string x285004_1, .int .i64 x285005_1]) ?_ 0 _ rfl; refine bd_ ?_; exact G0.out) : p := h
theorem z94_ {p : Prop} (h : p := by first | rfl | (simp [errW_none, errW_some] <;> rfl) | (simp only [← hji90]; first | rfl | (simp [errW_none, errW_some] <;> rfl)) | (simp [*, errW_none, errW_some] <;> rfl)) : p := h
theorem z95_ {p : Prop} (h : p := by first | exact Nat.ne_of_lt (Nat.lt_of_lt_of_le (by have := World.block_lt_of_cell? _ _ hw421_0; first | rwa [add_block] at this | exact this) G0.out) | (rw [add_block]; exact Nat.ne_of_lt (Nat.lt_of_lt_of_le (by have := World.block_lt_of_cell? _ _ hw421_0; first | rwa [add_block] at this | exact this) G0.out)) | (show (Addr.add _ _).block ≠ _; rw [add_block]; exact Nat.ne_of_lt (Nat.lt_of_lt_of_le (by have := World.block_lt_of_cell? _ _ hw421_0; first | rwa [add_block] at this | exact this) G0.out)) | (dsimp only; exact Nat.ne_of_lt (Nat.lt_of_lt_of_le (by have := World.block_lt_of_cell? _ _ hw421_0; first | rwa [add_block] at this | exact this) G0.out))) : p := h
theorem z96_ {p : Prop} (h : p := by first | exact Nat.ne_of_lt (Nat.lt_of_lt_of_le (by have := World.block_lt_of_cell? _ _ hw421_1; first | rwa [add_block] at this | exact this) G0.out) | (rw [add_block]; exact Nat.ne_of_lt (Nat.lt_of_lt_of_le (by have := World.block_lt_of_cell? _ _ hw421_1; first | rwa [add_block] at this | exact this) G0.out)) | (show (Addr.add _ _).block ≠ _; rw [add_block]; exact Nat.ne_of_lt (Nat.lt_of_lt_of_le (by have := World.block_lt_of_cell? _ _ hw421_1; first | rwa [add_block] at this | exact this) G0.out)) | (dsimp only; exact Nat.ne_of_lt (Nat.lt_of_lt_of_le (by have := World.block_lt_of_cell? _ _ hw421_1; first | rwa [add_block] at this | exact this) G0.out))) : p := h
theorem z97_ {p : Prop} (h : p := by first | exact Nat.ne_of_lt (Nat.lt_of_lt_of_le (by have := World.block_lt_of_cell? _ _ hw421_2; first | rwa [add_block] at this | exact this) G0.out) | (rw [add_block]; exact Nat.ne_of_lt (Nat.lt_of_lt_of_le (by have := World.block_lt_of_cell? _ _ hw421_2; first | rwa [add_block] at this | exact this) G0.out)) | (show (Addr.add _ _).block ≠ _; rw [add_block]; exact Nat.ne_of_lt (Nat.lt_of_lt_of_le (by have := World.block_lt_of_cell? _ _ hw421_2; first | rwa [add_block] at this | exact this) G0.out)) | (dsimp only; exact Nat.ne_of_lt (Nat.lt_of_lt_of_le (by have := World.block_lt_of_cell? _ _ hw421_2; first | rwa [add_block] at this | exact this) G0.out))) : p := h
theorem z98_ {p : Prop} (h : p := by first | exact Nat.ne_of_lt (Nat.lt_of_lt_of_le (by have := World.block_lt_of_cell? _ _ hw421_3; first | rwa [add_block] at this | exact this) G0.out) | (rw [add_block]; exact Nat.ne_of_lt (Nat.lt_of_lt_of_le (by have := World.block_lt_of_cell? _ _ hw421_3; first | rwa [add_block] at this | exact this) G0.out)) | (show (Addr.add _ _).block ≠ _; rw [add_block]; exact Nat.ne_of_lt (Nat.lt_of_lt_of_le (by have := World.block_lt_of_cell? _ _ hw421_3; first | rwa [add_block] at this | exact this) G0.out)) | (dsimp only; exact Nat.ne_of_lt (Nat.lt_of_lt_of_le (by have := World.block_lt_of_cell? _ _ hw421_3; first | rwa [add_block] at this | exact this) G0.out))) : p := h
theorem z99_ {p : Prop} (h : p := by first | exact Nat.ne_of_lt (Nat.lt_of_lt_of_le (by have := World.block_lt_of_cell? _ _ hw421_4; first | rwa [add_block] at this | exact this) G0.out) | (rw [add_block]; exact Nat.ne_of_lt (Nat.lt_of_lt_of_le (by have := World.block_lt_of_cell? _ _ hw421_4; first | rwa [add_block] at this | exact this) G0.out)) | (show (Addr.add _ _).block ≠ _; rw [add_block]; exact Nat.ne_of_lt (Nat.lt_of_lt_of_le (by have := World.block_lt_of_cell? _ _ hw421_4; first | rwa [add_block] at this | exact this) G0.out)) | (dsimp only; exact Nat.ne_of_lt (Nat.lt_of_lt_of_le (by have := World.block_lt_of_cell? _ _ hw421_4; first | rwa [add_block] at this | exact this) G0.out))) : p := h
theorem z100_ {p : Prop} (h : p := by first | exact Nat.ne_of_lt (Nat.lt_of_lt_of_le (by have := World.block_lt_of_cell? _ _ hw421_5; first | rwa [add_block] at this | exact this) G0.out) | (rw [add_block]; exact Nat.ne_of_lt (Nat.lt_of_lt_of_le (by have := World.block_lt_of_cell? _ _ hw421_5; first | rwa [add_block] at this | exact this) G0.out)) | (show (Addr.add _ _).block ≠ _; rw [add_block]; exact Nat.ne_of_lt (Nat.lt_of_lt_of_le (by have := World.block_lt_of_cell? _ _ hw421_5; first | rwa [add_block] at this | exact this) G0.out)) | (dsimp only; exact Nat.ne_of_lt (Nat.lt_of_lt_of_le (by have := World.block_lt_of_cell? _ _ hw421_5; first | rwa [add_block] at this | exact this) G0.out))) : p := h
theorem z101_ {p : Prop} (h : p := by refine bd_ ?_; refine blk_put (cs := #[.int .i64 5, .string ((rd_T43 l0 0).f1), .string x420002_17]) ?_ 2 _ rfl; refine bd_ ?_; refine blk_put (cs := #[.int .i64 x420000_17, .string ((rd_T43 l0 0).f1), .string x420002_17]) ?_ 0 _ rfl; refine bd_ ?_; exact G0.out) : p := h
end Go.Proofs.YtpbphelaeleikaaGreatDoor.PLt

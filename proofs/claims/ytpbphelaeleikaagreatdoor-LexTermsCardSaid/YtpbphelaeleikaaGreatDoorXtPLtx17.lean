import Derived.Test.YtpbphelaeleikaaGreatDoorXtPLtx0
import Derived.Test.YtpbphelaeleikaaGreatDoorXtPLtx4
import Derived.Test.YtpbphelaeleikaaGreatDoorXtPLtx6
import Derived.Test.YtpbphelaeleikaaGreatDoorXtPLtx15
import Derived.Test.YtpbphelaeleikaaGreatDoorXtPLtx16
namespace Go.Proofs.YtpbphelaeleikaaGreatDoor.PLt
open Go.RowKit Go.Proofs.YtpbphelaeleikaaGreatDoorW.PrintWords Go.Proofs.YtpbphelaeleikaaGreatDoorW.PrintLast Go.Proofs.YtpbphelaeleikaaGreatDoorW.PrintMore
attribute [local go_sem] max2_int min2_int max_two min_two max_three min_three max_four min_four
set_option linter.unusedVariables false
set_option linter.unusedSimpArgs false
set_option maxHeartbeats 8000000
set_option maxRecDepth 100000
def lex_Read.A (l0 : List S43) : Int × ByteArray × Int := if 1 < l0.length ∧ (rd_T43 l0 1).f0 = 4 then (4, (rd_T43 l0 1).f1, 2) else (3, (⟨#[]⟩ : ByteArray), 1)
def lex_Read.B (k : Nat) (l0 : List S43) (M : List (ByteArray × ByteArray)) (a : Int × ByteArray × Int) : Option (Int × ByteArray × Int) := if 2 < l0.length then (lex_Mark.f ((rd_T43 l0 1).f0) ((rd_T43 l0 1).f1) ((rd_T43 l0 1).f2.f0) ((rd_T43 l0 1).f2.f1) ((rd_T43 l0 1).f2.f2) ((rd_T43 l0 1).f3) (⟨#[94, 94]⟩ : ByteArray)).bind fun m => if m = true then (lex_resource.f k ((rd_T43 l0 2).f0) ((rd_T43 l0 2).f1) ((rd_T43 l0 2).f2.f0) ((rd_T43 l0 2).f2.f1) ((rd_T43 l0 2).f2.f2) ((rd_T43 l0 2).f3) M).bind fun u => some (if u.2.2.2 = true then (5, u.2.1, 3) else a) else some a else some a
def lex_Read.C (a : Int × ByteArray × Int) : Int × ByteArray := if a.2.1.toList = ([104, 116, 116, 112, 58, 47, 47, 119, 119, 119, 46, 119, 51, 46, 111, 114, 103, 47, 50, 48, 48, 49, 47, 88, 77, 76, 83, 99, 104, 101, 109, 97, 35, 115, 116, 114, 105, 110, 103] : List UInt8) ∧ a.1 = 5 then (3, (⟨#[]⟩ : ByteArray)) else (a.1, a.2.1)
def lex_Read.f (k : Nat) (l0 : List S43) (M : List (ByteArray × ByteArray)) : Option (Int × ByteArray × ByteArray × Int × Int) := if 0 < l0.length then (lex_resource.f k ((rd_T43 l0 0).f0) ((rd_T43 l0 0).f1) ((rd_T43 l0 0).f2.f0) ((rd_T43 l0 0).f2.f1) ((rd_T43 l0 0).f2.f2) ((rd_T43 l0 0).f3) M).bind fun t => if (rd_T43 l0 0).f0 = 2 then some ((rd_T43 l0 0).f2.f0, (rd_T43 l0 0).f2.f1, (rd_T43 l0 0).f2.f2, 1, 0) else if (rd_T43 l0 0).f0 = 3 then (lex_Read.B k l0 M (lex_Read.A l0)).bind fun b => (term_May.f k (lex_Read.C b).1 (rd_T43 l0 0).f1 (lex_Read.C b).2).bind fun m => some (if m = true then ((lex_Read.C b).1, (rd_T43 l0 0).f1, (lex_Read.C b).2, b.2.2, 0) else (0, (⟨#[]⟩ : ByteArray), (⟨#[]⟩ : ByteArray), 0, 4)) else some (if t.2.2.2 = true then (t.1, t.2.1, t.2.2.1, 1, 0) else (0, (⟨#[]⟩ : ByteArray), (⟨#[]⟩ : ByteArray), 0, 4)) else some (0, (⟨#[]⟩ : ByteArray), (⟨#[]⟩ : ByteArray), 0, 4)
def SC (w : World) (p : Addr) (x : S43) : Prop := w.cell? p = some (.int .i64 x.f0) ∧ w.cell? ⟨p.block, p.off + 1, none⟩ = some (.string x.f1) ∧ w.cell? ⟨p.block, p.off + 2, none⟩ = some (.int .i64 x.f2.f0) ∧ w.cell? ⟨p.block, p.off + 3, none⟩ = some (.string x.f2.f1) ∧ w.cell? ⟨p.block, p.off + 4, none⟩ = some (.string x.f2.f2) ∧ w.cell? ⟨p.block, p.off + 5, none⟩ = some (.int .i64 x.f3)
theorem rowc {w : World} {ad : Addr} {n : Nat} {xs : List S43} (h : Kd.C k43 w (some ad) n xs) (j : Nat) (hj : j < n) : SC w (ad.add (j * 6)) (rd_T43 xs j) := by
 obtain ⟨ad', e, q⟩ := at_T43 h j (by omega) (by omega)
 obtain rfl : ad = ad' := by injection e
 exact q
theorem rowc0 {w : World} {ad : Addr} {n : Nat} {xs : List S43} (h : Kd.C k43 w (some ad) n xs) (hj : 0 < n) : SC w ad (rd_T43 xs 0) := by
 have q := rowc h 0 hj
 rwa [Nat.zero_mul, Addr.add_zero'] at q
theorem rowk {w : World} {ad : Addr} {n : Nat} {xs : List S43} (h : Kd.C k43 w (some ad) n xs) (j : Nat) (hj : j < n) (h0 : 0 < j) (i : Int) (hi : i = j) (o : Nat) (ho : j * 6 = o) : w.cell? ⟨ad.block, ad.off + o, none⟩ = some (.int .i64 (rd_T43 xs i).f0) ∧ w.cell? ⟨ad.block, ad.off + (o + 1), none⟩ = some (.string (rd_T43 xs i).f1) ∧ w.cell? ⟨ad.block, ad.off + (o + 2), none⟩ = some (.int .i64 (rd_T43 xs i).f2.f0) ∧ w.cell? ⟨ad.block, ad.off + (o + 3), none⟩ = some (.string (rd_T43 xs i).f2.f1) ∧ w.cell? ⟨ad.block, ad.off + (o + 4), none⟩ = some (.string (rd_T43 xs i).f2.f2) ∧ w.cell? ⟨ad.block, ad.off + (o + 5), none⟩ = some (.int .i64 (rd_T43 xs i).f3) := by
 subst hi
 have q := rowc h j hj
 have e : ad.add (j * 6) = ⟨ad.block, ad.off + o, none⟩ := by
  have e := add_field ad 0 (j * 6) (by omega)
  rw [Nat.zero_add, Addr.add_zero', ho] at e
  rw [ho]; exact e
 rw [e] at q
 simpa only [SC, Nat.add_assoc] using q
theorem some_row {w : World} {A : Option Addr} {n : Nat} {xs : List S43} (h : Kd.C k43 w A n xs) (hj : 0 < n) : ∃ ad, A = some ad := by
 obtain ⟨ad, e, q⟩ := at_T43 h 0 (by omega) (by omega)
 exact ⟨ad, e⟩
structure VX (w W : World) (gr gt : Nat) (cs : Array Value) : Prop where
 below : Below w.heap.size w W
 r : W.heap[gr]? = some (.cells #[.int .i64 0, .string ⟨#[]⟩, .string ⟨#[]⟩] 31 (0, 0))
 t : W.heap[gt]? = some (.cells cs 31 (0, 0))
 rw' : w.heap.size ≤ gr
 tw : w.heap.size ≤ gt
 ne : gt ≠ gr
theorem VX.lower {w W W' : World} {gr gt : Nat} {cs : Array Value} (h : VX w W gr gt cs) (hb : Below W.heap.size W W') : VX w W' gr gt cs := ⟨below_then h.below h.below.size hb, blk_below h.r hb, blk_below h.t hb, h.rw', h.tw, h.ne⟩
theorem VX.drewN {w W : World} {gr gt : Nat} {cs : Array Value} (h : VX w W gr gt cs) (n : Nat) : VX w (W.drewN n) gr gt cs := h.lower (pw_below_drewN (Below.refl _ _) n)
theorem VX.drew {w W : World} {gr gt : Nat} {cs : Array Value} (h : VX w W gr gt cs) : VX w W.drew gr gt cs := h.lower (below_drew (Below.refl _ _))
theorem VX.upd {w W W' : World} {gr gt : Nat} {cs cs' : Array Value} (h : VX w W gr gt cs) (hu : Upd W W' gt) (hn : W'.heap[gt]? = some (.cells cs' 31 (0, 0))) : VX w W' gr gt cs' := ⟨h.below.trans (hu.below h.tw), (hu.other gr (Ne.symm h.ne)).trans h.r, hn, h.rw', h.tw, h.ne⟩
theorem VX.put {w W : World} {gr gt : Nat} {cs cs' : Array Value} (h : VX w W gr gt cs) (i : Nat) (u : Value) (hc : cs.setIfInBounds i u = cs') : VX w (W.setCell ⟨gt, i, none⟩ u) gr gt cs' := ⟨h.below.setCell (p := ⟨gt, i, none⟩) h.tw u, blk_far h.r (p := ⟨gt, i, none⟩) (Ne.symm h.ne) u, by rw [← hc]; exact blk_set h.t i u, h.rw', h.tw, h.ne⟩
theorem VX.fin {w W W' : World} {gr gt : Nat} {cs rs : Array Value} (h : VX w W gr gt cs) (hu : Upd W W' gr) (hn : W'.heap[gr]? = some (.cells rs 31 (0, 0))) : Below w.heap.size w W' ∧ W'.heap[gr]? = some (.cells rs 31 (0, 0)) := ⟨h.below.trans (hu.below h.rw'), hn⟩
set_option maxHeartbeats 4000000 in
set_option maxRecDepth 100000 in
theorem lex_Read.calls (k : Nat) (A0 : Option Addr) (c0 : Nat) (l0 : List (S43)) (mv : Value) (M : List (ByteArray × ByteArray)) (r1 : Int) (r2 : ByteArray) (r3 : ByteArray) (r4 : Int) (r5 : Int) (w : World) (hr0 : Kd.C k43 w A0 l0.length l0) (hc0 : l0.length ≤ c0) (hm : MapSS w mv M) (h : lex_Read.f k l0 M = some (r1, r2, r3, r4, r5)) :
  Calls Tryz.prog 6 #[.slice A0 l0.length c0, mv] w fun e w' => e = .returned (.tuple #[.agg #[.int .i64 r1, .string r2, .string r3], .int .i64 r4, .int .i64 r5]) ∧ Below w.heap.size w w' := by
 have HR0 := Ad.mk hr0
 have HM := Ad.mk hm
 clear hm
 unfold lex_Read.f at h
 by_cases c0_ : 0 < l0.length
 case neg =>
  rw [if_neg c0_] at h
  simp only [Option.some.injEq, Prod.mk.injEq] at h
  obtain ⟨rfl, rfl, rfl, rfl, rfl⟩ := h
  have hn0 : (l0.length == 0) = true := beq_iff_eq.mpr (by omega)
  have hn1 : decide ((l0.length : Int) = 0) = true := decide_eq_true (by omega)
  clear hr0 hc0 c0_
  go_enter Tryz.func6, Tryz.ntmps6
  go_wp2_with (first | ((with_reducible refine gate_dst (N := 4) rfl ?_); refine box_event r1_ (N := 4) r1_ (cs := #[.int .i64 0, .string ⟨#[]⟩, .string ⟨#[]⟩]) (t := 31) r2_ ?_; intro gr hgr w1 hy hb; have HR := Ad.mk (show Below w.heap.size w w1 ∧ w1.heap[gr]? = some (.cells #[.int .i64 0, .string ⟨#[]⟩, .string ⟨#[]⟩] 31 (0, 0)) ∧ gr = w.heap.size from ⟨hb, hy, hgr⟩); clear hgr hy hb) | ((with_reducible refine gate_store (t := 31) (p := 4) rfl ?_); refine store_seg (gy := gr) (j := 0) (T := 31) (TB := 31) (cs := #[.int .i64 0, .string ⟨#[]⟩, .string ⟨#[]⟩]) (new := #[.int .i64 0, .string ⟨#[]⟩, .string ⟨#[]⟩]) (u := .agg #[.int .i64 0, .string ⟨#[]⟩, .string ⟨#[]⟩]) (seg := [.int .i64 0, .string ⟨#[]⟩, .string ⟨#[]⟩]) rfl (p := .tmp 4) (x := .tmp 15) rfl rfl r1_ r1_ r1_ HR.out.2.1 k1_ s1_ h1_ rfl ?_; intro w2 hz hup; have HF := Ad.mk (show Below w.heap.size w w2 ∧ w2.heap[gr]? = some (.cells #[.int .i64 0, .string ⟨#[]⟩, .string ⟨#[]⟩] 31 (0, 0)) from ⟨HR.out.1.trans (hup.below (Nat.le_of_eq HR.out.2.2.symm)), hz⟩); clear hz hup))
  refine bodyPost_ret (results_ctt rfl _ _ gr 31 #[.int .i64 0, .string ⟨#[]⟩, .string ⟨#[]⟩] (0, 0) _ rfl HF.out.2 Tryz.underlying31 rfl k1_) rfl ?_
  exact ⟨rfl, HF.out.1⟩
 rw [if_pos c0_] at h
 obtain ⟨ad, rfl⟩ := some_row hr0 c0_
 obtain ⟨⟨t1, t2, t3, t4⟩, A0, H⟩ := Option.bind_eq_some_iff.mp h
 simp only at H
 have AR := Ad.mk A0
 have HN0 := Ad.mk c0_
 have hn0 : (l0.length == 0) = false := beq_eq_false_iff_ne.mpr (by omega)
 have hn1 : decide ((l0.length : Int) = 0) = false := decide_eq_false (by omega)
 have hn2 : (0 < l0.length) = True := eq_true c0_
 have HC := Ad.mk hc0
 have HH := Ad.mk H
 clear hr0 hc0 c0_ h A0 H
 by_cases k2 : (rd_T43 l0 0).f0 = 2
 case pos =>
  have H := HH.out
  rw [if_pos k2] at H
  simp only [Option.some.injEq, Prod.mk.injEq] at H
  obtain ⟨rfl, rfl, rfl, rfl, rfl⟩ := H
  have k2b : ((rd_T43 l0 0).f0 == 2) = true := by simpa using k2
  clear k2 HH
  go_enter Tryz.func6, Tryz.ntmps6
  go_wp2_with (first | ((with_reducible refine gate_dst (N := 4) rfl ?_); refine box_event r1_ (N := 4) r1_ (cs := #[.int .i64 0, .string ⟨#[]⟩, .string ⟨#[]⟩]) (t := 31) r2_ ?_; intro gr hgr w1 hy hb; have HR := Ad.mk (show Below w.heap.size w w1 ∧ w1.heap[gr]? = some (.cells #[.int .i64 0, .string ⟨#[]⟩, .string ⟨#[]⟩] 31 (0, 0)) ∧ gr = w.heap.size from ⟨hb, hy, hgr⟩); clear hgr hy hb; obtain ⟨x0, x1, x2, x3, x4, x5⟩ := rowc0 (Kd.C_below HR0.out HR.out.1) HN0.out) | (go_at_call 18; refine (lex_resource.calls k ((rd_T43 l0 0).f0) ((rd_T43 l0 0).f1) ((rd_T43 l0 0).f2.f0) ((rd_T43 l0 0).f2.f1) ((rd_T43 l0 0).f2.f2) ((rd_T43 l0 0).f3) mv M t1 t2 t3 t4 _ (HM.out.below HR.out.1) AR.out).mono ?_; rintro e w2 ⟨rfl, hb⟩; have HR2 := Ad.mk (show Below w.heap.size w w2 ∧ w2.heap[gr]? = some (.cells #[.int .i64 0, .string ⟨#[]⟩, .string ⟨#[]⟩] 31 (0, 0)) ∧ gr < w2.heap.size ∧ w.heap.size ≤ gr from ⟨below_step HR.out.1 hb, blk_below HR.out.2.1 hb, blk_lt (blk_below HR.out.2.1 hb), Nat.le_of_eq HR.out.2.2.symm⟩); clear hb HR x0 x1 x2 x3 x4 x5) | ((with_reducible refine gate_dst (N := 7) rfl ?_); refine box_event r1_ (N := 7) r1_ (cs := #[.int .i64 0, .string ⟨#[]⟩, .string ⟨#[]⟩]) (t := 31) r2_ ?_; intro gt hgt w3 hy hb; have HX := Ad.mk (VX.mk (below_step HR2.out.1 hb) (blk_below HR2.out.2.1 hb) hy HR2.out.2.2.2 (by rw [hgt]; exact HR2.out.1.size) (by rw [hgt]; exact Ne.symm (Nat.ne_of_lt HR2.out.2.2.1))); clear hgt hy hb HR2) | ((with_reducible refine gate_store (t := 31) (p := 7) rfl ?_); refine store_seg (gy := gt) (j := 0) (T := 31) (TB := 31) (cs := #[.int .i64 0, .string ⟨#[]⟩, .string ⟨#[]⟩]) (new := #[.int .i64 t1, .string t2, .string t3]) (u := .agg #[.int .i64 t1, .string t2, .string t3]) (seg := [.int .i64 t1, .string t2, .string t3]) rfl (p := .tmp 7) (x := .tmp 22) rfl rfl r1_ r1_ r1_ HX.out.t k1_ s1_ h1_ rfl ?_; intro w4 hz hup; have HY := Ad.mk (HX.out.upd hup hz); clear hz hup HX; obtain ⟨y0, y1, y2, y3, y4, y5⟩ := rowc0 (Kd.C_below HR0.out HY.out.below) HN0.out; have tc0 := (blk_cell HY.out.t 0).trans (show _ = some (.int .i64 t1) from rfl); have tc1 := (blk_cell HY.out.t 1).trans (show _ = some (.string t2) from rfl); have tc2 := (blk_cell HY.out.t 2).trans (show _ = some (.string t3) from rfl)) | ((with_reducible refine gate_store (t := 31) (p := 7) rfl ?_); refine store_seg (gy := gt) (j := 0) (T := 31) (TB := 31) (cs := #[.int .i64 t1, .string t2, .string t3]) (new := #[.int .i64 ((rd_T43 l0 0).f2.f0), .string ((rd_T43 l0 0).f2.f1), .string ((rd_T43 l0 0).f2.f2)]) (u := .agg #[.int .i64 ((rd_T43 l0 0).f2.f0), .string ((rd_T43 l0 0).f2.f1), .string ((rd_T43 l0 0).f2.f2)]) (seg := [.int .i64 ((rd_T43 l0 0).f2.f0), .string ((rd_T43 l0 0).f2.f1), .string ((rd_T43 l0 0).f2.f2)]) rfl (p := .tmp 7) (x := .tmp 33) rfl rfl r1_ r1_ r1_ HY.out.t k1_ s1_ h1_ rfl ?_; intro w5 hz hup; have HZ := Ad.mk (HY.out.upd hup hz); clear hz hup HY tc0 tc1 tc2; have tc0 := (blk_cell HZ.out.t 0).trans (show _ = some (.int .i64 ((rd_T43 l0 0).f2.f0)) from rfl); have tc1 := (blk_cell HZ.out.t 1).trans (show _ = some (.string ((rd_T43 l0 0).f2.f1)) from rfl); have tc2 := (blk_cell HZ.out.t 2).trans (show _ = some (.string ((rd_T43 l0 0).f2.f2)) from rfl)) | ((with_reducible refine gate_store (t := 31) (p := 4) rfl ?_); refine store_seg (gy := gr) (j := 0) (T := 31) (TB := 31) (cs := #[.int .i64 0, .string ⟨#[]⟩, .string ⟨#[]⟩]) (new := #[.int .i64 ((rd_T43 l0 0).f2.f0), .string ((rd_T43 l0 0).f2.f1), .string ((rd_T43 l0 0).f2.f2)]) (u := .agg #[.int .i64 ((rd_T43 l0 0).f2.f0), .string ((rd_T43 l0 0).f2.f1), .string ((rd_T43 l0 0).f2.f2)]) (seg := [.int .i64 ((rd_T43 l0 0).f2.f0), .string ((rd_T43 l0 0).f2.f1), .string ((rd_T43 l0 0).f2.f2)]) rfl (p := .tmp 4) (x := .tmp 94) rfl rfl r1_ r1_ r1_ HZ.out.r k1_ s1_ h1_ rfl ?_; intro wz hz hup; have HF := Ad.mk (HZ.out.fin hup hz); clear hz hup))
  refine bodyPost_ret (results_ctt rfl _ _ gr 31 #[.int .i64 ((rd_T43 l0 0).f2.f0), .string ((rd_T43 l0 0).f2.f1), .string ((rd_T43 l0 0).f2.f2)] (0, 0) _ rfl HF.out.2 Tryz.underlying31 rfl k1_) rfl ?_
  exact ⟨rfl, HF.out.1⟩
 have k2b : ((rd_T43 l0 0).f0 == 2) = false := by simpa using k2
 by_cases k3 : (rd_T43 l0 0).f0 = 3
 case neg =>
  have H := HH.out
  rw [if_neg k2, if_neg k3] at H
  have k3b : ((rd_T43 l0 0).f0 == 3) = false := by simpa using k3
  clear k2 k3 HH
  cases t4 with
  | true =>
   rw [if_pos rfl] at H
   simp only [Option.some.injEq, Prod.mk.injEq] at H
   obtain ⟨rfl, rfl, rfl, rfl, rfl⟩ := H
   go_enter Tryz.func6, Tryz.ntmps6
   go_wp2_with (first | ((with_reducible refine gate_dst (N := 4) rfl ?_); refine box_event r1_ (N := 4) r1_ (cs := #[.int .i64 0, .string ⟨#[]⟩, .string ⟨#[]⟩]) (t := 31) r2_ ?_; intro gr hgr w1 hy hb; have HR := Ad.mk (show Below w.heap.size w w1 ∧ w1.heap[gr]? = some (.cells #[.int .i64 0, .string ⟨#[]⟩, .string ⟨#[]⟩] 31 (0, 0)) ∧ gr = w.heap.size from ⟨hb, hy, hgr⟩); clear hgr hy hb; obtain ⟨x0, x1, x2, x3, x4, x5⟩ := rowc0 (Kd.C_below HR0.out HR.out.1) HN0.out) | (go_at_call 18; refine (lex_resource.calls k ((rd_T43 l0 0).f0) ((rd_T43 l0 0).f1) ((rd_T43 l0 0).f2.f0) ((rd_T43 l0 0).f2.f1) ((rd_T43 l0 0).f2.f2) ((rd_T43 l0 0).f3) mv M t1 t2 t3 true _ (HM.out.below HR.out.1) AR.out).mono ?_; rintro e w2 ⟨rfl, hb⟩; have HR2 := Ad.mk (show Below w.heap.size w w2 ∧ w2.heap[gr]? = some (.cells #[.int .i64 0, .string ⟨#[]⟩, .string ⟨#[]⟩] 31 (0, 0)) ∧ gr < w2.heap.size ∧ w.heap.size ≤ gr from ⟨below_step HR.out.1 hb, blk_below HR.out.2.1 hb, blk_lt (blk_below HR.out.2.1 hb), Nat.le_of_eq HR.out.2.2.symm⟩); clear hb HR x0 x1 x2 x3 x4 x5) | ((with_reducible refine gate_dst (N := 7) rfl ?_); refine box_event r1_ (N := 7) r1_ (cs := #[.int .i64 0, .string ⟨#[]⟩, .string ⟨#[]⟩]) (t := 31) r2_ ?_; intro gt hgt w3 hy hb; have HX := Ad.mk (VX.mk (below_step HR2.out.1 hb) (blk_below HR2.out.2.1 hb) hy HR2.out.2.2.2 (by rw [hgt]; exact HR2.out.1.size) (by rw [hgt]; exact Ne.symm (Nat.ne_of_lt HR2.out.2.2.1))); clear hgt hy hb HR2) | ((with_reducible refine gate_store (t := 31) (p := 7) rfl ?_); refine store_seg (gy := gt) (j := 0) (T := 31) (TB := 31) (cs := #[.int .i64 0, .string ⟨#[]⟩, .string ⟨#[]⟩]) (new := #[.int .i64 t1, .string t2, .string t3]) (u := .agg #[.int .i64 t1, .string t2, .string t3]) (seg := [.int .i64 t1, .string t2, .string t3]) rfl (p := .tmp 7) (x := .tmp 22) rfl rfl r1_ r1_ r1_ HX.out.t k1_ s1_ h1_ rfl ?_; intro w4 hz hup; have HY := Ad.mk (HX.out.upd hup hz); clear hz hup HX; obtain ⟨y0, y1, y2, y3, y4, y5⟩ := rowc0 (Kd.C_below HR0.out HY.out.below) HN0.out; have tc0 := (blk_cell HY.out.t 0).trans (show _ = some (.int .i64 t1) from rfl); have tc1 := (blk_cell HY.out.t 1).trans (show _ = some (.string t2) from rfl); have tc2 := (blk_cell HY.out.t 2).trans (show _ = some (.string t3) from rfl)) | ((with_reducible refine gate_store (t := 31) (p := 4) rfl ?_); refine store_seg (gy := gr) (j := 0) (T := 31) (TB := 31) (cs := #[.int .i64 0, .string ⟨#[]⟩, .string ⟨#[]⟩]) (new := #[.int .i64 t1, .string t2, .string t3]) (u := .agg #[.int .i64 t1, .string t2, .string t3]) (seg := [.int .i64 t1, .string t2, .string t3]) rfl (p := .tmp 4) (x := .tmp 94) rfl rfl r1_ r1_ r1_ HY.out.r k1_ s1_ h1_ rfl ?_; intro wz hz hup; have HF := Ad.mk (HY.out.fin hup hz); clear hz hup))
   refine bodyPost_ret (results_ctt rfl _ _ gr 31 #[.int .i64 t1, .string t2, .string t3] (0, 0) _ rfl HF.out.2 Tryz.underlying31 rfl k1_) rfl ?_
   exact ⟨rfl, HF.out.1⟩
  | false =>
   rw [if_neg (by decide)] at H
   simp only [Option.some.injEq, Prod.mk.injEq] at H
   obtain ⟨rfl, rfl, rfl, rfl, rfl⟩ := H
   go_enter Tryz.func6, Tryz.ntmps6
   go_wp2_with (first | ((with_reducible refine gate_dst (N := 4) rfl ?_); refine box_event r1_ (N := 4) r1_ (cs := #[.int .i64 0, .string ⟨#[]⟩, .string ⟨#[]⟩]) (t := 31) r2_ ?_; intro gr hgr w1 hy hb; have HR := Ad.mk (show Below w.heap.size w w1 ∧ w1.heap[gr]? = some (.cells #[.int .i64 0, .string ⟨#[]⟩, .string ⟨#[]⟩] 31 (0, 0)) ∧ gr = w.heap.size from ⟨hb, hy, hgr⟩); clear hgr hy hb; obtain ⟨x0, x1, x2, x3, x4, x5⟩ := rowc0 (Kd.C_below HR0.out HR.out.1) HN0.out) | (go_at_call 18; refine (lex_resource.calls k ((rd_T43 l0 0).f0) ((rd_T43 l0 0).f1) ((rd_T43 l0 0).f2.f0) ((rd_T43 l0 0).f2.f1) ((rd_T43 l0 0).f2.f2) ((rd_T43 l0 0).f3) mv M t1 t2 t3 false _ (HM.out.below HR.out.1) AR.out).mono ?_; rintro e w2 ⟨rfl, hb⟩; have HR2 := Ad.mk (show Below w.heap.size w w2 ∧ w2.heap[gr]? = some (.cells #[.int .i64 0, .string ⟨#[]⟩, .string ⟨#[]⟩] 31 (0, 0)) ∧ gr < w2.heap.size ∧ w.heap.size ≤ gr from ⟨below_step HR.out.1 hb, blk_below HR.out.2.1 hb, blk_lt (blk_below HR.out.2.1 hb), Nat.le_of_eq HR.out.2.2.symm⟩); clear hb HR x0 x1 x2 x3 x4 x5) | ((with_reducible refine gate_dst (N := 7) rfl ?_); refine box_event r1_ (N := 7) r1_ (cs := #[.int .i64 0, .string ⟨#[]⟩, .string ⟨#[]⟩]) (t := 31) r2_ ?_; intro gt hgt w3 hy hb; have HX := Ad.mk (VX.mk (below_step HR2.out.1 hb) (blk_below HR2.out.2.1 hb) hy HR2.out.2.2.2 (by rw [hgt]; exact HR2.out.1.size) (by rw [hgt]; exact Ne.symm (Nat.ne_of_lt HR2.out.2.2.1))); clear hgt hy hb HR2) | ((with_reducible refine gate_store (t := 31) (p := 7) rfl ?_); refine store_seg (gy := gt) (j := 0) (T := 31) (TB := 31) (cs := #[.int .i64 0, .string ⟨#[]⟩, .string ⟨#[]⟩]) (new := #[.int .i64 t1, .string t2, .string t3]) (u := .agg #[.int .i64 t1, .string t2, .string t3]) (seg := [.int .i64 t1, .string t2, .string t3]) rfl (p := .tmp 7) (x := .tmp 22) rfl rfl r1_ r1_ r1_ HX.out.t k1_ s1_ h1_ rfl ?_; intro w4 hz hup; have HY := Ad.mk (HX.out.upd hup hz); clear hz hup HX; obtain ⟨y0, y1, y2, y3, y4, y5⟩ := rowc0 (Kd.C_below HR0.out HY.out.below) HN0.out; have tc0 := (blk_cell HY.out.t 0).trans (show _ = some (.int .i64 t1) from rfl); have tc1 := (blk_cell HY.out.t 1).trans (show _ = some (.string t2) from rfl); have tc2 := (blk_cell HY.out.t 2).trans (show _ = some (.string t3) from rfl)) | ((with_reducible refine gate_store (t := 31) (p := 4) rfl ?_); refine store_seg (gy := gr) (j := 0) (T := 31) (TB := 31) (cs := #[.int .i64 0, .string ⟨#[]⟩, .string ⟨#[]⟩]) (new := #[.int .i64 0, .string ⟨#[]⟩, .string ⟨#[]⟩]) (u := .agg #[.int .i64 0, .string ⟨#[]⟩, .string ⟨#[]⟩]) (seg := [.int .i64 0, .string ⟨#[]⟩, .string ⟨#[]⟩]) rfl (p := .tmp 4) (x := .tmp 93) rfl rfl r1_ r1_ r1_ HY.out.r k1_ s1_ h1_ rfl ?_; intro wz hz hup; have HF := Ad.mk (HY.out.fin hup hz); clear hz hup))
   refine bodyPost_ret (results_ctt rfl _ _ gr 31 #[.int .i64 0, .string ⟨#[]⟩, .string ⟨#[]⟩] (0, 0) _ rfl HF.out.2 Tryz.underlying31 rfl k1_) rfl ?_
   exact ⟨rfl, HF.out.1⟩
 have k3b : ((rd_T43 l0 0).f0 == 3) = true := by simpa using k3
 have H := HH.out
 clear HH
 rw [if_neg k2, if_pos k3] at H
 clear k2 k3
 obtain ⟨⟨K2, X2, n2⟩, A0, H⟩ := Option.bind_eq_some_iff.mp H
 have HBB := Ad.mk A0
 simp only at H
 obtain ⟨m, A0, H⟩ := Option.bind_eq_some_iff.mp H
 have HMM := Ad.mk A0
 have HFIN := Ad.mk H
 clear A0 H
 go_enter Tryz.func6, Tryz.ntmps6
 go_upto_region 10 with (first | ((with_reducible refine gate_dst (N := 4) rfl ?_); refine box_event r1_ (N := 4) r1_ (cs := #[.int .i64 0, .string ⟨#[]⟩, .string ⟨#[]⟩]) (t := 31) r2_ ?_; intro gr hgr w1 hy hb; have HR := Ad.mk (show Below w.heap.size w w1 ∧ w1.heap[gr]? = some (.cells #[.int .i64 0, .string ⟨#[]⟩, .string ⟨#[]⟩] 31 (0, 0)) ∧ gr = w.heap.size from ⟨hb, hy, hgr⟩); clear hgr hy hb; obtain ⟨x0, x1, x2, x3, x4, x5⟩ := rowc0 (Kd.C_below HR0.out HR.out.1) HN0.out) | (go_at_call 18; refine (lex_resource.calls k ((rd_T43 l0 0).f0) ((rd_T43 l0 0).f1) ((rd_T43 l0 0).f2.f0) ((rd_T43 l0 0).f2.f1) ((rd_T43 l0 0).f2.f2) ((rd_T43 l0 0).f3) mv M t1 t2 t3 t4 _ (HM.out.below HR.out.1) AR.out).mono ?_; rintro e w2 ⟨rfl, hb⟩; have HR2 := Ad.mk (show Below w.heap.size w w2 ∧ w2.heap[gr]? = some (.cells #[.int .i64 0, .string ⟨#[]⟩, .string ⟨#[]⟩] 31 (0, 0)) ∧ gr < w2.heap.size ∧ w.heap.size ≤ gr from ⟨below_step HR.out.1 hb, blk_below HR.out.2.1 hb, blk_lt (blk_below HR.out.2.1 hb), Nat.le_of_eq HR.out.2.2.symm⟩); clear hb HR x0 x1 x2 x3 x4 x5) | ((with_reducible refine gate_dst (N := 7) rfl ?_); refine box_event r1_ (N := 7) r1_ (cs := #[.int .i64 0, .string ⟨#[]⟩, .string ⟨#[]⟩]) (t := 31) r2_ ?_; intro gt hgt w3 hy hb; have HX := Ad.mk (VX.mk (below_step HR2.out.1 hb) (blk_below HR2.out.2.1 hb) hy HR2.out.2.2.2 (by rw [hgt]; exact HR2.out.1.size) (by rw [hgt]; exact Ne.symm (Nat.ne_of_lt HR2.out.2.2.1))); clear hgt hy hb HR2) | ((with_reducible refine gate_store (t := 31) (p := 7) rfl ?_); refine store_seg (gy := gt) (j := 0) (T := 31) (TB := 31) (cs := #[.int .i64 0, .string ⟨#[]⟩, .string ⟨#[]⟩]) (new := #[.int .i64 t1, .string t2, .string t3]) (u := .agg #[.int .i64 t1, .string t2, .string t3]) (seg := [.int .i64 t1, .string t2, .string t3]) rfl (p := .tmp 7) (x := .tmp 22) rfl rfl r1_ r1_ r1_ HX.out.t k1_ s1_ h1_ rfl ?_; intro w4 hz hup; have HY := Ad.mk (HX.out.upd hup hz); clear hz hup HX; obtain ⟨y0, y1, y2, y3, y4, y5⟩ := rowc0 (Kd.C_below HR0.out HY.out.below) HN0.out; have tc0 := (blk_cell HY.out.t 0).trans (show _ = some (.int .i64 t1) from rfl); have tc1 := (blk_cell HY.out.t 1).trans (show _ = some (.string t2) from rfl); have tc2 := (blk_cell HY.out.t 2).trans (show _ = some (.string t3) from rfl)) | ((with_reducible refine gate_store (t := 31) (p := 7) rfl ?_); refine store_seg (gy := gt) (j := 0) (T := 31) (TB := 31) (cs := #[.int .i64 t1, .string t2, .string t3]) (new := #[.int .i64 3, .string ((rd_T43 l0 0).f1), .string ⟨#[]⟩]) (u := .agg #[.int .i64 3, .string ((rd_T43 l0 0).f1), .string ⟨#[]⟩]) (seg := [.int .i64 3, .string ((rd_T43 l0 0).f1), .string ⟨#[]⟩]) rfl (p := .tmp 7) (x := .tmp 40) rfl rfl r1_ r1_ r1_ HY.out.t k1_ s1_ h1_ rfl ?_; intro w5 hz hup; have HZ := Ad.mk (HY.out.upd hup hz); clear hz hup HY tc0 tc1 tc2 y0 y1 y2 y3 y4 y5))
 go_cut [50] (fun v50 wc => ∃ z : Bool, v50 = .bool z ∧ Ad (z = (decide (1 < l0.length) && ((rd_T43 l0 1).f0 == 4))) ∧ Ad (VX w wc gr gt #[.int .i64 3, .string ((rd_T43 l0 0).f1), .string ⟨#[]⟩]))
 case first =>
  by_cases n1_ : 1 < l0.length
  ·have HN1 := Ad.mk n1_
   have n1b : decide (1 < l0.length) = true := decide_eq_true n1_
   have n1c : decide ((l0.length : Int) > 1) = true := decide_eq_true (by omega)
   have n1d : (1 < l0.length) = True := eq_true n1_
   have n1e : ((1 : Int) < (l0.length : Int)) = True := eq_true (by omega)
   clear n1_
   obtain ⟨z0, z1, z2, z3, z4, z5⟩ := rowk (Kd.C_below HR0.out HZ.out.below) 1 HN1.out (by decide) 1 rfl 6 rfl
   simp only [Nat.reduceAdd] at z0 z1 z2 z3 z4 z5
   go_wp2
   go_meet
   case rel => exact ⟨_, rfl, ⟨by rw [n1b]; rfl⟩, HZ⟩
  
  have n1b : decide (1 < l0.length) = false := decide_eq_false n1_
  have n1c : decide ((l0.length : Int) > 1) = false := decide_eq_false (by omega)
  clear n1_
  go_wp2
  go_meet
  case rel => exact ⟨_, rfl, ⟨by rw [n1b]; rfl⟩, HZ⟩
 case rest =>
  clear HZ
  obtain ⟨z, rfl, Hz, HZ⟩ := hcut
  go_upto_if 50 with (fail)
  go_cut [9] (fun v9 wc => ∃ (K : Int) (X : ByteArray) (n : Int), v9 = .int .i64 n ∧ Ad (lex_Read.A l0 = (K, X, n)) ∧ Ad (VX w wc gr gt #[.int .i64 K, .string ((rd_T43 l0 0).f1), .string X]))
  case first =>
   cases z with
   | true =>
    have hz2 := Hz.out.symm
    rw [Bool.and_eq_true] at hz2
    have n1_ : 1 < l0.length := of_decide_eq_true hz2.1
    have f4_ : (rd_T43 l0 1).f0 = 4 := by simpa using hz2.2
    have HA := Ad.mk (show lex_Read.A l0 = (4, (rd_T43 l0 1).f1, 2) from if_pos ⟨n1_, f4_⟩)
    have HN1 := Ad.mk n1_
    have n1b : decide (1 < l0.length) = true := decide_eq_true n1_
    have n1c : decide ((l0.length : Int) > 1) = true := decide_eq_true (by omega)
    have n1d : (1 < l0.length) = True := eq_true n1_
    have n1e : ((1 : Int) < (l0.length : Int)) = True := eq_true (by omega)
    clear n1_ f4_ hz2 Hz
    obtain ⟨z0, z1, z2, z3, z4, z5⟩ := rowk (Kd.C_below HR0.out HZ.out.below) 1 HN1.out (by decide) 1 rfl 6 rfl
    simp only [Nat.reduceAdd] at z0 z1 z2 z3 z4 z5
    have tc0 := (blk_cell HZ.out.t 0).trans (show _ = some (.int .i64 3) from rfl)
    have tc1 := (blk_cell HZ.out.t 1).trans (show _ = some (.string ((rd_T43 l0 0).f1)) from rfl)
    have tc2 := (blk_cell HZ.out.t 2).trans (show _ = some (.string ⟨#[]⟩) from rfl)
    have tf := fun i => blk_frozen HZ.out.t i
    go_wp2
    go_region
    all_goals (go_wp2; go_meet; (case rel => exact ⟨4, _, 2, rfl, HA, ⟨((HZ.out.drew.put 0 _ rfl).put 2 _ rfl)⟩⟩))
   | false =>
    have HA := Ad.mk (show lex_Read.A l0 = (3, (⟨#[]⟩ : ByteArray), 1) from if_neg (fun hc => by have e := Hz.out; simp [hc.1, hc.2] at e))
    clear Hz
    go_wp2
    go_meet
    case rel => exact ⟨3, _, 1, rfl, HA, HZ⟩
  case rest =>
   clear HZ Hz
   obtain ⟨K, X, n, rfl, HA, HZ⟩ := hcut
   have hb := HBB.out
   rw [HA.out] at hb
   unfold lex_Read.B at hb
   have HB2 := Ad.mk hb
   clear hb HA HBB
   go_upto_region 12 with (fail)
   go_cut [65] (fun v65 wc => ∃ z : Bool, v65 = .bool z ∧ Ad (if z = true then 2 < l0.length ∧ ∃ u, lex_resource.f k ((rd_T43 l0 2).f0) ((rd_T43 l0 2).f1) ((rd_T43 l0 2).f2.f0) ((rd_T43 l0 2).f2.f1) ((rd_T43 l0 2).f2.f2) ((rd_T43 l0 2).f3) M = some u ∧ (if u.2.2.2 = true then (5, u.2.1, 3) else (K, X, n)) = (K2, X2, n2) else (K, X, n) = (K2, X2, n2)) ∧ Ad (VX w wc gr gt #[.int .i64 K, .string ((rd_T43 l0 0).f1), .string X]))
   case first =>
    have hb := HB2.out
    clear HB2
    by_cases n2_ : 2 < l0.length
    ·rw [if_pos n2_] at hb
     obtain ⟨z, A0, hb⟩ := Option.bind_eq_some_iff.mp hb
     have HK := Ad.mk A0
     clear A0
     have HN1 := Ad.mk (show 1 < l0.length by omega)
     have HN2 := Ad.mk n2_
     have HU := Ad.mk (show (if z = true then 2 < l0.length ∧ ∃ u, lex_resource.f k ((rd_T43 l0 2).f0) ((rd_T43 l0 2).f1) ((rd_T43 l0 2).f2.f0) ((rd_T43 l0 2).f2.f1) ((rd_T43 l0 2).f2.f2) ((rd_T43 l0 2).f3) M = some u ∧ (if u.2.2.2 = true then (5, u.2.1, 3) else (K, X, n)) = (K2, X2, n2) else (K, X, n) = (K2, X2, n2)) from by
      cases z with
      | true => rw [if_pos rfl] at hb; obtain ⟨u, a, b⟩ := Option.bind_eq_some_iff.mp hb; rw [if_pos rfl]; exact ⟨n2_, u, a, Option.some.inj b⟩
      | false => rw [if_neg (by decide)] at hb; rw [if_neg (by decide)]; exact Option.some.inj hb)
     clear hb
     have n2b : decide (2 < l0.length) = true := decide_eq_true n2_
     have n2c : decide ((l0.length : Int) > 2) = true := decide_eq_true (by omega)
     have n2d : (2 < l0.length) = True := eq_true n2_
     have n2e : ((2 : Int) < (l0.length : Int)) = True := eq_true (by omega)
     have n1d : (1 < l0.length) = True := eq_true HN1.out
     have n1e : ((1 : Int) < (l0.length : Int)) = True := eq_true (by have := HN1.out; omega)
     clear n2_
     obtain ⟨z0, z1, z2, z3, z4, z5⟩ := rowk (Kd.C_below HR0.out HZ.out.below) 1 HN1.out (by decide) 1 rfl 6 rfl
     simp only [Nat.reduceAdd] at z0 z1 z2 z3 z4 z5
     go_wp2_with (first | (go_at_call 10; refine (lex_Mark.calls ((rd_T43 l0 1).f0) ((rd_T43 l0 1).f1) ((rd_T43 l0 1).f2.f0) ((rd_T43 l0 1).f2.f1) ((rd_T43 l0 1).f2.f2) ((rd_T43 l0 1).f3) (⟨#[94, 94]⟩ : ByteArray) z _ HK.out).mono ?_; rintro e w6 ⟨rfl, hb⟩; have HZ1 := Ad.mk (HZ.out.lower hb); clear hb))
     go_meet
     case rel => exact ⟨_, rfl, HU, HZ1⟩
    rw [if_neg n2_] at hb
    have HU := Ad.mk (Option.some.inj hb)
    clear hb
    have n2b : decide (2 < l0.length) = false := decide_eq_false n2_
    have n2c : decide ((l0.length : Int) > 2) = false := decide_eq_false (by omega)
    clear n2_
    go_wp2
    go_meet
    case rel => exact ⟨false, rfl, ⟨by rw [if_neg (by decide)]; exact HU.out⟩, HZ⟩
   case rest =>
    clear HZ HB2
    obtain ⟨z, rfl, HU, HZ⟩ := hcut
    go_upto_if 65 with (fail)
    go_cut [9] (fun v9 wc => v9 = .int .i64 n2 ∧ Ad (VX w wc gr gt #[.int .i64 K2, .string ((rd_T43 l0 0).f1), .string X2]))
    case first =>
     have hu := HU.out
     clear HU
     cases z with
     | false =>
      rw [if_neg (by decide)] at hu
      simp only [Prod.mk.injEq] at hu
      obtain ⟨rfl, rfl, rfl⟩ := hu
      go_wp2
      go_meet
      case rel => exact ⟨rfl, HZ⟩
     | true =>
      rw [if_pos rfl] at hu
      obtain ⟨n2_, ⟨u1, u2, u3, u4⟩, hu, he⟩ := hu
      have HRR := Ad.mk hu
      have HN2 := Ad.mk n2_
      clear hu
      have n2b : decide (2 < l0.length) = true := decide_eq_true n2_
      have n2c : decide ((l0.length : Int) > 2) = true := decide_eq_true (by omega)
      have n2d : (2 < l0.length) = True := eq_true n2_
      have n2e : ((2 : Int) < (l0.length : Int)) = True := eq_true (by omega)
      clear n2_
      obtain ⟨z0, z1, z2, z3, z4, z5⟩ := rowk (Kd.C_below HR0.out HZ.out.below) 2 HN2.out (by decide) 2 rfl 12 rfl
      simp only [Nat.reduceAdd] at z0 z1 z2 z3 z4 z5
      simp only at he
      cases u4 with
      | false =>
       rw [if_neg (by decide)] at he
       simp only [Prod.mk.injEq] at he
       obtain ⟨rfl, rfl, rfl⟩ := he
       go_wp2_with (first | (go_at_call 18; refine (lex_resource.calls k ((rd_T43 l0 2).f0) ((rd_T43 l0 2).f1) ((rd_T43 l0 2).f2.f0) ((rd_T43 l0 2).f2.f1) ((rd_T43 l0 2).f2.f2) ((rd_T43 l0 2).f3) mv M u1 u2 u3 false _ (HM.out.below HZ.out.below) HRR.out).mono ?_; rintro e w6 ⟨rfl, hb⟩; have HZ1 := Ad.mk (HZ.out.lower hb); clear hb HZ z0 z1 z2 z3 z4 z5) | ((with_reducible refine gate_dst (N := 10) rfl ?_); refine box_event r1_ (N := 10) r1_ (cs := #[.int .i64 0, .string ⟨#[]⟩, .string ⟨#[]⟩]) (t := 31) r2_ ?_; intro gu hgu w7 hu hb; have HW7 := Ad.mk (show Below w6.heap.size w6 w7 ∧ gu = w6.heap.size ∧ w7.heap[gu]? = some (.cells #[.int .i64 0, .string ⟨#[]⟩, .string ⟨#[]⟩] 31 (0, 0)) from ⟨hb, hgu, hu⟩); clear hgu hu hb) | ((with_reducible refine gate_store (t := 31) (p := 10) rfl ?_); refine store_seg (gy := gu) (j := 0) (T := 31) (TB := 31) (cs := #[.int .i64 0, .string ⟨#[]⟩, .string ⟨#[]⟩]) (new := #[.int .i64 u1, .string u2, .string u3]) (u := .agg #[.int .i64 u1, .string u2, .string u3]) (seg := [.int .i64 u1, .string u2, .string u3]) rfl (p := .tmp 10) (x := .tmp 72) rfl rfl r1_ r1_ r1_ HW7.out.2.2 k1_ s1_ h1_ rfl ?_; intro w8 hz hup; have HZ2 := Ad.mk (HZ1.out.lower (HW7.out.1.trans (hup.below (Nat.le_of_eq HW7.out.2.1.symm)))); have hu1 := (blk_cell hz 1).trans (show _ = some (.string u2) from rfl); have hng := Ad.mk (show gu ≠ gt by rw [HW7.out.2.1]; exact Ne.symm (Nat.ne_of_lt (blk_lt HZ1.out.t))); clear hz hup HW7 HZ1))
       go_meet
       case rel => exact ⟨rfl, HZ2⟩
      | true =>
       rw [if_pos rfl] at he
       simp only [Prod.mk.injEq] at he
       obtain ⟨rfl, rfl, rfl⟩ := he
       go_wp2_with (first | (go_at_call 18; refine (lex_resource.calls k ((rd_T43 l0 2).f0) ((rd_T43 l0 2).f1) ((rd_T43 l0 2).f2.f0) ((rd_T43 l0 2).f2.f1) ((rd_T43 l0 2).f2.f2) ((rd_T43 l0 2).f3) mv M u1 u2 u3 true _ (HM.out.below HZ.out.below) HRR.out).mono ?_; rintro e w6 ⟨rfl, hb⟩; have HZ1 := Ad.mk (HZ.out.lower hb); clear hb HZ z0 z1 z2 z3 z4 z5) | ((with_reducible refine gate_dst (N := 10) rfl ?_); refine box_event r1_ (N := 10) r1_ (cs := #[.int .i64 0, .string ⟨#[]⟩, .string ⟨#[]⟩]) (t := 31) r2_ ?_; intro gu hgu w7 hu hb; have HW7 := Ad.mk (show Below w6.heap.size w6 w7 ∧ gu = w6.heap.size ∧ w7.heap[gu]? = some (.cells #[.int .i64 0, .string ⟨#[]⟩, .string ⟨#[]⟩] 31 (0, 0)) from ⟨hb, hgu, hu⟩); clear hgu hu hb) | ((with_reducible refine gate_store (t := 31) (p := 10) rfl ?_); refine store_seg (gy := gu) (j := 0) (T := 31) (TB := 31) (cs := #[.int .i64 0, .string ⟨#[]⟩, .string ⟨#[]⟩]) (new := #[.int .i64 u1, .string u2, .string u3]) (u := .agg #[.int .i64 u1, .string u2, .string u3]) (seg := [.int .i64 u1, .string u2, .string u3]) rfl (p := .tmp 10) (x := .tmp 72) rfl rfl r1_ r1_ r1_ HW7.out.2.2 k1_ s1_ h1_ rfl ?_; intro w8 hz hup; have HZ2 := Ad.mk (HZ1.out.lower (HW7.out.1.trans (hup.below (Nat.le_of_eq HW7.out.2.1.symm)))); have hu1 := (blk_cell hz 1).trans (show _ = some (.string u2) from rfl); have hng := Ad.mk (show gu ≠ gt by rw [HW7.out.2.1]; exact Ne.symm (Nat.ne_of_lt (blk_lt HZ1.out.t))); clear hz hup HW7 HZ1))
       have tc0 := (blk_cell HZ2.out.t 0).trans (show _ = some (.int .i64 K) from rfl)
       have tc1 := (blk_cell HZ2.out.t 1).trans (show _ = some (.string ((rd_T43 l0 0).f1)) from rfl)
       have tc2 := (blk_cell HZ2.out.t 2).trans (show _ = some (.string X) from rfl)
       have tf := fun i => blk_frozen HZ2.out.t i
       have hng1 := hng.out
       have hng2 := Ne.symm hng.out
       go_region
       all_goals (go_wp2; go_meet; (case rel => exact ⟨rfl, ⟨((HZ2.out.drew.put 0 _ rfl).put 2 _ rfl)⟩⟩))
    case rest =>
     clear HZ HU
     obtain ⟨rfl, HZ⟩ := hcut
     go_upto_region 16 with (fail)
     go_cut [86] (fun v86 wc => ∃ z : Bool, v86 = .bool z ∧ Ad (if z = true then lex_Read.C (K2, X2, n2) = (3, (⟨#[]⟩ : ByteArray)) else lex_Read.C (K2, X2, n2) = (K2, X2)) ∧ Ad (VX w wc gr gt #[.int .i64 K2, .string ((rd_T43 l0 0).f1), .string X2]))
     case first =>
      have tc0 := (blk_cell HZ.out.t 0).trans (show _ = some (.int .i64 K2) from rfl)
      have tc1 := (blk_cell HZ.out.t 1).trans (show _ = some (.string ((rd_T43 l0 0).f1)) from rfl)
      have tc2 := (blk_cell HZ.out.t 2).trans (show _ = some (.string X2) from rfl)
      by_cases ex : X2.toList = ([104, 116, 116, 112, 58, 47, 47, 119, 119, 119, 46, 119, 51, 46, 111, 114, 103, 47, 50, 48, 48, 49, 47, 88, 77, 76, 83, 99, 104, 101, 109, 97, 35, 115, 116, 114, 105, 110, 103] : List UInt8)
      ·have ex1 : (X2.toList == ([104, 116, 116, 112, 58, 47, 47, 119, 119, 119, 46, 119, 51, 46, 111, 114, 103, 47, 50, 48, 48, 49, 47, 88, 77, 76, 83, 99, 104, 101, 109, 97, 35, 115, 116, 114, 105, 110, 103] : List UInt8)) = true := by simpa using ex
       have HQ := Ad.mk (show (if (K2 == 5) = true then lex_Read.C (K2, X2, n2) = (3, (⟨#[]⟩ : ByteArray)) else lex_Read.C (K2, X2, n2) = (K2, X2)) from by
        by_cases e5 : K2 = 5
        ·rw [if_pos (by simpa using e5)]; exact if_pos ⟨ex, e5⟩
        rw [if_neg (by simpa using e5)]; exact if_neg (fun hc => e5 hc.2))
       go_wp2
       go_meet
       case rel => exact ⟨_, rfl, HQ, HZ⟩
      have ex1 : (X2.toList == ([104, 116, 116, 112, 58, 47, 47, 119, 119, 119, 46, 119, 51, 46, 111, 114, 103, 47, 50, 48, 48, 49, 47, 88, 77, 76, 83, 99, 104, 101, 109, 97, 35, 115, 116, 114, 105, 110, 103] : List UInt8)) = false := by simpa using ex
      have HQ := Ad.mk (show lex_Read.C (K2, X2, n2) = (K2, X2) from if_neg (fun hc => ex hc.1))
      go_wp2
      go_meet
      case rel => exact ⟨false, rfl, ⟨by rw [if_neg (by decide)]; exact HQ.out⟩, HZ⟩
     case rest =>
      clear HZ
      obtain ⟨z, rfl, HQ, HZ⟩ := hcut
      obtain ⟨⟨K3, X3⟩, hC⟩ : ∃ p, p = lex_Read.C (K2, X2, n2) := ⟨_, rfl⟩
      rw [← hC] at HMM HFIN
      have HC3 := Ad.mk hC
      clear hC
      go_upto_if 86 with (fail)
      go_cut [] (fun wc => Ad (VX w wc gr gt #[.int .i64 K3, .string ((rd_T43 l0 0).f1), .string X3]))
      case first =>
       have tc0 := (blk_cell HZ.out.t 0).trans (show _ = some (.int .i64 K2) from rfl)
       have tc1 := (blk_cell HZ.out.t 1).trans (show _ = some (.string ((rd_T43 l0 0).f1)) from rfl)
       have tc2 := (blk_cell HZ.out.t 2).trans (show _ = some (.string X2) from rfl)
       have tf := fun i => blk_frozen HZ.out.t i
       have hq := HQ.out
       have hc := HC3.out
       cases z with
       | true =>
        rw [if_pos rfl] at hq
        rw [hq] at hc
        simp only [Prod.mk.injEq] at hc
        obtain ⟨rfl, rfl⟩ := hc
        clear hq HQ
        go_wp2
        go_meet
        case rel => exact ⟨((HZ.out.put 0 _ rfl).put 2 _ rfl)⟩
       | false =>
        rw [if_neg (by decide)] at hq
        rw [hq] at hc
        simp only [Prod.mk.injEq] at hc
        obtain ⟨rfl, rfl⟩ := hc
        clear hq HQ
        go_wp2
        go_meet
        case rel => exact HZ
      case rest =>
       clear HZ HC3 HQ
       have HZ := hcut
       clear hcut
       have tc0 := (blk_cell HZ.out.t 0).trans (show _ = some (.int .i64 K3) from rfl)
       have tc1 := (blk_cell HZ.out.t 1).trans (show _ = some (.string ((rd_T43 l0 0).f1)) from rfl)
       have tc2 := (blk_cell HZ.out.t 2).trans (show _ = some (.string X3) from rfl)
       have H := HFIN.out
       simp only at H
       cases m with
       | true =>
        rw [if_pos rfl] at H
        simp only [Option.some.injEq, Prod.mk.injEq] at H
        obtain ⟨rfl, rfl, rfl, rfl, rfl⟩ := H
        go_wp2_with (first | (go_at_call 19; refine (term_May.calls k K3 ((rd_T43 l0 0).f1) X3 true _ HMM.out).mono ?_; rintro e w9 ⟨rfl, hb⟩; have HZ9 := Ad.mk (HZ.out.lower hb); clear hb tc0 tc1 tc2 HZ; have te0 := (blk_cell HZ9.out.t 0).trans (show _ = some (.int .i64 K3) from rfl); have te1 := (blk_cell HZ9.out.t 1).trans (show _ = some (.string ((rd_T43 l0 0).f1)) from rfl); have te2 := (blk_cell HZ9.out.t 2).trans (show _ = some (.string X3) from rfl)) | ((with_reducible refine gate_store (t := 31) (p := 4) rfl ?_); refine store_seg (gy := gr) (j := 0) (T := 31) (TB := 31) (cs := #[.int .i64 0, .string ⟨#[]⟩, .string ⟨#[]⟩]) (new := #[.int .i64 K3, .string ((rd_T43 l0 0).f1), .string X3]) (u := .agg #[.int .i64 K3, .string ((rd_T43 l0 0).f1), .string X3]) (seg := [.int .i64 K3, .string ((rd_T43 l0 0).f1), .string X3]) rfl (p := .tmp 4) (x := .tmp 94) rfl rfl r1_ r1_ r1_ HZ9.out.r k1_ s1_ h1_ rfl ?_; intro wz hz hup; have HF := Ad.mk (HZ9.out.fin hup hz); clear hz hup))
        refine bodyPost_ret (results_ctt rfl _ _ gr 31 #[.int .i64 K3, .string ((rd_T43 l0 0).f1), .string X3] (0, 0) _ rfl HF.out.2 Tryz.underlying31 rfl k1_) rfl ?_
        exact ⟨rfl, HF.out.1⟩
       | false =>
        rw [if_neg (by decide)] at H
        simp only [Option.some.injEq, Prod.mk.injEq] at H
        obtain ⟨rfl, rfl, rfl, rfl, rfl⟩ := H
        go_wp2_with (first | (go_at_call 19; refine (term_May.calls k K3 ((rd_T43 l0 0).f1) X3 false _ HMM.out).mono ?_; rintro e w9 ⟨rfl, hb⟩; have HZ9 := Ad.mk (HZ.out.lower hb); clear hb tc0 tc1 tc2 HZ; have te0 := (blk_cell HZ9.out.t 0).trans (show _ = some (.int .i64 K3) from rfl); have te1 := (blk_cell HZ9.out.t 1).trans (show _ = some (.string ((rd_T43 l0 0).f1)) from rfl); have te2 := (blk_cell HZ9.out.t 2).trans (show _ = some (.string X3) from rfl)) | ((with_reducible refine gate_store (t := 31) (p := 4) rfl ?_); refine store_seg (gy := gr) (j := 0) (T := 31) (TB := 31) (cs := #[.int .i64 0, .string ⟨#[]⟩, .string ⟨#[]⟩]) (new := #[.int .i64 0, .string ⟨#[]⟩, .string ⟨#[]⟩]) (u := .agg #[.int .i64 0, .string ⟨#[]⟩, .string ⟨#[]⟩]) (seg := [.int .i64 0, .string ⟨#[]⟩, .string ⟨#[]⟩]) rfl (p := .tmp 4) (x := .tmp 93) rfl rfl r1_ r1_ r1_ HZ9.out.r k1_ s1_ h1_ rfl ?_; intro wz hz hup; have HF := Ad.mk (HZ9.out.fin hup hz); clear hz hup))
        refine bodyPost_ret (results_ctt rfl _ _ gr 31 #[.int .i64 0, .string ⟨#[]⟩, .string ⟨#[]⟩] (0, 0) _ rfl HF.out.2 Tryz.underlying31 rfl k1_) rfl ?_
        exact ⟨rfl, HF.out.1⟩
def setM : List (ByteArray × ByteArray) → ByteArray → ByteArray → List (ByteArray × ByteArray)
 | [], k, v => [(k, v)]
 | p :: M, k, v => if (k == p.1) = true then (p.1, v) :: M else p :: setM M k v
theorem look_set (k v q : ByteArray) : ∀ M : List (ByteArray × ByteArray), lookM (setM M k v) q = if (q == k) = true then some v else lookM M q
 | [] => rfl
 | p :: M => by
  have ih := look_set k v q M
  unfold setM
  by_cases c : (k == p.1) = true
  ·have e : k = p.1 := (Go.MapKept.bytes_beq k p.1).1 c
   rw [if_pos c, lookM, lookM, ← e]
   by_cases d : (q == k) = true
   ·rw [if_pos d, if_pos d]
   rw [if_neg d, if_neg d, if_neg d]
  rw [if_neg c, lookM, lookM, ih]
  by_cases d : (q == p.1) = true
  ·have e : q = p.1 := (Go.MapKept.bytes_beq q p.1).1 d
   rw [if_pos d, if_pos d, if_neg]
   intro g
   have e2 : q = k := (Go.MapKept.bytes_beq q k).1 g
   exact c ((Go.MapKept.bytes_beq k p.1).2 (e2.symm.trans e))
  rw [if_neg d, if_neg d]
def MapR (es : Array MapEntry) (M : List (ByteArray × ByteArray)) : Prop := es.toList.map (fun e => (e.key, e.val)) = M.map (fun p => (Value.string p.1, Value.string p.2))
theorem sameS (a b : ByteArray) : Instr.sameNow .string (.string a) (.string b) = some (a == b) := by simp [Instr.sameNow]
theorem put_spec (k v : ByteArray) (c : Nat) : ∀ (l : List MapEntry) (M : List (ByteArray × ByteArray)) (i : Nat), l.map (fun e => (e.key, e.val)) = M.map (fun p => (Value.string p.1, Value.string p.2)) →
  (Instr.findNow .string (.string k) l i = some none ∧ (l ++ [({ key := .string k, val := .string v, born := c } : MapEntry)]).map (fun e => (e.key, e.val)) = (setM M k v).map (fun p => (Value.string p.1, Value.string p.2))) ∨
  ∃ j x, Instr.findNow .string (.string k) l i = some (some (i + j, x)) ∧ (l[j]?).map (·.key) = some (.string k) ∧ (l.modify j fun e : MapEntry => { e with key := .string k, val := .string v }).map (fun e => (e.key, e.val)) = (setM M k v).map (fun p => (Value.string p.1, Value.string p.2))
 | [], [], i, _ => .inl ⟨rfl, rfl⟩
 | e :: l, [], i, h => by simp at h
 | [], p :: M, i, h => by simp at h
 | e :: l, p :: M, i, h => by
  simp only [List.map_cons, List.cons.injEq, Prod.mk.injEq] at h
  obtain ⟨⟨h1, h2⟩, h3⟩ := h
  have hf : Instr.findNow .string (.string k) (e :: l) i = if (k == p.1) = true then some (some (i, e.val)) else Instr.findNow .string (.string k) l (i + 1) := by
   simp only [Instr.findNow, h1, sameS]
   cases (k == p.1) <;> rfl
  by_cases cc : (k == p.1) = true
  ·have ek : k = p.1 := (Go.MapKept.bytes_beq k p.1).1 cc
   refine .inr ⟨0, e.val, by rw [hf, if_pos cc, Nat.add_zero], by simp [h1, ek], ?_⟩
   rw [setM, if_pos cc]
   simp [List.modify, h3, ek]
  rw [setM, if_neg cc]
  rcases put_spec k v c l M (i + 1) h3 with ⟨g1, g2⟩ | ⟨j, x, g1, g2, g3⟩
  ·refine .inl ⟨by rw [hf, if_neg cc, g1], ?_⟩
   rw [List.cons_append, List.map_cons, List.map_cons, g2, h1, h2]
  refine .inr ⟨j + 1, x, by rw [hf, if_neg cc, g1, Nat.add_assoc, Nat.add_comm 1 j], by simpa using g2, ?_⟩
  have em : (e :: l).modify (j + 1) (fun e => { e with key := .string k, val := .string v }) = e :: l.modify j (fun e => { e with key := .string k, val := .string v }) := rfl
  rw [em, List.map_cons, List.map_cons, g3, h1, h2]
structure MapIs (w : World) (b : Nat) (M : List (ByteArray × ByteArray)) : Prop where
 out : ∃ es c, w.heap[b]? = some (.map es c) ∧ MapR es M
theorem MapIs.put {w : World} {b : Nat} {M : List (ByteArray × ByteArray)} (h : MapIs w b M) (k v : ByteArray) : ∃ o, (∀ w', w'.heap[b]? = w.heap[b]? → (Instr.mapUpdate 35 (.map (some b)) (.string k) (.string v)).run Tryz.prog w' = .ok () { w' with heap := w'.heap.setIfInBounds b o }) ∧ ∀ w' : World, w'.heap[b]? = some o → MapIs w' b (setM M k v) := by
 obtain ⟨es, c, hb, hr⟩ := h.out
 have hT := Tryz.underlying35
 have hK := Tryz.underlying9
 have hck : ∀ w', (Instr.checkKey false 10000 9 (.string k)).run Tryz.prog w' = .ok () w' := fun w' => Go.MapKept.run_checkKey hK z32_ false 9999
 rcases put_spec k v c es.toList M 0 hr with ⟨g1, g2⟩ | ⟨j, x, g1, g2, g3⟩
 ·refine ⟨.map (es.push { key := .string k, val := .string v, born := c }) (c + 1), fun w' hw => ?_, fun w' hw => ⟨_, _, hw, ?_⟩⟩
  ·have hg := hw.trans hb
   have hfk : (Instr.findKey 9 (.string k) es.toList).run Tryz.prog w' = .ok none w' := Go.MapKept.run_findKey hK g1
   simp only [Instr.mapUpdate, Sem.run_bind, run_underlying hT, Result.andThen_ok]
   rw [Go.MapKept.run_getObj_map hg]
   simp only [Result.andThen_ok, Sem.run_bind, hck, hfk]
   rw [Go.MapKept.run_setObj_map _ hg]
  unfold MapR
  rw [Array.toList_push]
  exact g2
 refine ⟨.map (es.modify j fun e => { e with key := .string k, val := .string v }) c, fun w' hw => ?_, fun w' hw => ⟨_, _, hw, ?_⟩⟩
 ·have hg := hw.trans hb
  rw [Nat.zero_add] at g1
  have hfk : (Instr.findKey 9 (.string k) es.toList).run Tryz.prog w' = .ok (some (j, x)) w' := Go.MapKept.run_findKey hK g1
  have hkey : (es[j]?.map (·.key)).getD (.string k) = .string k := by
   rw [← Array.getElem?_toList, g2]
   rfl
  simp only [Instr.mapUpdate, Sem.run_bind, run_underlying hT, Result.andThen_ok]
  rw [Go.MapKept.run_getObj_map hg]
  simp only [Result.andThen_ok, Sem.run_bind, hck, hfk, hkey]
  rw [Go.MapKept.run_keyThatStays (d := .string) z32_]
  simp only [Result.andThen_ok, Sem.run_bind]
  rw [Go.MapKept.run_setObj_map _ hg]
 unfold MapR
 rw [Array.toList_modify]
 exact g3
def w4_prefixes.f (l0 : List S24) : List (ByteArray × ByteArray) := l0.foldl (fun M p => setM M p.f0 p.f1) []
set_option maxHeartbeats 4000000 in
set_option maxRecDepth 100000 in
theorem w4_prefixes.calls (A0 : Option Addr) (c0 : Nat) (l0 : List (S24)) (w : World) (hr0 : Kd.C k24 w A0 l0.length l0) (hc0 : l0.length ≤ c0) :
  Calls Tryz.prog 7 #[.slice A0 l0.length c0] w fun e w' => ∃ mv, e = .returned mv ∧ MapSS w' mv (w4_prefixes.f l0) ∧ Below w.heap.size w w' := by
 have hmm := @run_makeMap Tryz.prog
 have HR0 := Ad.mk hr0
 have hlen : l0.length ≤ 9223372036854775807 := hr0.2.1
 clear hr0 hc0
 go_enter Tryz.func7, Tryz.ntmps7
 go_wp2
 go_loopg [4] l0.length (fun g s4 wr => ∃ (i : Nat) (M : List (ByteArray × ByteArray)), s4 = .int .i64 (i : Int) ∧ i ≤ l0.length ∧ g = l0.length - i ∧ Ad (MapIs wr w.heap.size M) ∧ Ad ((l0.drop i).foldl (fun M p => setM M p.f0 p.f1) M = w4_prefixes.f l0) ∧ Ad (Below w.heap.size w wr))
 case atStart => exact ⟨0, [], rfl, by omega, by omega, ⟨⟨#[], 0, World.alloc_heap_new w _, rfl⟩⟩, ⟨rfl⟩, ⟨below_alloc (Below.refl _ _) _⟩⟩
 case round =>
  obtain ⟨i, M, rfl, hi, rfl, HM, HF, HB⟩ := hrel
  by_cases c1 : (i : Int) < (l0.length : Int)
  ·have c1b : decide ((i : Int) < (l0.length : Int)) = true := decide_eq_true c1
   obtain ⟨ad, e, hx0, hx1⟩ := at_T24 HR0.out (i : Int) (by omega) c1
   have hB := HB.out
   replace hx0 := (hB.cell (World.block_lt_of_cell? w _ hx0)).trans hx0
   replace hx1 := (hB.cell (World.block_lt_of_cell? w _ hx1)).trans hx1
   subst e
   rw [Int.toNat_natCast] at hx0 hx1
   have p8 : (0 ≤ (i : Int)) = True := eq_true (by omega)
   have q8 : ((i : Int) < (l0.length : Int)) = True := eq_true c1
   obtain ⟨o, hp1, hp2⟩ := HM.out.put (rd_T24 l0 (i : Int)).f0 (rd_T24 l0 (i : Int)).f1
   have hpd := hp1 wr.drew rfl
   go_wp2
   go_region
   obtain ⟨es, cl, hbb, _⟩ := HM.out.out
   have hset := Go.MapKept.heap_set (w := wr.drew) (r := w.heap.size) (o := .map es cl) (o' := o) hbb
   have hBn : Below w.heap.size w { heap := wr.drew.heap.setIfInBounds w.heap.size o, tape := wr.tape, drawn := wr.drawn + 1, os := wr.drew.os, output := wr.drew.output } :=
    ⟨hB.os, hB.tape, hB.output, by rw [Array.size_setIfInBounds]; exact hB.size, fun j hj => (hset.2 j (by omega)).trans (hB.block j hj)⟩
   have hMn := hp2 { heap := wr.drew.heap.setIfInBounds w.heap.size o, tape := wr.tape, drawn := wr.drawn + 1, os := wr.drew.os, output := wr.drew.output } hset.1
   generalize ({ heap := wr.drew.heap.setIfInBounds w.heap.size o, tape := wr.tape, drawn := wr.drawn + 1, os := wr.drew.os, output := wr.drew.output } : World) = wn at hBn hMn ⊢
   clear hp1 hp2 hpd hset hbb hx0 hx1 hB HM HB
   have HM := Ad.mk hMn
   have HB := Ad.mk hBn
   clear hMn hBn
   have HF2 : Ad ((l0.drop (i + 1)).foldl (fun M p => setM M p.f0 p.f1) (setM M (rd_T24 l0 (i : Int)).f0 (rd_T24 l0 (i : Int)).f1) = w4_prefixes.f l0) := by
    refine ⟨?_⟩
    have h := HF.out
    have hd : l0.drop i = rd_T24 l0 (i : Int) :: l0.drop (i + 1) := by
     rw [List.drop_eq_getElem_cons (by omega)]
     congr 1
     unfold rd_T24
     simp [List.getD_eq_getElem?_getD, List.getElem?_eq_getElem (show i < l0.length by omega)]
    rw [hd, List.foldl_cons] at h
    exact h
   clear HF
   go_wp2
   go_roundg (l0.length - (i + 1))
   case measure => omega
   case rel => exact ⟨i + 1, _, rfl, by omega, rfl, HM, HF2, HB⟩
  have c1b : decide ((i : Int) < (l0.length : Int)) = false := decide_eq_false c1
  go_wp2
  go_ret
  obtain ⟨es, cl, h1, h2⟩ := HM.out.out
  have h := HF.out
  rw [List.drop_eq_nil_of_le (by omega), List.foldl_nil] at h
  rw [← h]
  exact ⟨_, rfl, .inr ⟨_, _, _, rfl, h1, h2⟩, HB.out⟩
def g4_Mark.f (a0_0 : Int) (a0_1 : ByteArray) (a0_2 : Int) (a0_3 : ByteArray) (a0_4 : ByteArray) (a0_5 : Int) (a1 : ByteArray) : Option (Bool) := if a0_0 = 8 then (some (a0_1.toList == a1.toList)) else (some false)
theorem g4_Mark.calls (a0_0 : Int) (a0_1 : ByteArray) (a0_2 : Int) (a0_3 : ByteArray) (a0_4 : ByteArray) (a0_5 : Int) (a1 : ByteArray) (r : Bool) (w : World) (h : g4_Mark.f a0_0 a0_1 a0_2 a0_3 a0_4 a0_5 a1 = some r) :
  Calls Tryz.prog 11 #[.agg #[.int .i64 a0_0, .string a0_1, .int .i64 a0_2, .string a0_3, .string a0_4, .int .i64 a0_5], .string a1] w fun e w' => e = .returned (.bool r) ∧ Below w.heap.size w w' := by
 have hu43 := Tryz.underlying43
 have HB := Ad.mk (Below.refl w.heap.size w)
 have H := h
 clear h
 unfold g4_Mark.f at H
 by_cases c3 : a0_0 = 8
 ·rw [if_pos c3] at H
  have c3b0 := beq_iff_eq.mpr c3
  have c3b1 := bne_eq_false_iff_eq.mpr c3
  clear c3
  obtain rfl := Option.some.inj H
  go_enter Tryz.func11, Tryz.ntmps11
  go_wp2_with (first | ((with_reducible refine gate_dst (N := 2) rfl ?_); refine box_event r1_ (N := 2) r1_ (cs := #[.int .i64 a0_0, .string a0_1, .int .i64 a0_2, .string a0_3, .string a0_4, .int .i64 a0_5]) (t := 43) r2_ ?_; intro gb401 hg w4 hbox hb; have BK401 := Ad.mk (hbox); have GW401 := Ad.mk (bs_ : w.heap.size ≤ gb401); have GE401 := Ad.mk (bs_ : w.heap.size ≤ gb401); replace HB := Ad.mk (below_step b1_ hb); clear hb hbox hg; obtain ⟨⟨hcz5_0, hcz5_1, hcz5_2, hcz5_3, hcz5_4, hcz5_5⟩, hfz5_0, hfz5_1, hfz5_2, hfz5_3, hfz5_4, hfz5_5⟩ := c6_ BK401.out))
  go_ret
  exact ⟨e2_, by have G0 := GE401; exact z7_⟩
 rw [if_neg c3] at H
 have c3b0 := beq_eq_false_iff_ne.mpr c3
 have c3b1 := bne_iff_ne.mpr c3
 obtain rfl := Option.some.inj H
 go_enter Tryz.func11, Tryz.ntmps11
 go_wp2_with (first | ((with_reducible refine gate_dst (N := 2) rfl ?_); refine box_event r1_ (N := 2) r1_ (cs := #[.int .i64 a0_0, .string a0_1, .int .i64 a0_2, .string a0_3, .string a0_4, .int .i64 a0_5]) (t := 43) r2_ ?_; intro gb401 hg w6 hbox hb; have BK401 := Ad.mk (hbox); have GW401 := Ad.mk (bs_ : w.heap.size ≤ gb401); have GE401 := Ad.mk (bs_ : w.heap.size ≤ gb401); replace HB := Ad.mk (below_step b1_ hb); clear hb hbox hg; obtain ⟨⟨hcz7_0, hcz7_1, hcz7_2, hcz7_3, hcz7_4, hcz7_5⟩, hfz7_0, hfz7_1, hfz7_2, hfz7_3, hfz7_4, hfz7_5⟩ := c6_ BK401.out))
 go_ret
 exact ⟨e2_, by have G0 := GE401; exact z7_⟩
end Go.Proofs.YtpbphelaeleikaaGreatDoor.PLt

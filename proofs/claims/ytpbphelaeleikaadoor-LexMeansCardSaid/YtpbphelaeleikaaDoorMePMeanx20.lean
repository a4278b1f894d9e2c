import Derived.Test.YtpbphelaeleikaaDoorMePMeanx0
import Derived.Test.YtpbphelaeleikaaDoorMePMeanx2
import Derived.Test.YtpbphelaeleikaaDoorMePMeanx6
import Derived.Test.YtpbphelaeleikaaDoorMePMeanx11
import Derived.Test.YtpbphelaeleikaaDoorMePMeanx12
import Derived.Test.YtpbphelaeleikaaDoorMePMeanx19
namespace Go.Proofs.YtpbphelaeleikaaDoor.PMean
open Go.RowKit Go.Proofs.YtpbphelaeleikaaDoorW.PrintWords Go.Proofs.YtpbphelaeleikaaDoorW.PrintLast Go.Proofs.YtpbphelaeleikaaDoorW.PrintMore
attribute [local go_sem] max2_int min2_int max_two min_two max_three min_three max_four min_four
set_option linter.unusedVariables false
set_option linter.unusedSimpArgs false
set_option maxHeartbeats 8000000
set_option maxRecDepth 100000
attribute [local go_sem high] eqA38
def lex_Read.A (l0 : List S38) : Int × ByteArray × Int := if 1 < l0.length ∧ (rd_T38 l0 1).f0 = 4 then (4, (rd_T38 l0 1).f1, 2) else (3, (⟨#[]⟩ : ByteArray), 1)
def lex_Read.B (k : Nat) (l0 : List S38) (M : List (ByteArray × ByteArray)) (a : Int × ByteArray × Int) : Option (Int × ByteArray × Int) := if 2 < l0.length then (lex_Mark.f ((rd_T38 l0 1).f0) ((rd_T38 l0 1).f1) ((rd_T38 l0 1).f2.f0) ((rd_T38 l0 1).f2.f1) ((rd_T38 l0 1).f2.f2) ((rd_T38 l0 1).f3) (⟨#[94, 94]⟩ : ByteArray)).bind fun m => if m = true then (lex_resource.f k ((rd_T38 l0 2).f0) ((rd_T38 l0 2).f1) ((rd_T38 l0 2).f2.f0) ((rd_T38 l0 2).f2.f1) ((rd_T38 l0 2).f2.f2) ((rd_T38 l0 2).f3) M).bind fun u => some (if u.2.2.2 = true then (5, u.2.1, 3) else a) else some a else some a
def lex_Read.C (a : Int × ByteArray × Int) : Int × ByteArray := if a.2.1.toList = ([104, 116, 116, 112, 58, 47, 47, 119, 119, 119, 46, 119, 51, 46, 111, 114, 103, 47, 50, 48, 48, 49, 47, 88, 77, 76, 83, 99, 104, 101, 109, 97, 35, 115, 116, 114, 105, 110, 103] : List UInt8) ∧ a.1 = 5 then (3, (⟨#[]⟩ : ByteArray)) else (a.1, a.2.1)
def lex_Read.fm (k : Nat) (l0 : List S38) (M : List (ByteArray × ByteArray)) : Option (Int × ByteArray × ByteArray × Int × Int) := if 0 < l0.length then (lex_resource.f k ((rd_T38 l0 0).f0) ((rd_T38 l0 0).f1) ((rd_T38 l0 0).f2.f0) ((rd_T38 l0 0).f2.f1) ((rd_T38 l0 0).f2.f2) ((rd_T38 l0 0).f3) M).bind fun t => if (rd_T38 l0 0).f0 = 2 then some ((rd_T38 l0 0).f2.f0, (rd_T38 l0 0).f2.f1, (rd_T38 l0 0).f2.f2, 1, 0) else if (rd_T38 l0 0).f0 = 3 then (lex_Read.B k l0 M (lex_Read.A l0)).bind fun b => (term_May.f k (lex_Read.C b).1 (rd_T38 l0 0).f1 (lex_Read.C b).2).bind fun m => some (if m = true then ((lex_Read.C b).1, (rd_T38 l0 0).f1, (lex_Read.C b).2, b.2.2, 0) else (0, (⟨#[]⟩ : ByteArray), (⟨#[]⟩ : ByteArray), 0, 4)) else some (if t.2.2.2 = true then (t.1, t.2.1, t.2.2.1, 1, 0) else (0, (⟨#[]⟩ : ByteArray), (⟨#[]⟩ : ByteArray), 0, 4)) else some (0, (⟨#[]⟩ : ByteArray), (⟨#[]⟩ : ByteArray), 0, 4)
def SC (w : World) (p : Addr) (x : S38) : Prop := w.cell? p = some (.int .i64 x.f0) ∧ w.cell? ⟨p.block, p.off + 1, none⟩ = some (.string x.f1) ∧ w.cell? ⟨p.block, p.off + 2, none⟩ = some (.int .i64 x.f2.f0) ∧ w.cell? ⟨p.block, p.off + 3, none⟩ = some (.string x.f2.f1) ∧ w.cell? ⟨p.block, p.off + 4, none⟩ = some (.string x.f2.f2) ∧ w.cell? ⟨p.block, p.off + 5, none⟩ = some (.int .i64 x.f3)
theorem rowc {w : World} {ad : Addr} {n : Nat} {xs : List S38} (h : Kd.C k38 w (some ad) n xs) (j : Nat) (hj : j < n) : SC w (ad.add (j * 6)) (rd_T38 xs j) := by
 obtain ⟨ad', e, q⟩ := at_T38 h j (by omega) (by omega)
 obtain rfl : ad = ad' := by injection e
 exact q
theorem rowc0 {w : World} {ad : Addr} {n : Nat} {xs : List S38} (h : Kd.C k38 w (some ad) n xs) (hj : 0 < n) : SC w ad (rd_T38 xs 0) := by
 have q := rowc h 0 hj
 rwa [Nat.zero_mul, Addr.add_zero'] at q
theorem rowk {w : World} {ad : Addr} {n : Nat} {xs : List S38} (h : Kd.C k38 w (some ad) n xs) (j : Nat) (hj : j < n) (h0 : 0 < j) (i : Int) (hi : i = j) (o : Nat) (ho : j * 6 = o) : w.cell? ⟨ad.block, ad.off + o, none⟩ = some (.int .i64 (rd_T38 xs i).f0) ∧ w.cell? ⟨ad.block, ad.off + (o + 1), none⟩ = some (.string (rd_T38 xs i).f1) ∧ w.cell? ⟨ad.block, ad.off + (o + 2), none⟩ = some (.int .i64 (rd_T38 xs i).f2.f0) ∧ w.cell? ⟨ad.block, ad.off + (o + 3), none⟩ = some (.string (rd_T38 xs i).f2.f1) ∧ w.cell? ⟨ad.block, ad.off + (o + 4), none⟩ = some (.string (rd_T38 xs i).f2.f2) ∧ w.cell? ⟨ad.block, ad.off + (o + 5), none⟩ = some (.int .i64 (rd_T38 xs i).f3) := by
 subst hi
 have q := rowc h j hj
 have e : ad.add (j * 6) = ⟨ad.block, ad.off + o, none⟩ := by
  have e := add_field ad 0 (j * 6) (by omega)
  rw [Nat.zero_add, Addr.add_zero', ho] at e
  rw [ho]; exact e
 rw [e] at q
 simpa only [SC, Nat.add_assoc] using q
theorem some_row {w : World} {A : Option Addr} {n : Nat} {xs : List S38} (h : Kd.C k38 w A n xs) (hj : 0 < n) : ∃ ad, A = some ad := by
 obtain ⟨ad, e, q⟩ := at_T38 h 0 (by omega) (by omega)
 exact ⟨ad, e⟩
structure VX (w W : World) (gr gt : Nat) (cs : Array Value) : Prop where
 below : Below w.heap.size w W
 r : W.heap[gr]? = some (.cells #[.int .i64 0, .string ⟨#[]⟩, .string ⟨#[]⟩] 31 (0, 0))
 t : W.heap[gt]? = some (.cells cs 31 (0, 0))
 rw' : w.heap.size ≤ gr
 tw : w.heap.size ≤ gt
 ne : gt ≠ gr
theorem VX.lower {w W W' : World} {gr gt : Nat} {cs : Array Value} (h : VX w W gr gt cs) (hb : Below W.heap.size W W') : VX w W' gr gt cs := ⟨below_then h.below h.below.size hb, blk_below h.r hb, blk_below h.t hb, h.rw', h.tw, h.ne⟩
theorem VX.drewN {w W : World} {gr gt : Nat} {cs : Array Value} (h : VX w W gr gt cs) (n : Nat) : VX w (W.drewN n) gr gt cs := h.lower (pw_below_drewN (Below.refl _ _) n)
theorem VX.drew {w W : World} {gr gt : Nat} {cs : Array Value} (h : VX w W gr gt cs) : VX w W.drew gr gt cs := h.lower (below_drew (Below.refl _ _))
theorem VX.upd {w W W' : World} {gr gt : Nat} {cs cs' : Array Value} (h : VX w W gr gt cs) (hu : Upd W W' gt) (hn : W'.heap[gt]? = some (.cells cs' 31 (0, 0))) : VX w W' gr gt cs' := ⟨h.below.trans (hu.below h.tw), (hu.other gr (Ne.symm h.ne)).trans h.r, hn, h.rw', h.tw, h.ne⟩
theorem VX.put {w W : World} {gr gt : Nat} {cs cs' : Array Value} (h : VX w W gr gt cs) (i : Nat) (u : Value) (hc : cs.setIfInBounds i u = cs') : VX w (W.setCell ⟨gt, i, none⟩ u) gr gt cs' := ⟨h.below.setCell (p := ⟨gt, i, none⟩) h.tw u, blk_far h.r (p := ⟨gt, i, none⟩) (Ne.symm h.ne) u, by rw [← hc]; exact blk_set h.t i u, h.rw', h.tw, h.ne⟩
theorem VX.fin {w W W' : World} {gr gt : Nat} {cs rs : Array Value} (h : VX w W gr gt cs) (hu : Upd W W' gr) (hn : W'.heap[gr]? = some (.cells rs 31 (0, 0))) : Below w.heap.size w W' ∧ W'.heap[gr]? = some (.cells rs 31 (0, 0)) := ⟨h.below.trans (hu.below h.rw'), hn⟩
set_option maxHeartbeats 4000000 in
set_option maxRecDepth 100000 in
theorem lex_Read.callsm (k : Nat) (A0 : Option Addr) (c0 : Nat) (l0 : List (S38)) (mv : Value) (M : List (ByteArray × ByteArray)) (r1 : Int) (r2 : ByteArray) (r3 : ByteArray) (r4 : Int) (r5 : Int) (w : World) (hr0 : Kd.C k38 w A0 l0.length l0) (hc0 : l0.length ≤ c0) (hm : MapSS w mv M) (h : lex_Read.fm k l0 M = some (r1, r2, r3, r4, r5)) :
  Calls Tryd.prog 11 #[.slice A0 l0.length c0, mv] w fun e w' => e = .returned (.tuple #[.agg #[.int .i64 r1, .string r2, .string r3], .int .i64 r4, .int .i64 r5]) ∧ Below w.heap.size w w' := by
 have HR0 := Aside0.mk hr0
 have HM := Aside0.mk hm
 clear hm
 unfold lex_Read.fm at h
 by_cases c0_ : 0 < l0.length
 case neg =>
  rw [if_neg c0_] at h
  simp only [Option.some.injEq, Prod.mk.injEq] at h
  obtain ⟨rfl, rfl, rfl, rfl, rfl⟩ := h
  have hn0 : (l0.length == 0) = true := beq_iff_eq.mpr (by omega)
  have hn1 : decide ((l0.length : Int) = 0) = true := decide_eq_true (by omega)
  clear hr0 hc0 c0_
  go_enter Tryd.func11, Tryd.ntmps11
  go_wp2_with (first | ((with_reducible refine gate_dst (N := 4) rfl ?_); refine box_event r1_ (N := 4) r1_ (cs := #[.int .i64 0, .string ⟨#[]⟩, .string ⟨#[]⟩]) (t := 31) r2_ ?_; intro gr hgr w1 hy hb; have HR := Aside0.mk (show Below w.heap.size w w1 ∧ w1.heap[gr]? = some (.cells #[.int .i64 0, .string ⟨#[]⟩, .string ⟨#[]⟩] 31 (0, 0)) ∧ gr = w.heap.size from ⟨hb, hy, hgr⟩); clear hgr hy hb) | ((with_reducible refine gate_store (t := 31) (p := 4) rfl ?_); refine store_seg (gy := gr) (j := 0) (T := 31) (TB := 31) (cs := #[.int .i64 0, .string ⟨#[]⟩, .string ⟨#[]⟩]) (new := #[.int .i64 0, .string ⟨#[]⟩, .string ⟨#[]⟩]) (u := .agg #[.int .i64 0, .string ⟨#[]⟩, .string ⟨#[]⟩]) (seg := [.int .i64 0, .string ⟨#[]⟩, .string ⟨#[]⟩]) rfl (p := .tmp 4) (x := .tmp 15) rfl rfl r1_ r1_ r1_ HR.out.2.1 k1_ s1_ h1_ rfl ?_; intro w2 hz hup; have HF := Aside0.mk (show Below w.heap.size w w2 ∧ w2.heap[gr]? = some (.cells #[.int .i64 0, .string ⟨#[]⟩, .string ⟨#[]⟩] 31 (0, 0)) from ⟨HR.out.1.trans (hup.below (Nat.le_of_eq HR.out.2.2.symm)), hz⟩); clear hz hup))
  refine bodyPost_ret (results_ctt rfl _ _ gr 31 #[.int .i64 0, .string ⟨#[]⟩, .string ⟨#[]⟩] (0, 0) _ rfl HF.out.2 Tryd.underlying31 rfl k1_) rfl ?_
  exact ⟨rfl, HF.out.1⟩
 rw [if_pos c0_] at h
 obtain ⟨ad, rfl⟩ := some_row hr0 c0_
 obtain ⟨⟨t1, t2, t3, t4⟩, A0, H⟩ := Option.bind_eq_some_iff.mp h
 simp only at H
 have AR := Aside0.mk A0
 have HN0 := Aside0.mk c0_
 have hn0 : (l0.length == 0) = false := beq_eq_false_iff_ne.mpr (by omega)
 have hn1 : decide ((l0.length : Int) = 0) = false := decide_eq_false (by omega)
 have hn2 : (0 < l0.length) = True := eq_true c0_
 have HC := Aside0.mk hc0
 have HH := Aside0.mk H
 clear hr0 hc0 c0_ h A0 H
 by_cases k2 : (rd_T38 l0 0).f0 = 2
 case pos =>
  have H := HH.out
  rw [if_pos k2] at H
  simp only [Option.some.injEq, Prod.mk.injEq] at H
  obtain ⟨rfl, rfl, rfl, rfl, rfl⟩ := H
  have k2b : ((rd_T38 l0 0).f0 == 2) = true := by simpa using k2
  clear k2 HH
  go_enter Tryd.func11, Tryd.ntmps11
  go_wp2_with (first | ((with_reducible refine gate_dst (N := 4) rfl ?_); refine box_event r1_ (N := 4) r1_ (cs := #[.int .i64 0, .string ⟨#[]⟩, .string ⟨#[]⟩]) (t := 31) r2_ ?_; intro gr hgr w1 hy hb; have HR := Aside0.mk (show Below w.heap.size w w1 ∧ w1.heap[gr]? = some (.cells #[.int .i64 0, .string ⟨#[]⟩, .string ⟨#[]⟩] 31 (0, 0)) ∧ gr = w.heap.size from ⟨hb, hy, hgr⟩); clear hgr hy hb; obtain ⟨x0, x1, x2, x3, x4, x5⟩ := rowc0 (Kd.C_below HR0.out HR.out.1) HN0.out) | (go_at_call 22; refine (lex_resource.calls k ((rd_T38 l0 0).f0) ((rd_T38 l0 0).f1) ((rd_T38 l0 0).f2.f0) ((rd_T38 l0 0).f2.f1) ((rd_T38 l0 0).f2.f2) ((rd_T38 l0 0).f3) mv M t1 t2 t3 t4 _ (HM.out.below HR.out.1) AR.out).mono ?_; rintro e w2 ⟨rfl, hb⟩; have HR2 := Aside0.mk (show Below w.heap.size w w2 ∧ w2.heap[gr]? = some (.cells #[.int .i64 0, .string ⟨#[]⟩, .string ⟨#[]⟩] 31 (0, 0)) ∧ gr < w2.heap.size ∧ w.heap.size ≤ gr from ⟨below_step HR.out.1 hb, blk_below HR.out.2.1 hb, blk_lt (blk_below HR.out.2.1 hb), Nat.le_of_eq HR.out.2.2.symm⟩); clear hb HR x0 x1 x2 x3 x4 x5) | ((with_reducible refine gate_dst (N := 7) rfl ?_); refine box_event r1_ (N := 7) r1_ (cs := #[.int .i64 0, .string ⟨#[]⟩, .string ⟨#[]⟩]) (t := 31) r2_ ?_; intro gt hgt w3 hy hb; have HX := Aside0.mk (VX.mk (below_step HR2.out.1 hb) (blk_below HR2.out.2.1 hb) hy HR2.out.2.2.2 (by rw [hgt]; exact HR2.out.1.size) (by rw [hgt]; exact Ne.symm (Nat.ne_of_lt HR2.out.2.2.1))); clear hgt hy hb HR2) | ((with_reducible refine gate_store (t := 31) (p := 7) rfl ?_); refine store_seg (gy := gt) (j := 0) (T := 31) (TB := 31) (cs := #[.int .i64 0, .string ⟨#[]⟩, .string ⟨#[]⟩]) (new := #[.int .i64 t1, .string t2, .string t3]) (u := .agg #[.int .i64 t1, .string t2, .string t3]) (seg := [.int .i64 t1, .string t2, .string t3]) rfl (p := .tmp 7) (x := .tmp 22) rfl rfl r1_ r1_ r1_ HX.out.t k1_ s1_ h1_ rfl ?_; intro w4 hz hup; have HY := Aside0.mk (HX.out.upd hup hz); clear hz hup HX; obtain ⟨y0, y1, y2, y3, y4, y5⟩ := rowc0 (Kd.C_below HR0.out HY.out.below) HN0.out; have tc0 := (blk_cell HY.out.t 0).trans (show _ = some (.int .i64 t1) from rfl); have tc1 := (blk_cell HY.out.t 1).trans (show _ = some (.string t2) from rfl); have tc2 := (blk_cell HY.out.t 2).trans (show _ = some (.string t3) from rfl)) | ((with_reducible refine gate_store (t := 31) (p := 7) rfl ?_); refine store_seg (gy := gt) (j := 0) (T := 31) (TB := 31) (cs := #[.int .i64 t1, .string t2, .string t3]) (new := #[.int .i64 ((rd_T38 l0 0).f2.f0), .string ((rd_T38 l0 0).f2.f1), .string ((rd_T38 l0 0).f2.f2)]) (u := .agg #[.int .i64 ((rd_T38 l0 0).f2.f0), .string ((rd_T38 l0 0).f2.f1), .string ((rd_T38 l0 0).f2.f2)]) (seg := [.int .i64 ((rd_T38 l0 0).f2.f0), .string ((rd_T38 l0 0).f2.f1), .string ((rd_T38 l0 0).f2.f2)]) rfl (p := .tmp 7) (x := .tmp 33) rfl rfl r1_ r1_ r1_ HY.out.t k1_ s1_ h1_ rfl ?_; intro w5 hz hup; have HZ := Aside0.mk (HY.out.upd hup hz); clear hz hup HY tc0 tc1 tc2; have tc0 := (blk_cell HZ.out.t 0).trans (show _ = some (.int .i64 ((rd_T38 l0 0).f2.f0)) from rfl); have tc1 := (blk_cell HZ.out.t 1).trans (show _ = some (.string ((rd_T38 l0 0).f2.f1)) from rfl); have tc2 := (blk_cell HZ.out.t 2).trans (show _ = some (.string ((rd_T38 l0 0).f2.f2)) from rfl)) | ((with_reducible refine gate_store (t := 31) (p := 4) rfl ?_); refine store_seg (gy := gr) (j := 0) (T := 31) (TB := 31) (cs := #[.int .i64 0, .string ⟨#[]⟩, .string ⟨#[]⟩]) (new := #[.int .i64 ((rd_T38 l0 0).f2.f0), .string ((rd_T38 l0 0).f2.f1), .string ((rd_T38 l0 0).f2.f2)]) (u := .agg #[.int .i64 ((rd_T38 l0 0).f2.f0), .string ((rd_T38 l0 0).f2.f1), .string ((rd_T38 l0 0).f2.f2)]) (seg := [.int .i64 ((rd_T38 l0 0).f2.f0), .string ((rd_T38 l0 0).f2.f1), .string ((rd_T38 l0 0).f2.f2)]) rfl (p := .tmp 4) (x := .tmp 94) rfl rfl r1_ r1_ r1_ HZ.out.r k1_ s1_ h1_ rfl ?_; intro wz hz hup; have HF := Aside0.mk (HZ.out.fin hup hz); clear hz hup))
  refine bodyPost_ret (results_ctt rfl _ _ gr 31 #[.int .i64 ((rd_T38 l0 0).f2.f0), .string ((rd_T38 l0 0).f2.f1), .string ((rd_T38 l0 0).f2.f2)] (0, 0) _ rfl HF.out.2 Tryd.underlying31 rfl k1_) rfl ?_
  exact ⟨rfl, HF.out.1⟩
 have k2b : ((rd_T38 l0 0).f0 == 2) = false := by simpa using k2
 by_cases k3 : (rd_T38 l0 0).f0 = 3
 case neg =>
  have H := HH.out
  rw [if_neg k2, if_neg k3] at H
  have k3b : ((rd_T38 l0 0).f0 == 3) = false := by simpa using k3
  clear k2 k3 HH
  cases t4 with
  | true =>
   rw [if_pos rfl] at H
   simp only [Option.some.injEq, Prod.mk.injEq] at H
   obtain ⟨rfl, rfl, rfl, rfl, rfl⟩ := H
   go_enter Tryd.func11, Tryd.ntmps11
   go_wp2_with (first | ((with_reducible refine gate_dst (N := 4) rfl ?_); refine box_event r1_ (N := 4) r1_ (cs := #[.int .i64 0, .string ⟨#[]⟩, .string ⟨#[]⟩]) (t := 31) r2_ ?_; intro gr hgr w1 hy hb; have HR := Aside0.mk (show Below w.heap.size w w1 ∧ w1.heap[gr]? = some (.cells #[.int .i64 0, .string ⟨#[]⟩, .string ⟨#[]⟩] 31 (0, 0)) ∧ gr = w.heap.size from ⟨hb, hy, hgr⟩); clear hgr hy hb; obtain ⟨x0, x1, x2, x3, x4, x5⟩ := rowc0 (Kd.C_below HR0.out HR.out.1) HN0.out) | (go_at_call 22; refine (lex_resource.calls k ((rd_T38 l0 0).f0) ((rd_T38 l0 0).f1) ((rd_T38 l0 0).f2.f0) ((rd_T38 l0 0).f2.f1) ((rd_T38 l0 0).f2.f2) ((rd_T38 l0 0).f3) mv M t1 t2 t3 true _ (HM.out.below HR.out.1) AR.out).mono ?_; rintro e w2 ⟨rfl, hb⟩; have HR2 := Aside0.mk (show Below w.heap.size w w2 ∧ w2.heap[gr]? = some (.cells #[.int .i64 0, .string ⟨#[]⟩, .string ⟨#[]⟩] 31 (0, 0)) ∧ gr < w2.heap.size ∧ w.heap.size ≤ gr from ⟨below_step HR.out.1 hb, blk_below HR.out.2.1 hb, blk_lt (blk_below HR.out.2.1 hb), Nat.le_of_eq HR.out.2.2.symm⟩); clear hb HR x0 x1 x2 x3 x4 x5) | ((with_reducible refine gate_dst (N := 7) rfl ?_); refine box_event r1_ (N := 7) r1_ (cs := #[.int .i64 0, .string ⟨#[]⟩, .string ⟨#[]⟩]) (t := 31) r2_ ?_; intro gt hgt w3 hy hb; have HX := Aside0.mk (VX.mk (below_step HR2.out.1 hb) (blk_below HR2.out.2.1 hb) hy HR2.out.2.2.2 (by rw [hgt]; exact HR2.out.1.size) (by rw [hgt]; exact Ne.symm (Nat.ne_of_lt HR2.out.2.2.1))); clear hgt hy hb HR2) | ((with_reducible refine gate_store (t := 31) (p := 7) rfl ?_); refine store_seg (gy := gt) (j := 0) (T := 31) (TB := 31) (cs := #[.int .i64 0, .string ⟨#[]⟩, .string ⟨#[]⟩]) (new := #[.int .i64 t1, .string t2, .string t3]) (u := .agg #[.int .i64 t1, .string t2, .string t3]) (seg := [.int .i64 t1, .string t2, .string t3]) rfl (p := .tmp 7) (x := .tmp 22) rfl rfl r1_ r1_ r1_ HX.out.t k1_ s1_ h1_ rfl ?_; intro w4 hz hup; have HY := Aside0.mk (HX.out.upd hup hz); clear hz hup HX; obtain ⟨y0, y1, y2, y3, y4, y5⟩ := rowc0 (Kd.C_below HR0.out HY.out.below) HN0.out; have tc0 := (blk_cell HY.out.t 0).trans (show _ = some (.int .i64 t1) from rfl); have tc1 := (blk_cell HY.out.t 1).trans (show _ = some (.string t2) from rfl); have tc2 := (blk_cell HY.out.t 2).trans (show _ = some (.string t3) from rfl)) | ((with_reducible refine gate_store (t := 31) (p := 4) rfl ?_); refine store_seg (gy := gr) (j := 0) (T := 31) (TB := 31) (cs := #[.int .i64 0, .string ⟨#[]⟩, .string ⟨#[]⟩]) (new := #[.int .i64 t1, .string t2, .string t3]) (u := .agg #[.int .i64 t1, .string t2, .string t3]) (seg := [.int .i64 t1, .string t2, .string t3]) rfl (p := .tmp 4) (x := .tmp 94) rfl rfl r1_ r1_ r1_ HY.out.r k1_ s1_ h1_ rfl ?_; intro wz hz hup; have HF := Aside0.mk (HY.out.fin hup hz); clear hz hup))
   refine bodyPost_ret (results_ctt rfl _ _ gr 31 #[.int .i64 t1, .string t2, .string t3] (0, 0) _ rfl HF.out.2 Tryd.underlying31 rfl k1_) rfl ?_
   exact ⟨rfl, HF.out.1⟩
  | false =>
   rw [if_neg (by decide)] at H
   simp only [Option.some.injEq, Prod.mk.injEq] at H
   obtain ⟨rfl, rfl, rfl, rfl, rfl⟩ := H
   go_enter Tryd.func11, Tryd.ntmps11
   go_wp2_with (first | ((with_reducible refine gate_dst (N := 4) rfl ?_); refine box_event r1_ (N := 4) r1_ (cs := #[.int .i64 0, .string ⟨#[]⟩, .string ⟨#[]⟩]) (t := 31) r2_ ?_; intro gr hgr w1 hy hb; have HR := Aside0.mk (show Below w.heap.size w w1 ∧ w1.heap[gr]? = some (.cells #[.int .i64 0, .string ⟨#[]⟩, .string ⟨#[]⟩] 31 (0, 0)) ∧ gr = w.heap.size from ⟨hb, hy, hgr⟩); clear hgr hy hb; obtain ⟨x0, x1, x2, x3, x4, x5⟩ := rowc0 (Kd.C_below HR0.out HR.out.1) HN0.out) | (go_at_call 22; refine (lex_resource.calls k ((rd_T38 l0 0).f0) ((rd_T38 l0 0).f1) ((rd_T38 l0 0).f2.f0) ((rd_T38 l0 0).f2.f1) ((rd_T38 l0 0).f2.f2) ((rd_T38 l0 0).f3) mv M t1 t2 t3 false _ (HM.out.below HR.out.1) AR.out).mono ?_; rintro e w2 ⟨rfl, hb⟩; have HR2 := Aside0.mk (show Below w.heap.size w w2 ∧ w2.heap[gr]? = some (.cells #[.int .i64 0, .string ⟨#[]⟩, .string ⟨#[]⟩] 31 (0, 0)) ∧ gr < w2.heap.size ∧ w.heap.size ≤ gr from ⟨below_step HR.out.1 hb, blk_below HR.out.2.1 hb, blk_lt (blk_below HR.out.2.1 hb), Nat.le_of_eq HR.out.2.2.symm⟩); clear hb HR x0 x1 x2 x3 x4 x5) | ((with_reducible refine gate_dst (N := 7) rfl ?_); refine box_event r1_ (N := 7) r1_ (cs := #[.int .i64 0, .string ⟨#[]⟩, .string ⟨#[]⟩]) (t := 31) r2_ ?_; intro gt hgt w3 hy hb; have HX := Aside0.mk (VX.mk (below_step HR2.out.1 hb) (blk_below HR2.out.2.1 hb) hy HR2.out.2.2.2 (by rw [hgt]; exact HR2.out.1.size) (by rw [hgt]; exact Ne.symm (Nat.ne_of_lt HR2.out.2.2.1))); clear hgt hy hb HR2) | ((with_reducible refine gate_store (t := 31) (p := 7) rfl ?_); refine store_seg (gy := gt) (j := 0) (T := 31) (TB := 31) (cs := #[.int .i64 0, .string ⟨#[]⟩, .string ⟨#[]⟩]) (new := #[.int .i64 t1, .string t2, .string t3]) (u := .agg #[.int .i64 t1, .string t2, .string t3]) (seg := [.int .i64 t1, .string t2, .string t3]) rfl (p := .tmp 7) (x := .tmp 22) rfl rfl r1_ r1_ r1_ HX.out.t k1_ s1_ h1_ rfl ?_; intro w4 hz hup; have HY := Aside0.mk (HX.out.upd hup hz); clear hz hup HX; obtain ⟨y0, y1, y2, y3, y4, y5⟩ := rowc0 (Kd.C_below HR0.out HY.out.below) HN0.out; have tc0 := (blk_cell HY.out.t 0).trans (show _ = some (.int .i64 t1) from rfl); have tc1 := (blk_cell HY.out.t 1).trans (show _ = some (.string t2) from rfl); have tc2 := (blk_cell HY.out.t 2).trans (show _ = some (.string t3) from rfl)) | ((with_reducible refine gate_store (t := 31) (p := 4) rfl ?_); refine store_seg (gy := gr) (j := 0) (T := 31) (TB := 31) (cs := #[.int .i64 0, .string ⟨#[]⟩, .string ⟨#[]⟩]) (new := #[.int .i64 0, .string ⟨#[]⟩, .string ⟨#[]⟩]) (u := .agg #[.int .i64 0, .string ⟨#[]⟩, .string ⟨#[]⟩]) (seg := [.int .i64 0, .string ⟨#[]⟩, .string ⟨#[]⟩]) rfl (p := .tmp 4) (x := .tmp 93) rfl rfl r1_ r1_ r1_ HY.out.r k1_ s1_ h1_ rfl ?_; intro wz hz hup; have HF := Aside0.mk (HY.out.fin hup hz); clear hz hup))
   refine bodyPost_ret (results_ctt rfl _ _ gr 31 #[.int .i64 0, .string ⟨#[]⟩, .string ⟨#[]⟩] (0, 0) _ rfl HF.out.2 Tryd.underlying31 rfl k1_) rfl ?_
   exact ⟨rfl, HF.out.1⟩
 have k3b : ((rd_T38 l0 0).f0 == 3) = true := by simpa using k3
 have H := HH.out
 clear HH
 rw [if_neg k2, if_pos k3] at H
 clear k2 k3
 obtain ⟨⟨K2, X2, n2⟩, A0, H⟩ := Option.bind_eq_some_iff.mp H
 have HBB := Aside0.mk A0
 simp only at H
 obtain ⟨m, A0, H⟩ := Option.bind_eq_some_iff.mp H
 have HMM := Aside0.mk A0
 have HFIN := Aside0.mk H
 clear A0 H
 go_enter Tryd.func11, Tryd.ntmps11
 go_upto_region 10 with (first | ((with_reducible refine gate_dst (N := 4) rfl ?_); refine box_event r1_ (N := 4) r1_ (cs := #[.int .i64 0, .string ⟨#[]⟩, .string ⟨#[]⟩]) (t := 31) r2_ ?_; intro gr hgr w1 hy hb; have HR := Aside0.mk (show Below w.heap.size w w1 ∧ w1.heap[gr]? = some (.cells #[.int .i64 0, .string ⟨#[]⟩, .string ⟨#[]⟩] 31 (0, 0)) ∧ gr = w.heap.size from ⟨hb, hy, hgr⟩); clear hgr hy hb; obtain ⟨x0, x1, x2, x3, x4, x5⟩ := rowc0 (Kd.C_below HR0.out HR.out.1) HN0.out) | (go_at_call 22; refine (lex_resource.calls k ((rd_T38 l0 0).f0) ((rd_T38 l0 0).f1) ((rd_T38 l0 0).f2.f0) ((rd_T38 l0 0).f2.f1) ((rd_T38 l0 0).f2.f2) ((rd_T38 l0 0).f3) mv M t1 t2 t3 t4 _ (HM.out.below HR.out.1) AR.out).mono ?_; rintro e w2 ⟨rfl, hb⟩; have HR2 := Aside0.mk (show Below w.heap.size w w2 ∧ w2.heap[gr]? = some (.cells #[.int .i64 0, .string ⟨#[]⟩, .string ⟨#[]⟩] 31 (0, 0)) ∧ gr < w2.heap.size ∧ w.heap.size ≤ gr from ⟨below_step HR.out.1 hb, blk_below HR.out.2.1 hb, blk_lt (blk_below HR.out.2.1 hb), Nat.le_of_eq HR.out.2.2.symm⟩); clear hb HR x0 x1 x2 x3 x4 x5) | ((with_reducible refine gate_dst (N := 7) rfl ?_); refine box_event r1_ (N := 7) r1_ (cs := #[.int .i64 0, .string ⟨#[]⟩, .string ⟨#[]⟩]) (t := 31) r2_ ?_; intro gt hgt w3 hy hb; have HX := Aside0.mk (VX.mk (below_step HR2.out.1 hb) (blk_below HR2.out.2.1 hb) hy HR2.out.2.2.2 (by rw [hgt]; exact HR2.out.1.size) (by rw [hgt]; exact Ne.symm (Nat.ne_of_lt HR2.out.2.2.1))); clear hgt hy hb HR2) | ((with_reducible refine gate_store (t := 31) (p := 7) rfl ?_); refine store_seg (gy := gt) (j := 0) (T := 31) (TB := 31) (cs := #[.int .i64 0, .string ⟨#[]⟩, .string ⟨#[]⟩]) (new := #[.int .i64 t1, .string t2, .string t3]) (u := .agg #[.int .i64 t1, .string t2, .string t3]) (seg := [.int .i64 t1, .string t2, .string t3]) rfl (p := .tmp 7) (x := .tmp 22) rfl rfl r1_ r1_ r1_ HX.out.t k1_ s1_ h1_ rfl ?_; intro w4 hz hup; have HY := Aside0.mk (HX.out.upd hup hz); clear hz hup HX; obtain ⟨y0, y1, y2, y3, y4, y5⟩ := rowc0 (Kd.C_below HR0.out HY.out.below) HN0.out; have tc0 := (blk_cell HY.out.t 0).trans (show _ = some (.int .i64 t1) from rfl); have tc1 := (blk_cell HY.out.t 1).trans (show _ = some (.string t2) from rfl); have tc2 := (blk_cell HY.out.t 2).trans (show _ = some (.string t3) from rfl)) | ((with_reducible refine gate_store (t := 31) (p := 7) rfl ?_); refine store_seg (gy := gt) (j := 0) (T := 31) (TB := 31) (cs := #[.int .i64 t1, .string t2, .string t3]) (new := #[.int .i64 3, .string ((rd_T38 l0 0).f1), .string ⟨#[]⟩]) (u := .agg #[.int .i64 3, .string ((rd_T38 l0 0).f1), .string ⟨#[]⟩]) (seg := [.int .i64 3, .string ((rd_T38 l0 0).f1), .string ⟨#[]⟩]) rfl (p := .tmp 7) (x := .tmp 40) rfl rfl r1_ r1_ r1_ HY.out.t k1_ s1_ h1_ rfl ?_; intro w5 hz hup; have HZ := Aside0.mk (HY.out.upd hup hz); clear hz hup HY tc0 tc1 tc2 y0 y1 y2 y3 y4 y5))
 go_cut [50] (fun v50 wc => ∃ z : Bool, v50 = .bool z ∧ Aside0 (z = (decide (1 < l0.length) && ((rd_T38 l0 1).f0 == 4))) ∧ Aside0 (VX w wc gr gt #[.int .i64 3, .string ((rd_T38 l0 0).f1), .string ⟨#[]⟩]))
 case first =>
  by_cases n1_ : 1 < l0.length
  ·have HN1 := Aside0.mk n1_
   have n1b : decide (1 < l0.length) = true := decide_eq_true n1_
   have n1c : decide ((l0.length : Int) > 1) = true := decide_eq_true (by omega)
   have n1d : (1 < l0.length) = True := eq_true n1_
   have n1e : ((1 : Int) < (l0.length : Int)) = True := eq_true (by omega)
   clear n1_
   obtain ⟨z0, z1, z2, z3, z4, z5⟩ := rowk (Kd.C_below HR0.out HZ.out.below) 1 HN1.out (by decide) 1 rfl 6 rfl
   simp only [Nat.reduceAdd] at z0 z1 z2 z3 z4 z5
   go_wp2
   go_meet
   case rel => exact ⟨_, rfl, ⟨by rw [n1b]; rfl⟩, HZ⟩
  
  have n1b : decide (1 < l0.length) = false := decide_eq_false n1_
  have n1c : decide ((l0.length : Int) > 1) = false := decide_eq_false (by omega)
  clear n1_
  go_wp2
  go_meet
  case rel => exact ⟨_, rfl, ⟨by rw [n1b]; rfl⟩, HZ⟩
 case rest =>
  clear HZ
  obtain ⟨z, rfl, Hz, HZ⟩ := hcut
  go_upto_if 50 with (fail)
  go_cut [9] (fun v9 wc => ∃ (K : Int) (X : ByteArray) (n : Int), v9 = .int .i64 n ∧ Aside0 (lex_Read.A l0 = (K, X, n)) ∧ Aside0 (VX w wc gr gt #[.int .i64 K, .string ((rd_T38 l0 0).f1), .string X]))
  case first =>
   cases z with
   | true =>
    have hz2 := Hz.out.symm
    rw [Bool.and_eq_true] at hz2
    have n1_ : 1 < l0.length := of_decide_eq_true hz2.1
    have f4_ : (rd_T38 l0 1).f0 = 4 := by simpa using hz2.2
    have HA := Aside0.mk (show lex_Read.A l0 = (4, (rd_T38 l0 1).f1, 2) from if_pos ⟨n1_, f4_⟩)
    have HN1 := Aside0.mk n1_
    have n1b : decide (1 < l0.length) = true := decide_eq_true n1_
    have n1c : decide ((l0.length : Int) > 1) = true := decide_eq_true (by omega)
    have n1d : (1 < l0.length) = True := eq_true n1_
    have n1e : ((1 : Int) < (l0.length : Int)) = True := eq_true (by omega)
    clear n1_ f4_ hz2 Hz
    obtain ⟨z0, z1, z2, z3, z4, z5⟩ := rowk (Kd.C_below HR0.out HZ.out.below) 1 HN1.out (by decide) 1 rfl 6 rfl
    simp only [Nat.reduceAdd] at z0 z1 z2 z3 z4 z5
    have tc0 := (blk_cell HZ.out.t 0).trans (show _ = some (.int .i64 3) from rfl)
    have tc1 := (blk_cell HZ.out.t 1).trans (show _ = some (.string ((rd_T38 l0 0).f1)) from rfl)
    have tc2 := (blk_cell HZ.out.t 2).trans (show _ = some (.string ⟨#[]⟩) from rfl)
    have tf := fun i => blk_frozen HZ.out.t i
    go_wp2
    go_region
    all_goals (go_wp2; go_meet; (case rel => exact ⟨4, _, 2, rfl, HA, ⟨((HZ.out.drew.put 0 _ rfl).put 2 _ rfl)⟩⟩))
   | false =>
    have HA := Aside0.mk (show lex_Read.A l0 = (3, (⟨#[]⟩ : ByteArray), 1) from if_neg (fun hc => by have e := Hz.out; simp [hc.1, hc.2] at e))
    clear Hz
    go_wp2
    go_meet
    case rel => exact ⟨3, _, 1, rfl, HA, HZ⟩
  case rest =>
   clear HZ Hz
   obtain ⟨K, X, n, rfl, HA, HZ⟩ := hcut
   have hb := HBB.out
   rw [HA.out] at hb
   unfold lex_Read.B at hb
   have HB2 := Aside0.mk hb
   clear hb HA HBB
   go_upto_region 12 with (fail)
   go_cut [65] (fun v65 wc => ∃ z : Bool, v65 = .bool z ∧ Aside0 (if z = true then 2 < l0.length ∧ ∃ u, lex_resource.f k ((rd_T38 l0 2).f0) ((rd_T38 l0 2).f1) ((rd_T38 l0 2).f2.f0) ((rd_T38 l0 2).f2.f1) ((rd_T38 l0 2).f2.f2) ((rd_T38 l0 2).f3) M = some u ∧ (if u.2.2.2 = true then (5, u.2.1, 3) else (K, X, n)) = (K2, X2, n2) else (K, X, n) = (K2, X2, n2)) ∧ Aside0 (VX w wc gr gt #[.int .i64 K, .string ((rd_T38 l0 0).f1), .string X]))
   case first =>
    have hb := HB2.out
    clear HB2
    by_cases n2_ : 2 < l0.length
    ·rw [if_pos n2_] at hb
     obtain ⟨z, A0, hb⟩ := Option.bind_eq_some_iff.mp hb
     have HK := Aside0.mk A0
     clear A0
     have HN1 := Aside0.mk (show 1 < l0.length by omega)
     have HN2 := Aside0.mk n2_
     have HU := Aside0.mk (show (if z = true then 2 < l0.length ∧ ∃ u, lex_resource.f k ((rd_T38 l0 2).f0) ((rd_T38 l0 2).f1) ((rd_T38 l0 2).f2.f0) ((rd_T38 l0 2).f2.f1) ((rd_T38 l0 2).f2.f2) ((rd_T38 l0 2).f3) M = some u ∧ (if u.2.2.2 = true then (5, u.2.1, 3) else (K, X, n)) = (K2, X2, n2) else (K, X, n) = (K2, X2, n2)) from by
      cases z with
      | true => rw [if_pos rfl] at hb; obtain ⟨u, a, b⟩ := Option.bind_eq_some_iff.mp hb; rw [if_pos rfl]; exact ⟨n2_, u, a, Option.some.inj b⟩
      | false => rw [if_neg (by decide)] at hb; rw [if_neg (by decide)]; exact Option.some.inj hb)
     clear hb
     have n2b : decide (2 < l0.length) = true := decide_eq_true n2_
     have n2c : decide ((l0.length : Int) > 2) = true := decide_eq_true (by omega)
     have n2d : (2 < l0.length) = True := eq_true n2_
     have n2e : ((2 : Int) < (l0.length : Int)) = True := eq_true (by omega)
     have n1d : (1 < l0.length) = True := eq_true HN1.out
     have n1e : ((1 : Int) < (l0.length : Int)) = True := eq_true (by have := HN1.out; omega)
     clear n2_
     obtain ⟨z0, z1, z2, z3, z4, z5⟩ := rowk (Kd.C_below HR0.out HZ.out.below) 1 HN1.out (by decide) 1 rfl 6 rfl
     simp only [Nat.reduceAdd] at z0 z1 z2 z3 z4 z5
     go_wp2_with (first | (go_at_call 15; refine (lex_Mark.calls ((rd_T38 l0 1).f0) ((rd_T38 l0 1).f1) ((rd_T38 l0 1).f2.f0) ((rd_T38 l0 1).f2.f1) ((rd_T38 l0 1).f2.f2) ((rd_T38 l0 1).f3) (⟨#[94, 94]⟩ : ByteArray) z _ HK.out).mono ?_; rintro e w6 ⟨rfl, hb⟩; have HZ1 := Aside0.mk (HZ.out.lower hb); clear hb))
     go_meet
     case rel => exact ⟨_, rfl, HU, HZ1⟩
    rw [if_neg n2_] at hb
    have HU := Aside0.mk (Option.some.inj hb)
    clear hb
    have n2b : decide (2 < l0.length) = false := decide_eq_false n2_
    have n2c : decide ((l0.length : Int) > 2) = false := decide_eq_false (by omega)
    clear n2_
    go_wp2
    go_meet
    case rel => exact ⟨false, rfl, ⟨by rw [if_neg (by decide)]; exact HU.out⟩, HZ⟩
   case rest =>
    clear HZ HB2
    obtain ⟨z, rfl, HU, HZ⟩ := hcut
    go_upto_if 65 with (fail)
    go_cut [9] (fun v9 wc => v9 = .int .i64 n2 ∧ Aside0 (VX w wc gr gt #[.int .i64 K2, .string ((rd_T38 l0 0).f1), .string X2]))
    case first =>
     have hu := HU.out
     clear HU
     cases z with
     | false =>
      rw [if_neg (by decide)] at hu
      simp only [Prod.mk.injEq] at hu
      obtain ⟨rfl, rfl, rfl⟩ := hu
      go_wp2
      go_meet
      case rel => exact ⟨rfl, HZ⟩
     | true =>
      rw [if_pos rfl] at hu
      obtain ⟨n2_, ⟨u1, u2, u3, u4⟩, hu, he⟩ := hu
      have HRR := Aside0.mk hu
      have HN2 := Aside0.mk n2_
      clear hu
      have n2b : decide (2 < l0.length) = true := decide_eq_true n2_
      have n2c : decide ((l0.length : Int) > 2) = true := decide_eq_true (by omega)
      have n2d : (2 < l0.length) = True := eq_true n2_
      have n2e : ((2 : Int) < (l0.length : Int)) = True := eq_true (by omega)
      clear n2_
      obtain ⟨z0, z1, z2, z3, z4, z5⟩ := rowk (Kd.C_below HR0.out HZ.out.below) 2 HN2.out (by decide) 2 rfl 12 rfl
      simp only [Nat.reduceAdd] at z0 z1 z2 z3 z4 z5
      simp only at he
      cases u4 with
      | false =>
       rw [if_neg (by decide)] at he
       simp only [Prod.mk.injEq] at he
       obtain ⟨rfl, rfl, rfl⟩ := he
       go_wp2_with (first | (go_at_call 22; refine (lex_resource.calls k ((rd_T38 l0 2).f0) ((rd_T38 l0 2).f1) ((rd_T38 l0 2).f2.f0) ((rd_T38 l0 2).f2.f1) ((rd_T38 l0 2).f2.f2) ((rd_T38 l0 2).f3) mv M u1 u2 u3 false _ (HM.out.below HZ.out.below) HRR.out).mono ?_; rintro e w6 ⟨rfl, hb⟩; have HZ1 := Aside0.mk (HZ.out.lower hb); clear hb HZ z0 z1 z2 z3 z4 z5) | ((with_reducible refine gate_dst (N := 10) rfl ?_); refine box_event r1_ (N := 10) r1_ (cs := #[.int .i64 0, .string ⟨#[]⟩, .string ⟨#[]⟩]) (t := 31) r2_ ?_; intro gu hgu w7 hu hb; have HW7 := Aside0.mk (show Below w6.heap.size w6 w7 ∧ gu = w6.heap.size ∧ w7.heap[gu]? = some (.cells #[.int .i64 0, .string ⟨#[]⟩, .string ⟨#[]⟩] 31 (0, 0)) from ⟨hb, hgu, hu⟩); clear hgu hu hb) | ((with_reducible refine gate_store (t := 31) (p := 10) rfl ?_); refine store_seg (gy := gu) (j := 0) (T := 31) (TB := 31) (cs := #[.int .i64 0, .string ⟨#[]⟩, .string ⟨#[]⟩]) (new := #[.int .i64 u1, .string u2, .string u3]) (u := .agg #[.int .i64 u1, .string u2, .string u3]) (seg := [.int .i64 u1, .string u2, .string u3]) rfl (p := .tmp 10) (x := .tmp 72) rfl rfl r1_ r1_ r1_ HW7.out.2.2 k1_ s1_ h1_ rfl ?_; intro w8 hz hup; have HZ2 := Aside0.mk (HZ1.out.lower (HW7.out.1.trans (hup.below (Nat.le_of_eq HW7.out.2.1.symm)))); have hu1 := (blk_cell hz 1).trans (show _ = some (.string u2) from rfl); have hng := Aside0.mk (show gu ≠ gt by rw [HW7.out.2.1]; exact Ne.symm (Nat.ne_of_lt (blk_lt HZ1.out.t))); clear hz hup HW7 HZ1))
       go_meet
       case rel => exact ⟨rfl, HZ2⟩
      | true =>
       rw [if_pos rfl] at he
       simp only [Prod.mk.injEq] at he
       obtain ⟨rfl, rfl, rfl⟩ := he
       go_wp2_with (first | (go_at_call 22; refine (lex_resource.calls k ((rd_T38 l0 2).f0) ((rd_T38 l0 2).f1) ((rd_T38 l0 2).f2.f0) ((rd_T38 l0 2).f2.f1) ((rd_T38 l0 2).f2.f2) ((rd_T38 l0 2).f3) mv M u1 u2 u3 true _ (HM.out.below HZ.out.below) HRR.out).mono ?_; rintro e w6 ⟨rfl, hb⟩; have HZ1 := Aside0.mk (HZ.out.lower hb); clear hb HZ z0 z1 z2 z3 z4 z5) | ((with_reducible refine gate_dst (N := 10) rfl ?_); refine box_event r1_ (N := 10) r1_ (cs := #[.int .i64 0, .string ⟨#[]⟩, .string ⟨#[]⟩]) (t := 31) r2_ ?_; intro gu hgu w7 hu hb; have HW7 := Aside0.mk (show Below w6.heap.size w6 w7 ∧ gu = w6.heap.size ∧ w7.heap[gu]? = some (.cells #[.int .i64 0, .string ⟨#[]⟩, .string ⟨#[]⟩] 31 (0, 0)) from ⟨hb, hgu, hu⟩); clear hgu hu hb) | ((with_reducible refine gate_store (t := 31) (p := 10) rfl ?_); refine store_seg (gy := gu) (j := 0) (T := 31) (TB := 31) (cs := #[.int .i64 0, .string ⟨#[]⟩, .string ⟨#[]⟩]) (new := #[.int .i64 u1, .string u2, .string u3]) (u := .agg #[.int .i64 u1, .string u2, .string u3]) (seg := [.int .i64 u1, .string u2, .string u3]) rfl (p := .tmp 10) (x := .tmp 72) rfl rfl r1_ r1_ r1_ HW7.out.2.2 k1_ s1_ h1_ rfl ?_; intro w8 hz hup; have HZ2 := Aside0.mk (HZ1.out.lower (HW7.out.1.trans (hup.below (Nat.le_of_eq HW7.out.2.1.symm)))); have hu1 := (blk_cell hz 1).trans (show _ = some (.string u2) from rfl); have hng := Aside0.mk (show gu ≠ gt by rw [HW7.out.2.1]; exact Ne.symm (Nat.ne_of_lt (blk_lt HZ1.out.t))); clear hz hup HW7 HZ1))
       have tc0 := (blk_cell HZ2.out.t 0).trans (show _ = some (.int .i64 K) from rfl)
       have tc1 := (blk_cell HZ2.out.t 1).trans (show _ = some (.string ((rd_T38 l0 0).f1)) from rfl)
       have tc2 := (blk_cell HZ2.out.t 2).trans (show _ = some (.string X) from rfl)
       have tf := fun i => blk_frozen HZ2.out.t i
       have hng1 := hng.out
       have hng2 := Ne.symm hng.out
       go_region
       all_goals (go_wp2; go_meet; (case rel => exact ⟨rfl, ⟨((HZ2.out.drew.put 0 _ rfl).put 2 _ rfl)⟩⟩))
    case rest =>
     clear HZ HU
     obtain ⟨rfl, HZ⟩ := hcut
     go_upto_region 16 with (fail)
     go_cut [86] (fun v86 wc => ∃ z : Bool, v86 = .bool z ∧ Aside0 (if z = true then lex_Read.C (K2, X2, n2) = (3, (⟨#[]⟩ : ByteArray)) else lex_Read.C (K2, X2, n2) = (K2, X2)) ∧ Aside0 (VX w wc gr gt #[.int .i64 K2, .string ((rd_T38 l0 0).f1), .string X2]))
     case first =>
      have tc0 := (blk_cell HZ.out.t 0).trans (show _ = some (.int .i64 K2) from rfl)
      have tc1 := (blk_cell HZ.out.t 1).trans (show _ = some (.string ((rd_T38 l0 0).f1)) from rfl)
      have tc2 := (blk_cell HZ.out.t 2).trans (show _ = some (.string X2) from rfl)
      by_cases ex : X2.toList = ([104, 116, 116, 112, 58, 47, 47, 119, 119, 119, 46, 119, 51, 46, 111, 114, 103, 47, 50, 48, 48, 49, 47, 88, 77, 76, 83, 99, 104, 101, 109, 97, 35, 115, 116, 114, 105, 110, 103] : List UInt8)
      ·have ex1 : (X2.toList == ([104, 116, 116, 112, 58, 47, 47, 119, 119, 119, 46, 119, 51, 46, 111, 114, 103, 47, 50, 48, 48, 49, 47, 88, 77, 76, 83, 99, 104, 101, 109, 97, 35, 115, 116, 114, 105, 110, 103] : List UInt8)) = true := by simpa using ex
       have HQ := Aside0.mk (show (if (K2 == 5) = true then lex_Read.C (K2, X2, n2) = (3, (⟨#[]⟩ : ByteArray)) else lex_Read.C (K2, X2, n2) = (K2, X2)) from by
        by_cases e5 : K2 = 5
        ·rw [if_pos (by simpa using e5)]; exact if_pos ⟨ex, e5⟩
        rw [if_neg (by simpa using e5)]; exact if_neg (fun hc => e5 hc.2))
       go_wp2
       go_meet
       case rel => exact ⟨_, rfl, HQ, HZ⟩
      have ex1 : (X2.toList == ([104, 116, 116, 112, 58, 47, 47, 119, 119, 119, 46, 119, 51, 46, 111, 114, 103, 47, 50, 48, 48, 49, 47, 88, 77, 76, 83, 99, 104, 101, 109, 97, 35, 115, 116, 114, 105, 110, 103] : List UInt8)) = false := by simpa using ex
      have HQ := Aside0.mk (show lex_Read.C (K2, X2, n2) = (K2, X2) from if_neg (fun hc => ex hc.1))
      go_wp2
      go_meet
      case rel => exact ⟨false, rfl, ⟨by rw [if_neg (by decide)]; exact HQ.out⟩, HZ⟩
     case rest =>
      clear HZ
      obtain ⟨z, rfl, HQ, HZ⟩ := hcut
      obtain ⟨⟨K3, X3⟩, hC⟩ : ∃ p, p = lex_Read.C (K2, X2, n2) := ⟨_, rfl⟩
      rw [← hC] at HMM HFIN
      have HC3 := Aside0.mk hC
      clear hC
      go_upto_if 86 with (fail)
      go_cut [] (fun wc => Aside0 (VX w wc gr gt #[.int .i64 K3, .string ((rd_T38 l0 0).f1), .string X3]))
      case first =>
       have tc0 := (blk_cell HZ.out.t 0).trans (show _ = some (.int .i64 K2) from rfl)
       have tc1 := (blk_cell HZ.out.t 1).trans (show _ = some (.string ((rd_T38 l0 0).f1)) from rfl)
       have tc2 := (blk_cell HZ.out.t 2).trans (show _ = some (.string X2) from rfl)
       have tf := fun i => blk_frozen HZ.out.t i
       have hq := HQ.out
       have hc := HC3.out
       cases z with
       | true =>
        rw [if_pos rfl] at hq
        rw [hq] at hc
        simp only [Prod.mk.injEq] at hc
        obtain ⟨rfl, rfl⟩ := hc
        clear hq HQ
        go_wp2
        go_meet
        case rel => exact ⟨((HZ.out.put 0 _ rfl).put 2 _ rfl)⟩
       | false =>
        rw [if_neg (by decide)] at hq
        rw [hq] at hc
        simp only [Prod.mk.injEq] at hc
        obtain ⟨rfl, rfl⟩ := hc
        clear hq HQ
        go_wp2
        go_meet
        case rel => exact HZ
      case rest =>
       clear HZ HC3 HQ
       have HZ := hcut
       clear hcut
       have tc0 := (blk_cell HZ.out.t 0).trans (show _ = some (.int .i64 K3) from rfl)
       have tc1 := (blk_cell HZ.out.t 1).trans (show _ = some (.string ((rd_T38 l0 0).f1)) from rfl)
       have tc2 := (blk_cell HZ.out.t 2).trans (show _ = some (.string X3) from rfl)
       have H := HFIN.out
       simp only at H
       cases m with
       | true =>
        rw [if_pos rfl] at H
        simp only [Option.some.injEq, Prod.mk.injEq] at H
        obtain ⟨rfl, rfl, rfl, rfl, rfl⟩ := H
        go_wp2_with (first | (go_at_call 23; refine (term_May.calls k K3 ((rd_T38 l0 0).f1) X3 true _ HMM.out).mono ?_; rintro e w9 ⟨rfl, hb⟩; have HZ9 := Aside0.mk (HZ.out.lower hb); clear hb tc0 tc1 tc2 HZ; have te0 := (blk_cell HZ9.out.t 0).trans (show _ = some (.int .i64 K3) from rfl); have te1 := (blk_cell HZ9.out.t 1).trans (show _ = some (.string ((rd_T38 l0 0).f1)) from rfl); have te2 := (blk_cell HZ9.out.t 2).trans (show _ = some (.string X3) from rfl)) | ((with_reducible refine gate_store (t := 31) (p := 4) rfl ?_); refine store_seg (gy := gr) (j := 0) (T := 31) (TB := 31) (cs := #[.int .i64 0, .string ⟨#[]⟩, .string ⟨#[]⟩]) (new := #[.int .i64 K3, .string ((rd_T38 l0 0).f1), .string X3]) (u := .agg #[.int .i64 K3, .string ((rd_T38 l0 0).f1), .string X3]) (seg := [.int .i64 K3, .string ((rd_T38 l0 0).f1), .string X3]) rfl (p := .tmp 4) (x := .tmp 94) rfl rfl r1_ r1_ r1_ HZ9.out.r k1_ s1_ h1_ rfl ?_; intro wz hz hup; have HF := Aside0.mk (HZ9.out.fin hup hz); clear hz hup))
        refine bodyPost_ret (results_ctt rfl _ _ gr 31 #[.int .i64 K3, .string ((rd_T38 l0 0).f1), .string X3] (0, 0) _ rfl HF.out.2 Tryd.underlying31 rfl k1_) rfl ?_
        exact ⟨rfl, HF.out.1⟩
       | false =>
        rw [if_neg (by decide)] at H
        simp only [Option.some.injEq, Prod.mk.injEq] at H
        obtain ⟨rfl, rfl, rfl, rfl, rfl⟩ := H
        go_wp2_with (first | (go_at_call 23; refine (term_May.calls k K3 ((rd_T38 l0 0).f1) X3 false _ HMM.out).mono ?_; rintro e w9 ⟨rfl, hb⟩; have HZ9 := Aside0.mk (HZ.out.lower hb); clear hb tc0 tc1 tc2 HZ; have te0 := (blk_cell HZ9.out.t 0).trans (show _ = some (.int .i64 K3) from rfl); have te1 := (blk_cell HZ9.out.t 1).trans (show _ = some (.string ((rd_T38 l0 0).f1)) from rfl); have te2 := (blk_cell HZ9.out.t 2).trans (show _ = some (.string X3) from rfl)) | ((with_reducible refine gate_store (t := 31) (p := 4) rfl ?_); refine store_seg (gy := gr) (j := 0) (T := 31) (TB := 31) (cs := #[.int .i64 0, .string ⟨#[]⟩, .string ⟨#[]⟩]) (new := #[.int .i64 0, .string ⟨#[]⟩, .string ⟨#[]⟩]) (u := .agg #[.int .i64 0, .string ⟨#[]⟩, .string ⟨#[]⟩]) (seg := [.int .i64 0, .string ⟨#[]⟩, .string ⟨#[]⟩]) rfl (p := .tmp 4) (x := .tmp 93) rfl rfl r1_ r1_ r1_ HZ9.out.r k1_ s1_ h1_ rfl ?_; intro wz hz hup; have HF := Aside0.mk (HZ9.out.fin hup hz); clear hz hup))
        refine bodyPost_ret (results_ctt rfl _ _ gr 31 #[.int .i64 0, .string ⟨#[]⟩, .string ⟨#[]⟩] (0, 0) _ rfl HF.out.2 Tryd.underlying31 rfl k1_) rfl ?_
        exact ⟨rfl, HF.out.1⟩
def lex_Read.f (k : Nat) (l0 : List S38) (a1 : Option Int) : Option (Int × ByteArray × ByteArray × Int × Int) := if a1 = none then lex_Read.fm k l0 [] else none
theorem lex_Read.calls (k : Nat) (A0 : Option Addr) (c0 : Nat) (l0 : List (S38)) (a1 : Option Int) (r1 : Int) (r2 : ByteArray) (r3 : ByteArray) (r4 : Int) (r5 : Int) (w : World) (hr0 : Kd.C k38 w A0 l0.length l0) (hc0 : l0.length ≤ c0) (h : lex_Read.f k l0 a1 = some (r1, r2, r3, r4, r5)) :
  Calls Tryd.prog 11 #[.slice A0 l0.length c0, .map none] w fun e w' => e = .returned (.tuple #[.agg #[.int .i64 r1, .string r2, .string r3], .int .i64 r4, .int .i64 r5]) ∧ Below w.heap.size w w' := by
 unfold lex_Read.f at h
 by_cases c : a1 = none
 ·rw [if_pos c] at h
  exact lex_Read.callsm k A0 c0 l0 (.map none) [] r1 r2 r3 r4 r5 w hr0 hc0 (MapSS.nil w) h
 rw [if_neg c] at h
 cases h
def rhizomelaw04_same.l0 : Nat → List (S38) → List (S38) → Int → Option (Bool)
 | 0, _, _, _ => none
 | k + 1, x0, x1, x5 => if x5 < (x0.length : Int) then (if 0 ≤ x5 then (if x5 < (x1.length : Int) then (if (!(((rd_T38 x0 x5).f0) == ((rd_T38 x1 x5).f0)) || (!((((rd_T38 x0 x5).f1).toList) == (((rd_T38 x1 x5).f1).toList)) || ((!(((rd_T38 x0 x5).f2.f0) == ((rd_T38 x1 x5).f2.f0)) || (!((((rd_T38 x0 x5).f2.f1).toList) == (((rd_T38 x1 x5).f2.f1).toList)) || (!((((rd_T38 x0 x5).f2.f2).toList) == (((rd_T38 x1 x5).f2.f2).toList))))) || (!(((rd_T38 x0 x5).f3) == ((rd_T38 x1 x5).f3)))))) = true then (some false) else (rhizomelaw04_same.l0 k x0 x1 (wrap64 (x5 + 1)))) else (none)) else (none)) else (some true)
def rhizomelaw04_same.f (k : Nat) (l0 : List (S38)) (l1 : List (S38)) : Option (Bool) := if (l0.length : Int) = (l1.length : Int) then (rhizomelaw04_same.l0 k l0 l1 0) else (some false)
theorem rhizomelaw04_same.calls (k : Nat) (A0 : Option Addr) (c0 : Nat) (l0 : List (S38)) (A1 : Option Addr) (c1 : Nat) (l1 : List (S38)) (r : Bool) (w : World) (hr0 : Kd.C k38 w A0 l0.length l0) (hc0 : l0.length ≤ c0) (hr1 : Kd.C k38 w A1 l1.length l1) (hc1 : l1.length ≤ c1) (h : rhizomelaw04_same.f k l0 l1 = some r) :
  Calls Tryd.prog 12 #[.slice A0 l0.length c0, .slice A1 l1.length c1] w fun e w' => e = .returned (.bool r) ∧ Drawn0 w w' := by
 have hu38 := Tryd.underlying38
 have HR0 := Aside0.mk hr0
 have HC0 := Aside0.mk hc0
 clear hr0 hc0
 have HR1 := Aside0.mk hr1
 have HC1 := Aside0.mk hc1
 clear hr1 hc1
 have H := h
 clear h
 unfold rhizomelaw04_same.f at H
 by_cases c3 : (l0.length : Int) = (l1.length : Int)
 ·rw [if_pos c3] at H
  have c3b0 := beq_iff_eq.mpr c3
  have c3b1 := bne_eq_false_iff_eq.mpr c3
  have c3b2 : (l0.length == l1.length) = true := by first | simpa using c3 | (simp at c3 ⊢; omega)
  clear c3
  have H' := Aside0.mk H
  clear H
  go_enter Tryd.func12, Tryd.ntmps12
  go_wp2
  repeat (go_quiet (fail); try go_wp2)
  go_loopg [5] k (fun kq v5 w' => ∃ (x5_1 : Int), v5 = .int .i64 x5_1 ∧ Aside0 (rhizomelaw04_same.l0 kq l0 l1 x5_1 = some r) ∧ Aside0 (kq ≤ k) ∧ Drawn0 w w')
  case atStart => exact ⟨(0), e1_, H', ⟨Nat.le_refl _⟩, z4_⟩
  case round =>
   clear H'
   try clear c1
   try clear p2
   try clear c3
   try clear c3b0
   try clear c3b1
   try clear c3b2
   obtain ⟨x5_1, rfl, HA, HK1, ⟨m1, rfl⟩⟩ := hrel
   cases gk with
   | zero => exact absurd HA.out (by simp [rhizomelaw04_same.l0])
   | succ k1 =>
    have H := HA.out
    clear HA
    simp only [rhizomelaw04_same.l0] at H
    by_cases c4 : x5_1 < (l0.length : Int)
    ·rw [if_pos c4] at H
     have c4b0 := decide_eq_true c4
     clear c4
     by_cases c5 : 0 ≤ x5_1
     ·rw [if_pos c5] at H
      have c5b0 := decide_eq_true c5
      clear c5
      by_cases c6 : x5_1 < (l1.length : Int)
      ·rw [if_pos c6] at H
       have c6b0 := decide_eq_true c6
       clear c6
       by_cases c7 : (!(((rd_T38 l0 x5_1).f0) == ((rd_T38 l1 x5_1).f0)) || (!((((rd_T38 l0 x5_1).f1).toList) == (((rd_T38 l1 x5_1).f1).toList)) || ((!(((rd_T38 l0 x5_1).f2.f0) == ((rd_T38 l1 x5_1).f2.f0)) || (!((((rd_T38 l0 x5_1).f2.f1).toList) == (((rd_T38 l1 x5_1).f2.f1).toList)) || (!((((rd_T38 l0 x5_1).f2.f2).toList) == (((rd_T38 l1 x5_1).f2.f2).toList))))) || (!(((rd_T38 l0 x5_1).f3) == ((rd_T38 l1 x5_1).f3)))))) = true
       ·rw [if_pos c7] at H
        have c7b0 : (!(((rd_T38 l0 x5_1).f0) == ((rd_T38 l1 x5_1).f0)) || (!((((rd_T38 l0 x5_1).f1).toList) == (((rd_T38 l1 x5_1).f1).toList)) || ((!(((rd_T38 l0 x5_1).f2.f0) == ((rd_T38 l1 x5_1).f2.f0)) || (!((((rd_T38 l0 x5_1).f2.f1).toList) == (((rd_T38 l1 x5_1).f2.f1).toList)) || (!((((rd_T38 l0 x5_1).f2.f2).toList) == (((rd_T38 l1 x5_1).f2.f2).toList))))) || (!(((rd_T38 l0 x5_1).f3) == ((rd_T38 l1 x5_1).f3)))))) = true := c7
        clear c7
        obtain rfl := Option.some.inj H
        have p412 : 0 ≤ (x5_1 : Int) := of_decide_eq_true a1_
        have q412 : x5_1 < (l0.length : Int) := of_decide_eq_true a1_
        obtain ⟨ad412, e412, hx412_0, hx412_1, hx412_2, hx412_3, hx412_4, hx412_5⟩ := at_T38 HR0.out x5_1 p412 q412
        cases e412
        replace p412 := eq_true p412
        replace q412 := eq_true q412
        have p413 : 0 ≤ (x5_1 : Int) := of_decide_eq_true a1_
        have q413 : x5_1 < (l1.length : Int) := of_decide_eq_true a1_
        obtain ⟨ad413, e413, hx413_0, hx413_1, hx413_2, hx413_3, hx413_4, hx413_5⟩ := at_T38 HR1.out x5_1 p413 q413
        cases e413
        replace p413 := eq_true p413
        replace q413 := eq_true q413
        go_wp2
        repeat (go_quiet (fail); try go_wp2)
        go_ret
        exact ⟨e1_, z4_⟩
       rw [if_neg c7] at H
       have c7b0 : (!(((rd_T38 l0 x5_1).f0) == ((rd_T38 l1 x5_1).f0)) || (!((((rd_T38 l0 x5_1).f1).toList) == (((rd_T38 l1 x5_1).f1).toList)) || ((!(((rd_T38 l0 x5_1).f2.f0) == ((rd_T38 l1 x5_1).f2.f0)) || (!((((rd_T38 l0 x5_1).f2.f1).toList) == (((rd_T38 l1 x5_1).f2.f1).toList)) || (!((((rd_T38 l0 x5_1).f2.f2).toList) == (((rd_T38 l1 x5_1).f2.f2).toList))))) || (!(((rd_T38 l0 x5_1).f3) == ((rd_T38 l1 x5_1).f3)))))) = false := by simpa using c7
       clear c7
       have H' := Aside0.mk H
       clear H
       have p412 : 0 ≤ (x5_1 : Int) := of_decide_eq_true a1_
       have q412 : x5_1 < (l0.length : Int) := of_decide_eq_true a1_
       obtain ⟨ad412, e412, hx412_0, hx412_1, hx412_2, hx412_3, hx412_4, hx412_5⟩ := at_T38 HR0.out x5_1 p412 q412
       cases e412
       replace p412 := eq_true p412
       replace q412 := eq_true q412
       have p413 : 0 ≤ (x5_1 : Int) := of_decide_eq_true a1_
       have q413 : x5_1 < (l1.length : Int) := of_decide_eq_true a1_
       obtain ⟨ad413, e413, hx413_0, hx413_1, hx413_2, hx413_3, hx413_4, hx413_5⟩ := at_T38 HR1.out x5_1 p413 q413
       cases e413
       replace p413 := eq_true p413
       replace q413 := eq_true q413
       go_wp2
       repeat (go_quiet (fail); try go_wp2)
       go_roundg k1
       case measure => have := HK1.out; omega
       case rel => exact ⟨(wrap64 (x5_1 + 1)), e1_, H', ⟨by have := HK1.out; omega⟩, z4_⟩
      rw [if_neg c6] at H
      exact absurd H (by simp)
     rw [if_neg c5] at H
     exact absurd H (by simp)
    rw [if_neg c4] at H
    have c4b0 := decide_eq_false c4
    clear c4
    obtain rfl := Option.some.inj H
    go_wp2
    repeat (go_quiet (fail); try go_wp2)
    go_ret
    exact ⟨e1_, z4_⟩
 rw [if_neg c3] at H
 have c3b0 := beq_eq_false_iff_ne.mpr c3
 have c3b1 := bne_iff_ne.mpr c3
 have c3b2 : (l0.length == l1.length) = false := by first | simpa using c3 | (simp at c3 ⊢; omega)
 obtain rfl := Option.some.inj H
 go_enter Tryd.func12, Tryd.ntmps12
 go_wp2
 repeat (go_quiet (fail); try go_wp2)
 go_ret
 exact ⟨e1_, z4_⟩
end Go.Proofs.YtpbphelaeleikaaDoor.PMean

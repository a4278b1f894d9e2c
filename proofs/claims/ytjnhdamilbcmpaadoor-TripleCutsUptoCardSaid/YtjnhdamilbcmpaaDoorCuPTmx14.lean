import Derived.Test.YtjnhdamilbcmpaaDoorCuPTmx0
import Derived.Test.YtjnhdamilbcmpaaDoorCuPTmx1
import Derived.Test.YtjnhdamilbcmpaaDoorCuPTmx11
import Derived.Test.YtjnhdamilbcmpaaDoorCuPTmx12
import Derived.Test.YtjnhdamilbcmpaaDoorCuPTmx13
namespace Go.Proofs.YtjnhdamilbcmpaaDoor.PTm
open Go.RowKit Go.Proofs.YtjnhdamilbcmpaaDoorW.PrintWords Go.Proofs.YtjnhdamilbcmpaaDoorW.PrintLast Go.Proofs.YtjnhdamilbcmpaaDoorW.PrintMore
attribute [local go_sem] max2_int min2_int max_two min_two max_three min_three max_four min_four
set_option linter.unusedVariables false
set_option linter.unusedSimpArgs false
set_option maxHeartbeats 8000000
set_option maxRecDepth 100000
attribute [local go_sem high] eqA36
def nt_Parse.pl (s : ByteArray) (ls : List S56) : Int := if ls.length = 0 then s.size else (rd_T56 ls 0).f3
def nt_Parse.rd (k : Nat) (s : ByteArray) : Nat → List S36 → List S56 → Option ((List S36 × List S56) ⊕ (Int × Int))
 | 0, ts, ls => some (.inl (ts, ls))
 | n + 1, ts, ls => (lex_Read.f k ls []).bind fun (a1, a2, a3, n1, e1) => if e1 ≠ 0 then some (.inr (nt_Parse.pl s ls, e1)) else if 0 ≤ n1 ∧ n1 ≤ (ls.length : Int) then nt_Parse.rd k s n (ts ++ [⟨a1, a2, a3⟩]) (ls.drop n1.toNat) else none
def nt_Parse.l0 : Nat → ByteArray → List S56 → List S38 → Option (List S38 × Int × Int)
 | 0, _, _, _ => none
 | k + 1, s, ls, out => if 0 < ls.length then (nt_Parse.rd k s 3 [] ls).bind fun
  | .inr (p, e) => some ([], p, e)
  | .inl ([x, y, z], l3) => (term_MayAdd.f k x.f0 x.f1 x.f2 y.f0 y.f1 y.f2 z.f0 z.f1 z.f2).bind fun m => if m = true then (if 0 < l3.length then (lex_Mark.f ((rd_T56 l3 0).f0) ((rd_T56 l3 0).f1) ((rd_T56 l3 0).f2.f0) ((rd_T56 l3 0).f2.f1) ((rd_T56 l3 0).f2.f2) ((rd_T56 l3 0).f3) (⟨#[46]⟩ : ByteArray)).bind fun q => if q = true then (if out.length < 1172812402960 then nt_Parse.l0 k s (l3.drop 1) (out ++ [(⟨x, y, z⟩ : S38)]) else none) else some ([], nt_Parse.pl s l3, 4) else some ([], s.size, 4)) else some ([], nt_Parse.pl s ls, 4)
  | .inl _ => none
  else some (out, 0, 0)
def nt_Parse.f (k : Nat) (s : ByteArray) : Option (List S38 × Int × Int) := (lex_All.f k s).bind fun (ls, a, e) => if e ≠ 0 then some ([], a, e) else nt_Parse.l0 k s ls []
theorem nt_Parse.infoS : (Tryd.prog.info? 56).map (fun i => (i.zero, i.size, i.bytes)) = some (some (.agg #[.int .i64 0, .string ⟨#[]⟩, .int .i64 0, .string ⟨#[]⟩, .string ⟨#[]⟩, .int .i64 0]), 6, 72) := by kernel_rfl
theorem nt_Parse.info : (Tryd.prog.info? 38).map (fun i => (i.zero, i.size, i.bytes)) = some (some (.agg #[.int .i64 0, .string ⟨#[]⟩, .string ⟨#[]⟩, .int .i64 0, .string ⟨#[]⟩, .string ⟨#[]⟩, .int .i64 0, .string ⟨#[]⟩, .string ⟨#[]⟩]), 9, 120) := by kernel_rfl
theorem nt_Parse.mono_rd (k : Nat) (s : ByteArray) : ∀ n ts ls, LeO (nt_Parse.rd k s n ts ls) (nt_Parse.rd (k + 1) s n ts ls)
 | 0, ts, ls => LeO.refl _
 | n + 1, ts, ls => by
  unfold nt_Parse.rd
  exact LeO.bind (lex_Read.mono _ _ _) fun ⟨a1, a2, a3, n1, e1⟩ => LeO.ite (LeO.refl _) (LeO.ite (nt_Parse.mono_rd k s n _ _) (LeO.refl _))
theorem nt_Parse.mono_l : ∀ k s ls out, LeO (nt_Parse.l0 k s ls out) (nt_Parse.l0 (k + 1) s ls out)
 | 0, _, _, _ => fun _ h => by simp [nt_Parse.l0] at h
 | k + 1, s, ls, out => by
  unfold nt_Parse.l0
  refine LeO.ite (LeO.bind (nt_Parse.mono_rd k s _ _ _) fun r => ?_) (LeO.refl _)
  split
  ·exact LeO.refl _
  ·exact LeO.bind (term_MayAdd.mono _ _ _ _ _ _ _ _ _ _) fun m => LeO.ite (LeO.ite (LeO.bind (LeO.refl _) fun q => LeO.ite (LeO.ite (nt_Parse.mono_l k _ _ _) (LeO.refl _)) (LeO.refl _)) (LeO.refl _)) (LeO.refl _)
  exact LeO.refl _
theorem nt_Parse.mono : ∀ a0 k, LeO (nt_Parse.f k a0) (nt_Parse.f (k + 1) a0) := by
 intro a0 k
 unfold nt_Parse.f
 exact LeO.bind (lex_All.mono _ _) fun ⟨_, _, _⟩ => LeO.ite (LeO.refl _) (nt_Parse.mono_l k _ _ _)
structure PX (w W : World) (s : ByteArray) (gs gl : Nat) (ok : Nat → Prop) (A : Option Addr) (c : Nat) (ls : List S56) (ov : Value) (out : List S38) : Prop where
 below : Below w.heap.size w W
 sc : W.heap[gs]? = some (.cells #[.string s] 9 (0, 0))
 lc : W.heap[gl]? = some (.cells #[.slice A ls.length c] 51 (0, 0))
 row : Kd.Q k56 56 W w.heap.size ok (.slice A ls.length c) ls
 outr : Kd.R k38 38 W w.heap.size ok ov out
 gsw : w.heap.size ≤ gs
 glw : w.heap.size ≤ gl
 ne : gl ≠ gs
 oks : ∀ k, ok k → k ≠ gs ∧ k ≠ gl
structure PY (w W : World) (s : ByteArray) (gs gl gt : Nat) (ok : Nat → Prop) (A : Option Addr) (c : Nat) (ls : List S56) (ov : Value) (out : List S38) (cs : Array Value) : Prop where
 px : PX w W s gs gl ok A c ls ov out
 tc : W.heap[gt]? = some (.cells cs 38 (0, 0))
 tw : w.heap.size ≤ gt
 ts : gt ≠ gs
 tl : gt ≠ gl
 okt : ∀ k, ok k → k ≠ gt
section
variable {w W W' : World} {s : ByteArray} {gs gl gt : Nat} {ok : Nat → Prop} {A A1 : Option Addr} {c c1 : Nat} {ls l1 : List S56} {ov : Value} {out : List S38} {cs cs' : Array Value}
theorem PX.lower (h : PX w W s gs gl ok A c ls ov out) (hb : Below W.heap.size W W') : PX w W' s gs gl ok A c ls ov out :=
 ⟨below_then h.below h.below.size hb, blk_below h.sc hb, blk_below h.lc hb, Kd.Q_below h.row hb, Kd.R_below h.outr hb, h.gsw, h.glw, h.ne, h.oks⟩
theorem PX.reads (h : PX w W s gs gl ok A c ls ov out) : ls.length ≤ c ∧ Kd.C k56 W A ls.length ls := (Kd.Q_reads' h.row).2
theorem PX.mono {ok' : Nat → Prop} (h : PX w W s gs gl ok A c ls ov out) (h1 : ∀ k, ok k → ok' k) (h2 : ∀ k, ok' k → k ≠ gs ∧ k ≠ gl) : PX w W s gs gl ok' A c ls ov out :=
 ⟨h.below, h.sc, h.lc, Kd.Q_mono h.row h1, Kd.R_mono h.outr h1, h.gsw, h.glw, h.ne, h2⟩
theorem PY.lower (h : PY w W s gs gl gt ok A c ls ov out cs) (hb : Below W.heap.size W W') : PY w W' s gs gl gt ok A c ls ov out cs :=
 ⟨h.px.lower hb, blk_below h.tc hb, h.tw, h.ts, h.tl, h.okt⟩
theorem PY.new (h : PX w W s gs gl ok A c ls ov out) (hg : gt = W.heap.size) (hn : W'.heap[gt]? = some (.cells cs 38 (0, 0))) (hb : Below W.heap.size W W') : PY w W' s gs gl gt (fun k => ok k ∧ k ≠ gt) A c ls ov out cs :=
 ⟨⟨below_then h.below h.below.size hb, blk_below h.sc hb, blk_below h.lc hb, Kd.Q_below (Kd.Q_elderB h.row gt (Nat.le_of_eq hg.symm)) hb, Kd.R_below (Kd.R_elderB h.outr gt (Nat.le_of_eq hg.symm)) hb, h.gsw, h.glw, h.ne, fun k hk => h.oks k hk.1⟩, hn, by rw [hg]; exact h.below.size, by rw [hg]; exact Ne.symm (Nat.ne_of_lt (blk_lt h.sc)), by rw [hg]; exact Ne.symm (Nat.ne_of_lt (blk_lt h.lc)), fun k hk => hk.2⟩
theorem PX.drewN (h : PX w W s gs gl ok A c ls ov out) (n : Nat) : PX w (W.drewN n) s gs gl ok A c ls ov out := h.lower (pw_below_drewN (Below.refl _ _) n)
theorem PY.drewN (h : PY w W s gs gl gt ok A c ls ov out cs) (n : Nat) : PY w (W.drewN n) s gs gl gt ok A c ls ov out cs := h.lower (pw_below_drewN (Below.refl _ _) n)
theorem PX.set (h : PX w W s gs gl ok A c ls ov out) (hq : ∀ W, Kd.Q k56 56 W w.heap.size ok (.slice A ls.length c) ls → Kd.Q k56 56 W w.heap.size ok (.slice A1 l1.length c1) l1) : PX w (W.setCell ⟨gl, 0, none⟩ (.slice A1 l1.length c1)) s gs gl ok A1 c1 l1 ov out :=
 ⟨h.below.setCell (p := ⟨gl, 0, none⟩) h.glw _, blk_far h.sc (p := ⟨gl, 0, none⟩) (Ne.symm h.ne) _, (blk_set h.lc 0 _).trans rfl, hq _ (Kd.Q_far h.row (p := ⟨gl, 0, none⟩) (fun k hk => (h.oks k hk).2) _), Kd.R_far h.outr (p := ⟨gl, 0, none⟩) (fun k hk => (h.oks k hk).2) _, h.gsw, h.glw, h.ne, h.oks⟩
theorem PY.set (h : PY w W s gs gl gt ok A c ls ov out cs) (hq : ∀ W, Kd.Q k56 56 W w.heap.size ok (.slice A ls.length c) ls → Kd.Q k56 56 W w.heap.size ok (.slice A1 l1.length c1) l1) : PY w (W.setCell ⟨gl, 0, none⟩ (.slice A1 l1.length c1)) s gs gl gt ok A1 c1 l1 ov out cs :=
 ⟨h.px.set hq, blk_far h.tc (p := ⟨gl, 0, none⟩) h.tl _, h.tw, h.ts, h.tl, h.okt⟩
theorem PY.put (h : PY w W s gs gl gt ok A c ls ov out cs) (i : Nat) (u : Value) (hs : cs.setIfInBounds i u = cs') : PY w (W.setCell ⟨gt, i, none⟩ u) s gs gl gt ok A c ls ov out cs' :=
 ⟨⟨h.px.below.setCell (p := ⟨gt, i, none⟩) h.tw _, blk_far h.px.sc (p := ⟨gt, i, none⟩) (Ne.symm h.ts) _, blk_far h.px.lc (p := ⟨gt, i, none⟩) (Ne.symm h.tl) _, Kd.Q_far h.px.row (p := ⟨gt, i, none⟩) h.okt _, Kd.R_far h.px.outr (p := ⟨gt, i, none⟩) h.okt _, h.px.gsw, h.px.glw, h.px.ne, h.px.oks⟩, by rw [← hs]; exact blk_set h.tc i u, h.tw, h.ts, h.tl, h.okt⟩
theorem PX.drew (h : PX w W s gs gl ok A c ls ov out) : PX w W.drew s gs gl ok A c ls ov out := h.lower (below_drew (Below.refl _ _))
theorem PY.drew (h : PY w W s gs gl gt ok A c ls ov out cs) : PY w W.drew s gs gl gt ok A c ls ov out cs := h.lower (below_drew (Below.refl _ _))
theorem PY.put3 (h : PY w W s gs gl gt ok A c ls ov out cs) (i : Nat) (u1 u2 u3 : Value) (hs : ((cs.setIfInBounds i u1).setIfInBounds (i + 1) u2).setIfInBounds (i + 2) u3 = cs') : PY w (((W.setCell ⟨gt, i, none⟩ u1).setCell ⟨gt, i + 1, none⟩ u2).setCell ⟨gt, i + 2, none⟩ u3) s gs gl gt ok A c ls ov out cs' :=
 ((h.put i u1 rfl).put (i + 1) u2 rfl).put (i + 2) u3 hs
theorem PX.fresh (h : PX w W s gs gl ok A c ls ov out) : ∀ k, W.heap.size ≤ k → k ≠ gs ∧ k ≠ gl := fun k hk => ⟨Kd.freshB h.sc k hk, Kd.freshB h.lc k hk⟩
theorem PX.sz (h : PX w W s gs gl ok A c ls ov out) : w.heap.size ≤ W.heap.size := h.below.size
theorem PX.app {ok' : Nat → Prop} {v1 : Value} {out' : List S38} (h : PX w W s gs gl ok A c ls ov out) (h1 : ∀ k, ok' k → k ≠ gs ∧ k ≠ gl) (h2 : ∀ k, ok k → ok' k) (ho : Kd.R k38 38 W' w.heap.size ok' v1 out') (hb : Below w.heap.size w W') (hg : W.grownBy W' ov.ownBlock) : PX w W' s gs gl ok' A c ls v1 out' :=
 ⟨hb, (hg.block gs (blk_lt h.sc) (Kd.R_away h.outr (fun k hk => (h.oks k hk).1))).trans h.sc, (hg.block gl (blk_lt h.lc) (Kd.R_away h.outr (fun k hk => (h.oks k hk).2))).trans h.lc, Kd.Q_mono (Kd.Q_over' h.row (Kd.R_typed h.outr) (by decide) hg) h2, ho, h.gsw, h.glw, h.ne, h1⟩
end
def tcells (ts : List S36) : Array Value := ((ts.flatMap fun t => ([.int .i64 t.f0, .string t.f1, .string t.f2] : List Value)) ++ (List.replicate (3 - ts.length) ([.int .i64 0, .string ⟨#[]⟩, .string ⟨#[]⟩] : List Value)).flatten).toArray
theorem cut_l {A : Option Addr} {c : Nat} {ls : List S56} (j : Int) (h0 : 0 ≤ j) (h1 : j ≤ (ls.length : Int)) (hc : ls.length ≤ c) :
  ∃ A1 c1, (∀ W : World, (Instr.slice 51 (.slice A ls.length c) (some (.int .i64 j)) none none).run Tryd.prog W = .ok (.slice A1 (ls.drop j.toNat).length c1) W) ∧ ∀ W base ok, Kd.Q k56 56 W base ok (.slice A ls.length c) ls → Kd.Q k56 56 W base ok (.slice A1 (ls.drop j.toNat).length c1) (ls.drop j.toNat) := by
 obtain ⟨i0, hi0, _, hsz, _⟩ := info_parts nt_Parse.infoS
 have hcut := cut_from (P := Tryd.prog) 51 56 .i64 Tryd.underlying51 hi0 6 hsz A ls.length c j h0 h1
 refine ⟨if c = j.toNat then A else A.map (·.add (j.toNat * 6)), c - j.toNat, ?_, ?_⟩
 ·rw [List.length_drop]; exact hcut
 intro W base ok h
 rw [List.length_drop]
 exact Kd.Q_drop (d := k56) h (by omega)
theorem at0_l {w : World} {A : Option Addr} {n : Nat} {xs : List S56} (h : Kd.C k56 w A n xs) (h1 : 0 < n) : ∃ ad : Addr, A = some ad ∧ w.cell? ad = some (.int .i64 (rd_T56 xs 0).f0) ∧ w.cell? ⟨ad.block, ad.off + 1, none⟩ = some (.string (rd_T56 xs 0).f1) ∧ w.cell? ⟨ad.block, ad.off + 2, none⟩ = some (.int .i64 (rd_T56 xs 0).f2.f0) ∧ w.cell? ⟨ad.block, ad.off + 3, none⟩ = some (.string (rd_T56 xs 0).f2.f1) ∧ w.cell? ⟨ad.block, ad.off + 4, none⟩ = some (.string (rd_T56 xs 0).f2.f2) ∧ w.cell? ⟨ad.block, ad.off + 5, none⟩ = some (.int .i64 (rd_T56 xs 0).f3) := by
 obtain ⟨ad, e, q0, q1, q2, q3, q4, q5⟩ := at_T56 h 0 (by omega) (by omega)
 simp only [show ((0 : Int)).toNat = 0 from rfl, Nat.zero_mul, Addr.add_zero'] at q0 q1 q2 q3 q4 q5
 exact ⟨ad, e, q0, q1, q2, q3, q4, q5⟩
set_option maxHeartbeats 1000000 in
theorem nt_Parse.place {w W : World} {s : ByteArray} {gs gl : Nat} {ok : Nat → Prop} {A : Option Addr} {c : Nat} {ls : List S56} {ov : Value} {out : List S38} (h : PX w W s gs gl ok A c ls ov out) :
  Calls Tryd.prog 18 #[.pointer (some ⟨gl, 0, none⟩), .pointer (some ⟨gs, 0, none⟩)] W fun e W' => e = .returned (.int .i64 (nt_Parse.pl s ls)) ∧ W' = W := by
 have hl := (blk_cell h.lc 0).trans (show _ = some (.slice A ls.length c) from rfl)
 have hs := (blk_cell h.sc 0).trans (show _ = some (.string s) from rfl)
 by_cases hn : ls.length = 0
 ·have hp : nt_Parse.pl s ls = s.size := if_pos hn
  rw [hp]
  have hn0 : (ls.length == 0) = true := by simp [hn]
  have hn1 : decide ((ls.length : Int) = 0) = true := by simp [hn]
  clear h hp
  go_enter Tryd.func18, Tryd.ntmps18
  go_wp2
  go_ret
  exact ⟨rfl, rfl⟩
 have hp : nt_Parse.pl s ls = (rd_T56 ls 0).f3 := if_neg hn
 rw [hp]
 obtain ⟨ad, rfl, q0, q1, q2, q3, q4, q5⟩ := at0_l h.reads.2 (Nat.pos_of_ne_zero hn)
 have hn0 : (ls.length == 0) = false := by simp [hn]
 have hn1 : decide ((ls.length : Int) = 0) = false := by simp [hn]
 have hn2 : (0 < ls.length) = True := eq_true (Nat.pos_of_ne_zero hn)
 clear h hp hn
 go_enter Tryd.func18, Tryd.ntmps18
 go_wp2
 go_ret
 exact ⟨rfl, rfl⟩
theorem PX.first {w w1 w2 w3 w4 : World} {s : ByteArray} {gs gl : Nat} {A : Option Addr} {c : Nat} {ls : List S56} (hb1 : Below w.heap.size w w1) (hs : w1.heap[gs]? = some (.cells #[.string s] 9 (0, 0))) (hg : gs = w.heap.size) (hr : Kd.R k56 56 w2 w1.heap.size (fun _ => True) (.slice A ls.length c) ls) (hb2 : Below w1.heap.size w1 w2) (hgl : gl = w2.heap.size) (hb3 : Below w2.heap.size w2 w3) (u : Upd w3 w4 gl) (hl : w4.heap[gl]? = some (.cells #[.slice A ls.length c] 51 (0, 0))) :
  PX w w4 s gs gl (fun k => k ≠ gs ∧ k ≠ gl) A c ls (.slice none 0 0) [] := by
 have z1 := hb1.size
 have z2 := hb2.size
 have z3 := blk_lt hs
 have hgw : w.heap.size ≤ gl := by rw [hgl]; omega
 have hne : gl ≠ gs := by rw [hgl]; omega
 have hrb := Kd.R_mono (ok' := fun k => k ≠ gs ∧ k ≠ gl) (Kd.R_bound hr) (fun k hk => ⟨by have := hk.2.1; omega, by have := hk.2.2.1; omega⟩)
 exact ⟨(below_then (below_then hb1 z1 hb2) (by omega) hb3).trans (u.below hgw), (u.other gs (Ne.symm hne)).trans (blk_below (blk_below hs hb2) hb3), hl, Kd.Q_of_R (Kd.R_lower (Kd.R_step (Kd.R_below hrb hb3) (fun k hk _ => u.other k hk.2)) z1), Kd.R_nil _ _ _ _ _, Nat.le_of_eq hg.symm, hgw, hne, fun k hk => hk⟩
set_option maxHeartbeats 1000000 in
set_option maxRecDepth 100000 in
theorem nt_Parse.calls (k : Nat) (a0 : ByteArray) (r1 : List S38) (r2 r3 : Int) (w : World) (h : nt_Parse.f k a0 = some (r1, r2, r3)) :
  Calls Tryd.prog 9 #[.string a0] w fun e w' => ∃ v0_ : Value, e = .returned (.tuple #[v0_, .int .i64 r2, .int .i64 r3]) ∧ Kd.R k38 38 w' w.heap.size (fun _ => True) v0_ r1 ∧ Below w.heap.size w w' := by
 have hmf : ∀ (fn : Fn) (first cap : Array Value) (w : World), (Instr.makeFunc fn first cap).run Tryd.prog w = .ok (.func fn first cap) w := fun _ _ _ _ => rfl
 unfold nt_Parse.f at h
 obtain ⟨⟨ls0, a, e0⟩, A0, H⟩ := Option.bind_eq_some_iff.mp h
 simp only at H
 have AA := Ad.mk A0
 clear h A0
 by_cases c0 : e0 = 0
 case neg =>
  have c0b : (e0 != 0) = true := by simpa using c0
  rw [if_pos c0] at H
  simp only [Option.some.injEq, Prod.mk.injEq] at H
  obtain ⟨rfl, rfl, rfl⟩ := H
  clear c0
  go_enter Tryd.func9, Tryd.ntmps9
  go_wp2_with (first | ((with_reducible refine gate_dst (N := 1) rfl ?_); refine box_event r1_ (N := 1) r1_ (cs := #[.string a0]) (t := 9) r2_ ?_; intro gs hg w1 hs hb; have HS := Ad.mk (show Below w.heap.size w w1 ∧ w1.heap[gs]? = some (.cells #[.string a0] 9 (0, 0)) ∧ gs = w.heap.size from ⟨hb, hs, hg⟩); have hs0 := (blk_cell hs 0).trans (show _ = some (.string a0) from rfl); clear hg hs hb) | (go_at_call 17; refine (lex_All.calls k a0 ls0 _ _ _ AA.out).mono ?_; rintro e w2 ⟨v, rfl, h1, h2⟩; obtain ⟨A, c, rfl⟩ := Kd.R_slice h1; have HR := Ad.mk h1; have HR2 := Ad.mk h2; clear h1 h2 hs0) | ((with_reducible refine gate_dst (N := 5) rfl ?_); refine box_event r1_ (N := 5) r1_ (cs := #[.slice none 0 0]) (t := 51) r2_ ?_; intro gl hgl w3 hl hb3; have HL := Ad.mk (show gl = w2.heap.size ∧ Below w2.heap.size w2 w3 ∧ w3.heap[gl]? = some (.cells #[.slice none 0 0] 51 (0, 0)) from ⟨hgl, hb3, hl⟩); clear hgl hl hb3) | ((with_reducible refine gate_store (t := 51) (p := 5) rfl ?_); refine store_seg (gy := gl) (j := 0) (T := 51) (TB := 51) (cs := #[.slice none 0 0]) (new := #[.slice A ls0.length c]) (u := .slice A ls0.length c) (seg := [.slice A ls0.length c]) rfl (p := .tmp 5) (x := .tmp 19) rfl rfl r1_ r1_ r1_ HL.out.2.2 k1_ s1_ h1_ rfl ?_; intro w4 hz hup; have HX := Ad.mk (PX.first HS.out.1 HS.out.2.1 HS.out.2.2 HR.out HR2.out HL.out.1 HL.out.2.1 hup hz); clear hz hup HS HR HR2 HL))
  go_ret3
  exact ⟨_, rfl, Kd.R_nil _ _ _ _ _, HX.out.below⟩
 subst c0
 rw [if_neg (by decide)] at H
 have H' := Ad.mk H
 clear H
 go_enter Tryd.func9, Tryd.ntmps9
 go_wp2_with (first | ((with_reducible refine gate_dst (N := 1) rfl ?_); refine box_event r1_ (N := 1) r1_ (cs := #[.string a0]) (t := 9) r2_ ?_; intro gs hg w1 hs hb; have HS := Ad.mk (show Below w.heap.size w w1 ∧ w1.heap[gs]? = some (.cells #[.string a0] 9 (0, 0)) ∧ gs = w.heap.size from ⟨hb, hs, hg⟩); have hs0 := (blk_cell hs 0).trans (show _ = some (.string a0) from rfl); clear hg hs hb) | (go_at_call 17; refine (lex_All.calls k a0 ls0 _ _ _ AA.out).mono ?_; rintro e w2 ⟨v, rfl, h1, h2⟩; obtain ⟨A, c, rfl⟩ := Kd.R_slice h1; have HR := Ad.mk h1; have HR2 := Ad.mk h2; clear h1 h2 hs0) | ((with_reducible refine gate_dst (N := 5) rfl ?_); refine box_event r1_ (N := 5) r1_ (cs := #[.slice none 0 0]) (t := 51) r2_ ?_; intro gl hgl w3 hl hb3; have HL := Ad.mk (show gl = w2.heap.size ∧ Below w2.heap.size w2 w3 ∧ w3.heap[gl]? = some (.cells #[.slice none 0 0] 51 (0, 0)) from ⟨hgl, hb3, hl⟩); clear hgl hl hb3) | ((with_reducible refine gate_store (t := 51) (p := 5) rfl ?_); refine store_seg (gy := gl) (j := 0) (T := 51) (TB := 51) (cs := #[.slice none 0 0]) (new := #[.slice A ls0.length c]) (u := .slice A ls0.length c) (seg := [.slice A ls0.length c]) rfl (p := .tmp 5) (x := .tmp 19) rfl rfl r1_ r1_ r1_ HL.out.2.2 k1_ s1_ h1_ rfl ?_; intro w4 hz hup; have HX := Ad.mk (PX.first HS.out.1 HS.out.2.1 HS.out.2.2 HR.out HR2.out HL.out.1 HL.out.2.1 hup hz); clear hz hup HS HR HR2 HL))
 go_loopg [9] k (fun kq v9 w' => ∃ (ov : Value) (A : Option Addr) (c : Nat) (ls : List S56) (out : List S38), ov = v9 ∧ Ad (nt_Parse.l0 kq a0 ls out = some (r1, r2, r3)) ∧ Ad (kq ≤ k) ∧ Ad (PX w w' a0 gs gl (fun k => k ≠ gs ∧ k ≠ gl) A c ls ov out))
 case atStart => exact ⟨_, A, c, ls0, [], rfl, H', ⟨Nat.le_refl _⟩, HX⟩
 case round =>
  clear H' HX AA
  obtain ⟨ov, A, c, ls, out, rfl, HA, HK1, HX⟩ := hrel
  cases gk with
  | zero => exact absurd HA.out (by simp [nt_Parse.l0])
  | succ k1 =>
   have H := HA.out
   clear HA
   simp only [nt_Parse.l0] at H
   have hl0 := (blk_cell HX.out.lc 0).trans (show _ = some (.slice A ls.length c) from rfl)
   by_cases c1 : 0 < ls.length
   case neg =>
    rw [if_neg c1] at H
    simp only [Option.some.injEq, Prod.mk.injEq] at H
    obtain ⟨rfl, rfl, rfl⟩ := H
    have c1b : decide (0 < ls.length) = false := decide_eq_false c1
    have c1c : decide ((ls.length : Int) > 0) = false := decide_eq_false (by omega)
    clear c1
    go_wp2
    go_ret3
    exact ⟨_, rfl, Kd.R_mono HX.out.outr (fun _ _ => trivial), HX.out.below⟩
   rw [if_pos c1] at H
   have c1b : decide (0 < ls.length) = true := decide_eq_true c1
   have c1c : decide ((ls.length : Int) > 0) = true := decide_eq_true (by omega)
   clear c1
   obtain ⟨R, A0, H⟩ := Option.bind_eq_some_iff.mp H
   try simp only at H
   have AR := Ad.mk A0
   have HH := Ad.mk H
   clear A0 H
   go_wp2_with (first | (go_at_call 18; refine (nt_Parse.place HX.out).mono ?_; rintro e w4 ⟨rfl, rfl⟩) | ((with_reducible refine gate_dst (N := 11) rfl ?_); refine box_event r1_ (N := 11) r1_ (cs := #[.int .i64 0, .string ⟨#[]⟩, .string ⟨#[]⟩, .int .i64 0, .string ⟨#[]⟩, .string ⟨#[]⟩, .int .i64 0, .string ⟨#[]⟩, .string ⟨#[]⟩]) (t := 38) r2_ ?_; intro gt hgt w5 hy hb; have HY := Ad.mk (PY.new HX.out hgt hy hb); clear hgt hy hb HX hl0))
   go_loopg [32] 4 (fun kq v32 w' => ∃ (i : Int) (n : Nat) (ts : List S36) (A1 : Option Addr) (c1 : Nat) (l1 : List S56), v32 = .int .i64 i ∧ Ad ((i = ts.length ∧ ts.length + n = 3) ∧ kq = n + 1) ∧ Ad (nt_Parse.rd k1 a0 n ts l1 = some R) ∧ Ad (PY w w' a0 gs gl gt (fun k => (k ≠ gs ∧ k ≠ gl) ∧ k ≠ gt) A1 c1 l1 ov out (tcells ts)))
   case atStart => exact ⟨0, 3, [], A, c, ls, rfl, ⟨⟨rfl, rfl⟩, rfl⟩, AR, HY⟩
   case round =>
    clear HY AR
    obtain ⟨i, n, ts, A1, c1, l1, rfl, HI, AR, HY⟩ := hrel
    cases n with
    | succ n =>
     have A0 := AR.out
     clear AR
     simp only [nt_Parse.rd] at A0
     obtain ⟨⟨a1, a2, a3, n1, e1⟩, A2, A0⟩ := Option.bind_eq_some_iff.mp A0
     try simp only at A0
     have AR := Ad.mk A2
     have A1_ := Ad.mk A0
     clear A0 A2
     have hi3 : decide (i < 3) = true := decide_eq_true (by have := HI.out; omega)
     have hl0 := (blk_cell HY.out.px.lc 0).trans (show _ = some (.slice A1 l1.length c1) from rfl)
     by_cases c2 : e1 = 0
     case neg =>
      have c2b : (e1 != 0) = true := by simpa using c2
      have A0 := A1_.out
      rw [if_pos c2] at A0
      cases A0
      have H := HH.out
      simp only [Option.some.injEq, Prod.mk.injEq] at H
      obtain ⟨rfl, rfl, rfl⟩ := H
      clear c2 HH A1_
      go_wp2_with (first | (go_at_call 19; refine (lex_Read.calls k1 A1 c1 l1 (.map none) [] a1 a2 a3 n1 _ _ HY.out.px.reads.2 HY.out.px.reads.1 (MapSS.nil _) AR.out).mono ?_; rintro e w6 ⟨rfl, hb⟩; have HY1 := Ad.mk (HY.out.lower hb); clear HY hb hl0) | ((with_reducible refine gate_dst (N := 13) rfl ?_); refine box_event r1_ (N := 13) r1_ (cs := #[.int .i64 0, .string ⟨#[]⟩, .string ⟨#[]⟩]) (t := 36) r2_ ?_; intro gx hgx w7 hx hb; have HB7 := Ad.mk (show gx = w6.heap.size ∧ Below w6.heap.size w6 w7 ∧ w7.heap[gx]? = some (.cells #[.int .i64 0, .string ⟨#[]⟩, .string ⟨#[]⟩] 36 (0, 0)) from ⟨hgx, hb, hx⟩); clear hgx hx hb) | ((with_reducible refine gate_store (t := 36) (p := 13) rfl ?_); refine store_seg (gy := gx) (j := 0) (T := 36) (TB := 36) (cs := #[.int .i64 0, .string ⟨#[]⟩, .string ⟨#[]⟩]) (new := #[.int .i64 a1, .string a2, .string a3]) (u := .agg #[.int .i64 a1, .string a2, .string a3]) (seg := [.int .i64 a1, .string a2, .string a3]) rfl (p := .tmp 13) (x := .tmp 38) rfl rfl r1_ r1_ r1_ HB7.out.2.2 k1_ s1_ h1_ rfl ?_; intro w8 hz hup; have HY2 := Ad.mk (HY1.out.lower (HB7.out.2.1.trans (hup.below (Nat.le_of_eq HB7.out.1.symm)))); have HZ := Ad.mk hz; have hgx1 := Ad.mk (show gx ≠ gt ∧ gx ≠ gl from ⟨by rw [HB7.out.1]; exact Ne.symm (Nat.ne_of_lt (blk_lt HY1.out.tc)), by rw [HB7.out.1]; exact Ne.symm (Nat.ne_of_lt (blk_lt HY1.out.px.lc))⟩); clear hz hup HY1 HB7) | (go_at_call 18; refine (nt_Parse.place HY2.out.px).mono ?_; rintro e w9 ⟨rfl, rfl⟩))
      go_ret3
      exact ⟨_, rfl, Kd.R_nil _ _ _ _ _, HY2.out.px.below⟩
     subst c2
     have A0 := A1_.out
     clear A1_
     rw [if_neg (by decide)] at A0
     by_cases c3 : 0 ≤ n1 ∧ n1 ≤ (l1.length : Int)
     case neg => rw [if_neg c3] at A0; cases A0
     rw [if_pos c3] at A0
     obtain ⟨A4, c4, hcut_, hq⟩ := cut_l (A := A1) (c := c1) (ls := l1) n1 c3.1 c3.2 HY.out.px.reads.1
     obtain ⟨l4, hl4⟩ : ∃ l, l = l1.drop n1.toNat := ⟨_, rfl⟩
     rw [← hl4] at A0 hcut_ hq
     clear hl4
     have HQ := Ad.mk hq
     have HC := Ad.mk hcut_
     have AN := Ad.mk A0
     have c3a : decide (0 ≤ n1) = true := decide_eq_true c3.1
     clear A0 c3 hq hcut_ c3a
     go_upto_region 15 with (first | (go_at_call 19; refine (lex_Read.calls k1 A1 c1 l1 (.map none) [] a1 a2 a3 n1 _ _ HY.out.px.reads.2 HY.out.px.reads.1 (MapSS.nil _) AR.out).mono ?_; rintro e w6 ⟨rfl, hb⟩; have HY1 := Ad.mk (HY.out.lower hb); clear HY hb hl0) | ((with_reducible refine gate_dst (N := 13) rfl ?_); refine box_event r1_ (N := 13) r1_ (cs := #[.int .i64 0, .string ⟨#[]⟩, .string ⟨#[]⟩]) (t := 36) r2_ ?_; intro gx hgx w7 hx hb; have HB7 := Ad.mk (show gx = w6.heap.size ∧ Below w6.heap.size w6 w7 ∧ w7.heap[gx]? = some (.cells #[.int .i64 0, .string ⟨#[]⟩, .string ⟨#[]⟩] 36 (0, 0)) from ⟨hgx, hb, hx⟩); clear hgx hx hb) | ((with_reducible refine gate_store (t := 36) (p := 13) rfl ?_); refine store_seg (gy := gx) (j := 0) (T := 36) (TB := 36) (cs := #[.int .i64 0, .string ⟨#[]⟩, .string ⟨#[]⟩]) (new := #[.int .i64 a1, .string a2, .string a3]) (u := .agg #[.int .i64 a1, .string a2, .string a3]) (seg := [.int .i64 a1, .string a2, .string a3]) rfl (p := .tmp 13) (x := .tmp 38) rfl rfl r1_ r1_ r1_ HB7.out.2.2 k1_ s1_ h1_ rfl ?_; intro w8 hz hup; have HY2 := Ad.mk (HY1.out.lower (HB7.out.2.1.trans (hup.below (Nat.le_of_eq HB7.out.1.symm)))); have HZ := Ad.mk hz; have hgx1 := Ad.mk (show gx ≠ gt ∧ gx ≠ gl from ⟨by rw [HB7.out.1]; exact Ne.symm (Nat.ne_of_lt (blk_lt HY1.out.tc)), by rw [HB7.out.1]; exact Ne.symm (Nat.ne_of_lt (blk_lt HY1.out.px.lc))⟩); clear hz hup HY1 HB7))
     have hl0 := (blk_cell HY2.out.px.lc 0).trans (show _ = some (.slice A1 l1.length c1) from rfl)
     have hx0 := (blk_cell HZ.out 0).trans (show _ = some (.int .i64 a1) from rfl)
     have hx1 := (blk_cell HZ.out 1).trans (show _ = some (.string a2) from rfl)
     have hx2 := (blk_cell HZ.out 2).trans (show _ = some (.string a3) from rfl)
     have tf := fun i => blk_frozen HY2.out.tc i
     have lf := fun i => blk_frozen HY2.out.px.lc i
     have n1_ := hgx1.out.1
     have n2_ := hgx1.out.2
     have n3_ := Ne.symm hgx1.out.1
     have n4_ := Ne.symm hgx1.out.2
     have n5_ := HY2.out.tl
     have n6_ := Ne.symm HY2.out.tl
     have hcut_ := HC.out
     clear HC hgx1 HZ hi3
     match ts, HI, HY2 with
     | [], HI, HY2 =>
      obtain ⟨⟨hi, hn⟩, rfl⟩ := HI.out
      obtain rfl : i = 0 := hi
      obtain rfl : n = 2 := by simp at hn; omega
      have HY3 := HY2.out
      rw [show tcells [] = #[.int .i64 0, .string ⟨#[]⟩, .string ⟨#[]⟩, .int .i64 0, .string ⟨#[]⟩, .string ⟨#[]⟩, .int .i64 0, .string ⟨#[]⟩, .string ⟨#[]⟩] from rfl] at HY3
      replace HY2 := Ad.mk HY3
      clear HY3
      have tc0 := (blk_cell HY2.out.tc 0).trans (show _ = some (.int .i64 0) from rfl)
      have tc1 := (blk_cell HY2.out.tc 1).trans (show _ = some (.string ⟨#[]⟩) from rfl)
      have tc2 := (blk_cell HY2.out.tc 2).trans (show _ = some (.string ⟨#[]⟩) from rfl)
      have HTE := Ad.mk (show tcells [⟨a1, a2, a3⟩] = #[.int .i64 a1, .string a2, .string a3, .int .i64 0, .string ⟨#[]⟩, .string ⟨#[]⟩, .int .i64 0, .string ⟨#[]⟩, .string ⟨#[]⟩] from rfl)
      clear HI hn
      go_region
      all_goals (go_wp2; go_roundg 3; (case measure => omega); (case rel => exact ⟨1, 2, [⟨a1, a2, a3⟩], A4, c4, l4, rfl, ⟨⟨rfl, rfl⟩, rfl⟩, AN, ⟨by rw [HTE.out]; repeat (first | exact HY2.out | apply PY.drewN | apply PY.drew | refine PY.set (A := A1) (c := c1) (ls := l1) ?_ (fun W => HQ.out W _ _) | refine PY.put3 (cs := #[.int .i64 0, .string ⟨#[]⟩, .string ⟨#[]⟩, .int .i64 0, .string ⟨#[]⟩, .string ⟨#[]⟩, .int .i64 0, .string ⟨#[]⟩, .string ⟨#[]⟩]) ?_ 0 _ _ _ (by rfl))⟩⟩))
     | [t0], HI, HY2 =>
      obtain ⟨⟨hi, hn⟩, rfl⟩ := HI.out
      obtain rfl : i = 1 := hi
      obtain rfl : n = 1 := by simp at hn; omega
      have HY3 := HY2.out
      rw [show tcells [t0] = #[.int .i64 t0.f0, .string t0.f1, .string t0.f2, .int .i64 0, .string ⟨#[]⟩, .string ⟨#[]⟩, .int .i64 0, .string ⟨#[]⟩, .string ⟨#[]⟩] from rfl] at HY3
      replace HY2 := Ad.mk HY3
      clear HY3
      have tc0 := (blk_cell HY2.out.tc 3).trans (show _ = some (.int .i64 0) from rfl)
      have tc1 := (blk_cell HY2.out.tc 4).trans (show _ = some (.string ⟨#[]⟩) from rfl)
      have tc2 := (blk_cell HY2.out.tc 5).trans (show _ = some (.string ⟨#[]⟩) from rfl)
      have HTE := Ad.mk (show tcells [t0, ⟨a1, a2, a3⟩] = #[.int .i64 t0.f0, .string t0.f1, .string t0.f2, .int .i64 a1, .string a2, .string a3, .int .i64 0, .string ⟨#[]⟩, .string ⟨#[]⟩] from rfl)
      clear HI hn
      go_region
      all_goals (go_wp2; go_roundg 2; (case measure => omega); (case rel => exact ⟨2, 1, [t0, ⟨a1, a2, a3⟩], A4, c4, l4, rfl, ⟨⟨rfl, rfl⟩, rfl⟩, AN, ⟨by rw [HTE.out]; repeat (first | exact HY2.out | apply PY.drewN | apply PY.drew | refine PY.set (A := A1) (c := c1) (ls := l1) ?_ (fun W => HQ.out W _ _) | refine PY.put3 (cs := #[.int .i64 t0.f0, .string t0.f1, .string t0.f2, .int .i64 0, .string ⟨#[]⟩, .string ⟨#[]⟩, .int .i64 0, .string ⟨#[]⟩, .string ⟨#[]⟩]) ?_ 3 _ _ _ (by rfl))⟩⟩))
     | [t0, t1], HI, HY2 =>
      obtain ⟨⟨hi, hn⟩, rfl⟩ := HI.out
      obtain rfl : i = 2 := hi
      obtain rfl : n = 0 := by simp at hn; omega
      have HY3 := HY2.out
      rw [show tcells [t0, t1] = #[.int .i64 t0.f0, .string t0.f1, .string t0.f2, .int .i64 t1.f0, .string t1.f1, .string t1.f2, .int .i64 0, .string ⟨#[]⟩, .string ⟨#[]⟩] from rfl] at HY3
      replace HY2 := Ad.mk HY3
      clear HY3
      have tc0 := (blk_cell HY2.out.tc 6).trans (show _ = some (.int .i64 0) from rfl)
      have tc1 := (blk_cell HY2.out.tc 7).trans (show _ = some (.string ⟨#[]⟩) from rfl)
      have tc2 := (blk_cell HY2.out.tc 8).trans (show _ = some (.string ⟨#[]⟩) from rfl)
      have HTE := Ad.mk (show tcells [t0, t1, ⟨a1, a2, a3⟩] = #[.int .i64 t0.f0, .string t0.f1, .string t0.f2, .int .i64 t1.f0, .string t1.f1, .string t1.f2, .int .i64 a1, .string a2, .string a3] from rfl)
      clear HI hn
      go_region
      all_goals (go_wp2; go_roundg 1; (case measure => omega); (case rel => exact ⟨3, 0, [t0, t1, ⟨a1, a2, a3⟩], A4, c4, l4, rfl, ⟨⟨rfl, rfl⟩, rfl⟩, AN, ⟨by rw [HTE.out]; repeat (first | exact HY2.out | apply PY.drewN | apply PY.drew | refine PY.set (A := A1) (c := c1) (ls := l1) ?_ (fun W => HQ.out W _ _) | refine PY.put3 (cs := #[.int .i64 t0.f0, .string t0.f1, .string t0.f2, .int .i64 t1.f0, .string t1.f1, .string t1.f2, .int .i64 0, .string ⟨#[]⟩, .string ⟨#[]⟩]) ?_ 6 _ _ _ (by rfl))⟩⟩))
     | _ :: _ :: _ :: _, HI, HY2 => exact absurd HI.out.1.2 (by simp only [List.length_cons]; omega)
    | zero =>
     have hi := HI.out
     obtain ⟨t0, t1, t2, rfl⟩ : ∃ t0 t1 t2, ts = [t0, t1, t2] := by
      match ts, hi with
      | [t0, t1, t2], _ => exact ⟨t0, t1, t2, rfl⟩
      | [], hi => simp at hi
      | [_], hi => simp at hi
      | [_, _], hi => simp at hi
      | _ :: _ :: _ :: _ :: _, hi => exact absurd hi.1.2 (by simp only [List.length_cons]; omega)
     obtain rfl : i = 3 := hi.1.1
     have A0 := AR.out
     simp only [nt_Parse.rd] at A0
     cases A0
     clear HI hi AR
     have HT0 := HY.out
     rw [show tcells [t0, t1, t2] = #[.int .i64 t0.f0, .string t0.f1, .string t0.f2, .int .i64 t1.f0, .string t1.f1, .string t1.f2, .int .i64 t2.f0, .string t2.f1, .string t2.f2] from rfl] at HT0
     replace HY := Ad.mk HT0
     clear HT0
     go_upto_region 17 with (fail)
     have H := HH.out
     clear HH
     obtain ⟨m, A0, H⟩ := Option.bind_eq_some_iff.mp H
     have HM := Ad.mk A0
     clear A0
     try simp only at H
     have tc0 := (blk_cell HY.out.tc 0).trans (show _ = some (.int .i64 t0.f0) from rfl)
     have tc1 := (blk_cell HY.out.tc 1).trans (show _ = some (.string t0.f1) from rfl)
     have tc2 := (blk_cell HY.out.tc 2).trans (show _ = some (.string t0.f2) from rfl)
     have tc3 := (blk_cell HY.out.tc 3).trans (show _ = some (.int .i64 t1.f0) from rfl)
     have tc4 := (blk_cell HY.out.tc 4).trans (show _ = some (.string t1.f1) from rfl)
     have tc5 := (blk_cell HY.out.tc 5).trans (show _ = some (.string t1.f2) from rfl)
     have tc6 := (blk_cell HY.out.tc 6).trans (show _ = some (.int .i64 t2.f0) from rfl)
     have tc7 := (blk_cell HY.out.tc 7).trans (show _ = some (.string t2.f1) from rfl)
     have tc8 := (blk_cell HY.out.tc 8).trans (show _ = some (.string t2.f2) from rfl)
     cases m with
     | false =>
      rw [if_neg (by decide)] at H
      simp only [Option.some.injEq, Prod.mk.injEq] at H
      obtain ⟨rfl, rfl, rfl⟩ := H
      go_wp2_with (go_at_call 12; refine (term_MayAdd.calls k1 t0.f0 t0.f1 t0.f2 t1.f0 t1.f1 t1.f2 t2.f0 t2.f1 t2.f2 false _ HM.out).mono ?_; rintro e w9 ⟨rfl, hb⟩; have HY9 := Ad.mk (HY.out.lower hb); clear HY hb tc0 tc1 tc2 tc3 tc4 tc5 tc6 tc7 tc8; skip)
      go_ret3
      exact ⟨_, rfl, Kd.R_nil _ _ _ _ _, HY9.out.px.below⟩
     | true =>
      rw [if_pos rfl] at H
      by_cases c4 : 0 < l1.length
      case neg =>
       rw [if_neg c4] at H
       simp only [Option.some.injEq, Prod.mk.injEq] at H
       obtain ⟨rfl, rfl, rfl⟩ := H
       obtain rfl : l1 = [] := List.length_eq_zero_iff.mp (by omega)
       clear c4
       go_wp2_with (first | (go_at_call 12; refine (term_MayAdd.calls k1 t0.f0 t0.f1 t0.f2 t1.f0 t1.f1 t1.f2 t2.f0 t2.f1 t2.f2 true _ HM.out).mono ?_; rintro e w9 ⟨rfl, hb⟩; have HY9 := Ad.mk (HY.out.lower hb); clear HY hb tc0 tc1 tc2 tc3 tc4 tc5 tc6 tc7 tc8; have hl0 := (blk_cell HY9.out.px.lc 0).trans (show _ = some (.slice A1 ([] : List S56).length c1) from rfl)) | (go_at_call 18; refine (nt_Parse.place HY9.out.px).mono ?_; rintro e w10 ⟨rfl, rfl⟩))
       go_ret3
       exact ⟨_, rfl, Kd.R_nil _ _ _ _ _, HY9.out.px.below⟩
      rw [if_pos c4] at H
      obtain ⟨q, A0, H⟩ := Option.bind_eq_some_iff.mp H
      have HK := Ad.mk A0
      clear A0
      try simp only at H
      obtain ⟨ad, rfl, _⟩ := at0_l HY.out.px.reads.2 c4
      have hn0 : (l1.length == 0) = false := beq_eq_false_iff_ne.mpr (by omega)
      have hn1 : decide ((l1.length : Int) = 0) = false := decide_eq_false (by omega)
      have hn2 : (0 < l1.length) = True := eq_true c4
      have hn3 : (l1 = []) = False := eq_false (by intro h; rw [h] at c4; simp at c4)
      have HN := Ad.mk c4
      clear c4
      cases q with
      | false =>
       rw [if_neg (by decide)] at H
       simp only [Option.some.injEq, Prod.mk.injEq] at H
       obtain ⟨rfl, rfl, rfl⟩ := H
       go_wp2_with (first | (go_at_call 12; refine (term_MayAdd.calls k1 t0.f0 t0.f1 t0.f2 t1.f0 t1.f1 t1.f2 t2.f0 t2.f1 t2.f2 true _ HM.out).mono ?_; rintro e w9 ⟨rfl, hb⟩; have HY9 := Ad.mk (HY.out.lower hb); clear HY hb tc0 tc1 tc2 tc3 tc4 tc5 tc6 tc7 tc8; have hl0 := (blk_cell HY9.out.px.lc 0).trans (show _ = some (.slice (some ad) l1.length c1) from rfl); obtain ⟨ad_, hae, y0, y1, y2, y3, y4, y5⟩ := at0_l HY9.out.px.reads.2 HN.out; cases hae) | (go_at_call 20; refine (lex_Mark.calls ((rd_T56 l1 0).f0) ((rd_T56 l1 0).f1) ((rd_T56 l1 0).f2.f0) ((rd_T56 l1 0).f2.f1) ((rd_T56 l1 0).f2.f2) ((rd_T56 l1 0).f3) (⟨#[46]⟩ : ByteArray) false _ HK.out).mono ?_; rintro e w10 ⟨rfl, hb⟩; have HY10 := Ad.mk (HY9.out.lower hb); clear HY9 hb hl0 y0 y1 y2 y3 y4 y5) | (go_at_call 18; refine (nt_Parse.place HY10.out.px).mono ?_; rintro e w11 ⟨rfl, rfl⟩))
       go_ret3
       exact ⟨_, rfl, Kd.R_nil _ _ _ _ _, HY10.out.px.below⟩
      | true =>
       rw [if_pos rfl] at H
       by_cases c5 : out.length < 1172812402960
       case neg => rw [if_neg c5] at H; cases H
       rw [if_pos c5] at H
       have LM := Ad.mk c5
       have HH := Ad.mk H
       clear c5 H
       go_upto_region 21 with (first | (go_at_call 12; refine (term_MayAdd.calls k1 t0.f0 t0.f1 t0.f2 t1.f0 t1.f1 t1.f2 t2.f0 t2.f1 t2.f2 true _ HM.out).mono ?_; rintro e w9 ⟨rfl, hb⟩; have HY9 := Ad.mk (HY.out.lower hb); clear HY hb tc0 tc1 tc2 tc3 tc4 tc5 tc6 tc7 tc8; have hl0 := (blk_cell HY9.out.px.lc 0).trans (show _ = some (.slice (some ad) l1.length c1) from rfl); obtain ⟨ad_, hae, y0, y1, y2, y3, y4, y5⟩ := at0_l HY9.out.px.reads.2 HN.out; cases hae) | (go_at_call 20; refine (lex_Mark.calls ((rd_T56 l1 0).f0) ((rd_T56 l1 0).f1) ((rd_T56 l1 0).f2.f0) ((rd_T56 l1 0).f2.f1) ((rd_T56 l1 0).f2.f2) ((rd_T56 l1 0).f3) (⟨#[46]⟩ : ByteArray) true _ HK.out).mono ?_; rintro e w10 ⟨rfl, hb⟩; have HY10 := Ad.mk (HY9.out.lower hb); clear HY9 hb hl0 y0 y1 y2 y3 y4 y5) | fail)
       have HX := Ad.mk (HY10.out.px.mono (ok' := (fun k => k ≠ gs ∧ k ≠ gl)) (fun k hk => hk.1) (fun k hk => hk))
       have HT := Ad.mk HY10.out.tc
       have n5 := HY10.out.tl
       clear HY10
       obtain ⟨A4, c4, hcut_, hq⟩ := cut_l (A := some ad) (c := c1) (ls := l1) 1 (by decide) (by have := HN.out; omega) HX.out.reads.1
       have H := HH.out
       clear HH
       obtain ⟨l4, hl4⟩ : ∃ l, l = l1.drop 1 := ⟨_, rfl⟩
       rw [show ((1 : Int)).toNat = 1 from rfl] at hcut_ hq
       rw [← hl4] at hcut_ hq H
       have HH := Ad.mk H
       clear H hl4
       have HQ := Ad.mk hq
       clear hq
       have hl0 := (blk_cell HX.out.lc 0).trans (show _ = some (.slice (some ad) l1.length c1) from rfl)
       have tc0 := (blk_cell HT.out 0).trans (show _ = some (.int .i64 t0.f0) from rfl)
       have tc1 := (blk_cell HT.out 1).trans (show _ = some (.string t0.f1) from rfl)
       have tc2 := (blk_cell HT.out 2).trans (show _ = some (.string t0.f2) from rfl)
       have tc3 := (blk_cell HT.out 3).trans (show _ = some (.int .i64 t1.f0) from rfl)
       have tc4 := (blk_cell HT.out 4).trans (show _ = some (.string t1.f1) from rfl)
       have tc5 := (blk_cell HT.out 5).trans (show _ = some (.string t1.f2) from rfl)
       have tc6 := (blk_cell HT.out 6).trans (show _ = some (.int .i64 t2.f0) from rfl)
       have tc7 := (blk_cell HT.out 7).trans (show _ = some (.string t2.f1) from rfl)
       have tc8 := (blk_cell HT.out 8).trans (show _ = some (.string t2.f2) from rfl)
       have lf := fun i => blk_frozen HX.out.lc i
       have n6 := Ne.symm n5
       have hgl0 := (blk_lt HX.out.lc)
       go_region_law (repeat (rw [← World.alloc_drew]);  (refine Kd.R_append_step k38 (w0 := w) w.heap.size rfl (.tmp 71) (.tmp 73) 22 38 (.agg #[.int .i64 0, .string ⟨#[]⟩, .string ⟨#[]⟩, .int .i64 0, .string ⟨#[]⟩, .string ⟨#[]⟩, .int .i64 0, .string ⟨#[]⟩, .string ⟨#[]⟩]) 120 rfl Tryd.underlying22 nt_Parse.info rfl (by decide) (by omega) _ out (⟨t0, t1, t2⟩ : S38) [.int .i64 t0.f0, .string t0.f1, .string t0.f2, .int .i64 t1.f0, .string t1.f1, .string t1.f2, .int .i64 t2.f0, .string t2.f1, .string t2.f2] (fun k => k ≠ gs ∧ k ≠ gl) (fun _ => False) rfl (by first | (go_simp; done) | (go_simp; rfl)) ?aP (fun _ hk => hk.elim) ?aF ?aO ?aB ?aS ?aL ?_); (case aP => exact k38_mkM _ _ _ (⟨t0, t1, t2⟩ : S38)); (case aB => first | exact PX.below (A := some ad) (c := c1) (ls := l1) z28_ | exact PX.below (A := A4) (c := c4) (ls := l4) z28_); (case aF => first | exact PX.fresh (A := some ad) (c := c1) (ls := l1) z28_ | exact PX.fresh (A := A4) (c := c4) (ls := l4) z28_); (case aO => first | exact PX.outr (A := some ad) (c := c1) (ls := l1) z28_ | exact PX.outr (A := A4) (c := c4) (ls := l4) z28_); (case aS => first | exact PX.sz (A := some ad) (c := c1) (ls := l1) z28_ | exact PX.sz (A := A4) (c := c4) (ls := l4) z28_); (case aL => have := LM.out; omega); intro v1 w11 ho hb hg hat; (first | (have HZ := Ad.mk (PX.app (A := some ad) (c := c1) (ls := l1) z28_ (fun k hk => hk) (fun k hk => hk) ho hb hg); have hl1 := (blk_cell HZ.out.lc 0).trans (show _ = some (.slice (some ad) l1.length c1) from rfl); have lf1 := fun i => blk_frozen HZ.out.lc i) | have HZ := Ad.mk (PX.app (A := A4) (c := c4) (ls := l4) z28_ (fun k hk => hk) (fun k hk => hk) ho hb hg)); clear ho hb hg hat)
       all_goals (go_wp2; go_roundg k1; (case measure => have := HK1.out; omega); (case rel => exact ⟨_, A4, c4, l4, out ++ [(⟨t0, t1, t2⟩ : S38)], rfl, HH, ⟨by have := HK1.out; omega⟩, ⟨by repeat (first | exact HZ.out | apply PX.drewN | apply PX.drew | refine PX.set (A := some ad) (c := c1) (ls := l1) ?_ (fun W => HQ.out W _ _))⟩⟩))
def w5_known.f (k : Nat)  : Option (Bool) := (nt_Parse.f k (⟨#[60, 97, 62, 32, 60, 98, 62, 32, 34, 99, 34, 32, 46, 32, 35, 32, 100]⟩ : ByteArray)).bind fun bt286 => ((nt_Parse.f k (⟨#[60, 97, 62, 32, 34, 98, 34, 32, 60, 99, 62, 32, 46]⟩ : ByteArray)).bind fun bt291 => ((w5_num.f bt286.2.2).bind fun t296 => (if t296 = 0 then (if (bt286.1.length : Int) = 1 then (if 0 < (bt286.1.length : Int) then (if (((rd_T38 bt286.1 0).f2.f0) == 3 && ((((rd_T38 bt286.1 0).f2.f1).toList) == ([99] : List UInt8) && ((((rd_T38 bt286.1 0).f2.f2).toList) == ([] : List UInt8)))) = true then ((w5_num.f bt291.2.2).bind fun t298 => (if t298 = 4 then (some (bt291.2.1 == 0)) else (none))) else (none)) else (none)) else (none)) else (none))))
theorem w5_known.mono : ∀ k, LeO (w5_known.f k ) (w5_known.f (k + 1) ) := by
 intro  k
 unfold w5_known.f
 repeat' first
   | (with_reducible exact nt_Parse.mono _ _)
   | (with_reducible exact LeO.refl _)
   | (with_reducible exact LeO.none _)
   | (with_reducible refine LeO.ite ?_ ?_)
   | (with_reducible refine LeO.bind ?_ (fun _ => ?_))
   | exact nt_Parse.mono _ _
   | exact LeO.none _
   | refine LeO.ite ?_ ?_
   | refine LeO.bind ?_ (fun _ => ?_)
theorem w5_known.calls (k : Nat)  (r : Bool) (w : World) (h : w5_known.f k  = some r) :
  Calls Tryd.prog 5 #[] w fun e w' => e = .returned (.bool r) ∧ Below w.heap.size w w' := by
 have hu36 := Tryd.underlying36
 have HB := Ad.mk (Below.refl w.heap.size w)
 have H := h
 clear h
 unfold w5_known.f at H
 obtain ⟨⟨t286, t287, t288⟩, A1, H⟩ := bi_ H
 try dsimp only at H
 obtain ⟨⟨t291, t292, t293⟩, A2, H⟩ := bi_ H
 try dsimp only at H
 obtain ⟨t296, A3, H⟩ := bi_ H
 by_cases c4 : t296 = 0
 ·rw [if_pos c4] at H
  have c4b0 := beq_iff_eq.mpr c4
  have c4b1 := bne_eq_false_iff_eq.mpr c4
  clear c4
  by_cases c5 : (t286.length : Int) = 1
  ·rw [if_pos c5] at H
   have c5b0 := beq_iff_eq.mpr c5
   have c5b1 := bne_eq_false_iff_eq.mpr c5
   clear c5
   by_cases c6 : 0 < (t286.length : Int)
   ·rw [if_pos c6] at H
    have c6b0 := decide_eq_true c6
    have c6b1 : decide (0 < t286.length) = true := decide_eq_true (by omega)
    clear c6
    by_cases c7 : (((rd_T38 t286 0).f2.f0) == 3 && ((((rd_T38 t286 0).f2.f1).toList) == ([99] : List UInt8) && ((((rd_T38 t286 0).f2.f2).toList) == ([] : List UInt8)))) = true
    ·rw [if_pos c7] at H
     have c7b0 : (((rd_T38 t286 0).f2.f0) == 3 && ((((rd_T38 t286 0).f2.f1).toList) == ([99] : List UInt8) && ((((rd_T38 t286 0).f2.f2).toList) == ([] : List UInt8)))) = true := c7
     (try (have c7b1 : decide (((rd_T38 t286 0).f2.f0) = 3 && ((((rd_T38 t286 0).f2.f1).toList) == ([99] : List UInt8) && ((((rd_T38 t286 0).f2.f2).toList) == ([] : List UInt8)))) = true := by simpa using c7))
     (try (have c7b2 : (((rd_T38 t286 0).f2.f0) == 3 && ((((rd_T38 t286 0).f2.f1).toList) == ([99] : List UInt8) && ((((rd_T38 t286 0).f2.f2).toList) == ([] : List UInt8)))) = true := by simpa using c7))
     (try (have c7b9 : (((rd_T38 t286 0).f2.f0) == 3 && ((((rd_T38 t286 0).f2.f1).toList) == ([99] : List UInt8) && ((((rd_T38 t286 0).f2.f2).toList).isEmpty))) = true := by simpa using c7))
     clear c7
     obtain ⟨t298, A8, H⟩ := bi_ H
     by_cases c9 : t298 = 4
     ·rw [if_pos c9] at H
      have c9b0 := beq_iff_eq.mpr c9
      have c9b1 := bne_eq_false_iff_eq.mpr c9
      clear c9
      obtain rfl := Option.some.inj H
      go_enter Tryd.func5, Tryd.ntmps5
      go_wp2_with (first | ((with_reducible refine gate_callee (f := 9) rfl ?_); refine goesL_ (some 8) rfl rfl Tryd.func9 k1_ rfl #[.string ⟨#[60, 97, 62, 32, 60, 98, 62, 32, 34, 99, 34, 32, 46, 32, 35, 32, 100]⟩] rfl g1_ ?_; (with_reducible refine (nt_Parse.calls k (⟨#[60, 97, 62, 32, 60, 98, 62, 32, 34, 99, 34, 32, 46, 32, 35, 32, 100]⟩ : ByteArray) t286 t287 t288 _ A1.out).mono ?_); rintro e w10 ⟨v289, rfl, ho0, hb⟩; refine ⟨_, rfl, ?_⟩; have HO290 := Ad.mk (Kd.R_lower ho0 (below_size b1_)); replace HB := Ad.mk (below_step b1_ hb); (try clear hb); (try clear hb2); (try clear hk); (try clear hi); (try clear ho0)) | ((with_reducible refine gate_callee (f := 9) rfl ?_); refine goesL_ (some 13) rfl rfl Tryd.func9 k1_ rfl #[.string ⟨#[60, 97, 62, 32, 34, 98, 34, 32, 60, 99, 62, 32, 46]⟩] rfl g1_ ?_; (with_reducible refine (nt_Parse.calls k (⟨#[60, 97, 62, 32, 34, 98, 34, 32, 60, 99, 62, 32, 46]⟩ : ByteArray) t291 t292 t293 _ A2.out).mono ?_); rintro e w11 ⟨v294, rfl, ho0, hb⟩; refine ⟨_, rfl, ?_⟩; have HO295 := Ad.mk (Kd.R_lower (Kd.R_new' ho0 (Kd.R_lt (by have G0 := HO290; exact z1_))) (below_size b1_)); replace HO290 := Ad.mk (Kd.R_elder' (by have G0 := HO290; exact z1_) (Kd.R_base ho0) hb); replace HB := Ad.mk (below_step b1_ hb); (try clear hb); (try clear hb2); (try clear hk); (try clear hi); (try clear ho0)) | ((with_reducible refine gate_callee (f := 8) rfl ?_); refine goesL_ (some 18) rfl rfl Tryd.func8 k1_ rfl #[.int .i64 t288] rfl g1_ ?_; (with_reducible refine (w5_num.calls t288 t296 _ A3.out).mono ?_); rintro e w' ⟨rfl, ⟨nd, rfl⟩⟩; refine ⟨_, rfl, ?_⟩; obtain ⟨Ao12, co12, eo12⟩ := Kd.R_slice HO290.out; subst eo12; have p297 : 0 ≤ (0 : Int) := (by omega); have q297 : 0 < (t286.length : Int) := of_decide_eq_true a1_; obtain ⟨ad297, e297, hx297_0, hx297_1, hx297_2, hx297_3, hx297_4, hx297_5, hx297_6, hx297_7, hx297_8⟩ := at_T38 (Kd.R_reads' HO290.out).2.2 0 p297 q297; cases e297; have qi297 : (0 < t286.length) = True := eq_true (by omega); (try simp only [show ((0 : Int)).toNat = 0 from rfl, show 0 * 9 = 0 from rfl, Addr.add_zero'] at hx297_0 hx297_1 hx297_2 hx297_3 hx297_4 hx297_5 hx297_6 hx297_7 hx297_8); replace p297 := eq_true p297; replace q297 := eq_true q297) | (go_at_call 8; (with_reducible refine (w5_num.calls t293 t298 _ A8.out).mono ?_); rintro e w' ⟨rfl, ⟨nd, rfl⟩⟩))
      go_ret
      exact ⟨e2_, b1_⟩
     rw [if_neg c9] at H
     exact absurd H (by simp)
    rw [if_neg c7] at H
    exact absurd H (by simp)
   rw [if_neg c6] at H
   exact absurd H (by simp)
  rw [if_neg c5] at H
  exact absurd H (by simp)
 rw [if_neg c4] at H
 exact absurd H (by simp)
def tms (x : S38) : List S36 := [x.f0, x.f1, x.f2]
def muchGo : List S36 → Int → Option Int
 | [], n => some n
 | t :: ts, n => if n + mn t.f1.size 30001 + mn t.f2.size 30001 > 30000 then none else muchGo ts (n + mn t.f1.size 30001 + mn t.f2.size 30001)
def muchB (l : List S38) (most : Int) : Bool := (muchGo ((l.take (most + 1).toNat).flatMap tms) 0).isNone || decide ((l.length : Int) > most)
theorem getD_lt {α : Type} {xs : List α} {j : Nat} (z : α) (w : Nat) (h : j < xs.length) : xs.getD j z = xs[j] := by simp [List.getD_eq_getElem?_getD, List.getElem?_eq_getElem h]
theorem wrap64_small {n : Int} (h0 : 0 ≤ n) (h1 : n ≤ 9223372036854775807) : wrap64 n = n := by unfold wrap64; omega
theorem muchGo_step {t : S36} {ts : List S36} {n m1 m2 : Int} (h1 : mn t.f1.size 30001 = m1) (h2 : mn t.f2.size 30001 = m2) : muchGo (t :: ts) n = if n + m1 + m2 > 30000 then none else muchGo ts (n + m1 + m2) := by subst h1; subst h2; rfl
theorem mn_pos {a b : Int} (h : b < a) : mn a b = b := if_pos h
theorem mn_neg {a b : Int} (h : ¬ b < a) : mn a b = a := if_neg h
def g2_Much.f (l0 : List S38) (a1 : Int) : Option Bool := some (muchB l0 a1)
set_option maxRecDepth 100000 in
set_option maxHeartbeats 2000000 in
theorem g2_Much.calls (A0 : Option Addr) (c0 : Nat) (l0 : List S38) (a1 : Int) (r : Bool) (w : World) (hr0 : Kd.C k38 w A0 l0.length l0) (hc0 : l0.length ≤ c0) (h : g2_Much.f l0 a1 = some r) :
  Calls Tryd.prog 6 #[.slice A0 l0.length c0, .int .i64 a1] w fun e w' => e = .returned (.bool r) ∧ Drawn0 w w' := by
 obtain rfl := Option.some.inj h
 clear h
 have hlen : l0.length ≤ 9223372036854775807 := hr0.2.1
 have HR0 := Ad.mk hr0
 clear hr0 hc0
 have HH : Ad (muchGo ((l0.take (a1 + 1).toNat).flatMap tms) 0 = muchGo (((l0.take (a1 + 1).toNat).drop 0).flatMap tms) 0) := ⟨rfl⟩
 go_enter Tryd.func6, Tryd.ntmps6
 go_wp2
 go_loopg [5, 6] l0.length (fun g s5 s6 wr => ∃ (i n : Int), s5 = .int .i64 n ∧ s6 = .int .i64 i ∧ 0 ≤ i ∧ i ≤ l0.length ∧ g = l0.length - i.toNat ∧ Ad (0 ≤ n ∧ n ≤ 30000) ∧ Ad (muchGo ((l0.take (a1 + 1).toNat).flatMap tms) 0 = muchGo (((l0.take (a1 + 1).toNat).drop i.toNat).flatMap tms) n) ∧ Ad (Drawn0 w wr))
 case atStart => exact ⟨0, 0, rfl, rfl, by omega, by omega, by omega, ⟨by omega⟩, HH, ⟨Drawn0.refl w⟩⟩
 case round =>
  clear HH
  obtain ⟨i, n, rfl, rfl, hi0, hi, rfl, hn, HG, HD⟩ := hrel
  by_cases c1 : i < (l0.length : Int)
  ·have c1b : decide (i < (l0.length : Int)) = true := decide_eq_true c1
   by_cases c2 : i ≤ a1
   ·have c2b : decide (i ≤ a1) = true := decide_eq_true c2
    have hlt : i.toNat < l0.length := by omega
    have hd : (l0.take (a1 + 1).toNat).drop i.toNat = rd_T38 l0 i :: (l0.take (a1 + 1).toNat).drop (i.toNat + 1) := by
     have h1 : i.toNat < (l0.take (a1 + 1).toNat).length := by simp; omega
     rw [List.drop_eq_getElem_cons h1, show rd_T38 l0 i = l0[i.toNat] from getD_lt _ 0 hlt]
     simp
    rw [hd] at HG
    have HK := HG.out
    clear HG
    simp only [List.flatMap_cons] at HK
    have HI : Ad (muchGo ((l0.take (a1 + 1).toNat).flatMap tms) 0 = muchGo ((tms (rd_T38 l0 i)).drop 0 ++ ((l0.take (a1 + 1).toNat).drop (i.toNat + 1)).flatMap tms) n) := ⟨HK⟩
    clear HK hd
    go_wp2
    go_loopg [5, 7] 3 (fun g s5 s7 wr => ∃ (k n : Int), s5 = .int .i64 n ∧ s7 = .int .i64 k ∧ 0 ≤ k ∧ k ≤ 3 ∧ g = 3 - k.toNat ∧ Ad (0 ≤ n ∧ n ≤ 30000) ∧ Ad (muchGo ((l0.take (a1 + 1).toNat).flatMap tms) 0 = muchGo ((tms (rd_T38 l0 i)).drop k.toNat ++ ((l0.take (a1 + 1).toNat).drop (i.toNat + 1)).flatMap tms) n) ∧ Ad (Drawn0 w wr))
    case atStart => exact ⟨0, n, rfl, rfl, by omega, by omega, by omega, hn, HI, HD⟩
    case round =>
     clear HI HD hn
     obtain ⟨k, n, rfl, rfl, hk0, hk, rfl, hn, HI, HD⟩ := hrel
     by_cases c3 : k < 3
     ·have c3b : decide (k < 3) = true := decide_eq_true c3
      have p8 : (0 ≤ i) = True := eq_true hi0
      have q8 : (i < (l0.length : Int)) = True := eq_true c1
      obtain ⟨ad, e, hx0, hx1, hx2, hx3, hx4, hx5, hx6, hx7, hx8⟩ := at_T38 HR0.out i hi0 c1
      cases e
      have HB := HD.out.below
      replace hx1 := (HB.cell (World.block_lt_of_cell? w _ hx1)).trans hx1
      replace hx2 := (HB.cell (World.block_lt_of_cell? w _ hx2)).trans hx2
      replace hx4 := (HB.cell (World.block_lt_of_cell? w _ hx4)).trans hx4
      replace hx5 := (HB.cell (World.block_lt_of_cell? w _ hx5)).trans hx5
      replace hx7 := (HB.cell (World.block_lt_of_cell? w _ hx7)).trans hx7
      replace hx8 := (HB.cell (World.block_lt_of_cell? w _ hx8)).trans hx8
      clear hx0 hx3 hx6
      have hk3 : k = 0 ∨ k = 1 ∨ k = 2 := by omega
      rcases hk3 with rfl | rfl | rfl
      ·by_cases d1 : (30001 : Int) < ((rd_T38 l0 i).f0.f1.size : Int)
       ·have hm1 := mn_pos d1
        have d1b := eq_true d1
        by_cases d2 : (30001 : Int) < ((rd_T38 l0 i).f0.f2.size : Int)
        ·have hm2 := mn_pos d2
         have d2b := eq_true d2
         obtain ⟨hn0, hn1⟩ := hn.out
         have hw1 : wrap64 (n + 30001) = n + 30001 := wrap64_small (by omega) (by omega)
         have hw2 : wrap64 (n + 30001 + 30001) = n + 30001 + 30001 := wrap64_small (by omega) (by omega)
         have HS : Ad (muchGo ((l0.take (a1 + 1).toNat).flatMap tms) 0 = if n + 30001 + 30001 > 30000 then none else muchGo ((tms (rd_T38 l0 i)).drop 1 ++ ((l0.take (a1 + 1).toNat).drop (i.toNat + 1)).flatMap tms) (n + 30001 + 30001)) := ⟨HI.out.trans (muchGo_step hm1 hm2)⟩
         clear HI hm1 hm2
         by_cases c4 : 30000 < n + 30001 + 30001
         ·have c4b : decide (30000 < n + 30001 + 30001) = true := decide_eq_true c4
          have HF := HS.out
          rw [if_pos c4] at HF
          have HF2 : muchB l0 a1 = true := by unfold muchB; rw [HF]; rfl
          clear HS HF c4
          go_wp2
          repeat (go_quiet (fail); try go_wp2)
          go_ret
          exact ⟨HF2 ▸ rfl, HD.out.step _⟩
         exfalso; omega
        have hm2 := mn_neg d2
        have d2b := eq_false d2
        obtain ⟨hn0, hn1⟩ := hn.out
        have hw1 : wrap64 (n + 30001) = n + 30001 := wrap64_small (by omega) (by omega)
        have hw2 : wrap64 (n + 30001 + ((rd_T38 l0 i).f0.f2.size : Int)) = n + 30001 + ((rd_T38 l0 i).f0.f2.size : Int) := wrap64_small (by omega) (by omega)
        have HS : Ad (muchGo ((l0.take (a1 + 1).toNat).flatMap tms) 0 = if n + 30001 + ((rd_T38 l0 i).f0.f2.size : Int) > 30000 then none else muchGo ((tms (rd_T38 l0 i)).drop 1 ++ ((l0.take (a1 + 1).toNat).drop (i.toNat + 1)).flatMap tms) (n + 30001 + ((rd_T38 l0 i).f0.f2.size : Int))) := ⟨HI.out.trans (muchGo_step hm1 hm2)⟩
        clear HI hm1 hm2
        by_cases c4 : 30000 < n + 30001 + ((rd_T38 l0 i).f0.f2.size : Int)
        ·have c4b : decide (30000 < n + 30001 + ((rd_T38 l0 i).f0.f2.size : Int)) = true := decide_eq_true c4
         have HF := HS.out
         rw [if_pos c4] at HF
         have HF2 : muchB l0 a1 = true := by unfold muchB; rw [HF]; rfl
         clear HS HF c4
         go_wp2
         repeat (go_quiet (fail); try go_wp2)
         go_ret
         exact ⟨HF2 ▸ rfl, HD.out.step _⟩
        exfalso; omega
       have hm1 := mn_neg d1
       have d1b := eq_false d1
       by_cases d2 : (30001 : Int) < ((rd_T38 l0 i).f0.f2.size : Int)
       ·have hm2 := mn_pos d2
        have d2b := eq_true d2
        obtain ⟨hn0, hn1⟩ := hn.out
        have hw1 : wrap64 (n + ((rd_T38 l0 i).f0.f1.size : Int)) = n + ((rd_T38 l0 i).f0.f1.size : Int) := wrap64_small (by omega) (by omega)
        have hw2 : wrap64 (n + ((rd_T38 l0 i).f0.f1.size : Int) + 30001) = n + ((rd_T38 l0 i).f0.f1.size : Int) + 30001 := wrap64_small (by omega) (by omega)
        have HS : Ad (muchGo ((l0.take (a1 + 1).toNat).flatMap tms) 0 = if n + ((rd_T38 l0 i).f0.f1.size : Int) + 30001 > 30000 then none else muchGo ((tms (rd_T38 l0 i)).drop 1 ++ ((l0.take (a1 + 1).toNat).drop (i.toNat + 1)).flatMap tms) (n + ((rd_T38 l0 i).f0.f1.size : Int) + 30001)) := ⟨HI.out.trans (muchGo_step hm1 hm2)⟩
        clear HI hm1 hm2
        by_cases c4 : 30000 < n + ((rd_T38 l0 i).f0.f1.size : Int) + 30001
        ·have c4b : decide (30000 < n + ((rd_T38 l0 i).f0.f1.size : Int) + 30001) = true := decide_eq_true c4
         have HF := HS.out
         rw [if_pos c4] at HF
         have HF2 : muchB l0 a1 = true := by unfold muchB; rw [HF]; rfl
         clear HS HF c4
         go_wp2
         repeat (go_quiet (fail); try go_wp2)
         go_ret
         exact ⟨HF2 ▸ rfl, HD.out.step _⟩
        exfalso; omega
       have hm2 := mn_neg d2
       have d2b := eq_false d2
       obtain ⟨hn0, hn1⟩ := hn.out
       have hw1 : wrap64 (n + ((rd_T38 l0 i).f0.f1.size : Int)) = n + ((rd_T38 l0 i).f0.f1.size : Int) := wrap64_small (by omega) (by omega)
       have hw2 : wrap64 (n + ((rd_T38 l0 i).f0.f1.size : Int) + ((rd_T38 l0 i).f0.f2.size : Int)) = n + ((rd_T38 l0 i).f0.f1.size : Int) + ((rd_T38 l0 i).f0.f2.size : Int) := wrap64_small (by omega) (by omega)
       have HS : Ad (muchGo ((l0.take (a1 + 1).toNat).flatMap tms) 0 = if n + ((rd_T38 l0 i).f0.f1.size : Int) + ((rd_T38 l0 i).f0.f2.size : Int) > 30000 then none else muchGo ((tms (rd_T38 l0 i)).drop 1 ++ ((l0.take (a1 + 1).toNat).drop (i.toNat + 1)).flatMap tms) (n + ((rd_T38 l0 i).f0.f1.size : Int) + ((rd_T38 l0 i).f0.f2.size : Int))) := ⟨HI.out.trans (muchGo_step hm1 hm2)⟩
       clear HI hm1 hm2
       by_cases c4 : 30000 < n + ((rd_T38 l0 i).f0.f1.size : Int) + ((rd_T38 l0 i).f0.f2.size : Int)
       ·have c4b : decide (30000 < n + ((rd_T38 l0 i).f0.f1.size : Int) + ((rd_T38 l0 i).f0.f2.size : Int)) = true := decide_eq_true c4
        have HF := HS.out
        rw [if_pos c4] at HF
        have HF2 : muchB l0 a1 = true := by unfold muchB; rw [HF]; rfl
        clear HS HF c4
        go_wp2
        repeat (go_quiet (fail); try go_wp2)
        go_ret
        exact ⟨HF2 ▸ rfl, HD.out.step _⟩
       have c4b : decide (30000 < n + ((rd_T38 l0 i).f0.f1.size : Int) + ((rd_T38 l0 i).f0.f2.size : Int)) = false := decide_eq_false c4
       have HF := Ad.mk HS.out
       rw [if_neg c4] at HF
       clear HS
       go_wp2
       repeat (go_quiet (fail); try go_wp2)
       go_roundg (3 - 1)
       case measure => omega
       case rel => exact ⟨1, _, rfl, rfl, by omega, by omega, rfl, ⟨by omega⟩, HF, ⟨HD.out.step _⟩⟩
      ·by_cases d1 : (30001 : Int) < ((rd_T38 l0 i).f1.f1.size : Int)
       ·have hm1 := mn_pos d1
        have d1b := eq_true d1
        by_cases d2 : (30001 : Int) < ((rd_T38 l0 i).f1.f2.size : Int)
        ·have hm2 := mn_pos d2
         have d2b := eq_true d2
         obtain ⟨hn0, hn1⟩ := hn.out
         have hw1 : wrap64 (n + 30001) = n + 30001 := wrap64_small (by omega) (by omega)
         have hw2 : wrap64 (n + 30001 + 30001) = n + 30001 + 30001 := wrap64_small (by omega) (by omega)
         have HS : Ad (muchGo ((l0.take (a1 + 1).toNat).flatMap tms) 0 = if n + 30001 + 30001 > 30000 then none else muchGo ((tms (rd_T38 l0 i)).drop 2 ++ ((l0.take (a1 + 1).toNat).drop (i.toNat + 1)).flatMap tms) (n + 30001 + 30001)) := ⟨HI.out.trans (muchGo_step hm1 hm2)⟩
         clear HI hm1 hm2
         by_cases c4 : 30000 < n + 30001 + 30001
         ·have c4b : decide (30000 < n + 30001 + 30001) = true := decide_eq_true c4
          have HF := HS.out
          rw [if_pos c4] at HF
          have HF2 : muchB l0 a1 = true := by unfold muchB; rw [HF]; rfl
          clear HS HF c4
          go_wp2
          repeat (go_quiet (fail); try go_wp2)
          go_ret
          exact ⟨HF2 ▸ rfl, HD.out.step _⟩
         exfalso; omega
        have hm2 := mn_neg d2
        have d2b := eq_false d2
        obtain ⟨hn0, hn1⟩ := hn.out
        have hw1 : wrap64 (n + 30001) = n + 30001 := wrap64_small (by omega) (by omega)
        have hw2 : wrap64 (n + 30001 + ((rd_T38 l0 i).f1.f2.size : Int)) = n + 30001 + ((rd_T38 l0 i).f1.f2.size : Int) := wrap64_small (by omega) (by omega)
        have HS : Ad (muchGo ((l0.take (a1 + 1).toNat).flatMap tms) 0 = if n + 30001 + ((rd_T38 l0 i).f1.f2.size : Int) > 30000 then none else muchGo ((tms (rd_T38 l0 i)).drop 2 ++ ((l0.take (a1 + 1).toNat).drop (i.toNat + 1)).flatMap tms) (n + 30001 + ((rd_T38 l0 i).f1.f2.size : Int))) := ⟨HI.out.trans (muchGo_step hm1 hm2)⟩
        clear HI hm1 hm2
        by_cases c4 : 30000 < n + 30001 + ((rd_T38 l0 i).f1.f2.size : Int)
        ·have c4b : decide (30000 < n + 30001 + ((rd_T38 l0 i).f1.f2.size : Int)) = true := decide_eq_true c4
         have HF := HS.out
         rw [if_pos c4] at HF
         have HF2 : muchB l0 a1 = true := by unfold muchB; rw [HF]; rfl
         clear HS HF c4
         go_wp2
         repeat (go_quiet (fail); try go_wp2)
         go_ret
         exact ⟨HF2 ▸ rfl, HD.out.step _⟩
        exfalso; omega
       have hm1 := mn_neg d1
       have d1b := eq_false d1
       by_cases d2 : (30001 : Int) < ((rd_T38 l0 i).f1.f2.size : Int)
       ·have hm2 := mn_pos d2
        have d2b := eq_true d2
        obtain ⟨hn0, hn1⟩ := hn.out
        have hw1 : wrap64 (n + ((rd_T38 l0 i).f1.f1.size : Int)) = n + ((rd_T38 l0 i).f1.f1.size : Int) := wrap64_small (by omega) (by omega)
        have hw2 : wrap64 (n + ((rd_T38 l0 i).f1.f1.size : Int) + 30001) = n + ((rd_T38 l0 i).f1.f1.size : Int) + 30001 := wrap64_small (by omega) (by omega)
        have HS : Ad (muchGo ((l0.take (a1 + 1).toNat).flatMap tms) 0 = if n + ((rd_T38 l0 i).f1.f1.size : Int) + 30001 > 30000 then none else muchGo ((tms (rd_T38 l0 i)).drop 2 ++ ((l0.take (a1 + 1).toNat).drop (i.toNat + 1)).flatMap tms) (n + ((rd_T38 l0 i).f1.f1.size : Int) + 30001)) := ⟨HI.out.trans (muchGo_step hm1 hm2)⟩
        clear HI hm1 hm2
        by_cases c4 : 30000 < n + ((rd_T38 l0 i).f1.f1.size : Int) + 30001
        ·have c4b : decide (30000 < n + ((rd_T38 l0 i).f1.f1.size : Int) + 30001) = true := decide_eq_true c4
         have HF := HS.out
         rw [if_pos c4] at HF
         have HF2 : muchB l0 a1 = true := by unfold muchB; rw [HF]; rfl
         clear HS HF c4
         go_wp2
         repeat (go_quiet (fail); try go_wp2)
         go_ret
         exact ⟨HF2 ▸ rfl, HD.out.step _⟩
        exfalso; omega
       have hm2 := mn_neg d2
       have d2b := eq_false d2
       obtain ⟨hn0, hn1⟩ := hn.out
       have hw1 : wrap64 (n + ((rd_T38 l0 i).f1.f1.size : Int)) = n + ((rd_T38 l0 i).f1.f1.size : Int) := wrap64_small (by omega) (by omega)
       have hw2 : wrap64 (n + ((rd_T38 l0 i).f1.f1.size : Int) + ((rd_T38 l0 i).f1.f2.size : Int)) = n + ((rd_T38 l0 i).f1.f1.size : Int) + ((rd_T38 l0 i).f1.f2.size : Int) := wrap64_small (by omega) (by omega)
       have HS : Ad (muchGo ((l0.take (a1 + 1).toNat).flatMap tms) 0 = if n + ((rd_T38 l0 i).f1.f1.size : Int) + ((rd_T38 l0 i).f1.f2.size : Int) > 30000 then none else muchGo ((tms (rd_T38 l0 i)).drop 2 ++ ((l0.take (a1 + 1).toNat).drop (i.toNat + 1)).flatMap tms) (n + ((rd_T38 l0 i).f1.f1.size : Int) + ((rd_T38 l0 i).f1.f2.size : Int))) := ⟨HI.out.trans (muchGo_step hm1 hm2)⟩
       clear HI hm1 hm2
       by_cases c4 : 30000 < n + ((rd_T38 l0 i).f1.f1.size : Int) + ((rd_T38 l0 i).f1.f2.size : Int)
       ·have c4b : decide (30000 < n + ((rd_T38 l0 i).f1.f1.size : Int) + ((rd_T38 l0 i).f1.f2.size : Int)) = true := decide_eq_true c4
        have HF := HS.out
        rw [if_pos c4] at HF
        have HF2 : muchB l0 a1 = true := by unfold muchB; rw [HF]; rfl
        clear HS HF c4
        go_wp2
        repeat (go_quiet (fail); try go_wp2)
        go_ret
        exact ⟨HF2 ▸ rfl, HD.out.step _⟩
       have c4b : decide (30000 < n + ((rd_T38 l0 i).f1.f1.size : Int) + ((rd_T38 l0 i).f1.f2.size : Int)) = false := decide_eq_false c4
       have HF := Ad.mk HS.out
       rw [if_neg c4] at HF
       clear HS
       go_wp2
       repeat (go_quiet (fail); try go_wp2)
       go_roundg (3 - 2)
       case measure => omega
       case rel => exact ⟨2, _, rfl, rfl, by omega, by omega, rfl, ⟨by omega⟩, HF, ⟨HD.out.step _⟩⟩
      by_cases d1 : (30001 : Int) < ((rd_T38 l0 i).f2.f1.size : Int)
      ·have hm1 := mn_pos d1
       have d1b := eq_true d1
       by_cases d2 : (30001 : Int) < ((rd_T38 l0 i).f2.f2.size : Int)
       ·have hm2 := mn_pos d2
        have d2b := eq_true d2
        obtain ⟨hn0, hn1⟩ := hn.out
        have hw1 : wrap64 (n + 30001) = n + 30001 := wrap64_small (by omega) (by omega)
        have hw2 : wrap64 (n + 30001 + 30001) = n + 30001 + 30001 := wrap64_small (by omega) (by omega)
        have HS : Ad (muchGo ((l0.take (a1 + 1).toNat).flatMap tms) 0 = if n + 30001 + 30001 > 30000 then none else muchGo ((tms (rd_T38 l0 i)).drop 3 ++ ((l0.take (a1 + 1).toNat).drop (i.toNat + 1)).flatMap tms) (n + 30001 + 30001)) := ⟨HI.out.trans (muchGo_step hm1 hm2)⟩
        clear HI hm1 hm2
        by_cases c4 : 30000 < n + 30001 + 30001
        ·have c4b : decide (30000 < n + 30001 + 30001) = true := decide_eq_true c4
         have HF := HS.out
         rw [if_pos c4] at HF
         have HF2 : muchB l0 a1 = true := by unfold muchB; rw [HF]; rfl
         clear HS HF c4
         go_wp2
         repeat (go_quiet (fail); try go_wp2)
         go_ret
         exact ⟨HF2 ▸ rfl, HD.out.step _⟩
        exfalso; omega
       have hm2 := mn_neg d2
       have d2b := eq_false d2
       obtain ⟨hn0, hn1⟩ := hn.out
       have hw1 : wrap64 (n + 30001) = n + 30001 := wrap64_small (by omega) (by omega)
       have hw2 : wrap64 (n + 30001 + ((rd_T38 l0 i).f2.f2.size : Int)) = n + 30001 + ((rd_T38 l0 i).f2.f2.size : Int) := wrap64_small (by omega) (by omega)
       have HS : Ad (muchGo ((l0.take (a1 + 1).toNat).flatMap tms) 0 = if n + 30001 + ((rd_T38 l0 i).f2.f2.size : Int) > 30000 then none else muchGo ((tms (rd_T38 l0 i)).drop 3 ++ ((l0.take (a1 + 1).toNat).drop (i.toNat + 1)).flatMap tms) (n + 30001 + ((rd_T38 l0 i).f2.f2.size : Int))) := ⟨HI.out.trans (muchGo_step hm1 hm2)⟩
       clear HI hm1 hm2
       by_cases c4 : 30000 < n + 30001 + ((rd_T38 l0 i).f2.f2.size : Int)
       ·have c4b : decide (30000 < n + 30001 + ((rd_T38 l0 i).f2.f2.size : Int)) = true := decide_eq_true c4
        have HF := HS.out
        rw [if_pos c4] at HF
        have HF2 : muchB l0 a1 = true := by unfold muchB; rw [HF]; rfl
        clear HS HF c4
        go_wp2
        repeat (go_quiet (fail); try go_wp2)
        go_ret
        exact ⟨HF2 ▸ rfl, HD.out.step _⟩
       exfalso; omega
      have hm1 := mn_neg d1
      have d1b := eq_false d1
      by_cases d2 : (30001 : Int) < ((rd_T38 l0 i).f2.f2.size : Int)
      ·have hm2 := mn_pos d2
       have d2b := eq_true d2
       obtain ⟨hn0, hn1⟩ := hn.out
       have hw1 : wrap64 (n + ((rd_T38 l0 i).f2.f1.size : Int)) = n + ((rd_T38 l0 i).f2.f1.size : Int) := wrap64_small (by omega) (by omega)
       have hw2 : wrap64 (n + ((rd_T38 l0 i).f2.f1.size : Int) + 30001) = n + ((rd_T38 l0 i).f2.f1.size : Int) + 30001 := wrap64_small (by omega) (by omega)
       have HS : Ad (muchGo ((l0.take (a1 + 1).toNat).flatMap tms) 0 = if n + ((rd_T38 l0 i).f2.f1.size : Int) + 30001 > 30000 then none else muchGo ((tms (rd_T38 l0 i)).drop 3 ++ ((l0.take (a1 + 1).toNat).drop (i.toNat + 1)).flatMap tms) (n + ((rd_T38 l0 i).f2.f1.size : Int) + 30001)) := ⟨HI.out.trans (muchGo_step hm1 hm2)⟩
       clear HI hm1 hm2
       by_cases c4 : 30000 < n + ((rd_T38 l0 i).f2.f1.size : Int) + 30001
       ·have c4b : decide (30000 < n + ((rd_T38 l0 i).f2.f1.size : Int) + 30001) = true := decide_eq_true c4
        have HF := HS.out
        rw [if_pos c4] at HF
        have HF2 : muchB l0 a1 = true := by unfold muchB; rw [HF]; rfl
        clear HS HF c4
        go_wp2
        repeat (go_quiet (fail); try go_wp2)
        go_ret
        exact ⟨HF2 ▸ rfl, HD.out.step _⟩
       exfalso; omega
      have hm2 := mn_neg d2
      have d2b := eq_false d2
      obtain ⟨hn0, hn1⟩ := hn.out
      have hw1 : wrap64 (n + ((rd_T38 l0 i).f2.f1.size : Int)) = n + ((rd_T38 l0 i).f2.f1.size : Int) := wrap64_small (by omega) (by omega)
      have hw2 : wrap64 (n + ((rd_T38 l0 i).f2.f1.size : Int) + ((rd_T38 l0 i).f2.f2.size : Int)) = n + ((rd_T38 l0 i).f2.f1.size : Int) + ((rd_T38 l0 i).f2.f2.size : Int) := wrap64_small (by omega) (by omega)
      have HS : Ad (muchGo ((l0.take (a1 + 1).toNat).flatMap tms) 0 = if n + ((rd_T38 l0 i).f2.f1.size : Int) + ((rd_T38 l0 i).f2.f2.size : Int) > 30000 then none else muchGo ((tms (rd_T38 l0 i)).drop 3 ++ ((l0.take (a1 + 1).toNat).drop (i.toNat + 1)).flatMap tms) (n + ((rd_T38 l0 i).f2.f1.size : Int) + ((rd_T38 l0 i).f2.f2.size : Int))) := ⟨HI.out.trans (muchGo_step hm1 hm2)⟩
      clear HI hm1 hm2
      by_cases c4 : 30000 < n + ((rd_T38 l0 i).f2.f1.size : Int) + ((rd_T38 l0 i).f2.f2.size : Int)
      ·have c4b : decide (30000 < n + ((rd_T38 l0 i).f2.f1.size : Int) + ((rd_T38 l0 i).f2.f2.size : Int)) = true := decide_eq_true c4
       have HF := HS.out
       rw [if_pos c4] at HF
       have HF2 : muchB l0 a1 = true := by unfold muchB; rw [HF]; rfl
       clear HS HF c4
       go_wp2
       repeat (go_quiet (fail); try go_wp2)
       go_ret
       exact ⟨HF2 ▸ rfl, HD.out.step _⟩
      have c4b : decide (30000 < n + ((rd_T38 l0 i).f2.f1.size : Int) + ((rd_T38 l0 i).f2.f2.size : Int)) = false := decide_eq_false c4
      have HF := Ad.mk HS.out
      rw [if_neg c4] at HF
      clear HS
      go_wp2
      repeat (go_quiet (fail); try go_wp2)
      go_roundg (3 - 3)
      case measure => omega
      case rel => exact ⟨3, _, rfl, rfl, by omega, by omega, rfl, ⟨by omega⟩, HF, ⟨HD.out.step _⟩⟩
     have c3b : decide (k < 3) = false := decide_eq_false c3
     obtain rfl : k = 3 := by omega
     have HG : Ad (muchGo ((l0.take (a1 + 1).toNat).flatMap tms) 0 = muchGo (((l0.take (a1 + 1).toNat).drop (i.toNat + 1)).flatMap tms) n) := ⟨HI.out⟩
     clear HI
     have hw1 : wrap64 (i + 1) = i + 1 := wrap64_small (by omega) (by omega)
     go_wp2
     go_roundg (l0.length - (i.toNat + 1))
     case measure => omega
     case rel => exact ⟨i + 1, n, rfl, rfl, by omega, by omega, by omega, hn, by rw [show (i + 1).toNat = i.toNat + 1 by omega]; exact HG, HD⟩
   have c2b : decide (i ≤ a1) = false := decide_eq_false c2
   have HF : muchB l0 a1 = decide ((l0.length : Int) > a1) := by
    unfold muchB
    rw [HG.out, List.drop_eq_nil_of_le (by simp; omega)]
    rfl
   clear HG
   go_wp2
   go_ret
   exact ⟨rfl, HD.out⟩
  have c1b : decide (i < (l0.length : Int)) = false := decide_eq_false c1
  have HF : muchB l0 a1 = decide ((l0.length : Int) > a1) := by
   unfold muchB
   rw [HG.out, List.drop_eq_nil_of_le (by simp; omega)]
   rfl
  clear HG
  go_wp2
  go_ret
  exact ⟨by first | rfl | exact HF ▸ rfl, HD.out⟩
end Go.Proofs.YtjnhdamilbcmpaaDoor.PTm

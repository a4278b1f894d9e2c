import Derived.Test.YtjnhdamilbcmpaaDoorCuPTmx0
import Derived.Test.YtjnhdamilbcmpaaDoorCuPTmx6
import Derived.Test.YtjnhdamilbcmpaaDoorCuPTmx11
import Derived.Test.YtjnhdamilbcmpaaDoorCuPTmx12
namespace Go.Proofs.YtjnhdamilbcmpaaDoor.PTm
open Go.RowKit Go.Proofs.YtjnhdamilbcmpaaDoorW.PrintWords Go.Proofs.YtjnhdamilbcmpaaDoorW.PrintLast Go.Proofs.YtjnhdamilbcmpaaDoorW.PrintMore
attribute [local go_sem] max2_int min2_int max_two min_two max_three min_three max_four min_four
set_option linter.unusedVariables false
set_option linter.unusedSimpArgs false
set_option maxHeartbeats 8000000
set_option maxRecDepth 100000
def MapSS (w : World) (mv : Value) (M : List (ByteArray × ByteArray)) : Prop := (mv = .map none ∧ M = []) ∨ ∃ b c es, mv = .map (some b) ∧ w.heap[b]? = some (.map es c) ∧ es.toList.map (fun e => (e.key, e.val)) = M.map (fun p => (Value.string p.1, Value.string p.2))
def lookM : List (ByteArray × ByteArray) → ByteArray → Option ByteArray
 | [], _ => none
 | p :: M, k => if k == p.1 then some p.2 else lookM M k
theorem MapSS.nil (w : World) : MapSS w (.map none) [] := .inl ⟨rfl, rfl⟩
theorem MapSS.below {w w' : World} {mv : Value} {M : List (ByteArray × ByteArray)} (h : MapSS w mv M) (hb : Below w.heap.size w w') : MapSS w' mv M := by
 rcases h with h | ⟨b, c, es, h1, h2, h3⟩
 ·exact .inl h
 exact .inr ⟨b, c, es, h1, (hb.block b (blk_lt h2)).trans h2, h3⟩
theorem findM (k : ByteArray) : ∀ (es : List MapEntry) (M : List (ByteArray × ByteArray)) (i : Nat), es.map (fun e => (e.key, e.val)) = M.map (fun p => (Value.string p.1, Value.string p.2)) → match lookM M k with | none => Instr.findNow .string (.string k) es i = some none | some v => ∃ j, Instr.findNow .string (.string k) es i = some (some (j, .string v))
 | [], [], _, _ => by simp [lookM, Instr.findNow]
 | e :: es, [], _, h => by simp at h
 | [], p :: M, _, h => by simp at h
 | e :: es, p :: M, i, h => by
  simp only [List.map_cons, List.cons.injEq, Prod.mk.injEq] at h
  obtain ⟨⟨h1, h2⟩, h3⟩ := h
  have ih := findM k es M (i + 1) h3
  unfold lookM
  simp only [Instr.findNow, Instr.sameNow, h1, h2]
  by_cases c : k == p.1
  ·rw [if_pos c, c]; exact ⟨i, rfl⟩
  rw [if_neg c]
  have c' : (k == p.1) = false := by simpa using c
  rw [c']; exact ih
theorem MapSS.look {w : World} {mv : Value} {M : List (ByteArray × ByteArray)} (h : MapSS w mv M) (k : ByteArray) : Sem.run Tryd.prog (Instr.lookup 68 mv (.string k) true) w = .ok (.tuple #[.string ((lookM M k).getD (⟨#[]⟩ : ByteArray)), .bool (lookM M k).isSome]) w := by
 have hck : ∀ e, (Instr.checkKey e 10000 9 (.string k)).run Tryd.prog w = .ok () w := fun e => Go.MapKept.run_checkKey Tryd.underlying9 (by simp [Go.MapKept.IsKey]) e 9999
 rcases h with ⟨rfl, rfl⟩ | ⟨b, c, es, rfl, h2, h3⟩
 ·have hf : Sem.run Tryd.prog (Instr.findKey 9 (.string k) []) w = .ok none w := Go.MapKept.run_findKey Tryd.underlying9 rfl
  simp [Instr.lookup, run_underlying Tryd.underlying68, go_sem, hck, hf, Tryd.zeroValue9, lookM]
 have hz := findM k es.toList M 0 h3
 cases hl : lookM M k with
 | none =>
  rw [hl] at hz
  have hf : Sem.run Tryd.prog (Instr.findKey 9 (.string k) es.toList) w = .ok none w := Go.MapKept.run_findKey Tryd.underlying9 hz
  simp only [Instr.lookup, Sem.run_bind, run_underlying Tryd.underlying68, Result.andThen_ok]
  rw [Go.MapKept.run_getObj_map h2]
  simp [hck, hf, Tryd.zeroValue9]
 | some v =>
  rw [hl] at hz
  obtain ⟨j, hz⟩ := hz
  have hf : Sem.run Tryd.prog (Instr.findKey 9 (.string k) es.toList) w = .ok (some (j, .string v)) w := Go.MapKept.run_findKey Tryd.underlying9 hz
  simp only [Instr.lookup, Sem.run_bind, run_underlying Tryd.underlying68, Result.andThen_ok]
  rw [Go.MapKept.run_getObj_map h2]
  simp [hck, hf]
def lex_resource.f (k : Nat) (a0_0 : Int) (a0_1 : ByteArray) (a0_2 : Int) (a0_3 : ByteArray) (a0_4 : ByteArray) (a0_5 : Int) (M : List (ByteArray × ByteArray)) : Option (Int × ByteArray × ByteArray × Bool) := if a0_0 = 1 then some (a0_2, a0_3, a0_4, true) else (strings_Cut.f a0_1 (⟨#[58]⟩ : ByteArray)).bind fun b => if ((lookM M b.1).getD (⟨#[]⟩ : ByteArray)).size + b.2.1.size ≤ 9223372036854775807 then (if a0_0 = 7 ∧ (lookM M b.1).isSome = true then (term_May.f k 1 ((lookM M b.1).getD (⟨#[]⟩ : ByteArray) ++ b.2.1) (⟨#[]⟩ : ByteArray)).bind fun m => some (1, (lookM M b.1).getD (⟨#[]⟩ : ByteArray) ++ b.2.1, (⟨#[]⟩ : ByteArray), m) else some (1, (lookM M b.1).getD (⟨#[]⟩ : ByteArray) ++ b.2.1, (⟨#[]⟩ : ByteArray), false)) else none
theorem lex_resource.mono : ∀ a0 a1 a2 a3 a4 a5 M k, LeO (lex_resource.f k a0 a1 a2 a3 a4 a5 M) (lex_resource.f (k + 1) a0 a1 a2 a3 a4 a5 M) := by
 intro a0 a1 a2 a3 a4 a5 M k
 unfold lex_resource.f
 exact LeO.ite (LeO.refl _) (LeO.bind (LeO.refl _) fun _ => LeO.ite (LeO.ite (LeO.bind (term_May.mono _ _ _ _) fun _ => LeO.refl _) (LeO.refl _)) (LeO.refl _))
structure RX (w W : World) (g gr : Nat) (cs rs : Array Value) : Prop where
 below : Below w.heap.size w W
 x : W.heap[g]? = some (.cells cs 56 (0, 0))
 r : W.heap[gr]? = some (.cells rs 36 (0, 0))
 gw : w.heap.size ≤ g
 rw' : w.heap.size ≤ gr
 gg : gr ≠ g
theorem RX.lower {w W W' : World} {g gr : Nat} {cs rs : Array Value} (h : RX w W g gr cs rs) (hb : Below W.heap.size W W') : RX w W' g gr cs rs :=
 ⟨below_then h.below h.below.size hb, blk_below h.x hb, blk_below h.r hb, h.gw, h.rw', h.gg⟩
theorem RX.upr {w W W' : World} {g gr : Nat} {cs rs rs' : Array Value} (h : RX w W g gr cs rs) (hu : Upd W W' gr) (hn : W'.heap[gr]? = some (.cells rs' 36 (0, 0))) : RX w W' g gr cs rs' :=
 ⟨h.below.trans (hu.below h.rw'), (hu.other g (Ne.symm h.gg)).trans h.x, hn, h.gw, h.rw', h.gg⟩
theorem RX.far {w W W' : World} {g gr gt : Nat} {cs rs : Array Value} (h : RX w W g gr cs rs) (hu : Upd W W' gt) (ht : w.heap.size ≤ gt) (h1 : gt ≠ g) (h2 : gt ≠ gr) : RX w W' g gr cs rs :=
 ⟨h.below.trans (hu.below ht), (hu.other g (Ne.symm h1)).trans h.x, (hu.other gr (Ne.symm h2)).trans h.r, h.gw, h.rw', h.gg⟩
def lex_resource.T6 : Bool × List (List Nat × List Nat) := (true, [([], []), ([], []), ([1], [1]), ([2], [2]), ([3], [3]), ([4], [4]), ([4, 5], [4, 5]), ([6, 4], [6]), ([7], [7]), ([8, 7, 7], [7, 8]), ([7, 9], [7, 9]), ([0, 9, 0], [0]), ([10, 11, 0, 1, 2, 3, 4, 5, 6, 7, 8, 9, 10, 11], [10])])
def lex_resource.B6 : List Nat := [0, 0, 2, 6, 14, 30, 62, 126, 254, 510, 1022, 1023, 4095]
theorem lex_resource.tab6 : rtab .any (opsOf Tryd.f27 6) = lex_resource.T6 := by kernel_rfl
theorem lex_resource.bits6 : waitsOk lex_resource.T6.2 lex_resource.B6 = true := by kernel_rfl
set_option maxHeartbeats 4000000 in
set_option maxRecDepth 100000 in
theorem lex_resource.calls (k : Nat) (a0_0 : Int) (a0_1 : ByteArray) (a0_2 : Int) (a0_3 : ByteArray) (a0_4 : ByteArray) (a0_5 : Int) (mv : Value) (M : List (ByteArray × ByteArray)) (r1 : Int) (r2 r3 : ByteArray) (r4 : Bool) (w : World) (hm : MapSS w mv M) (h : lex_resource.f k a0_0 a0_1 a0_2 a0_3 a0_4 a0_5 M = some (r1, r2, r3, r4)) :
  Calls Tryd.prog 27 #[.agg #[.int .i64 a0_0, .string a0_1, .int .i64 a0_2, .string a0_3, .string a0_4, .int .i64 a0_5], mv] w fun e w' => e = .returned (.tuple #[.agg #[.int .i64 r1, .string r2, .string r3], .bool r4]) ∧ Below w.heap.size w w' := by
 have HM := Ad.mk hm
 clear hm
 unfold lex_resource.f at h
 by_cases c1 : a0_0 = 1
 ·rw [if_pos c1] at h
  subst c1
  simp only [Option.some.injEq, Prod.mk.injEq] at h
  obtain ⟨rfl, rfl, rfl, rfl⟩ := h
  go_enter Tryd.func27, Tryd.ntmps27
  go_wp2_with (first | ((with_reducible refine gate_dst (N := 2) rfl ?_); refine box_event r1_ (N := 2) r1_ (cs := #[.int .i64 1, .string a0_1, .int .i64 a0_2, .string a0_3, .string a0_4, .int .i64 a0_5]) (t := 56) r2_ ?_; intro g hg w1 hx hb1; have HX0 := Ad.mk (show Below w.heap.size w w1 ∧ w1.heap[g]? = some (.cells #[.int .i64 1, .string a0_1, .int .i64 a0_2, .string a0_3, .string a0_4, .int .i64 a0_5] 56 (0, 0)) ∧ g = w.heap.size from ⟨hb1, hx, hg⟩); clear hg hx hb1) | ((with_reducible refine gate_dst (N := 4) rfl ?_); refine box_event r1_ (N := 4) r1_ (cs := #[.int .i64 0, .string ⟨#[]⟩, .string ⟨#[]⟩]) (t := 36) r2_ ?_; intro gr hr w2 hy hb2; have HX := Ad.mk (RX.mk (below_then HX0.out.1 HX0.out.1.size hb2) (blk_below HX0.out.2.1 hb2) hy (Nat.le_of_eq HX0.out.2.2.symm) (by rw [hr]; exact HX0.out.1.size) (by rw [hr]; exact Ne.symm (Nat.ne_of_lt (blk_lt HX0.out.2.1)))); have hx0 := (blk_cell HX.out.x 0).trans (show _ = some (.int .i64 1) from rfl); have hx1 := (blk_cell HX.out.x 1).trans (show _ = some (.string a0_1) from rfl); have hx2 := (blk_cell HX.out.x 2).trans (show _ = some (.int .i64 a0_2) from rfl); have hx3 := (blk_cell HX.out.x 3).trans (show _ = some (.string a0_3) from rfl); have hx4 := (blk_cell HX.out.x 4).trans (show _ = some (.string a0_4) from rfl); have hx5 := (blk_cell HX.out.x 5).trans (show _ = some (.int .i64 a0_5) from rfl); clear hr hy hb2 HX0) | ((with_reducible refine gate_store (t := 36) (p := 4) rfl ?_); refine store_seg (gy := gr) (j := 0) (T := 36) (TB := 36) (cs := #[.int .i64 0, .string ⟨#[]⟩, .string ⟨#[]⟩]) (new := #[.int .i64 a0_2, .string a0_3, .string a0_4]) (u := .agg #[.int .i64 a0_2, .string a0_3, .string a0_4]) (seg := [.int .i64 a0_2, .string a0_3, .string a0_4]) rfl (p := .tmp 4) (x := .tmp 16) rfl rfl r1_ r1_ r1_ HX.out.r k1_ s1_ h1_ rfl ?_; intro w3 hz hup; have HY := Ad.mk (HX.out.upr hup hz); clear HX hz hup))
  refine bodyPost_ret (by have hq0 := (blk_cell HY.out.r 0).trans (show _ = some (.int .i64 a0_2) from rfl); have hq1 := (blk_cell HY.out.r 1).trans (show _ = some (.string a0_3) from rfl); have hq2 := (blk_cell HY.out.r 2).trans (show _ = some (.string a0_4) from rfl); simp [results, Tryd.results27, go_sem, hq0, hq1, hq2]; rfl) rfl ?_
  exact ⟨rfl, HY.out.below⟩
 rw [if_neg c1] at h
 obtain ⟨⟨b1, b2, b3⟩, A0, H⟩ := Option.bind_eq_some_iff.mp h
 have AC := Ad.mk A0
 clear h A0
 simp only at H
 have HLK := Ad.mk (fun (W : World) (hb : Below w.heap.size w W) => (HM.out.below hb).look b1)
 obtain ⟨bg, hbg⟩ : ∃ x, x = (lookM M b1).getD (⟨#[]⟩ : ByteArray) := ⟨_, rfl⟩
 obtain ⟨ib, hib⟩ : ∃ x, x = (lookM M b1).isSome := ⟨_, rfl⟩
 rw [← hbg, ← hib] at H HLK
 clear hbg hib
 by_cases c2 : bg.size + b2.size ≤ 9223372036854775807
 case neg => rw [if_neg c2] at H; cases H
 rw [if_pos c2] at H
 have hb3 : (9223372036854775807 < bg.size + b2.size) = False := eq_false (by omega)
 have hb4 : (9223372036854775807 < (bg ++ b2).size) = False := eq_false (by rw [ByteArray.size_append]; omega)
 have c1b : (a0_0 == 1) = false := by simpa using c1
 have HH := Ad.mk H
 clear H c1 c2
 go_enter Tryd.func27, Tryd.ntmps27
 go_wp2_with (first | ((with_reducible refine gate_dst (N := 2) rfl ?_); refine box_event r1_ (N := 2) r1_ (cs := #[.int .i64 a0_0, .string a0_1, .int .i64 a0_2, .string a0_3, .string a0_4, .int .i64 a0_5]) (t := 56) r2_ ?_; intro g hg w1 hx hb1; have HX0 := Ad.mk (show Below w.heap.size w w1 ∧ w1.heap[g]? = some (.cells #[.int .i64 a0_0, .string a0_1, .int .i64 a0_2, .string a0_3, .string a0_4, .int .i64 a0_5] 56 (0, 0)) ∧ g = w.heap.size from ⟨hb1, hx, hg⟩); clear hg hx hb1) | ((with_reducible refine gate_dst (N := 4) rfl ?_); refine box_event r1_ (N := 4) r1_ (cs := #[.int .i64 0, .string ⟨#[]⟩, .string ⟨#[]⟩]) (t := 36) r2_ ?_; intro gr hr w2 hy hb2; have HX := Ad.mk (RX.mk (below_then HX0.out.1 HX0.out.1.size hb2) (blk_below HX0.out.2.1 hb2) hy (Nat.le_of_eq HX0.out.2.2.symm) (by rw [hr]; exact HX0.out.1.size) (by rw [hr]; exact Ne.symm (Nat.ne_of_lt (blk_lt HX0.out.2.1)))); have hx0 := (blk_cell HX.out.x 0).trans (show _ = some (.int .i64 a0_0) from rfl); have hx1 := (blk_cell HX.out.x 1).trans (show _ = some (.string a0_1) from rfl); have hx2 := (blk_cell HX.out.x 2).trans (show _ = some (.int .i64 a0_2) from rfl); have hx3 := (blk_cell HX.out.x 3).trans (show _ = some (.string a0_3) from rfl); have hx4 := (blk_cell HX.out.x 4).trans (show _ = some (.string a0_4) from rfl); have hx5 := (blk_cell HX.out.x 5).trans (show _ = some (.int .i64 a0_5) from rfl); clear hr hy hb2 HX0) | (go_at_call 36; refine (strings_Cut.calls a0_1 (⟨#[58]⟩ : ByteArray) b1 b2 b3 _ AC.out).mono ?_; rintro e w3 ⟨rfl, ⟨nd, rfl⟩⟩; have hlk := HLK.out _ (pw_below_drewN HX.out.below nd)) | ((with_reducible refine gate_dst (N := 11) rfl ?_); refine box_event r1_ (N := 11) r1_ (cs := #[.int .i64 0, .string ⟨#[]⟩, .string ⟨#[]⟩]) (t := 36) r2_ ?_; intro gt ht w4 hy hb; have HX2 := Ad.mk (show RX w w4 g gr #[.int .i64 a0_0, .string a0_1, .int .i64 a0_2, .string a0_3, .string a0_4, .int .i64 a0_5] #[.int .i64 0, .string ⟨#[]⟩, .string ⟨#[]⟩] ∧ w4.heap[gt]? = some (.cells #[.int .i64 0, .string ⟨#[]⟩, .string ⟨#[]⟩] 36 (0, 0)) ∧ w.heap.size ≤ gt ∧ gt ≠ g ∧ gt ≠ gr from ⟨(HX.out.lower (pw_below_drewN (Below.refl _ _) nd)).lower hb, hy, by rw [ht]; exact HX.out.below.size, by rw [ht]; exact Ne.symm (Nat.ne_of_lt (blk_lt HX.out.x)), by rw [ht]; exact Ne.symm (Nat.ne_of_lt (blk_lt HX.out.r))⟩); clear ht hy hb) | ((with_reducible refine gate_store (t := 36) (p := 11) rfl ?_); refine store_seg (gy := gt) (j := 0) (T := 36) (TB := 36) (cs := #[.int .i64 0, .string ⟨#[]⟩, .string ⟨#[]⟩]) (new := #[.int .i64 1, .string (bg ++ b2), .string ⟨#[]⟩]) (u := .agg #[.int .i64 1, .string (bg ++ b2), .string ⟨#[]⟩]) (seg := [.int .i64 1, .string (bg ++ b2), .string ⟨#[]⟩]) rfl (p := .tmp 11) (x := .tmp 33) rfl rfl r1_ r1_ r1_ HX2.out.2.1 k1_ s1_ h1_ rfl ?_; intro w5 hz hup; have HX3 := Ad.mk (show RX w w5 g gr #[.int .i64 a0_0, .string a0_1, .int .i64 a0_2, .string a0_3, .string a0_4, .int .i64 a0_5] #[.int .i64 0, .string ⟨#[]⟩, .string ⟨#[]⟩] ∧ w5.heap[gt]? = some (.cells #[.int .i64 1, .string (bg ++ b2), .string ⟨#[]⟩] 36 (0, 0)) ∧ w.heap.size ≤ gt from ⟨HX2.out.1.far hup HX2.out.2.2.1 HX2.out.2.2.2.1 HX2.out.2.2.2.2, hz, HX2.out.2.2.1⟩); clear hz hup))
 have hg0 := (blk_cell HX3.out.1.x 0).trans (show _ = some (.int .i64 a0_0) from rfl)
 have ht0 := (blk_cell HX3.out.2.1 0).trans (show _ = some (.int .i64 1) from rfl)
 have ht1 := (blk_cell HX3.out.2.1 1).trans (show _ = some (.string (bg ++ b2)) from rfl)
 have ht2 := (blk_cell HX3.out.2.1 2).trans (show _ = some (.string ⟨#[]⟩) from rfl)
 have hr0 := (blk_cell HX3.out.1.r 0).trans (show _ = some (.int .i64 0) from rfl)
 have hr1 := (blk_cell HX3.out.1.r 1).trans (show _ = some (.string ⟨#[]⟩) from rfl)
 have hr2 := (blk_cell HX3.out.1.r 2).trans (show _ = some (.string ⟨#[]⟩) from rfl)
 have hf0 := blk_frozen HX3.out.1.r 0
 have hf1 := blk_frozen HX3.out.1.r 1
 have hf2 := blk_frozen HX3.out.1.r 2
 have hn := HX3.out.1.gg
 have hn2 := HX2.out.2.2.2.2
 have hn3 := HX2.out.2.2.2.1
 have hn4 := Ne.symm hn
 have hn5 := Ne.symm hn2
 clear HX HX2 AC HLK hlk hx0 hx1 hx2 hx3 hx4 hx5 hb3 hb4 HM
 have H := HH.out
 clear HH
 by_cases c7 : a0_0 = 7
 case neg =>
  rw [if_neg (fun hc => c7 hc.1)] at H
  simp only [Option.some.injEq, Prod.mk.injEq] at H
  obtain ⟨rfl, rfl, rfl, rfl⟩ := H
  have c7b : (a0_0 == 7) = false := beq_eq_false_iff_ne.mpr c7
  have HX5 := Ad.mk (HX3.out.1.lower (below_drew (Below.refl _ _)))
  refine start_ (n := 13) (S := fun w' => w'.cell? ⟨gt, 0, none⟩ = some (.int .i64 1) ∧ w'.cell? ⟨gt, 1, none⟩ = some (.string (bg ++ b2)) ∧ w'.cell? ⟨gt, 2, none⟩ = some (.string ⟨#[]⟩) ∧ w'.cell? ⟨g, 0, none⟩ = some (.int .i64 a0_0)) (ds := []) #[false, false, false, false, false, false, false, false, false, false, false, false, false] k1_ rfl rfl ⟨ht0, ht1, ht2, hg0⟩ (fun hHeld => ?_)
  refine with_tabW lex_resource.tab6 lex_resource.bits6 (fun HT_ HW_ => ?_)
  clear hg0 ht0 ht1 ht2 hr0 hr1 hr2 hf0 hf1 hf2 HX3
  generalize w5.drew = w6 at HX5 hHeld ⊢
  refine pure_ (i := 1) (N := some 35) #[false, true, false, false, false, false, false, false, false, false, false, false, false] rfl rfl (any_of HT_.out k1_) (fun _ _ _ h => h) (Or.inl ⟨by rfl, py_⟩) pa_ ?_
  refine take_ (i := 0) (N := some 34) (v := ?_) (a' := ?_) #[true, true, false, false, false, false, false, false, false, false, false, false, false] rfl rfl (take_ofW HT_.out HW_.out k1_) (fun _ _ _ h => h) (Or.inl ⟨by rfl, ?_⟩) hHeld ?_ ?_
  rotate_left
  ·rintro w' ⟨s0, s1, s2, s3⟩
   go_simp
   with_reducible rfl
  rotate_left
  ·simp only [Act.put, List.setIfInBounds_toArray, List.set_cons_zero, List.set_cons_succ, i64_w, i32_w]
   rfl
  refine take_ (i := 2) (N := some 36) (v := ?_) (a' := ?_) #[true, true, true, false, false, false, false, false, false, false, false, false, false] rfl rfl (take_ofW HT_.out HW_.out k1_) (fun _ _ _ h => h) (Or.inl ⟨by rfl, ?_⟩) hHeld ?_ ?_
  rotate_left
  ·rintro w' ⟨s0, s1, s2, s3⟩
   go_simp
   with_reducible rfl
  rotate_left
  ·simp only [Act.put, List.setIfInBounds_toArray, List.set_cons_zero, List.set_cons_succ, i64_w, i32_w]
   rfl
  refine pure_ (i := 3) (N := some 37) #[true, true, true, true, false, false, false, false, false, false, false, false, false] rfl rfl (any_of HT_.out k1_) (fun _ _ _ h => h) (Or.inl ⟨by rfl, py_⟩) pa_ ?_
  refine pure_ (i := 4) (N := some 38) #[true, true, true, true, true, false, false, false, false, false, false, false, false] rfl rfl (any_of HT_.out k1_) (fun _ _ _ h => h) (Or.inl ⟨by rfl, py_⟩) pa_ ?_
  refine pure_ (i := 5) (N := some 39) (v := undef) (a' := ?_) #[true, true, true, true, true, true, false, false, false, false, false, false, false] rfl rfl (any_of HT_.out k1_) (fun _ _ _ h => h) (Or.inr ⟨by rfl, rfl⟩) ?_ ?_
  rotate_left
  ·simp only [Act.put, List.setIfInBounds_toArray, List.set_cons_zero, List.set_cons_succ, i64_w, i32_w]
   rfl
  refine pure_ (i := 6) (N := some 40) #[true, true, true, true, true, true, true, false, false, false, false, false, false] rfl rfl (any_of HT_.out k1_) (fun _ _ _ h => h) (Or.inl ⟨by rfl, py_⟩) pa_ ?_
  refine pure_ (i := 7) (N := some 41) #[true, true, true, true, true, true, true, true, false, false, false, false, false] rfl rfl (any_of HT_.out k1_) (fun _ _ _ h => h) (Or.inl ⟨by rfl, py_⟩) pa_ ?_
  refine pure_ (i := 8) (N := some 42) (v := undef) (a' := ?_) #[true, true, true, true, true, true, true, true, true, false, false, false, false] rfl rfl (any_of HT_.out k1_) (fun _ _ _ h => h) (Or.inr ⟨by rfl, rfl⟩) ?_ ?_
  rotate_left
  ·simp only [Act.put, List.setIfInBounds_toArray, List.set_cons_zero, List.set_cons_succ, i64_w, i32_w]
   rfl
  refine pure_ (i := 9) (N := some 43) (v := undef) (a' := ?_) #[true, true, true, true, true, true, true, true, true, true, false, false, false] rfl rfl (any_of HT_.out k1_) (fun _ _ _ h => h) (Or.inr ⟨by rfl, rfl⟩) ?_ ?_
  rotate_left
  ·simp only [Act.put, List.setIfInBounds_toArray, List.set_cons_zero, List.set_cons_succ, i64_w, i32_w]
   rfl
  refine pure_ (i := 10) (N := some 44) #[true, true, true, true, true, true, true, true, true, true, true, false, false] rfl rfl (any_of HT_.out k1_) (fun _ _ _ h => h) (Or.inl ⟨by rfl, py_⟩) pa_ ?_
  refine one_ (i := 11) (N := none) #[true, true, true, true, true, true, true, true, true, true, true, true, false] rfl rfl (one_of HT_.out k1_) (by decide) (fun K hK => ?_)
  have hs0 : w6.cell? ⟨gr, 0, none⟩ = some (.int .i64 0) := (blk_cell HX5.out.r 0).trans rfl
  have hfs0 := blk_frozen HX5.out.r 0
  have hs1 : w6.cell? ⟨gr, 1, none⟩ = some (.string ⟨#[]⟩) := (blk_cell HX5.out.r 1).trans rfl
  have hfs1 := blk_frozen HX5.out.r 1
  have hs2 : w6.cell? ⟨gr, 2, none⟩ = some (.string ⟨#[]⟩) := (blk_cell HX5.out.r 2).trans rfl
  have hfs2 := blk_frozen HX5.out.r 2
  refine skip_ (w1 := ?_) (by rfl) rfl ?_ ?_
  rotate_left
  ·go_simp
   rfl
  refine hK.out _ _ ⟨((cell_far (p := ⟨gr, _, none⟩) hn2 _).trans ((cell_far (p := ⟨gr, _, none⟩) hn2 _).trans ((cell_far (p := ⟨gr, _, none⟩) hn2 _).trans (hHeld.1)))), ((cell_far (p := ⟨gr, _, none⟩) hn2 _).trans ((cell_far (p := ⟨gr, _, none⟩) hn2 _).trans ((cell_far (p := ⟨gr, _, none⟩) hn2 _).trans (hHeld.2.1)))), ((cell_far (p := ⟨gr, _, none⟩) hn2 _).trans ((cell_far (p := ⟨gr, _, none⟩) hn2 _).trans ((cell_far (p := ⟨gr, _, none⟩) hn2 _).trans (hHeld.2.2.1)))), ((cell_far (p := ⟨gr, _, none⟩) hn4 _).trans ((cell_far (p := ⟨gr, _, none⟩) hn4 _).trans ((cell_far (p := ⟨gr, _, none⟩) hn4 _).trans (hHeld.2.2.2))))⟩ (fun hHeld => ?_)
  clear hK K
  refine pure_ (i := 12) (N := some 5) #[true, true, true, true, true, true, true, true, true, true, true, true, true] rfl rfl (any_of HT_.out k1_) (fun _ _ _ h => h) (Or.inl ⟨by rfl, py_⟩) pa_ ?_
  refine done_ (done_of HT_.out k1_) ?_
  try go_wp2
  refine bodyPost_ret (results_ct rfl _ _ gr 36 #[.int .i64 1, .string (bg ++ b2), .string ⟨#[]⟩] (0, 0) _ rfl (blk_set (blk_set (blk_set HX5.out.r 0 _) 1 _) 2 _) Tryd.underlying36 rfl k1_) rfl ?_
  exact ⟨rfl, ((HX5.out.below.setCell (p := ⟨gr, 0, none⟩) HX5.out.rw' _).setCell (p := ⟨gr, 1, none⟩) HX5.out.rw' _).setCell (p := ⟨gr, 2, none⟩) HX5.out.rw' _⟩
 subst c7
 cases ib with
 | false =>
  rw [if_neg (by simp)] at H
  simp only [Option.some.injEq, Prod.mk.injEq] at H
  obtain ⟨rfl, rfl, rfl, rfl⟩ := H
  go_region
  all_goals (go_wp2; refine bodyPost_ret (by simp [results, Tryd.results27, go_sem, *]; rfl) rfl ?_; exact ⟨rfl, by repeat (first | exact HX3.out.1.below | refine below_drew1 ?_ | refine pw_below_drewN ?_ _ | refine below_set ?_ HX3.out.1.rw')⟩)
 | true =>
  rw [if_pos ⟨rfl, rfl⟩] at H
  obtain ⟨m, A0, H⟩ := Option.bind_eq_some_iff.mp H
  simp only [Option.some.injEq, Prod.mk.injEq] at H
  obtain ⟨rfl, rfl, rfl, rfl⟩ := H
  have AM := Ad.mk A0
  clear A0
  go_region_held3 (fun W => W.cell? ⟨g, 0, none⟩ = some (.int .i64 7) ∧ W.cell? ⟨gt, 0, none⟩ = some (.int .i64 1) ∧ W.cell? ⟨gt, 1, none⟩ = some (.string (bg ++ b2)) ∧ W.cell? ⟨gt, 2, none⟩ = some (.string ⟨#[]⟩)) (first | (exact ⟨pw_cell_below hb hg0, pw_cell_below hb ht0, pw_cell_below hb ht1, pw_cell_below hb ht2⟩) | go_keep) (first | (go_at_call 28; refine (term_May.calls k 1 (bg ++ b2) (⟨#[]⟩ : ByteArray) m _ AM.out).mono ?_; rintro e w6 ⟨rfl, hb⟩; have HR6 := blk_below (blk_drew HX3.out.1.r) hb; have hq0 := (blk_cell HR6 0).trans (show _ = some (.int .i64 0) from rfl); have hq1 := (blk_cell HR6 1).trans (show _ = some (.string ⟨#[]⟩) from rfl); have hq2 := (blk_cell HR6 2).trans (show _ = some (.string ⟨#[]⟩) from rfl); have hqf := fun i => blk_frozen HR6 i; have HB6 := below_step (below_drew1 HX3.out.1.below) hb))
  go_wp2
  refine bodyPost_ret (results_ct rfl _ _ gr 36 #[.int .i64 1, .string (bg ++ b2), .string ⟨#[]⟩] (0, 0) _ rfl (blk_set (blk_set (blk_set HR6 0 _) 1 _) 2 _) Tryd.underlying36 rfl k1_) rfl ?_
  exact ⟨rfl, ((HB6.setCell (p := ⟨gr, 0, none⟩) HX3.out.1.rw' _).setCell (p := ⟨gr, 1, none⟩) HX3.out.1.rw' _).setCell (p := ⟨gr, 2, none⟩) HX3.out.1.rw' _⟩
def lex_Read.A (l0 : List S56) : Int × ByteArray × Int := if 1 < l0.length ∧ (rd_T56 l0 1).f0 = 4 then (4, (rd_T56 l0 1).f1, 2) else (3, (⟨#[]⟩ : ByteArray), 1)
def lex_Read.B (k : Nat) (l0 : List S56) (M : List (ByteArray × ByteArray)) (a : Int × ByteArray × Int) : Option (Int × ByteArray × Int) := if 2 < l0.length then (lex_Mark.f ((rd_T56 l0 1).f0) ((rd_T56 l0 1).f1) ((rd_T56 l0 1).f2.f0) ((rd_T56 l0 1).f2.f1) ((rd_T56 l0 1).f2.f2) ((rd_T56 l0 1).f3) (⟨#[94, 94]⟩ : ByteArray)).bind fun m => if m = true then (lex_resource.f k ((rd_T56 l0 2).f0) ((rd_T56 l0 2).f1) ((rd_T56 l0 2).f2.f0) ((rd_T56 l0 2).f2.f1) ((rd_T56 l0 2).f2.f2) ((rd_T56 l0 2).f3) M).bind fun u => some (if u.2.2.2 = true then (5, u.2.1, 3) else a) else some a else some a
def lex_Read.C (a : Int × ByteArray × Int) : Int × ByteArray := if a.2.1.toList = ([104, 116, 116, 112, 58, 47, 47, 119, 119, 119, 46, 119, 51, 46, 111, 114, 103, 47, 50, 48, 48, 49, 47, 88, 77, 76, 83, 99, 104, 101, 109, 97, 35, 115, 116, 114, 105, 110, 103] : List UInt8) ∧ a.1 = 5 then (3, (⟨#[]⟩ : ByteArray)) else (a.1, a.2.1)
def lex_Read.f (k : Nat) (l0 : List S56) (M : List (ByteArray × ByteArray)) : Option (Int × ByteArray × ByteArray × Int × Int) := if 0 < l0.length then (lex_resource.f k ((rd_T56 l0 0).f0) ((rd_T56 l0 0).f1) ((rd_T56 l0 0).f2.f0) ((rd_T56 l0 0).f2.f1) ((rd_T56 l0 0).f2.f2) ((rd_T56 l0 0).f3) M).bind fun t => if (rd_T56 l0 0).f0 = 2 then some ((rd_T56 l0 0).f2.f0, (rd_T56 l0 0).f2.f1, (rd_T56 l0 0).f2.f2, 1, 0) else if (rd_T56 l0 0).f0 = 3 then (lex_Read.B k l0 M (lex_Read.A l0)).bind fun b => (term_May.f k (lex_Read.C b).1 (rd_T56 l0 0).f1 (lex_Read.C b).2).bind fun m => some (if m = true then ((lex_Read.C b).1, (rd_T56 l0 0).f1, (lex_Read.C b).2, b.2.2, 0) else (0, (⟨#[]⟩ : ByteArray), (⟨#[]⟩ : ByteArray), 0, 4)) else some (if t.2.2.2 = true then (t.1, t.2.1, t.2.2.1, 1, 0) else (0, (⟨#[]⟩ : ByteArray), (⟨#[]⟩ : ByteArray), 0, 4)) else some (0, (⟨#[]⟩ : ByteArray), (⟨#[]⟩ : ByteArray), 0, 4)
theorem lex_Read.mono : ∀ l M k, LeO (lex_Read.f k l M) (lex_Read.f (k + 1) l M) := by
 intro l M k
 unfold lex_Read.f lex_Read.B
 exact LeO.ite (LeO.bind (lex_resource.mono _ _ _ _ _ _ _ _) fun _ => LeO.ite (LeO.refl _) (LeO.ite (LeO.bind (LeO.ite (LeO.bind (LeO.refl _) fun _ => LeO.ite (LeO.bind (lex_resource.mono _ _ _ _ _ _ _ _) fun _ => LeO.refl _) (LeO.refl _)) (LeO.refl _)) fun _ => LeO.bind (term_May.mono _ _ _ _) fun _ => LeO.refl _) (LeO.refl _))) (LeO.refl _)
def SC (w : World) (p : Addr) (x : S56) : Prop := w.cell? p = some (.int .i64 x.f0) ∧ w.cell? ⟨p.block, p.off + 1, none⟩ = some (.string x.f1) ∧ w.cell? ⟨p.block, p.off + 2, none⟩ = some (.int .i64 x.f2.f0) ∧ w.cell? ⟨p.block, p.off + 3, none⟩ = some (.string x.f2.f1) ∧ w.cell? ⟨p.block, p.off + 4, none⟩ = some (.string x.f2.f2) ∧ w.cell? ⟨p.block, p.off + 5, none⟩ = some (.int .i64 x.f3)
theorem rowc {w : World} {ad : Addr} {n : Nat} {xs : List S56} (h : Kd.C k56 w (some ad) n xs) (j : Nat) (hj : j < n) : SC w (ad.add (j * 6)) (rd_T56 xs j) := by
 obtain ⟨ad', e, q⟩ := at_T56 h j (by omega) (by omega)
 obtain rfl : ad = ad' := by injection e
 exact q
theorem rowc0 {w : World} {ad : Addr} {n : Nat} {xs : List S56} (h : Kd.C k56 w (some ad) n xs) (hj : 0 < n) : SC w ad (rd_T56 xs 0) := by
 have q := rowc h 0 hj
 rwa [Nat.zero_mul, Addr.add_zero'] at q
theorem rowk {w : World} {ad : Addr} {n : Nat} {xs : List S56} (h : Kd.C k56 w (some ad) n xs) (j : Nat) (hj : j < n) (h0 : 0 < j) (i : Int) (hi : i = j) (o : Nat) (ho : j * 6 = o) : w.cell? ⟨ad.block, ad.off + o, none⟩ = some (.int .i64 (rd_T56 xs i).f0) ∧ w.cell? ⟨ad.block, ad.off + (o + 1), none⟩ = some (.string (rd_T56 xs i).f1) ∧ w.cell? ⟨ad.block, ad.off + (o + 2), none⟩ = some (.int .i64 (rd_T56 xs i).f2.f0) ∧ w.cell? ⟨ad.block, ad.off + (o + 3), none⟩ = some (.string (rd_T56 xs i).f2.f1) ∧ w.cell? ⟨ad.block, ad.off + (o + 4), none⟩ = some (.string (rd_T56 xs i).f2.f2) ∧ w.cell? ⟨ad.block, ad.off + (o + 5), none⟩ = some (.int .i64 (rd_T56 xs i).f3) := by
 subst hi
 have q := rowc h j hj
 have e : ad.add (j * 6) = ⟨ad.block, ad.off + o, none⟩ := by
  have e := add_field ad 0 (j * 6) (by omega)
  rw [Nat.zero_add, Addr.add_zero', ho] at e
  rw [ho]; exact e
 rw [e] at q
 simpa only [SC, Nat.add_assoc] using q
theorem some_row {w : World} {A : Option Addr} {n : Nat} {xs : List S56} (h : Kd.C k56 w A n xs) (hj : 0 < n) : ∃ ad, A = some ad := by
 obtain ⟨ad, e, q⟩ := at_T56 h 0 (by omega) (by omega)
 exact ⟨ad, e⟩
structure VX (w W : World) (gr gt : Nat) (cs : Array Value) : Prop where
 below : Below w.heap.size w W
 r : W.heap[gr]? = some (.cells #[.int .i64 0, .string ⟨#[]⟩, .string ⟨#[]⟩] 36 (0, 0))
 t : W.heap[gt]? = some (.cells cs 36 (0, 0))
 rw' : w.heap.size ≤ gr
 tw : w.heap.size ≤ gt
 ne : gt ≠ gr
theorem VX.lower {w W W' : World} {gr gt : Nat} {cs : Array Value} (h : VX w W gr gt cs) (hb : Below W.heap.size W W') : VX w W' gr gt cs := ⟨below_then h.below h.below.size hb, blk_below h.r hb, blk_below h.t hb, h.rw', h.tw, h.ne⟩
theorem VX.drewN {w W : World} {gr gt : Nat} {cs : Array Value} (h : VX w W gr gt cs) (n : Nat) : VX w (W.drewN n) gr gt cs := h.lower (pw_below_drewN (Below.refl _ _) n)
theorem VX.drew {w W : World} {gr gt : Nat} {cs : Array Value} (h : VX w W gr gt cs) : VX w W.drew gr gt cs := h.lower (below_drew (Below.refl _ _))
theorem VX.upd {w W W' : World} {gr gt : Nat} {cs cs' : Array Value} (h : VX w W gr gt cs) (hu : Upd W W' gt) (hn : W'.heap[gt]? = some (.cells cs' 36 (0, 0))) : VX w W' gr gt cs' := ⟨h.below.trans (hu.below h.tw), (hu.other gr (Ne.symm h.ne)).trans h.r, hn, h.rw', h.tw, h.ne⟩
theorem VX.put {w W : World} {gr gt : Nat} {cs cs' : Array Value} (h : VX w W gr gt cs) (i : Nat) (u : Value) (hc : cs.setIfInBounds i u = cs') : VX w (W.setCell ⟨gt, i, none⟩ u) gr gt cs' := ⟨h.below.setCell (p := ⟨gt, i, none⟩) h.tw u, blk_far h.r (p := ⟨gt, i, none⟩) (Ne.symm h.ne) u, by rw [← hc]; exact blk_set h.t i u, h.rw', h.tw, h.ne⟩
theorem VX.fin {w W W' : World} {gr gt : Nat} {cs rs : Array Value} (h : VX w W gr gt cs) (hu : Upd W W' gr) (hn : W'.heap[gr]? = some (.cells rs 36 (0, 0))) : Below w.heap.size w W' ∧ W'.heap[gr]? = some (.cells rs 36 (0, 0)) := ⟨h.below.trans (hu.below h.rw'), hn⟩
set_option maxHeartbeats 4000000 in
set_option maxRecDepth 100000 in
theorem lex_Read.calls (k : Nat) (A0 : Option Addr) (c0 : Nat) (l0 : List (S56)) (mv : Value) (M : List (ByteArray × ByteArray)) (r1 : Int) (r2 : ByteArray) (r3 : ByteArray) (r4 : Int) (r5 : Int) (w : World) (hr0 : Kd.C k56 w A0 l0.length l0) (hc0 : l0.length ≤ c0) (hm : MapSS w mv M) (h : lex_Read.f k l0 M = some (r1, r2, r3, r4, r5)) :
  Calls Tryd.prog 19 #[.slice A0 l0.length c0, mv] w fun e w' => e = .returned (.tuple #[.agg #[.int .i64 r1, .string r2, .string r3], .int .i64 r4, .int .i64 r5]) ∧ Below w.heap.size w w' := by
 have HR0 := Ad.mk hr0
 have HM := Ad.mk hm
 clear hm
 unfold lex_Read.f at h
 by_cases c0_ : 0 < l0.length
 case neg =>
  rw [if_neg c0_] at h
  simp only [Option.some.injEq, Prod.mk.injEq] at h
  obtain ⟨rfl, rfl, rfl, rfl, rfl⟩ := h
  have hn0 : (l0.length == 0) = true := beq_iff_eq.mpr (by omega)
  have hn1 : decide ((l0.length : Int) = 0) = true := decide_eq_true (by omega)
  clear hr0 hc0 c0_
  go_enter Tryd.func19, Tryd.ntmps19
  go_wp2_with (first | ((with_reducible refine gate_dst (N := 4) rfl ?_); refine box_event r1_ (N := 4) r1_ (cs := #[.int .i64 0, .string ⟨#[]⟩, .string ⟨#[]⟩]) (t := 36) r2_ ?_; intro gr hgr w1 hy hb; have HR := Ad.mk (show Below w.heap.size w w1 ∧ w1.heap[gr]? = some (.cells #[.int .i64 0, .string ⟨#[]⟩, .string ⟨#[]⟩] 36 (0, 0)) ∧ gr = w.heap.size from ⟨hb, hy, hgr⟩); clear hgr hy hb) | ((with_reducible refine gate_store (t := 36) (p := 4) rfl ?_); refine store_seg (gy := gr) (j := 0) (T := 36) (TB := 36) (cs := #[.int .i64 0, .string ⟨#[]⟩, .string ⟨#[]⟩]) (new := #[.int .i64 0, .string ⟨#[]⟩, .string ⟨#[]⟩]) (u := .agg #[.int .i64 0, .string ⟨#[]⟩, .string ⟨#[]⟩]) (seg := [.int .i64 0, .string ⟨#[]⟩, .string ⟨#[]⟩]) rfl (p := .tmp 4) (x := .tmp 15) rfl rfl r1_ r1_ r1_ HR.out.2.1 k1_ s1_ h1_ rfl ?_; intro w2 hz hup; have HF := Ad.mk (show Below w.heap.size w w2 ∧ w2.heap[gr]? = some (.cells #[.int .i64 0, .string ⟨#[]⟩, .string ⟨#[]⟩] 36 (0, 0)) from ⟨HR.out.1.trans (hup.below (Nat.le_of_eq HR.out.2.2.symm)), hz⟩); clear hz hup))
  refine bodyPost_ret (results_ctt rfl _ _ gr 36 #[.int .i64 0, .string ⟨#[]⟩, .string ⟨#[]⟩] (0, 0) _ rfl HF.out.2 Tryd.underlying36 rfl k1_) rfl ?_
  exact ⟨rfl, HF.out.1⟩
 rw [if_pos c0_] at h
 obtain ⟨ad, rfl⟩ := some_row hr0 c0_
 obtain ⟨⟨t1, t2, t3, t4⟩, A0, H⟩ := Option.bind_eq_some_iff.mp h
 simp only at H
 have AR := Ad.mk A0
 have HN0 := Ad.mk c0_
 have hn0 : (l0.length == 0) = false := beq_eq_false_iff_ne.mpr (by omega)
 have hn1 : decide ((l0.length : Int) = 0) = false := decide_eq_false (by omega)
 have hn2 : (0 < l0.length) = True := eq_true c0_
 have HC := Ad.mk hc0
 have HH := Ad.mk H
 clear hr0 hc0 c0_ h A0 H
 by_cases k2 : (rd_T56 l0 0).f0 = 2
 case pos =>
  have H := HH.out
  rw [if_pos k2] at H
  simp only [Option.some.injEq, Prod.mk.injEq] at H
  obtain ⟨rfl, rfl, rfl, rfl, rfl⟩ := H
  have k2b : ((rd_T56 l0 0).f0 == 2) = true := by simpa using k2
  clear k2 HH
  go_enter Tryd.func19, Tryd.ntmps19
  go_wp2_with (first | ((with_reducible refine gate_dst (N := 4) rfl ?_); refine box_event r1_ (N := 4) r1_ (cs := #[.int .i64 0, .string ⟨#[]⟩, .string ⟨#[]⟩]) (t := 36) r2_ ?_; intro gr hgr w1 hy hb; have HR := Ad.mk (show Below w.heap.size w w1 ∧ w1.heap[gr]? = some (.cells #[.int .i64 0, .string ⟨#[]⟩, .string ⟨#[]⟩] 36 (0, 0)) ∧ gr = w.heap.size from ⟨hb, hy, hgr⟩); clear hgr hy hb; obtain ⟨x0, x1, x2, x3, x4, x5⟩ := rowc0 (Kd.C_below HR0.out HR.out.1) HN0.out) | (go_at_call 27; refine (lex_resource.calls k ((rd_T56 l0 0).f0) ((rd_T56 l0 0).f1) ((rd_T56 l0 0).f2.f0) ((rd_T56 l0 0).f2.f1) ((rd_T56 l0 0).f2.f2) ((rd_T56 l0 0).f3) mv M t1 t2 t3 t4 _ (HM.out.below HR.out.1) AR.out).mono ?_; rintro e w2 ⟨rfl, hb⟩; have HR2 := Ad.mk (show Below w.heap.size w w2 ∧ w2.heap[gr]? = some (.cells #[.int .i64 0, .string ⟨#[]⟩, .string ⟨#[]⟩] 36 (0, 0)) ∧ gr < w2.heap.size ∧ w.heap.size ≤ gr from ⟨below_step HR.out.1 hb, blk_below HR.out.2.1 hb, blk_lt (blk_below HR.out.2.1 hb), Nat.le_of_eq HR.out.2.2.symm⟩); clear hb HR x0 x1 x2 x3 x4 x5) | ((with_reducible refine gate_dst (N := 7) rfl ?_); refine box_event r1_ (N := 7) r1_ (cs := #[.int .i64 0, .string ⟨#[]⟩, .string ⟨#[]⟩]) (t := 36) r2_ ?_; intro gt hgt w3 hy hb; have HX := Ad.mk (VX.mk (below_step HR2.out.1 hb) (blk_below HR2.out.2.1 hb) hy HR2.out.2.2.2 (by rw [hgt]; exact HR2.out.1.size) (by rw [hgt]; exact Ne.symm (Nat.ne_of_lt HR2.out.2.2.1))); clear hgt hy hb HR2) | ((with_reducible refine gate_store (t := 36) (p := 7) rfl ?_); refine store_seg (gy := gt) (j := 0) (T := 36) (TB := 36) (cs := #[.int .i64 0, .string ⟨#[]⟩, .string ⟨#[]⟩]) (new := #[.int .i64 t1, .string t2, .string t3]) (u := .agg #[.int .i64 t1, .string t2, .string t3]) (seg := [.int .i64 t1, .string t2, .string t3]) rfl (p := .tmp 7) (x := .tmp 22) rfl rfl r1_ r1_ r1_ HX.out.t k1_ s1_ h1_ rfl ?_; intro w4 hz hup; have HY := Ad.mk (HX.out.upd hup hz); clear hz hup HX; obtain ⟨y0, y1, y2, y3, y4, y5⟩ := rowc0 (Kd.C_below HR0.out HY.out.below) HN0.out; have tc0 := (blk_cell HY.out.t 0).trans (show _ = some (.int .i64 t1) from rfl); have tc1 := (blk_cell HY.out.t 1).trans (show _ = some (.string t2) from rfl); have tc2 := (blk_cell HY.out.t 2).trans (show _ = some (.string t3) from rfl)) | ((with_reducible refine gate_store (t := 36) (p := 7) rfl ?_); refine store_seg (gy := gt) (j := 0) (T := 36) (TB := 36) (cs := #[.int .i64 t1, .string t2, .string t3]) (new := #[.int .i64 ((rd_T56 l0 0).f2.f0), .string ((rd_T56 l0 0).f2.f1), .string ((rd_T56 l0 0).f2.f2)]) (u := .agg #[.int .i64 ((rd_T56 l0 0).f2.f0), .string ((rd_T56 l0 0).f2.f1), .string ((rd_T56 l0 0).f2.f2)]) (seg := [.int .i64 ((rd_T56 l0 0).f2.f0), .string ((rd_T56 l0 0).f2.f1), .string ((rd_T56 l0 0).f2.f2)]) rfl (p := .tmp 7) (x := .tmp 33) rfl rfl r1_ r1_ r1_ HY.out.t k1_ s1_ h1_ rfl ?_; intro w5 hz hup; have HZ := Ad.mk (HY.out.upd hup hz); clear hz hup HY tc0 tc1 tc2; have tc0 := (blk_cell HZ.out.t 0).trans (show _ = some (.int .i64 ((rd_T56 l0 0).f2.f0)) from rfl); have tc1 := (blk_cell HZ.out.t 1).trans (show _ = some (.string ((rd_T56 l0 0).f2.f1)) from rfl); have tc2 := (blk_cell HZ.out.t 2).trans (show _ = some (.string ((rd_T56 l0 0).f2.f2)) from rfl)) | ((with_reducible refine gate_store (t := 36) (p := 4) rfl ?_); refine store_seg (gy := gr) (j := 0) (T := 36) (TB := 36) (cs := #[.int .i64 0, .string ⟨#[]⟩, .string ⟨#[]⟩]) (new := #[.int .i64 ((rd_T56 l0 0).f2.f0), .string ((rd_T56 l0 0).f2.f1), .string ((rd_T56 l0 0).f2.f2)]) (u := .agg #[.int .i64 ((rd_T56 l0 0).f2.f0), .string ((rd_T56 l0 0).f2.f1), .string ((rd_T56 l0 0).f2.f2)]) (seg := [.int .i64 ((rd_T56 l0 0).f2.f0), .string ((rd_T56 l0 0).f2.f1), .string ((rd_T56 l0 0).f2.f2)]) rfl (p := .tmp 4) (x := .tmp 94) rfl rfl r1_ r1_ r1_ HZ.out.r k1_ s1_ h1_ rfl ?_; intro wz hz hup; have HF := Ad.mk (HZ.out.fin hup hz); clear hz hup))
  refine bodyPost_ret (results_ctt rfl _ _ gr 36 #[.int .i64 ((rd_T56 l0 0).f2.f0), .string ((rd_T56 l0 0).f2.f1), .string ((rd_T56 l0 0).f2.f2)] (0, 0) _ rfl HF.out.2 Tryd.underlying36 rfl k1_) rfl ?_
  exact ⟨rfl, HF.out.1⟩
 have k2b : ((rd_T56 l0 0).f0 == 2) = false := by simpa using k2
 by_cases k3 : (rd_T56 l0 0).f0 = 3
 case neg =>
  have H := HH.out
  rw [if_neg k2, if_neg k3] at H
  have k3b : ((rd_T56 l0 0).f0 == 3) = false := by simpa using k3
  clear k2 k3 HH
  cases t4 with
  | true =>
   rw [if_pos rfl] at H
   simp only [Option.some.injEq, Prod.mk.injEq] at H
   obtain ⟨rfl, rfl, rfl, rfl, rfl⟩ := H
   go_enter Tryd.func19, Tryd.ntmps19
   go_wp2_with (first | ((with_reducible refine gate_dst (N := 4) rfl ?_); refine box_event r1_ (N := 4) r1_ (cs := #[.int .i64 0, .string ⟨#[]⟩, .string ⟨#[]⟩]) (t := 36) r2_ ?_; intro gr hgr w1 hy hb; have HR := Ad.mk (show Below w.heap.size w w1 ∧ w1.heap[gr]? = some (.cells #[.int .i64 0, .string ⟨#[]⟩, .string ⟨#[]⟩] 36 (0, 0)) ∧ gr = w.heap.size from ⟨hb, hy, hgr⟩); clear hgr hy hb; obtain ⟨x0, x1, x2, x3, x4, x5⟩ := rowc0 (Kd.C_below HR0.out HR.out.1) HN0.out) | (go_at_call 27; refine (lex_resource.calls k ((rd_T56 l0 0).f0) ((rd_T56 l0 0).f1) ((rd_T56 l0 0).f2.f0) ((rd_T56 l0 0).f2.f1) ((rd_T56 l0 0).f2.f2) ((rd_T56 l0 0).f3) mv M t1 t2 t3 true _ (HM.out.below HR.out.1) AR.out).mono ?_; rintro e w2 ⟨rfl, hb⟩; have HR2 := Ad.mk (show Below w.heap.size w w2 ∧ w2.heap[gr]? = some (.cells #[.int .i64 0, .string ⟨#[]⟩, .string ⟨#[]⟩] 36 (0, 0)) ∧ gr < w2.heap.size ∧ w.heap.size ≤ gr from ⟨below_step HR.out.1 hb, blk_below HR.out.2.1 hb, blk_lt (blk_below HR.out.2.1 hb), Nat.le_of_eq HR.out.2.2.symm⟩); clear hb HR x0 x1 x2 x3 x4 x5) | ((with_reducible refine gate_dst (N := 7) rfl ?_); refine box_event r1_ (N := 7) r1_ (cs := #[.int .i64 0, .string ⟨#[]⟩, .string ⟨#[]⟩]) (t := 36) r2_ ?_; intro gt hgt w3 hy hb; have HX := Ad.mk (VX.mk (below_step HR2.out.1 hb) (blk_below HR2.out.2.1 hb) hy HR2.out.2.2.2 (by rw [hgt]; exact HR2.out.1.size) (by rw [hgt]; exact Ne.symm (Nat.ne_of_lt HR2.out.2.2.1))); clear hgt hy hb HR2) | ((with_reducible refine gate_store (t := 36) (p := 7) rfl ?_); refine store_seg (gy := gt) (j := 0) (T := 36) (TB := 36) (cs := #[.int .i64 0, .string ⟨#[]⟩, .string ⟨#[]⟩]) (new := #[.int .i64 t1, .string t2, .string t3]) (u := .agg #[.int .i64 t1, .string t2, .string t3]) (seg := [.int .i64 t1, .string t2, .string t3]) rfl (p := .tmp 7) (x := .tmp 22) rfl rfl r1_ r1_ r1_ HX.out.t k1_ s1_ h1_ rfl ?_; intro w4 hz hup; have HY := Ad.mk (HX.out.upd hup hz); clear hz hup HX; obtain ⟨y0, y1, y2, y3, y4, y5⟩ := rowc0 (Kd.C_below HR0.out HY.out.below) HN0.out; have tc0 := (blk_cell HY.out.t 0).trans (show _ = some (.int .i64 t1) from rfl); have tc1 := (blk_cell HY.out.t 1).trans (show _ = some (.string t2) from rfl); have tc2 := (blk_cell HY.out.t 2).trans (show _ = some (.string t3) from rfl)) | ((with_reducible refine gate_store (t := 36) (p := 4) rfl ?_); refine store_seg (gy := gr) (j := 0) (T := 36) (TB := 36) (cs := #[.int .i64 0, .string ⟨#[]⟩, .string ⟨#[]⟩]) (new := #[.int .i64 t1, .string t2, .string t3]) (u := .agg #[.int .i64 t1, .string t2, .string t3]) (seg := [.int .i64 t1, .string t2, .string t3]) rfl (p := .tmp 4) (x := .tmp 94) rfl rfl r1_ r1_ r1_ HY.out.r k1_ s1_ h1_ rfl ?_; intro wz hz hup; have HF := Ad.mk (HY.out.fin hup hz); clear hz hup))
   refine bodyPost_ret (results_ctt rfl _ _ gr 36 #[.int .i64 t1, .string t2, .string t3] (0, 0) _ rfl HF.out.2 Tryd.underlying36 rfl k1_) rfl ?_
   exact ⟨rfl, HF.out.1⟩
  | false =>
   rw [if_neg (by decide)] at H
   simp only [Option.some.injEq, Prod.mk.injEq] at H
   obtain ⟨rfl, rfl, rfl, rfl, rfl⟩ := H
   go_enter Tryd.func19, Tryd.ntmps19
   go_wp2_with (first | ((with_reducible refine gate_dst (N := 4) rfl ?_); refine box_event r1_ (N := 4) r1_ (cs := #[.int .i64 0, .string ⟨#[]⟩, .string ⟨#[]⟩]) (t := 36) r2_ ?_; intro gr hgr w1 hy hb; have HR := Ad.mk (show Below w.heap.size w w1 ∧ w1.heap[gr]? = some (.cells #[.int .i64 0, .string ⟨#[]⟩, .string ⟨#[]⟩] 36 (0, 0)) ∧ gr = w.heap.size from ⟨hb, hy, hgr⟩); clear hgr hy hb; obtain ⟨x0, x1, x2, x3, x4, x5⟩ := rowc0 (Kd.C_below HR0.out HR.out.1) HN0.out) | (go_at_call 27; refine (lex_resource.calls k ((rd_T56 l0 0).f0) ((rd_T56 l0 0).f1) ((rd_T56 l0 0).f2.f0) ((rd_T56 l0 0).f2.f1) ((rd_T56 l0 0).f2.f2) ((rd_T56 l0 0).f3) mv M t1 t2 t3 false _ (HM.out.below HR.out.1) AR.out).mono ?_; rintro e w2 ⟨rfl, hb⟩; have HR2 := Ad.mk (show Below w.heap.size w w2 ∧ w2.heap[gr]? = some (.cells #[.int .i64 0, .string ⟨#[]⟩, .string ⟨#[]⟩] 36 (0, 0)) ∧ gr < w2.heap.size ∧ w.heap.size ≤ gr from ⟨below_step HR.out.1 hb, blk_below HR.out.2.1 hb, blk_lt (blk_below HR.out.2.1 hb), Nat.le_of_eq HR.out.2.2.symm⟩); clear hb HR x0 x1 x2 x3 x4 x5) | ((with_reducible refine gate_dst (N := 7) rfl ?_); refine box_event r1_ (N := 7) r1_ (cs := #[.int .i64 0, .string ⟨#[]⟩, .string ⟨#[]⟩]) (t := 36) r2_ ?_; intro gt hgt w3 hy hb; have HX := Ad.mk (VX.mk (below_step HR2.out.1 hb) (blk_below HR2.out.2.1 hb) hy HR2.out.2.2.2 (by rw [hgt]; exact HR2.out.1.size) (by rw [hgt]; exact Ne.symm (Nat.ne_of_lt HR2.out.2.2.1))); clear hgt hy hb HR2) | ((with_reducible refine gate_store (t := 36) (p := 7) rfl ?_); refine store_seg (gy := gt) (j := 0) (T := 36) (TB := 36) (cs := #[.int .i64 0, .string ⟨#[]⟩, .string ⟨#[]⟩]) (new := #[.int .i64 t1, .string t2, .string t3]) (u := .agg #[.int .i64 t1, .string t2, .string t3]) (seg := [.int .i64 t1, .string t2, .string t3]) rfl (p := .tmp 7) (x := .tmp 22) rfl rfl r1_ r1_ r1_ HX.out.t k1_ s1_ h1_ rfl ?_; intro w4 hz hup; have HY := Ad.mk (HX.out.upd hup hz); clear hz hup HX; obtain ⟨y0, y1, y2, y3, y4, y5⟩ := rowc0 (Kd.C_below HR0.out HY.out.below) HN0.out; have tc0 := (blk_cell HY.out.t 0).trans (show _ = some (.int .i64 t1) from rfl); have tc1 := (blk_cell HY.out.t 1).trans (show _ = some (.string t2) from rfl); have tc2 := (blk_cell HY.out.t 2).trans (show _ = some (.string t3) from rfl)) | ((with_reducible refine gate_store (t := 36) (p := 4) rfl ?_); refine store_seg (gy := gr) (j := 0) (T := 36) (TB := 36) (cs := #[.int .i64 0, .string ⟨#[]⟩, .string ⟨#[]⟩]) (new := #[.int .i64 0, .string ⟨#[]⟩, .string ⟨#[]⟩]) (u := .agg #[.int .i64 0, .string ⟨#[]⟩, .string ⟨#[]⟩]) (seg := [.int .i64 0, .string ⟨#[]⟩, .string ⟨#[]⟩]) rfl (p := .tmp 4) (x := .tmp 93) rfl rfl r1_ r1_ r1_ HY.out.r k1_ s1_ h1_ rfl ?_; intro wz hz hup; have HF := Ad.mk (HY.out.fin hup hz); clear hz hup))
   refine bodyPost_ret (results_ctt rfl _ _ gr 36 #[.int .i64 0, .string ⟨#[]⟩, .string ⟨#[]⟩] (0, 0) _ rfl HF.out.2 Tryd.underlying36 rfl k1_) rfl ?_
   exact ⟨rfl, HF.out.1⟩
 have k3b : ((rd_T56 l0 0).f0 == 3) = true := by simpa using k3
 have H := HH.out
 clear HH
 rw [if_neg k2, if_pos k3] at H
 clear k2 k3
 obtain ⟨⟨K2, X2, n2⟩, A0, H⟩ := Option.bind_eq_some_iff.mp H
 have HBB := Ad.mk A0
 simp only at H
 obtain ⟨m, A0, H⟩ := Option.bind_eq_some_iff.mp H
 have HMM := Ad.mk A0
 have HFIN := Ad.mk H
 clear A0 H
 go_enter Tryd.func19, Tryd.ntmps19
 go_upto_region 10 with (first | ((with_reducible refine gate_dst (N := 4) rfl ?_); refine box_event r1_ (N := 4) r1_ (cs := #[.int .i64 0, .string ⟨#[]⟩, .string ⟨#[]⟩]) (t := 36) r2_ ?_; intro gr hgr w1 hy hb; have HR := Ad.mk (show Below w.heap.size w w1 ∧ w1.heap[gr]? = some (.cells #[.int .i64 0, .string ⟨#[]⟩, .string ⟨#[]⟩] 36 (0, 0)) ∧ gr = w.heap.size from ⟨hb, hy, hgr⟩); clear hgr hy hb; obtain ⟨x0, x1, x2, x3, x4, x5⟩ := rowc0 (Kd.C_below HR0.out HR.out.1) HN0.out) | (go_at_call 27; refine (lex_resource.calls k ((rd_T56 l0 0).f0) ((rd_T56 l0 0).f1) ((rd_T56 l0 0).f2.f0) ((rd_T56 l0 0).f2.f1) ((rd_T56 l0 0).f2.f2) ((rd_T56 l0 0).f3) mv M t1 t2 t3 t4 _ (HM.out.below HR.out.1) AR.out).mono ?_; rintro e w2 ⟨rfl, hb⟩; have HR2 := Ad.mk (show Below w.heap.size w w2 ∧ w2.heap[gr]? = some (.cells #[.int .i64 0, .string ⟨#[]⟩, .string ⟨#[]⟩] 36 (0, 0)) ∧ gr < w2.heap.size ∧ w.heap.size ≤ gr from ⟨below_step HR.out.1 hb, blk_below HR.out.2.1 hb, blk_lt (blk_below HR.out.2.1 hb), Nat.le_of_eq HR.out.2.2.symm⟩); clear hb HR x0 x1 x2 x3 x4 x5) | ((with_reducible refine gate_dst (N := 7) rfl ?_); refine box_event r1_ (N := 7) r1_ (cs := #[.int .i64 0, .string ⟨#[]⟩, .string ⟨#[]⟩]) (t := 36) r2_ ?_; intro gt hgt w3 hy hb; have HX := Ad.mk (VX.mk (below_step HR2.out.1 hb) (blk_below HR2.out.2.1 hb) hy HR2.out.2.2.2 (by rw [hgt]; exact HR2.out.1.size) (by rw [hgt]; exact Ne.symm (Nat.ne_of_lt HR2.out.2.2.1))); clear hgt hy hb HR2) | ((with_reducible refine gate_store (t := 36) (p := 7) rfl ?_); refine store_seg (gy := gt) (j := 0) (T := 36) (TB := 36) (cs := #[.int .i64 0, .string ⟨#[]⟩, .string ⟨#[]⟩]) (new := #[.int .i64 t1, .string t2, .string t3]) (u := .agg #[.int .i64 t1, .string t2, .string t3]) (seg := [.int .i64 t1, .string t2, .string t3]) rfl (p := .tmp 7) (x := .tmp 22) rfl rfl r1_ r1_ r1_ HX.out.t k1_ s1_ h1_ rfl ?_; intro w4 hz hup; have HY := Ad.mk (HX.out.upd hup hz); clear hz hup HX; obtain ⟨y0, y1, y2, y3, y4, y5⟩ := rowc0 (Kd.C_below HR0.out HY.out.below) HN0.out; have tc0 := (blk_cell HY.out.t 0).trans (show _ = some (.int .i64 t1) from rfl); have tc1 := (blk_cell HY.out.t 1).trans (show _ = some (.string t2) from rfl); have tc2 := (blk_cell HY.out.t 2).trans (show _ = some (.string t3) from rfl)) | ((with_reducible refine gate_store (t := 36) (p := 7) rfl ?_); refine store_seg (gy := gt) (j := 0) (T := 36) (TB := 36) (cs := #[.int .i64 t1, .string t2, .string t3]) (new := #[.int .i64 3, .string ((rd_T56 l0 0).f1), .string ⟨#[]⟩]) (u := .agg #[.int .i64 3, .string ((rd_T56 l0 0).f1), .string ⟨#[]⟩]) (seg := [.int .i64 3, .string ((rd_T56 l0 0).f1), .string ⟨#[]⟩]) rfl (p := .tmp 7) (x := .tmp 40) rfl rfl r1_ r1_ r1_ HY.out.t k1_ s1_ h1_ rfl ?_; intro w5 hz hup; have HZ := Ad.mk (HY.out.upd hup hz); clear hz hup HY tc0 tc1 tc2 y0 y1 y2 y3 y4 y5))
 go_cut [50] (fun v50 wc => ∃ z : Bool, v50 = .bool z ∧ Ad (z = (decide (1 < l0.length) && ((rd_T56 l0 1).f0 == 4))) ∧ Ad (VX w wc gr gt #[.int .i64 3, .string ((rd_T56 l0 0).f1), .string ⟨#[]⟩]))
 case first =>
  by_cases n1_ : 1 < l0.length
  ·have HN1 := Ad.mk n1_
   have n1b : decide (1 < l0.length) = true := decide_eq_true n1_
   have n1c : decide ((l0.length : Int) > 1) = true := decide_eq_true (by omega)
   have n1d : (1 < l0.length) = True := eq_true n1_
   have n1e : ((1 : Int) < (l0.length : Int)) = True := eq_true (by omega)
   clear n1_
   obtain ⟨z0, z1, z2, z3, z4, z5⟩ := rowk (Kd.C_below HR0.out HZ.out.below) 1 HN1.out (by decide) 1 rfl 6 rfl
   simp only [Nat.reduceAdd] at z0 z1 z2 z3 z4 z5
   go_wp2
   go_meet
   case rel => exact ⟨_, rfl, ⟨by rw [n1b]; rfl⟩, HZ⟩
  
  have n1b : decide (1 < l0.length) = false := decide_eq_false n1_
  have n1c : decide ((l0.length : Int) > 1) = false := decide_eq_false (by omega)
  clear n1_
  go_wp2
  go_meet
  case rel => exact ⟨_, rfl, ⟨by rw [n1b]; rfl⟩, HZ⟩
 case rest =>
  clear HZ
  obtain ⟨z, rfl, Hz, HZ⟩ := hcut
  go_upto_if 50 with (fail)
  go_cut [9] (fun v9 wc => ∃ (K : Int) (X : ByteArray) (n : Int), v9 = .int .i64 n ∧ Ad (lex_Read.A l0 = (K, X, n)) ∧ Ad (VX w wc gr gt #[.int .i64 K, .string ((rd_T56 l0 0).f1), .string X]))
  case first =>
   cases z with
   | true =>
    have hz2 := Hz.out.symm
    rw [Bool.and_eq_true] at hz2
    have n1_ : 1 < l0.length := of_decide_eq_true hz2.1
    have f4_ : (rd_T56 l0 1).f0 = 4 := by simpa using hz2.2
    have HA := Ad.mk (show lex_Read.A l0 = (4, (rd_T56 l0 1).f1, 2) from if_pos ⟨n1_, f4_⟩)
    have HN1 := Ad.mk n1_
    have n1b : decide (1 < l0.length) = true := decide_eq_true n1_
    have n1c : decide ((l0.length : Int) > 1) = true := decide_eq_true (by omega)
    have n1d : (1 < l0.length) = True := eq_true n1_
    have n1e : ((1 : Int) < (l0.length : Int)) = True := eq_true (by omega)
    clear n1_ f4_ hz2 Hz
    obtain ⟨z0, z1, z2, z3, z4, z5⟩ := rowk (Kd.C_below HR0.out HZ.out.below) 1 HN1.out (by decide) 1 rfl 6 rfl
    simp only [Nat.reduceAdd] at z0 z1 z2 z3 z4 z5
    have tc0 := (blk_cell HZ.out.t 0).trans (show _ = some (.int .i64 3) from rfl)
    have tc1 := (blk_cell HZ.out.t 1).trans (show _ = some (.string ((rd_T56 l0 0).f1)) from rfl)
    have tc2 := (blk_cell HZ.out.t 2).trans (show _ = some (.string ⟨#[]⟩) from rfl)
    have tf := fun i => blk_frozen HZ.out.t i
    go_wp2
    go_region
    all_goals (go_wp2; go_meet; (case rel => exact ⟨4, _, 2, rfl, HA, ⟨((HZ.out.drew.put 0 _ rfl).put 2 _ rfl)⟩⟩))
   | false =>
    have HA := Ad.mk (show lex_Read.A l0 = (3, (⟨#[]⟩ : ByteArray), 1) from if_neg (fun hc => by have e := Hz.out; simp [hc.1, hc.2] at e))
    clear Hz
    go_wp2
    go_meet
    case rel => exact ⟨3, _, 1, rfl, HA, HZ⟩
  case rest =>
   clear HZ Hz
   obtain ⟨K, X, n, rfl, HA, HZ⟩ := hcut
   have hb := HBB.out
   rw [HA.out] at hb
   unfold lex_Read.B at hb
   have HB2 := Ad.mk hb
   clear hb HA HBB
   go_upto_region 12 with (fail)
   go_cut [65] (fun v65 wc => ∃ z : Bool, v65 = .bool z ∧ Ad (if z = true then 2 < l0.length ∧ ∃ u, lex_resource.f k ((rd_T56 l0 2).f0) ((rd_T56 l0 2).f1) ((rd_T56 l0 2).f2.f0) ((rd_T56 l0 2).f2.f1) ((rd_T56 l0 2).f2.f2) ((rd_T56 l0 2).f3) M = some u ∧ (if u.2.2.2 = true then (5, u.2.1, 3) else (K, X, n)) = (K2, X2, n2) else (K, X, n) = (K2, X2, n2)) ∧ Ad (VX w wc gr gt #[.int .i64 K, .string ((rd_T56 l0 0).f1), .string X]))
   case first =>
    have hb := HB2.out
    clear HB2
    by_cases n2_ : 2 < l0.length
    ·rw [if_pos n2_] at hb
     obtain ⟨z, A0, hb⟩ := Option.bind_eq_some_iff.mp hb
     have HK := Ad.mk A0
     clear A0
     have HN1 := Ad.mk (show 1 < l0.length by omega)
     have HN2 := Ad.mk n2_
     have HU := Ad.mk (show (if z = true then 2 < l0.length ∧ ∃ u, lex_resource.f k ((rd_T56 l0 2).f0) ((rd_T56 l0 2).f1) ((rd_T56 l0 2).f2.f0) ((rd_T56 l0 2).f2.f1) ((rd_T56 l0 2).f2.f2) ((rd_T56 l0 2).f3) M = some u ∧ (if u.2.2.2 = true then (5, u.2.1, 3) else (K, X, n)) = (K2, X2, n2) else (K, X, n) = (K2, X2, n2)) from by
      cases z with
      | true => rw [if_pos rfl] at hb; obtain ⟨u, a, b⟩ := Option.bind_eq_some_iff.mp hb; rw [if_pos rfl]; exact ⟨n2_, u, a, Option.some.inj b⟩
      | false => rw [if_neg (by decide)] at hb; rw [if_neg (by decide)]; exact Option.some.inj hb)
     clear hb
     have n2b : decide (2 < l0.length) = true := decide_eq_true n2_
     have n2c : decide ((l0.length : Int) > 2) = true := decide_eq_true (by omega)
     have n2d : (2 < l0.length) = True := eq_true n2_
     have n2e : ((2 : Int) < (l0.length : Int)) = True := eq_true (by omega)
     have n1d : (1 < l0.length) = True := eq_true HN1.out
     have n1e : ((1 : Int) < (l0.length : Int)) = True := eq_true (by have := HN1.out; omega)
     clear n2_
     obtain ⟨z0, z1, z2, z3, z4, z5⟩ := rowk (Kd.C_below HR0.out HZ.out.below) 1 HN1.out (by decide) 1 rfl 6 rfl
     simp only [Nat.reduceAdd] at z0 z1 z2 z3 z4 z5
     go_wp2_with (first | (go_at_call 20; refine (lex_Mark.calls ((rd_T56 l0 1).f0) ((rd_T56 l0 1).f1) ((rd_T56 l0 1).f2.f0) ((rd_T56 l0 1).f2.f1) ((rd_T56 l0 1).f2.f2) ((rd_T56 l0 1).f3) (⟨#[94, 94]⟩ : ByteArray) z _ HK.out).mono ?_; rintro e w6 ⟨rfl, hb⟩; have HZ1 := Ad.mk (HZ.out.lower hb); clear hb))
     go_meet
     case rel => exact ⟨_, rfl, HU, HZ1⟩
    rw [if_neg n2_] at hb
    have HU := Ad.mk (Option.some.inj hb)
    clear hb
    have n2b : decide (2 < l0.length) = false := decide_eq_false n2_
    have n2c : decide ((l0.length : Int) > 2) = false := decide_eq_false (by omega)
    clear n2_
    go_wp2
    go_meet
    case rel => exact ⟨false, rfl, ⟨by rw [if_neg (by decide)]; exact HU.out⟩, HZ⟩
   case rest =>
    clear HZ HB2
    obtain ⟨z, rfl, HU, HZ⟩ := hcut
    go_upto_if 65 with (fail)
    go_cut [9] (fun v9 wc => v9 = .int .i64 n2 ∧ Ad (VX w wc gr gt #[.int .i64 K2, .string ((rd_T56 l0 0).f1), .string X2]))
    case first =>
     have hu := HU.out
     clear HU
     cases z with
     | false =>
      rw [if_neg (by decide)] at hu
      simp only [Prod.mk.injEq] at hu
      obtain ⟨rfl, rfl, rfl⟩ := hu
      go_wp2
      go_meet
      case rel => exact ⟨rfl, HZ⟩
     | true =>
      rw [if_pos rfl] at hu
      obtain ⟨n2_, ⟨u1, u2, u3, u4⟩, hu, he⟩ := hu
      have HRR := Ad.mk hu
      have HN2 := Ad.mk n2_
      clear hu
      have n2b : decide (2 < l0.length) = true := decide_eq_true n2_
      have n2c : decide ((l0.length : Int) > 2) = true := decide_eq_true (by omega)
      have n2d : (2 < l0.length) = True := eq_true n2_
      have n2e : ((2 : Int) < (l0.length : Int)) = True := eq_true (by omega)
      clear n2_
      obtain ⟨z0, z1, z2, z3, z4, z5⟩ := rowk (Kd.C_below HR0.out HZ.out.below) 2 HN2.out (by decide) 2 rfl 12 rfl
      simp only [Nat.reduceAdd] at z0 z1 z2 z3 z4 z5
      simp only at he
      cases u4 with
      | false =>
       rw [if_neg (by decide)] at he
       simp only [Prod.mk.injEq] at he
       obtain ⟨rfl, rfl, rfl⟩ := he
       go_wp2_with (first | (go_at_call 27; refine (lex_resource.calls k ((rd_T56 l0 2).f0) ((rd_T56 l0 2).f1) ((rd_T56 l0 2).f2.f0) ((rd_T56 l0 2).f2.f1) ((rd_T56 l0 2).f2.f2) ((rd_T56 l0 2).f3) mv M u1 u2 u3 false _ (HM.out.below HZ.out.below) HRR.out).mono ?_; rintro e w6 ⟨rfl, hb⟩; have HZ1 := Ad.mk (HZ.out.lower hb); clear hb HZ z0 z1 z2 z3 z4 z5) | ((with_reducible refine gate_dst (N := 10) rfl ?_); refine box_event r1_ (N := 10) r1_ (cs := #[.int .i64 0, .string ⟨#[]⟩, .string ⟨#[]⟩]) (t := 36) r2_ ?_; intro gu hgu w7 hu hb; have HW7 := Ad.mk (show Below w6.heap.size w6 w7 ∧ gu = w6.heap.size ∧ w7.heap[gu]? = some (.cells #[.int .i64 0, .string ⟨#[]⟩, .string ⟨#[]⟩] 36 (0, 0)) from ⟨hb, hgu, hu⟩); clear hgu hu hb) | ((with_reducible refine gate_store (t := 36) (p := 10) rfl ?_); refine store_seg (gy := gu) (j := 0) (T := 36) (TB := 36) (cs := #[.int .i64 0, .string ⟨#[]⟩, .string ⟨#[]⟩]) (new := #[.int .i64 u1, .string u2, .string u3]) (u := .agg #[.int .i64 u1, .string u2, .string u3]) (seg := [.int .i64 u1, .string u2, .string u3]) rfl (p := .tmp 10) (x := .tmp 72) rfl rfl r1_ r1_ r1_ HW7.out.2.2 k1_ s1_ h1_ rfl ?_; intro w8 hz hup; have HZ2 := Ad.mk (HZ1.out.lower (HW7.out.1.trans (hup.below (Nat.le_of_eq HW7.out.2.1.symm)))); have hu1 := (blk_cell hz 1).trans (show _ = some (.string u2) from rfl); have hng := Ad.mk (show gu ≠ gt by rw [HW7.out.2.1]; exact Ne.symm (Nat.ne_of_lt (blk_lt HZ1.out.t))); clear hz hup HW7 HZ1))
       go_meet
       case rel => exact ⟨rfl, HZ2⟩
      | true =>
       rw [if_pos rfl] at he
       simp only [Prod.mk.injEq] at he
       obtain ⟨rfl, rfl, rfl⟩ := he
       go_wp2_with (first | (go_at_call 27; refine (lex_resource.calls k ((rd_T56 l0 2).f0) ((rd_T56 l0 2).f1) ((rd_T56 l0 2).f2.f0) ((rd_T56 l0 2).f2.f1) ((rd_T56 l0 2).f2.f2) ((rd_T56 l0 2).f3) mv M u1 u2 u3 true _ (HM.out.below HZ.out.below) HRR.out).mono ?_; rintro e w6 ⟨rfl, hb⟩; have HZ1 := Ad.mk (HZ.out.lower hb); clear hb HZ z0 z1 z2 z3 z4 z5) | ((with_reducible refine gate_dst (N := 10) rfl ?_); refine box_event r1_ (N := 10) r1_ (cs := #[.int .i64 0, .string ⟨#[]⟩, .string ⟨#[]⟩]) (t := 36) r2_ ?_; intro gu hgu w7 hu hb; have HW7 := Ad.mk (show Below w6.heap.size w6 w7 ∧ gu = w6.heap.size ∧ w7.heap[gu]? = some (.cells #[.int .i64 0, .string ⟨#[]⟩, .string ⟨#[]⟩] 36 (0, 0)) from ⟨hb, hgu, hu⟩); clear hgu hu hb) | ((with_reducible refine gate_store (t := 36) (p := 10) rfl ?_); refine store_seg (gy := gu) (j := 0) (T := 36) (TB := 36) (cs := #[.int .i64 0, .string ⟨#[]⟩, .string ⟨#[]⟩]) (new := #[.int .i64 u1, .string u2, .string u3]) (u := .agg #[.int .i64 u1, .string u2, .string u3]) (seg := [.int .i64 u1, .string u2, .string u3]) rfl (p := .tmp 10) (x := .tmp 72) rfl rfl r1_ r1_ r1_ HW7.out.2.2 k1_ s1_ h1_ rfl ?_; intro w8 hz hup; have HZ2 := Ad.mk (HZ1.out.lower (HW7.out.1.trans (hup.below (Nat.le_of_eq HW7.out.2.1.symm)))); have hu1 := (blk_cell hz 1).trans (show _ = some (.string u2) from rfl); have hng := Ad.mk (show gu ≠ gt by rw [HW7.out.2.1]; exact Ne.symm (Nat.ne_of_lt (blk_lt HZ1.out.t))); clear hz hup HW7 HZ1))
       have tc0 := (blk_cell HZ2.out.t 0).trans (show _ = some (.int .i64 K) from rfl)
       have tc1 := (blk_cell HZ2.out.t 1).trans (show _ = some (.string ((rd_T56 l0 0).f1)) from rfl)
       have tc2 := (blk_cell HZ2.out.t 2).trans (show _ = some (.string X) from rfl)
       have tf := fun i => blk_frozen HZ2.out.t i
       have hng1 := hng.out
       have hng2 := Ne.symm hng.out
       go_region
       all_goals (go_wp2; go_meet; (case rel => exact ⟨rfl, ⟨((HZ2.out.drew.put 0 _ rfl).put 2 _ rfl)⟩⟩))
    case rest =>
     clear HZ HU
     obtain ⟨rfl, HZ⟩ := hcut
     go_upto_region 16 with (fail)
     go_cut [86] (fun v86 wc => ∃ z : Bool, v86 = .bool z ∧ Ad (if z = true then lex_Read.C (K2, X2, n2) = (3, (⟨#[]⟩ : ByteArray)) else lex_Read.C (K2, X2, n2) = (K2, X2)) ∧ Ad (VX w wc gr gt #[.int .i64 K2, .string ((rd_T56 l0 0).f1), .string X2]))
     case first =>
      have tc0 := (blk_cell HZ.out.t 0).trans (show _ = some (.int .i64 K2) from rfl)
      have tc1 := (blk_cell HZ.out.t 1).trans (show _ = some (.string ((rd_T56 l0 0).f1)) from rfl)
      have tc2 := (blk_cell HZ.out.t 2).trans (show _ = some (.string X2) from rfl)
      by_cases ex : X2.toList = ([104, 116, 116, 112, 58, 47, 47, 119, 119, 119, 46, 119, 51, 46, 111, 114, 103, 47, 50, 48, 48, 49, 47, 88, 77, 76, 83, 99, 104, 101, 109, 97, 35, 115, 116, 114, 105, 110, 103] : List UInt8)
      ·have ex1 : (X2.toList == ([104, 116, 116, 112, 58, 47, 47, 119, 119, 119, 46, 119, 51, 46, 111, 114, 103, 47, 50, 48, 48, 49, 47, 88, 77, 76, 83, 99, 104, 101, 109, 97, 35, 115, 116, 114, 105, 110, 103] : List UInt8)) = true := by simpa using ex
       have HQ := Ad.mk (show (if (K2 == 5) = true then lex_Read.C (K2, X2, n2) = (3, (⟨#[]⟩ : ByteArray)) else lex_Read.C (K2, X2, n2) = (K2, X2)) from by
        by_cases e5 : K2 = 5
        ·rw [if_pos (by simpa using e5)]; exact if_pos ⟨ex, e5⟩
        rw [if_neg (by simpa using e5)]; exact if_neg (fun hc => e5 hc.2))
       go_wp2
       go_meet
       case rel => exact ⟨_, rfl, HQ, HZ⟩
      have ex1 : (X2.toList == ([104, 116, 116, 112, 58, 47, 47, 119, 119, 119, 46, 119, 51, 46, 111, 114, 103, 47, 50, 48, 48, 49, 47, 88, 77, 76, 83, 99, 104, 101, 109, 97, 35, 115, 116, 114, 105, 110, 103] : List UInt8)) = false := by simpa using ex
      have HQ := Ad.mk (show lex_Read.C (K2, X2, n2) = (K2, X2) from if_neg (fun hc => ex hc.1))
      go_wp2
      go_meet
      case rel => exact ⟨false, rfl, ⟨by rw [if_neg (by decide)]; exact HQ.out⟩, HZ⟩
     case rest =>
      clear HZ
      obtain ⟨z, rfl, HQ, HZ⟩ := hcut
      obtain ⟨⟨K3, X3⟩, hC⟩ : ∃ p, p = lex_Read.C (K2, X2, n2) := ⟨_, rfl⟩
      rw [← hC] at HMM HFIN
      have HC3 := Ad.mk hC
      clear hC
      go_upto_if 86 with (fail)
      go_cut [] (fun wc => Ad (VX w wc gr gt #[.int .i64 K3, .string ((rd_T56 l0 0).f1), .string X3]))
      case first =>
       have tc0 := (blk_cell HZ.out.t 0).trans (show _ = some (.int .i64 K2) from rfl)
       have tc1 := (blk_cell HZ.out.t 1).trans (show _ = some (.string ((rd_T56 l0 0).f1)) from rfl)
       have tc2 := (blk_cell HZ.out.t 2).trans (show _ = some (.string X2) from rfl)
       have tf := fun i => blk_frozen HZ.out.t i
       have hq := HQ.out
       have hc := HC3.out
       cases z with
       | true =>
        rw [if_pos rfl] at hq
        rw [hq] at hc
        simp only [Prod.mk.injEq] at hc
        obtain ⟨rfl, rfl⟩ := hc
        clear hq HQ
        go_wp2
        go_meet
        case rel => exact ⟨((HZ.out.put 0 _ rfl).put 2 _ rfl)⟩
       | false =>
        rw [if_neg (by decide)] at hq
        rw [hq] at hc
        simp only [Prod.mk.injEq] at hc
        obtain ⟨rfl, rfl⟩ := hc
        clear hq HQ
        go_wp2
        go_meet
        case rel => exact HZ
      case rest =>
       clear HZ HC3 HQ
       have HZ := hcut
       clear hcut
       have tc0 := (blk_cell HZ.out.t 0).trans (show _ = some (.int .i64 K3) from rfl)
       have tc1 := (blk_cell HZ.out.t 1).trans (show _ = some (.string ((rd_T56 l0 0).f1)) from rfl)
       have tc2 := (blk_cell HZ.out.t 2).trans (show _ = some (.string X3) from rfl)
       have H := HFIN.out
       simp only at H
       cases m with
       | true =>
        rw [if_pos rfl] at H
        simp only [Option.some.injEq, Prod.mk.injEq] at H
        obtain ⟨rfl, rfl, rfl, rfl, rfl⟩ := H
        go_wp2_with (first | (go_at_call 28; refine (term_May.calls k K3 ((rd_T56 l0 0).f1) X3 true _ HMM.out).mono ?_; rintro e w9 ⟨rfl, hb⟩; have HZ9 := Ad.mk (HZ.out.lower hb); clear hb tc0 tc1 tc2 HZ; have te0 := (blk_cell HZ9.out.t 0).trans (show _ = some (.int .i64 K3) from rfl); have te1 := (blk_cell HZ9.out.t 1).trans (show _ = some (.string ((rd_T56 l0 0).f1)) from rfl); have te2 := (blk_cell HZ9.out.t 2).trans (show _ = some (.string X3) from rfl)) | ((with_reducible refine gate_store (t := 36) (p := 4) rfl ?_); refine store_seg (gy := gr) (j := 0) (T := 36) (TB := 36) (cs := #[.int .i64 0, .string ⟨#[]⟩, .string ⟨#[]⟩]) (new := #[.int .i64 K3, .string ((rd_T56 l0 0).f1), .string X3]) (u := .agg #[.int .i64 K3, .string ((rd_T56 l0 0).f1), .string X3]) (seg := [.int .i64 K3, .string ((rd_T56 l0 0).f1), .string X3]) rfl (p := .tmp 4) (x := .tmp 94) rfl rfl r1_ r1_ r1_ HZ9.out.r k1_ s1_ h1_ rfl ?_; intro wz hz hup; have HF := Ad.mk (HZ9.out.fin hup hz); clear hz hup))
        refine bodyPost_ret (results_ctt rfl _ _ gr 36 #[.int .i64 K3, .string ((rd_T56 l0 0).f1), .string X3] (0, 0) _ rfl HF.out.2 Tryd.underlying36 rfl k1_) rfl ?_
        exact ⟨rfl, HF.out.1⟩
       | false =>
        rw [if_neg (by decide)] at H
        simp only [Option.some.injEq, Prod.mk.injEq] at H
        obtain ⟨rfl, rfl, rfl, rfl, rfl⟩ := H
        go_wp2_with (first | (go_at_call 28; refine (term_May.calls k K3 ((rd_T56 l0 0).f1) X3 false _ HMM.out).mono ?_; rintro e w9 ⟨rfl, hb⟩; have HZ9 := Ad.mk (HZ.out.lower hb); clear hb tc0 tc1 tc2 HZ; have te0 := (blk_cell HZ9.out.t 0).trans (show _ = some (.int .i64 K3) from rfl); have te1 := (blk_cell HZ9.out.t 1).trans (show _ = some (.string ((rd_T56 l0 0).f1)) from rfl); have te2 := (blk_cell HZ9.out.t 2).trans (show _ = some (.string X3) from rfl)) | ((with_reducible refine gate_store (t := 36) (p := 4) rfl ?_); refine store_seg (gy := gr) (j := 0) (T := 36) (TB := 36) (cs := #[.int .i64 0, .string ⟨#[]⟩, .string ⟨#[]⟩]) (new := #[.int .i64 0, .string ⟨#[]⟩, .string ⟨#[]⟩]) (u := .agg #[.int .i64 0, .string ⟨#[]⟩, .string ⟨#[]⟩]) (seg := [.int .i64 0, .string ⟨#[]⟩, .string ⟨#[]⟩]) rfl (p := .tmp 4) (x := .tmp 93) rfl rfl r1_ r1_ r1_ HZ9.out.r k1_ s1_ h1_ rfl ?_; intro wz hz hup; have HF := Ad.mk (HZ9.out.fin hup hz); clear hz hup))
        refine bodyPost_ret (results_ctt rfl _ _ gr 36 #[.int .i64 0, .string ⟨#[]⟩, .string ⟨#[]⟩] (0, 0) _ rfl HF.out.2 Tryd.underlying36 rfl k1_) rfl ?_
        exact ⟨rfl, HF.out.1⟩
end Go.Proofs.YtjnhdamilbcmpaaDoor.PTm

import Derived.Test.YtpbphelaeleikaaGreatDoorXtPLtx0
import Derived.Test.YtpbphelaeleikaaGreatDoorXtPLtx1
namespace Go.Proofs.YtpbphelaeleikaaGreatDoor.PLt
open Go.RowKit Go.Proofs.YtpbphelaeleikaaGreatDoorW.PrintWords Go.Proofs.YtpbphelaeleikaaGreatDoorW.PrintLast Go.Proofs.YtpbphelaeleikaaGreatDoorW.PrintMore
attribute [local go_sem] max2_int min2_int max_two min_two max_three min_three max_four min_four
set_option linter.unusedVariables false
set_option linter.unusedSimpArgs false
set_option maxHeartbeats 8000000
set_option maxRecDepth 100000
theorem utf_head.total (k : Nat) (c : Int) (hk : 3 ≤ k) : ∃ hr hm : Int, utf_head.f k c = some (hr, hm) ∧ -1 ≤ hm ∧ hm ≤ 3 := by
 obtain ⟨k, rfl⟩ : ∃ m, k = m + 3 := ⟨k - 3, by omega⟩
 unfold utf_head.f
 have h1 : ∀ (k : Nat) (b : Bool), ∃ hr hm : Int, utf_head.j1 (k + 1) c b = some (hr, hm) ∧ -1 ≤ hm ∧ hm ≤ 3 := by
  intro k b
  simp only [utf_head.j1]
  repeat' (first | exact ⟨_, _, rfl, by omega, by omega⟩ | split)
 have h0 : ∀ (k : Nat) (b : Bool), ∃ hr hm : Int, utf_head.j0 (k + 2) c b = some (hr, hm) ∧ -1 ≤ hm ∧ hm ≤ 3 := by
  intro k b
  simp only [utf_head.j0]
  repeat' (first | exact ⟨_, _, rfl, by omega, by omega⟩ | exact h1 _ _ | split)
 repeat' (first | exact ⟨_, _, rfl, by omega, by omega⟩ | exact h0 _ _ | split)
theorem w64n {n : Int} (h0 : -9223372036854775808 ≤ n) (h : n ≤ 9223372036854775807) : wrap64 n = n := by unfold wrap64; omega
theorem utf_may.total (r : Int) : ∃ b, utf_may.f r = some b := by
 unfold utf_may.f
 repeat' (first | exact ⟨_, rfl⟩ | split)
theorem utf_size.total (r : Int) : ∃ n, utf_size.f r = some n ∧ 1 ≤ n ∧ n ≤ 4 := by
 unfold utf_size.f
 repeat' (first | exact ⟨_, rfl, by omega, by omega⟩ | split)
def GetOk (t : ByteArray) (v : Int × Int × Int) : Prop := (v.2.2 = 0 ∧ 1 ≤ v.2.1 ∧ v.2.1 ≤ t.size ∧ v.2.1 ≤ 4 ∧ utf_size.f v.1 = some v.2.1) ∨ v = (0, 0, 4)
theorem utf_Get.tot_l (t : ByteArray) (more : Int) (hm : 0 ≤ more) (h3 : more ≤ 3) (hs : more < t.size) : ∀ (d k : Nat) (r i : Int), (more - i).toNat = d → 0 ≤ i → i ≤ more → d < k →
  ∃ v, utf_Get.l0 k t more r i = some v ∧ GetOk t v
 | 0, k, r, i, hd, h0, hi, hk => by
  obtain ⟨k, rfl⟩ : ∃ m, k = m + 1 := ⟨k - 1, by omega⟩
  simp only [utf_Get.l0]
  rw [if_neg (by omega)]
  obtain ⟨b, hb⟩ := utf_may.total r
  obtain ⟨n, hn, n1, n4⟩ := utf_size.total r
  rw [hb]
  simp only [Option.bind_some]
  split
  ·rw [hn]
   simp only [Option.bind_some]
   split
   ·rename_i e
    rw [w64n (by omega) (by omega)] at e ⊢
    exact ⟨_, rfl, .inl ⟨rfl, (by show (1 : Int) ≤ more + 1; omega), (by show more + 1 ≤ (t.size : Int); omega), (by show more + 1 ≤ (4 : Int); omega), by rw [hn, e]⟩⟩
   exact ⟨_, rfl, .inr rfl⟩
  exact ⟨_, rfl, .inr rfl⟩
 | d + 1, k, r, i, hd, h0, hi, hk => by
  obtain ⟨k, rfl⟩ : ∃ m, k = m + 1 := ⟨k - 1, by omega⟩
  simp only [utf_Get.l0]
  rw [if_pos (by omega), w64n (n := i + 1) (by omega) (by omega), if_pos (by omega), if_pos (by omega)]
  split
  ·exact utf_Get.tot_l t more hm h3 hs d k _ (i + 1) (by omega) (by omega) (by omega) (by omega)
  exact ⟨_, rfl, .inr rfl⟩
theorem utf_Get.total (t : ByteArray) : ∃ v, utf_Get.f 12 t = some v ∧ GetOk t v := by
 unfold utf_Get.f
 split
 ·obtain ⟨hr, hm, e, h1, h2⟩ := utf_head.total 12 (bt t 0) (by omega)
  rw [e]
  simp only [Option.bind_some]
  unfold utf_Get.j0
  split
  ·exact ⟨_, rfl, .inr rfl⟩
  split
  ·exact ⟨_, rfl, .inr rfl⟩
  exact utf_Get.tot_l t hm (by omega) h2 (by omega) _ 12 hr 0 rfl (by omega) (by omega) (by omega)
 exact ⟨_, rfl, .inr rfl⟩
def getT (t : ByteArray) : Int × Int × Int := (utf_Get.f 12 t).getD (0, 0, 4)
theorem getT_eq (t : ByteArray) : utf_Get.f 12 t = some (getT t) := by
 obtain ⟨v, hv, _⟩ := utf_Get.total t
 unfold getT
 rw [hv]; rfl
theorem getT_ok (t : ByteArray) : GetOk t (getT t) := by
 obtain ⟨v, hv, h⟩ := utf_Get.total t
 unfold getT
 rw [hv]; exact h
def runesFrom (s : ByteArray) : Nat → Nat → List (Int × Int)
 | 0, _ => []
 | k + 1, at_ => if at_ < s.size then (if (getT (s.extract at_ s.size)).2.2 = 0 then ((at_ : Int), (getT (s.extract at_ s.size)).1) :: runesFrom s k (at_ + (getT (s.extract at_ s.size)).2.1.toNat) else []) else []
def runesOf (s : ByteArray) : List (Int × Int) := runesFrom s s.size 0
theorem extract_size (s : ByteArray) (i : Nat) (h : i ≤ s.size) : (s.extract i s.size).size = s.size - i := by simp
theorem get_step (s : ByteArray) (i : Nat) (h : i < s.size) (h0 : (getT (s.extract i s.size)).2.2 = 0) : 1 ≤ (getT (s.extract i s.size)).2.1 ∧ i + (getT (s.extract i s.size)).2.1.toNat ≤ s.size ∧ (getT (s.extract i s.size)).2.1 ≤ 4 := by
 rcases getT_ok (s.extract i s.size) with ⟨_, h1, h2, h3, _⟩ | h1
 ·rw [extract_size s i (by omega)] at h2
  exact ⟨h1, by omega, h3⟩
 rw [h1] at h0; cases h0
theorem runesFrom_more (s : ByteArray) : ∀ (k m i : Nat), s.size - i ≤ k → s.size - i ≤ m → runesFrom s k i = runesFrom s m i
 | 0, 0, _, _, _ => rfl
 | 0, m + 1, i, h, _ => by
  show [] = _
  simp only [runesFrom]
  rw [if_neg (by omega)]
 | k + 1, 0, i, _, h => by
  show _ = []
  simp only [runesFrom]
  rw [if_neg (by omega)]
 | k + 1, m + 1, i, h1, h2 => by
  simp only [runesFrom]
  by_cases hi : i < s.size
  ·rw [if_pos hi, if_pos hi]
   by_cases h0 : (getT (s.extract i s.size)).2.2 = 0
   ·obtain ⟨g1, g2, _⟩ := get_step s i hi h0
    rw [if_pos h0, if_pos h0, runesFrom_more s k m _ (by omega) (by omega)]
   rw [if_neg h0, if_neg h0]
  rw [if_neg hi, if_neg hi]
theorem cellOfBox {W : World} {B : Nat} {v : Value} {t : TypeId} (h : W.heap[B]? = some (.cells #[v] t (0, 0))) : W.cell? ⟨B, 0, none⟩ = some v ∧ W.frozen? ⟨B, 0, none⟩ = false := by
 constructor <;> simp [World.cell?, World.frozen?, h]
theorem cellNew (W : World) (v : Value) (t : TypeId) : (W.alloc (.cells #[v] t)).cell? ⟨W.heap.size, 0, none⟩ = some v ∧ (W.alloc (.cells #[v] t)).frozen? ⟨W.heap.size, 0, none⟩ = false :=
 cellOfBox (World.alloc_heap_new W _)
theorem cellAlloc {W : World} {a : Addr} {v : Value} (o : Obj) (h : W.cell? a = some v) : (W.alloc o).cell? a = some v := _root_.Go.cell_kept h (World.grownBy_alloc W o none) (fun r e => by cases e)
theorem frozenAlloc {W : World} {a : Addr} {v : Value} (o : Obj) (h : W.cell? a = some v) (hf : W.frozen? a = false) : (W.alloc o).frozen? a = false := (_root_.Go.frozen_kept h (World.grownBy_alloc W o none) (fun r e => by cases e)).trans hf
def KeepsBox (b : Nat) (W W' : World) : Prop := ∀ v, W.cell? ⟨b, 0, none⟩ = some v → W'.cell? ⟨b, 0, none⟩ = some v
theorem keepsBox_t {b : Nat} {A B C : World} (h : KeepsBox b A B) (k : KeepsBox b B C) : KeepsBox b A C := fun v hv => k v (h v hv)
theorem keepsBox_b {b : Nat} (W : World) (l : Nat) (o o' : Obj) (h : W.heap[l]? = some o) (hc : o.isCells = false) : KeepsBox b W (W.putObj l o') :=
 fun v hv => _root_.Go.cell_kept hv (grownBy_putObj' W l o') (fun r e => by cases e; exact ⟨o, h, hc⟩)
theorem keepsBox_drewN {b : Nat} (W : World) (m : Nat) : KeepsBox b W (W.drewN m) := fun _ h => h
theorem keepsBox_set {b : Nat} (W : World) (a : Addr) (u : Value) (h : a.block ≠ b) : KeepsBox b W (W.setCell a u) := fun _ hv => (World.cell?_setCell_far W a ⟨b, 0, none⟩ u h).trans hv
theorem keepsOthers_drewN (W : World) (m : Nat) : KeepsOthers W (W.drewN m) := ⟨Nat.le_refl _, fun _ _ h _ => h⟩
abbrev pairEnc (p : Int × Int) : Array Value := #[.int .i64 p.1, .int .i64 p.2]
theorem wide_of {n : Nat} {P : Program} {f : FuncId} {args : Array Value} {w : World} {R : Ending → World → Prop} (h : Calls P f args w R) : CallsIn Fence.wide n P f args w R := callsIn_wide.2 h
set_option maxRecDepth 100000 in
set_option maxHeartbeats 2000000 in
theorem runes_stops (n : Nat) (hn : 1 ≤ n) (s : ByteArray) (hs : s.size ≤ 140737488355328) (b : Nat) (w : World) (hb : b < w.heap.size) (hc : w.cell? ⟨b, 0, none⟩ = some (.string s)) :
  SeqStopsK Fence.wide n Tryz.prog 64 #[.pointer (some ⟨b, 0, none⟩)] pairEnc (KeepsBox b) (fun xs => xs = runesOf s) (fun pre => pre <+: runesOf s) (runesOf s).length w := fun l J Jx W hW hJ hJx hY h0 => by
 have hcW : W.cell? ⟨b, 0, none⟩ = some (.string s) := (hW.cell (p := ⟨b, 0, none⟩) hb).trans hc
 refine callsIn_of_wp Tryz.func64 rfl trivial ?_ rfl
 simp only [Tryz.ntmps64, List.size_toArray, List.length_cons, List.length_nil, Nat.reduceAdd, Nat.reduceSub, Array.replicate_succ, Array.replicate_zero, List.push_toArray, List.append_toArray, List.nil_append, List.cons_append]
 gi_wp2
 gi_loopw [3] (fun v3 wr => ∃ (pre : List (Int × Int)) (i : Nat), v3 = .int .i64 i ∧ i ≤ s.size ∧ runesOf s = pre ++ runesFrom s (s.size - i) i ∧ J pre wr ∧ wr.cell? ⟨b, 0, none⟩ = some (.string s)) (fun v3 _ => s.size - (intOf v3).toNat)
 case atStart => exact ⟨[], 0, rfl, Nat.zero_le _, rfl, h0, hcW⟩
 case round =>
  obtain ⟨pre, i, rfl, hi, hx, hJs, hcs⟩ := hrel
  by_cases hlt : i < s.size
  ·have hk : s.size - i = (s.size - (i + 1)) + 1 := by omega
   have hg := getT_eq (s.extract i s.size)
   have hst := get_step s i hlt
   have hok := getT_ok (s.extract i s.size)
   rw [hk] at hx
   simp only [runesFrom] at hx
   rw [if_pos hlt] at hx
   have c1 : decide ((i : Int) < (s.size : Int)) = true := decide_eq_true (by omega)
   have c2 : decide (i < s.size) = true := decide_eq_true hlt
   obtain ⟨v, hv⟩ : ∃ v, getT (s.extract i s.size) = v := ⟨_, rfl⟩
   rw [hv] at hx hg hst hok
   obtain ⟨r, m, e⟩ := v
   have HX := Ad.mk hx
   have HG := Ad.mk hg
   clear hx hg hv hk
   by_cases h0e : e = 0
   ·subst h0e
    obtain ⟨g1, g2, g3⟩ := hst rfl
    obtain ⟨q, rfl⟩ := Int.eq_ofNat_of_zero_le (show 0 ≤ m by exact Int.le_trans (by decide) g1)
    clear hok hst
    have g1' : 1 ≤ q := by have : (1 : Int) ≤ (q : Int) := g1; omega
    have g2' : i + q ≤ s.size := by simpa using g2
    have hx2 := HX.out
    rw [if_pos rfl] at hx2
    have hlen : pre.length < (runesOf s).length := by rw [hx2]; simp
    gi_wp2_with (refine ⟨trivial, ?_⟩; gi_at_call 65; refine (wide_of (utf_Get.calls 12 (s.extract i s.size) r q 0 _ HG.out)).mono ?_; rintro e w' ⟨rfl, ⟨nd, rfl⟩⟩; obtain ⟨fn, tmps, assign, body, hy, hR⟩ := hY pre ((i : Int), r) (wr.drewN nd) (hJ _ _ _ none hJs (grown_of_below (pw_below_drewN (Below.refl _ _) _) none) (fun r e => by cases e)) hlen; dsimp only [pairEnc] at hy)
    refine hR.mono ?_
    rintro e W3 (⟨rfl, hJ3, hk3⟩ | ⟨rfl, hJx3⟩)
    ·have hq3 : W3.cell? ⟨b, 0, none⟩ = some (.string s) := hk3 _ hcs
     clear hy hR
     gi_wp2
     go_roundw
     case rel =>
      refine ⟨pre ++ [((i : Int), r)], i + q, by go_num, g2', ?_, hJ3, hq3⟩
      rw [hx2, List.append_assoc, List.singleton_append, Int.toNat_natCast, runesFrom_more s (s.size - (i + 1)) (s.size - (i + q)) _ (by omega) (by omega)]
     case measure => simp [intOf]; omega
    clear hy hR
    gi_wp2
    refine bodyPost_ret (results_none rfl _ _ _) rfl ?_
    exact ⟨⟨_, rfl⟩, .inr ⟨pre ++ [((i : Int), r)], ⟨_, by rw [hx2, List.append_assoc]; rfl⟩, hJx3⟩⟩
   have hv0 : r = 0 ∧ m = 0 ∧ e = 4 := by
    rcases hok with ⟨q, _⟩ | q
    ·exact absurd q h0e
    injection q with q1 q2
    injection q2 with q2 q3
    exact ⟨q1, q2, q3⟩
   obtain ⟨rfl, rfl, rfl⟩ := hv0
   have hx2 := HX.out
   rw [if_neg (by decide)] at hx2
   clear hok hst h0e
   gi_wp2_with (refine ⟨trivial, ?_⟩; gi_at_call 65; refine (wide_of (utf_Get.calls 12 (s.extract i s.size) 0 0 4 _ HG.out)).mono ?_; rintro e w' ⟨rfl, ⟨nd, rfl⟩⟩)
   refine ⟨fun _ h => (by cases h), ?_⟩
   gi_wp2
   refine bodyPost_ret (results_none rfl _ _ _) rfl ?_
   exact ⟨⟨_, rfl⟩, .inl ⟨pre, by rw [hx2, List.append_nil], hJ _ _ _ none hJs (grown_of_below (pw_below_drewN (Below.refl _ _) _) none) (fun r e => by cases e)⟩⟩
  have he : i = s.size := by omega
  have hx2 : runesOf s = pre := by
   rw [hx, show s.size - i = 0 by omega]
   exact List.append_nil _
  have c1 : decide ((i : Int) < (s.size : Int)) = false := decide_eq_false (by omega)
  have c2 : decide (i < s.size) = false := decide_eq_false hlt
  have HX := Ad.mk hx2
  clear hx hx2 he
  gi_wp2
  go_end0
  exact ⟨⟨_, rfl⟩, .inl ⟨pre, HX.out.symm, hJs⟩⟩
set_option maxHeartbeats 400000 in
theorem utf_Runes.calls (s : ByteArray) (w : World) :
  Calls Tryz.prog 45 #[.string s] w fun e w' => e = .returned (.func (.func 64) #[] #[.pointer (some ⟨w.heap.size, 0, none⟩)]) ∧ w' = w.alloc (.cells #[.string s] 9) := by
 go_enter Tryz.func45, Tryz.ntmps45
 go_wp2
 go_ret
 exact ⟨rfl, rfl⟩
def sizeT (r : Int) : Int := (utf_size.f r).getD 0
theorem sizeT_eq (r : Int) : utf_size.f r = some (sizeT r) := by
 obtain ⟨n, h, _⟩ := utf_size.total r
 unfold sizeT
 rw [h]; rfl
def endOf (l : List (Int × Int)) : Int := l.foldl (fun _ p => wrap64 (p.1 + sizeT p.2)) 0
theorem endOf_snoc (l : List (Int × Int)) (x : Int × Int) : endOf (l ++ [x]) = wrap64 (x.1 + sizeT x.2) := by simp [endOf]
def validB (s : ByteArray) : Bool := endOf (runesOf s) == (s.size : Int)
def utf_Valid.f (a0 : ByteArray) : Option Bool := if a0.size ≤ 140737488355328 then some (validB a0) else none
section
attribute [local go_sem] Oper.semAt_some
set_option maxRecDepth 100000 in
set_option maxHeartbeats 2000000 in
theorem utf_Valid.calls (a0 : ByteArray) (r : Bool) (w : World) (h : utf_Valid.f a0 = some r) :
  Calls Tryz.prog 78 #[.string a0] w fun e w' => e = .returned (.bool r) ∧ Below w.heap.size w w' := by
 unfold utf_Valid.f at h
 split at h
 ·rename_i hs
  obtain rfl := Option.some.inj h
  clear h
  refine (callsIn_wide (n := 5)).1 ?_
  refine callsIn_of_wp_marks Tryz.func78 rfl trivial ?_ rfl
  simp only [Tryz.ntmps78, List.size_toArray, List.length_cons, List.length_nil, Nat.reduceAdd, Nat.reduceSub, Array.replicate_succ, Array.replicate_zero, List.push_toArray, List.append_toArray, List.nil_append, List.cons_append]
  gi_wp2_with (refine ⟨trivial, ?_⟩; gi_at_call 45; refine (wide_of (utf_Runes.calls a0 _)).mono ?_; rintro e w' ⟨rfl, rfl⟩)
  have c0 := cellNew w (.int .i64 0) 3
  have c1 := cellNew (w.alloc (.cells #[.int .i64 0] 3)) (.string a0) 9
  rw [World.size_alloc] at c1
  have hB0 : Below w.heap.size w ((w.alloc (.cells #[.int .i64 0] 3)).alloc (.cells #[.string a0] 9)) := ((Below.refl _ w).alloc (Nat.le_refl _) _).alloc (by simp) _
  refine wpIn_rangeFunc_ownF rfl (by omega) (gf := 64) (lb := #[.pointer (some ⟨w.heap.size + 1, 0, none⟩)]) rfl trivial (enters_of Tryz.func64 k1_ rfl)
   (runes_stops 4 (by omega) a0 hs (w.heap.size + 1) _ (by simp) c1.1) keepsBox_t (fun W l o o' _ h hc _ => keepsBox_b W l o o' h hc) (Below.refl _ _) (fun _ => rfl)
   (fun pre W => (W.cell? ⟨w.heap.size, 0, none⟩ = some (.int .i64 (endOf pre)) ∧ W.frozen? ⟨w.heap.size, 0, none⟩ = false) ∧ Below w.heap.size w W)
   (fun _ _ _ => False)
   (OwnFrom.and (Own.from (fun s A B row hs hg hr => ⟨_root_.Go.cell_kept hs.1 hg hr, (_root_.Go.frozen_kept hs.1 hg hr).trans hs.2⟩) _) (ownFrom_below (Nat.le_refl _) (by simp; omega)))
   (fun _ _ _ _ _ hs _ _ => hs)
   ⟨⟨cellAlloc _ c0.1, frozenAlloc _ c0.1 c0.2⟩, hB0⟩
   (fun x => { tmps := #[.string a0, undef, .bool false, .pointer (some ⟨w.heap.size, 0, none⟩), .int .i64 x.1, .int .i64 x.2, .string a0, .func (.func 64) #[] #[.pointer (some ⟨w.heap.size + 1, 0, none⟩)], .int .i64 x.1, .int .i64 x.2, undef, undef, undef, undef, undef, undef, undef, undef], defers := [] }) ?assign ?body ?done ?stop
  case assign =>
   intro l x W K hK
   gi_wp2
   exact hK
  case body =>
   rintro l pre x W ⟨⟨hc, hf⟩, hB⟩ _
   gi_wp2_with (refine ⟨trivial, ?_⟩; gi_at_call 67; refine (CallsIn.inRound l (wide_of (utf_size.calls x.2 (sizeT x.2) _ (sizeT_eq x.2)))).mono ?_; rintro e w' ⟨rfl, ⟨nd, rfl⟩⟩)
   have hc2 : (W.drewN nd).cell? ⟨w.heap.size, 0, none⟩ = some (.int .i64 (endOf pre)) := hc
   refine ⟨(keepsOthers_drewN W nd).trans (KeepsOthers.setCell _ _ _), keepsBox_t (keepsBox_drewN W nd) (keepsBox_set _ _ _ (by simp)), ⟨?_, ?_⟩, (pw_below_drewN hB nd).setCell (p := ⟨w.heap.size, 0, none⟩) (Nat.le_refl _) _⟩
   ·rw [endOf_snoc]
    exact World.cell?_setCell_same' _ _ _ (by rw [hc2]; rfl)
   rw [World.frozen?_setCell]
   exact hf
  case done =>
   rintro D ys W hD rfl ⟨⟨hc, _⟩, hB⟩ hK
   gi_wp2
   refine ⟨by simp, .inl ⟨_, _, rfl, run_takeDeferred hK, ?_⟩⟩
   exact ⟨_, results_tmp rfl _ _ _, rfl, hB.trans (belowK_b (w := w) (Nat.le_refl _) W D _ _ (by simp at hD; omega) hK rfl rfl)⟩
  case stop =>
   rintro D c pre W _ _ h _
   exact h.elim
 cases h
end
def term_value.f (a0 : ByteArray) : Option (Bool) := if (a0.size : Int) ≤ 4000 then ((utf_Valid.f a0).bind fun t103 => (some t103)) else (some false)
theorem term_value.calls (a0 : ByteArray) (r : Bool) (w : World) (h : term_value.f a0 = some r) :
  Calls Tryz.prog 55 #[.string a0] w fun e w' => e = .returned (.bool r) ∧ Below w.heap.size w w' := by
 have HB := Ad.mk (Below.refl w.heap.size w)
 have H := h
 clear h
 unfold term_value.f at H
 by_cases c2 : (a0.size : Int) ≤ 4000
 ·rw [if_pos c2] at H
  have c2b0 := decide_eq_true c2
  have c2b1 : decide (a0.size ≤ 4000) = true := decide_eq_true (by omega)
  clear c2
  obtain ⟨t103, A3, H⟩ := bi_ H
  obtain rfl := Option.some.inj H
  go_enter Tryz.func55, Tryz.ntmps55
  go_wp2_with (first | (go_at_call 78; (with_reducible refine (utf_Valid.calls a0 t103 _ A3.out).mono ?_); rintro e w4 ⟨rfl, hb⟩; replace HB := Ad.mk (below_step b1_ hb); clear hb))
  go_ret
  exact ⟨e2_, b1_⟩
 rw [if_neg c2] at H
 have c2b0 := decide_eq_false c2
 have c2b1 : decide (a0.size ≤ 4000) = false := decide_eq_false (by omega)
 clear c2
 obtain rfl := Option.some.inj H
 go_enter Tryz.func55, Tryz.ntmps55
 go_wp2
 go_ret
 exact ⟨e2_, b1_⟩
def oneByteS (s : ByteArray) : Option UInt8 := match s with | ⟨⟨[c]⟩⟩ => some c | _ => none
theorem oneByteS_eq {s : ByteArray} {c : UInt8} (h : oneByteS s = some c) : s = ⟨#[c]⟩ := by
 unfold oneByteS at h
 split at h
 ·cases h; rfl
 cases h
def splitAll (s sep : ByteArray) : List ByteArray := Lib.splitB sep 0 (Lib.countB s sep) s
def strings_genSplit.f (a0 a1 : ByteArray) (a2 a3 : Int) : Option (List ByteArray) := if a2 = 0 ∧ a3 = -1 ∧ a0.size < 4294967281 then (oneByteS a1).map fun _ => splitAll a0 a1 else none
theorem strings_genSplit.calls (a0 a1 : ByteArray) (a2 a3 : Int) (r : List ByteArray) (w : World) (h : strings_genSplit.f a0 a1 a2 a3 = some r) :
  Calls Tryz.prog 97 #[.string a0, .string a1, .int .i64 a2, .int .i64 a3] w fun e w' => ∃ v0_ : Value, e = .returned (v0_) ∧ Kd.R Kd.string 9 w' w.heap.size (fun _ => True) v0_ r ∧ Below w.heap.size w w' := by
 unfold strings_genSplit.f at h
 split at h
 ·rename_i hh
  obtain ⟨rfl, rfl, hs⟩ := hh
  obtain ⟨c, hc, rfl⟩ := Option.map_eq_some_iff.mp h
  obtain rfl := oneByteS_eq hc
  have h1 : 1 ≤ (⟨#[c]⟩ : ByteArray).size := by simp [ByteArray.size]
  have hle := Lib.countB_le (⟨#[c]⟩ : ByteArray) h1 a0.size a0 (Nat.le_refl _)
  have hlen := Lib.splitB_all (⟨#[c]⟩ : ByteArray) h1 0 _ a0 rfl
  have hC : Calls Tryz.prog 103 #[.string a0, .string ⟨#[c]⟩] w fun e w' => e = .returned (.int .i64 (Lib.countB a0 ⟨#[c]⟩)) ∧ w' = w := by
   refine (Tryz.strings_Count_one a0 c w).mono fun e w' ⟨he, hw⟩ => ⟨?_, hw⟩
   rw [he]
   show _ = Ending.returned (Value.int .i64 ((Lib.count a0.data.toList [c] : Nat) : Int))
   rw [Lib.count_one]
   rfl
  have hI : ∀ (x : ByteArray) (cs : Array Value), x.size ≤ a0.size → Calls Tryz.prog 104 #[.string x, .string ⟨#[c]⟩] (w.alloc (.cells cs 9)) fun e w' => e = .returned (.int .i64 (Lib.indexB x ⟨#[c]⟩)) ∧ w' = w.alloc (.cells cs 9) := by
   intro x cs hx
   have := Tryz.strings_Index_one x c (w.alloc (.cells cs 9))
   rw [show Lib.indexB x ⟨#[c]⟩ = Lib.indexByte x.data.toList c from Lib.index_one x.data.toList c]
   exact this
  have key := Any.strings_genSplit_core Tryz.lays221 k1_ a0 ⟨#[c]⟩ 0 (-1) (Lib.countB a0 ⟨#[c]⟩ + 1) w hs h1 (Nat.zero_le _) hI hC (by decide) (by decide) (by rw [if_pos (by decide)]; omega)
  rw [Nat.add_sub_cancel, hlen] at key
  have e2 : Lib.cellsOf (Lib.splitB ⟨#[c]⟩ 0 (Lib.countB a0 ⟨#[c]⟩) a0) (Lib.countB a0 ⟨#[c]⟩ + 1) = ((Lib.splitB ⟨#[c]⟩ 0 (Lib.countB a0 ⟨#[c]⟩) a0).map Value.string).toArray := by rw [← hlen]; exact Lib.cellsOf_full _
  rw [e2] at key
  refine key.mono ?_
  rintro e w' ⟨rfl, rfl⟩
  refine ⟨_, rfl, ?_, (Below.refl _ w).alloc (Nat.le_refl _) _⟩
  refine Kd.R_of_own ?_ (fun _ _ => trivial)
  have h := World.ownsRow_lit (base := w.heap.size) (e := 9) (size := 1) w ((Lib.splitB ⟨#[c]⟩ 0 (Lib.countB a0 ⟨#[c]⟩) a0).map Value.string).toArray (Lib.countB a0 ⟨#[c]⟩ + 1) (Nat.le_refl _) (by simp only [maxLen]; omega) (by simp [hlen])
  unfold splitAll
  rw [hlen]
  have h2 : _ := h
  simp only [encs, List.toList_toArray] at h2 ⊢
  exact h2
 cases h
def strings_Split.f (a0 : ByteArray) (a1 : ByteArray) : Option (List ByteArray) := (strings_genSplit.f a0 a1 0 (-1)).bind fun t104 => (some t104)
theorem strings_Split.calls (a0 : ByteArray) (a1 : ByteArray) (r : List ByteArray) (w : World) (h : strings_Split.f a0 a1 = some r) :
  Calls Tryz.prog 82 #[.string a0, .string a1] w fun e w' => ∃ v0_ : Value, e = .returned (v0_) ∧ Kd.R Kd.string 9 w' w.heap.size (fun _ => True) v0_ r ∧ Below w.heap.size w w' := by
 have HB := Ad.mk (Below.refl w.heap.size w)
 have H := h
 clear h
 unfold strings_Split.f at H
 obtain ⟨t104, A3, H⟩ := bi_ H
 obtain rfl := Option.some.inj H
 go_enter Tryz.func82, Tryz.ntmps82
 go_wp2_with (first | ((with_reducible refine gate_callee (f := 97) rfl ?_); refine goesL_ (some 7) rfl rfl Tryz.func97 k1_ rfl #[.string a0, .string a1, .int .i64 0, .int .i64 (-1)] rfl g1_ ?_; (with_reducible refine (strings_genSplit.calls a0 a1 0 (-1) t104 _ A3.out).mono ?_); rintro e w4 ⟨v105, rfl, ho0, hb⟩; refine ⟨_, rfl, ?_⟩; have HO106 := Ad.mk (Kd.R_lower ho0 (below_size b1_)); replace HB := Ad.mk (below_step b1_ hb); (try clear hb); (try clear hb2); (try clear hk); (try clear hi); (try clear ho0)))
 go_ret
 exact ⟨_, e2_, by have G0 := HO106; exact z3_, b1_⟩
mutual
def term_tag.l0 : Nat → ByteArray → List ByteArray → Int → Int → Option (Bool)
 | 0, _, _, _, _ => none
 | k + 1, x0, x8, x9, x10 => if x10 < x9 then (if 0 ≤ x10 then (if x10 < (x8.length : Int) then (if (rdOf ByteArray.empty x8 x10).toList = ([] : List UInt8) then (some false) else (term_tag.l1 k x0 x10 (rdOf ByteArray.empty x8 x10) x8 x9 x10 ((rdOf ByteArray.empty x8 x10).size : Int) 0)) else (none)) else (none)) else (some (decide ((x0.size : Int) ≤ 35)))
def term_tag.l1 : Nat → ByteArray → Int → ByteArray → List ByteArray → Int → Int → Int → Int → Option (Bool)
 | 0, _, _, _, _, _, _, _, _ => none
 | k + 1, x0, x3, x4, x8, x9, x10, x18, x19 => if x19 < x18 then (if 0 ≤ x19 then (if x19 < (x4.size : Int) then (if (bt x4 x19) < 97 then (if x3 = 0 then (some false) else ((term_digit.f (bt x4 x19)).bind fun t111 => (if t111 = true then (term_tag.l1 k x0 x3 x4 x8 x9 x10 x18 (wrap64 (x19 + 1))) else (some false)))) else (if (bt x4 x19) > 122 then (if x3 = 0 then (some false) else ((term_digit.f (bt x4 x19)).bind fun t112 => (if t112 = true then (term_tag.l1 k x0 x3 x4 x8 x9 x10 x18 (wrap64 (x19 + 1))) else (some false)))) else (term_tag.l1 k x0 x3 x4 x8 x9 x10 x18 (wrap64 (x19 + 1))))) else (none)) else (none)) else (term_tag.l0 k x0 x8 x9 (wrap64 (x10 + 1)))
end
def term_tag.f (k : Nat) (a0 : ByteArray) : Option (Bool) := (strings_Split.f a0 (⟨#[45]⟩ : ByteArray)).bind fun t107 => (term_tag.l0 k a0 t107 (t107.length : Int) 0)
theorem term_tag.calls (k : Nat) (a0 : ByteArray) (r : Bool) (w : World) (h : term_tag.f k a0 = some r) :
  Calls Tryz.prog 57 #[.string a0] w fun e w' => e = .returned (.bool r) ∧ Below w.heap.size w w' := by
 have HB := Ad.mk (Below.refl w.heap.size w)
 have H := h
 clear h
 unfold term_tag.f at H
 obtain ⟨t107, A2, H⟩ := bi_ H
 have H' := Ad.mk H
 clear H
 go_enter Tryz.func57, Tryz.ntmps57
 go_wp2_with (first | ((with_reducible refine gate_callee (f := 82) rfl ?_); refine goesL_ (some 8) rfl rfl Tryz.func82 k1_ rfl #[.string a0, .string ⟨#[45]⟩] rfl g1_ ?_; (with_reducible refine (strings_Split.calls a0 (⟨#[45]⟩ : ByteArray) t107 _ A2.out).mono ?_); rintro e w3 ⟨v108, rfl, ho0, hb⟩; refine ⟨_, rfl, ?_⟩; have HO109 := Ad.mk (Kd.R_lower ho0 (below_size b1_)); replace HB := Ad.mk (below_step b1_ hb); (try clear hb); (try clear hb2); (try clear hk); (try clear hi); (try clear ho0); obtain ⟨Ao4, co4, eo4⟩ := Kd.R_slice HO109.out; subst eo4))
 go_loopg [10] k (fun kq v10 w' => ∃ (x10_1 : Int), v10 = .int .i64 x10_1 ∧ Ad (term_tag.l0 kq a0 t107 (t107.length : Int) x10_1 = some r) ∧ Ad (kq ≤ k) ∧ Ad (Kd.R Kd.string 9 w' w.heap.size (fun _ => True) (.slice Ao4 t107.length co4) t107) ∧ Ad (Below w.heap.size w w'))
 case atStart => exact ⟨(0), e1_, H', ⟨Nat.le_refl _⟩, ⟨by have G0 := HO109; exact z3_⟩, ⟨b1_⟩⟩
 case round =>
  clear H'
  try clear p2
  obtain ⟨x10_1, rfl, HA, HK1, HO_8, HB⟩ := hrel
  cases gk with
  | zero => exact absurd HA.out (by simp [term_tag.l0])
  | succ k1 =>
   have H := HA.out
   clear HA
   simp only [term_tag.l0] at H
   by_cases c5 : x10_1 < (t107.length : Int)
   ·rw [if_pos c5] at H
    have c5b0 := decide_eq_true c5
    clear c5
    by_cases c6 : 0 ≤ x10_1
    ·rw [if_pos c6] at H
     have c6b0 := decide_eq_true c6
     clear c6
     by_cases c7 : x10_1 < (t107.length : Int)
     ·rw [if_pos c7] at H
      have c7b0 := decide_eq_true c7
      clear c7
      by_cases c8 : (rdOf ByteArray.empty t107 x10_1).toList = ([] : List UInt8)
      ·rw [if_pos c8] at H
       have c8b0 := beq_iff_eq.mpr c8
       have c8b1 := bne_eq_false_iff_eq.mpr c8
       clear c8
       obtain rfl := Option.some.inj H
       have p110 : 0 ≤ (x10_1 : Int) := of_decide_eq_true a1_
       have q110 : x10_1 < (t107.length : Int) := of_decide_eq_true a1_
       obtain ⟨ad110, e110, hx110_0⟩ := Kd.at_string (Kd.R_reads' HO_8.out).2.2 x10_1 p110 q110
       cases e110
       replace p110 := eq_true p110
       replace q110 := eq_true q110
       go_wp2
       go_ret
       exact ⟨e2_, b1_⟩
      rw [if_neg c8] at H
      have c8b0 := beq_eq_false_iff_ne.mpr c8
      have c8b1 := bne_iff_ne.mpr c8
      have H' := Ad.mk H
      clear H
      have p110 : 0 ≤ (x10_1 : Int) := of_decide_eq_true a1_
      have q110 : x10_1 < (t107.length : Int) := of_decide_eq_true a1_
      obtain ⟨ad110, e110, hx110_0⟩ := Kd.at_string (Kd.R_reads' HO_8.out).2.2 x10_1 p110 q110
      cases e110
      replace p110 := eq_true p110
      replace q110 := eq_true q110
      go_wp2
      go_loopg [19] k1 (fun kq v19 w' => ∃ (x19_2 : Int), v19 = .int .i64 x19_2 ∧ Ad (term_tag.l1 kq a0 x10_1 (rdOf ByteArray.empty t107 x10_1) t107 (t107.length : Int) x10_1 ((rdOf ByteArray.empty t107 x10_1).size : Int) x19_2 = some r) ∧ Ad (kq ≤ k1) ∧ Ad (Kd.R Kd.string 9 w' w.heap.size (fun _ => True) (.slice (some ad110) t107.length co4) t107) ∧ Ad (Below w.heap.size w w'))
      case atStart => exact ⟨(0), e1_, H', ⟨Nat.le_refl _⟩, ⟨by have G0 := HO_8; exact z3_⟩, ⟨b1_⟩⟩
      case round =>
       clear H'
       try clear p1
       try clear q1
       try clear hx1
       try clear p2
       try clear c5
       try clear c5b0
       try clear c6
       try clear c6b0
       try clear c7
       try clear c7b0
       try clear c8
       try clear c8b0
       try clear c8b1
       try clear hx110_0
       try clear p110
       try clear p2
       try clear q110
       obtain ⟨x19_2, rfl, HA, HK2, HO_8, HB⟩ := hrel
       cases gk with
       | zero => exact absurd HA.out (by simp [term_tag.l1])
       | succ k2 =>
        have H := HA.out
        clear HA
        simp only [term_tag.l1] at H
        by_cases c9 : x19_2 < ((rdOf ByteArray.empty t107 x10_1).size : Int)
        ·rw [if_pos c9] at H
         have c9b0 := decide_eq_true c9
         clear c9
         by_cases c10 : 0 ≤ x19_2
         ·rw [if_pos c10] at H
          have c10b0 := decide_eq_true c10
          clear c10
          by_cases c11 : x19_2 < ((rdOf ByteArray.empty t107 x10_1).size : Int)
          ·rw [if_pos c11] at H
           have c11b0 := decide_eq_true c11
           clear c11
           by_cases c13 : (bt (rdOf ByteArray.empty t107 x10_1) x19_2) < 97
           ·rw [if_pos c13] at H
            have c13b0 := decide_eq_true c13
            clear c13
            by_cases c14 : x10_1 = 0
            ·rw [if_pos c14] at H
             have c14b0 := beq_iff_eq.mpr c14
             have c14b1 := bne_eq_false_iff_eq.mpr c14
             clear c14
             obtain rfl := Option.some.inj H
             have p12 : 0 ≤ (x19_2 : Int) := of_decide_eq_true a1_
             have q12 : x19_2 < ((rdOf ByteArray.empty t107 x10_1).size : Int) := of_decide_eq_true a1_
             have hx12 := bt_at (rdOf ByteArray.empty t107 x10_1) x19_2
             replace p12 := eq_true p12
             replace q12 := eq_true q12
             go_wp2
             go_ret
             exact ⟨e2_, b1_⟩
            rw [if_neg c14] at H
            have c14b0 := beq_eq_false_iff_ne.mpr c14
            have c14b1 := bne_iff_ne.mpr c14
            obtain ⟨t111, A15, H⟩ := bi_ H
            by_cases c16 : t111 = true
            ·subst c16
             rw [if_pos rfl] at H
             have H' := Ad.mk H
             clear H
             have p12 : 0 ≤ (x19_2 : Int) := of_decide_eq_true a1_
             have q12 : x19_2 < ((rdOf ByteArray.empty t107 x10_1).size : Int) := of_decide_eq_true a1_
             have hx12 := bt_at (rdOf ByteArray.empty t107 x10_1) x19_2
             replace p12 := eq_true p12
             replace q12 := eq_true q12
             go_wp2_with (first | (go_at_call 81; (with_reducible refine (term_digit.calls (bt (rdOf ByteArray.empty t107 x10_1) x19_2) true _ A15.out).mono ?_); rintro e w' ⟨rfl, ⟨nd, rfl⟩⟩))
             go_roundg k2
             case measure => have := HK1.out; have := HK2.out; omega
             case rel => exact ⟨(wrap64 (x19_2 + 1)), e1_, H', ⟨z27_⟩, ⟨by have G0 := HO_8; exact z3_⟩, ⟨b1_⟩⟩
            replace c16 := Bool.eq_false_iff.mpr c16
            subst c16
            rw [if_neg (show ¬ (false = true) by decide)] at H
            obtain rfl := Option.some.inj H
            have p12 : 0 ≤ (x19_2 : Int) := of_decide_eq_true a1_
            have q12 : x19_2 < ((rdOf ByteArray.empty t107 x10_1).size : Int) := of_decide_eq_true a1_
            have hx12 := bt_at (rdOf ByteArray.empty t107 x10_1) x19_2
            replace p12 := eq_true p12
            replace q12 := eq_true q12
            go_wp2_with (first | (go_at_call 81; (with_reducible refine (term_digit.calls (bt (rdOf ByteArray.empty t107 x10_1) x19_2) false _ A15.out).mono ?_); rintro e w' ⟨rfl, ⟨nd, rfl⟩⟩))
            go_ret
            exact ⟨e2_, b1_⟩
           rw [if_neg c13] at H
           have c13b0 := decide_eq_false c13
           clear c13
           by_cases c17 : (bt (rdOf ByteArray.empty t107 x10_1) x19_2) > 122
           ·rw [if_pos c17] at H
            have c17b0 : decide (122 < (bt (rdOf ByteArray.empty t107 x10_1) x19_2)) = true := decide_eq_true c17
            clear c17
            by_cases c18 : x10_1 = 0
            ·rw [if_pos c18] at H
             have c18b0 := beq_iff_eq.mpr c18
             have c18b1 := bne_eq_false_iff_eq.mpr c18
             clear c18
             obtain rfl := Option.some.inj H
             have p12 : 0 ≤ (x19_2 : Int) := of_decide_eq_true a1_
             have q12 : x19_2 < ((rdOf ByteArray.empty t107 x10_1).size : Int) := of_decide_eq_true a1_
             have hx12 := bt_at (rdOf ByteArray.empty t107 x10_1) x19_2
             replace p12 := eq_true p12
             replace q12 := eq_true q12
             go_wp2
             go_ret
             exact ⟨e2_, b1_⟩
            rw [if_neg c18] at H
            have c18b0 := beq_eq_false_iff_ne.mpr c18
            have c18b1 := bne_iff_ne.mpr c18
            obtain ⟨t112, A19, H⟩ := bi_ H
            by_cases c20 : t112 = true
            ·subst c20
             rw [if_pos rfl] at H
             have H' := Ad.mk H
             clear H
             have p12 : 0 ≤ (x19_2 : Int) := of_decide_eq_true a1_
             have q12 : x19_2 < ((rdOf ByteArray.empty t107 x10_1).size : Int) := of_decide_eq_true a1_
             have hx12 := bt_at (rdOf ByteArray.empty t107 x10_1) x19_2
             replace p12 := eq_true p12
             replace q12 := eq_true q12
             go_wp2_with (first | (go_at_call 81; (with_reducible refine (term_digit.calls (bt (rdOf ByteArray.empty t107 x10_1) x19_2) true _ A19.out).mono ?_); rintro e w' ⟨rfl, ⟨nd, rfl⟩⟩))
             go_roundg k2
             case measure => have := HK1.out; have := HK2.out; omega
             case rel => exact ⟨(wrap64 (x19_2 + 1)), e1_, H', ⟨z27_⟩, ⟨by have G0 := HO_8; exact z3_⟩, ⟨b1_⟩⟩
            replace c20 := Bool.eq_false_iff.mpr c20
            subst c20
            rw [if_neg (show ¬ (false = true) by decide)] at H
            obtain rfl := Option.some.inj H
            have p12 : 0 ≤ (x19_2 : Int) := of_decide_eq_true a1_
            have q12 : x19_2 < ((rdOf ByteArray.empty t107 x10_1).size : Int) := of_decide_eq_true a1_
            have hx12 := bt_at (rdOf ByteArray.empty t107 x10_1) x19_2
            replace p12 := eq_true p12
            replace q12 := eq_true q12
            go_wp2_with (first | (go_at_call 81; (with_reducible refine (term_digit.calls (bt (rdOf ByteArray.empty t107 x10_1) x19_2) false _ A19.out).mono ?_); rintro e w' ⟨rfl, ⟨nd, rfl⟩⟩))
            go_ret
            exact ⟨e2_, b1_⟩
           rw [if_neg c17] at H
           have c17b0 : decide (122 < (bt (rdOf ByteArray.empty t107 x10_1) x19_2)) = false := decide_eq_false c17
           clear c17
           have H' := Ad.mk H
           clear H
           have p12 : 0 ≤ (x19_2 : Int) := of_decide_eq_true a1_
           have q12 : x19_2 < ((rdOf ByteArray.empty t107 x10_1).size : Int) := of_decide_eq_true a1_
           have hx12 := bt_at (rdOf ByteArray.empty t107 x10_1) x19_2
           replace p12 := eq_true p12
           replace q12 := eq_true q12
           go_wp2
           go_roundg k2
           case measure => have := HK1.out; have := HK2.out; omega
           case rel => exact ⟨(wrap64 (x19_2 + 1)), e1_, H', ⟨z27_⟩, ⟨by have G0 := HO_8; exact z3_⟩, ⟨b1_⟩⟩
          rw [if_neg c11] at H
          exact absurd H (by simp)
         rw [if_neg c10] at H
         exact absurd H (by simp)
        rw [if_neg c9] at H
        have c9b0 := decide_eq_false c9
        clear c9
        have H' := Ad.mk H
        clear H
        go_wp2
        go_roundg k2
        case measure => have := HK1.out; have := HK2.out; omega
        case rel => exact ⟨(wrap64 (x10_1 + 1)), e1_, H', ⟨z27_⟩, ⟨by have G0 := HO_8; exact z3_⟩, ⟨b1_⟩⟩
     rw [if_neg c7] at H
     exact absurd H (by simp)
    rw [if_neg c6] at H
    exact absurd H (by simp)
   rw [if_neg c5] at H
   have c5b0 := decide_eq_false c5
   clear c5
   obtain rfl := Option.some.inj H
   go_wp2
   go_ret
   exact ⟨e2_, b1_⟩
def strings_IndexByte.f (a0 : ByteArray) (a1 : Int) : Option Int := some (Lib.indexByte a0.data.toList a1.toNat.toUInt8)
theorem strings_IndexByte.calls (a0 : ByteArray) (a1 : Int) (r : Int) (w : World) (h : strings_IndexByte.f a0 a1 = some r) :
  Calls Tryz.prog 79 #[.string a0, .int .u8 a1] w fun e w' => e = .returned (.int .i64 r) ∧ Drawn0 w w' := by
 obtain rfl := Option.some.inj h
 exact (Tryz.strings_IndexByte a0 a1 w).mono fun e w' ⟨he, hw⟩ => ⟨he, by rw [hw]; exact Drawn0.refl w⟩
def badSigns : ByteArray := ⟨#[60, 62, 34, 123, 125, 124, 94, 96, 92]⟩
def badRune (r : Int) : Bool := if r ≤ 32 then true else if r < 128 then decide (0 ≤ Lib.indexByte badSigns.data.toList r.toNat.toUInt8) else false
def iriB (s : ByteArray) : Bool := if s.size < 1 then false else if 1000 < s.size then false else if validB s = true then !((runesOf s).any fun p => badRune p.2) else false
def term_iri.f (a0 : ByteArray) : Option Bool := if a0.size ≤ 140737488355328 then some (iriB a0) else none
section
attribute [local go_sem] Oper.semAt_some
set_option maxRecDepth 100000 in
set_option maxHeartbeats 2000000 in
theorem term_iri.calls (a0 : ByteArray) (r : Bool) (w : World) (h : term_iri.f a0 = some r) :
  Calls Tryz.prog 51 #[.string a0] w fun e w' => e = .returned (.bool r) ∧ Below w.heap.size w w' := by
 unfold term_iri.f at h
 split at h
 ·rename_i hs
  obtain rfl := Option.some.inj h
  clear h
  by_cases q1 : a0.size < 1
  ·have e : iriB a0 = false := by unfold iriB; rw [if_pos q1]
   rw [e]
   have d1 : decide (a0.size < 1) = true := decide_eq_true q1
   have d2 : decide ((a0.size : Int) < 1) = true := decide_eq_true (by omega)
   go_enter Tryz.func51, Tryz.ntmps51
   go_wp2
   exact bodyPost_ret (v := .bool false) (by simp [results, Tryz.f51, go_sem]) rfl ⟨rfl, (Below.refl _ _).alloc (Nat.le_refl _) _⟩
  by_cases q2 : 1000 < a0.size
  ·have e : iriB a0 = false := by unfold iriB; rw [if_neg q1, if_pos q2]
   rw [e]
   have d1 : decide (a0.size < 1) = false := decide_eq_false q1
   have d2 : decide ((a0.size : Int) < 1) = false := decide_eq_false (by omega)
   have d3 : decide ((1000 : Int) < (a0.size : Int)) = true := decide_eq_true (by omega)
   have d4 : decide (1000 < a0.size) = true := decide_eq_true q2
   go_enter Tryz.func51, Tryz.ntmps51
   go_wp2
   exact bodyPost_ret (v := .bool false) (by simp [results, Tryz.f51, go_sem]) rfl ⟨rfl, (Below.refl _ _).alloc (Nat.le_refl _) _⟩
  have d1 : decide (a0.size < 1) = false := decide_eq_false q1
  have d2 : decide ((a0.size : Int) < 1) = false := decide_eq_false (by omega)
  have d3 : decide ((1000 : Int) < (a0.size : Int)) = false := decide_eq_false (by omega)
  have d4 : decide (1000 < a0.size) = false := decide_eq_false q2
  cases q3 : validB a0 with
  | false =>
   have e : iriB a0 = false := by unfold iriB; rw [if_neg q1, if_neg q2, q3]; rfl
   rw [e]
   have hv : utf_Valid.f a0 = some false := by unfold utf_Valid.f; rw [if_pos hs, q3]
   go_enter Tryz.func51, Tryz.ntmps51
   go_wp2_with (go_at_call 78; refine (utf_Valid.calls a0 false _ hv).mono ?_; rintro e w1 ⟨rfl, hb1⟩; have hc1 := (hb1.cell (p := ⟨w.heap.size, 0, none⟩) (by simp)).trans (cellNew w (.bool false) 4).1; have hf1 := (hb1.frozen (p := ⟨w.heap.size, 0, none⟩) (by simp)).trans (cellNew w (.bool false) 4).2)
   have hc2 := World.cell?_setCell_same' w1 ⟨w.heap.size, 0, none⟩ (.bool false) (by rw [hc1]; rfl)
   exact bodyPost_ret (v := .bool false) (by simp [results, Tryz.f51, go_sem, hc2]) rfl ⟨rfl, (((Below.refl _ _).alloc (Nat.le_refl _) _).trans (hb1.mono (by simp))).setCell (p := ⟨w.heap.size, 0, none⟩) (Nat.le_refl _) _⟩
  | true =>
   have hv : utf_Valid.f a0 = some true := by unfold utf_Valid.f; rw [if_pos hs, q3]
   have e : iriB a0 = !((runesOf a0).any fun p => badRune p.2) := by unfold iriB; rw [if_neg q1, if_neg q2, if_pos q3]
   rw [e]
   clear e
   refine (callsIn_wide (n := 5)).1 ?_
   refine callsIn_of_wp_marks Tryz.func51 rfl trivial ?_ rfl
   simp only [Tryz.ntmps51, List.size_toArray, List.length_cons, List.length_nil, Nat.reduceAdd, Nat.reduceSub, Array.replicate_succ, Array.replicate_zero, List.push_toArray, List.append_toArray, List.nil_append, List.cons_append]
   gi_wp2_with (first | (refine ⟨trivial, ?_⟩; gi_at_call 78; refine (wide_of (utf_Valid.calls a0 true _ hv)).mono ?_; rintro e w1 ⟨rfl, hb1⟩) | (refine ⟨trivial, ?_⟩; gi_at_call 45; refine (wide_of (utf_Runes.calls a0 _)).mono ?_; rintro e w' ⟨rfl, rfl⟩))
   have c0 := (hb1.cell (p := ⟨w.heap.size, 0, none⟩) (by simp)).trans (cellNew w (.bool false) 4).1
   have f0 := (hb1.frozen (p := ⟨w.heap.size, 0, none⟩) (by simp)).trans (cellNew w (.bool false) 4).2
   have c1 := cellNew w1 (.string a0) 9
   have hsz : w.heap.size < w1.heap.size := by have := hb1.size; simp at this; omega
   have hB0 : Below w.heap.size w (w1.alloc (.cells #[.string a0] 9)) := (((Below.refl _ _).alloc (Nat.le_refl _) _).trans (hb1.mono (by simp))).alloc (by omega) _
   refine wpIn_rangeFunc_ownF rfl (by omega) (gf := 64) (lb := #[.pointer (some ⟨w1.heap.size, 0, none⟩)]) rfl trivial (enters_of Tryz.func64 k1_ rfl)
    (runes_stops 4 (by omega) a0 hs w1.heap.size _ (by simp) c1.1) keepsBox_t (fun W l o o' _ h hc _ => keepsBox_b W l o o' h hc) (Below.refl _ _) (fun _ => rfl)
    (fun pre W => ((pre.any fun p => badRune p.2) = false ∧ W.cell? ⟨w.heap.size, 0, none⟩ = some (.bool false) ∧ W.frozen? ⟨w.heap.size, 0, none⟩ = false) ∧ Below w.heap.size w W)
    (fun c pre W => (c = .ret ∧ (pre.any fun p => badRune p.2) = true ∧ W.cell? ⟨w.heap.size, 0, none⟩ = some (.bool false)) ∧ Below w.heap.size w W)
    (OwnFrom.and (Own.from (fun s A B row hs hg hr => ⟨hs.1, _root_.Go.cell_kept hs.2.1 hg hr, (_root_.Go.frozen_kept hs.2.1 hg hr).trans hs.2.2⟩) _) (ownFrom_below (Nat.le_refl _) (by simp; omega)))
    (fun c => OwnFrom.and (Own.from (fun s A B row hs hg hr => ⟨hs.1, hs.2.1, _root_.Go.cell_kept hs.2.2 hg hr⟩) _) (ownFrom_below (Nat.le_refl _) (by simp; omega)))
    ⟨⟨rfl, cellAlloc _ c0, frozenAlloc _ c0 f0⟩, hB0⟩
    (fun x => { tmps := #[.string a0, undef, .pointer (some ⟨w.heap.size, 0, none⟩), undef, .int .i64 x.2, .string a0, .int .i64 a0.size, .bool false, .bool false, .string a0, .int .i64 a0.size, .bool false, .bool false, .bool false, .string a0, .bool true, .bool false, .bool false, .string a0, .func (.func 64) #[] #[.pointer (some ⟨w1.heap.size, 0, none⟩)], .int .i64 x.1, .int .i64 x.2, undef, undef, undef, undef, undef, undef, undef, undef, undef, undef, undef, undef], defers := [] }) ?assign ?body ?done ?stop
   case assign =>
    intro l x W K hK
    gi_wp2
    exact hK
   case body =>
    rintro l pre x W ⟨⟨hp, hc, hf⟩, hB⟩ _
    have hany : ((pre ++ [x]).any fun p => badRune p.2) = badRune x.2 := by rw [List.any_append, hp]; simp
    have HP := Ad.mk hp
    have HA := Ad.mk hany
    clear hp hany
    by_cases b1 : x.2 ≤ 32
    ·have e1 : badRune x.2 = true := by unfold badRune; rw [if_pos b1]
     have E1 := Ad.mk e1
     clear e1
     have d5 : decide (x.2 ≤ 32) = true := decide_eq_true b1
     gi_wp2
     ·rename_i hu _
      exact absurd hu (by simp [undef])
     ·rename_i hu _
      exact absurd hu (by simp [undef])
     refine ⟨trivial, ?_⟩
     gi_wp2
     exact ⟨KeepsOthers.setCell _ _ _, ⟨rfl, by rw [HA.out, E1.out], World.cell?_setCell_same' _ _ _ (by rw [hc]; rfl)⟩, hB.setCell (p := ⟨w.heap.size, 0, none⟩) (Nat.le_refl _) _⟩
    by_cases b2 : x.2 < 128
    ·have d5 : decide (x.2 ≤ 32) = false := decide_eq_false b1
     have d6 : decide (x.2 < 128) = true := decide_eq_true b2
     obtain ⟨v, hv⟩ : ∃ v, Lib.indexByte badSigns.data.toList x.2.toNat.toUInt8 = v := ⟨_, rfl⟩
     have hv2 : strings_IndexByte.f ⟨#[60, 62, 34, 123, 125, 124, 94, 96, 92]⟩ x.2 = some v := by rw [← hv]; rfl
     have HV := Ad.mk hv2
     clear hv2
     by_cases b3 : 0 ≤ v
     ·have e1 : badRune x.2 = true := by unfold badRune; rw [if_neg b1, if_pos b2, hv]; exact decide_eq_true b3
      have E1 := Ad.mk e1
      clear e1 hv
      have d7 : decide (0 ≤ v) = true := decide_eq_true b3
      gi_wp2_with (refine ⟨trivial, ?_⟩; gi_at_call 79; refine (CallsIn.inRound l (wide_of (strings_IndexByte.calls ⟨#[60, 62, 34, 123, 125, 124, 94, 96, 92]⟩ x.2 v _ HV.out))).mono ?_; rintro e w' ⟨rfl, ⟨nd, rfl⟩⟩)
      have hc2 : (W.drewN nd).cell? ⟨w.heap.size, 0, none⟩ = some (.bool false) := hc
      exact ⟨(keepsOthers_drewN W nd).trans (KeepsOthers.setCell _ _ _), ⟨rfl, by rw [HA.out, E1.out], World.cell?_setCell_same' _ _ _ (by rw [hc2]; rfl)⟩, (pw_below_drewN hB nd).setCell (p := ⟨w.heap.size, 0, none⟩) (Nat.le_refl _) _⟩
     have e1 : badRune x.2 = false := by unfold badRune; rw [if_neg b1, if_pos b2, hv]; exact decide_eq_false b3
     have E1 := Ad.mk e1
     clear e1 hv
     have d7 : decide (0 ≤ v) = false := decide_eq_false b3
     gi_wp2_with (refine ⟨trivial, ?_⟩; gi_at_call 79; refine (CallsIn.inRound l (wide_of (strings_IndexByte.calls ⟨#[60, 62, 34, 123, 125, 124, 94, 96, 92]⟩ x.2 v _ HV.out))).mono ?_; rintro e w' ⟨rfl, ⟨nd, rfl⟩⟩)
     exact ⟨keepsOthers_drewN W nd, keepsBox_drewN W nd, ⟨by rw [HA.out, E1.out], hc, hf⟩, pw_below_drewN hB nd⟩
    have e1 : badRune x.2 = false := by unfold badRune; rw [if_neg b1, if_neg b2]
    have E1 := Ad.mk e1
    clear e1
    have d5 : decide (x.2 ≤ 32) = false := decide_eq_false b1
    have d6 : decide (x.2 < 128) = false := decide_eq_false b2
    gi_wp2
    refine ⟨trivial, ?_⟩
    gi_wp2
    exact ⟨KeepsOthers.refl _, fun _ h => h, ⟨by rw [HA.out, E1.out], hc, hf⟩, hB⟩
   case done =>
    rintro D ys W hD rfl ⟨⟨hnb, hc, hf⟩, hB⟩ hK
    gi_wp2
    have hK' := (KeepsOthers.setCell W ⟨w.heap.size, 0, none⟩ (.bool true)).same D _ hK rfl
    refine ⟨by simp, .inl ⟨_, _, rfl, run_takeDeferred hK', ?_⟩⟩
    have hc5 := _root_.Go.cell_kept (World.cell?_setCell_same' W ⟨w.heap.size, 0, none⟩ (.bool true) (by rw [hc]; rfl)) (grownBy_putObj' _ D (.deferred none)) (fun r e => by cases e; exact ⟨_, hK', rfl⟩)
    refine ⟨.bool true, ?_, by rw [hnb]; rfl, (hB.setCell (p := ⟨w.heap.size, 0, none⟩) (Nat.le_refl _) _).trans (belowK_b (w := w) (Nat.le_refl _) _ D _ _ (by simp at hD; omega) hK' rfl rfl)⟩
    simp [results, Tryz.f51, go_sem, hc5]
   case stop =>
    rintro D c pre W hD hpre ⟨⟨rfl, hin, hcr⟩, hB⟩ hK
    gi_wp2
    refine ⟨by simp, .inl ⟨_, _, rfl, run_takeDeferred hK, ?_⟩⟩
    have hc5 := _root_.Go.cell_kept hcr (grownBy_putObj' _ D (.deferred none)) (fun r e => by cases e; exact ⟨_, hK, rfl⟩)
    have hany : ((runesOf a0).any fun p => badRune p.2) = true := by
     obtain ⟨rest, hr⟩ := hpre
     rw [← hr, List.any_append, hin]; rfl
    refine ⟨.bool false, ?_, by rw [hany]; rfl, hB.trans (belowK_b (w := w) (Nat.le_refl _) W D _ _ (by simp at hD; omega) hK rfl rfl)⟩
    simp [results, Tryz.f51, go_sem, hc5]
 cases h
end
def term_kinds_1.f (a0_0 : Int) (a0_1 : ByteArray) (a0_2 : ByteArray) : Option (Bool) := (term_iri.f a0_1).bind fun t114 => (if t114 = true then (some (a0_2.toList == ([] : List UInt8))) else (some false))
theorem term_kinds_1.calls (a0_0 : Int) (a0_1 : ByteArray) (a0_2 : ByteArray) (r : Bool) (w : World) (h : term_kinds_1.f a0_0 a0_1 a0_2 = some r) :
  Calls Tryz.prog 50 #[.agg #[.int .i64 a0_0, .string a0_1, .string a0_2]] w fun e w' => e = .returned (.bool r) ∧ Below w.heap.size w w' := by
 have hu31 := Tryz.underlying31
 have HB := Ad.mk (Below.refl w.heap.size w)
 have H := h
 clear h
 unfold term_kinds_1.f at H
 obtain ⟨t114, A2, H⟩ := bi_ H
 by_cases c3 : t114 = true
 ·subst c3
  rw [if_pos rfl] at H
  obtain rfl := Option.some.inj H
  go_enter Tryz.func50, Tryz.ntmps50
  go_wp2_with (first | ((with_reducible refine gate_dst (N := 1) rfl ?_); refine box_event r1_ (N := 1) r1_ (cs := #[.int .i64 a0_0, .string a0_1, .string a0_2]) (t := 31) r2_ ?_; intro gb113 hg w4 hbox hb; have BK113 := Ad.mk (hbox); have GW113 := Ad.mk (bs_ : w.heap.size ≤ gb113); have GE113 := Ad.mk (bs_ : w.heap.size ≤ gb113); replace HB := Ad.mk (below_step b1_ hb); clear hb hbox hg; obtain ⟨⟨hcz5_0, hcz5_1, hcz5_2⟩, hfz5_0, hfz5_1, hfz5_2⟩ := c3_ BK113.out) | ((with_reducible refine gate_callee (f := 51) rfl ?_); refine goesL_ (some 5) rfl rfl Tryz.func51 k1_ rfl #[.string a0_1] rfl g1_ ?_; (with_reducible refine (term_iri.calls a0_1 true _ A2.out).mono ?_); rintro e w6 ⟨rfl, hb⟩; refine ⟨_, rfl, ?_⟩; replace BK113 := Ad.mk (blk_below (g := gb113) (o := .cells #[.int .i64 a0_0, .string a0_1, .string a0_2] 31 (0, 0)) (bd_ BK113.out) hb); replace HB := Ad.mk (below_step (by have GE := GE113; exact b2_) hb); clear hb; obtain ⟨⟨hcz7_0, hcz7_1, hcz7_2⟩, hfz7_0, hfz7_1, hfz7_2⟩ := c3_ BK113.out))
  go_ret
  exact ⟨e2_, by have G0 := GE113; exact z7_⟩
 replace c3 := Bool.eq_false_iff.mpr c3
 subst c3
 rw [if_neg (show ¬ (false = true) by decide)] at H
 obtain rfl := Option.some.inj H
 go_enter Tryz.func50, Tryz.ntmps50
 go_wp2_with (first | ((with_reducible refine gate_dst (N := 1) rfl ?_); refine box_event r1_ (N := 1) r1_ (cs := #[.int .i64 a0_0, .string a0_1, .string a0_2]) (t := 31) r2_ ?_; intro gb113 hg w8 hbox hb; have BK113 := Ad.mk (hbox); have GW113 := Ad.mk (bs_ : w.heap.size ≤ gb113); have GE113 := Ad.mk (bs_ : w.heap.size ≤ gb113); replace HB := Ad.mk (below_step b1_ hb); clear hb hbox hg; obtain ⟨⟨hcz9_0, hcz9_1, hcz9_2⟩, hfz9_0, hfz9_1, hfz9_2⟩ := c3_ BK113.out) | ((with_reducible refine gate_callee (f := 51) rfl ?_); refine goesL_ (some 5) rfl rfl Tryz.func51 k1_ rfl #[.string a0_1] rfl g1_ ?_; (with_reducible refine (term_iri.calls a0_1 false _ A2.out).mono ?_); rintro e w10 ⟨rfl, hb⟩; refine ⟨_, rfl, ?_⟩; replace BK113 := Ad.mk (blk_below (g := gb113) (o := .cells #[.int .i64 a0_0, .string a0_1, .string a0_2] 31 (0, 0)) (bd_ BK113.out) hb); replace HB := Ad.mk (below_step (by have GE := GE113; exact b2_) hb); clear hb))
 go_ret
 exact ⟨e2_, by have G0 := GE113; exact z7_⟩
end Go.Proofs.YtpbphelaeleikaaGreatDoor.PLt

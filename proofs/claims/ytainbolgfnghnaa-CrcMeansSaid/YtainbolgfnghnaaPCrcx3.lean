-- by a program of this session over the kit's printer
import Derived.Test.YtainbolgfnghnaaPCrcx0
import Derived.Test.YtainbolgfnghnaaPCrcx1
namespace Go.Proofs.Ytainbolgfnghnaa.PCrc
open Go.RowKit Go.Proofs.YtainbolgfnghnaaW.PrintWords Go.Proofs.YtainbolgfnghnaaW.PrintLast Go.Proofs.YtainbolgfnghnaaW.PrintMore
attribute [local go_sem] max2_int min2_int max_two min_two max_three min_three max_four min_four   -- for this text's walks alone
set_option linter.unusedVariables false
set_option linter.unusedSimpArgs false

/-! ### rhizomelaw24_CrcMeans: function 4 -/
mutual
def rhizomelaw24_CrcMeans.j0 : Nat → List Int → List Int → List Int → Int → Int → Int → Bool → Option (Bool)
  | 0, _, _, _, _, _, _, _ => none
  | k + 1, x0, x1, x2, x3, x4, x5, x33 => if x33 = true then (some true) else ((crc_Sum.f k (([x0] : List (List Int)))).bind fun t133 => ((crc_Update.f k t133 x1).bind fun t134 => ((crc_Update.f k t134 x2).bind fun t135 => ((crc_Sum.f k (([x0, x1, x2] : List (List Int)))).bind fun t139 => (if t135 = t139 then (if 0 ≤ (mn (mn (x0.length : Int) (x1.length : Int)) (x2.length : Int)) then (if (mn (mn (x0.length : Int) (x1.length : Int)) (x2.length : Int) : Int).toNat ≤ 281474976710656 then (rhizomelaw24_CrcMeans.l0 k x0 x1 x2 x3 x4 x5 (mn (mn (x0.length : Int) (x1.length : Int)) (x2.length : Int)) (List.replicate (mn (mn (x0.length : Int) (x1.length : Int)) (x2.length : Int) : Int).toNat 0) 0) else (none)) else (none)) else (none))))))
def rhizomelaw24_CrcMeans.l0 : Nat → List Int → List Int → List Int → Int → Int → Int → Int → List Int → Int → Option (Bool)
  | 0, _, _, _, _, _, _, _, _, _ => none
  | k + 1, x0, x1, x2, x3, x4, x5, x13, x14, x15 => if x15 < x13 then (if 0 ≤ x15 then (if x15 < (x0.length : Int) then (if x15 < (x1.length : Int) then (if x15 < (x2.length : Int) then (if x15 < (x14.length : Int) then (rhizomelaw24_CrcMeans.l0 k x0 x1 x2 x3 x4 x5 x13 (x14.set (x15 : Int).toNat (Go.bits .xor .u8 (Go.bits .xor .u8 (rd x0 x15) (rd x1 x15)) (rd x2 x15))) (wrap64 (x15 + 1))) else (none)) else (none)) else (none)) else (none)) else (none)) else ((crc_Sum.f k (([x14] : List (List Int)))).bind fun t150 => (if 0 ≤ x13 then (if x13 ≤ (x0.length : Int) then ((crc_Sum.f k (([(x0.take (x13 : Int).toNat)] : List (List Int)))).bind fun t159 => (if x13 ≤ (x1.length : Int) then ((crc_Sum.f k (([(x1.take (x13 : Int).toNat)] : List (List Int)))).bind fun t168 => (if x13 ≤ (x2.length : Int) then ((crc_Sum.f k (([(x2.take (x13 : Int).toNat)] : List (List Int)))).bind fun t177 => (if t150 = (Go.bits .xor .u32 (Go.bits .xor .u32 t159 t168) t177) then (if x3 = 0 then (rhizomelaw24_CrcMeans.j2 k x0 x3 x4 x5 true) else (if x4 < 0 then (rhizomelaw24_CrcMeans.j2 k x0 x3 x4 x5 true) else (if x4 > 7 then (rhizomelaw24_CrcMeans.j2 k x0 x3 x4 x5 true) else (if x5 < 0 then (rhizomelaw24_CrcMeans.j2 k x0 x3 x4 x5 true) else (rhizomelaw24_CrcMeans.j2 k x0 x3 x4 x5 (decide (x5 > (wrap64 ((x0.length : Int) - 5))))))))) else (none))) else (none))) else (none))) else (none)) else (none)))
def rhizomelaw24_CrcMeans.j2 : Nat → List Int → Int → Int → Int → Bool → Option (Bool)
  | 0, _, _, _, _, _ => none
  | k + 1, x0, x3, x4, x5, x119 => if x119 = true then (some true) else (if ([] : List Int).length + x0.length < 140737488355328 then (if 0 ≤ (IntKind.u64.wrap (x4)) then (rhizomelaw24_CrcMeans.l1 k x0 x5 (([] : List Int) ++ x0) (shl .u64 (IntKind.u64.wrap (x3)) (IntKind.u64.wrap (x4))) 0) else (none)) else (none))
def rhizomelaw24_CrcMeans.l1 : Nat → List Int → Int → List Int → Int → Int → Option (Bool)
  | 0, _, _, _, _, _ => none
  | k + 1, x0, x5, x16, x17, x18 => if x18 < 5 then (if 0 ≤ (wrap64 (x5 + x18)) then (if (wrap64 (x5 + x18)) < (x16.length : Int) then (if 0 ≤ (IntKind.u64.wrap (wrap64 (8 * x18))) then (rhizomelaw24_CrcMeans.l1 k x0 x5 (x16.set ((wrap64 (x5 + x18)) : Int).toNat (Go.bits .xor .u8 (rd x16 (wrap64 (x5 + x18))) ((shr .u64 x17 (IntKind.u64.wrap (wrap64 (8 * x18)))) % 256))) x17 (wrap64 (x18 + 1))) else (none)) else (none)) else (none)) else ((crc_Sum.f k (([x16] : List (List Int)))).bind fun t186 => ((crc_Sum.f k (([x0] : List (List Int)))).bind fun t190 => (some (t186 != t190))))
end
def rhizomelaw24_CrcMeans.f (k : Nat) (l0 : List Int) (l1 : List Int) (l2 : List Int) (a3 : Int) (a4 : Int) (a5 : Int) : Option (Bool) := (rhizomelaw24_known.f).bind fun t129 => (if t129 = true then (if (l0.length : Int) > 3000 then (rhizomelaw24_CrcMeans.j0 k l0 l1 l2 a3 a4 a5 true) else (if (l1.length : Int) > 3000 then (rhizomelaw24_CrcMeans.j0 k l0 l1 l2 a3 a4 a5 true) else (rhizomelaw24_CrcMeans.j0 k l0 l1 l2 a3 a4 a5 (decide ((l2.length : Int) > 3000))))) else (none))
theorem rhizomelaw24_CrcMeans.mono_l : ∀ k, (∀ y0 y1 y2 y3 y4 y5 y6, LeO (rhizomelaw24_CrcMeans.j0 k y0 y1 y2 y3 y4 y5 y6) (rhizomelaw24_CrcMeans.j0 (k + 1) y0 y1 y2 y3 y4 y5 y6)) ∧ (∀ y0 y1 y2 y3 y4 y5 y6 y7 y8, LeO (rhizomelaw24_CrcMeans.l0 k y0 y1 y2 y3 y4 y5 y6 y7 y8) (rhizomelaw24_CrcMeans.l0 (k + 1) y0 y1 y2 y3 y4 y5 y6 y7 y8)) ∧ (∀ y0 y1 y2 y3 y4, LeO (rhizomelaw24_CrcMeans.j2 k y0 y1 y2 y3 y4) (rhizomelaw24_CrcMeans.j2 (k + 1) y0 y1 y2 y3 y4)) ∧ (∀ y0 y1 y2 y3 y4, LeO (rhizomelaw24_CrcMeans.l1 k y0 y1 y2 y3 y4) (rhizomelaw24_CrcMeans.l1 (k + 1) y0 y1 y2 y3 y4))
  | 0 => ⟨fun _ _ _ _ _ _ _ r h => by simp [rhizomelaw24_CrcMeans.j0] at h, fun _ _ _ _ _ _ _ _ _ r h => by simp [rhizomelaw24_CrcMeans.l0] at h, fun _ _ _ _ _ r h => by simp [rhizomelaw24_CrcMeans.j2] at h, fun _ _ _ _ _ r h => by simp [rhizomelaw24_CrcMeans.l1] at h⟩
  | k + 1 => by
    obtain ⟨ih0, ih1, ih2, ih3⟩ := rhizomelaw24_CrcMeans.mono_l k
    refine ⟨?_, ?_, ?_, ?_⟩
    · intro y0 y1 y2 y3 y4 y5 y6
      unfold rhizomelaw24_CrcMeans.j0
      repeat' first
      | (with_reducible exact ih0 _ _ _ _ _ _ _)
      | (with_reducible exact ih1 _ _ _ _ _ _ _ _ _)
      | (with_reducible exact ih2 _ _ _ _ _)
      | (with_reducible exact ih3 _ _ _ _ _)
      | (with_reducible exact crc_Sum.mono _ _)
      | (with_reducible exact crc_Update.mono _ _ _)
      | (with_reducible exact LeO.refl _)
      | (with_reducible exact LeO.none _)
      | (with_reducible refine LeO.ite ?_ ?_)
      | (with_reducible refine LeO.bind ?_ (fun _ => ?_))
      | exact ih0 _ _ _ _ _ _ _
      | exact ih1 _ _ _ _ _ _ _ _ _
      | exact ih2 _ _ _ _ _
      | exact ih3 _ _ _ _ _
      | exact crc_Sum.mono _ _
      | exact crc_Update.mono _ _ _
      | exact LeO.none _
      | refine LeO.ite ?_ ?_
      | refine LeO.bind ?_ (fun _ => ?_)
    · intro y0 y1 y2 y3 y4 y5 y6 y7 y8
      unfold rhizomelaw24_CrcMeans.l0
      repeat' first
      | (with_reducible exact ih0 _ _ _ _ _ _ _)
      | (with_reducible exact ih1 _ _ _ _ _ _ _ _ _)
      | (with_reducible exact ih2 _ _ _ _ _)
      | (with_reducible exact ih3 _ _ _ _ _)
      | (with_reducible exact crc_Sum.mono _ _)
      | (with_reducible exact crc_Update.mono _ _ _)
      | (with_reducible exact LeO.refl _)
      | (with_reducible exact LeO.none _)
      | (with_reducible refine LeO.ite ?_ ?_)
      | (with_reducible refine LeO.bind ?_ (fun _ => ?_))
      | exact ih0 _ _ _ _ _ _ _
      | exact ih1 _ _ _ _ _ _ _ _ _
      | exact ih2 _ _ _ _ _
      | exact ih3 _ _ _ _ _
      | exact crc_Sum.mono _ _
      | exact crc_Update.mono _ _ _
      | exact LeO.none _
      | refine LeO.ite ?_ ?_
      | refine LeO.bind ?_ (fun _ => ?_)
    · intro y0 y1 y2 y3 y4
      unfold rhizomelaw24_CrcMeans.j2
      repeat' first
      | (with_reducible exact ih0 _ _ _ _ _ _ _)
      | (with_reducible exact ih1 _ _ _ _ _ _ _ _ _)
      | (with_reducible exact ih2 _ _ _ _ _)
      | (with_reducible exact ih3 _ _ _ _ _)
      | (with_reducible exact crc_Sum.mono _ _)
      | (with_reducible exact crc_Update.mono _ _ _)
      | (with_reducible exact LeO.refl _)
      | (with_reducible exact LeO.none _)
      | (with_reducible refine LeO.ite ?_ ?_)
      | (with_reducible refine LeO.bind ?_ (fun _ => ?_))
      | exact ih0 _ _ _ _ _ _ _
      | exact ih1 _ _ _ _ _ _ _ _ _
      | exact ih2 _ _ _ _ _
      | exact ih3 _ _ _ _ _
      | exact crc_Sum.mono _ _
      | exact crc_Update.mono _ _ _
      | exact LeO.none _
      | refine LeO.ite ?_ ?_
      | refine LeO.bind ?_ (fun _ => ?_)
    · intro y0 y1 y2 y3 y4
      unfold rhizomelaw24_CrcMeans.l1
      repeat' first
      | (with_reducible exact ih0 _ _ _ _ _ _ _)
      | (with_reducible exact ih1 _ _ _ _ _ _ _ _ _)
      | (with_reducible exact ih2 _ _ _ _ _)
      | (with_reducible exact ih3 _ _ _ _ _)
      | (with_reducible exact crc_Sum.mono _ _)
      | (with_reducible exact crc_Update.mono _ _ _)
      | (with_reducible exact LeO.refl _)
      | (with_reducible exact LeO.none _)
      | (with_reducible refine LeO.ite ?_ ?_)
      | (with_reducible refine LeO.bind ?_ (fun _ => ?_))
      | exact ih0 _ _ _ _ _ _ _
      | exact ih1 _ _ _ _ _ _ _ _ _
      | exact ih2 _ _ _ _ _
      | exact ih3 _ _ _ _ _
      | exact crc_Sum.mono _ _
      | exact crc_Update.mono _ _ _
      | exact LeO.none _
      | refine LeO.ite ?_ ?_
      | refine LeO.bind ?_ (fun _ => ?_)
theorem rhizomelaw24_CrcMeans.mono : ∀ a0 a1 a2 a3 a4 a5 k, LeO (rhizomelaw24_CrcMeans.f k a0 a1 a2 a3 a4 a5) (rhizomelaw24_CrcMeans.f (k + 1) a0 a1 a2 a3 a4 a5) := by
  intro a0 a1 a2 a3 a4 a5 k
  obtain ⟨ih0, ih1, ih2, ih3⟩ := rhizomelaw24_CrcMeans.mono_l k
  unfold rhizomelaw24_CrcMeans.f
  repeat' first
      | (with_reducible exact ih0 _ _ _ _ _ _ _)
      | (with_reducible exact ih1 _ _ _ _ _ _ _ _ _)
      | (with_reducible exact ih2 _ _ _ _ _)
      | (with_reducible exact ih3 _ _ _ _ _)
      | (with_reducible exact crc_Sum.mono _ _)
      | (with_reducible exact crc_Update.mono _ _ _)
      | (with_reducible exact LeO.refl _)
      | (with_reducible exact LeO.none _)
      | (with_reducible refine LeO.ite ?_ ?_)
      | (with_reducible refine LeO.bind ?_ (fun _ => ?_))
      | exact ih0 _ _ _ _ _ _ _
      | exact ih1 _ _ _ _ _ _ _ _ _
      | exact ih2 _ _ _ _ _
      | exact ih3 _ _ _ _ _
      | exact crc_Sum.mono _ _
      | exact crc_Update.mono _ _ _
      | exact LeO.none _
      | refine LeO.ite ?_ ?_
      | refine LeO.bind ?_ (fun _ => ?_)
def rhizomelaw24_CrcMeans.T12 : Bool × List (List Nat × List Nat) := (true, [([], []), ([], []), ([], []), ([], []), ([2, 3], [2, 3]), ([4], [4]), ([], []), ([], []), ([6, 7], [6, 7]), ([8], [8]), ([5, 9], [5, 9]), ([], []), ([], []), ([11, 12], [11, 12]), ([13], [13]), ([10, 14], [10, 14]), ([0, 1, 0, 1, 2, 3, 4, 5, 6, 7, 8, 9, 10, 11, 12, 13, 14, 15], [0, 1]), ([16, 15, 0, 1, 2, 3, 4, 5, 6, 7, 8, 9, 10, 11, 12, 13, 14, 15], [15, 16])])
def rhizomelaw24_CrcMeans.B12 : List Nat := [0, 0, 0, 0, 12, 28, 0, 0, 192, 448, 1020, 0, 0, 6144, 14336, 32764, 65535, 131071]
theorem rhizomelaw24_CrcMeans.tab12 : rtab .any (opsOf Try.f4 12) = rhizomelaw24_CrcMeans.T12 := by kernel_rfl
theorem rhizomelaw24_CrcMeans.bits12 : waitsOk rhizomelaw24_CrcMeans.T12.2 rhizomelaw24_CrcMeans.B12 = true := by kernel_rfl
def rhizomelaw24_CrcMeans.T13 : Bool × List (List Nat × List Nat) := (true, [([], []), ([0], [0]), ([1], [1]), ([], []), ([], []), ([3, 4], [3, 4]), ([5], [5]), ([6, 2], [6]), ([], []), ([], []), ([8, 9], [8, 9]), ([10], [10]), ([11, 7], [11]), ([7, 12], [7, 12]), ([], []), ([], []), ([14, 15], [14, 15]), ([16], [16]), ([17, 12], [17]), ([13, 18], [13, 18]), ([2, 19], [2, 19])])
def rhizomelaw24_CrcMeans.B13 : List Nat := [0, 1, 3, 0, 0, 24, 56, 127, 0, 0, 768, 1792, 4095, 8191, 0, 0, 49152, 114688, 253951, 524287, 1048575]
theorem rhizomelaw24_CrcMeans.tab13 : rtab .any (opsOf Try.f4 13) = rhizomelaw24_CrcMeans.T13 := by kernel_rfl
theorem rhizomelaw24_CrcMeans.bits13 : waitsOk rhizomelaw24_CrcMeans.T13.2 rhizomelaw24_CrcMeans.B13 = true := by kernel_rfl
set_option maxHeartbeats 8000000 in
set_option maxRecDepth 100000 in
theorem rhizomelaw24_CrcMeans.calls (k : Nat) (P0_ : Nat → Prop) (A0 : Option Addr) (c0 : Nat) (l0 : List Int) (P1_ : Nat → Prop) (A1 : Option Addr) (c1 : Nat) (l1 : List Int) (P2_ : Nat → Prop) (A2 : Option Addr) (c2 : Nat) (l2 : List Int) (a3 : Int) (a4 : Int) (a5 : Int) (r : Bool) (w : World) (hs0 : Kd.V (Kd.int .u8) 5 w w.heap.size (fun k_ => P0_ k_) (.slice A0 l0.length c0) l0) (hs1 : Kd.V (Kd.int .u8) 5 w w.heap.size (fun k_ => P1_ k_) (.slice A1 l1.length c1) l1) (hs2 : Kd.V (Kd.int .u8) 5 w w.heap.size (fun k_ => P2_ k_) (.slice A2 l2.length c2) l2) (h : rhizomelaw24_CrcMeans.f k l0 l1 l2 a3 a4 a5 = some r) :
    Calls Try.prog 4 #[.slice A0 l0.length c0, .slice A1 l1.length c1, .slice A2 l2.length c2, .int .u32 a3, .int .i64 a4, .int .i64 a5] w fun e w' => e = .returned (.bool r) ∧ Below w.heap.size w w' := by
  have HO0 := Aside0.mk (show Kd.V (Kd.int .u8) 5 w w.heap.size (fun k_ => ((P0_ k_ ∨ P1_ k_ ∨ P2_ k_) ∨ w.heap.size ≤ k_)) (.slice A0 l0.length c0) l0 from Kd.V_mono hs0 (fun k_ hk => .inl (.inl hk)))
  have HO1 := Aside0.mk (show Kd.V (Kd.int .u8) 5 w w.heap.size (fun k_ => ((P0_ k_ ∨ P1_ k_ ∨ P2_ k_) ∨ w.heap.size ≤ k_)) (.slice A1 l1.length c1) l1 from Kd.V_mono hs1 (fun k_ hk => .inl (.inr (.inl hk))))
  have HO2 := Aside0.mk (show Kd.V (Kd.int .u8) 5 w w.heap.size (fun k_ => ((P0_ k_ ∨ P1_ k_ ∨ P2_ k_) ∨ w.heap.size ≤ k_)) (.slice A2 l2.length c2) l2 from Kd.V_mono hs2 (fun k_ hk => .inl (.inr (.inr hk))))
  have HB := Aside0.mk (Below.refl w.heap.size w)
  have H : ((rhizomelaw24_known.f).bind fun t129 => (if t129 = true then (if (l0.length : Int) > 3000 then (rhizomelaw24_CrcMeans.j0 k l0 l1 l2 a3 a4 a5 true) else (if (l1.length : Int) > 3000 then (rhizomelaw24_CrcMeans.j0 k l0 l1 l2 a3 a4 a5 true) else (rhizomelaw24_CrcMeans.j0 k l0 l1 l2 a3 a4 a5 (decide ((l2.length : Int) > 3000))))) else (none))) = some r := h
  clear h
  replace H := Option.bind_eq_some_iff.mp H
  obtain ⟨t129, A70, H⟩ := H
  replace H : (if t129 = true then (if (l0.length : Int) > 3000 then (rhizomelaw24_CrcMeans.j0 k l0 l1 l2 a3 a4 a5 true) else (if (l1.length : Int) > 3000 then (rhizomelaw24_CrcMeans.j0 k l0 l1 l2 a3 a4 a5 true) else (rhizomelaw24_CrcMeans.j0 k l0 l1 l2 a3 a4 a5 (decide ((l2.length : Int) > 3000))))) else (none)) = some r := H
  have A7 := Aside0.mk A70
  clear A70
  by_cases c8 : t129 = true
  · subst c8
    have H1 : (if (l0.length : Int) > 3000 then (rhizomelaw24_CrcMeans.j0 k l0 l1 l2 a3 a4 a5 true) else (if (l1.length : Int) > 3000 then (rhizomelaw24_CrcMeans.j0 k l0 l1 l2 a3 a4 a5 true) else (rhizomelaw24_CrcMeans.j0 k l0 l1 l2 a3 a4 a5 (decide ((l2.length : Int) > 3000))))) = some r := by rw [if_pos rfl] at H; exact H
    clear H
    have H := H1
    clear H1
    have HC9 := Aside0.mk H
    clear H
    go_enter Try.func4, Try.ntmps4
    go_upto_region 3 with (first | ((with_reducible refine gate_callee (f := 6) rfl ?_); refine goesL_ (some 19) rfl rfl Try.func6 (by kernel_rfl) rfl #[] rfl (by (try simp only [List.map_toArray, List.map_cons, List.map_nil]); first | done | rfl | (simp only [List.length_drop, List.length_take]; rfl)) ?_; (with_reducible refine (rhizomelaw24_known.calls  true _ A7.out).mono ?_); rintro e w10 ⟨rfl, hb⟩; refine ⟨_, rfl, ?_⟩; have n0_ := Aside0.mk (Kd.V_below (by (with_reducible repeat (first | apply Kd.V_alloc | apply Kd.V_drewN | apply Kd.V_drew)); exact HO0.out) hb); have n1_ := Aside0.mk (Kd.V_below (by (with_reducible repeat (first | apply Kd.V_alloc | apply Kd.V_drewN | apply Kd.V_drew)); exact HO1.out) hb); have n2_ := Aside0.mk (Kd.V_below (by (with_reducible repeat (first | apply Kd.V_alloc | apply Kd.V_drewN | apply Kd.V_drew)); exact HO2.out) hb); have n3_ := Aside0.mk (below_step (by repeat (first | (with_reducible first | exact HB.out | apply below_alloc | apply pw_below_drewN | apply below_drew1) | exact HB.out)) hb); clear HO0; clear HO1; clear HO2; clear HB; have HO0 := n0_; have HO1 := n1_; have HO2 := n2_; have HB := n3_; clear n0_ n1_ n2_ n3_; (try clear hb); (try clear hb2); (try clear hk); (try clear hi)))
    (try simp only [Act.put, List.setIfInBounds_toArray, List.set_cons_zero, List.set_cons_succ])
    go_cut [33] (fun v33 wc => ∃ (kq : Nat) (x33_8 : Bool), v33 = .bool x33_8 ∧ Aside0 (rhizomelaw24_CrcMeans.j0 kq l0 l1 l2 a3 a4 a5 x33_8 = some r) ∧ Aside0 (kq ≤ k) ∧ Aside0 (Kd.V (Kd.int .u8) 5 wc w.heap.size (fun k_ => ((P0_ k_ ∨ P1_ k_ ∨ P2_ k_) ∨ w.heap.size ≤ k_)) (.slice A0 l0.length c0) l0) ∧ Aside0 (Kd.V (Kd.int .u8) 5 wc w.heap.size (fun k_ => ((P0_ k_ ∨ P1_ k_ ∨ P2_ k_) ∨ w.heap.size ≤ k_)) (.slice A1 l1.length c1) l1) ∧ Aside0 (Kd.V (Kd.int .u8) 5 wc w.heap.size (fun k_ => ((P0_ k_ ∨ P1_ k_ ∨ P2_ k_) ∨ w.heap.size ≤ k_)) (.slice A2 l2.length c2) l2) ∧ Aside0 (Below w.heap.size w wc))
    case first =>
      have H := HC9.out
      clear HC9
      by_cases c11 : (l0.length : Int) > 3000
      · rw [if_pos c11] at H
        have c11b0 : decide (3000 < (l0.length : Int)) = true := decide_eq_true c11
        have c11b1 : decide (3000 < l0.length) = true := decide_eq_true (by omega)
        clear c11
        (first | rw [c11b0] | (simp only [i64_w, i32_w]; rw [c11b0]) | skip)
        have H' := Aside0.mk H
        clear H
        go_wp2
        go_meet
        case rel => exact ⟨_, (true), (by first | rfl | (simp; done) | (simp [*]; done)), H', ⟨by first | omega | exact Nat.le_refl _⟩, ⟨by (with_reducible repeat (first | apply Kd.V_alloc | apply Kd.V_drewN | apply Kd.V_drew)); exact HO0.out⟩, ⟨by (with_reducible repeat (first | apply Kd.V_alloc | apply Kd.V_drewN | apply Kd.V_drew)); exact HO1.out⟩, ⟨by (with_reducible repeat (first | apply Kd.V_alloc | apply Kd.V_drewN | apply Kd.V_drew)); exact HO2.out⟩, ⟨by repeat (first | (with_reducible first | exact HB.out | apply below_alloc | apply pw_below_drewN | apply below_drew1) | exact HB.out)⟩⟩
      · rw [if_neg c11] at H
        have c11b0 : decide (3000 < (l0.length : Int)) = false := decide_eq_false c11
        have c11b1 : decide (3000 < l0.length) = false := decide_eq_false (by omega)
        clear c11
        (first | rw [c11b0] | (simp only [i64_w, i32_w]; rw [c11b0]) | skip)
        by_cases c12 : (l1.length : Int) > 3000
        · rw [if_pos c12] at H
          have c12b0 : decide (3000 < (l1.length : Int)) = true := decide_eq_true c12
          have c12b1 : decide (3000 < l1.length) = true := decide_eq_true (by omega)
          clear c12
          have H' := Aside0.mk H
          clear H
          go_wp2
          go_meet
          case rel => exact ⟨_, (true), (by first | rfl | (simp; done) | (simp [*]; done)), H', ⟨by first | omega | exact Nat.le_refl _⟩, ⟨by (with_reducible repeat (first | apply Kd.V_alloc | apply Kd.V_drewN | apply Kd.V_drew)); exact HO0.out⟩, ⟨by (with_reducible repeat (first | apply Kd.V_alloc | apply Kd.V_drewN | apply Kd.V_drew)); exact HO1.out⟩, ⟨by (with_reducible repeat (first | apply Kd.V_alloc | apply Kd.V_drewN | apply Kd.V_drew)); exact HO2.out⟩, ⟨by repeat (first | (with_reducible first | exact HB.out | apply below_alloc | apply pw_below_drewN | apply below_drew1) | exact HB.out)⟩⟩
        · rw [if_neg c12] at H
          have c12b0 : decide (3000 < (l1.length : Int)) = false := decide_eq_false c12
          have c12b1 : decide (3000 < l1.length) = false := decide_eq_false (by omega)
          clear c12
          have H' := Aside0.mk H
          clear H
          go_wp2
          go_meet
          case rel => exact ⟨_, (decide ((l2.length : Int) > 3000)), (by first | rfl | (simp; done) | (simp [*]; done)), H', ⟨by first | omega | exact Nat.le_refl _⟩, ⟨by (with_reducible repeat (first | apply Kd.V_alloc | apply Kd.V_drewN | apply Kd.V_drew)); exact HO0.out⟩, ⟨by (with_reducible repeat (first | apply Kd.V_alloc | apply Kd.V_drewN | apply Kd.V_drew)); exact HO1.out⟩, ⟨by (with_reducible repeat (first | apply Kd.V_alloc | apply Kd.V_drewN | apply Kd.V_drew)); exact HO2.out⟩, ⟨by repeat (first | (with_reducible first | exact HB.out | apply below_alloc | apply pw_below_drewN | apply below_drew1) | exact HB.out)⟩⟩
    case rest =>
      clear HC9
      try clear c1
      try clear c2
      try clear p2
      try clear c4
      try clear c6
      try clear c8
      try clear c11
      try clear c11b0
      try clear c11b1
      try clear c12
      try clear c12b0
      try clear c12b1
      obtain ⟨kq, x33_8, rfl, HA, HJ8, HO_0, HO_1, HO_2, HB⟩ := hcut
      cases kq with
      | zero => exact absurd HA.out (by simp [rhizomelaw24_CrcMeans.j0])
      | succ kj8 =>
        have H := HA.out
        clear HA
        simp only [rhizomelaw24_CrcMeans.j0] at H
        by_cases c13 : x33_8 = true
        · subst c13
          have H1 : (some true) = some r := by rw [if_pos rfl] at H; exact H
          clear H
          have H := H1
          clear H1
          obtain rfl := Option.some.inj H
          go_wp2
          go_ret
          exact ⟨by first | rfl | (simp [errW_none, errW_some] <;> rfl) | (simp [*, errW_none, errW_some] <;> rfl), by repeat (first | (with_reducible first | exact HB.out | apply below_alloc | apply pw_below_drewN | apply below_drew1) | exact HB.out)⟩
        · replace c13 := Bool.eq_false_iff.mpr c13
          subst c13
          have H1 : ((crc_Sum.f kj8 (([l0] : List (List Int)))).bind fun t133 => ((crc_Update.f kj8 t133 l1).bind fun t134 => ((crc_Update.f kj8 t134 l2).bind fun t135 => ((crc_Sum.f kj8 (([l0, l1, l2] : List (List Int)))).bind fun t139 => (if t135 = t139 then (if 0 ≤ (mn (mn (l0.length : Int) (l1.length : Int)) (l2.length : Int)) then (if (mn (mn (l0.length : Int) (l1.length : Int)) (l2.length : Int) : Int).toNat ≤ 281474976710656 then (rhizomelaw24_CrcMeans.l0 kj8 l0 l1 l2 a3 a4 a5 (mn (mn (l0.length : Int) (l1.length : Int)) (l2.length : Int)) (List.replicate (mn (mn (l0.length : Int) (l1.length : Int)) (l2.length : Int) : Int).toNat 0) 0) else (none)) else (none)) else (none)))))) = some r := by rw [if_neg (show ¬ (false = true) by decide)] at H; exact H
          clear H
          have H := H1
          clear H1
          obtain ⟨y130, hy130⟩ : ∃ y_ : List (List Int), y_ = (([l0] : List (List Int))) := ⟨_, rfl⟩
          replace H : ((crc_Sum.f kj8 y130).bind fun t133 => ((crc_Update.f kj8 t133 l1).bind fun t134 => ((crc_Update.f kj8 t134 l2).bind fun t135 => ((crc_Sum.f kj8 (([l0, l1, l2] : List (List Int)))).bind fun t139 => (if t135 = t139 then (if 0 ≤ (mn (mn (l0.length : Int) (l1.length : Int)) (l2.length : Int)) then (if (mn (mn (l0.length : Int) (l1.length : Int)) (l2.length : Int) : Int).toNat ≤ 281474976710656 then (rhizomelaw24_CrcMeans.l0 kj8 l0 l1 l2 a3 a4 a5 (mn (mn (l0.length : Int) (l1.length : Int)) (l2.length : Int)) (List.replicate (mn (mn (l0.length : Int) (l1.length : Int)) (l2.length : Int) : Int).toNat 0) 0) else (none)) else (none)) else (none)))))) = some r := by first | (rw [hy130]; with_reducible exact H) | (have H2_ := (Option.bind_some _ _).symm.trans H; rw [hy130]; with_reducible exact H2_) | (have H2_ := (Option.bind_some _ _).symm.trans H; with_reducible exact H2_) | with_reducible exact H | (rw [hy130]; exact H) | exact H
          have Ny130 := Aside0.mk hy130
          clear hy130
          replace H := Option.bind_eq_some_iff.mp H
          obtain ⟨t133, A140, H⟩ := H
          replace H : ((crc_Update.f kj8 t133 l1).bind fun t134 => ((crc_Update.f kj8 t134 l2).bind fun t135 => ((crc_Sum.f kj8 (([l0, l1, l2] : List (List Int)))).bind fun t139 => (if t135 = t139 then (if 0 ≤ (mn (mn (l0.length : Int) (l1.length : Int)) (l2.length : Int)) then (if (mn (mn (l0.length : Int) (l1.length : Int)) (l2.length : Int) : Int).toNat ≤ 281474976710656 then (rhizomelaw24_CrcMeans.l0 kj8 l0 l1 l2 a3 a4 a5 (mn (mn (l0.length : Int) (l1.length : Int)) (l2.length : Int)) (List.replicate (mn (mn (l0.length : Int) (l1.length : Int)) (l2.length : Int) : Int).toNat 0) 0) else (none)) else (none)) else (none))))) = some r := H
          have A14 := Aside0.mk A140
          clear A140
          replace H := Option.bind_eq_some_iff.mp H
          obtain ⟨t134, A150, H⟩ := H
          replace H : ((crc_Update.f kj8 t134 l2).bind fun t135 => ((crc_Sum.f kj8 (([l0, l1, l2] : List (List Int)))).bind fun t139 => (if t135 = t139 then (if 0 ≤ (mn (mn (l0.length : Int) (l1.length : Int)) (l2.length : Int)) then (if (mn (mn (l0.length : Int) (l1.length : Int)) (l2.length : Int) : Int).toNat ≤ 281474976710656 then (rhizomelaw24_CrcMeans.l0 kj8 l0 l1 l2 a3 a4 a5 (mn (mn (l0.length : Int) (l1.length : Int)) (l2.length : Int)) (List.replicate (mn (mn (l0.length : Int) (l1.length : Int)) (l2.length : Int) : Int).toNat 0) 0) else (none)) else (none)) else (none)))) = some r := H
          have A15 := Aside0.mk A150
          clear A150
          replace H := Option.bind_eq_some_iff.mp H
          obtain ⟨t135, A160, H⟩ := H
          replace H : ((crc_Sum.f kj8 (([l0, l1, l2] : List (List Int)))).bind fun t139 => (if t135 = t139 then (if 0 ≤ (mn (mn (l0.length : Int) (l1.length : Int)) (l2.length : Int)) then (if (mn (mn (l0.length : Int) (l1.length : Int)) (l2.length : Int) : Int).toNat ≤ 281474976710656 then (rhizomelaw24_CrcMeans.l0 kj8 l0 l1 l2 a3 a4 a5 (mn (mn (l0.length : Int) (l1.length : Int)) (l2.length : Int)) (List.replicate (mn (mn (l0.length : Int) (l1.length : Int)) (l2.length : Int) : Int).toNat 0) 0) else (none)) else (none)) else (none))) = some r := H
          have A16 := Aside0.mk A160
          clear A160
          obtain ⟨y136, hy136⟩ : ∃ y_ : List (List Int), y_ = (([l0, l1, l2] : List (List Int))) := ⟨_, rfl⟩
          replace H : ((crc_Sum.f kj8 y136).bind fun t139 => (if t135 = t139 then (if 0 ≤ (mn (mn (l0.length : Int) (l1.length : Int)) (l2.length : Int)) then (if (mn (mn (l0.length : Int) (l1.length : Int)) (l2.length : Int) : Int).toNat ≤ 281474976710656 then (rhizomelaw24_CrcMeans.l0 kj8 l0 l1 l2 a3 a4 a5 (mn (mn (l0.length : Int) (l1.length : Int)) (l2.length : Int)) (List.replicate (mn (mn (l0.length : Int) (l1.length : Int)) (l2.length : Int) : Int).toNat 0) 0) else (none)) else (none)) else (none))) = some r := by first | (rw [hy136]; with_reducible exact H) | (have H2_ := (Option.bind_some _ _).symm.trans H; rw [hy136]; with_reducible exact H2_) | (have H2_ := (Option.bind_some _ _).symm.trans H; with_reducible exact H2_) | with_reducible exact H | (rw [hy136]; exact H) | exact H
          have Ny136 := Aside0.mk hy136
          clear hy136
          replace H := Option.bind_eq_some_iff.mp H
          obtain ⟨t139, A170, H⟩ := H
          replace H : (if t135 = t139 then (if 0 ≤ (mn (mn (l0.length : Int) (l1.length : Int)) (l2.length : Int)) then (if (mn (mn (l0.length : Int) (l1.length : Int)) (l2.length : Int) : Int).toNat ≤ 281474976710656 then (rhizomelaw24_CrcMeans.l0 kj8 l0 l1 l2 a3 a4 a5 (mn (mn (l0.length : Int) (l1.length : Int)) (l2.length : Int)) (List.replicate (mn (mn (l0.length : Int) (l1.length : Int)) (l2.length : Int) : Int).toNat 0) 0) else (none)) else (none)) else (none)) = some r := H
          have A17 := Aside0.mk A170
          clear A170
          by_cases c18 : t135 = t139
          · rw [if_pos c18] at H
            have c18b0 : (t135 == t139) = true := beq_iff_eq.mpr c18
            have c18b1 : (t135 != t139) = false := bne_eq_false_iff_eq.mpr c18
            clear c18
            obtain ⟨ji19, hji19⟩ : ∃ j_ : Int, (mn (l0.length : Int) (l1.length : Int)) = j_ := ⟨_, rfl⟩
            replace H : (if 0 ≤ (mn (ji19) (l2.length : Int)) then (if (mn (ji19) (l2.length : Int) : Int).toNat ≤ 281474976710656 then (rhizomelaw24_CrcMeans.l0 kj8 l0 l1 l2 a3 a4 a5 (mn (ji19) (l2.length : Int)) (List.replicate (mn (ji19) (l2.length : Int) : Int).toNat 0) 0) else (none)) else (none)) = some r := by first | (rw [hji19] at H; exact H) | (simp only [hji19] at H ⊢; exact H)
            (try rw [hji19] at A14)
            (try rw [hji19] at A15)
            (try rw [hji19] at A16)
            (try rw [hji19] at A17)
            have hji19_ : (if (l1.length : Int) < (l0.length : Int) then (l1.length : Int) else (l0.length : Int)) = ji19 := hji19
            have hji19n_ : (if l1.length < l0.length then (l1.length : Int) else (l0.length : Int)) = ji19 := by rw [← hji19_]; split <;> split <;> omega
            obtain ⟨ji20, hji20⟩ : ∃ j_ : Int, (mn (ji19) (l2.length : Int)) = j_ := ⟨_, rfl⟩
            replace H : (if 0 ≤ (ji20) then (if (ji20 : Int).toNat ≤ 281474976710656 then (rhizomelaw24_CrcMeans.l0 kj8 l0 l1 l2 a3 a4 a5 ji20 (List.replicate (ji20 : Int).toNat 0) 0) else (none)) else (none)) = some r := by first | (rw [hji20] at H; exact H) | (simp only [hji20] at H ⊢; exact H)
            (try rw [hji20] at A14)
            (try rw [hji20] at A15)
            (try rw [hji20] at A16)
            (try rw [hji20] at A17)
            have hji20_ : (if (l2.length : Int) < (ji19) then (l2.length : Int) else (ji19)) = ji20 := hji20
            by_cases c21 : 0 ≤ (ji20)
            · rw [if_pos c21] at H
              have c21b0 := eq_true c21
              have c21b1 : decide (0 ≤ (ji20)) = true := decide_eq_true c21
              clear c21
              by_cases c22 : (ji20 : Int).toNat ≤ 281474976710656
              · rw [if_pos c22] at H
                have c22b0 := eq_true c22
                have c22b1 : decide ((ji20 : Int).toNat ≤ 281474976710656) = true := decide_eq_true c22
                clear c22
                obtain ⟨y140, hy140⟩ : ∃ y_ : List Int, y_ = (List.replicate (ji20 : Int).toNat 0) := ⟨_, rfl⟩
                replace H : (rhizomelaw24_CrcMeans.l0 kj8 l0 l1 l2 a3 a4 a5 ji20 y140 0) = some r := by first | (rw [hy140]; with_reducible exact H) | (have H2_ := (Option.bind_some _ _).symm.trans H; rw [hy140]; with_reducible exact H2_) | (have H2_ := (Option.bind_some _ _).symm.trans H; with_reducible exact H2_) | with_reducible exact H | (rw [hy140]; exact H) | exact H
                have Ny140 := Aside0.mk hy140
                clear hy140
                have H' := Aside0.mk H
                clear H
                go_wp2_with (first | ((with_reducible refine gate_dst (N := 35) rfl ?_); (try (refine gate_guard (by rfl) ?_; dsimp only)); refine Kd.N_lit (Kd.slice 5 (Kd.int .u8)) _ 22 ?hg (N' := 35) ?hd (xs := ([l0] : List (List Int))) (inner := [.slice A0 l0.length c0]) (ok := (fun k_ => ((P0_ k_ ∨ P1_ k_ ∨ P2_ k_) ∨ w.heap.size ≤ k_))) (okp := (fun k_ => ((P0_ k_ ∨ P1_ k_ ∨ P2_ k_) ∨ w.heap.size ≤ k_))) ?hr ?hp (fun _ hk => hk) ((show ∀ k_, wc.heap.size ≤ k_ → (fun k_ => ((P0_ k_ ∨ P1_ k_ ∨ P2_ k_) ∨ w.heap.size ≤ k_)) k_ from fun k_ hk => (.inr (Nat.le_trans (below_size (by repeat (first | (with_reducible first | exact HB.out | apply below_alloc | apply pw_below_drewN | apply below_drew1) | exact HB.out))) hk))) _ (Nat.le_refl _)) (Below.refl _ _) (Nat.le_refl _) (by simp) ?_; (case hd => rfl); (case hg => rfl); (case hr => first | (go_simp; done) | (go_simp; rfl)); (case hp => exact (Reps.one (show Kd.FK (Kd.slice 5 (Kd.int .u8)) _ _ l0 [.slice A0 l0.length c0] from (Kd.FK_slice_mk (Kd.V_reads' (Kd.V_mono (e := 5) (base := w.heap.size) (ok' := (fun k_ => ((P0_ k_ ∨ P1_ k_ ∨ P2_ k_) ∨ w.heap.size ≤ k_))) (HO_0.out) (fun k_ hk => hk))).2.1 (Kd.V_F (Kd.V_mono (e := 5) (base := w.heap.size) (ok' := (fun k_ => ((P0_ k_ ∨ P1_ k_ ∨ P2_ k_) ∨ w.heap.size ≤ k_))) (HO_0.out) (fun k_ hk => hk))))) (Reps.none _ _))); intro v131 w23 ho24 hb hg_ hnew_; clear hg_ hnew_; (first | rw [← Ny130.out] at ho24 | (simp only [Int.reduceToNat] at ho24; rw [← Ny130.out] at ho24)); have n0_ := Aside0.mk (Kd.V_elder' (by (with_reducible repeat (first | apply Kd.V_alloc | apply Kd.V_drewN | apply Kd.V_drew)); exact HO_0.out) (Kd.N_base ho24) hb); have n1_ := Aside0.mk (Kd.V_elder' (by (with_reducible repeat (first | apply Kd.V_alloc | apply Kd.V_drewN | apply Kd.V_drew)); exact HO_1.out) (Kd.N_base ho24) hb); have n2_ := Aside0.mk (Kd.V_elder' (by (with_reducible repeat (first | apply Kd.V_alloc | apply Kd.V_drewN | apply Kd.V_drew)); exact HO_2.out) (Kd.N_base ho24) hb); have n3_ := Aside0.mk (Kd.N_lower ho24 (below_size (by repeat (first | (with_reducible first | exact HB.out | apply below_alloc | apply pw_below_drewN | apply below_drew1) | exact HB.out)))); have n4_ := Aside0.mk (below_step (by repeat (first | (with_reducible first | exact HB.out | apply below_alloc | apply pw_below_drewN | apply below_drew1) | exact HB.out)) hb); clear HO_0; clear HO_1; clear HO_2; clear HB; have HO_0 := n0_; have HO_1 := n1_; have HO_2 := n2_; have HO132 := n3_; have HB := n4_; clear n0_ n1_ n2_ n3_ n4_; clear hb ho24; obtain ⟨Ao25, co25, eo25⟩ := Kd.N_slice HO132.out; subst eo25) | ((with_reducible refine gate_callee (f := 7) rfl ?_); refine goesL_ (some 36) rfl rfl Try.func7 (by kernel_rfl) rfl #[.slice Ao25 y130.length co25] rfl (by (try simp only [List.map_toArray, List.map_cons, List.map_nil]); first | done | rfl | (simp only [List.length_drop, List.length_take]; rfl)) ?_; (with_reducible refine (crc_Sum.calls kj8 _ _ y130 t133 _ ?side1 ?side2 A14.out).mono ?_); (case side1 => repeat (first | exact (Kd.N_reads' HO132.out).2.2 | (with_reducible refine Kd.C_alloc ?_ _) | (with_reducible refine Kd.C_drewN ?_ _) | (with_reducible refine Kd.C_drew ?_))); (case side2 => exact (Kd.N_reads' HO132.out).2.1); rintro e w' ⟨rfl, ⟨nd, rfl⟩⟩; refine ⟨_, rfl, ?_⟩) | ((with_reducible refine gate_callee (f := 11) rfl ?_); refine goesL_ (some 38) rfl rfl Try.func11 (by kernel_rfl) rfl #[.int .u32 t133, .slice A1 l1.length c1] rfl (by (try simp only [List.map_toArray, List.map_cons, List.map_nil]); first | done | rfl | (simp only [List.length_drop, List.length_take]; rfl)) ?_; (with_reducible refine (crc_Update.calls kj8 t133 _ _ l1 t134 _ ?side1 ?side2 A15.out).mono ?_); (case side1 => repeat (first | exact (Kd.V_reads' HO_1.out).2.2 | (with_reducible refine Kd.C_alloc ?_ _) | (with_reducible refine Kd.C_drewN ?_ _) | (with_reducible refine Kd.C_drew ?_))); (case side2 => exact (Kd.V_reads' HO_1.out).2.1); rintro e w' ⟨rfl, ⟨nd, rfl⟩⟩; refine ⟨_, rfl, ?_⟩) | ((with_reducible refine gate_callee (f := 11) rfl ?_); refine goesL_ (some 40) rfl rfl Try.func11 (by kernel_rfl) rfl #[.int .u32 t134, .slice A2 l2.length c2] rfl (by (try simp only [List.map_toArray, List.map_cons, List.map_nil]); first | done | rfl | (simp only [List.length_drop, List.length_take]; rfl)) ?_; (with_reducible refine (crc_Update.calls kj8 t134 _ _ l2 t135 _ ?side1 ?side2 A16.out).mono ?_); (case side1 => repeat (first | exact (Kd.V_reads' HO_2.out).2.2 | (with_reducible refine Kd.C_alloc ?_ _) | (with_reducible refine Kd.C_drewN ?_ _) | (with_reducible refine Kd.C_drew ?_))); (case side2 => exact (Kd.V_reads' HO_2.out).2.1); rintro e w' ⟨rfl, ⟨nd, rfl⟩⟩; refine ⟨_, rfl, ?_⟩) | ((with_reducible refine gate_dst (N := 44) rfl ?_); (try (refine gate_guard (by rfl) ?_; dsimp only)); refine Kd.N_lit (Kd.slice 5 (Kd.int .u8)) _ 22 ?hg (N' := 44) ?hd (xs := ([l0, l1, l2] : List (List Int))) (inner := [.slice A0 l0.length c0, .slice A1 l1.length c1, .slice A2 l2.length c2]) (ok := (fun k_ => ((P0_ k_ ∨ P1_ k_ ∨ P2_ k_) ∨ w.heap.size ≤ k_) ∧ some k_ ≠ (.slice Ao25 y130.length co25 : Value).ownBlock)) (okp := (fun k_ => ((P0_ k_ ∨ P1_ k_ ∨ P2_ k_) ∨ w.heap.size ≤ k_) ∧ some k_ ≠ (.slice Ao25 y130.length co25 : Value).ownBlock)) ?hr ?hp (fun _ hk => hk) ((show ∀ k_, w23.heap.size ≤ k_ → (fun k_ => ((P0_ k_ ∨ P1_ k_ ∨ P2_ k_) ∨ w.heap.size ≤ k_) ∧ some k_ ≠ (.slice Ao25 y130.length co25 : Value).ownBlock) k_ from fun k_ hk => ⟨(.inr (Nat.le_trans (below_size (by repeat (first | (with_reducible first | exact HB.out | apply below_alloc | apply pw_below_drewN | apply below_drew1) | exact HB.out))) hk)), Kd.fresh' (Kd.N_lt (by (with_reducible repeat (first | apply Kd.N_alloc | apply Kd.N_drewN | apply Kd.N_drew)); exact HO132.out)) k_ hk⟩) _ (Nat.le_refl _)) (Below.refl _ _) (Nat.le_refl _) (by simp) ?_; (case hd => rfl); (case hg => rfl); (case hr => first | (go_simp; done) | (go_simp; rfl)); (case hp => exact (Reps.one (show Kd.FK (Kd.slice 5 (Kd.int .u8)) _ _ l0 [.slice A0 l0.length c0] from (Kd.FK_slice_mk (Kd.V_reads' (Kd.V_mono (e := 5) (base := w.heap.size) (ok' := (fun k_ => ((P0_ k_ ∨ P1_ k_ ∨ P2_ k_) ∨ w.heap.size ≤ k_) ∧ some k_ ≠ (.slice Ao25 y130.length co25 : Value).ownBlock)) (HO_0.out) (fun k_ hk => ⟨hk.1, hk.2⟩))).2.1 (Kd.V_F (Kd.V_mono (e := 5) (base := w.heap.size) (ok' := (fun k_ => ((P0_ k_ ∨ P1_ k_ ∨ P2_ k_) ∨ w.heap.size ≤ k_) ∧ some k_ ≠ (.slice Ao25 y130.length co25 : Value).ownBlock)) (HO_0.out) (fun k_ hk => ⟨hk.1, hk.2⟩))))) (Reps.one (show Kd.FK (Kd.slice 5 (Kd.int .u8)) _ _ l1 [.slice A1 l1.length c1] from (Kd.FK_slice_mk (Kd.V_reads' (Kd.V_mono (e := 5) (base := w.heap.size) (ok' := (fun k_ => ((P0_ k_ ∨ P1_ k_ ∨ P2_ k_) ∨ w.heap.size ≤ k_) ∧ some k_ ≠ (.slice Ao25 y130.length co25 : Value).ownBlock)) (HO_1.out) (fun k_ hk => ⟨hk.1, hk.2⟩))).2.1 (Kd.V_F (Kd.V_mono (e := 5) (base := w.heap.size) (ok' := (fun k_ => ((P0_ k_ ∨ P1_ k_ ∨ P2_ k_) ∨ w.heap.size ≤ k_) ∧ some k_ ≠ (.slice Ao25 y130.length co25 : Value).ownBlock)) (HO_1.out) (fun k_ hk => ⟨hk.1, hk.2⟩))))) (Reps.one (show Kd.FK (Kd.slice 5 (Kd.int .u8)) _ _ l2 [.slice A2 l2.length c2] from (Kd.FK_slice_mk (Kd.V_reads' (Kd.V_mono (e := 5) (base := w.heap.size) (ok' := (fun k_ => ((P0_ k_ ∨ P1_ k_ ∨ P2_ k_) ∨ w.heap.size ≤ k_) ∧ some k_ ≠ (.slice Ao25 y130.length co25 : Value).ownBlock)) (HO_2.out) (fun k_ hk => ⟨hk.1, hk.2⟩))).2.1 (Kd.V_F (Kd.V_mono (e := 5) (base := w.heap.size) (ok' := (fun k_ => ((P0_ k_ ∨ P1_ k_ ∨ P2_ k_) ∨ w.heap.size ≤ k_) ∧ some k_ ≠ (.slice Ao25 y130.length co25 : Value).ownBlock)) (HO_2.out) (fun k_ hk => ⟨hk.1, hk.2⟩))))) (Reps.none _ _))))); intro v137 w26 ho27 hb hg_ hnew_; clear hg_ hnew_; (first | rw [← Ny136.out] at ho27 | (simp only [Int.reduceToNat] at ho27; rw [← Ny136.out] at ho27)); have n0_ := Aside0.mk (Kd.V_elder' (by (with_reducible repeat (first | apply Kd.V_alloc | apply Kd.V_drewN | apply Kd.V_drew)); exact HO_0.out) (Kd.N_base ho27) hb); have n1_ := Aside0.mk (Kd.V_elder' (by (with_reducible repeat (first | apply Kd.V_alloc | apply Kd.V_drewN | apply Kd.V_drew)); exact HO_1.out) (Kd.N_base ho27) hb); have n2_ := Aside0.mk (Kd.V_elder' (by (with_reducible repeat (first | apply Kd.V_alloc | apply Kd.V_drewN | apply Kd.V_drew)); exact HO_2.out) (Kd.N_base ho27) hb); have n3_ := Aside0.mk (Kd.N_elder' (by (with_reducible repeat (first | apply Kd.N_alloc | apply Kd.N_drewN | apply Kd.N_drew)); exact HO132.out) (Kd.N_base ho27) hb); have n4_ := Aside0.mk (Kd.N_lower ho27 (below_size (by repeat (first | (with_reducible first | exact HB.out | apply below_alloc | apply pw_below_drewN | apply below_drew1) | exact HB.out)))); have n5_ := Aside0.mk (below_step (by repeat (first | (with_reducible first | exact HB.out | apply below_alloc | apply pw_below_drewN | apply below_drew1) | exact HB.out)) hb); clear HO_0; clear HO_1; clear HO_2; clear HO132; clear HB; have HO_0 := n0_; have HO_1 := n1_; have HO_2 := n2_; have HO132 := n3_; have HO138 := n4_; have HB := n5_; clear n0_ n1_ n2_ n3_ n4_ n5_; clear hb ho27; obtain ⟨Ao28, co28, eo28⟩ := Kd.N_slice HO138.out; subst eo28) | ((with_reducible refine gate_callee (f := 7) rfl ?_); refine goesL_ (some 45) rfl rfl Try.func7 (by kernel_rfl) rfl #[.slice Ao28 y136.length co28] rfl (by (try simp only [List.map_toArray, List.map_cons, List.map_nil]); first | done | rfl | (simp only [List.length_drop, List.length_take]; rfl)) ?_; (with_reducible refine (crc_Sum.calls kj8 _ _ y136 t139 _ ?side1 ?side2 A17.out).mono ?_); (case side1 => repeat (first | exact (Kd.N_reads' HO138.out).2.2 | (with_reducible refine Kd.C_alloc ?_ _) | (with_reducible refine Kd.C_drewN ?_ _) | (with_reducible refine Kd.C_drew ?_))); (case side2 => exact (Kd.N_reads' HO138.out).2.1); rintro e w' ⟨rfl, ⟨nd, rfl⟩⟩; refine ⟨_, rfl, ?_⟩) | ((with_reducible refine gate_dst (N := 55) rfl ?_); (try (refine gate_guard (by rfl) ?_; dsimp only)); refine Kd.R_make (Kd.int .u8) _ 5 rfl (N := 55) rfl 22 _ _ rfl ji20 rfl rfl Try.underlying22 (.int .u8 0) 1 info5 rfl (by decide) (by omega) 0 (ok := fun _ => True) (okp := fun _ => True) rfl (fun _ hk => hk) trivial (of_decide_eq_true (by first | (with_reducible assumption) | assumption)) (Nat.le_trans (Nat.mul_le_mul_right _ (of_decide_eq_true (by first | (with_reducible assumption) | assumption) : ji20.toNat ≤ 281474976710656)) (by omega)) (Below.refl _ _) (Nat.le_refl _) ?_; intro v141 w29 ho30 hb hg_ hnew_; clear hg_ hnew_; (first | rw [← Ny140.out] at ho30 | (simp only [Int.reduceToNat] at ho30; rw [← Ny140.out] at ho30)); have n0_ := Aside0.mk (Kd.V_elder' (by (with_reducible repeat (first | apply Kd.V_alloc | apply Kd.V_drewN | apply Kd.V_drew)); exact HO_0.out) (Kd.R_base ho30) hb); have n1_ := Aside0.mk (Kd.V_elder' (by (with_reducible repeat (first | apply Kd.V_alloc | apply Kd.V_drewN | apply Kd.V_drew)); exact HO_1.out) (Kd.R_base ho30) hb); have n2_ := Aside0.mk (Kd.V_elder' (by (with_reducible repeat (first | apply Kd.V_alloc | apply Kd.V_drewN | apply Kd.V_drew)); exact HO_2.out) (Kd.R_base ho30) hb); have n3_ := Aside0.mk (Kd.N_elder' (by (with_reducible repeat (first | apply Kd.N_alloc | apply Kd.N_drewN | apply Kd.N_drew)); exact HO132.out) (Kd.R_base ho30) hb); have n4_ := Aside0.mk (Kd.N_elder' (by (with_reducible repeat (first | apply Kd.N_alloc | apply Kd.N_drewN | apply Kd.N_drew)); exact HO138.out) (Kd.R_base ho30) hb); have n5_ := Aside0.mk (Kd.R_lower (Kd.R_newM (M := fun k_ => (w.heap.size ≤ k_)) ho30 (below_size (by repeat (first | (with_reducible first | exact HB.out | apply below_alloc | apply pw_below_drewN | apply below_drew1) | exact HB.out))) (fun k_ h_ => h_)) (below_size (by repeat (first | (with_reducible first | exact HB.out | apply below_alloc | apply pw_below_drewN | apply below_drew1) | exact HB.out)))); have n6_ := Aside0.mk (below_step (by repeat (first | (with_reducible first | exact HB.out | apply below_alloc | apply pw_below_drewN | apply below_drew1) | exact HB.out)) hb); clear HO_0; clear HO_1; clear HO_2; clear HO132; clear HO138; clear HB; have HO_0 := n0_; have HO_1 := n1_; have HO_2 := n2_; have HO132 := n3_; have HO138 := n4_; have HO142 := n5_; have HB := n6_; clear n0_ n1_ n2_ n3_ n4_ n5_ n6_; clear hb ho30))
                go_loopg [15] kj8 (fun kq v15 w' => ∃ (x14_2 : List Int) (x15_2 : Int), v15 = .int .i64 x15_2 ∧ Aside0 (rhizomelaw24_CrcMeans.l0 kq l0 l1 l2 a3 a4 a5 ji20 x14_2 x15_2 = some r) ∧ Aside0 (kq ≤ kj8) ∧ Aside0 (Kd.V (Kd.int .u8) 5 w' w.heap.size (fun k_ => ((P0_ k_ ∨ P1_ k_ ∨ P2_ k_) ∨ w.heap.size ≤ k_) ∧ some k_ ≠ (v141 : Value).ownBlock) (.slice A0 l0.length c0) l0) ∧ Aside0 (Kd.V (Kd.int .u8) 5 w' w.heap.size (fun k_ => ((P0_ k_ ∨ P1_ k_ ∨ P2_ k_) ∨ w.heap.size ≤ k_) ∧ some k_ ≠ (v141 : Value).ownBlock) (.slice A1 l1.length c1) l1) ∧ Aside0 (Kd.V (Kd.int .u8) 5 w' w.heap.size (fun k_ => ((P0_ k_ ∨ P1_ k_ ∨ P2_ k_) ∨ w.heap.size ≤ k_) ∧ some k_ ≠ (v141 : Value).ownBlock) (.slice A2 l2.length c2) l2) ∧ Aside0 (Kd.R (Kd.int .u8) 5 w' w.heap.size (fun k_ => (w.heap.size ≤ k_)) v141 x14_2) ∧ Aside0 (Below w.heap.size w w'))
                case atStart => exact ⟨(y140), (0), (by first | rfl | (simp; done) | (simp [*]; done)), H', ⟨Nat.le_refl _⟩, ⟨by (with_reducible repeat (first | apply Kd.V_alloc | apply Kd.V_drewN | apply Kd.V_drew)); exact Kd.V_mono HO_0.out (fun _ hk => ⟨hk.1.1.1, hk.2⟩)⟩, ⟨by (with_reducible repeat (first | apply Kd.V_alloc | apply Kd.V_drewN | apply Kd.V_drew)); exact Kd.V_mono HO_1.out (fun _ hk => ⟨hk.1.1.1, hk.2⟩)⟩, ⟨by (with_reducible repeat (first | apply Kd.V_alloc | apply Kd.V_drewN | apply Kd.V_drew)); exact Kd.V_mono HO_2.out (fun _ hk => ⟨hk.1.1.1, hk.2⟩)⟩, ⟨by (with_reducible repeat (first | apply Kd.R_alloc | apply Kd.R_drewN | apply Kd.R_drew)); exact Kd.R_mono HO142.out (fun _ hk => by first | exact hk | exact hk.1)⟩, ⟨by repeat (first | (with_reducible first | exact HB.out | apply below_alloc | apply pw_below_drewN | apply below_drew1) | exact HB.out)⟩⟩
                case round =>
                  clear H'
                  try clear c1
                  try clear c2
                  try clear p2
                  try clear c4
                  try clear c6
                  try clear c7
                  try clear c8
                  try clear c11
                  try clear c11b0
                  try clear c11b1
                  try clear c12
                  try clear c12b0
                  try clear c12b1
                  try clear c13
                  try clear c18
                  try clear c18b0
                  try clear c18b1
                  try clear c21
                  try clear c21b0
                  try clear c21b1
                  try clear c22
                  try clear c22b0
                  try clear c22b1
                  try clear p2
                  obtain ⟨x14_2, x15_2, rfl, HA, HK2, HO_0, HO_1, HO_2, HO_14, HB⟩ := hrel
                  cases gk with
                  | zero => exact absurd HA.out (by simp [rhizomelaw24_CrcMeans.l0])
                  | succ k2 =>
                    have H := HA.out
                    clear HA
                    simp only [rhizomelaw24_CrcMeans.l0] at H
                    by_cases c31 : x15_2 < ji20
                    · rw [if_pos c31] at H
                      have c31b0 : decide (x15_2 < ji20) = true := decide_eq_true c31
                      clear c31
                      by_cases c32 : 0 ≤ x15_2
                      · rw [if_pos c32] at H
                        have c32b0 : decide (0 ≤ x15_2) = true := decide_eq_true c32
                        clear c32
                        by_cases c33 : x15_2 < (l0.length : Int)
                        · rw [if_pos c33] at H
                          have c33b0 : decide (x15_2 < (l0.length : Int)) = true := decide_eq_true c33
                          clear c33
                          by_cases c34 : x15_2 < (l1.length : Int)
                          · rw [if_pos c34] at H
                            have c34b0 : decide (x15_2 < (l1.length : Int)) = true := decide_eq_true c34
                            clear c34
                            by_cases c35 : x15_2 < (l2.length : Int)
                            · rw [if_pos c35] at H
                              have c35b0 : decide (x15_2 < (l2.length : Int)) = true := decide_eq_true c35
                              clear c35
                              by_cases c36 : x15_2 < (x14_2.length : Int)
                              · rw [if_pos c36] at H
                                have c36b0 : decide (x15_2 < (x14_2.length : Int)) = true := decide_eq_true c36
                                clear c36
                                obtain ⟨y146, hy146⟩ : ∃ y_ : List Int, y_ = (x14_2.set (x15_2 : Int).toNat (Go.bits .xor .u8 (Go.bits .xor .u8 (rd l0 x15_2) (rd l1 x15_2)) (rd l2 x15_2))) := ⟨_, rfl⟩
                                replace H : (rhizomelaw24_CrcMeans.l0 k2 l0 l1 l2 a3 a4 a5 ji20 y146 (wrap64 (x15_2 + 1))) = some r := by first | (rw [hy146]; with_reducible exact H) | (have H2_ := (Option.bind_some _ _).symm.trans H; rw [hy146]; with_reducible exact H2_) | (have H2_ := (Option.bind_some _ _).symm.trans H; with_reducible exact H2_) | with_reducible exact H | (rw [hy146]; exact H) | exact H
                                have Ny146 := Aside0.mk hy146
                                clear hy146
                                have H' := Aside0.mk H
                                clear H
                                try go_wp2
                                have n0_ := Aside0.mk (Kd.V_drew HO_0.out)
                                have n1_ := Aside0.mk (Kd.V_drew HO_1.out)
                                have n2_ := Aside0.mk (Kd.V_drew HO_2.out)
                                have n3_ := Aside0.mk (Kd.R_drew HO_14.out)
                                have n4_ := Aside0.mk (below_drew1 HB.out)
                                clear HO_0
                                clear HO_1
                                clear HO_2
                                clear HO_14
                                clear HB
                                have HO_0 := n0_
                                have HO_1 := n1_
                                have HO_2 := n2_
                                have HO_14 := n3_
                                have HB := n4_
                                clear n0_ n1_ n2_ n3_ n4_
                                have p143 : 0 ≤ (x15_2 : Int) := of_decide_eq_true (by first | (with_reducible assumption) | assumption)
                                have q143 : x15_2 < (l0.length : Int) := of_decide_eq_true (by first | (with_reducible assumption) | assumption)
                                obtain ⟨ad143, e143, hx143_0⟩ := Kd.at_int (Kd.V_reads' HO_0.out).2.2 x15_2 p143 q143
                                cases e143
                                replace p143 := eq_true p143
                                replace q143 := eq_true q143
                                have p144 : 0 ≤ (x15_2 : Int) := of_decide_eq_true (by first | (with_reducible assumption) | assumption)
                                have q144 : x15_2 < (l1.length : Int) := of_decide_eq_true (by first | (with_reducible assumption) | assumption)
                                obtain ⟨ad144, e144, hx144_0⟩ := Kd.at_int (Kd.V_reads' HO_1.out).2.2 x15_2 p144 q144
                                cases e144
                                replace p144 := eq_true p144
                                replace q144 := eq_true q144
                                have p145 : 0 ≤ (x15_2 : Int) := of_decide_eq_true (by first | (with_reducible assumption) | assumption)
                                have q145 : x15_2 < (l2.length : Int) := of_decide_eq_true (by first | (with_reducible assumption) | assumption)
                                obtain ⟨ad145, e145, hx145_0⟩ := Kd.at_int (Kd.V_reads' HO_2.out).2.2 x15_2 p145 q145
                                cases e145
                                replace p145 := eq_true p145
                                replace q145 := eq_true q145
                                have p37 : 0 ≤ (x15_2 : Int) := of_decide_eq_true (by first | (with_reducible assumption) | assumption)
                                have q37 : (x15_2 : Int) < ((x14_2.length : Int) : Int) := of_decide_eq_true (by first | (with_reducible assumption) | assumption)
                                obtain ⟨go37, co37, eo37, gb37, gl37, cl37, HG37⟩ := Kd.R_form HO_14.out (by omega)
                                (first | cases eo37 | (injection eo37 with ea_ en_ ec_; (first | subst ea_ | (injection ea_ with ea_; subst ea_)); subst ec_; clear en_))
                                have GB37 := Aside0.mk gb37
                                have GG37 := Aside0.mk HG37
                                clear gb37 gl37 HG37
                                obtain ⟨hx37_0, hf37_0⟩ := Kd.R_celln 0 HO_14.out (x15_2 : Int) p37 q37
                                replace p37 := eq_true p37
                                replace q37 := eq_true q37
                                have HP39 := Kd.R_putn HO_14.out (x15_2 : Int) (Go.bits .xor .u8 (Go.bits .xor .u8 (rd l0 x15_2) (rd l1 x15_2)) (rd l2 x15_2))
                                rw [← Ny146.out] at HP39
                                have HQ39 := Aside0.mk HP39
                                clear HP39
                                refine start_ (n := 18) (S := fun w' => w'.cell? (ad143.add (x15_2).toNat) = some (.int .u8 (rd l0 x15_2)) ∧ w'.cell? (ad144.add (x15_2).toNat) = some (.int .u8 (rd l1 x15_2)) ∧ w'.cell? (ad145.add (x15_2).toNat) = some (.int .u8 (rd l2 x15_2))) (ds := [17]) #[false, false, false, false, false, false, false, false, false, false, false, false, false, false, false, false, false, false] (by kernel_rfl) rfl rfl ⟨hx143_0, hx144_0, hx145_0⟩ (fun hHeld => ?_); refine with_tabW rhizomelaw24_CrcMeans.tab12 rhizomelaw24_CrcMeans.bits12 (fun HT_ HW_ => ?_)
                                generalize wr.drew = w38 at HO_0 HO_1 HO_2 HO_14 HB GG37 HQ39 hf37_0 hx143_0 hx144_0 hx145_0 hx37_0 hHeld ⊢
                                refine pure_ (i := 0) (N := some 61) (v := ?_) (a' := ?_) #[true, false, false, false, false, false, false, false, false, false, false, false, false, false, false, false, false, false] rfl rfl (any_of HT_.out (by kernel_rfl)) (fun _ _ _ h => h) (Or.inl ⟨by rfl, ?_⟩) ?_ ?_
                                rotate_left
                                · intro w'
                                  go_simp
                                  with_reducible rfl
                                rotate_left
                                · simp only [Act.put, List.setIfInBounds_toArray, List.set_cons_zero, List.set_cons_succ, i64_w, i32_w]
                                  rfl
                                refine pure_ (i := 1) (N := some 62) (v := ?_) (a' := ?_) #[true, true, false, false, false, false, false, false, false, false, false, false, false, false, false, false, false, false] rfl rfl (any_of HT_.out (by kernel_rfl)) (fun _ _ _ h => h) (Or.inl ⟨by rfl, ?_⟩) ?_ ?_
                                rotate_left
                                · intro w'
                                  go_simp
                                  with_reducible rfl
                                rotate_left
                                · simp only [Act.put, List.setIfInBounds_toArray, List.set_cons_zero, List.set_cons_succ, i64_w, i32_w]
                                  rfl
                                refine pure_ (i := 2) (N := some 63) (v := ?_) (a' := ?_) #[true, true, true, false, false, false, false, false, false, false, false, false, false, false, false, false, false, false] rfl rfl (any_of HT_.out (by kernel_rfl)) (fun _ _ _ h => h) (Or.inl ⟨by rfl, ?_⟩) ?_ ?_
                                rotate_left
                                · intro w'
                                  go_simp
                                  with_reducible rfl
                                rotate_left
                                · simp only [Act.put, List.setIfInBounds_toArray, List.set_cons_zero, List.set_cons_succ, i64_w, i32_w]
                                  rfl
                                refine pure_ (i := 3) (N := some 64) (v := ?_) (a' := ?_) #[true, true, true, true, false, false, false, false, false, false, false, false, false, false, false, false, false, false] rfl rfl (any_of HT_.out (by kernel_rfl)) (fun _ _ _ h => h) (Or.inl ⟨by rfl, ?_⟩) ?_ ?_
                                rotate_left
                                · intro w'
                                  go_simp
                                  with_reducible rfl
                                rotate_left
                                · simp only [Act.put, List.setIfInBounds_toArray, List.set_cons_zero, List.set_cons_succ, i64_w, i32_w]
                                  rfl
                                refine pure_ (i := 4) (N := some 65) (v := ?_) (a' := ?_) #[true, true, true, true, true, false, false, false, false, false, false, false, false, false, false, false, false, false] rfl rfl (any_of HT_.out (by kernel_rfl)) (fun _ _ _ h => h) (Or.inl ⟨by rfl, ?_⟩) ?_ ?_
                                rotate_left
                                · intro w'
                                  go_simp
                                  with_reducible rfl
                                rotate_left
                                · simp only [Act.put, List.setIfInBounds_toArray, List.set_cons_zero, List.set_cons_succ, i64_w, i32_w]
                                  rfl
                                refine pure_ (i := 6) (N := some 67) (v := ?_) (a' := ?_) #[true, true, true, true, true, false, true, false, false, false, false, false, false, false, false, false, false, false] rfl rfl (any_of HT_.out (by kernel_rfl)) (fun _ _ _ h => h) (Or.inl ⟨by rfl, ?_⟩) ?_ ?_
                                rotate_left
                                · intro w'
                                  go_simp
                                  with_reducible rfl
                                rotate_left
                                · simp only [Act.put, List.setIfInBounds_toArray, List.set_cons_zero, List.set_cons_succ, i64_w, i32_w]
                                  rfl
                                refine pure_ (i := 7) (N := some 68) (v := ?_) (a' := ?_) #[true, true, true, true, true, false, true, true, false, false, false, false, false, false, false, false, false, false] rfl rfl (any_of HT_.out (by kernel_rfl)) (fun _ _ _ h => h) (Or.inl ⟨by rfl, ?_⟩) ?_ ?_
                                rotate_left
                                · intro w'
                                  go_simp
                                  with_reducible rfl
                                rotate_left
                                · simp only [Act.put, List.setIfInBounds_toArray, List.set_cons_zero, List.set_cons_succ, i64_w, i32_w]
                                  rfl
                                refine pure_ (i := 8) (N := some 69) (v := ?_) (a' := ?_) #[true, true, true, true, true, false, true, true, true, false, false, false, false, false, false, false, false, false] rfl rfl (any_of HT_.out (by kernel_rfl)) (fun _ _ _ h => h) (Or.inl ⟨by rfl, ?_⟩) ?_ ?_
                                rotate_left
                                · intro w'
                                  go_simp
                                  with_reducible rfl
                                rotate_left
                                · simp only [Act.put, List.setIfInBounds_toArray, List.set_cons_zero, List.set_cons_succ, i64_w, i32_w]
                                  rfl
                                refine pure_ (i := 11) (N := some 72) (v := ?_) (a' := ?_) #[true, true, true, true, true, false, true, true, true, false, false, true, false, false, false, false, false, false] rfl rfl (any_of HT_.out (by kernel_rfl)) (fun _ _ _ h => h) (Or.inl ⟨by rfl, ?_⟩) ?_ ?_
                                rotate_left
                                · intro w'
                                  go_simp
                                  with_reducible rfl
                                rotate_left
                                · simp only [Act.put, List.setIfInBounds_toArray, List.set_cons_zero, List.set_cons_succ, i64_w, i32_w]
                                  rfl
                                refine pure_ (i := 12) (N := some 73) (v := ?_) (a' := ?_) #[true, true, true, true, true, false, true, true, true, false, false, true, true, false, false, false, false, false] rfl rfl (any_of HT_.out (by kernel_rfl)) (fun _ _ _ h => h) (Or.inl ⟨by rfl, ?_⟩) ?_ ?_
                                rotate_left
                                · intro w'
                                  go_simp
                                  with_reducible rfl
                                rotate_left
                                · simp only [Act.put, List.setIfInBounds_toArray, List.set_cons_zero, List.set_cons_succ, i64_w, i32_w]
                                  rfl
                                refine pure_ (i := 13) (N := some 74) (v := ?_) (a' := ?_) #[true, true, true, true, true, false, true, true, true, false, false, true, true, true, false, false, false, false] rfl rfl (any_of HT_.out (by kernel_rfl)) (fun _ _ _ h => h) (Or.inl ⟨by rfl, ?_⟩) ?_ ?_
                                rotate_left
                                · intro w'
                                  go_simp
                                  with_reducible rfl
                                rotate_left
                                · simp only [Act.put, List.setIfInBounds_toArray, List.set_cons_zero, List.set_cons_succ, i64_w, i32_w]
                                  rfl
                                refine take_ (i := 5) (N := some 66) (v := ?_) (a' := ?_) #[true, true, true, true, true, true, true, true, true, false, false, true, true, true, false, false, false, false] rfl rfl (take_ofW HT_.out HW_.out (by kernel_rfl)) (fun _ _ _ h => h) (Or.inl ⟨by rfl, ?_⟩) hHeld ?_ ?_
                                rotate_left
                                · rintro w' ⟨s0, s1, s2⟩
                                  go_simp
                                  with_reducible rfl
                                rotate_left
                                · simp only [Act.put, List.setIfInBounds_toArray, List.set_cons_zero, List.set_cons_succ, i64_w, i32_w]
                                  rfl
                                refine take_ (i := 9) (N := some 70) (v := ?_) (a' := ?_) #[true, true, true, true, true, true, true, true, true, true, false, true, true, true, false, false, false, false] rfl rfl (take_ofW HT_.out HW_.out (by kernel_rfl)) (fun _ _ _ h => h) (Or.inl ⟨by rfl, ?_⟩) hHeld ?_ ?_
                                rotate_left
                                · rintro w' ⟨s0, s1, s2⟩
                                  go_simp
                                  with_reducible rfl
                                rotate_left
                                · simp only [Act.put, List.setIfInBounds_toArray, List.set_cons_zero, List.set_cons_succ, i64_w, i32_w]
                                  rfl
                                refine pure_ (i := 10) (N := some 71) (v := ?_) (a' := ?_) #[true, true, true, true, true, true, true, true, true, true, true, true, true, true, false, false, false, false] rfl rfl (any_of HT_.out (by kernel_rfl)) (fun _ _ _ h => h) (Or.inl ⟨by rfl, ?_⟩) ?_ ?_
                                rotate_left
                                · intro w'
                                  go_simp
                                  with_reducible rfl
                                rotate_left
                                · simp only [Act.put, List.setIfInBounds_toArray, List.set_cons_zero, List.set_cons_succ, i64_w, i32_w]
                                  rfl
                                refine take_ (i := 14) (N := some 75) (v := ?_) (a' := ?_) #[true, true, true, true, true, true, true, true, true, true, true, true, true, true, true, false, false, false] rfl rfl (take_ofW HT_.out HW_.out (by kernel_rfl)) (fun _ _ _ h => h) (Or.inl ⟨by rfl, ?_⟩) hHeld ?_ ?_
                                rotate_left
                                · rintro w' ⟨s0, s1, s2⟩
                                  go_simp
                                  with_reducible rfl
                                rotate_left
                                · simp only [Act.put, List.setIfInBounds_toArray, List.set_cons_zero, List.set_cons_succ, i64_w, i32_w]
                                  rfl
                                refine pure_ (i := 15) (N := some 76) (v := ?_) (a' := ?_) #[true, true, true, true, true, true, true, true, true, true, true, true, true, true, true, true, false, false] rfl rfl (any_of HT_.out (by kernel_rfl)) (fun _ _ _ h => h) (Or.inl ⟨by rfl, ?_⟩) ?_ ?_
                                rotate_left
                                · intro w'
                                  go_simp
                                  with_reducible rfl
                                rotate_left
                                · simp only [Act.put, List.setIfInBounds_toArray, List.set_cons_zero, List.set_cons_succ, i64_w, i32_w]
                                  rfl
                                refine pure_ (i := 16) (N := some 77) (v := ?_) (a' := ?_) #[true, true, true, true, true, true, true, true, true, true, true, true, true, true, true, true, true, false] rfl rfl (any_of HT_.out (by kernel_rfl)) (fun _ _ _ h => h) (Or.inl ⟨by rfl, ?_⟩) ?_ ?_
                                rotate_left
                                · intro w'
                                  go_simp
                                  with_reducible rfl
                                rotate_left
                                · simp only [Act.put, List.setIfInBounds_toArray, List.set_cons_zero, List.set_cons_succ, i64_w, i32_w]
                                  rfl
                                refine last_ (i := 17) (N := none) #[true, true, true, true, true, true, true, true, true, true, true, true, true, true, true, true, true, true] rfl rfl (one_of HT_.out (by kernel_rfl)) (by decide) (fun K hK => ?_)
                                refine skip_ (w1 := ?_) (by rfl) rfl ?_ ?_
                                rotate_left
                                · go_simp
                                  rfl
                                refine hK.out _ _ ?_
                                clear hK K
                                refine done_ (done_of HT_.out (by kernel_rfl)) ?_
                                try go_wp2
                                go_roundg k2
                                case measure => have := HJ8.out; have := HK2.out; omega
                                case rel => exact ⟨(y146), (wrap64 (x15_2 + 1)), (by first | rfl | (simp; done) | (simp [*]; done)), H', ⟨by have := HJ8.out; have := HK2.out; omega⟩, ⟨by (with_reducible repeat (first | apply Kd.V_alloc | apply Kd.V_drewN | apply Kd.V_drew)); exact Kd.V_mono (Kd.V_far (p := ⟨go37, (x15_2 : Int).toNat, none⟩) (Kd.V_mono HO_0.out (fun k_ hk => (⟨hk, fun e_ => hk.2 (by rw [e_]; rfl)⟩ : _ ∧ k_ ≠ go37))) (fun _ hk => hk.2) (.int .u8 (Go.bits .xor .u8 (Go.bits .xor .u8 (rd l0 x15_2) (rd l1 x15_2)) (rd l2 x15_2)))) (fun _ hk => ⟨hk.1.1, hk.1.2⟩)⟩, ⟨by (with_reducible repeat (first | apply Kd.V_alloc | apply Kd.V_drewN | apply Kd.V_drew)); exact Kd.V_mono (Kd.V_far (p := ⟨go37, (x15_2 : Int).toNat, none⟩) (Kd.V_mono HO_1.out (fun k_ hk => (⟨hk, fun e_ => hk.2 (by rw [e_]; rfl)⟩ : _ ∧ k_ ≠ go37))) (fun _ hk => hk.2) (.int .u8 (Go.bits .xor .u8 (Go.bits .xor .u8 (rd l0 x15_2) (rd l1 x15_2)) (rd l2 x15_2)))) (fun _ hk => ⟨hk.1.1, hk.1.2⟩)⟩, ⟨by (with_reducible repeat (first | apply Kd.V_alloc | apply Kd.V_drewN | apply Kd.V_drew)); exact Kd.V_mono (Kd.V_far (p := ⟨go37, (x15_2 : Int).toNat, none⟩) (Kd.V_mono HO_2.out (fun k_ hk => (⟨hk, fun e_ => hk.2 (by rw [e_]; rfl)⟩ : _ ∧ k_ ≠ go37))) (fun _ hk => hk.2) (.int .u8 (Go.bits .xor .u8 (Go.bits .xor .u8 (rd l0 x15_2) (rd l1 x15_2)) (rd l2 x15_2)))) (fun _ hk => ⟨hk.1.1, hk.1.2⟩)⟩, ⟨by (with_reducible repeat (first | apply Kd.R_alloc | apply Kd.R_drewN | apply Kd.R_drew)); exact HQ39.out⟩, ⟨by repeat (first | (with_reducible first | exact HB.out | apply below_alloc | apply pw_below_drewN | apply below_drew1 | refine below_set ?_ GB37.out) | exact HB.out)⟩⟩
                              · rw [if_neg c36] at H
                                exact absurd H (by simp)
                            · rw [if_neg c35] at H
                              exact absurd H (by simp)
                          · rw [if_neg c34] at H
                            exact absurd H (by simp)
                        · rw [if_neg c33] at H
                          exact absurd H (by simp)
                      · rw [if_neg c32] at H
                        exact absurd H (by simp)
                    · rw [if_neg c31] at H
                      have c31b0 : decide (x15_2 < ji20) = false := decide_eq_false c31
                      clear c31
                      obtain ⟨y147, hy147⟩ : ∃ y_ : List (List Int), y_ = (([x14_2] : List (List Int))) := ⟨_, rfl⟩
                      replace H : ((crc_Sum.f k2 y147).bind fun t150 => (if 0 ≤ ji20 then (if ji20 ≤ (l0.length : Int) then ((crc_Sum.f k2 (([(l0.take (ji20 : Int).toNat)] : List (List Int)))).bind fun t159 => (if ji20 ≤ (l1.length : Int) then ((crc_Sum.f k2 (([(l1.take (ji20 : Int).toNat)] : List (List Int)))).bind fun t168 => (if ji20 ≤ (l2.length : Int) then ((crc_Sum.f k2 (([(l2.take (ji20 : Int).toNat)] : List (List Int)))).bind fun t177 => (if t150 = (Go.bits .xor .u32 (Go.bits .xor .u32 t159 t168) t177) then (if a3 = 0 then (rhizomelaw24_CrcMeans.j2 k2 l0 a3 a4 a5 true) else (if a4 < 0 then (rhizomelaw24_CrcMeans.j2 k2 l0 a3 a4 a5 true) else (if a4 > 7 then (rhizomelaw24_CrcMeans.j2 k2 l0 a3 a4 a5 true) else (if a5 < 0 then (rhizomelaw24_CrcMeans.j2 k2 l0 a3 a4 a5 true) else (rhizomelaw24_CrcMeans.j2 k2 l0 a3 a4 a5 (decide (a5 > (wrap64 ((l0.length : Int) - 5))))))))) else (none))) else (none))) else (none))) else (none)) else (none))) = some r := by first | (rw [hy147]; with_reducible exact H) | (have H2_ := (Option.bind_some _ _).symm.trans H; rw [hy147]; with_reducible exact H2_) | (have H2_ := (Option.bind_some _ _).symm.trans H; with_reducible exact H2_) | with_reducible exact H | (rw [hy147]; exact H) | exact H
                      have Ny147 := Aside0.mk hy147
                      clear hy147
                      replace H := Option.bind_eq_some_iff.mp H
                      obtain ⟨t150, A400, H⟩ := H
                      replace H : (if 0 ≤ ji20 then (if ji20 ≤ (l0.length : Int) then ((crc_Sum.f k2 (([(l0.take (ji20 : Int).toNat)] : List (List Int)))).bind fun t159 => (if ji20 ≤ (l1.length : Int) then ((crc_Sum.f k2 (([(l1.take (ji20 : Int).toNat)] : List (List Int)))).bind fun t168 => (if ji20 ≤ (l2.length : Int) then ((crc_Sum.f k2 (([(l2.take (ji20 : Int).toNat)] : List (List Int)))).bind fun t177 => (if t150 = (Go.bits .xor .u32 (Go.bits .xor .u32 t159 t168) t177) then (if a3 = 0 then (rhizomelaw24_CrcMeans.j2 k2 l0 a3 a4 a5 true) else (if a4 < 0 then (rhizomelaw24_CrcMeans.j2 k2 l0 a3 a4 a5 true) else (if a4 > 7 then (rhizomelaw24_CrcMeans.j2 k2 l0 a3 a4 a5 true) else (if a5 < 0 then (rhizomelaw24_CrcMeans.j2 k2 l0 a3 a4 a5 true) else (rhizomelaw24_CrcMeans.j2 k2 l0 a3 a4 a5 (decide (a5 > (wrap64 ((l0.length : Int) - 5))))))))) else (none))) else (none))) else (none))) else (none)) else (none)) = some r := H
                      have A40 := Aside0.mk A400
                      clear A400
                      by_cases c41 : 0 ≤ ji20
                      · rw [if_pos c41] at H
                        have c41b0 := eq_true c41
                        have c41b1 : decide (0 ≤ ji20) = true := decide_eq_true c41
                        clear c41
                        by_cases c42 : ji20 ≤ (l0.length : Int)
                        · rw [if_pos c42] at H
                          have c42b0 := eq_true c42
                          have c42b1 : decide (ji20 ≤ (l0.length : Int)) = true := decide_eq_true c42
                          clear c42
                          obtain ⟨y151, hy151⟩ : ∃ y_ : List Int, y_ = (l0.take (ji20 : Int).toNat) := ⟨_, rfl⟩
                          replace H : ((crc_Sum.f k2 (([y151] : List (List Int)))).bind fun t159 => (if ji20 ≤ (l1.length : Int) then ((crc_Sum.f k2 (([(l1.take (ji20 : Int).toNat)] : List (List Int)))).bind fun t168 => (if ji20 ≤ (l2.length : Int) then ((crc_Sum.f k2 (([(l2.take (ji20 : Int).toNat)] : List (List Int)))).bind fun t177 => (if t150 = (Go.bits .xor .u32 (Go.bits .xor .u32 t159 t168) t177) then (if a3 = 0 then (rhizomelaw24_CrcMeans.j2 k2 l0 a3 a4 a5 true) else (if a4 < 0 then (rhizomelaw24_CrcMeans.j2 k2 l0 a3 a4 a5 true) else (if a4 > 7 then (rhizomelaw24_CrcMeans.j2 k2 l0 a3 a4 a5 true) else (if a5 < 0 then (rhizomelaw24_CrcMeans.j2 k2 l0 a3 a4 a5 true) else (rhizomelaw24_CrcMeans.j2 k2 l0 a3 a4 a5 (decide (a5 > (wrap64 ((l0.length : Int) - 5))))))))) else (none))) else (none))) else (none))) = some r := by first | (rw [hy151]; with_reducible exact H) | (have H2_ := (Option.bind_some _ _).symm.trans H; rw [hy151]; with_reducible exact H2_) | (have H2_ := (Option.bind_some _ _).symm.trans H; with_reducible exact H2_) | with_reducible exact H | (rw [hy151]; exact H) | exact H
                          have Ny151 := Aside0.mk hy151
                          clear hy151
                          obtain ⟨y156, hy156⟩ : ∃ y_ : List (List Int), y_ = (([y151] : List (List Int))) := ⟨_, rfl⟩
                          replace H : ((crc_Sum.f k2 y156).bind fun t159 => (if ji20 ≤ (l1.length : Int) then ((crc_Sum.f k2 (([(l1.take (ji20 : Int).toNat)] : List (List Int)))).bind fun t168 => (if ji20 ≤ (l2.length : Int) then ((crc_Sum.f k2 (([(l2.take (ji20 : Int).toNat)] : List (List Int)))).bind fun t177 => (if t150 = (Go.bits .xor .u32 (Go.bits .xor .u32 t159 t168) t177) then (if a3 = 0 then (rhizomelaw24_CrcMeans.j2 k2 l0 a3 a4 a5 true) else (if a4 < 0 then (rhizomelaw24_CrcMeans.j2 k2 l0 a3 a4 a5 true) else (if a4 > 7 then (rhizomelaw24_CrcMeans.j2 k2 l0 a3 a4 a5 true) else (if a5 < 0 then (rhizomelaw24_CrcMeans.j2 k2 l0 a3 a4 a5 true) else (rhizomelaw24_CrcMeans.j2 k2 l0 a3 a4 a5 (decide (a5 > (wrap64 ((l0.length : Int) - 5))))))))) else (none))) else (none))) else (none))) = some r := by first | (rw [hy156]; with_reducible exact H) | (have H2_ := (Option.bind_some _ _).symm.trans H; rw [hy156]; with_reducible exact H2_) | (have H2_ := (Option.bind_some _ _).symm.trans H; with_reducible exact H2_) | with_reducible exact H | (rw [hy156]; exact H) | exact H
                          have Ny156 := Aside0.mk hy156
                          clear hy156
                          replace H := Option.bind_eq_some_iff.mp H
                          obtain ⟨t159, A430, H⟩ := H
                          replace H : (if ji20 ≤ (l1.length : Int) then ((crc_Sum.f k2 (([(l1.take (ji20 : Int).toNat)] : List (List Int)))).bind fun t168 => (if ji20 ≤ (l2.length : Int) then ((crc_Sum.f k2 (([(l2.take (ji20 : Int).toNat)] : List (List Int)))).bind fun t177 => (if t150 = (Go.bits .xor .u32 (Go.bits .xor .u32 t159 t168) t177) then (if a3 = 0 then (rhizomelaw24_CrcMeans.j2 k2 l0 a3 a4 a5 true) else (if a4 < 0 then (rhizomelaw24_CrcMeans.j2 k2 l0 a3 a4 a5 true) else (if a4 > 7 then (rhizomelaw24_CrcMeans.j2 k2 l0 a3 a4 a5 true) else (if a5 < 0 then (rhizomelaw24_CrcMeans.j2 k2 l0 a3 a4 a5 true) else (rhizomelaw24_CrcMeans.j2 k2 l0 a3 a4 a5 (decide (a5 > (wrap64 ((l0.length : Int) - 5))))))))) else (none))) else (none))) else (none)) = some r := H
                          have A43 := Aside0.mk A430
                          clear A430
                          have c44b0 := eq_true (of_decide_eq_true (by first | (with_reducible assumption) | assumption) : 0 ≤ ji20)
                          by_cases c45 : ji20 ≤ (l1.length : Int)
                          · rw [if_pos c45] at H
                            have c45b0 := eq_true c45
                            have c45b1 : decide (ji20 ≤ (l1.length : Int)) = true := decide_eq_true c45
                            clear c45
                            obtain ⟨y160, hy160⟩ : ∃ y_ : List Int, y_ = (l1.take (ji20 : Int).toNat) := ⟨_, rfl⟩
                            replace H : ((crc_Sum.f k2 (([y160] : List (List Int)))).bind fun t168 => (if ji20 ≤ (l2.length : Int) then ((crc_Sum.f k2 (([(l2.take (ji20 : Int).toNat)] : List (List Int)))).bind fun t177 => (if t150 = (Go.bits .xor .u32 (Go.bits .xor .u32 t159 t168) t177) then (if a3 = 0 then (rhizomelaw24_CrcMeans.j2 k2 l0 a3 a4 a5 true) else (if a4 < 0 then (rhizomelaw24_CrcMeans.j2 k2 l0 a3 a4 a5 true) else (if a4 > 7 then (rhizomelaw24_CrcMeans.j2 k2 l0 a3 a4 a5 true) else (if a5 < 0 then (rhizomelaw24_CrcMeans.j2 k2 l0 a3 a4 a5 true) else (rhizomelaw24_CrcMeans.j2 k2 l0 a3 a4 a5 (decide (a5 > (wrap64 ((l0.length : Int) - 5))))))))) else (none))) else (none))) = some r := by first | (rw [hy160]; with_reducible exact H) | (have H2_ := (Option.bind_some _ _).symm.trans H; rw [hy160]; with_reducible exact H2_) | (have H2_ := (Option.bind_some _ _).symm.trans H; with_reducible exact H2_) | with_reducible exact H | (rw [hy160]; exact H) | exact H
                            have Ny160 := Aside0.mk hy160
                            clear hy160
                            obtain ⟨y165, hy165⟩ : ∃ y_ : List (List Int), y_ = (([y160] : List (List Int))) := ⟨_, rfl⟩
                            replace H : ((crc_Sum.f k2 y165).bind fun t168 => (if ji20 ≤ (l2.length : Int) then ((crc_Sum.f k2 (([(l2.take (ji20 : Int).toNat)] : List (List Int)))).bind fun t177 => (if t150 = (Go.bits .xor .u32 (Go.bits .xor .u32 t159 t168) t177) then (if a3 = 0 then (rhizomelaw24_CrcMeans.j2 k2 l0 a3 a4 a5 true) else (if a4 < 0 then (rhizomelaw24_CrcMeans.j2 k2 l0 a3 a4 a5 true) else (if a4 > 7 then (rhizomelaw24_CrcMeans.j2 k2 l0 a3 a4 a5 true) else (if a5 < 0 then (rhizomelaw24_CrcMeans.j2 k2 l0 a3 a4 a5 true) else (rhizomelaw24_CrcMeans.j2 k2 l0 a3 a4 a5 (decide (a5 > (wrap64 ((l0.length : Int) - 5))))))))) else (none))) else (none))) = some r := by first | (rw [hy165]; with_reducible exact H) | (have H2_ := (Option.bind_some _ _).symm.trans H; rw [hy165]; with_reducible exact H2_) | (have H2_ := (Option.bind_some _ _).symm.trans H; with_reducible exact H2_) | with_reducible exact H | (rw [hy165]; exact H) | exact H
                            have Ny165 := Aside0.mk hy165
                            clear hy165
                            replace H := Option.bind_eq_some_iff.mp H
                            obtain ⟨t168, A460, H⟩ := H
                            replace H : (if ji20 ≤ (l2.length : Int) then ((crc_Sum.f k2 (([(l2.take (ji20 : Int).toNat)] : List (List Int)))).bind fun t177 => (if t150 = (Go.bits .xor .u32 (Go.bits .xor .u32 t159 t168) t177) then (if a3 = 0 then (rhizomelaw24_CrcMeans.j2 k2 l0 a3 a4 a5 true) else (if a4 < 0 then (rhizomelaw24_CrcMeans.j2 k2 l0 a3 a4 a5 true) else (if a4 > 7 then (rhizomelaw24_CrcMeans.j2 k2 l0 a3 a4 a5 true) else (if a5 < 0 then (rhizomelaw24_CrcMeans.j2 k2 l0 a3 a4 a5 true) else (rhizomelaw24_CrcMeans.j2 k2 l0 a3 a4 a5 (decide (a5 > (wrap64 ((l0.length : Int) - 5))))))))) else (none))) else (none)) = some r := H
                            have A46 := Aside0.mk A460
                            clear A460
                            have c47b0 := eq_true (of_decide_eq_true (by first | (with_reducible assumption) | assumption) : 0 ≤ ji20)
                            by_cases c48 : ji20 ≤ (l2.length : Int)
                            · rw [if_pos c48] at H
                              have c48b0 := eq_true c48
                              have c48b1 : decide (ji20 ≤ (l2.length : Int)) = true := decide_eq_true c48
                              clear c48
                              obtain ⟨y169, hy169⟩ : ∃ y_ : List Int, y_ = (l2.take (ji20 : Int).toNat) := ⟨_, rfl⟩
                              replace H : ((crc_Sum.f k2 (([y169] : List (List Int)))).bind fun t177 => (if t150 = (Go.bits .xor .u32 (Go.bits .xor .u32 t159 t168) t177) then (if a3 = 0 then (rhizomelaw24_CrcMeans.j2 k2 l0 a3 a4 a5 true) else (if a4 < 0 then (rhizomelaw24_CrcMeans.j2 k2 l0 a3 a4 a5 true) else (if a4 > 7 then (rhizomelaw24_CrcMeans.j2 k2 l0 a3 a4 a5 true) else (if a5 < 0 then (rhizomelaw24_CrcMeans.j2 k2 l0 a3 a4 a5 true) else (rhizomelaw24_CrcMeans.j2 k2 l0 a3 a4 a5 (decide (a5 > (wrap64 ((l0.length : Int) - 5))))))))) else (none))) = some r := by first | (rw [hy169]; with_reducible exact H) | (have H2_ := (Option.bind_some _ _).symm.trans H; rw [hy169]; with_reducible exact H2_) | (have H2_ := (Option.bind_some _ _).symm.trans H; with_reducible exact H2_) | with_reducible exact H | (rw [hy169]; exact H) | exact H
                              have Ny169 := Aside0.mk hy169
                              clear hy169
                              obtain ⟨y174, hy174⟩ : ∃ y_ : List (List Int), y_ = (([y169] : List (List Int))) := ⟨_, rfl⟩
                              replace H : ((crc_Sum.f k2 y174).bind fun t177 => (if t150 = (Go.bits .xor .u32 (Go.bits .xor .u32 t159 t168) t177) then (if a3 = 0 then (rhizomelaw24_CrcMeans.j2 k2 l0 a3 a4 a5 true) else (if a4 < 0 then (rhizomelaw24_CrcMeans.j2 k2 l0 a3 a4 a5 true) else (if a4 > 7 then (rhizomelaw24_CrcMeans.j2 k2 l0 a3 a4 a5 true) else (if a5 < 0 then (rhizomelaw24_CrcMeans.j2 k2 l0 a3 a4 a5 true) else (rhizomelaw24_CrcMeans.j2 k2 l0 a3 a4 a5 (decide (a5 > (wrap64 ((l0.length : Int) - 5))))))))) else (none))) = some r := by first | (rw [hy174]; with_reducible exact H) | (have H2_ := (Option.bind_some _ _).symm.trans H; rw [hy174]; with_reducible exact H2_) | (have H2_ := (Option.bind_some _ _).symm.trans H; with_reducible exact H2_) | with_reducible exact H | (rw [hy174]; exact H) | exact H
                              have Ny174 := Aside0.mk hy174
                              clear hy174
                              replace H := Option.bind_eq_some_iff.mp H
                              obtain ⟨t177, A490, H⟩ := H
                              replace H : (if t150 = (Go.bits .xor .u32 (Go.bits .xor .u32 t159 t168) t177) then (if a3 = 0 then (rhizomelaw24_CrcMeans.j2 k2 l0 a3 a4 a5 true) else (if a4 < 0 then (rhizomelaw24_CrcMeans.j2 k2 l0 a3 a4 a5 true) else (if a4 > 7 then (rhizomelaw24_CrcMeans.j2 k2 l0 a3 a4 a5 true) else (if a5 < 0 then (rhizomelaw24_CrcMeans.j2 k2 l0 a3 a4 a5 true) else (rhizomelaw24_CrcMeans.j2 k2 l0 a3 a4 a5 (decide (a5 > (wrap64 ((l0.length : Int) - 5))))))))) else (none)) = some r := H
                              have A49 := Aside0.mk A490
                              clear A490
                              by_cases c50 : t150 = (Go.bits .xor .u32 (Go.bits .xor .u32 t159 t168) t177)
                              · rw [if_pos c50] at H
                                have c50b0 : (t150 == (Go.bits .xor .u32 (Go.bits .xor .u32 t159 t168) t177)) = true := beq_iff_eq.mpr c50
                                have c50b1 : (t150 != (Go.bits .xor .u32 (Go.bits .xor .u32 t159 t168) t177)) = false := bne_eq_false_iff_eq.mpr c50
                                clear c50
                                have HC51 := Aside0.mk H
                                clear H
                                try go_wp2
                                have n0_ := Aside0.mk (Kd.V_drew HO_0.out)
                                have n1_ := Aside0.mk (Kd.V_drew HO_1.out)
                                have n2_ := Aside0.mk (Kd.V_drew HO_2.out)
                                have n3_ := Aside0.mk (Kd.R_drew HO_14.out)
                                have n4_ := Aside0.mk (below_drew1 HB.out)
                                clear HO_0
                                clear HO_1
                                clear HO_2
                                clear HO_14
                                clear HB
                                have HO_0 := n0_
                                have HO_1 := n1_
                                have HO_2 := n2_
                                have HO_14 := n3_
                                have HB := n4_
                                clear n0_ n1_ n2_ n3_ n4_
                                have q53 : (ji20 : Int) ≤ ((l0.length : Int) : Int) := of_decide_eq_true (by first | (with_reducible assumption) | assumption)
                                obtain ⟨i053, hi053, _, hsz53, _⟩ := info_parts info5
                                have hroom53 : l0.length ≤ c0 := (Kd.V_reads' HO_0.out).2.1
                                have hC53 : Kd.F (Kd.int .u8) _ _ A0 l0.length l0 := (Kd.V_at (base := w.heap.size) HO_0.out).2.2
                                have hcut53 := cut_to (P := Try.prog) 22 5 .i64 Try.underlying22 hi053 A0 l0.length c0 ji20 (of_decide_eq_true (by first | (with_reducible assumption) | assumption)) q53 hroom53
                                have hr53 := Kd.F_take (m := (ji20 : Int).toNat) hC53 (by omega)
                                have hy53 : y151.length = (ji20 : Int).toNat := (by rw [Ny151.out, List.length_take]; omega)
                                rw [← Ny151.out] at hr53
                                rw [← hy53] at hcut53
                                have HO155 := Aside0.mk (show Kd.V (Kd.int .u8) 5 _ w.heap.size _ (.slice A0 y151.length c0) y151 from Kd.V_mk (by omega) hr53)
                                have HC155 := Aside0.mk (show y151.length ≤ c0 from by omega)
                                clear hr53 hC53 hroom53 hi053 hsz53
                                have KY53 := Aside0.mk hy53
                                clear hy53
                                replace q53 := eq_true q53
                                have q54 : (ji20 : Int) ≤ ((l1.length : Int) : Int) := of_decide_eq_true (by first | (with_reducible assumption) | assumption)
                                obtain ⟨i054, hi054, _, hsz54, _⟩ := info_parts info5
                                have hroom54 : l1.length ≤ c1 := (Kd.V_reads' HO_1.out).2.1
                                have hC54 : Kd.F (Kd.int .u8) _ _ A1 l1.length l1 := (Kd.V_at (base := w.heap.size) HO_1.out).2.2
                                have hcut54 := cut_to (P := Try.prog) 22 5 .i64 Try.underlying22 hi054 A1 l1.length c1 ji20 (of_decide_eq_true (by first | (with_reducible assumption) | assumption)) q54 hroom54
                                have hr54 := Kd.F_take (m := (ji20 : Int).toNat) hC54 (by omega)
                                have hy54 : y160.length = (ji20 : Int).toNat := (by rw [Ny160.out, List.length_take]; omega)
                                rw [← Ny160.out] at hr54
                                rw [← hy54] at hcut54
                                have HO164 := Aside0.mk (show Kd.V (Kd.int .u8) 5 _ w.heap.size _ (.slice A1 y160.length c1) y160 from Kd.V_mk (by omega) hr54)
                                have HC164 := Aside0.mk (show y160.length ≤ c1 from by omega)
                                clear hr54 hC54 hroom54 hi054 hsz54
                                have KY54 := Aside0.mk hy54
                                clear hy54
                                replace q54 := eq_true q54
                                have q55 : (ji20 : Int) ≤ ((l2.length : Int) : Int) := of_decide_eq_true (by first | (with_reducible assumption) | assumption)
                                obtain ⟨i055, hi055, _, hsz55, _⟩ := info_parts info5
                                have hroom55 : l2.length ≤ c2 := (Kd.V_reads' HO_2.out).2.1
                                have hC55 : Kd.F (Kd.int .u8) _ _ A2 l2.length l2 := (Kd.V_at (base := w.heap.size) HO_2.out).2.2
                                have hcut55 := cut_to (P := Try.prog) 22 5 .i64 Try.underlying22 hi055 A2 l2.length c2 ji20 (of_decide_eq_true (by first | (with_reducible assumption) | assumption)) q55 hroom55
                                have hr55 := Kd.F_take (m := (ji20 : Int).toNat) hC55 (by omega)
                                have hy55 : y169.length = (ji20 : Int).toNat := (by rw [Ny169.out, List.length_take]; omega)
                                rw [← Ny169.out] at hr55
                                rw [← hy55] at hcut55
                                have HO173 := Aside0.mk (show Kd.V (Kd.int .u8) 5 _ w.heap.size _ (.slice A2 y169.length c2) y169 from Kd.V_mk (by omega) hr55)
                                have HC173 := Aside0.mk (show y169.length ≤ c2 from by omega)
                                clear hr55 hC55 hroom55 hi055 hsz55
                                have KY55 := Aside0.mk hy55
                                clear hy55
                                replace q55 := eq_true q55
                                obtain ⟨Ao56, co56, eo56⟩ := Kd.R_slice HO_14.out
                                (first | subst eo56 | (injection eo56 with f1_ f2_ f3_; have f4_ := f1_.symm; have f5_ := f3_.symm; clear f1_ f2_ f3_; subst f4_; subst f5_))
                                refine start_ (n := 21) (S := fun w' => True) (ds := []) #[false, false, false, false, false, false, false, false, false, false, false, false, false, false, false, false, false, false, false, false, false] (by kernel_rfl) rfl rfl trivial (fun hHeld => ?_); refine with_tabW rhizomelaw24_CrcMeans.tab13 rhizomelaw24_CrcMeans.bits13 (fun HT_ HW_ => ?_)
                                generalize wr.drew = w52 at HO_0 HO_1 HO_2 HO_14 HB HO155 HO164 HO173 hHeld ⊢
                                refine pure_ (i := 0) (N := some 78) (v := ?_) (a' := ?_) #[true, false, false, false, false, false, false, false, false, false, false, false, false, false, false, false, false, false, false, false, false] rfl rfl (any_of HT_.out (by kernel_rfl)) (fun _ _ _ h => h) (Or.inl ⟨by rfl, ?_⟩) ?_ ?_
                                rotate_left
                                · intro w'
                                  go_simp
                                  with_reducible rfl
                                rotate_left
                                · simp only [Act.put, List.setIfInBounds_toArray, List.set_cons_zero, List.set_cons_succ, i64_w, i32_w]
                                  rfl
                                refine pure_ (i := 3) (N := some 81) (v := ?_) (a' := ?_) #[true, false, false, true, false, false, false, false, false, false, false, false, false, false, false, false, false, false, false, false, false] rfl rfl (any_of HT_.out (by kernel_rfl)) (fun _ _ _ h => h) (Or.inl ⟨by rfl, ?_⟩) ?_ ?_
                                rotate_left
                                · intro w'
                                  go_simp
                                  with_reducible rfl
                                rotate_left
                                · simp only [Act.put, List.setIfInBounds_toArray, List.set_cons_zero, List.set_cons_succ, i64_w, i32_w]
                                  rfl
                                refine pure_ (i := 4) (N := some 82) (v := ?_) (a' := ?_) #[true, false, false, true, true, false, false, false, false, false, false, false, false, false, false, false, false, false, false, false, false] rfl rfl (any_of HT_.out (by kernel_rfl)) (fun _ _ _ h => h) (Or.inl ⟨by rfl, ?_⟩) ?_ ?_
                                rotate_left
                                · intro w'
                                  go_simp
                                  with_reducible rfl
                                rotate_left
                                · simp only [Act.put, List.setIfInBounds_toArray, List.set_cons_zero, List.set_cons_succ, i64_w, i32_w]
                                  rfl
                                refine pure_ (i := 8) (N := some 86) (v := ?_) (a' := ?_) #[true, false, false, true, true, false, false, false, true, false, false, false, false, false, false, false, false, false, false, false, false] rfl rfl (any_of HT_.out (by kernel_rfl)) (fun _ _ _ h => h) (Or.inl ⟨by rfl, ?_⟩) ?_ ?_
                                rotate_left
                                · intro w'
                                  go_simp
                                  with_reducible rfl
                                rotate_left
                                · simp only [Act.put, List.setIfInBounds_toArray, List.set_cons_zero, List.set_cons_succ, i64_w, i32_w]
                                  rfl
                                refine pure_ (i := 9) (N := some 87) (v := ?_) (a' := ?_) #[true, false, false, true, true, false, false, false, true, true, false, false, false, false, false, false, false, false, false, false, false] rfl rfl (any_of HT_.out (by kernel_rfl)) (fun _ _ _ h => h) (Or.inl ⟨by rfl, ?_⟩) ?_ ?_
                                rotate_left
                                · intro w'
                                  go_simp
                                  with_reducible rfl
                                rotate_left
                                · simp only [Act.put, List.setIfInBounds_toArray, List.set_cons_zero, List.set_cons_succ, i64_w, i32_w]
                                  rfl
                                refine pure_ (i := 14) (N := some 92) (v := ?_) (a' := ?_) #[true, false, false, true, true, false, false, false, true, true, false, false, false, false, true, false, false, false, false, false, false] rfl rfl (any_of HT_.out (by kernel_rfl)) (fun _ _ _ h => h) (Or.inl ⟨by rfl, ?_⟩) ?_ ?_
                                rotate_left
                                · intro w'
                                  go_simp
                                  with_reducible rfl
                                rotate_left
                                · simp only [Act.put, List.setIfInBounds_toArray, List.set_cons_zero, List.set_cons_succ, i64_w, i32_w]
                                  rfl
                                refine pure_ (i := 15) (N := some 93) (v := ?_) (a' := ?_) #[true, false, false, true, true, false, false, false, true, true, false, false, false, false, true, true, false, false, false, false, false] rfl rfl (any_of HT_.out (by kernel_rfl)) (fun _ _ _ h => h) (Or.inl ⟨by rfl, ?_⟩) ?_ ?_
                                rotate_left
                                · intro w'
                                  go_simp
                                  with_reducible rfl
                                rotate_left
                                · simp only [Act.put, List.setIfInBounds_toArray, List.set_cons_zero, List.set_cons_succ, i64_w, i32_w]
                                  rfl
                                refine inv_at [1, 2, 5, 6, 7, 10, 11, 12, 13, 16, 17, 18, 19, 20] (fun a0_ b a w' => ∃ (v148 : Value) (v157 : Value) (v166 : Value) (v175 : Value), a = putSel a0_ b [(1, 79, v148), (2, 80, .int .u32 t150), (5, 83, .slice A0 y151.length c0), (6, 84, v157), (7, 85, .int .u32 t159), (10, 88, .slice A1 y160.length c1), (11, 89, v166), (12, 90, .int .u32 t168), (13, 91, .int .u32 (Go.bits .xor .u32 t159 t168)), (16, 94, .slice A2 y169.length c2), (17, 95, v175), (18, 96, .int .u32 t177), (19, 97, .int .u32 (Go.bits .xor .u32 (Go.bits .xor .u32 t159 t168) t177)), (20, 98, .bool (t150 != (Go.bits .xor .u32 (Go.bits .xor .u32 t159 t168) t177)))] ∧ (Kd.V (Kd.int .u8) 5 w' w.heap.size (fun k_ => ((P0_ k_ ∨ P1_ k_ ∨ P2_ k_) ∨ w.heap.size ≤ k_)) (.slice A0 l0.length c0) l0) ∧ (Kd.V (Kd.int .u8) 5 w' w.heap.size (fun k_ => ((P0_ k_ ∨ P1_ k_ ∨ P2_ k_) ∨ w.heap.size ≤ k_)) (.slice A1 l1.length c1) l1) ∧ (b 1 = false → Kd.R (Kd.int .u8) 5 w' w.heap.size (fun k_ => (w.heap.size ≤ k_)) (.slice Ao56 x14_2.length co56) x14_2) ∧ (Kd.V (Kd.int .u8) 5 w' w.heap.size (fun k_ => ((P0_ k_ ∨ P1_ k_ ∨ P2_ k_) ∨ w.heap.size ≤ k_)) (.slice A2 l2.length c2) l2) ∧ (Below w.heap.size w w') ∧ (Kd.V (Kd.int .u8) 5 w' w.heap.size (fun k_ => ((P0_ k_ ∨ P1_ k_ ∨ P2_ k_) ∨ w.heap.size ≤ k_)) (.slice A0 y151.length c0) y151) ∧ (Kd.V (Kd.int .u8) 5 w' w.heap.size (fun k_ => ((P0_ k_ ∨ P1_ k_ ∨ P2_ k_) ∨ w.heap.size ≤ k_)) (.slice A1 y160.length c1) y160) ∧ (Kd.V (Kd.int .u8) 5 w' w.heap.size (fun k_ => ((P0_ k_ ∨ P1_ k_ ∨ P2_ k_) ∨ w.heap.size ≤ k_)) (.slice A2 y169.length c2) y169) ∧ (b 1 = true → Kd.N (Kd.slice 5 (Kd.int .u8)) 22 w' w.heap.size (fun k_ => ((P0_ k_ ∨ P1_ k_ ∨ P2_ k_) ∨ w.heap.size ≤ k_)) v148 y147) ∧ (b 6 = true → Kd.N (Kd.slice 5 (Kd.int .u8)) 22 w' w.heap.size (fun k_ => ((P0_ k_ ∨ P1_ k_ ∨ P2_ k_) ∨ w.heap.size ≤ k_)) v157 y156) ∧ (b 11 = true → Kd.N (Kd.slice 5 (Kd.int .u8)) 22 w' w.heap.size (fun k_ => ((P0_ k_ ∨ P1_ k_ ∨ P2_ k_) ∨ w.heap.size ≤ k_)) v166 y165) ∧ (b 17 = true → Kd.N (Kd.slice 5 (Kd.int .u8)) 22 w' w.heap.size (fun k_ => ((P0_ k_ ∨ P1_ k_ ∨ P2_ k_) ∨ w.heap.size ≤ k_)) v175 y174)) HT_.out HW_.out (by kernel_rfl) (by kernel_rfl) ?_ ?_ ?_
                                · exact ⟨.bool false, .bool false, .bool false, .bool false, by simp only [putSel, Bool.false_eq_true, if_false], (by first | exact HO_0.out | exact Kd.V_mono HO_0.out (fun _ h_ => by first | trivial | exact h_ | exact h_.1 | exact h_.1.1)), (by first | exact HO_1.out | exact Kd.V_mono HO_1.out (fun _ h_ => by first | trivial | exact h_ | exact h_.1 | exact h_.1.1)), fun _ => (by first | exact HO_14.out | exact Kd.R_mono HO_14.out (fun _ h_ => by first | trivial | exact h_ | exact h_.1 | exact h_.1.1)), (by first | exact HO_2.out | exact Kd.V_mono HO_2.out (fun _ h_ => by first | trivial | exact h_ | exact h_.1 | exact h_.1.1)), HB.out, (by first | exact HO155.out | exact Kd.V_mono HO155.out (fun _ h_ => by first | trivial | exact h_ | exact h_.1 | exact h_.1.1)), (by first | exact HO164.out | exact Kd.V_mono HO164.out (fun _ h_ => by first | trivial | exact h_ | exact h_.1 | exact h_.1.1)), (by first | exact HO173.out | exact Kd.V_mono HO173.out (fun _ h_ => by first | trivial | exact h_ | exact h_.1 | exact h_.1.1)), fun h_ => absurd h_ (by decide), fun h_ => absurd h_ (by decide), fun h_ => absurd h_ (by decide), fun h_ => absurd h_ (by decide)⟩
                                · skip
                                  clear HB HO155 HO164 HO173 HO_0 HO_1 HO_14 HO_2
                                  refine steps_cons ?_ ?_
                                  · rintro b a w' ⟨v148, v157, v166, v175, ha, Q_HO_0, Q_HO_1, Q_HO_14, Q_HO_2, Q_HB, Q_HO155, Q_HO164, Q_HO173, Q_HO149, Q_HO158, Q_HO167, Q_HO176⟩ hb_ hon hoff
                                    refine ⟨_, rfl, fun K hK => ?_⟩
                                    have e78 : a.tmps[78]? = some (.slice Ao56 x14_2.length co56) := by rw [ha]; exact (putSel_off rfl).trans rfl
                                    replace ha := Aside0.mk ha
                                    have HO_0 := Aside0.mk Q_HO_0
                                    have HO_1 := Aside0.mk Q_HO_1
                                    have HO_14 := Aside0.mk (Q_HO_14 hb_)
                                    have HO_2 := Aside0.mk Q_HO_2
                                    have HB := Aside0.mk Q_HB
                                    have HO155 := Aside0.mk Q_HO155
                                    have HO164 := Aside0.mk Q_HO164
                                    have HO173 := Aside0.mk Q_HO173
                                    refine Kd.N_lit_step (Kd.slice 5 (Kd.int .u8)) _ 22 ?hg (N' := 79) ?hd (xs := ([x14_2] : List (List Int))) (inner := [.slice Ao56 x14_2.length co56]) (ok := (fun k_ => ((P0_ k_ ∨ P1_ k_ ∨ P2_ k_) ∨ w.heap.size ≤ k_))) (okp := (fun k_ => ((P0_ k_ ∨ P1_ k_ ∨ P2_ k_) ∨ w.heap.size ≤ k_))) ?hr ?hp (fun _ hk => hk) ((show ∀ k_, w'.heap.size ≤ k_ → (fun k_ => ((P0_ k_ ∨ P1_ k_ ∨ P2_ k_) ∨ w.heap.size ≤ k_)) k_ from fun k_ hk => (.inr (Nat.le_trans (below_size (by repeat (first | (with_reducible first | exact HB.out | apply below_alloc | apply pw_below_drewN | apply below_drew1) | exact HB.out))) hk))) _ (Nat.le_refl _)) (Below.refl _ _) (Nat.le_refl _) (by simp) ?_; (case hd => rfl); (case hg => rfl); (case hr => first | (go_simp; done) | (go_simp; rfl)); (case hp => exact (Reps.one (show Kd.FK (Kd.slice 5 (Kd.int .u8)) _ _ x14_2 [.slice Ao56 x14_2.length co56] from (Kd.FK_slice_mk (Kd.R_reads' (Kd.R_mono (ok' := (fun k_ => ((P0_ k_ ∨ P1_ k_ ∨ P2_ k_) ∨ w.heap.size ≤ k_))) (HO_14.out) (fun k_ hk => (.inr (hk))))).2.1 (Kd.R_F (Kd.R_mono (ok' := (fun k_ => ((P0_ k_ ∨ P1_ k_ ∨ P2_ k_) ∨ w.heap.size ≤ k_))) (HO_14.out) (fun k_ hk => (.inr (hk))))))) (Reps.none _ _)))
                                    intro v148 w57 ho58 hb hg_ hnew_
                                    clear hg_ hnew_
                                    (first | rw [← Ny147.out] at ho58 | (simp only [Int.reduceToNat] at ho58; rw [← Ny147.out] at ho58))
                                    have n0_ := Aside0.mk (Kd.V_elder' (by (with_reducible repeat (first | apply Kd.V_alloc | apply Kd.V_drewN | apply Kd.V_drew)); exact HO_0.out) (Kd.N_base ho58) hb)
                                    have n1_ := Aside0.mk (Kd.V_elder' (by (with_reducible repeat (first | apply Kd.V_alloc | apply Kd.V_drewN | apply Kd.V_drew)); exact HO_1.out) (Kd.N_base ho58) hb)
                                    have n2_ := Aside0.mk (Kd.V_elder' (by (with_reducible repeat (first | apply Kd.V_alloc | apply Kd.V_drewN | apply Kd.V_drew)); exact HO_2.out) (Kd.N_base ho58) hb)
                                    have n3_ := Aside0.mk (Kd.V_elder' (by (with_reducible repeat (first | apply Kd.V_alloc | apply Kd.V_drewN | apply Kd.V_drew)); exact HO155.out) (Kd.N_base ho58) hb)
                                    have n4_ := Aside0.mk (Kd.V_elder' (by (with_reducible repeat (first | apply Kd.V_alloc | apply Kd.V_drewN | apply Kd.V_drew)); exact HO164.out) (Kd.N_base ho58) hb)
                                    have n5_ := Aside0.mk (Kd.V_elder' (by (with_reducible repeat (first | apply Kd.V_alloc | apply Kd.V_drewN | apply Kd.V_drew)); exact HO173.out) (Kd.N_base ho58) hb)
                                    have n6_ := Aside0.mk (Kd.N_lower ho58 (below_size (by repeat (first | (with_reducible first | exact HB.out | apply below_alloc | apply pw_below_drewN | apply below_drew1) | exact HB.out))))
                                    have n7_ := Aside0.mk (below_step (by repeat (first | (with_reducible first | exact HB.out | apply below_alloc | apply pw_below_drewN | apply below_drew1) | exact HB.out)) hb)
                                    have z_HO158 := fun (h0_ : b 6 = true) => (show Kd.N (Kd.slice 5 (Kd.int .u8)) 22 w57 w.heap.size (fun k_ => ((P0_ k_ ∨ P1_ k_ ∨ P2_ k_) ∨ w.heap.size ≤ k_)) v157 y156 from by first | exact (Kd.N_elder' (by (with_reducible repeat (first | apply Kd.N_alloc | apply Kd.N_drewN | apply Kd.N_drew)); exact (Q_HO158 h0_)) (Kd.N_base ho58) hb) | exact Kd.N_mono (Kd.N_elder' (by (with_reducible repeat (first | apply Kd.N_alloc | apply Kd.N_drewN | apply Kd.N_drew)); exact (Q_HO158 h0_)) (Kd.N_base ho58) hb) (fun _ h_ => by first | trivial | exact h_ | exact h_.1))
                                    have z_HO167 := fun (h0_ : b 11 = true) => (show Kd.N (Kd.slice 5 (Kd.int .u8)) 22 w57 w.heap.size (fun k_ => ((P0_ k_ ∨ P1_ k_ ∨ P2_ k_) ∨ w.heap.size ≤ k_)) v166 y165 from by first | exact (Kd.N_elder' (by (with_reducible repeat (first | apply Kd.N_alloc | apply Kd.N_drewN | apply Kd.N_drew)); exact (Q_HO167 h0_)) (Kd.N_base ho58) hb) | exact Kd.N_mono (Kd.N_elder' (by (with_reducible repeat (first | apply Kd.N_alloc | apply Kd.N_drewN | apply Kd.N_drew)); exact (Q_HO167 h0_)) (Kd.N_base ho58) hb) (fun _ h_ => by first | trivial | exact h_ | exact h_.1))
                                    have z_HO176 := fun (h0_ : b 17 = true) => (show Kd.N (Kd.slice 5 (Kd.int .u8)) 22 w57 w.heap.size (fun k_ => ((P0_ k_ ∨ P1_ k_ ∨ P2_ k_) ∨ w.heap.size ≤ k_)) v175 y174 from by first | exact (Kd.N_elder' (by (with_reducible repeat (first | apply Kd.N_alloc | apply Kd.N_drewN | apply Kd.N_drew)); exact (Q_HO176 h0_)) (Kd.N_base ho58) hb) | exact Kd.N_mono (Kd.N_elder' (by (with_reducible repeat (first | apply Kd.N_alloc | apply Kd.N_drewN | apply Kd.N_drew)); exact (Q_HO176 h0_)) (Kd.N_base ho58) hb) (fun _ h_ => by first | trivial | exact h_ | exact h_.1))
                                    clear HO_0
                                    clear HO_1
                                    clear HO_2
                                    clear HO155
                                    clear HO164
                                    clear HO173
                                    clear HB
                                    clear HO_14
                                    have HO_0 := n0_
                                    have HO_1 := n1_
                                    have HO_2 := n2_
                                    have HO155 := n3_
                                    have HO164 := n4_
                                    have HO173 := n5_
                                    have HO149 := n6_
                                    have HB := n7_
                                    clear n0_ n1_ n2_ n3_ n4_ n5_ n6_ n7_
                                    clear hb ho58
                                    refine hK.out _ _ ⟨v148, v157, v166, v175, (by rw [ha.out]; exact putSel_upk 0 hb_ rfl rfl rfl), (by (with_reducible repeat (first | apply Kd.V_alloc | apply Kd.V_drewN | apply Kd.V_drew)); first | exact HO_0.out | exact Kd.V_mono HO_0.out (fun _ h_ => by first | trivial | exact h_ | exact h_.1 | exact h_.1.1)), (by (with_reducible repeat (first | apply Kd.V_alloc | apply Kd.V_drewN | apply Kd.V_drew)); first | exact HO_1.out | exact Kd.V_mono HO_1.out (fun _ h_ => by first | trivial | exact h_ | exact h_.1 | exact h_.1.1)), fun h0_ => absurd ((up_self b 1).symm.trans h0_) (by decide), (by (with_reducible repeat (first | apply Kd.V_alloc | apply Kd.V_drewN | apply Kd.V_drew)); first | exact HO_2.out | exact Kd.V_mono HO_2.out (fun _ h_ => by first | trivial | exact h_ | exact h_.1 | exact h_.1.1)), (by repeat (first | (with_reducible first | exact HB.out | apply below_alloc | apply pw_below_drewN | apply below_drew1) | exact HB.out)), (by (with_reducible repeat (first | apply Kd.V_alloc | apply Kd.V_drewN | apply Kd.V_drew)); first | exact HO155.out | exact Kd.V_mono HO155.out (fun _ h_ => by first | trivial | exact h_ | exact h_.1 | exact h_.1.1)), (by (with_reducible repeat (first | apply Kd.V_alloc | apply Kd.V_drewN | apply Kd.V_drew)); first | exact HO164.out | exact Kd.V_mono HO164.out (fun _ h_ => by first | trivial | exact h_ | exact h_.1 | exact h_.1.1)), (by (with_reducible repeat (first | apply Kd.V_alloc | apply Kd.V_drewN | apply Kd.V_drew)); first | exact HO173.out | exact Kd.V_mono HO173.out (fun _ h_ => by first | trivial | exact h_ | exact h_.1 | exact h_.1.1)), fun _ => (by (with_reducible repeat (first | apply Kd.N_alloc | apply Kd.N_drewN | apply Kd.N_drew)); exact HO149.out), z_HO158, z_HO167, z_HO176⟩
                                  refine steps_cons ?_ ?_
                                  · rintro b a w' ⟨v148, v157, v166, v175, ha, Q_HO_0, Q_HO_1, Q_HO_14, Q_HO_2, Q_HB, Q_HO155, Q_HO164, Q_HO173, Q_HO149, Q_HO158, Q_HO167, Q_HO176⟩ hb_ hon hoff
                                    refine ⟨_, rfl, fun K hK => ?_⟩
                                    have e79 : a.tmps[79]? = some (v148) := by rw [ha]; exact putSel_on (e := (1, 79, v148)) 0 rfl rfl (hon 1 (by kernel_rfl)) rfl
                                    replace ha := Aside0.mk ha
                                    have HO_0 := Aside0.mk Q_HO_0
                                    have HO_1 := Aside0.mk Q_HO_1
                                    have HO_2 := Aside0.mk Q_HO_2
                                    have HB := Aside0.mk Q_HB
                                    have HO155 := Aside0.mk Q_HO155
                                    have HO164 := Aside0.mk Q_HO164
                                    have HO173 := Aside0.mk Q_HO173
                                    have HO149 := Aside0.mk (Q_HO149 (hon 1 (by kernel_rfl)))
                                    obtain ⟨Ao60, co60, eo60⟩ := Kd.N_slice HO149.out
                                    (first | subst eo60 | (injection eo60 with f1_ f2_ f3_; have f4_ := f1_.symm; have f5_ := f3_.symm; clear f1_ f2_ f3_; subst f4_; subst f5_))
                                    refine goes_ Try.func7 (by kernel_rfl) rfl #[.slice Ao60 y147.length co60] (by rfl) rfl rfl (by first | (simp only [List.map_toArray, List.map_cons, List.map_nil, Act.eval, Array.getD_eq_getD_getElem?, Option.getD_some, e79]; done) | (simp only [List.map_toArray, List.map_cons, List.map_nil, Act.eval, Array.getD_eq_getD_getElem?, Option.getD_some, e79]; rfl)) ?_
                                    with_reducible refine (crc_Sum.calls k2 _ _ y147 t150 _ ?side1 ?side2 A40.out).mono ?_
                                    (case side1 => repeat (first | exact (Kd.N_reads' HO149.out).2.2 | (with_reducible refine Kd.C_alloc ?_ _) | (with_reducible refine Kd.C_drewN ?_ _) | (with_reducible refine Kd.C_drew ?_)))
                                    (case side2 => exact (Kd.N_reads' HO149.out).2.1)
                                    rintro e w' ⟨rfl, ⟨nd, rfl⟩⟩
                                    refine ⟨_, rfl, ?_⟩
                                    refine hK.out _ _ ⟨.slice Ao60 y147.length co60, v157, v166, v175, (by rw [ha.out]; exact putSel_upk 1 hb_ rfl rfl rfl), (by (with_reducible repeat (first | apply Kd.V_alloc | apply Kd.V_drewN | apply Kd.V_drew)); exact HO_0.out), (by (with_reducible repeat (first | apply Kd.V_alloc | apply Kd.V_drewN | apply Kd.V_drew)); exact HO_1.out), fun h0_ => absurd ((hon 1 (by kernel_rfl)).symm.trans h0_) (by decide), (by (with_reducible repeat (first | apply Kd.V_alloc | apply Kd.V_drewN | apply Kd.V_drew)); exact HO_2.out), (by repeat (first | (with_reducible first | exact HB.out | apply below_alloc | apply pw_below_drewN | apply below_drew1) | exact HB.out)), (by (with_reducible repeat (first | apply Kd.V_alloc | apply Kd.V_drewN | apply Kd.V_drew)); exact HO155.out), (by (with_reducible repeat (first | apply Kd.V_alloc | apply Kd.V_drewN | apply Kd.V_drew)); exact HO164.out), (by (with_reducible repeat (first | apply Kd.V_alloc | apply Kd.V_drewN | apply Kd.V_drew)); exact HO173.out), fun _ => (by (with_reducible repeat (first | apply Kd.N_alloc | apply Kd.N_drewN | apply Kd.N_drew)); exact HO149.out), fun h0_ => (by (with_reducible repeat (first | apply Kd.N_alloc | apply Kd.N_drewN | apply Kd.N_drew)); exact (Q_HO158 h0_)), fun h0_ => (by (with_reducible repeat (first | apply Kd.N_alloc | apply Kd.N_drewN | apply Kd.N_drew)); exact (Q_HO167 h0_)), fun h0_ => (by (with_reducible repeat (first | apply Kd.N_alloc | apply Kd.N_drewN | apply Kd.N_drew)); exact (Q_HO176 h0_))⟩
                                  refine steps_cons ?_ ?_
                                  · rintro b a w' ⟨v148, v157, v166, v175, ha, Q_HO_0, Q_HO_1, Q_HO_14, Q_HO_2, Q_HB, Q_HO155, Q_HO164, Q_HO173, Q_HO149, Q_HO158, Q_HO167, Q_HO176⟩ hb_ hon hoff
                                    refine ⟨_, rfl, fun K hK => ?_⟩
                                    have e81 : a.tmps[81]? = some (.slice A0 l0.length c0) := by rw [ha]; exact (putSel_off rfl).trans rfl
                                    have e82 : a.tmps[82]? = some (.int .i64 ji20) := by rw [ha]; exact (putSel_off rfl).trans rfl
                                    replace ha := Aside0.mk ha
                                    have HO_0 := Aside0.mk Q_HO_0
                                    have HO_1 := Aside0.mk Q_HO_1
                                    have HO_2 := Aside0.mk Q_HO_2
                                    have HB := Aside0.mk Q_HB
                                    have HO155 := Aside0.mk Q_HO155
                                    have HO164 := Aside0.mk Q_HO164
                                    have HO173 := Aside0.mk Q_HO173
                                    refine value_ (w1 := w') (v := .slice A0 y151.length c0) (by rfl) rfl ?_ ?_
                                    · go_simp
                                      (try simp only [i64_w])
                                      try rfl
                                    refine hK.out _ _ ⟨v148, v157, v166, v175, (by rw [ha.out]; exact putSel_upk 2 hb_ rfl rfl rfl), Q_HO_0, Q_HO_1, Q_HO_14, Q_HO_2, Q_HB, Q_HO155, Q_HO164, Q_HO173, Q_HO149, fun h0_ => absurd ((hoff 6 (by kernel_rfl)).symm.trans h0_) (by decide), Q_HO167, Q_HO176⟩
                                  refine steps_cons ?_ ?_
                                  · rintro b a w' ⟨v148, v157, v166, v175, ha, Q_HO_0, Q_HO_1, Q_HO_14, Q_HO_2, Q_HB, Q_HO155, Q_HO164, Q_HO173, Q_HO149, Q_HO158, Q_HO167, Q_HO176⟩ hb_ hon hoff
                                    refine ⟨_, rfl, fun K hK => ?_⟩
                                    have e83 : a.tmps[83]? = some (.slice A0 y151.length c0) := by rw [ha]; exact putSel_on (e := (5, 83, .slice A0 y151.length c0)) 2 rfl rfl (hon 5 (by kernel_rfl)) rfl
                                    replace ha := Aside0.mk ha
                                    have HO_0 := Aside0.mk Q_HO_0
                                    have HO_1 := Aside0.mk Q_HO_1
                                    have HO_2 := Aside0.mk Q_HO_2
                                    have HB := Aside0.mk Q_HB
                                    have HO155 := Aside0.mk Q_HO155
                                    have HO164 := Aside0.mk Q_HO164
                                    have HO173 := Aside0.mk Q_HO173
                                    refine Kd.N_lit_step (Kd.slice 5 (Kd.int .u8)) _ 22 ?hg (N' := 84) ?hd (xs := ([y151] : List (List Int))) (inner := [.slice A0 y151.length c0]) (ok := (fun k_ => ((P0_ k_ ∨ P1_ k_ ∨ P2_ k_) ∨ w.heap.size ≤ k_))) (okp := (fun k_ => ((P0_ k_ ∨ P1_ k_ ∨ P2_ k_) ∨ w.heap.size ≤ k_))) ?hr ?hp (fun _ hk => hk) ((show ∀ k_, w'.heap.size ≤ k_ → (fun k_ => ((P0_ k_ ∨ P1_ k_ ∨ P2_ k_) ∨ w.heap.size ≤ k_)) k_ from fun k_ hk => (.inr (Nat.le_trans (below_size (by repeat (first | (with_reducible first | exact HB.out | apply below_alloc | apply pw_below_drewN | apply below_drew1) | exact HB.out))) hk))) _ (Nat.le_refl _)) (Below.refl _ _) (Nat.le_refl _) (by simp) ?_; (case hd => rfl); (case hg => rfl); (case hr => first | (go_simp; done) | (go_simp; rfl)); (case hp => exact (Reps.one (show Kd.FK (Kd.slice 5 (Kd.int .u8)) _ _ y151 [.slice A0 y151.length c0] from (Kd.FK_slice_mk (Kd.V_reads' (Kd.V_mono (e := 5) (base := w.heap.size) (ok' := (fun k_ => ((P0_ k_ ∨ P1_ k_ ∨ P2_ k_) ∨ w.heap.size ≤ k_))) (HO155.out) (fun _ h_ => by first | trivial | exact h_ | exact h_.1 | exact h_.1.1))).2.1 (Kd.V_F (Kd.V_mono (e := 5) (base := w.heap.size) (ok' := (fun k_ => ((P0_ k_ ∨ P1_ k_ ∨ P2_ k_) ∨ w.heap.size ≤ k_))) (HO155.out) (fun _ h_ => by first | trivial | exact h_ | exact h_.1 | exact h_.1.1))))) (Reps.none _ _)))
                                    intro v157 w56 ho57 hb hg_ hnew_
                                    clear hg_ hnew_
                                    (first | rw [← Ny156.out] at ho57 | (simp only [Int.reduceToNat] at ho57; rw [← Ny156.out] at ho57))
                                    have n0_ := Aside0.mk (Kd.V_elder' (by (with_reducible repeat (first | apply Kd.V_alloc | apply Kd.V_drewN | apply Kd.V_drew)); exact HO_0.out) (Kd.N_base ho57) hb)
                                    have n1_ := Aside0.mk (Kd.V_elder' (by (with_reducible repeat (first | apply Kd.V_alloc | apply Kd.V_drewN | apply Kd.V_drew)); exact HO_1.out) (Kd.N_base ho57) hb)
                                    have n2_ := Aside0.mk (Kd.V_elder' (by (with_reducible repeat (first | apply Kd.V_alloc | apply Kd.V_drewN | apply Kd.V_drew)); exact HO_2.out) (Kd.N_base ho57) hb)
                                    have n4_ := Aside0.mk (Kd.V_elder' (by (with_reducible repeat (first | apply Kd.V_alloc | apply Kd.V_drewN | apply Kd.V_drew)); exact HO155.out) (Kd.N_base ho57) hb)
                                    have n5_ := Aside0.mk (Kd.V_elder' (by (with_reducible repeat (first | apply Kd.V_alloc | apply Kd.V_drewN | apply Kd.V_drew)); exact HO164.out) (Kd.N_base ho57) hb)
                                    have n6_ := Aside0.mk (Kd.V_elder' (by (with_reducible repeat (first | apply Kd.V_alloc | apply Kd.V_drewN | apply Kd.V_drew)); exact HO173.out) (Kd.N_base ho57) hb)
                                    have n7_ := Aside0.mk (Kd.N_lower ho57 (below_size (by repeat (first | (with_reducible first | exact HB.out | apply below_alloc | apply pw_below_drewN | apply below_drew1) | exact HB.out))))
                                    have n8_ := Aside0.mk (below_step (by repeat (first | (with_reducible first | exact HB.out | apply below_alloc | apply pw_below_drewN | apply below_drew1) | exact HB.out)) hb)
                                    have z_HO_14 := fun (h0_ : b 1 = false) => (show Kd.R (Kd.int .u8) 5 w56 w.heap.size (fun k_ => (w.heap.size ≤ k_)) (.slice Ao56 x14_2.length co56) x14_2 from by first | exact (Kd.R_below (by (with_reducible repeat (first | apply Kd.R_alloc | apply Kd.R_drewN | apply Kd.R_drew)); exact (Q_HO_14 h0_)) hb) | exact Kd.R_mono (Kd.R_below (by (with_reducible repeat (first | apply Kd.R_alloc | apply Kd.R_drewN | apply Kd.R_drew)); exact (Q_HO_14 h0_)) hb) (fun _ h_ => by first | trivial | exact h_ | exact h_.1))
                                    have z_HO149 := fun (h0_ : b 1 = true) => (show Kd.N (Kd.slice 5 (Kd.int .u8)) 22 w56 w.heap.size (fun k_ => ((P0_ k_ ∨ P1_ k_ ∨ P2_ k_) ∨ w.heap.size ≤ k_)) v148 y147 from by first | exact (Kd.N_elder' (by (with_reducible repeat (first | apply Kd.N_alloc | apply Kd.N_drewN | apply Kd.N_drew)); exact (Q_HO149 h0_)) (Kd.N_base ho57) hb) | exact Kd.N_mono (Kd.N_elder' (by (with_reducible repeat (first | apply Kd.N_alloc | apply Kd.N_drewN | apply Kd.N_drew)); exact (Q_HO149 h0_)) (Kd.N_base ho57) hb) (fun _ h_ => by first | trivial | exact h_ | exact h_.1))
                                    have z_HO167 := fun (h0_ : b 11 = true) => (show Kd.N (Kd.slice 5 (Kd.int .u8)) 22 w56 w.heap.size (fun k_ => ((P0_ k_ ∨ P1_ k_ ∨ P2_ k_) ∨ w.heap.size ≤ k_)) v166 y165 from by first | exact (Kd.N_elder' (by (with_reducible repeat (first | apply Kd.N_alloc | apply Kd.N_drewN | apply Kd.N_drew)); exact (Q_HO167 h0_)) (Kd.N_base ho57) hb) | exact Kd.N_mono (Kd.N_elder' (by (with_reducible repeat (first | apply Kd.N_alloc | apply Kd.N_drewN | apply Kd.N_drew)); exact (Q_HO167 h0_)) (Kd.N_base ho57) hb) (fun _ h_ => by first | trivial | exact h_ | exact h_.1))
                                    have z_HO176 := fun (h0_ : b 17 = true) => (show Kd.N (Kd.slice 5 (Kd.int .u8)) 22 w56 w.heap.size (fun k_ => ((P0_ k_ ∨ P1_ k_ ∨ P2_ k_) ∨ w.heap.size ≤ k_)) v175 y174 from by first | exact (Kd.N_elder' (by (with_reducible repeat (first | apply Kd.N_alloc | apply Kd.N_drewN | apply Kd.N_drew)); exact (Q_HO176 h0_)) (Kd.N_base ho57) hb) | exact Kd.N_mono (Kd.N_elder' (by (with_reducible repeat (first | apply Kd.N_alloc | apply Kd.N_drewN | apply Kd.N_drew)); exact (Q_HO176 h0_)) (Kd.N_base ho57) hb) (fun _ h_ => by first | trivial | exact h_ | exact h_.1))
                                    clear HO_0
                                    clear HO_1
                                    clear HO_2
                                    clear HO155
                                    clear HO164
                                    clear HO173
                                    clear HB
                                    have HO_0 := n0_
                                    have HO_1 := n1_
                                    have HO_2 := n2_
                                    have HO155 := n4_
                                    have HO164 := n5_
                                    have HO173 := n6_
                                    have HO158 := n7_
                                    have HB := n8_
                                    clear n0_ n1_ n2_ n4_ n5_ n6_ n7_ n8_
                                    clear hb ho57
                                    refine hK.out _ _ ⟨v148, v157, v166, v175, (by rw [ha.out]; exact putSel_upk 3 hb_ rfl rfl rfl), (by (with_reducible repeat (first | apply Kd.V_alloc | apply Kd.V_drewN | apply Kd.V_drew)); first | exact HO_0.out | exact Kd.V_mono HO_0.out (fun _ h_ => by first | trivial | exact h_ | exact h_.1 | exact h_.1.1)), (by (with_reducible repeat (first | apply Kd.V_alloc | apply Kd.V_drewN | apply Kd.V_drew)); first | exact HO_1.out | exact Kd.V_mono HO_1.out (fun _ h_ => by first | trivial | exact h_ | exact h_.1 | exact h_.1.1)), z_HO_14, (by (with_reducible repeat (first | apply Kd.V_alloc | apply Kd.V_drewN | apply Kd.V_drew)); first | exact HO_2.out | exact Kd.V_mono HO_2.out (fun _ h_ => by first | trivial | exact h_ | exact h_.1 | exact h_.1.1)), (by repeat (first | (with_reducible first | exact HB.out | apply below_alloc | apply pw_below_drewN | apply below_drew1) | exact HB.out)), (by (with_reducible repeat (first | apply Kd.V_alloc | apply Kd.V_drewN | apply Kd.V_drew)); first | exact HO155.out | exact Kd.V_mono HO155.out (fun _ h_ => by first | trivial | exact h_ | exact h_.1 | exact h_.1.1)), (by (with_reducible repeat (first | apply Kd.V_alloc | apply Kd.V_drewN | apply Kd.V_drew)); first | exact HO164.out | exact Kd.V_mono HO164.out (fun _ h_ => by first | trivial | exact h_ | exact h_.1 | exact h_.1.1)), (by (with_reducible repeat (first | apply Kd.V_alloc | apply Kd.V_drewN | apply Kd.V_drew)); first | exact HO173.out | exact Kd.V_mono HO173.out (fun _ h_ => by first | trivial | exact h_ | exact h_.1 | exact h_.1.1)), z_HO149, fun _ => (by (with_reducible repeat (first | apply Kd.N_alloc | apply Kd.N_drewN | apply Kd.N_drew)); exact HO158.out), z_HO167, z_HO176⟩
                                  refine steps_cons ?_ ?_
                                  · rintro b a w' ⟨v148, v157, v166, v175, ha, Q_HO_0, Q_HO_1, Q_HO_14, Q_HO_2, Q_HB, Q_HO155, Q_HO164, Q_HO173, Q_HO149, Q_HO158, Q_HO167, Q_HO176⟩ hb_ hon hoff
                                    refine ⟨_, rfl, fun K hK => ?_⟩
                                    have e84 : a.tmps[84]? = some (v157) := by rw [ha]; exact putSel_on (e := (6, 84, v157)) 3 rfl rfl (hon 6 (by kernel_rfl)) rfl
                                    replace ha := Aside0.mk ha
                                    have HO_0 := Aside0.mk Q_HO_0
                                    have HO_1 := Aside0.mk Q_HO_1
                                    have HO_2 := Aside0.mk Q_HO_2
                                    have HB := Aside0.mk Q_HB
                                    have HO155 := Aside0.mk Q_HO155
                                    have HO164 := Aside0.mk Q_HO164
                                    have HO173 := Aside0.mk Q_HO173
                                    have HO149 := Aside0.mk (Q_HO149 (hon 1 (by kernel_rfl)))
                                    have HO158 := Aside0.mk (Q_HO158 (hon 6 (by kernel_rfl)))
                                    obtain ⟨Ao63, co63, eo63⟩ := Kd.N_slice HO158.out
                                    (first | subst eo63 | (injection eo63 with f1_ f2_ f3_; have f4_ := f1_.symm; have f5_ := f3_.symm; clear f1_ f2_ f3_; subst f4_; subst f5_))
                                    refine goes_ Try.func7 (by kernel_rfl) rfl #[.slice Ao63 y156.length co63] (by rfl) rfl rfl (by first | (simp only [List.map_toArray, List.map_cons, List.map_nil, Act.eval, Array.getD_eq_getD_getElem?, Option.getD_some, e84]; done) | (simp only [List.map_toArray, List.map_cons, List.map_nil, Act.eval, Array.getD_eq_getD_getElem?, Option.getD_some, e84]; rfl)) ?_
                                    with_reducible refine (crc_Sum.calls k2 _ _ y156 t159 _ ?side1 ?side2 A43.out).mono ?_
                                    (case side1 => repeat (first | exact (Kd.N_reads' HO158.out).2.2 | (with_reducible refine Kd.C_alloc ?_ _) | (with_reducible refine Kd.C_drewN ?_ _) | (with_reducible refine Kd.C_drew ?_)))
                                    (case side2 => exact (Kd.N_reads' HO158.out).2.1)
                                    rintro e w' ⟨rfl, ⟨nd, rfl⟩⟩
                                    refine ⟨_, rfl, ?_⟩
                                    refine hK.out _ _ ⟨v148, .slice Ao63 y156.length co63, v166, v175, (by rw [ha.out]; exact putSel_upk 4 hb_ rfl rfl rfl), (by (with_reducible repeat (first | apply Kd.V_alloc | apply Kd.V_drewN | apply Kd.V_drew)); exact HO_0.out), (by (with_reducible repeat (first | apply Kd.V_alloc | apply Kd.V_drewN | apply Kd.V_drew)); exact HO_1.out), fun h0_ => absurd ((hon 1 (by kernel_rfl)).symm.trans h0_) (by decide), (by (with_reducible repeat (first | apply Kd.V_alloc | apply Kd.V_drewN | apply Kd.V_drew)); exact HO_2.out), (by repeat (first | (with_reducible first | exact HB.out | apply below_alloc | apply pw_below_drewN | apply below_drew1) | exact HB.out)), (by (with_reducible repeat (first | apply Kd.V_alloc | apply Kd.V_drewN | apply Kd.V_drew)); exact HO155.out), (by (with_reducible repeat (first | apply Kd.V_alloc | apply Kd.V_drewN | apply Kd.V_drew)); exact HO164.out), (by (with_reducible repeat (first | apply Kd.V_alloc | apply Kd.V_drewN | apply Kd.V_drew)); exact HO173.out), fun _ => (by (with_reducible repeat (first | apply Kd.N_alloc | apply Kd.N_drewN | apply Kd.N_drew)); exact HO149.out), fun _ => (by (with_reducible repeat (first | apply Kd.N_alloc | apply Kd.N_drewN | apply Kd.N_drew)); exact HO158.out), fun h0_ => (by (with_reducible repeat (first | apply Kd.N_alloc | apply Kd.N_drewN | apply Kd.N_drew)); exact (Q_HO167 h0_)), fun h0_ => (by (with_reducible repeat (first | apply Kd.N_alloc | apply Kd.N_drewN | apply Kd.N_drew)); exact (Q_HO176 h0_))⟩
                                  refine steps_cons ?_ ?_
                                  · rintro b a w' ⟨v148, v157, v166, v175, ha, Q_HO_0, Q_HO_1, Q_HO_14, Q_HO_2, Q_HB, Q_HO155, Q_HO164, Q_HO173, Q_HO149, Q_HO158, Q_HO167, Q_HO176⟩ hb_ hon hoff
                                    refine ⟨_, rfl, fun K hK => ?_⟩
                                    have e86 : a.tmps[86]? = some (.slice A1 l1.length c1) := by rw [ha]; exact (putSel_off rfl).trans rfl
                                    have e87 : a.tmps[87]? = some (.int .i64 ji20) := by rw [ha]; exact (putSel_off rfl).trans rfl
                                    replace ha := Aside0.mk ha
                                    have HO_0 := Aside0.mk Q_HO_0
                                    have HO_1 := Aside0.mk Q_HO_1
                                    have HO_2 := Aside0.mk Q_HO_2
                                    have HB := Aside0.mk Q_HB
                                    have HO155 := Aside0.mk Q_HO155
                                    have HO164 := Aside0.mk Q_HO164
                                    have HO173 := Aside0.mk Q_HO173
                                    refine value_ (w1 := w') (v := .slice A1 y160.length c1) (by rfl) rfl ?_ ?_
                                    · go_simp
                                      (try simp only [i64_w])
                                      try rfl
                                    refine hK.out _ _ ⟨v148, v157, v166, v175, (by rw [ha.out]; exact putSel_upk 5 hb_ rfl rfl rfl), Q_HO_0, Q_HO_1, Q_HO_14, Q_HO_2, Q_HB, Q_HO155, Q_HO164, Q_HO173, Q_HO149, Q_HO158, fun h0_ => absurd ((hoff 11 (by kernel_rfl)).symm.trans h0_) (by decide), Q_HO176⟩
                                  refine steps_cons ?_ ?_
                                  · rintro b a w' ⟨v148, v157, v166, v175, ha, Q_HO_0, Q_HO_1, Q_HO_14, Q_HO_2, Q_HB, Q_HO155, Q_HO164, Q_HO173, Q_HO149, Q_HO158, Q_HO167, Q_HO176⟩ hb_ hon hoff
                                    refine ⟨_, rfl, fun K hK => ?_⟩
                                    have e88 : a.tmps[88]? = some (.slice A1 y160.length c1) := by rw [ha]; exact putSel_on (e := (10, 88, .slice A1 y160.length c1)) 5 rfl rfl (hon 10 (by kernel_rfl)) rfl
                                    replace ha := Aside0.mk ha
                                    have HO_0 := Aside0.mk Q_HO_0
                                    have HO_1 := Aside0.mk Q_HO_1
                                    have HO_2 := Aside0.mk Q_HO_2
                                    have HB := Aside0.mk Q_HB
                                    have HO155 := Aside0.mk Q_HO155
                                    have HO164 := Aside0.mk Q_HO164
                                    have HO173 := Aside0.mk Q_HO173
                                    refine Kd.N_lit_step (Kd.slice 5 (Kd.int .u8)) _ 22 ?hg (N' := 89) ?hd (xs := ([y160] : List (List Int))) (inner := [.slice A1 y160.length c1]) (ok := (fun k_ => ((P0_ k_ ∨ P1_ k_ ∨ P2_ k_) ∨ w.heap.size ≤ k_))) (okp := (fun k_ => ((P0_ k_ ∨ P1_ k_ ∨ P2_ k_) ∨ w.heap.size ≤ k_))) ?hr ?hp (fun _ hk => hk) ((show ∀ k_, w'.heap.size ≤ k_ → (fun k_ => ((P0_ k_ ∨ P1_ k_ ∨ P2_ k_) ∨ w.heap.size ≤ k_)) k_ from fun k_ hk => (.inr (Nat.le_trans (below_size (by repeat (first | (with_reducible first | exact HB.out | apply below_alloc | apply pw_below_drewN | apply below_drew1) | exact HB.out))) hk))) _ (Nat.le_refl _)) (Below.refl _ _) (Nat.le_refl _) (by simp) ?_; (case hd => rfl); (case hg => rfl); (case hr => first | (go_simp; done) | (go_simp; rfl)); (case hp => exact (Reps.one (show Kd.FK (Kd.slice 5 (Kd.int .u8)) _ _ y160 [.slice A1 y160.length c1] from (Kd.FK_slice_mk (Kd.V_reads' (Kd.V_mono (e := 5) (base := w.heap.size) (ok' := (fun k_ => ((P0_ k_ ∨ P1_ k_ ∨ P2_ k_) ∨ w.heap.size ≤ k_))) (HO164.out) (fun _ h_ => by first | trivial | exact h_ | exact h_.1 | exact h_.1.1))).2.1 (Kd.V_F (Kd.V_mono (e := 5) (base := w.heap.size) (ok' := (fun k_ => ((P0_ k_ ∨ P1_ k_ ∨ P2_ k_) ∨ w.heap.size ≤ k_))) (HO164.out) (fun _ h_ => by first | trivial | exact h_ | exact h_.1 | exact h_.1.1))))) (Reps.none _ _)))
                                    intro v166 w56 ho57 hb hg_ hnew_
                                    clear hg_ hnew_
                                    (first | rw [← Ny165.out] at ho57 | (simp only [Int.reduceToNat] at ho57; rw [← Ny165.out] at ho57))
                                    have n0_ := Aside0.mk (Kd.V_elder' (by (with_reducible repeat (first | apply Kd.V_alloc | apply Kd.V_drewN | apply Kd.V_drew)); exact HO_0.out) (Kd.N_base ho57) hb)
                                    have n1_ := Aside0.mk (Kd.V_elder' (by (with_reducible repeat (first | apply Kd.V_alloc | apply Kd.V_drewN | apply Kd.V_drew)); exact HO_1.out) (Kd.N_base ho57) hb)
                                    have n2_ := Aside0.mk (Kd.V_elder' (by (with_reducible repeat (first | apply Kd.V_alloc | apply Kd.V_drewN | apply Kd.V_drew)); exact HO_2.out) (Kd.N_base ho57) hb)
                                    have n4_ := Aside0.mk (Kd.V_elder' (by (with_reducible repeat (first | apply Kd.V_alloc | apply Kd.V_drewN | apply Kd.V_drew)); exact HO155.out) (Kd.N_base ho57) hb)
                                    have n5_ := Aside0.mk (Kd.V_elder' (by (with_reducible repeat (first | apply Kd.V_alloc | apply Kd.V_drewN | apply Kd.V_drew)); exact HO164.out) (Kd.N_base ho57) hb)
                                    have n6_ := Aside0.mk (Kd.V_elder' (by (with_reducible repeat (first | apply Kd.V_alloc | apply Kd.V_drewN | apply Kd.V_drew)); exact HO173.out) (Kd.N_base ho57) hb)
                                    have n7_ := Aside0.mk (Kd.N_lower ho57 (below_size (by repeat (first | (with_reducible first | exact HB.out | apply below_alloc | apply pw_below_drewN | apply below_drew1) | exact HB.out))))
                                    have n8_ := Aside0.mk (below_step (by repeat (first | (with_reducible first | exact HB.out | apply below_alloc | apply pw_below_drewN | apply below_drew1) | exact HB.out)) hb)
                                    have z_HO_14 := fun (h0_ : b 1 = false) => (show Kd.R (Kd.int .u8) 5 w56 w.heap.size (fun k_ => (w.heap.size ≤ k_)) (.slice Ao56 x14_2.length co56) x14_2 from by first | exact (Kd.R_below (by (with_reducible repeat (first | apply Kd.R_alloc | apply Kd.R_drewN | apply Kd.R_drew)); exact (Q_HO_14 h0_)) hb) | exact Kd.R_mono (Kd.R_below (by (with_reducible repeat (first | apply Kd.R_alloc | apply Kd.R_drewN | apply Kd.R_drew)); exact (Q_HO_14 h0_)) hb) (fun _ h_ => by first | trivial | exact h_ | exact h_.1))
                                    have z_HO149 := fun (h0_ : b 1 = true) => (show Kd.N (Kd.slice 5 (Kd.int .u8)) 22 w56 w.heap.size (fun k_ => ((P0_ k_ ∨ P1_ k_ ∨ P2_ k_) ∨ w.heap.size ≤ k_)) v148 y147 from by first | exact (Kd.N_elder' (by (with_reducible repeat (first | apply Kd.N_alloc | apply Kd.N_drewN | apply Kd.N_drew)); exact (Q_HO149 h0_)) (Kd.N_base ho57) hb) | exact Kd.N_mono (Kd.N_elder' (by (with_reducible repeat (first | apply Kd.N_alloc | apply Kd.N_drewN | apply Kd.N_drew)); exact (Q_HO149 h0_)) (Kd.N_base ho57) hb) (fun _ h_ => by first | trivial | exact h_ | exact h_.1))
                                    have z_HO158 := fun (h0_ : b 6 = true) => (show Kd.N (Kd.slice 5 (Kd.int .u8)) 22 w56 w.heap.size (fun k_ => ((P0_ k_ ∨ P1_ k_ ∨ P2_ k_) ∨ w.heap.size ≤ k_)) v157 y156 from by first | exact (Kd.N_elder' (by (with_reducible repeat (first | apply Kd.N_alloc | apply Kd.N_drewN | apply Kd.N_drew)); exact (Q_HO158 h0_)) (Kd.N_base ho57) hb) | exact Kd.N_mono (Kd.N_elder' (by (with_reducible repeat (first | apply Kd.N_alloc | apply Kd.N_drewN | apply Kd.N_drew)); exact (Q_HO158 h0_)) (Kd.N_base ho57) hb) (fun _ h_ => by first | trivial | exact h_ | exact h_.1))
                                    have z_HO176 := fun (h0_ : b 17 = true) => (show Kd.N (Kd.slice 5 (Kd.int .u8)) 22 w56 w.heap.size (fun k_ => ((P0_ k_ ∨ P1_ k_ ∨ P2_ k_) ∨ w.heap.size ≤ k_)) v175 y174 from by first | exact (Kd.N_elder' (by (with_reducible repeat (first | apply Kd.N_alloc | apply Kd.N_drewN | apply Kd.N_drew)); exact (Q_HO176 h0_)) (Kd.N_base ho57) hb) | exact Kd.N_mono (Kd.N_elder' (by (with_reducible repeat (first | apply Kd.N_alloc | apply Kd.N_drewN | apply Kd.N_drew)); exact (Q_HO176 h0_)) (Kd.N_base ho57) hb) (fun _ h_ => by first | trivial | exact h_ | exact h_.1))
                                    clear HO_0
                                    clear HO_1
                                    clear HO_2
                                    clear HO155
                                    clear HO164
                                    clear HO173
                                    clear HB
                                    have HO_0 := n0_
                                    have HO_1 := n1_
                                    have HO_2 := n2_
                                    have HO155 := n4_
                                    have HO164 := n5_
                                    have HO173 := n6_
                                    have HO167 := n7_
                                    have HB := n8_
                                    clear n0_ n1_ n2_ n4_ n5_ n6_ n7_ n8_
                                    clear hb ho57
                                    refine hK.out _ _ ⟨v148, v157, v166, v175, (by rw [ha.out]; exact putSel_upk 6 hb_ rfl rfl rfl), (by (with_reducible repeat (first | apply Kd.V_alloc | apply Kd.V_drewN | apply Kd.V_drew)); first | exact HO_0.out | exact Kd.V_mono HO_0.out (fun _ h_ => by first | trivial | exact h_ | exact h_.1 | exact h_.1.1)), (by (with_reducible repeat (first | apply Kd.V_alloc | apply Kd.V_drewN | apply Kd.V_drew)); first | exact HO_1.out | exact Kd.V_mono HO_1.out (fun _ h_ => by first | trivial | exact h_ | exact h_.1 | exact h_.1.1)), z_HO_14, (by (with_reducible repeat (first | apply Kd.V_alloc | apply Kd.V_drewN | apply Kd.V_drew)); first | exact HO_2.out | exact Kd.V_mono HO_2.out (fun _ h_ => by first | trivial | exact h_ | exact h_.1 | exact h_.1.1)), (by repeat (first | (with_reducible first | exact HB.out | apply below_alloc | apply pw_below_drewN | apply below_drew1) | exact HB.out)), (by (with_reducible repeat (first | apply Kd.V_alloc | apply Kd.V_drewN | apply Kd.V_drew)); first | exact HO155.out | exact Kd.V_mono HO155.out (fun _ h_ => by first | trivial | exact h_ | exact h_.1 | exact h_.1.1)), (by (with_reducible repeat (first | apply Kd.V_alloc | apply Kd.V_drewN | apply Kd.V_drew)); first | exact HO164.out | exact Kd.V_mono HO164.out (fun _ h_ => by first | trivial | exact h_ | exact h_.1 | exact h_.1.1)), (by (with_reducible repeat (first | apply Kd.V_alloc | apply Kd.V_drewN | apply Kd.V_drew)); first | exact HO173.out | exact Kd.V_mono HO173.out (fun _ h_ => by first | trivial | exact h_ | exact h_.1 | exact h_.1.1)), z_HO149, z_HO158, fun _ => (by (with_reducible repeat (first | apply Kd.N_alloc | apply Kd.N_drewN | apply Kd.N_drew)); exact HO167.out), z_HO176⟩
                                  refine steps_cons ?_ ?_
                                  · rintro b a w' ⟨v148, v157, v166, v175, ha, Q_HO_0, Q_HO_1, Q_HO_14, Q_HO_2, Q_HB, Q_HO155, Q_HO164, Q_HO173, Q_HO149, Q_HO158, Q_HO167, Q_HO176⟩ hb_ hon hoff
                                    refine ⟨_, rfl, fun K hK => ?_⟩
                                    have e89 : a.tmps[89]? = some (v166) := by rw [ha]; exact putSel_on (e := (11, 89, v166)) 6 rfl rfl (hon 11 (by kernel_rfl)) rfl
                                    replace ha := Aside0.mk ha
                                    have HO_0 := Aside0.mk Q_HO_0
                                    have HO_1 := Aside0.mk Q_HO_1
                                    have HO_2 := Aside0.mk Q_HO_2
                                    have HB := Aside0.mk Q_HB
                                    have HO155 := Aside0.mk Q_HO155
                                    have HO164 := Aside0.mk Q_HO164
                                    have HO173 := Aside0.mk Q_HO173
                                    have HO149 := Aside0.mk (Q_HO149 (hon 1 (by kernel_rfl)))
                                    have HO158 := Aside0.mk (Q_HO158 (hon 6 (by kernel_rfl)))
                                    have HO167 := Aside0.mk (Q_HO167 (hon 11 (by kernel_rfl)))
                                    obtain ⟨Ao66, co66, eo66⟩ := Kd.N_slice HO167.out
                                    (first | subst eo66 | (injection eo66 with f1_ f2_ f3_; have f4_ := f1_.symm; have f5_ := f3_.symm; clear f1_ f2_ f3_; subst f4_; subst f5_))
                                    refine goes_ Try.func7 (by kernel_rfl) rfl #[.slice Ao66 y165.length co66] (by rfl) rfl rfl (by first | (simp only [List.map_toArray, List.map_cons, List.map_nil, Act.eval, Array.getD_eq_getD_getElem?, Option.getD_some, e89]; done) | (simp only [List.map_toArray, List.map_cons, List.map_nil, Act.eval, Array.getD_eq_getD_getElem?, Option.getD_some, e89]; rfl)) ?_
                                    with_reducible refine (crc_Sum.calls k2 _ _ y165 t168 _ ?side1 ?side2 A46.out).mono ?_
                                    (case side1 => repeat (first | exact (Kd.N_reads' HO167.out).2.2 | (with_reducible refine Kd.C_alloc ?_ _) | (with_reducible refine Kd.C_drewN ?_ _) | (with_reducible refine Kd.C_drew ?_)))
                                    (case side2 => exact (Kd.N_reads' HO167.out).2.1)
                                    rintro e w' ⟨rfl, ⟨nd, rfl⟩⟩
                                    refine ⟨_, rfl, ?_⟩
                                    refine hK.out _ _ ⟨v148, v157, .slice Ao66 y165.length co66, v175, (by rw [ha.out]; exact putSel_upk 7 hb_ rfl rfl rfl), (by (with_reducible repeat (first | apply Kd.V_alloc | apply Kd.V_drewN | apply Kd.V_drew)); exact HO_0.out), (by (with_reducible repeat (first | apply Kd.V_alloc | apply Kd.V_drewN | apply Kd.V_drew)); exact HO_1.out), fun h0_ => absurd ((hon 1 (by kernel_rfl)).symm.trans h0_) (by decide), (by (with_reducible repeat (first | apply Kd.V_alloc | apply Kd.V_drewN | apply Kd.V_drew)); exact HO_2.out), (by repeat (first | (with_reducible first | exact HB.out | apply below_alloc | apply pw_below_drewN | apply below_drew1) | exact HB.out)), (by (with_reducible repeat (first | apply Kd.V_alloc | apply Kd.V_drewN | apply Kd.V_drew)); exact HO155.out), (by (with_reducible repeat (first | apply Kd.V_alloc | apply Kd.V_drewN | apply Kd.V_drew)); exact HO164.out), (by (with_reducible repeat (first | apply Kd.V_alloc | apply Kd.V_drewN | apply Kd.V_drew)); exact HO173.out), fun _ => (by (with_reducible repeat (first | apply Kd.N_alloc | apply Kd.N_drewN | apply Kd.N_drew)); exact HO149.out), fun _ => (by (with_reducible repeat (first | apply Kd.N_alloc | apply Kd.N_drewN | apply Kd.N_drew)); exact HO158.out), fun _ => (by (with_reducible repeat (first | apply Kd.N_alloc | apply Kd.N_drewN | apply Kd.N_drew)); exact HO167.out), fun h0_ => (by (with_reducible repeat (first | apply Kd.N_alloc | apply Kd.N_drewN | apply Kd.N_drew)); exact (Q_HO176 h0_))⟩
                                  refine steps_cons ?_ ?_
                                  · rintro b a w' ⟨v148, v157, v166, v175, ha, Q_HO_0, Q_HO_1, Q_HO_14, Q_HO_2, Q_HB, Q_HO155, Q_HO164, Q_HO173, Q_HO149, Q_HO158, Q_HO167, Q_HO176⟩ hb_ hon hoff
                                    refine ⟨_, rfl, fun K hK => ?_⟩
                                    have e85 : a.tmps[85]? = some (.int .u32 t159) := by rw [ha]; exact putSel_on (e := (7, 85, .int .u32 t159)) 4 rfl rfl (hon 7 (by kernel_rfl)) rfl
                                    have e90 : a.tmps[90]? = some (.int .u32 t168) := by rw [ha]; exact putSel_on (e := (12, 90, .int .u32 t168)) 7 rfl rfl (hon 12 (by kernel_rfl)) rfl
                                    replace ha := Aside0.mk ha
                                    have HO_0 := Aside0.mk Q_HO_0
                                    have HO_1 := Aside0.mk Q_HO_1
                                    have HO_2 := Aside0.mk Q_HO_2
                                    have HB := Aside0.mk Q_HB
                                    have HO155 := Aside0.mk Q_HO155
                                    have HO164 := Aside0.mk Q_HO164
                                    have HO173 := Aside0.mk Q_HO173
                                    have HO149 := Aside0.mk (Q_HO149 (hon 1 (by kernel_rfl)))
                                    have HO158 := Aside0.mk (Q_HO158 (hon 6 (by kernel_rfl)))
                                    have HO167 := Aside0.mk (Q_HO167 (hon 11 (by kernel_rfl)))
                                    refine value_ (w1 := w') (v := .int .u32 (Go.bits .xor .u32 t159 t168)) (by rfl) rfl ?_ ?_
                                    · go_simp
                                      (try simp only [i64_w])
                                      try rfl
                                    refine hK.out _ _ ⟨v148, v157, v166, v175, (by rw [ha.out]; exact putSel_upk 8 hb_ rfl rfl rfl), Q_HO_0, Q_HO_1, fun h0_ => absurd ((hon 1 (by kernel_rfl)).symm.trans h0_) (by decide), Q_HO_2, Q_HB, Q_HO155, Q_HO164, Q_HO173, Q_HO149, Q_HO158, Q_HO167, Q_HO176⟩
                                  refine steps_cons ?_ ?_
                                  · rintro b a w' ⟨v148, v157, v166, v175, ha, Q_HO_0, Q_HO_1, Q_HO_14, Q_HO_2, Q_HB, Q_HO155, Q_HO164, Q_HO173, Q_HO149, Q_HO158, Q_HO167, Q_HO176⟩ hb_ hon hoff
                                    refine ⟨_, rfl, fun K hK => ?_⟩
                                    have e92 : a.tmps[92]? = some (.slice A2 l2.length c2) := by rw [ha]; exact (putSel_off rfl).trans rfl
                                    have e93 : a.tmps[93]? = some (.int .i64 ji20) := by rw [ha]; exact (putSel_off rfl).trans rfl
                                    replace ha := Aside0.mk ha
                                    have HO_0 := Aside0.mk Q_HO_0
                                    have HO_1 := Aside0.mk Q_HO_1
                                    have HO_2 := Aside0.mk Q_HO_2
                                    have HB := Aside0.mk Q_HB
                                    have HO155 := Aside0.mk Q_HO155
                                    have HO164 := Aside0.mk Q_HO164
                                    have HO173 := Aside0.mk Q_HO173
                                    refine value_ (w1 := w') (v := .slice A2 y169.length c2) (by rfl) rfl ?_ ?_
                                    · go_simp
                                      (try simp only [i64_w])
                                      try rfl
                                    refine hK.out _ _ ⟨v148, v157, v166, v175, (by rw [ha.out]; exact putSel_upk 9 hb_ rfl rfl rfl), Q_HO_0, Q_HO_1, Q_HO_14, Q_HO_2, Q_HB, Q_HO155, Q_HO164, Q_HO173, Q_HO149, Q_HO158, Q_HO167, fun h0_ => absurd ((hoff 17 (by kernel_rfl)).symm.trans h0_) (by decide)⟩
                                  refine steps_cons ?_ ?_
                                  · rintro b a w' ⟨v148, v157, v166, v175, ha, Q_HO_0, Q_HO_1, Q_HO_14, Q_HO_2, Q_HB, Q_HO155, Q_HO164, Q_HO173, Q_HO149, Q_HO158, Q_HO167, Q_HO176⟩ hb_ hon hoff
                                    refine ⟨_, rfl, fun K hK => ?_⟩
                                    have e94 : a.tmps[94]? = some (.slice A2 y169.length c2) := by rw [ha]; exact putSel_on (e := (16, 94, .slice A2 y169.length c2)) 9 rfl rfl (hon 16 (by kernel_rfl)) rfl
                                    replace ha := Aside0.mk ha
                                    have HO_0 := Aside0.mk Q_HO_0
                                    have HO_1 := Aside0.mk Q_HO_1
                                    have HO_2 := Aside0.mk Q_HO_2
                                    have HB := Aside0.mk Q_HB
                                    have HO155 := Aside0.mk Q_HO155
                                    have HO164 := Aside0.mk Q_HO164
                                    have HO173 := Aside0.mk Q_HO173
                                    refine Kd.N_lit_step (Kd.slice 5 (Kd.int .u8)) _ 22 ?hg (N' := 95) ?hd (xs := ([y169] : List (List Int))) (inner := [.slice A2 y169.length c2]) (ok := (fun k_ => ((P0_ k_ ∨ P1_ k_ ∨ P2_ k_) ∨ w.heap.size ≤ k_))) (okp := (fun k_ => ((P0_ k_ ∨ P1_ k_ ∨ P2_ k_) ∨ w.heap.size ≤ k_))) ?hr ?hp (fun _ hk => hk) ((show ∀ k_, w'.heap.size ≤ k_ → (fun k_ => ((P0_ k_ ∨ P1_ k_ ∨ P2_ k_) ∨ w.heap.size ≤ k_)) k_ from fun k_ hk => (.inr (Nat.le_trans (below_size (by repeat (first | (with_reducible first | exact HB.out | apply below_alloc | apply pw_below_drewN | apply below_drew1) | exact HB.out))) hk))) _ (Nat.le_refl _)) (Below.refl _ _) (Nat.le_refl _) (by simp) ?_; (case hd => rfl); (case hg => rfl); (case hr => first | (go_simp; done) | (go_simp; rfl)); (case hp => exact (Reps.one (show Kd.FK (Kd.slice 5 (Kd.int .u8)) _ _ y169 [.slice A2 y169.length c2] from (Kd.FK_slice_mk (Kd.V_reads' (Kd.V_mono (e := 5) (base := w.heap.size) (ok' := (fun k_ => ((P0_ k_ ∨ P1_ k_ ∨ P2_ k_) ∨ w.heap.size ≤ k_))) (HO173.out) (fun _ h_ => by first | trivial | exact h_ | exact h_.1 | exact h_.1.1))).2.1 (Kd.V_F (Kd.V_mono (e := 5) (base := w.heap.size) (ok' := (fun k_ => ((P0_ k_ ∨ P1_ k_ ∨ P2_ k_) ∨ w.heap.size ≤ k_))) (HO173.out) (fun _ h_ => by first | trivial | exact h_ | exact h_.1 | exact h_.1.1))))) (Reps.none _ _)))
                                    intro v175 w56 ho57 hb hg_ hnew_
                                    clear hg_ hnew_
                                    (first | rw [← Ny174.out] at ho57 | (simp only [Int.reduceToNat] at ho57; rw [← Ny174.out] at ho57))
                                    have n0_ := Aside0.mk (Kd.V_elder' (by (with_reducible repeat (first | apply Kd.V_alloc | apply Kd.V_drewN | apply Kd.V_drew)); exact HO_0.out) (Kd.N_base ho57) hb)
                                    have n1_ := Aside0.mk (Kd.V_elder' (by (with_reducible repeat (first | apply Kd.V_alloc | apply Kd.V_drewN | apply Kd.V_drew)); exact HO_1.out) (Kd.N_base ho57) hb)
                                    have n2_ := Aside0.mk (Kd.V_elder' (by (with_reducible repeat (first | apply Kd.V_alloc | apply Kd.V_drewN | apply Kd.V_drew)); exact HO_2.out) (Kd.N_base ho57) hb)
                                    have n4_ := Aside0.mk (Kd.V_elder' (by (with_reducible repeat (first | apply Kd.V_alloc | apply Kd.V_drewN | apply Kd.V_drew)); exact HO155.out) (Kd.N_base ho57) hb)
                                    have n5_ := Aside0.mk (Kd.V_elder' (by (with_reducible repeat (first | apply Kd.V_alloc | apply Kd.V_drewN | apply Kd.V_drew)); exact HO164.out) (Kd.N_base ho57) hb)
                                    have n6_ := Aside0.mk (Kd.V_elder' (by (with_reducible repeat (first | apply Kd.V_alloc | apply Kd.V_drewN | apply Kd.V_drew)); exact HO173.out) (Kd.N_base ho57) hb)
                                    have n7_ := Aside0.mk (Kd.N_lower ho57 (below_size (by repeat (first | (with_reducible first | exact HB.out | apply below_alloc | apply pw_below_drewN | apply below_drew1) | exact HB.out))))
                                    have n8_ := Aside0.mk (below_step (by repeat (first | (with_reducible first | exact HB.out | apply below_alloc | apply pw_below_drewN | apply below_drew1) | exact HB.out)) hb)
                                    have z_HO_14 := fun (h0_ : b 1 = false) => (show Kd.R (Kd.int .u8) 5 w56 w.heap.size (fun k_ => (w.heap.size ≤ k_)) (.slice Ao56 x14_2.length co56) x14_2 from by first | exact (Kd.R_below (by (with_reducible repeat (first | apply Kd.R_alloc | apply Kd.R_drewN | apply Kd.R_drew)); exact (Q_HO_14 h0_)) hb) | exact Kd.R_mono (Kd.R_below (by (with_reducible repeat (first | apply Kd.R_alloc | apply Kd.R_drewN | apply Kd.R_drew)); exact (Q_HO_14 h0_)) hb) (fun _ h_ => by first | trivial | exact h_ | exact h_.1))
                                    have z_HO149 := fun (h0_ : b 1 = true) => (show Kd.N (Kd.slice 5 (Kd.int .u8)) 22 w56 w.heap.size (fun k_ => ((P0_ k_ ∨ P1_ k_ ∨ P2_ k_) ∨ w.heap.size ≤ k_)) v148 y147 from by first | exact (Kd.N_elder' (by (with_reducible repeat (first | apply Kd.N_alloc | apply Kd.N_drewN | apply Kd.N_drew)); exact (Q_HO149 h0_)) (Kd.N_base ho57) hb) | exact Kd.N_mono (Kd.N_elder' (by (with_reducible repeat (first | apply Kd.N_alloc | apply Kd.N_drewN | apply Kd.N_drew)); exact (Q_HO149 h0_)) (Kd.N_base ho57) hb) (fun _ h_ => by first | trivial | exact h_ | exact h_.1))
                                    have z_HO158 := fun (h0_ : b 6 = true) => (show Kd.N (Kd.slice 5 (Kd.int .u8)) 22 w56 w.heap.size (fun k_ => ((P0_ k_ ∨ P1_ k_ ∨ P2_ k_) ∨ w.heap.size ≤ k_)) v157 y156 from by first | exact (Kd.N_elder' (by (with_reducible repeat (first | apply Kd.N_alloc | apply Kd.N_drewN | apply Kd.N_drew)); exact (Q_HO158 h0_)) (Kd.N_base ho57) hb) | exact Kd.N_mono (Kd.N_elder' (by (with_reducible repeat (first | apply Kd.N_alloc | apply Kd.N_drewN | apply Kd.N_drew)); exact (Q_HO158 h0_)) (Kd.N_base ho57) hb) (fun _ h_ => by first | trivial | exact h_ | exact h_.1))
                                    have z_HO167 := fun (h0_ : b 11 = true) => (show Kd.N (Kd.slice 5 (Kd.int .u8)) 22 w56 w.heap.size (fun k_ => ((P0_ k_ ∨ P1_ k_ ∨ P2_ k_) ∨ w.heap.size ≤ k_)) v166 y165 from by first | exact (Kd.N_elder' (by (with_reducible repeat (first | apply Kd.N_alloc | apply Kd.N_drewN | apply Kd.N_drew)); exact (Q_HO167 h0_)) (Kd.N_base ho57) hb) | exact Kd.N_mono (Kd.N_elder' (by (with_reducible repeat (first | apply Kd.N_alloc | apply Kd.N_drewN | apply Kd.N_drew)); exact (Q_HO167 h0_)) (Kd.N_base ho57) hb) (fun _ h_ => by first | trivial | exact h_ | exact h_.1))
                                    clear HO_0
                                    clear HO_1
                                    clear HO_2
                                    clear HO155
                                    clear HO164
                                    clear HO173
                                    clear HB
                                    have HO_0 := n0_
                                    have HO_1 := n1_
                                    have HO_2 := n2_
                                    have HO155 := n4_
                                    have HO164 := n5_
                                    have HO173 := n6_
                                    have HO176 := n7_
                                    have HB := n8_
                                    clear n0_ n1_ n2_ n4_ n5_ n6_ n7_ n8_
                                    clear hb ho57
                                    refine hK.out _ _ ⟨v148, v157, v166, v175, (by rw [ha.out]; exact putSel_upk 10 hb_ rfl rfl rfl), (by (with_reducible repeat (first | apply Kd.V_alloc | apply Kd.V_drewN | apply Kd.V_drew)); first | exact HO_0.out | exact Kd.V_mono HO_0.out (fun _ h_ => by first | trivial | exact h_ | exact h_.1 | exact h_.1.1)), (by (with_reducible repeat (first | apply Kd.V_alloc | apply Kd.V_drewN | apply Kd.V_drew)); first | exact HO_1.out | exact Kd.V_mono HO_1.out (fun _ h_ => by first | trivial | exact h_ | exact h_.1 | exact h_.1.1)), z_HO_14, (by (with_reducible repeat (first | apply Kd.V_alloc | apply Kd.V_drewN | apply Kd.V_drew)); first | exact HO_2.out | exact Kd.V_mono HO_2.out (fun _ h_ => by first | trivial | exact h_ | exact h_.1 | exact h_.1.1)), (by repeat (first | (with_reducible first | exact HB.out | apply below_alloc | apply pw_below_drewN | apply below_drew1) | exact HB.out)), (by (with_reducible repeat (first | apply Kd.V_alloc | apply Kd.V_drewN | apply Kd.V_drew)); first | exact HO155.out | exact Kd.V_mono HO155.out (fun _ h_ => by first | trivial | exact h_ | exact h_.1 | exact h_.1.1)), (by (with_reducible repeat (first | apply Kd.V_alloc | apply Kd.V_drewN | apply Kd.V_drew)); first | exact HO164.out | exact Kd.V_mono HO164.out (fun _ h_ => by first | trivial | exact h_ | exact h_.1 | exact h_.1.1)), (by (with_reducible repeat (first | apply Kd.V_alloc | apply Kd.V_drewN | apply Kd.V_drew)); first | exact HO173.out | exact Kd.V_mono HO173.out (fun _ h_ => by first | trivial | exact h_ | exact h_.1 | exact h_.1.1)), z_HO149, z_HO158, z_HO167, fun _ => (by (with_reducible repeat (first | apply Kd.N_alloc | apply Kd.N_drewN | apply Kd.N_drew)); exact HO176.out)⟩
                                  refine steps_cons ?_ ?_
                                  · rintro b a w' ⟨v148, v157, v166, v175, ha, Q_HO_0, Q_HO_1, Q_HO_14, Q_HO_2, Q_HB, Q_HO155, Q_HO164, Q_HO173, Q_HO149, Q_HO158, Q_HO167, Q_HO176⟩ hb_ hon hoff
                                    refine ⟨_, rfl, fun K hK => ?_⟩
                                    have e95 : a.tmps[95]? = some (v175) := by rw [ha]; exact putSel_on (e := (17, 95, v175)) 10 rfl rfl (hon 17 (by kernel_rfl)) rfl
                                    replace ha := Aside0.mk ha
                                    have HO_0 := Aside0.mk Q_HO_0
                                    have HO_1 := Aside0.mk Q_HO_1
                                    have HO_2 := Aside0.mk Q_HO_2
                                    have HB := Aside0.mk Q_HB
                                    have HO155 := Aside0.mk Q_HO155
                                    have HO164 := Aside0.mk Q_HO164
                                    have HO173 := Aside0.mk Q_HO173
                                    have HO149 := Aside0.mk (Q_HO149 (hon 1 (by kernel_rfl)))
                                    have HO158 := Aside0.mk (Q_HO158 (hon 6 (by kernel_rfl)))
                                    have HO167 := Aside0.mk (Q_HO167 (hon 11 (by kernel_rfl)))
                                    have HO176 := Aside0.mk (Q_HO176 (hon 17 (by kernel_rfl)))
                                    obtain ⟨Ao69, co69, eo69⟩ := Kd.N_slice HO176.out
                                    (first | subst eo69 | (injection eo69 with f1_ f2_ f3_; have f4_ := f1_.symm; have f5_ := f3_.symm; clear f1_ f2_ f3_; subst f4_; subst f5_))
                                    refine goes_ Try.func7 (by kernel_rfl) rfl #[.slice Ao69 y174.length co69] (by rfl) rfl rfl (by first | (simp only [List.map_toArray, List.map_cons, List.map_nil, Act.eval, Array.getD_eq_getD_getElem?, Option.getD_some, e95]; done) | (simp only [List.map_toArray, List.map_cons, List.map_nil, Act.eval, Array.getD_eq_getD_getElem?, Option.getD_some, e95]; rfl)) ?_
                                    with_reducible refine (crc_Sum.calls k2 _ _ y174 t177 _ ?side1 ?side2 A49.out).mono ?_
                                    (case side1 => repeat (first | exact (Kd.N_reads' HO176.out).2.2 | (with_reducible refine Kd.C_alloc ?_ _) | (with_reducible refine Kd.C_drewN ?_ _) | (with_reducible refine Kd.C_drew ?_)))
                                    (case side2 => exact (Kd.N_reads' HO176.out).2.1)
                                    rintro e w' ⟨rfl, ⟨nd, rfl⟩⟩
                                    refine ⟨_, rfl, ?_⟩
                                    refine hK.out _ _ ⟨v148, v157, v166, .slice Ao69 y174.length co69, (by rw [ha.out]; exact putSel_upk 11 hb_ rfl rfl rfl), (by (with_reducible repeat (first | apply Kd.V_alloc | apply Kd.V_drewN | apply Kd.V_drew)); exact HO_0.out), (by (with_reducible repeat (first | apply Kd.V_alloc | apply Kd.V_drewN | apply Kd.V_drew)); exact HO_1.out), fun h0_ => absurd ((hon 1 (by kernel_rfl)).symm.trans h0_) (by decide), (by (with_reducible repeat (first | apply Kd.V_alloc | apply Kd.V_drewN | apply Kd.V_drew)); exact HO_2.out), (by repeat (first | (with_reducible first | exact HB.out | apply below_alloc | apply pw_below_drewN | apply below_drew1) | exact HB.out)), (by (with_reducible repeat (first | apply Kd.V_alloc | apply Kd.V_drewN | apply Kd.V_drew)); exact HO155.out), (by (with_reducible repeat (first | apply Kd.V_alloc | apply Kd.V_drewN | apply Kd.V_drew)); exact HO164.out), (by (with_reducible repeat (first | apply Kd.V_alloc | apply Kd.V_drewN | apply Kd.V_drew)); exact HO173.out), fun _ => (by (with_reducible repeat (first | apply Kd.N_alloc | apply Kd.N_drewN | apply Kd.N_drew)); exact HO149.out), fun _ => (by (with_reducible repeat (first | apply Kd.N_alloc | apply Kd.N_drewN | apply Kd.N_drew)); exact HO158.out), fun _ => (by (with_reducible repeat (first | apply Kd.N_alloc | apply Kd.N_drewN | apply Kd.N_drew)); exact HO167.out), fun _ => (by (with_reducible repeat (first | apply Kd.N_alloc | apply Kd.N_drewN | apply Kd.N_drew)); exact HO176.out)⟩
                                  refine steps_cons ?_ ?_
                                  · rintro b a w' ⟨v148, v157, v166, v175, ha, Q_HO_0, Q_HO_1, Q_HO_14, Q_HO_2, Q_HB, Q_HO155, Q_HO164, Q_HO173, Q_HO149, Q_HO158, Q_HO167, Q_HO176⟩ hb_ hon hoff
                                    refine ⟨_, rfl, fun K hK => ?_⟩
                                    have e91 : a.tmps[91]? = some (.int .u32 (Go.bits .xor .u32 t159 t168)) := by rw [ha]; exact putSel_on (e := (13, 91, .int .u32 (Go.bits .xor .u32 t159 t168))) 8 rfl rfl (hon 13 (by kernel_rfl)) rfl
                                    have e96 : a.tmps[96]? = some (.int .u32 t177) := by rw [ha]; exact putSel_on (e := (18, 96, .int .u32 t177)) 11 rfl rfl (hon 18 (by kernel_rfl)) rfl
                                    replace ha := Aside0.mk ha
                                    have HO_0 := Aside0.mk Q_HO_0
                                    have HO_1 := Aside0.mk Q_HO_1
                                    have HO_2 := Aside0.mk Q_HO_2
                                    have HB := Aside0.mk Q_HB
                                    have HO155 := Aside0.mk Q_HO155
                                    have HO164 := Aside0.mk Q_HO164
                                    have HO173 := Aside0.mk Q_HO173
                                    have HO149 := Aside0.mk (Q_HO149 (hon 1 (by kernel_rfl)))
                                    have HO158 := Aside0.mk (Q_HO158 (hon 6 (by kernel_rfl)))
                                    have HO167 := Aside0.mk (Q_HO167 (hon 11 (by kernel_rfl)))
                                    have HO176 := Aside0.mk (Q_HO176 (hon 17 (by kernel_rfl)))
                                    refine value_ (w1 := w') (v := .int .u32 (Go.bits .xor .u32 (Go.bits .xor .u32 t159 t168) t177)) (by rfl) rfl ?_ ?_
                                    · go_simp
                                      (try simp only [i64_w])
                                      try rfl
                                    refine hK.out _ _ ⟨v148, v157, v166, v175, (by rw [ha.out]; exact putSel_upk 12 hb_ rfl rfl rfl), Q_HO_0, Q_HO_1, fun h0_ => absurd ((hon 1 (by kernel_rfl)).symm.trans h0_) (by decide), Q_HO_2, Q_HB, Q_HO155, Q_HO164, Q_HO173, Q_HO149, Q_HO158, Q_HO167, Q_HO176⟩
                                  refine steps_cons ?_ ?_
                                  · rintro b a w' ⟨v148, v157, v166, v175, ha, Q_HO_0, Q_HO_1, Q_HO_14, Q_HO_2, Q_HB, Q_HO155, Q_HO164, Q_HO173, Q_HO149, Q_HO158, Q_HO167, Q_HO176⟩ hb_ hon hoff
                                    refine ⟨_, rfl, fun K hK => ?_⟩
                                    have e80 : a.tmps[80]? = some (.int .u32 t150) := by rw [ha]; exact putSel_on (e := (2, 80, .int .u32 t150)) 1 rfl rfl (hon 2 (by kernel_rfl)) rfl
                                    have e97 : a.tmps[97]? = some (.int .u32 (Go.bits .xor .u32 (Go.bits .xor .u32 t159 t168) t177)) := by rw [ha]; exact putSel_on (e := (19, 97, .int .u32 (Go.bits .xor .u32 (Go.bits .xor .u32 t159 t168) t177))) 12 rfl rfl (hon 19 (by kernel_rfl)) rfl
                                    replace ha := Aside0.mk ha
                                    have HO_0 := Aside0.mk Q_HO_0
                                    have HO_1 := Aside0.mk Q_HO_1
                                    have HO_2 := Aside0.mk Q_HO_2
                                    have HB := Aside0.mk Q_HB
                                    have HO155 := Aside0.mk Q_HO155
                                    have HO164 := Aside0.mk Q_HO164
                                    have HO173 := Aside0.mk Q_HO173
                                    have HO149 := Aside0.mk (Q_HO149 (hon 1 (by kernel_rfl)))
                                    have HO158 := Aside0.mk (Q_HO158 (hon 6 (by kernel_rfl)))
                                    have HO167 := Aside0.mk (Q_HO167 (hon 11 (by kernel_rfl)))
                                    have HO176 := Aside0.mk (Q_HO176 (hon 17 (by kernel_rfl)))
                                    refine value_ (w1 := w') (v := .bool (t150 != (Go.bits .xor .u32 (Go.bits .xor .u32 t159 t168) t177))) (by rfl) rfl ?_ ?_
                                    · go_simp
                                      (try simp only [i64_w])
                                      try rfl
                                    refine hK.out _ _ ⟨v148, v157, v166, v175, (by rw [ha.out]; exact putSel_upk 13 hb_ rfl rfl rfl), Q_HO_0, Q_HO_1, fun h0_ => absurd ((hon 1 (by kernel_rfl)).symm.trans h0_) (by decide), Q_HO_2, Q_HB, Q_HO155, Q_HO164, Q_HO173, Q_HO149, Q_HO158, Q_HO167, Q_HO176⟩
                                  exact steps_nil
                                rintro b a w69 hall ⟨v148, v157, v166, v175, ha, Q_HO_0, Q_HO_1, Q_HO_14, Q_HO_2, Q_HB, Q_HO155, Q_HO164, Q_HO173, Q_HO149, Q_HO158, Q_HO167, Q_HO176⟩
                                clear HB HO155 HO164 HO173 HO_0 HO_1 HO_14 HO_2
                                have hb1_ := hall 1 (by kernel_rfl)
                                have hb2_ := hall 2 (by kernel_rfl)
                                have hb5_ := hall 5 (by kernel_rfl)
                                have hb6_ := hall 6 (by kernel_rfl)
                                have hb7_ := hall 7 (by kernel_rfl)
                                have hb10_ := hall 10 (by kernel_rfl)
                                have hb11_ := hall 11 (by kernel_rfl)
                                have hb12_ := hall 12 (by kernel_rfl)
                                have hb13_ := hall 13 (by kernel_rfl)
                                have hb16_ := hall 16 (by kernel_rfl)
                                have hb17_ := hall 17 (by kernel_rfl)
                                have hb18_ := hall 18 (by kernel_rfl)
                                have hb19_ := hall 19 (by kernel_rfl)
                                have hb20_ := hall 20 (by kernel_rfl)
                                subst ha
                                simp only [putSel, hb1_, hb2_, hb5_, hb6_, hb7_, hb10_, hb11_, hb12_, hb13_, hb16_, hb17_, hb18_, hb19_, hb20_, if_true, Act.put, List.setIfInBounds_toArray, List.set_cons_zero, List.set_cons_succ]
                                have HO_0 := Aside0.mk Q_HO_0
                                clear Q_HO_0
                                have HO_1 := Aside0.mk Q_HO_1
                                clear Q_HO_1
                                clear Q_HO_14
                                have HO_2 := Aside0.mk Q_HO_2
                                clear Q_HO_2
                                have HB := Aside0.mk Q_HB
                                clear Q_HB
                                have HO155 := Aside0.mk Q_HO155
                                clear Q_HO155
                                have HO164 := Aside0.mk Q_HO164
                                clear Q_HO164
                                have HO173 := Aside0.mk Q_HO173
                                clear Q_HO173
                                have HO149 := Aside0.mk (Q_HO149 hb1_)
                                clear Q_HO149
                                have HO158 := Aside0.mk (Q_HO158 hb6_)
                                clear Q_HO158
                                have HO167 := Aside0.mk (Q_HO167 hb11_)
                                clear Q_HO167
                                have HO176 := Aside0.mk (Q_HO176 hb17_)
                                clear Q_HO176
                                clear hall hb1_ hb2_ hb5_ hb6_ hb7_ hb10_ hb11_ hb12_ hb13_ hb16_ hb17_ hb18_ hb19_ hb20_
                                go_upto_region 15 with (fail)
                                go_cut [119] (fun v119 wc => ∃ (kq : Nat) (x119_50 : Bool), v119 = .bool x119_50 ∧ Aside0 (rhizomelaw24_CrcMeans.j2 kq l0 a3 a4 a5 x119_50 = some r) ∧ Aside0 (kq ≤ k2) ∧ Aside0 (Kd.V (Kd.int .u8) 5 wc w.heap.size (fun k_ => ((P0_ k_ ∨ P1_ k_ ∨ P2_ k_) ∨ w.heap.size ≤ k_)) (.slice A0 l0.length c0) l0) ∧ Aside0 (Below w.heap.size w wc))
                                case first =>
                                  have H := HC51.out
                                  clear HC51
                                  by_cases c70 : a3 = 0
                                  · rw [if_pos c70] at H
                                    have c70b0 : (a3 == 0) = true := beq_iff_eq.mpr c70
                                    have c70b1 : (a3 != 0) = false := bne_eq_false_iff_eq.mpr c70
                                    clear c70
                                    (first | rw [c70b0] | (simp only [i64_w, i32_w]; rw [c70b0]) | skip)
                                    have H' := Aside0.mk H
                                    clear H
                                    go_wp2
                                    go_meet
                                    case rel => exact ⟨_, (true), (by first | rfl | (simp; done) | (simp [*]; done)), H', ⟨by have := HJ8.out; have := HK2.out; first | omega | exact Nat.le_refl _⟩, ⟨by (with_reducible repeat (first | apply Kd.V_alloc | apply Kd.V_drewN | apply Kd.V_drew)); exact Kd.V_mono HO_0.out (fun _ hk => by first | exact hk | exact hk.1)⟩, ⟨by repeat (first | (with_reducible first | exact HB.out | apply below_alloc | apply pw_below_drewN | apply below_drew1) | exact HB.out)⟩⟩
                                  · rw [if_neg c70] at H
                                    have c70b0 : (a3 == 0) = false := beq_eq_false_iff_ne.mpr c70
                                    have c70b1 : (a3 != 0) = true := bne_iff_ne.mpr c70
                                    (first | rw [c70b0] | (simp only [i64_w, i32_w]; rw [c70b0]) | skip)
                                    by_cases c71 : a4 < 0
                                    · rw [if_pos c71] at H
                                      have c71b0 : decide (a4 < 0) = true := decide_eq_true c71
                                      clear c71
                                      have H' := Aside0.mk H
                                      clear H
                                      go_wp2
                                      go_meet
                                      case rel => exact ⟨_, (true), (by first | rfl | (simp; done) | (simp [*]; done)), H', ⟨by have := HJ8.out; have := HK2.out; first | omega | exact Nat.le_refl _⟩, ⟨by (with_reducible repeat (first | apply Kd.V_alloc | apply Kd.V_drewN | apply Kd.V_drew)); exact Kd.V_mono HO_0.out (fun _ hk => by first | exact hk | exact hk.1)⟩, ⟨by repeat (first | (with_reducible first | exact HB.out | apply below_alloc | apply pw_below_drewN | apply below_drew1) | exact HB.out)⟩⟩
                                    · rw [if_neg c71] at H
                                      have c71b0 : decide (a4 < 0) = false := decide_eq_false c71
                                      clear c71
                                      by_cases c72 : a4 > 7
                                      · rw [if_pos c72] at H
                                        have c72b0 : decide (7 < a4) = true := decide_eq_true c72
                                        clear c72
                                        have H' := Aside0.mk H
                                        clear H
                                        go_wp2
                                        go_meet
                                        case rel => exact ⟨_, (true), (by first | rfl | (simp; done) | (simp [*]; done)), H', ⟨by have := HJ8.out; have := HK2.out; first | omega | exact Nat.le_refl _⟩, ⟨by (with_reducible repeat (first | apply Kd.V_alloc | apply Kd.V_drewN | apply Kd.V_drew)); exact Kd.V_mono HO_0.out (fun _ hk => by first | exact hk | exact hk.1)⟩, ⟨by repeat (first | (with_reducible first | exact HB.out | apply below_alloc | apply pw_below_drewN | apply below_drew1) | exact HB.out)⟩⟩
                                      · rw [if_neg c72] at H
                                        have c72b0 : decide (7 < a4) = false := decide_eq_false c72
                                        clear c72
                                        by_cases c73 : a5 < 0
                                        · rw [if_pos c73] at H
                                          have c73b0 : decide (a5 < 0) = true := decide_eq_true c73
                                          clear c73
                                          have H' := Aside0.mk H
                                          clear H
                                          go_wp2
                                          go_meet
                                          case rel => exact ⟨_, (true), (by first | rfl | (simp; done) | (simp [*]; done)), H', ⟨by have := HJ8.out; have := HK2.out; first | omega | exact Nat.le_refl _⟩, ⟨by (with_reducible repeat (first | apply Kd.V_alloc | apply Kd.V_drewN | apply Kd.V_drew)); exact Kd.V_mono HO_0.out (fun _ hk => by first | exact hk | exact hk.1)⟩, ⟨by repeat (first | (with_reducible first | exact HB.out | apply below_alloc | apply pw_below_drewN | apply below_drew1) | exact HB.out)⟩⟩
                                        · rw [if_neg c73] at H
                                          have c73b0 : decide (a5 < 0) = false := decide_eq_false c73
                                          clear c73
                                          have H' := Aside0.mk H
                                          clear H
                                          go_wp2
                                          go_meet
                                          case rel => exact ⟨_, (decide (a5 > (wrap64 ((l0.length : Int) - 5)))), (by first | rfl | (simp; done) | (simp [*]; done)), H', ⟨by have := HJ8.out; have := HK2.out; first | omega | exact Nat.le_refl _⟩, ⟨by (with_reducible repeat (first | apply Kd.V_alloc | apply Kd.V_drewN | apply Kd.V_drew)); exact Kd.V_mono HO_0.out (fun _ hk => by first | exact hk | exact hk.1)⟩, ⟨by repeat (first | (with_reducible first | exact HB.out | apply below_alloc | apply pw_below_drewN | apply below_drew1) | exact HB.out)⟩⟩
                                case rest =>
                                  clear HC51
                                  try clear c1
                                  try clear c2
                                  try clear p2
                                  try clear q5
                                  try clear p6
                                  try clear c7
                                  try clear q53
                                  try clear q54
                                  try clear q55
                                  try clear p64
                                  try clear c70
                                  try clear c70b0
                                  try clear c70b1
                                  try clear c71
                                  try clear c71b0
                                  try clear c72
                                  try clear c72b0
                                  try clear c73
                                  try clear c73b0
                                  try clear q53
                                  try clear q54
                                  try clear q55
                                  obtain ⟨kq, x119_50, rfl, HA, HJ50, HO_0, HB⟩ := hcut
                                  cases kq with
                                  | zero => exact absurd HA.out (by simp [rhizomelaw24_CrcMeans.j2])
                                  | succ kj50 =>
                                    have H := HA.out
                                    clear HA
                                    simp only [rhizomelaw24_CrcMeans.j2] at H
                                    by_cases c74 : x119_50 = true
                                    · subst c74
                                      have H1 : (some true) = some r := by rw [if_pos rfl] at H; exact H
                                      clear H
                                      have H := H1
                                      clear H1
                                      obtain rfl := Option.some.inj H
                                      go_wp2
                                      go_ret
                                      exact ⟨by first | rfl | (simp [errW_none, errW_some] <;> rfl) | (simp only [← hji19, ← hji20]; first | rfl | (simp [errW_none, errW_some] <;> rfl)) | (simp [*, errW_none, errW_some] <;> rfl), by repeat (first | (with_reducible first | exact HB.out | apply below_alloc | apply pw_below_drewN | apply below_drew1) | exact HB.out)⟩
                                    · replace c74 := Bool.eq_false_iff.mpr c74
                                      subst c74
                                      have H1 : (if ([] : List Int).length + l0.length < 140737488355328 then (if 0 ≤ (IntKind.u64.wrap (a4)) then (rhizomelaw24_CrcMeans.l1 kj50 l0 a5 (([] : List Int) ++ l0) (shl .u64 (IntKind.u64.wrap (a3)) (IntKind.u64.wrap (a4))) 0) else (none)) else (none)) = some r := by rw [if_neg (show ¬ (false = true) by decide)] at H; exact H
                                      clear H
                                      have H := H1
                                      clear H1
                                      by_cases c75 : ([] : List Int).length + l0.length < 140737488355328
                                      · rw [if_pos c75] at H
                                        have LMc75 := Aside0.mk c75
                                        clear c75
                                        obtain ⟨y178, hy178⟩ : ∃ y_ : List Int, y_ = (([] : List Int) ++ l0) := ⟨_, rfl⟩
                                        replace H : (if 0 ≤ (IntKind.u64.wrap (a4)) then (rhizomelaw24_CrcMeans.l1 kj50 l0 a5 y178 (shl .u64 (IntKind.u64.wrap (a3)) (IntKind.u64.wrap (a4))) 0) else (none)) = some r := by first | (rw [hy178]; with_reducible exact H) | (have H2_ := (Option.bind_some _ _).symm.trans H; rw [hy178]; with_reducible exact H2_) | (have H2_ := (Option.bind_some _ _).symm.trans H; with_reducible exact H2_) | with_reducible exact H | (rw [hy178]; exact H) | exact H
                                        have Ny178 := Aside0.mk hy178
                                        clear hy178
                                        obtain ⟨ji76, hji76⟩ : ∃ j_ : Int, (IntKind.u64.wrap (a4)) = j_ := ⟨_, rfl⟩
                                        replace H : (if 0 ≤ (ji76) then (rhizomelaw24_CrcMeans.l1 kj50 l0 a5 y178 (shl .u64 (IntKind.u64.wrap (a3)) (ji76)) 0) else (none)) = some r := by first | (rw [hji76] at H; exact H) | (simp only [hji76] at H ⊢; exact H)
                                        by_cases c77 : 0 ≤ (ji76)
                                        · rw [if_pos c77] at H
                                          have c77b0 := eq_true c77
                                          have c77b1 : decide (0 ≤ (ji76)) = true := decide_eq_true c77
                                          clear c77
                                          obtain ⟨ji78, hji78⟩ : ∃ j_ : Int, (shl .u64 (IntKind.u64.wrap (a3)) (ji76)) = j_ := ⟨_, rfl⟩
                                          replace H : (rhizomelaw24_CrcMeans.l1 kj50 l0 a5 y178 ji78 0) = some r := by first | (rw [hji78] at H; exact H) | (simp only [hji78] at H ⊢; exact H)
                                          have hji78_ : (IntKind.u64.wrap ((IntKind.u64.wrap (a3)) * 2 ^ min (ji76).toNat 64)) = ji78 := hji78
                                          have hji78z : (ji76) ≤ 64 → (IntKind.u64.wrap ((IntKind.u64.wrap (a3)) * 2 ^ (ji76).toNat)) = ji78 := shl_small hji78
                                          have H' := Aside0.mk H
                                          clear H
                                          go_wp2_with (first | ((with_reducible refine gate_builtin (b := .append) (xs := #[(.const (.slice none 0 0)), .tmp 120]) rfl ?_); (try (refine gate_guard (by rfl) ?_; dsimp only)); at_builtin; refine Kd.R_append_rows (Kd.int .u8) (w0 := w) w.heap.size rfl (.const (.slice none 0 0)) (.tmp 120) 22 5 (.int .u8 0) 1 rfl Try.underlying22 info5 rfl (by decide) (by omega) (.slice none 0 0) ([] : List Int) l0 _ _ _ (fun k_ => (w.heap.size ≤ k_)) (fun _ => False) rfl rfl ?aO ?aR (fun _ _ h => h) (fun _ h => h.elim) ?aF ?aB ?aS ?aL ?_; (case aR => repeat (first | exact (Kd.V_reads' HO_0.out).2.2 | (with_reducible refine Kd.C_alloc ?_ _) | (with_reducible refine Kd.C_drewN ?_ _) | (with_reducible refine Kd.C_drew ?_))); (case aB => exact (by repeat (first | (with_reducible first | exact HB.out | apply below_alloc | apply pw_below_drewN | apply below_drew1) | exact HB.out))); (case aF => exact (fun k_ hk => (Nat.le_trans (below_size (by repeat (first | (with_reducible first | exact HB.out | apply below_alloc | apply pw_below_drewN | apply below_drew1) | exact HB.out))) hk))); (case aO => exact ((Kd.R_nil _ _ _ _ (fun k_ => (w.heap.size ≤ k_))))); (case aS => exact (below_size (by repeat (first | (with_reducible first | exact HB.out | apply below_alloc | apply pw_below_drewN | apply below_drew1) | exact HB.out)))); (case aL => have := LMc75.out; omega); intro v179 w79 ho hb hg hat; rw [← Ny178.out] at ho; have n0_ := Aside0.mk (Kd.V_afterv (Kd.V_apart_nil (by (with_reducible repeat (first | apply Kd.V_alloc | apply Kd.V_drewN | apply Kd.V_drew)); exact HO_0.out)) hg hat); have n1_ := Aside0.mk (hb); have n2_ := Aside0.mk (ho); clear HO_0; clear HB; have HO_0 := n0_; have HB := n1_; have HO180 := n2_; clear n0_ n1_ n2_; clear ho hb hg hat))
                                          go_loopg [18] kj50 (fun kq v18 w' => ∃ (x16_4 : List Int) (x18_4 : Int), v18 = .int .i64 x18_4 ∧ Aside0 (rhizomelaw24_CrcMeans.l1 kq l0 a5 x16_4 ji78 x18_4 = some r) ∧ Aside0 (kq ≤ kj50) ∧ Aside0 (Kd.V (Kd.int .u8) 5 w' w.heap.size (fun k_ => ((P0_ k_ ∨ P1_ k_ ∨ P2_ k_) ∨ w.heap.size ≤ k_) ∧ some k_ ≠ (v179 : Value).ownBlock) (.slice A0 l0.length c0) l0) ∧ Aside0 (Kd.R (Kd.int .u8) 5 w' w.heap.size (fun k_ => (w.heap.size ≤ k_)) v179 x16_4) ∧ Aside0 (Below w.heap.size w w'))
                                          case atStart => exact ⟨(y178), (0), (by first | rfl | (simp; done) | (simp [*]; done)), H', ⟨Nat.le_refl _⟩, ⟨by (with_reducible repeat (first | apply Kd.V_alloc | apply Kd.V_drewN | apply Kd.V_drew)); exact HO_0.out⟩, ⟨by (with_reducible repeat (first | apply Kd.R_alloc | apply Kd.R_drewN | apply Kd.R_drew)); exact HO180.out⟩, ⟨by repeat (first | (with_reducible first | exact HB.out | apply below_alloc | apply pw_below_drewN | apply below_drew1) | exact HB.out)⟩⟩
                                          case round =>
                                            clear H'
                                            try clear c1
                                            try clear c2
                                            try clear p2
                                            try clear q5
                                            try clear p6
                                            try clear c7
                                            try clear q53
                                            try clear q54
                                            try clear q55
                                            try clear p64
                                            try clear c70
                                            try clear c70b0
                                            try clear c70b1
                                            try clear c71
                                            try clear c71b0
                                            try clear c72
                                            try clear c72b0
                                            try clear c73
                                            try clear c73b0
                                            try clear c74
                                            try clear c75
                                            try clear c77
                                            try clear c77b0
                                            try clear c77b1
                                            try clear p2
                                            try clear p6
                                            try clear p64
                                            try clear q5
                                            try clear q53
                                            try clear q54
                                            try clear q55
                                            obtain ⟨x16_4, x18_4, rfl, HA, HK4, HO_0, HO_16, HB⟩ := hrel
                                            cases gk with
                                            | zero => exact absurd HA.out (by simp [rhizomelaw24_CrcMeans.l1])
                                            | succ k4 =>
                                              have H := HA.out
                                              clear HA
                                              simp only [rhizomelaw24_CrcMeans.l1] at H
                                              by_cases c80 : x18_4 < 5
                                              · rw [if_pos c80] at H
                                                have c80b0 : decide (x18_4 < 5) = true := decide_eq_true c80
                                                clear c80
                                                obtain ⟨ji81, hji81⟩ : ∃ j_ : Int, (wrap64 (a5 + x18_4)) = j_ := ⟨_, rfl⟩
                                                replace H : (if 0 ≤ (ji81) then (if (ji81) < (x16_4.length : Int) then (if 0 ≤ (IntKind.u64.wrap (wrap64 (8 * x18_4))) then (rhizomelaw24_CrcMeans.l1 k4 l0 a5 (x16_4.set ((ji81) : Int).toNat (Go.bits .xor .u8 (rd x16_4 (ji81)) ((shr .u64 ji78 (IntKind.u64.wrap (wrap64 (8 * x18_4)))) % 256))) ji78 (wrap64 (x18_4 + 1))) else (none)) else (none)) else (none)) = some r := by first | (rw [hji81] at H; exact H) | (simp only [hji81] at H ⊢; exact H)
                                                have hji81w : (IntKind.i64.wrap (a5 + x18_4)) = ji81 := (i64_w _).trans hji81
                                                by_cases c82 : 0 ≤ (ji81)
                                                · rw [if_pos c82] at H
                                                  have c82b0 : decide (0 ≤ (ji81)) = true := decide_eq_true c82
                                                  clear c82
                                                  by_cases c83 : (ji81) < (x16_4.length : Int)
                                                  · rw [if_pos c83] at H
                                                    have c83b0 : decide ((ji81) < (x16_4.length : Int)) = true := decide_eq_true c83
                                                    clear c83
                                                    obtain ⟨ji84, hji84⟩ : ∃ j_ : Int, (IntKind.u64.wrap (wrap64 (8 * x18_4))) = j_ := ⟨_, rfl⟩
                                                    replace H : (if 0 ≤ (ji84) then (rhizomelaw24_CrcMeans.l1 k4 l0 a5 (x16_4.set ((ji81) : Int).toNat (Go.bits .xor .u8 (rd x16_4 (ji81)) ((shr .u64 ji78 (ji84)) % 256))) ji78 (wrap64 (x18_4 + 1))) else (none)) = some r := by first | (rw [hji84] at H; exact H) | (simp only [hji84] at H ⊢; exact H)
                                                    by_cases c85 : 0 ≤ (ji84)
                                                    · rw [if_pos c85] at H
                                                      have c85b0 := eq_true c85
                                                      have c85b1 : decide (0 ≤ (ji84)) = true := decide_eq_true c85
                                                      clear c85
                                                      obtain ⟨ji86, hji86⟩ : ∃ j_ : Int, (shr .u64 ji78 (ji84)) = j_ := ⟨_, rfl⟩
                                                      replace H : (rhizomelaw24_CrcMeans.l1 k4 l0 a5 (x16_4.set ((ji81) : Int).toNat (Go.bits .xor .u8 (rd x16_4 (ji81)) ((ji86) % 256))) ji78 (wrap64 (x18_4 + 1))) = some r := by first | (rw [hji86] at H; exact H) | (simp only [hji86] at H ⊢; exact H)
                                                      have hji86_ : (ji78 / 2 ^ min (ji84).toNat 64) = ji86 := hji86
                                                      have hji86z : (ji84) ≤ 64 → (ji78 / 2 ^ (ji84).toNat) = ji86 := shr_small hji86
                                                      obtain ⟨y182, hy182⟩ : ∃ y_ : List Int, y_ = (x16_4.set ((ji81) : Int).toNat (Go.bits .xor .u8 (rd x16_4 (ji81)) ((ji86) % 256))) := ⟨_, rfl⟩
                                                      replace H : (rhizomelaw24_CrcMeans.l1 k4 l0 a5 y182 ji78 (wrap64 (x18_4 + 1))) = some r := by first | (rw [hy182]; with_reducible exact H) | (have H2_ := (Option.bind_some _ _).symm.trans H; rw [hy182]; with_reducible exact H2_) | (have H2_ := (Option.bind_some _ _).symm.trans H; with_reducible exact H2_) | with_reducible exact H | (rw [hy182]; exact H) | exact H
                                                      have Ny182 := Aside0.mk hy182
                                                      clear hy182
                                                      have H' := Aside0.mk H
                                                      clear H
                                                      obtain ⟨Ao88, co88, eo88⟩ := Kd.R_slice HO_16.out
                                                      subst eo88
                                                      have p181 : 0 ≤ ((ji81) : Int) := of_decide_eq_true (by first | (with_reducible assumption) | assumption)
                                                      have q181 : (ji81) < (x16_4.length : Int) := of_decide_eq_true (by first | (with_reducible assumption) | assumption)
                                                      obtain ⟨ad181, e181, hx181_0⟩ := Kd.at_int (Kd.R_reads' HO_16.out).2.2 (ji81) p181 q181
                                                      cases e181
                                                      replace p181 := eq_true p181
                                                      replace q181 := eq_true q181
                                                      have p87 : 0 ≤ ((ji81) : Int) := of_decide_eq_true (by first | (with_reducible assumption) | assumption)
                                                      have q87 : ((ji81) : Int) < ((x16_4.length : Int) : Int) := of_decide_eq_true (by first | (with_reducible assumption) | assumption)
                                                      obtain ⟨go87, co87, eo87, gb87, gl87, cl87, HG87⟩ := Kd.R_form HO_16.out (by omega)
                                                      (first | cases eo87 | (injection eo87 with ea_ en_ ec_; (first | subst ea_ | (injection ea_ with ea_; subst ea_)); subst ec_; clear en_))
                                                      have GB87 := Aside0.mk gb87
                                                      have GG87 := Aside0.mk HG87
                                                      clear gb87 gl87 HG87
                                                      (first | simp only [add_plain] at hx181_0 | skip)
                                                      obtain ⟨hx87_0, hf87_0⟩ := Kd.R_celln 0 HO_16.out ((ji81) : Int) p87 q87
                                                      replace p87 := eq_true p87
                                                      replace q87 := eq_true q87
                                                      have HP89 := Kd.R_putg HO_16.out ((ji81) : Int) (Go.bits .xor .u8 (rd x16_4 (ji81)) ((ji86) % 256))
                                                      go_wp2_with (first | ((with_reducible refine gate_store (t := 5) (p := 148) rfl ?_); refine store_event (t := 5) (p := 148) (v := ?vo_w90) (w1 := (wr.setCell ⟨go87, ((ji81) : Int).toNat, none⟩ (.int .u8 (Go.bits .xor .u8 (rd x16_4 (ji81)) ((ji86) % 256))))) ?hg ?ho ?hn ?hr ?_; (case ho => rfl); (case hg => rfl); (case hn => rfl); (case hr => first | (go_simp; done) | (go_simp; rfl)); intro w90 hw; have hg : wr.grownBy w90 (some go87) := (by rw [hw]; exact HP89.2); have hp_ : Kd.R (Kd.int .u8) 5 w90 w.heap.size (fun k_ => (w.heap.size ≤ k_)) (.slice (some ⟨go87, 0, none⟩) x16_4.length co88) y182 := (by rw [hw, Ny182.out]; exact HP89.1); clear HP89; have n0_ := Aside0.mk (Kd.V_afterv (v := (.slice (some ⟨go87, 0, none⟩) x16_4.length co88)) (v1 := (.slice (some ⟨go87, 0, none⟩) x16_4.length co88)) (ok := (fun k_ => ((P0_ k_ ∨ P1_ k_ ∨ P2_ k_) ∨ w.heap.size ≤ k_))) (by (with_reducible repeat (first | apply Kd.V_alloc | apply Kd.V_drewN | apply Kd.V_drew)); exact HO_0.out) hg (.inl rfl)); have n1_ := Aside0.mk (hp_); have n2_ := Aside0.mk ((by rw [hw]; exact below_set (HB.out) GB87.out : Below w.heap.size w w90)); clear HO_0; clear HO_16; clear HB; have HO_0 := n0_; have HO_16 := n1_; have HB := n2_; clear n0_ n1_ n2_; clear hg hw hp_))
                                                      go_roundg k4
                                                      case measure => have := HJ8.out; have := HK2.out; have := HJ50.out; have := HK4.out; omega
                                                      case rel => exact ⟨(y182), (wrap64 (x18_4 + 1)), (by first | rfl | (simp; done) | (simp [*]; done)), H', ⟨by have := HJ8.out; have := HK2.out; have := HJ50.out; have := HK4.out; omega⟩, ⟨by (with_reducible repeat (first | apply Kd.V_alloc | apply Kd.V_drewN | apply Kd.V_drew)); exact HO_0.out⟩, ⟨by (with_reducible repeat (first | apply Kd.R_alloc | apply Kd.R_drewN | apply Kd.R_drew)); exact HO_16.out⟩, ⟨by repeat (first | (with_reducible first | exact HB.out | apply below_alloc | apply pw_below_drewN | apply below_drew1) | exact HB.out)⟩⟩
                                                    · rw [if_neg c85] at H
                                                      exact absurd H (by simp)
                                                  · rw [if_neg c83] at H
                                                    exact absurd H (by simp)
                                                · rw [if_neg c82] at H
                                                  exact absurd H (by simp)
                                              · rw [if_neg c80] at H
                                                have c80b0 : decide (x18_4 < 5) = false := decide_eq_false c80
                                                clear c80
                                                obtain ⟨y183, hy183⟩ : ∃ y_ : List (List Int), y_ = (([x16_4] : List (List Int))) := ⟨_, rfl⟩
                                                replace H : ((crc_Sum.f k4 y183).bind fun t186 => ((crc_Sum.f k4 (([l0] : List (List Int)))).bind fun t190 => (some (t186 != t190)))) = some r := by first | (rw [hy183]; with_reducible exact H) | (have H2_ := (Option.bind_some _ _).symm.trans H; rw [hy183]; with_reducible exact H2_) | (have H2_ := (Option.bind_some _ _).symm.trans H; with_reducible exact H2_) | with_reducible exact H | (rw [hy183]; exact H) | exact H
                                                have Ny183 := Aside0.mk hy183
                                                clear hy183
                                                replace H := Option.bind_eq_some_iff.mp H
                                                obtain ⟨t186, A910, H⟩ := H
                                                replace H : ((crc_Sum.f k4 (([l0] : List (List Int)))).bind fun t190 => (some (t186 != t190))) = some r := H
                                                have A91 := Aside0.mk A910
                                                clear A910
                                                obtain ⟨y187, hy187⟩ : ∃ y_ : List (List Int), y_ = (([l0] : List (List Int))) := ⟨_, rfl⟩
                                                replace H : ((crc_Sum.f k4 y187).bind fun t190 => (some (t186 != t190))) = some r := by first | (rw [hy187]; with_reducible exact H) | (have H2_ := (Option.bind_some _ _).symm.trans H; rw [hy187]; with_reducible exact H2_) | (have H2_ := (Option.bind_some _ _).symm.trans H; with_reducible exact H2_) | with_reducible exact H | (rw [hy187]; exact H) | exact H
                                                have Ny187 := Aside0.mk hy187
                                                clear hy187
                                                replace H := Option.bind_eq_some_iff.mp H
                                                obtain ⟨t190, A920, H⟩ := H
                                                replace H : (some (t186 != t190)) = some r := H
                                                have A92 := Aside0.mk A920
                                                clear A920
                                                obtain rfl := Option.some.inj H
                                                obtain ⟨Ao93, co93, eo93⟩ := Kd.R_slice HO_16.out
                                                subst eo93
                                                go_wp2_with (first | ((with_reducible refine gate_dst (N := 150) rfl ?_); (try (refine gate_guard (by rfl) ?_; dsimp only)); refine Kd.N_lit (Kd.slice 5 (Kd.int .u8)) _ 22 ?hg (N' := 150) ?hd (xs := ([x16_4] : List (List Int))) (inner := [.slice Ao93 x16_4.length co93]) (ok := (fun k_ => ((P0_ k_ ∨ P1_ k_ ∨ P2_ k_) ∨ w.heap.size ≤ k_))) (okp := (fun k_ => ((P0_ k_ ∨ P1_ k_ ∨ P2_ k_) ∨ w.heap.size ≤ k_))) ?hr ?hp (fun _ hk => hk) ((show ∀ k_, wr.heap.size ≤ k_ → (fun k_ => ((P0_ k_ ∨ P1_ k_ ∨ P2_ k_) ∨ w.heap.size ≤ k_)) k_ from fun k_ hk => (.inr (Nat.le_trans (below_size (by repeat (first | (with_reducible first | exact HB.out | apply below_alloc | apply pw_below_drewN | apply below_drew1) | exact HB.out))) hk))) _ (Nat.le_refl _)) (Below.refl _ _) (Nat.le_refl _) (by simp) ?_; (case hd => rfl); (case hg => rfl); (case hr => first | (go_simp; done) | (go_simp; rfl)); (case hp => exact (Reps.one (show Kd.FK (Kd.slice 5 (Kd.int .u8)) _ _ x16_4 [.slice Ao93 x16_4.length co93] from (Kd.FK_slice_mk (Kd.R_reads' (Kd.R_mono (ok' := (fun k_ => ((P0_ k_ ∨ P1_ k_ ∨ P2_ k_) ∨ w.heap.size ≤ k_))) (HO_16.out) (fun k_ hk => (.inr (hk))))).2.1 (Kd.R_F (Kd.R_mono (ok' := (fun k_ => ((P0_ k_ ∨ P1_ k_ ∨ P2_ k_) ∨ w.heap.size ≤ k_))) (HO_16.out) (fun k_ hk => (.inr (hk))))))) (Reps.none _ _))); intro v184 w94 ho95 hb hg_ hnew_; clear hg_ hnew_; (first | rw [← Ny183.out] at ho95 | (simp only [Int.reduceToNat] at ho95; rw [← Ny183.out] at ho95)); have n0_ := Aside0.mk (Kd.V_elder' (by (with_reducible repeat (first | apply Kd.V_alloc | apply Kd.V_drewN | apply Kd.V_drew)); exact HO_0.out) (Kd.N_base ho95) hb); have n1_ := Aside0.mk (Kd.N_lower ho95 (below_size (by repeat (first | (with_reducible first | exact HB.out | apply below_alloc | apply pw_below_drewN | apply below_drew1) | exact HB.out)))); have n2_ := Aside0.mk (below_step (by repeat (first | (with_reducible first | exact HB.out | apply below_alloc | apply pw_below_drewN | apply below_drew1) | exact HB.out)) hb); clear HO_0; clear HB; clear HO_16; have HO_0 := n0_; have HO185 := n1_; have HB := n2_; clear n0_ n1_ n2_; clear hb ho95; obtain ⟨Ao96, co96, eo96⟩ := Kd.N_slice HO185.out; subst eo96) | ((with_reducible refine gate_callee (f := 7) rfl ?_); refine goesL_ (some 151) rfl rfl Try.func7 (by kernel_rfl) rfl #[.slice Ao96 y183.length co96] rfl (by (try simp only [List.map_toArray, List.map_cons, List.map_nil]); first | done | rfl | (simp only [List.length_drop, List.length_take]; rfl)) ?_; (with_reducible refine (crc_Sum.calls k4 _ _ y183 t186 _ ?side1 ?side2 A91.out).mono ?_); (case side1 => repeat (first | exact (Kd.N_reads' HO185.out).2.2 | (with_reducible refine Kd.C_alloc ?_ _) | (with_reducible refine Kd.C_drewN ?_ _) | (with_reducible refine Kd.C_drew ?_))); (case side2 => exact (Kd.N_reads' HO185.out).2.1); rintro e w' ⟨rfl, ⟨nd, rfl⟩⟩; refine ⟨_, rfl, ?_⟩) | ((with_reducible refine gate_dst (N := 153) rfl ?_); (try (refine gate_guard (by rfl) ?_; dsimp only)); refine Kd.N_lit (Kd.slice 5 (Kd.int .u8)) _ 22 ?hg (N' := 153) ?hd (xs := ([l0] : List (List Int))) (inner := [.slice A0 l0.length c0]) (ok := (fun k_ => ((P0_ k_ ∨ P1_ k_ ∨ P2_ k_) ∨ w.heap.size ≤ k_) ∧ some k_ ≠ (.slice Ao96 y183.length co96 : Value).ownBlock)) (okp := (fun k_ => ((P0_ k_ ∨ P1_ k_ ∨ P2_ k_) ∨ w.heap.size ≤ k_) ∧ some k_ ≠ (.slice Ao96 y183.length co96 : Value).ownBlock)) ?hr ?hp (fun _ hk => hk) ((show ∀ k_, w94.heap.size ≤ k_ → (fun k_ => ((P0_ k_ ∨ P1_ k_ ∨ P2_ k_) ∨ w.heap.size ≤ k_) ∧ some k_ ≠ (.slice Ao96 y183.length co96 : Value).ownBlock) k_ from fun k_ hk => ⟨(.inr (Nat.le_trans (below_size (by repeat (first | (with_reducible first | exact HB.out | apply below_alloc | apply pw_below_drewN | apply below_drew1) | exact HB.out))) hk)), Kd.fresh' (Kd.N_lt (by (with_reducible repeat (first | apply Kd.N_alloc | apply Kd.N_drewN | apply Kd.N_drew)); exact HO185.out)) k_ hk⟩) _ (Nat.le_refl _)) (Below.refl _ _) (Nat.le_refl _) (by simp) ?_; (case hd => rfl); (case hg => rfl); (case hr => first | (go_simp; done) | (go_simp; rfl)); (case hp => exact (Reps.one (show Kd.FK (Kd.slice 5 (Kd.int .u8)) _ _ l0 [.slice A0 l0.length c0] from (Kd.FK_slice_mk (Kd.V_reads' (Kd.V_mono (e := 5) (base := w.heap.size) (ok' := (fun k_ => ((P0_ k_ ∨ P1_ k_ ∨ P2_ k_) ∨ w.heap.size ≤ k_) ∧ some k_ ≠ (.slice Ao96 y183.length co96 : Value).ownBlock)) (HO_0.out) (fun k_ hk => ⟨hk.1.1, hk.2⟩))).2.1 (Kd.V_F (Kd.V_mono (e := 5) (base := w.heap.size) (ok' := (fun k_ => ((P0_ k_ ∨ P1_ k_ ∨ P2_ k_) ∨ w.heap.size ≤ k_) ∧ some k_ ≠ (.slice Ao96 y183.length co96 : Value).ownBlock)) (HO_0.out) (fun k_ hk => ⟨hk.1.1, hk.2⟩))))) (Reps.none _ _))); intro v188 w97 ho98 hb hg_ hnew_; clear hg_ hnew_; (first | rw [← Ny187.out] at ho98 | (simp only [Int.reduceToNat] at ho98; rw [← Ny187.out] at ho98)); have n0_ := Aside0.mk (Kd.V_elder' (by (with_reducible repeat (first | apply Kd.V_alloc | apply Kd.V_drewN | apply Kd.V_drew)); exact HO_0.out) (Kd.N_base ho98) hb); have n1_ := Aside0.mk (Kd.N_elder' (by (with_reducible repeat (first | apply Kd.N_alloc | apply Kd.N_drewN | apply Kd.N_drew)); exact HO185.out) (Kd.N_base ho98) hb); have n2_ := Aside0.mk (Kd.N_lower ho98 (below_size (by repeat (first | (with_reducible first | exact HB.out | apply below_alloc | apply pw_below_drewN | apply below_drew1) | exact HB.out)))); have n3_ := Aside0.mk (below_step (by repeat (first | (with_reducible first | exact HB.out | apply below_alloc | apply pw_below_drewN | apply below_drew1) | exact HB.out)) hb); clear HO_0; clear HO185; clear HB; have HO_0 := n0_; have HO185 := n1_; have HO189 := n2_; have HB := n3_; clear n0_ n1_ n2_ n3_; clear hb ho98; obtain ⟨Ao99, co99, eo99⟩ := Kd.N_slice HO189.out; subst eo99) | ((with_reducible refine gate_callee (f := 7) rfl ?_); refine goesL_ (some 154) rfl rfl Try.func7 (by kernel_rfl) rfl #[.slice Ao99 y187.length co99] rfl (by (try simp only [List.map_toArray, List.map_cons, List.map_nil]); first | done | rfl | (simp only [List.length_drop, List.length_take]; rfl)) ?_; (with_reducible refine (crc_Sum.calls k4 _ _ y187 t190 _ ?side1 ?side2 A92.out).mono ?_); (case side1 => repeat (first | exact (Kd.N_reads' HO189.out).2.2 | (with_reducible refine Kd.C_alloc ?_ _) | (with_reducible refine Kd.C_drewN ?_ _) | (with_reducible refine Kd.C_drew ?_))); (case side2 => exact (Kd.N_reads' HO189.out).2.1); rintro e w' ⟨rfl, ⟨nd, rfl⟩⟩; refine ⟨_, rfl, ?_⟩))
                                                go_ret
                                                exact ⟨by first | rfl | (simp [errW_none, errW_some] <;> rfl) | (simp only [← hji19, ← hji20, ← hji76, ← hji78]; first | rfl | (simp [errW_none, errW_some] <;> rfl)) | (simp [*, errW_none, errW_some] <;> rfl), by repeat (first | (with_reducible first | exact HB.out | apply below_alloc | apply pw_below_drewN | apply below_drew1) | exact HB.out)⟩
                                        · rw [if_neg c77] at H
                                          exact absurd H (by simp)
                                      · rw [if_neg c75] at H
                                        exact absurd H (by simp)
                              · rw [if_neg c50] at H
                                exact absurd H (by simp)
                            · rw [if_neg c48] at H
                              exact absurd H (by simp)
                          · rw [if_neg c45] at H
                            exact absurd H (by simp)
                        · rw [if_neg c42] at H
                          exact absurd H (by simp)
                      · rw [if_neg c41] at H
                        exact absurd H (by simp)
              · rw [if_neg c22] at H
                exact absurd H (by simp)
            · rw [if_neg c21] at H
              exact absurd H (by simp)
          · rw [if_neg c18] at H
            exact absurd H (by simp)
  · replace c8 := Bool.eq_false_iff.mpr c8
    subst c8
    have H1 : (none) = some r := by rw [if_neg (show ¬ (false = true) by decide)] at H; exact H
    clear H
    have H := H1
    clear H1
    exact absurd H (by simp)

/-- THE ONE PURE STATEMENT of rhizomelaw24_CrcMeans: yours. -/
def rhizomelaw24_CrcMeans.Pure : Prop := ∀ (l0 : List Int) (l1 : List Int) (l2 : List Int) (a3 : Int) (a4 : Int) (a5 : Int), l0.length ≤ maxLen → l0.length * 1 ≤ 140737488351232 → (∀ x ∈ l0, (Lit.int .u8 x).wf = true) → l1.length ≤ maxLen → l1.length * 1 ≤ 140737488351232 → (∀ x ∈ l1, (Lit.int .u8 x).wf = true) → l2.length ≤ maxLen → l2.length * 1 ≤ 140737488351232 → (∀ x ∈ l2, (Lit.int .u8 x).wf = true) → (Lit.int .u32 a3).wf = true → (Lit.int .i64 a4).wf = true → (Lit.int .i64 a5).wf = true → ∃ k, rhizomelaw24_CrcMeans.f k l0 l1 l2 a3 a4 a5 = some true
theorem rhizomelaw24_CrcMeans.walk (P : rhizomelaw24_CrcMeans.Pure) (a0 : Option Addr) (len0 cap0 : Nat) (z0 : List Int) (a1 : Option Addr) (len1 cap1 : Nat) (z1 : List Int) (a2 : Option Addr) (len2 cap2 : Nat) (z2 : List Int) (a3 : Int) (a4 : Int) (a5 : Int) (w : World) (w0 : (a0 = none ∧ len0 = 0 ∧ cap0 = 0 ∧ z0 = []) ∨ ∃ x, a0 = some x ∧ len0 ≤ cap0 ∧ cap0 ≤ maxLen ∧ z0.length = cap0 ∧ (∀ i, i < z0.length → w.cell? (x.add i) = some (.int .u8 (z0.getD i 0))) ∧ ∀ n ∈ z0, (Lit.int .u8 n).wf = true) (y0 : len0 * 1 ≤ 140737488351232) (w1 : (a1 = none ∧ len1 = 0 ∧ cap1 = 0 ∧ z1 = []) ∨ ∃ x, a1 = some x ∧ len1 ≤ cap1 ∧ cap1 ≤ maxLen ∧ z1.length = cap1 ∧ (∀ i, i < z1.length → w.cell? (x.add i) = some (.int .u8 (z1.getD i 0))) ∧ ∀ n ∈ z1, (Lit.int .u8 n).wf = true) (y1 : len1 * 1 ≤ 140737488351232) (w2 : (a2 = none ∧ len2 = 0 ∧ cap2 = 0 ∧ z2 = []) ∨ ∃ x, a2 = some x ∧ len2 ≤ cap2 ∧ cap2 ≤ maxLen ∧ z2.length = cap2 ∧ (∀ i, i < z2.length → w.cell? (x.add i) = some (.int .u8 (z2.getD i 0))) ∧ ∀ n ∈ z2, (Lit.int .u8 n).wf = true) (y2 : len2 * 1 ≤ 140737488351232) (w3 : (Lit.int .u32 a3).wf = true) (w4 : (Lit.int .i64 a4).wf = true) (w5 : (Lit.int .i64 a5).wf = true) :
    Calls Try.prog 4 #[.slice a0 len0 cap0, .slice a1 len1 cap1, .slice a2 len2 cap2, .int .u32 a3, .int .i64 a4, .int .i64 a5] w fun e w' => e = .returned (.bool true) ∧ Below w.heap.size w w' := by
  obtain ⟨l0, rfl, hr0, hm0, hw0, hc0⟩ := ReadsInt.ofRowC w0
  obtain ⟨l1, rfl, hr1, hm1, hw1, hc1⟩ := ReadsInt.ofRowC w1
  obtain ⟨l2, rfl, hr2, hm2, hw2, hc2⟩ := ReadsInt.ofRowC w2
  obtain ⟨k, h⟩ := P l0 l1 l2 a3 a4 a5 hm0 y0 hw0 hm1 y1 hw1 hm2 y2 hw2 w3 w4 w5
  refine (rhizomelaw24_CrcMeans.calls k (fun k_ => k_ < w.heap.size) _ _ l0 (fun k_ => k_ < w.heap.size) _ _ l1 (fun k_ => k_ < w.heap.size) _ _ l2 a3 a4 a5 true w ⟨_, _, rfl, hc0, Kd.C_F (Kd.heap_int .u8) (Kd.C_of_reads (d := (0 : Int)) (h1 := fun _ => rfl) hr0)⟩ ⟨_, _, rfl, hc1, Kd.C_F (Kd.heap_int .u8) (Kd.C_of_reads (d := (0 : Int)) (h1 := fun _ => rfl) hr1)⟩ ⟨_, _, rfl, hc2, Kd.C_F (Kd.heap_int .u8) (Kd.C_of_reads (d := (0 : Int)) (h1 := fun _ => rfl) hr2)⟩ h).mono ?_
  rintro e w' ⟨rfl, hd⟩
  exact ⟨rfl, hd⟩

end Go.Proofs.Ytainbolgfnghnaa.PCrc

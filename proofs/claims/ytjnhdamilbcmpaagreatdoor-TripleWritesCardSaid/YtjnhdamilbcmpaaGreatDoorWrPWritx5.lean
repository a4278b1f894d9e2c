import Derived.Test.YtjnhdamilbcmpaaGreatDoorWrPWritx0
import Derived.Test.YtjnhdamilbcmpaaGreatDoorWrPWritx4
namespace Go.Proofs.YtjnhdamilbcmpaaGreatDoor.PWrit
open Go.RowKit Go.Proofs.YtjnhdamilbcmpaaGreatDoorW.PrintWords Go.Proofs.YtjnhdamilbcmpaaGreatDoorW.PrintLast Go.Proofs.YtjnhdamilbcmpaaGreatDoorW.PrintMore
attribute [local go_sem] max2_int min2_int max_two min_two max_three min_three max_four min_four
set_option linter.unusedVariables false
set_option linter.unusedSimpArgs false
mutual
def lex_scanner_quoted.l0 : Nat → Int → Bool → Int → List Int → ByteArray → Int → Option (ByteArray × ByteArray × Int)
 | 0, _, _, _, _, _, _ => none
 | k + 1, x1, x2, x7, x8, x1000, x1001 => (lex_scanner_ch.f x1000 x1001 x1001).bind fun bt126 => (if bt126.1 = x1 then (some (strOfNums x8, bt126.2.1, wrap64 (bt126.2.2 + 1))) else ((lex_scanner_ch.f bt126.2.1 bt126.2.2 bt126.2.2).bind fun bt129 => (if bt129.2.2 ≥ (bt129.2.1.size : Int) then (lex_scanner_quoted.j1 k x1 x2 x7 x8 bt129.1 true bt129.2.1 bt129.2.2) else (if x2 = true then (if bt129.1 = 10 then (lex_scanner_quoted.j1 k x1 x2 x7 x8 bt129.1 true bt129.2.1 bt129.2.2) else (lex_scanner_quoted.j1 k x1 x2 x7 x8 bt129.1 (bt129.1 == 13) bt129.2.1 bt129.2.2)) else (lex_scanner_quoted.j1 k x1 x2 x7 x8 bt129.1 false bt129.2.1 bt129.2.2)))))
def lex_scanner_quoted.j1 : Nat → Int → Bool → Int → List Int → Int → Bool → ByteArray → Int → Option (ByteArray × ByteArray × Int)
 | 0, _, _, _, _, _, _, _, _ => none
 | k + 1, x1, x2, x7, x8, x9, x46, x1000, x1001 => if x46 = true then ((lex_scanner_fail.f x1000 x1001 x7).bind fun bt132 => (lex_scanner_quoted.l0 k x1 x2 x7 x8 bt132.1 bt132.2)) else (if x9 = 92 then ((lex_scanner_escaped.f k x1000 x1001 x7 x2).bind fun bt134 => (if x8.length + bt134.1.length < 140737488355328 then (lex_scanner_quoted.l0 k x1 x2 x7 (x8 ++ bt134.1) bt134.2.1 bt134.2.2) else (none))) else (if x8.length < 140737488355328 then (lex_scanner_quoted.l0 k x1 x2 x7 (x8 ++ [x9]) x1000 (wrap64 (x1001 + 1))) else (none)))
end
def lex_scanner_quoted.f (k : Nat) (s0_0 : ByteArray) (s0_1 : Int) (a1 : Int) (a2 : Bool) : Option (ByteArray × ByteArray × Int) := lex_scanner_quoted.l0 k a1 a2 s0_1 ([] : List Int) s0_0 (wrap64 (s0_1 + 1))
theorem lex_scanner_quoted.mono_l : ∀ k, (∀ y0 y1 y2 y3 y4 y5, LeO (lex_scanner_quoted.l0 k y0 y1 y2 y3 y4 y5) (lex_scanner_quoted.l0 (k + 1) y0 y1 y2 y3 y4 y5)) ∧ (∀ y0 y1 y2 y3 y4 y5 y6 y7, LeO (lex_scanner_quoted.j1 k y0 y1 y2 y3 y4 y5 y6 y7) (lex_scanner_quoted.j1 (k + 1) y0 y1 y2 y3 y4 y5 y6 y7))
 | 0 => ⟨fun _ _ _ _ _ _ r h => by simp [lex_scanner_quoted.l0] at h, fun _ _ _ _ _ _ _ _ r h => by simp [lex_scanner_quoted.j1] at h⟩
 | k + 1 => by
  obtain ⟨ih0, ih1⟩ := lex_scanner_quoted.mono_l k
  refine ⟨?_, ?_⟩
  ·intro y0 y1 y2 y3 y4 y5
   unfold lex_scanner_quoted.l0
   repeat' first
   | (with_reducible exact ih0 _ _ _ _ _ _)
   | (with_reducible exact ih1 _ _ _ _ _ _ _ _)
   | (with_reducible exact lex_scanner_escaped.mono _ _ _ _ _)
   | (with_reducible exact LeO.refl _)
   | (with_reducible exact LeO.none _)
   | (with_reducible refine LeO.ite ?_ ?_)
   | (with_reducible refine LeO.bind ?_ (fun _ => ?_))
   | exact ih0 _ _ _ _ _ _
   | exact ih1 _ _ _ _ _ _ _ _
   | exact lex_scanner_escaped.mono _ _ _ _ _
   | exact LeO.none _
   | refine LeO.ite ?_ ?_
   | refine LeO.bind ?_ (fun _ => ?_)
  ·intro y0 y1 y2 y3 y4 y5 y6 y7
   unfold lex_scanner_quoted.j1
   repeat' first
   | (with_reducible exact ih0 _ _ _ _ _ _)
   | (with_reducible exact ih1 _ _ _ _ _ _ _ _)
   | (with_reducible exact lex_scanner_escaped.mono _ _ _ _ _)
   | (with_reducible exact LeO.refl _)
   | (with_reducible exact LeO.none _)
   | (with_reducible refine LeO.ite ?_ ?_)
   | (with_reducible refine LeO.bind ?_ (fun _ => ?_))
   | exact ih0 _ _ _ _ _ _
   | exact ih1 _ _ _ _ _ _ _ _
   | exact lex_scanner_escaped.mono _ _ _ _ _
   | exact LeO.none _
   | refine LeO.ite ?_ ?_
   | refine LeO.bind ?_ (fun _ => ?_)
theorem lex_scanner_quoted.mono : ∀ a0 a1 a2 a3 k, LeO (lex_scanner_quoted.f k a0 a1 a2 a3) (lex_scanner_quoted.f (k + 1) a0 a1 a2 a3) := by
 intro a0 a1 a2 a3 k
 obtain ⟨ih0, ih1⟩ := lex_scanner_quoted.mono_l k
 unfold lex_scanner_quoted.f
 repeat' first
   | (with_reducible exact ih0 _ _ _ _ _ _)
   | (with_reducible exact ih1 _ _ _ _ _ _ _ _)
   | (with_reducible exact lex_scanner_escaped.mono _ _ _ _ _)
   | (with_reducible exact LeO.refl _)
   | (with_reducible exact LeO.none _)
   | (with_reducible refine LeO.ite ?_ ?_)
   | (with_reducible refine LeO.bind ?_ (fun _ => ?_))
   | exact ih0 _ _ _ _ _ _
   | exact ih1 _ _ _ _ _ _ _ _
   | exact lex_scanner_escaped.mono _ _ _ _ _
   | exact LeO.none _
   | refine LeO.ite ?_ ?_
   | refine LeO.bind ?_ (fun _ => ?_)
set_option maxHeartbeats 8000000 in
set_option maxRecDepth 100000 in
theorem lex_scanner_quoted.calls (k : Nat) (g : Nat) (s0_0 : ByteArray) (s0_1 : Int) (a1 : Int) (a2 : Bool) (r1 : ByteArray) (r2 : ByteArray) (r3 : Int) (w0 w : World) (hI : IsS75 w0 w g s0_0 s0_1) (hB : Below w0.heap.size w0 w) (h : lex_scanner_quoted.f k s0_0 s0_1 a1 a2 = some (r1, r2, r3)) :
  Calls Tryz.prog 95 #[.pointer (some ⟨g, 0, none⟩), .int .u8 a1, .bool a2] w fun e w' => e = .returned (.string r1) ∧ IsS75 w0 w' g r2 r3 ∧ Below w0.heap.size w0 w' ∧ KeepBut w w' g none := by
 have HI0 := Aside0.mk hI
 have HK := Aside0.mk (KeepBut.refl w g none)
 have HL := Aside0.mk hB.size
 clear hI
 have HW0 := Aside0.mk hB.size
 have HB := Aside0.mk hB
 clear hB
 have H : (lex_scanner_quoted.l0 k a1 a2 s0_1 ([] : List Int) s0_0 (wrap64 (s0_1 + 1))) = some (r1, r2, r3) := h
 clear h
 have H' := Aside0.mk H
 clear H
 obtain ⟨HGz4, hgz4⟩ := HI0.out
 have hcz4_0 := cellS75_0 HGz4
 have hcz4_1 := cellS75_1 HGz4
 have hfz4_0 := blk_frozen HGz4 0
 have hfz4_1 := blk_frozen HGz4 1
 clear HGz4 hgz4
 go_enter Tryz.func95, Tryz.ntmps95
 go_wp2
 repeat (go_quiet (fail); try go_wp2)
 go_loopg [8] k (fun kq v8 w' => ∃ (x8_1 : List Int) (x1000_1 : ByteArray) (x1001_1 : Int), Aside0 (lex_scanner_quoted.l0 kq a1 a2 s0_1 x8_1 x1000_1 x1001_1 = some (r1, r2, r3)) ∧ Aside0 (kq ≤ k) ∧ Aside0 (Kd.R (Kd.int .u8) 5 w' w.heap.size (fun _ => True) v8 x8_1) ∧ Aside0 (IsS75 w0 w' g x1000_1 x1001_1) ∧ Aside0 (KeepBut w w' g none) ∧ Aside0 (Below w0.heap.size w0 w'))
 case atStart => exact ⟨(([] : List Int)), (s0_0), (wrap64 (s0_1 + 1)), H', ⟨Nat.le_refl _⟩, ⟨z28_⟩, ⟨by have G0 := HI0; exact z6_⟩, ⟨z3_⟩, ⟨by have G0 := HI0; exact z7_⟩⟩
 case round =>
  clear H'
  try clear p2
  try clear hcz4_0
  try clear hcz4_1
  try clear hfz4_0
  try clear hfz4_1
  obtain ⟨x8_1, x1000_1, x1001_1, HA, HK1, HO_8, HI0, HK, HB⟩ := hrel
  cases gk with
  | zero => exact absurd HA.out (by simp [lex_scanner_quoted.l0])
  | succ k1 =>
   have H := HA.out
   clear HA
   simp only [lex_scanner_quoted.l0] at H
   replace H := Option.bind_eq_some_iff.mp H
   obtain ⟨⟨t126, t127, t128⟩, A50, H⟩ := H
   replace H : (if t126 = a1 then (some (strOfNums x8_1, t127, wrap64 (t128 + 1))) else ((lex_scanner_ch.f t127 t128 t128).bind fun bt129 => (if bt129.2.2 ≥ (bt129.2.1.size : Int) then (lex_scanner_quoted.j1 k1 a1 a2 s0_1 x8_1 bt129.1 true bt129.2.1 bt129.2.2) else (if a2 = true then (if bt129.1 = 10 then (lex_scanner_quoted.j1 k1 a1 a2 s0_1 x8_1 bt129.1 true bt129.2.1 bt129.2.2) else (lex_scanner_quoted.j1 k1 a1 a2 s0_1 x8_1 bt129.1 (bt129.1 == 13) bt129.2.1 bt129.2.2)) else (lex_scanner_quoted.j1 k1 a1 a2 s0_1 x8_1 bt129.1 false bt129.2.1 bt129.2.2))))) = some (r1, r2, r3) := H
   have A5 := Aside0.mk A50
   clear A50
   by_cases c6 : t126 = a1
   ·rw [if_pos c6] at H
    have c6b0 : (t126 == a1) = true := beq_iff_eq.mpr c6
    have c6b1 : (t126 != a1) = false := bne_eq_false_iff_eq.mpr c6
    clear c6
    simp only [Option.some.injEq, Prod.mk.injEq] at H
    obtain ⟨rfl, rfl, rfl⟩ := H
    obtain ⟨HGz7, hgz7⟩ := HI0.out
    have hcz7_0 := cellS75_0 HGz7
    have hcz7_1 := cellS75_1 HGz7
    have hfz7_0 := blk_frozen HGz7 0
    have hfz7_1 := blk_frozen HGz7 1
    clear HGz7 hgz7
    go_wp2_with (first | (go_at_call 94; (with_reducible refine (lex_scanner_ch.calls g x1000_1 x1001_1 x1001_1 t126 t127 t128 w0 _ ?side1 ?side2 A5.out).mono ?_); (case side1 => repeat (first | (with_reducible first | exact HI0.out | apply IsS75.alloc | apply IsS75.drewN | apply IsS75.drew | apply IsS75.set_0 | apply IsS75.set_1) | exact HI0.out)); (case side2 => repeat (first | (with_reducible first | exact HB.out | apply below_alloc | apply pw_below_drewN | apply below_drew1 | refine below_set ?_ (IsS75.ge HI0.out)) | exact HB.out)); rintro e w8 ⟨rfl, hi, hb, hk⟩; replace HO_8 := Aside0.mk (Kd.R_mono (Kd.R_keep (IsS75.apart (show IsS75 w0 _ g x1000_1 x1001_1 from by repeat (first | (with_reducible first | exact HI0.out | apply IsS75.alloc | apply IsS75.drewN | apply IsS75.drew | apply IsS75.set_0 | apply IsS75.set_1) | exact HI0.out)) (by have G0 := HO_8; exact z1_) (by decide)) hk (fun _ h => h.2)) (fun _ h => h.1)); replace HK := Aside0.mk (KeepBut.trans z3_ hk (.inl rfl)); replace HB := Aside0.mk (hb); replace HI0 := Aside0.mk (hi); (try clear hb); (try clear hb2); (try clear hk); (try clear hi); obtain ⟨HGz9, hgz9⟩ := HI0.out; have hcz9_0 := cellS75_0 HGz9; have hcz9_1 := cellS75_1 HGz9; have hfz9_0 := blk_frozen HGz9 0; have hfz9_1 := blk_frozen HGz9 1; clear HGz9 hgz9; have hcv10 := own_string (P := Tryz.prog) Tryz.underlying62 Tryz.underlying5 Tryz.underlying9 (Kd.own_of_R HO_8.out); have hcv10s := fun (v_ : Value) => own_string (P := Tryz.prog) Tryz.underlying62 Tryz.underlying5 Tryz.underlying9 (Kd.own_of_R (Kd.R_far (p := ⟨g, 1, none⟩) (IsS75.apart HI0.out HO_8.out (by decide)) (fun _ hk => hk.2) v_))))
    repeat (go_quiet (first | (go_at_call 94; (with_reducible refine (lex_scanner_ch.calls g x1000_1 x1001_1 x1001_1 t126 t127 t128 w0 _ ?side1 ?side2 A5.out).mono ?_); (case side1 => repeat (first | (with_reducible first | exact HI0.out | apply IsS75.alloc | apply IsS75.drewN | apply IsS75.drew | apply IsS75.set_0 | apply IsS75.set_1) | exact HI0.out)); (case side2 => repeat (first | (with_reducible first | exact HB.out | apply below_alloc | apply pw_below_drewN | apply below_drew1 | refine below_set ?_ (IsS75.ge HI0.out)) | exact HB.out)); rintro e w8 ⟨rfl, hi, hb, hk⟩; replace HO_8 := Aside0.mk (Kd.R_mono (Kd.R_keep (IsS75.apart (show IsS75 w0 _ g x1000_1 x1001_1 from by repeat (first | (with_reducible first | exact HI0.out | apply IsS75.alloc | apply IsS75.drewN | apply IsS75.drew | apply IsS75.set_0 | apply IsS75.set_1) | exact HI0.out)) (by have G0 := HO_8; exact z1_) (by decide)) hk (fun _ h => h.2)) (fun _ h => h.1)); replace HK := Aside0.mk (KeepBut.trans z3_ hk (.inl rfl)); replace HB := Aside0.mk (hb); replace HI0 := Aside0.mk (hi); (try clear hb); (try clear hb2); (try clear hk); (try clear hi); obtain ⟨HGz9, hgz9⟩ := HI0.out; have hcz9_0 := cellS75_0 HGz9; have hcz9_1 := cellS75_1 HGz9; have hfz9_0 := blk_frozen HGz9 0; have hfz9_1 := blk_frozen HGz9 1; clear HGz9 hgz9; have hcv10 := own_string (P := Tryz.prog) Tryz.underlying62 Tryz.underlying5 Tryz.underlying9 (Kd.own_of_R HO_8.out); have hcv10s := fun (v_ : Value) => own_string (P := Tryz.prog) Tryz.underlying62 Tryz.underlying5 Tryz.underlying9 (Kd.own_of_R (Kd.R_far (p := ⟨g, 1, none⟩) (IsS75.apart HI0.out HO_8.out (by decide)) (fun _ hk => hk.2) v_)))); try go_wp2_with (first | (go_at_call 94; (with_reducible refine (lex_scanner_ch.calls g x1000_1 x1001_1 x1001_1 t126 t127 t128 w0 _ ?side1 ?side2 A5.out).mono ?_); (case side1 => repeat (first | (with_reducible first | exact HI0.out | apply IsS75.alloc | apply IsS75.drewN | apply IsS75.drew | apply IsS75.set_0 | apply IsS75.set_1) | exact HI0.out)); (case side2 => repeat (first | (with_reducible first | exact HB.out | apply below_alloc | apply pw_below_drewN | apply below_drew1 | refine below_set ?_ (IsS75.ge HI0.out)) | exact HB.out)); rintro e w8 ⟨rfl, hi, hb, hk⟩; replace HO_8 := Aside0.mk (Kd.R_mono (Kd.R_keep (IsS75.apart (show IsS75 w0 _ g x1000_1 x1001_1 from by repeat (first | (with_reducible first | exact HI0.out | apply IsS75.alloc | apply IsS75.drewN | apply IsS75.drew | apply IsS75.set_0 | apply IsS75.set_1) | exact HI0.out)) (by have G0 := HO_8; exact z1_) (by decide)) hk (fun _ h => h.2)) (fun _ h => h.1)); replace HK := Aside0.mk (KeepBut.trans z3_ hk (.inl rfl)); replace HB := Aside0.mk (hb); replace HI0 := Aside0.mk (hi); (try clear hb); (try clear hb2); (try clear hk); (try clear hi); obtain ⟨HGz9, hgz9⟩ := HI0.out; have hcz9_0 := cellS75_0 HGz9; have hcz9_1 := cellS75_1 HGz9; have hfz9_0 := blk_frozen HGz9 0; have hfz9_1 := blk_frozen HGz9 1; clear HGz9 hgz9; have hcv10 := own_string (P := Tryz.prog) Tryz.underlying62 Tryz.underlying5 Tryz.underlying9 (Kd.own_of_R HO_8.out); have hcv10s := fun (v_ : Value) => own_string (P := Tryz.prog) Tryz.underlying62 Tryz.underlying5 Tryz.underlying9 (Kd.own_of_R (Kd.R_far (p := ⟨g, 1, none⟩) (IsS75.apart HI0.out HO_8.out (by decide)) (fun _ hk => hk.2) v_)))))
    go_ret
    exact ⟨e2_, by have G0 := HI0; exact z6_, by have G0 := HI0; exact z7_, z3_⟩
   ·rw [if_neg c6] at H
    have c6b0 : (t126 == a1) = false := beq_eq_false_iff_ne.mpr c6
    have c6b1 : (t126 != a1) = true := bne_iff_ne.mpr c6
    replace H := Option.bind_eq_some_iff.mp H
    obtain ⟨⟨t129, t130, t131⟩, A110, H⟩ := H
    replace H : (if t131 ≥ (t130.size : Int) then (lex_scanner_quoted.j1 k1 a1 a2 s0_1 x8_1 t129 true t130 t131) else (if a2 = true then (if t129 = 10 then (lex_scanner_quoted.j1 k1 a1 a2 s0_1 x8_1 t129 true t130 t131) else (lex_scanner_quoted.j1 k1 a1 a2 s0_1 x8_1 t129 (t129 == 13) t130 t131)) else (lex_scanner_quoted.j1 k1 a1 a2 s0_1 x8_1 t129 false t130 t131))) = some (r1, r2, r3) := H
    have A11 := Aside0.mk A110
    clear A110
    have HC12 := Aside0.mk H
    clear H
    obtain ⟨HGz13, hgz13⟩ := HI0.out
    have hcz13_0 := cellS75_0 HGz13
    have hcz13_1 := cellS75_1 HGz13
    have hfz13_0 := blk_frozen HGz13 0
    have hfz13_1 := blk_frozen HGz13 1
    clear HGz13 hgz13
    go_upto_region 8 with (first | (go_at_call 94; (with_reducible refine (lex_scanner_ch.calls g x1000_1 x1001_1 x1001_1 t126 t127 t128 w0 _ ?side1 ?side2 A5.out).mono ?_); (case side1 => repeat (first | (with_reducible first | exact HI0.out | apply IsS75.alloc | apply IsS75.drewN | apply IsS75.drew | apply IsS75.set_0 | apply IsS75.set_1) | exact HI0.out)); (case side2 => repeat (first | (with_reducible first | exact HB.out | apply below_alloc | apply pw_below_drewN | apply below_drew1 | refine below_set ?_ (IsS75.ge HI0.out)) | exact HB.out)); rintro e w14 ⟨rfl, hi, hb, hk⟩; replace HO_8 := Aside0.mk (Kd.R_mono (Kd.R_keep (IsS75.apart (show IsS75 w0 _ g x1000_1 x1001_1 from by repeat (first | (with_reducible first | exact HI0.out | apply IsS75.alloc | apply IsS75.drewN | apply IsS75.drew | apply IsS75.set_0 | apply IsS75.set_1) | exact HI0.out)) (by have G0 := HO_8; exact z1_) (by decide)) hk (fun _ h => h.2)) (fun _ h => h.1)); replace HK := Aside0.mk (KeepBut.trans z3_ hk (.inl rfl)); replace HB := Aside0.mk (hb); replace HI0 := Aside0.mk (hi); (try clear hb); (try clear hb2); (try clear hk); (try clear hi); obtain ⟨HGz15, hgz15⟩ := HI0.out; have hcz15_0 := cellS75_0 HGz15; have hcz15_1 := cellS75_1 HGz15; have hfz15_0 := blk_frozen HGz15 0; have hfz15_1 := blk_frozen HGz15 1; clear HGz15 hgz15) | (go_at_call 94; (with_reducible refine (lex_scanner_ch.calls g t127 t128 t128 t129 t130 t131 w0 _ ?side1 ?side2 A11.out).mono ?_); (case side1 => repeat (first | (with_reducible first | exact HI0.out | apply IsS75.alloc | apply IsS75.drewN | apply IsS75.drew | apply IsS75.set_0 | apply IsS75.set_1) | exact HI0.out)); (case side2 => repeat (first | (with_reducible first | exact HB.out | apply below_alloc | apply pw_below_drewN | apply below_drew1 | refine below_set ?_ (IsS75.ge HI0.out)) | exact HB.out)); rintro e w16 ⟨rfl, hi, hb, hk⟩; replace HO_8 := Aside0.mk (Kd.R_mono (Kd.R_keep (IsS75.apart (show IsS75 w0 _ g t127 t128 from by repeat (first | (with_reducible first | exact HI0.out | apply IsS75.alloc | apply IsS75.drewN | apply IsS75.drew | apply IsS75.set_0 | apply IsS75.set_1) | exact HI0.out)) (by have G0 := HO_8; exact z1_) (by decide)) hk (fun _ h => h.2)) (fun _ h => h.1)); replace HK := Aside0.mk (KeepBut.trans z3_ hk (.inl rfl)); replace HB := Aside0.mk (hb); replace HI0 := Aside0.mk (hi); (try clear hb); (try clear hb2); (try clear hk); (try clear hi)))
    repeat (go_quiet (first | (go_at_call 94; (with_reducible refine (lex_scanner_ch.calls g x1000_1 x1001_1 x1001_1 t126 t127 t128 w0 _ ?side1 ?side2 A5.out).mono ?_); (case side1 => repeat (first | (with_reducible first | exact HI0.out | apply IsS75.alloc | apply IsS75.drewN | apply IsS75.drew | apply IsS75.set_0 | apply IsS75.set_1) | exact HI0.out)); (case side2 => repeat (first | (with_reducible first | exact HB.out | apply below_alloc | apply pw_below_drewN | apply below_drew1 | refine below_set ?_ (IsS75.ge HI0.out)) | exact HB.out)); rintro e w14 ⟨rfl, hi, hb, hk⟩; replace HO_8 := Aside0.mk (Kd.R_mono (Kd.R_keep (IsS75.apart (show IsS75 w0 _ g x1000_1 x1001_1 from by repeat (first | (with_reducible first | exact HI0.out | apply IsS75.alloc | apply IsS75.drewN | apply IsS75.drew | apply IsS75.set_0 | apply IsS75.set_1) | exact HI0.out)) (by have G0 := HO_8; exact z1_) (by decide)) hk (fun _ h => h.2)) (fun _ h => h.1)); replace HK := Aside0.mk (KeepBut.trans z3_ hk (.inl rfl)); replace HB := Aside0.mk (hb); replace HI0 := Aside0.mk (hi); (try clear hb); (try clear hb2); (try clear hk); (try clear hi); obtain ⟨HGz15, hgz15⟩ := HI0.out; have hcz15_0 := cellS75_0 HGz15; have hcz15_1 := cellS75_1 HGz15; have hfz15_0 := blk_frozen HGz15 0; have hfz15_1 := blk_frozen HGz15 1; clear HGz15 hgz15) | (go_at_call 94; (with_reducible refine (lex_scanner_ch.calls g t127 t128 t128 t129 t130 t131 w0 _ ?side1 ?side2 A11.out).mono ?_); (case side1 => repeat (first | (with_reducible first | exact HI0.out | apply IsS75.alloc | apply IsS75.drewN | apply IsS75.drew | apply IsS75.set_0 | apply IsS75.set_1) | exact HI0.out)); (case side2 => repeat (first | (with_reducible first | exact HB.out | apply below_alloc | apply pw_below_drewN | apply below_drew1 | refine below_set ?_ (IsS75.ge HI0.out)) | exact HB.out)); rintro e w16 ⟨rfl, hi, hb, hk⟩; replace HO_8 := Aside0.mk (Kd.R_mono (Kd.R_keep (IsS75.apart (show IsS75 w0 _ g t127 t128 from by repeat (first | (with_reducible first | exact HI0.out | apply IsS75.alloc | apply IsS75.drewN | apply IsS75.drew | apply IsS75.set_0 | apply IsS75.set_1) | exact HI0.out)) (by have G0 := HO_8; exact z1_) (by decide)) hk (fun _ h => h.2)) (fun _ h => h.1)); replace HK := Aside0.mk (KeepBut.trans z3_ hk (.inl rfl)); replace HB := Aside0.mk (hb); replace HI0 := Aside0.mk (hi); (try clear hb); (try clear hb2); (try clear hk); (try clear hi))); go_upto_region 8 with (first | (go_at_call 94; (with_reducible refine (lex_scanner_ch.calls g x1000_1 x1001_1 x1001_1 t126 t127 t128 w0 _ ?side1 ?side2 A5.out).mono ?_); (case side1 => repeat (first | (with_reducible first | exact HI0.out | apply IsS75.alloc | apply IsS75.drewN | apply IsS75.drew | apply IsS75.set_0 | apply IsS75.set_1) | exact HI0.out)); (case side2 => repeat (first | (with_reducible first | exact HB.out | apply below_alloc | apply pw_below_drewN | apply below_drew1 | refine below_set ?_ (IsS75.ge HI0.out)) | exact HB.out)); rintro e w14 ⟨rfl, hi, hb, hk⟩; replace HO_8 := Aside0.mk (Kd.R_mono (Kd.R_keep (IsS75.apart (show IsS75 w0 _ g x1000_1 x1001_1 from by repeat (first | (with_reducible first | exact HI0.out | apply IsS75.alloc | apply IsS75.drewN | apply IsS75.drew | apply IsS75.set_0 | apply IsS75.set_1) | exact HI0.out)) (by have G0 := HO_8; exact z1_) (by decide)) hk (fun _ h => h.2)) (fun _ h => h.1)); replace HK := Aside0.mk (KeepBut.trans z3_ hk (.inl rfl)); replace HB := Aside0.mk (hb); replace HI0 := Aside0.mk (hi); (try clear hb); (try clear hb2); (try clear hk); (try clear hi); obtain ⟨HGz15, hgz15⟩ := HI0.out; have hcz15_0 := cellS75_0 HGz15; have hcz15_1 := cellS75_1 HGz15; have hfz15_0 := blk_frozen HGz15 0; have hfz15_1 := blk_frozen HGz15 1; clear HGz15 hgz15) | (go_at_call 94; (with_reducible refine (lex_scanner_ch.calls g t127 t128 t128 t129 t130 t131 w0 _ ?side1 ?side2 A11.out).mono ?_); (case side1 => repeat (first | (with_reducible first | exact HI0.out | apply IsS75.alloc | apply IsS75.drewN | apply IsS75.drew | apply IsS75.set_0 | apply IsS75.set_1) | exact HI0.out)); (case side2 => repeat (first | (with_reducible first | exact HB.out | apply below_alloc | apply pw_below_drewN | apply below_drew1 | refine below_set ?_ (IsS75.ge HI0.out)) | exact HB.out)); rintro e w16 ⟨rfl, hi, hb, hk⟩; replace HO_8 := Aside0.mk (Kd.R_mono (Kd.R_keep (IsS75.apart (show IsS75 w0 _ g t127 t128 from by repeat (first | (with_reducible first | exact HI0.out | apply IsS75.alloc | apply IsS75.drewN | apply IsS75.drew | apply IsS75.set_0 | apply IsS75.set_1) | exact HI0.out)) (by have G0 := HO_8; exact z1_) (by decide)) hk (fun _ h => h.2)) (fun _ h => h.1)); replace HK := Aside0.mk (KeepBut.trans z3_ hk (.inl rfl)); replace HB := Aside0.mk (hb); replace HI0 := Aside0.mk (hi); (try clear hb); (try clear hb2); (try clear hk); (try clear hi))))
    (try simp only [Act.put, List.setIfInBounds_toArray, List.set_cons_zero, List.set_cons_succ])
    go_cut [46] (fun v46 wc => ∃ (kq : Nat) (x46_11 : Bool), v46 = .bool x46_11 ∧ Aside0 (lex_scanner_quoted.j1 kq a1 a2 s0_1 x8_1 t129 x46_11 t130 t131 = some (r1, r2, r3)) ∧ Aside0 (kq ≤ k1) ∧ Aside0 (Kd.R (Kd.int .u8) 5 wc w.heap.size (fun _ => True) u8 x8_1) ∧ Aside0 (IsS75 w0 wc g t130 t131) ∧ Aside0 (KeepBut w wc g none) ∧ Aside0 (Below w0.heap.size w0 wc))
    case first =>
     have H := HC12.out
     clear HC12
     by_cases c17 : t131 ≥ (t130.size : Int)
     ·rw [if_pos c17] at H
      have c17b0 : decide ((t130.size : Int) ≤ t131) = true := decide_eq_true c17
      clear c17
      (first | rw [c17b0] | (simp only [i64_w, i32_w]; rw [c17b0]) | skip)
      have H' := Aside0.mk H
      clear H
      obtain ⟨HGz18, hgz18⟩ := HI0.out
      have hcz18_0 := cellS75_0 HGz18
      have hcz18_1 := cellS75_1 HGz18
      have hfz18_0 := blk_frozen HGz18 0
      have hfz18_1 := blk_frozen HGz18 1
      clear HGz18 hgz18
      go_wp2
      repeat (go_quiet (fail); try go_wp2)
      go_meet
      case rel => exact ⟨_, (true), e1_, H', ⟨o1_⟩, ⟨by have G0 := HO_8; exact z1_⟩, ⟨by have G0 := HI0; exact z6_⟩, ⟨z3_⟩, ⟨by have G0 := HI0; exact z7_⟩⟩
     ·rw [if_neg c17] at H
      have c17b0 : decide ((t130.size : Int) ≤ t131) = false := decide_eq_false c17
      clear c17
      (first | rw [c17b0] | (simp only [i64_w, i32_w]; rw [c17b0]) | skip)
      by_cases c19 : a2 = true
      ·subst c19
       have H1 : (if t129 = 10 then (lex_scanner_quoted.j1 k1 a1 true s0_1 x8_1 t129 true t130 t131) else (lex_scanner_quoted.j1 k1 a1 true s0_1 x8_1 t129 (t129 == 13) t130 t131)) = some (r1, r2, r3) := by rw [if_pos rfl] at H; exact H
       clear H
       have H := H1
       clear H1
       by_cases c20 : t129 = 10
       ·rw [if_pos c20] at H
        have c20b0 : (t129 == 10) = true := beq_iff_eq.mpr c20
        have c20b1 : (t129 != 10) = false := bne_eq_false_iff_eq.mpr c20
        clear c20
        have H' := Aside0.mk H
        clear H
        obtain ⟨HGz21, hgz21⟩ := HI0.out
        have hcz21_0 := cellS75_0 HGz21
        have hcz21_1 := cellS75_1 HGz21
        have hfz21_0 := blk_frozen HGz21 0
        have hfz21_1 := blk_frozen HGz21 1
        clear HGz21 hgz21
        go_wp2
        repeat (go_quiet (fail); try go_wp2)
        go_meet
        case rel => exact ⟨_, (true), e1_, H', ⟨o1_⟩, ⟨by have G0 := HO_8; exact z1_⟩, ⟨by have G0 := HI0; exact z6_⟩, ⟨z3_⟩, ⟨by have G0 := HI0; exact z7_⟩⟩
       ·rw [if_neg c20] at H
        have c20b0 : (t129 == 10) = false := beq_eq_false_iff_ne.mpr c20
        have c20b1 : (t129 != 10) = true := bne_iff_ne.mpr c20
        have H' := Aside0.mk H
        clear H
        obtain ⟨HGz22, hgz22⟩ := HI0.out
        have hcz22_0 := cellS75_0 HGz22
        have hcz22_1 := cellS75_1 HGz22
        have hfz22_0 := blk_frozen HGz22 0
        have hfz22_1 := blk_frozen HGz22 1
        clear HGz22 hgz22
        go_wp2
        repeat (go_quiet (fail); try go_wp2)
        go_meet
        case rel => exact ⟨_, ((t129 == 13)), e1_, H', ⟨o1_⟩, ⟨by have G0 := HO_8; exact z1_⟩, ⟨by have G0 := HI0; exact z6_⟩, ⟨z3_⟩, ⟨by have G0 := HI0; exact z7_⟩⟩
      ·replace c19 := Bool.eq_false_iff.mpr c19
       subst c19
       have H1 : (lex_scanner_quoted.j1 k1 a1 false s0_1 x8_1 t129 false t130 t131) = some (r1, r2, r3) := by rw [if_neg (show ¬ (false = true) by decide)] at H; exact H
       clear H
       have H := H1
       clear H1
       have H' := Aside0.mk H
       clear H
       obtain ⟨HGz23, hgz23⟩ := HI0.out
       have hcz23_0 := cellS75_0 HGz23
       have hcz23_1 := cellS75_1 HGz23
       have hfz23_0 := blk_frozen HGz23 0
       have hfz23_1 := blk_frozen HGz23 1
       clear HGz23 hgz23
       go_wp2
       repeat (go_quiet (fail); try go_wp2)
       go_meet
       case rel => exact ⟨_, (false), e1_, H', ⟨o1_⟩, ⟨by have G0 := HO_8; exact z1_⟩, ⟨by have G0 := HI0; exact z6_⟩, ⟨z3_⟩, ⟨by have G0 := HI0; exact z7_⟩⟩
    case rest =>
     clear HC12
     try clear c1
     try clear hcv1
     try clear c2
     try clear p2
     try clear c6
     try clear c6b0
     try clear c6b1
     try clear p6
     try clear c9
     try clear hcv10
     try clear c17
     try clear c17b0
     try clear c19
     try clear c20
     try clear c20b0
     try clear c20b1
     try clear hcz13_0
     try clear hcz13_1
     try clear hcz15_0
     try clear hcz15_1
     try clear hcz18_0
     try clear hcz18_1
     try clear hcz21_0
     try clear hcz21_1
     try clear hcz22_0
     try clear hcz22_1
     try clear hcz23_0
     try clear hcz23_1
     try clear hcz4_0
     try clear hcz4_1
     try clear hcz7_0
     try clear hcz7_1
     try clear hcz9_0
     try clear hcz9_1
     try clear hfz13_0
     try clear hfz13_1
     try clear hfz15_0
     try clear hfz15_1
     try clear hfz18_0
     try clear hfz18_1
     try clear hfz21_0
     try clear hfz21_1
     try clear hfz22_0
     try clear hfz22_1
     try clear hfz23_0
     try clear hfz23_1
     try clear hfz4_0
     try clear hfz4_1
     try clear hfz7_0
     try clear hfz7_1
     try clear hfz9_0
     try clear hfz9_1
     try clear p2
     obtain ⟨kq, x46_11, rfl, HA, HJ11, HO_8, HI0, HK, HB⟩ := hcut
     cases kq with
     | zero => exact absurd HA.out (by simp [lex_scanner_quoted.j1])
     | succ kj11 =>
      have H := HA.out
      clear HA
      simp only [lex_scanner_quoted.j1] at H
      by_cases c24 : x46_11 = true
      ·subst c24
       have H1 : ((lex_scanner_fail.f t130 t131 s0_1).bind fun bt132 => (lex_scanner_quoted.l0 kj11 a1 a2 s0_1 x8_1 bt132.1 bt132.2)) = some (r1, r2, r3) := by rw [if_pos rfl] at H; exact H
       clear H
       have H := H1
       clear H1
       replace H := Option.bind_eq_some_iff.mp H
       obtain ⟨⟨t132, t133⟩, A250, H⟩ := H
       replace H : (lex_scanner_quoted.l0 kj11 a1 a2 s0_1 x8_1 t132 t133) = some (r1, r2, r3) := H
       have A25 := Aside0.mk A250
       clear A250
       have H' := Aside0.mk H
       clear H
       go_wp2_with (first | (go_at_call 70; (with_reducible refine (lex_scanner_fail.calls g t130 t131 s0_1 t132 t133 w0 _ ?side1 ?side2 A25.out).mono ?_); (case side1 => repeat (first | (with_reducible first | exact HI0.out | apply IsS75.alloc | apply IsS75.drewN | apply IsS75.drew | apply IsS75.set_0 | apply IsS75.set_1) | exact HI0.out)); (case side2 => repeat (first | (with_reducible first | exact HB.out | apply below_alloc | apply pw_below_drewN | apply below_drew1 | refine below_set ?_ (IsS75.ge HI0.out)) | exact HB.out)); rintro e w26 ⟨rfl, hi, hb, hk⟩; replace HO_8 := Aside0.mk (Kd.R_mono (Kd.R_keep (IsS75.apart (show IsS75 w0 _ g t130 t131 from by repeat (first | (with_reducible first | exact HI0.out | apply IsS75.alloc | apply IsS75.drewN | apply IsS75.drew | apply IsS75.set_0 | apply IsS75.set_1) | exact HI0.out)) (by have G0 := HO_8; exact z1_) (by decide)) hk (fun _ h => h.2)) (fun _ h => h.1)); replace HK := Aside0.mk (KeepBut.trans z3_ hk (.inl rfl)); replace HB := Aside0.mk (hb); replace HI0 := Aside0.mk (hi); (try clear hb); (try clear hb2); (try clear hk); (try clear hi)))
       repeat (go_quiet (first | (go_at_call 70; (with_reducible refine (lex_scanner_fail.calls g t130 t131 s0_1 t132 t133 w0 _ ?side1 ?side2 A25.out).mono ?_); (case side1 => repeat (first | (with_reducible first | exact HI0.out | apply IsS75.alloc | apply IsS75.drewN | apply IsS75.drew | apply IsS75.set_0 | apply IsS75.set_1) | exact HI0.out)); (case side2 => repeat (first | (with_reducible first | exact HB.out | apply below_alloc | apply pw_below_drewN | apply below_drew1 | refine below_set ?_ (IsS75.ge HI0.out)) | exact HB.out)); rintro e w26 ⟨rfl, hi, hb, hk⟩; replace HO_8 := Aside0.mk (Kd.R_mono (Kd.R_keep (IsS75.apart (show IsS75 w0 _ g t130 t131 from by repeat (first | (with_reducible first | exact HI0.out | apply IsS75.alloc | apply IsS75.drewN | apply IsS75.drew | apply IsS75.set_0 | apply IsS75.set_1) | exact HI0.out)) (by have G0 := HO_8; exact z1_) (by decide)) hk (fun _ h => h.2)) (fun _ h => h.1)); replace HK := Aside0.mk (KeepBut.trans z3_ hk (.inl rfl)); replace HB := Aside0.mk (hb); replace HI0 := Aside0.mk (hi); (try clear hb); (try clear hb2); (try clear hk); (try clear hi))); try go_wp2_with (first | (go_at_call 70; (with_reducible refine (lex_scanner_fail.calls g t130 t131 s0_1 t132 t133 w0 _ ?side1 ?side2 A25.out).mono ?_); (case side1 => repeat (first | (with_reducible first | exact HI0.out | apply IsS75.alloc | apply IsS75.drewN | apply IsS75.drew | apply IsS75.set_0 | apply IsS75.set_1) | exact HI0.out)); (case side2 => repeat (first | (with_reducible first | exact HB.out | apply below_alloc | apply pw_below_drewN | apply below_drew1 | refine below_set ?_ (IsS75.ge HI0.out)) | exact HB.out)); rintro e w26 ⟨rfl, hi, hb, hk⟩; replace HO_8 := Aside0.mk (Kd.R_mono (Kd.R_keep (IsS75.apart (show IsS75 w0 _ g t130 t131 from by repeat (first | (with_reducible first | exact HI0.out | apply IsS75.alloc | apply IsS75.drewN | apply IsS75.drew | apply IsS75.set_0 | apply IsS75.set_1) | exact HI0.out)) (by have G0 := HO_8; exact z1_) (by decide)) hk (fun _ h => h.2)) (fun _ h => h.1)); replace HK := Aside0.mk (KeepBut.trans z3_ hk (.inl rfl)); replace HB := Aside0.mk (hb); replace HI0 := Aside0.mk (hi); (try clear hb); (try clear hb2); (try clear hk); (try clear hi))))
       go_roundg kj11
       case measure => have := HK1.out; have := HJ11.out; omega
       case rel => exact ⟨(x8_1), (t132), (t133), H', ⟨by have := HK1.out; have := HJ11.out; omega⟩, ⟨by have G0 := HO_8; exact z1_⟩, ⟨by have G0 := HI0; exact z6_⟩, ⟨z3_⟩, ⟨by have G0 := HI0; exact z7_⟩⟩
      ·replace c24 := Bool.eq_false_iff.mpr c24
       subst c24
       have H1 : (if t129 = 92 then ((lex_scanner_escaped.f kj11 t130 t131 s0_1 a2).bind fun bt134 => (if x8_1.length + bt134.1.length < 140737488355328 then (lex_scanner_quoted.l0 kj11 a1 a2 s0_1 (x8_1 ++ bt134.1) bt134.2.1 bt134.2.2) else (none))) else (if x8_1.length < 140737488355328 then (lex_scanner_quoted.l0 kj11 a1 a2 s0_1 (x8_1 ++ [t129]) t130 (wrap64 (t131 + 1))) else (none))) = some (r1, r2, r3) := by rw [if_neg (show ¬ (false = true) by decide)] at H; exact H
       clear H
       have H := H1
       clear H1
       by_cases c27 : t129 = 92
       ·rw [if_pos c27] at H
        have c27b0 : (t129 == 92) = true := beq_iff_eq.mpr c27
        have c27b1 : (t129 != 92) = false := bne_eq_false_iff_eq.mpr c27
        clear c27
        replace H := Option.bind_eq_some_iff.mp H
        obtain ⟨⟨t134, t137, t138⟩, A280, H⟩ := H
        replace H : (if x8_1.length + t134.length < 140737488355328 then (lex_scanner_quoted.l0 kj11 a1 a2 s0_1 (x8_1 ++ t134) t137 t138) else (none)) = some (r1, r2, r3) := H
        have A28 := Aside0.mk A280
        clear A280
        by_cases c29 : x8_1.length + t134.length < 140737488355328
        ·rw [if_pos c29] at H
         have LMc29 := Aside0.mk c29
         clear c29
         obtain ⟨y139, hy139⟩ : ∃ y_ : List Int, y_ = (x8_1 ++ t134) := ⟨_, rfl⟩
         replace H : (lex_scanner_quoted.l0 kj11 a1 a2 s0_1 y139 t137 t138) = some (r1, r2, r3) := by first | (rw [hy139]; with_reducible exact H) | (have H2_ := (Option.bind_some _ _).symm.trans H; rw [hy139]; with_reducible exact H2_) | (have H2_ := (Option.bind_some _ _).symm.trans H; with_reducible exact H2_) | with_reducible exact H | (rw [hy139]; exact H) | exact H
         have Ny139 := Aside0.mk hy139
         clear hy139
         have H' := Aside0.mk H
         clear H
         go_wp2_with (first | (go_at_call 110; (with_reducible refine (lex_scanner_escaped.calls kj11 g t130 t131 s0_1 a2 t134 t137 t138 w0 _ ?side1 ?side2 A28.out).mono ?_); (case side1 => repeat (first | (with_reducible first | exact HI0.out | apply IsS75.alloc | apply IsS75.drewN | apply IsS75.drew | apply IsS75.set_0 | apply IsS75.set_1) | exact HI0.out)); (case side2 => repeat (first | (with_reducible first | exact HB.out | apply below_alloc | apply pw_below_drewN | apply below_drew1 | refine below_set ?_ (IsS75.ge HI0.out)) | exact HB.out)); rintro e w30 ⟨v135, rfl, ho0, hi, hb, hk⟩; have HO136 := Aside0.mk (Kd.R_lower (Kd.R_new' ho0 (Kd.R_lt (by have G0 := HO_8; exact z1_))) (keep_size (w := w) (g := g) (row := none) z3_)); replace HO_8 := Aside0.mk (Kd.R_mono (Kd.R_told (Kd.R_oldK (IsS75.apart (show IsS75 w0 _ g t130 t131 from by repeat (first | (with_reducible first | exact HI0.out | apply IsS75.alloc | apply IsS75.drewN | apply IsS75.drew | apply IsS75.set_0 | apply IsS75.set_1) | exact HI0.out)) (by have G0 := HO_8; exact z1_) (by decide)) hk) (Kd.R_base ho0)) (fun _ h_ => h_.1)); replace HK := Aside0.mk (KeepBut.trans z3_ hk (.inl rfl)); replace HB := Aside0.mk (hb); replace HI0 := Aside0.mk (hi); (try clear hb); (try clear hb2); (try clear hk); (try clear hi); (try clear ho0); obtain ⟨Ao32, co32, eo32⟩ := Kd.R_slice HO136.out; subst eo32) | ((with_reducible refine gate_builtin (b := .append) (xs := #[(.tmp 74), .tmp 78]) rfl ?_); at_builtin; refine Kd.R_append_rows (Kd.int .u8) w.heap.size rfl (.tmp 74) (.tmp 78) 62 5 (.int .u8 0) 1 rfl Tryz.underlying62 info5 rfl (by decide) (by omega) u8 x8_1 t134 _ _ _ (fun k_ => some k_ ≠ (.slice Ao32 t134.length co32 : Value).ownBlock) (fun _ => False) rfl rfl ?aO ?aR (fun _ _ h => h) (fun _ h => h.elim) ?aF (Below.refl _ _) ?aS ?aL ?_; (case aR => repeat (first | exact (Kd.R_reads' HO136.out).2.2 | (with_reducible refine Kd.C_alloc ?_ _) | (with_reducible refine Kd.C_drewN ?_ _) | (with_reducible refine Kd.C_drew ?_))); (case aF => exact (fun k_ hk => Kd.fresh' (Kd.R_lt (by have G0 := HO136; exact z1_)) k_ hk)); (case aO => exact (by have G0 := HO_8; exact z11_)); (case aS => exact (keep_size (w := w) (g := g) (row := none) z3_)); (case aL => have := LMc29.out; omega); intro v140 w31 ho hb hg hat; rw [← Ny139.out] at ho; have n0_ := Aside0.mk (IsS75.grown (by have G0 := HI0; exact z6_) hg (IsS75.own_ne HI0.out HO_8.out (by decide))); have n1_ := Aside0.mk (Kd.R_after (ok := (fun _ => True)) (by have G0 := HO136; exact z1_) hg hat); have n2_ := Aside0.mk (below_weaken (by have G0 := HI0; exact z7_) HL.out hb); have n3_ := Aside0.mk (KeepBut.trans z3_ (KeepBut.of_grown hg g) (Kd.R_base2 HO_8.out)); have n4_ := Aside0.mk (ho); clear HI0; clear HO136; clear HB; clear HK; clear HO_8; have HI0 := n0_; have HO136 := n1_; have HB := n2_; have HK := n3_; have HO141 := n4_; clear n0_ n1_ n2_ n3_ n4_; clear ho hb hg hat))
         repeat (go_quiet (first | (go_at_call 110; (with_reducible refine (lex_scanner_escaped.calls kj11 g t130 t131 s0_1 a2 t134 t137 t138 w0 _ ?side1 ?side2 A28.out).mono ?_); (case side1 => repeat (first | (with_reducible first | exact HI0.out | apply IsS75.alloc | apply IsS75.drewN | apply IsS75.drew | apply IsS75.set_0 | apply IsS75.set_1) | exact HI0.out)); (case side2 => repeat (first | (with_reducible first | exact HB.out | apply below_alloc | apply pw_below_drewN | apply below_drew1 | refine below_set ?_ (IsS75.ge HI0.out)) | exact HB.out)); rintro e w30 ⟨v135, rfl, ho0, hi, hb, hk⟩; have HO136 := Aside0.mk (Kd.R_lower (Kd.R_new' ho0 (Kd.R_lt (by have G0 := HO_8; exact z1_))) (keep_size (w := w) (g := g) (row := none) z3_)); replace HO_8 := Aside0.mk (Kd.R_mono (Kd.R_told (Kd.R_oldK (IsS75.apart (show IsS75 w0 _ g t130 t131 from by repeat (first | (with_reducible first | exact HI0.out | apply IsS75.alloc | apply IsS75.drewN | apply IsS75.drew | apply IsS75.set_0 | apply IsS75.set_1) | exact HI0.out)) (by have G0 := HO_8; exact z1_) (by decide)) hk) (Kd.R_base ho0)) (fun _ h_ => h_.1)); replace HK := Aside0.mk (KeepBut.trans z3_ hk (.inl rfl)); replace HB := Aside0.mk (hb); replace HI0 := Aside0.mk (hi); (try clear hb); (try clear hb2); (try clear hk); (try clear hi); (try clear ho0); obtain ⟨Ao32, co32, eo32⟩ := Kd.R_slice HO136.out; subst eo32) | ((with_reducible refine gate_builtin (b := .append) (xs := #[(.tmp 74), .tmp 78]) rfl ?_); at_builtin; refine Kd.R_append_rows (Kd.int .u8) w.heap.size rfl (.tmp 74) (.tmp 78) 62 5 (.int .u8 0) 1 rfl Tryz.underlying62 info5 rfl (by decide) (by omega) u8 x8_1 t134 _ _ _ (fun k_ => some k_ ≠ (.slice Ao32 t134.length co32 : Value).ownBlock) (fun _ => False) rfl rfl ?aO ?aR (fun _ _ h => h) (fun _ h => h.elim) ?aF (Below.refl _ _) ?aS ?aL ?_; (case aR => repeat (first | exact (Kd.R_reads' HO136.out).2.2 | (with_reducible refine Kd.C_alloc ?_ _) | (with_reducible refine Kd.C_drewN ?_ _) | (with_reducible refine Kd.C_drew ?_))); (case aF => exact (fun k_ hk => Kd.fresh' (Kd.R_lt (by have G0 := HO136; exact z1_)) k_ hk)); (case aO => exact (by have G0 := HO_8; exact z11_)); (case aS => exact (keep_size (w := w) (g := g) (row := none) z3_)); (case aL => have := LMc29.out; omega); intro v140 w31 ho hb hg hat; rw [← Ny139.out] at ho; have n0_ := Aside0.mk (IsS75.grown (by have G0 := HI0; exact z6_) hg (IsS75.own_ne HI0.out HO_8.out (by decide))); have n1_ := Aside0.mk (Kd.R_after (ok := (fun _ => True)) (by have G0 := HO136; exact z1_) hg hat); have n2_ := Aside0.mk (below_weaken (by have G0 := HI0; exact z7_) HL.out hb); have n3_ := Aside0.mk (KeepBut.trans z3_ (KeepBut.of_grown hg g) (Kd.R_base2 HO_8.out)); have n4_ := Aside0.mk (ho); clear HI0; clear HO136; clear HB; clear HK; clear HO_8; have HI0 := n0_; have HO136 := n1_; have HB := n2_; have HK := n3_; have HO141 := n4_; clear n0_ n1_ n2_ n3_ n4_; clear ho hb hg hat)); try go_wp2_with (first | (go_at_call 110; (with_reducible refine (lex_scanner_escaped.calls kj11 g t130 t131 s0_1 a2 t134 t137 t138 w0 _ ?side1 ?side2 A28.out).mono ?_); (case side1 => repeat (first | (with_reducible first | exact HI0.out | apply IsS75.alloc | apply IsS75.drewN | apply IsS75.drew | apply IsS75.set_0 | apply IsS75.set_1) | exact HI0.out)); (case side2 => repeat (first | (with_reducible first | exact HB.out | apply below_alloc | apply pw_below_drewN | apply below_drew1 | refine below_set ?_ (IsS75.ge HI0.out)) | exact HB.out)); rintro e w30 ⟨v135, rfl, ho0, hi, hb, hk⟩; have HO136 := Aside0.mk (Kd.R_lower (Kd.R_new' ho0 (Kd.R_lt (by have G0 := HO_8; exact z1_))) (keep_size (w := w) (g := g) (row := none) z3_)); replace HO_8 := Aside0.mk (Kd.R_mono (Kd.R_told (Kd.R_oldK (IsS75.apart (show IsS75 w0 _ g t130 t131 from by repeat (first | (with_reducible first | exact HI0.out | apply IsS75.alloc | apply IsS75.drewN | apply IsS75.drew | apply IsS75.set_0 | apply IsS75.set_1) | exact HI0.out)) (by have G0 := HO_8; exact z1_) (by decide)) hk) (Kd.R_base ho0)) (fun _ h_ => h_.1)); replace HK := Aside0.mk (KeepBut.trans z3_ hk (.inl rfl)); replace HB := Aside0.mk (hb); replace HI0 := Aside0.mk (hi); (try clear hb); (try clear hb2); (try clear hk); (try clear hi); (try clear ho0); obtain ⟨Ao32, co32, eo32⟩ := Kd.R_slice HO136.out; subst eo32) | ((with_reducible refine gate_builtin (b := .append) (xs := #[(.tmp 74), .tmp 78]) rfl ?_); at_builtin; refine Kd.R_append_rows (Kd.int .u8) w.heap.size rfl (.tmp 74) (.tmp 78) 62 5 (.int .u8 0) 1 rfl Tryz.underlying62 info5 rfl (by decide) (by omega) u8 x8_1 t134 _ _ _ (fun k_ => some k_ ≠ (.slice Ao32 t134.length co32 : Value).ownBlock) (fun _ => False) rfl rfl ?aO ?aR (fun _ _ h => h) (fun _ h => h.elim) ?aF (Below.refl _ _) ?aS ?aL ?_; (case aR => repeat (first | exact (Kd.R_reads' HO136.out).2.2 | (with_reducible refine Kd.C_alloc ?_ _) | (with_reducible refine Kd.C_drewN ?_ _) | (with_reducible refine Kd.C_drew ?_))); (case aF => exact (fun k_ hk => Kd.fresh' (Kd.R_lt (by have G0 := HO136; exact z1_)) k_ hk)); (case aO => exact (by have G0 := HO_8; exact z11_)); (case aS => exact (keep_size (w := w) (g := g) (row := none) z3_)); (case aL => have := LMc29.out; omega); intro v140 w31 ho hb hg hat; rw [← Ny139.out] at ho; have n0_ := Aside0.mk (IsS75.grown (by have G0 := HI0; exact z6_) hg (IsS75.own_ne HI0.out HO_8.out (by decide))); have n1_ := Aside0.mk (Kd.R_after (ok := (fun _ => True)) (by have G0 := HO136; exact z1_) hg hat); have n2_ := Aside0.mk (below_weaken (by have G0 := HI0; exact z7_) HL.out hb); have n3_ := Aside0.mk (KeepBut.trans z3_ (KeepBut.of_grown hg g) (Kd.R_base2 HO_8.out)); have n4_ := Aside0.mk (ho); clear HI0; clear HO136; clear HB; clear HK; clear HO_8; have HI0 := n0_; have HO136 := n1_; have HB := n2_; have HK := n3_; have HO141 := n4_; clear n0_ n1_ n2_ n3_ n4_; clear ho hb hg hat)))
         go_roundg kj11
         case measure => have := HK1.out; have := HJ11.out; omega
         case rel => exact ⟨(y139), (t137), (t138), H', ⟨by have := HK1.out; have := HJ11.out; omega⟩, ⟨by have G0 := HO141; exact z15_⟩, ⟨by have G0 := HI0; exact z6_⟩, ⟨z3_⟩, ⟨by have G0 := HI0; exact z7_⟩⟩
        ·rw [if_neg c29] at H
         exact absurd H (by simp)
       ·rw [if_neg c27] at H
        have c27b0 : (t129 == 92) = false := beq_eq_false_iff_ne.mpr c27
        have c27b1 : (t129 != 92) = true := bne_iff_ne.mpr c27
        by_cases c33 : x8_1.length < 140737488355328
        ·rw [if_pos c33] at H
         have LMc33 := Aside0.mk c33
         clear c33
         obtain ⟨y142, hy142⟩ : ∃ y_ : List Int, y_ = (x8_1 ++ [t129]) := ⟨_, rfl⟩
         replace H : (lex_scanner_quoted.l0 kj11 a1 a2 s0_1 y142 t130 (wrap64 (t131 + 1))) = some (r1, r2, r3) := by first | (rw [hy142]; with_reducible exact H) | (have H2_ := (Option.bind_some _ _).symm.trans H; rw [hy142]; with_reducible exact H2_) | (have H2_ := (Option.bind_some _ _).symm.trans H; with_reducible exact H2_) | with_reducible exact H | (rw [hy142]; exact H) | exact H
         have Ny142 := Aside0.mk hy142
         clear hy142
         have H' := Aside0.mk H
         clear H
         go_wp2_with (first | ((with_reducible refine gate_builtin (b := .append) (xs := #[(.tmp 35), .tmp 37]) rfl ?_); at_builtin; refine Kd.R_append (Kd.int .u8) w.heap.size rfl (.tmp 35) (.tmp 37) 62 5 (.int .u8 0) 1 rfl Tryz.underlying62 info5 rfl (by decide) (by omega) u8 x8_1 t129 [.int .u8 t129] (fun _ => True) (fun _ => False) rfl rfl ?aP (fun _ hk => hk.elim) ?aF ?aO (Below.refl _ _) ?aS ?aL ?_; (case aP => exact rfl); (case aF => exact (fun _ _ => trivial)); (case aO => exact (by have G0 := HO_8; exact z1_)); (case aS => exact (keep_size (w := w) (g := g) (row := none) z3_)); (case aL => have := LMc33.out; omega); intro v143 w34 ho hb hg hat; rw [← Ny142.out] at ho; have n0_ := Aside0.mk (IsS75.grown (by have G0 := HI0; exact z6_) hg (IsS75.own_ne HI0.out HO_8.out (by decide))); have n1_ := Aside0.mk (below_weaken (by have G0 := HI0; exact z7_) HL.out hb); have n2_ := Aside0.mk (KeepBut.trans z3_ (KeepBut.of_grown hg g) (Kd.R_base2 HO_8.out)); have n3_ := Aside0.mk (ho); clear HI0; clear HB; clear HK; clear HO_8; have HI0 := n0_; have HB := n1_; have HK := n2_; have HO144 := n3_; clear n0_ n1_ n2_ n3_; clear ho hb hg hat; obtain ⟨HGz35, hgz35⟩ := HI0.out; have hcz35_0 := cellS75_0 HGz35; have hcz35_1 := cellS75_1 HGz35; have hfz35_0 := blk_frozen HGz35 0; have hfz35_1 := blk_frozen HGz35 1; clear HGz35 hgz35))
         repeat (go_quiet (first | ((with_reducible refine gate_builtin (b := .append) (xs := #[(.tmp 35), .tmp 37]) rfl ?_); at_builtin; refine Kd.R_append (Kd.int .u8) w.heap.size rfl (.tmp 35) (.tmp 37) 62 5 (.int .u8 0) 1 rfl Tryz.underlying62 info5 rfl (by decide) (by omega) u8 x8_1 t129 [.int .u8 t129] (fun _ => True) (fun _ => False) rfl rfl ?aP (fun _ hk => hk.elim) ?aF ?aO (Below.refl _ _) ?aS ?aL ?_; (case aP => exact rfl); (case aF => exact (fun _ _ => trivial)); (case aO => exact (by have G0 := HO_8; exact z1_)); (case aS => exact (keep_size (w := w) (g := g) (row := none) z3_)); (case aL => have := LMc33.out; omega); intro v143 w34 ho hb hg hat; rw [← Ny142.out] at ho; have n0_ := Aside0.mk (IsS75.grown (by have G0 := HI0; exact z6_) hg (IsS75.own_ne HI0.out HO_8.out (by decide))); have n1_ := Aside0.mk (below_weaken (by have G0 := HI0; exact z7_) HL.out hb); have n2_ := Aside0.mk (KeepBut.trans z3_ (KeepBut.of_grown hg g) (Kd.R_base2 HO_8.out)); have n3_ := Aside0.mk (ho); clear HI0; clear HB; clear HK; clear HO_8; have HI0 := n0_; have HB := n1_; have HK := n2_; have HO144 := n3_; clear n0_ n1_ n2_ n3_; clear ho hb hg hat; obtain ⟨HGz35, hgz35⟩ := HI0.out; have hcz35_0 := cellS75_0 HGz35; have hcz35_1 := cellS75_1 HGz35; have hfz35_0 := blk_frozen HGz35 0; have hfz35_1 := blk_frozen HGz35 1; clear HGz35 hgz35)); try go_wp2_with (first | ((with_reducible refine gate_builtin (b := .append) (xs := #[(.tmp 35), .tmp 37]) rfl ?_); at_builtin; refine Kd.R_append (Kd.int .u8) w.heap.size rfl (.tmp 35) (.tmp 37) 62 5 (.int .u8 0) 1 rfl Tryz.underlying62 info5 rfl (by decide) (by omega) u8 x8_1 t129 [.int .u8 t129] (fun _ => True) (fun _ => False) rfl rfl ?aP (fun _ hk => hk.elim) ?aF ?aO (Below.refl _ _) ?aS ?aL ?_; (case aP => exact rfl); (case aF => exact (fun _ _ => trivial)); (case aO => exact (by have G0 := HO_8; exact z1_)); (case aS => exact (keep_size (w := w) (g := g) (row := none) z3_)); (case aL => have := LMc33.out; omega); intro v143 w34 ho hb hg hat; rw [← Ny142.out] at ho; have n0_ := Aside0.mk (IsS75.grown (by have G0 := HI0; exact z6_) hg (IsS75.own_ne HI0.out HO_8.out (by decide))); have n1_ := Aside0.mk (below_weaken (by have G0 := HI0; exact z7_) HL.out hb); have n2_ := Aside0.mk (KeepBut.trans z3_ (KeepBut.of_grown hg g) (Kd.R_base2 HO_8.out)); have n3_ := Aside0.mk (ho); clear HI0; clear HB; clear HK; clear HO_8; have HI0 := n0_; have HB := n1_; have HK := n2_; have HO144 := n3_; clear n0_ n1_ n2_ n3_; clear ho hb hg hat; obtain ⟨HGz35, hgz35⟩ := HI0.out; have hcz35_0 := cellS75_0 HGz35; have hcz35_1 := cellS75_1 HGz35; have hfz35_0 := blk_frozen HGz35 0; have hfz35_1 := blk_frozen HGz35 1; clear HGz35 hgz35)))
         go_roundg kj11
         case measure => have := HK1.out; have := HJ11.out; omega
         case rel => exact ⟨(y142), (t130), (wrap64 (t131 + 1)), H', ⟨by have := HK1.out; have := HJ11.out; omega⟩, ⟨by (with_reducible repeat (first | apply Kd.R_alloc | apply Kd.R_drewN | apply Kd.R_drew)); exact Kd.R_mono (Kd.R_far (p := ⟨g, 1, none⟩) (IsS75.apart HI0.out HO144.out (by decide)) (fun _ hk => hk.2) (.int .i64 (wrap64 (t131 + 1)))) (fun _ hk => trivial)⟩, ⟨by have G0 := HI0; exact z6_⟩, ⟨z3_⟩, ⟨by have G0 := HI0; exact z7_⟩⟩
        ·rw [if_neg c33] at H
         exact absurd H (by simp)
def lex_scanner_iri.f (k : Nat) (s0_0 : ByteArray) (s0_1 : Int) : Option (Int × ByteArray × Int × ByteArray × ByteArray × Int × Bool × ByteArray × Int) := (lex_scanner_ch.f s0_0 s0_1 s0_1).bind fun bt146 => (if bt146.1 = 60 then ((lex_scanner_quoted.f k bt146.2.1 bt146.2.2 62 false).bind fun bt149 => ((term_May.f k 1 bt149.1 (⟨#[]⟩ : ByteArray)).bind fun t153 => (if t153 = true then (some (1, (⟨#[]⟩ : ByteArray), 1, bt149.1, (⟨#[]⟩ : ByteArray), 0, true, bt149.2.1, bt149.2.2)) else ((lex_scanner_fail.f bt149.2.1 bt149.2.2 bt146.2.2).bind fun bt154 => (some (1, (⟨#[]⟩ : ByteArray), 1, bt149.1, (⟨#[]⟩ : ByteArray), 0, true, bt154.1, bt154.2)))))) else (some (0, (⟨#[]⟩ : ByteArray), 0, (⟨#[]⟩ : ByteArray), (⟨#[]⟩ : ByteArray), 0, false, bt146.2.1, bt146.2.2)))
theorem lex_scanner_iri.mono : ∀ a0 a1 k, LeO (lex_scanner_iri.f k a0 a1) (lex_scanner_iri.f (k + 1) a0 a1) := by
 intro a0 a1 k
 unfold lex_scanner_iri.f
 repeat' first
   | (with_reducible exact lex_scanner_quoted.mono _ _ _ _ _)
   | (with_reducible exact term_May.mono _ _ _ _)
   | (with_reducible exact LeO.refl _)
   | (with_reducible exact LeO.none _)
   | (with_reducible refine LeO.ite ?_ ?_)
   | (with_reducible refine LeO.bind ?_ (fun _ => ?_))
   | exact lex_scanner_quoted.mono _ _ _ _ _
   | exact term_May.mono _ _ _ _
   | exact LeO.none _
   | refine LeO.ite ?_ ?_
   | refine LeO.bind ?_ (fun _ => ?_)
set_option maxHeartbeats 8000000 in
set_option maxRecDepth 100000 in
theorem lex_scanner_iri.calls (k : Nat) (g : Nat) (s0_0 : ByteArray) (s0_1 : Int) (r1 : Int) (r2 : ByteArray) (r3 : Int) (r4 : ByteArray) (r5 : ByteArray) (r6 : Int) (r7 : Bool) (r8 : ByteArray) (r9 : Int) (w0 w : World) (hI : IsS75 w0 w g s0_0 s0_1) (hB : Below w0.heap.size w0 w) (h : lex_scanner_iri.f k s0_0 s0_1 = some (r1, r2, r3, r4, r5, r6, r7, r8, r9)) :
  Calls Tryz.prog 63 #[.pointer (some ⟨g, 0, none⟩)] w fun e w' => e = .returned (.tuple #[.agg #[.int .i64 r1, .string r2, .int .i64 r3, .string r4, .string r5, .int .i64 r6], .bool r7]) ∧ IsS75 w0 w' g r8 r9 ∧ Below w0.heap.size w0 w' ∧ KeepBut w w' g none := by
 have hu50 := Tryz.underlying50
 have hu31 := Tryz.underlying31
 have HI0 := Aside0.mk hI
 have HK := Aside0.mk (KeepBut.refl w g none)
 have HL := Aside0.mk hB.size
 clear hI
 have HW0 := Aside0.mk hB.size
 have HB := Aside0.mk hB
 clear hB
 have H : ((lex_scanner_ch.f s0_0 s0_1 s0_1).bind fun bt146 => (if bt146.1 = 60 then ((lex_scanner_quoted.f k bt146.2.1 bt146.2.2 62 false).bind fun bt149 => ((term_May.f k 1 bt149.1 (⟨#[]⟩ : ByteArray)).bind fun t153 => (if t153 = true then (some (1, (⟨#[]⟩ : ByteArray), 1, bt149.1, (⟨#[]⟩ : ByteArray), 0, true, bt149.2.1, bt149.2.2)) else ((lex_scanner_fail.f bt149.2.1 bt149.2.2 bt146.2.2).bind fun bt154 => (some (1, (⟨#[]⟩ : ByteArray), 1, bt149.1, (⟨#[]⟩ : ByteArray), 0, true, bt154.1, bt154.2)))))) else (some (0, (⟨#[]⟩ : ByteArray), 0, (⟨#[]⟩ : ByteArray), (⟨#[]⟩ : ByteArray), 0, false, bt146.2.1, bt146.2.2)))) = some (r1, r2, r3, r4, r5, r6, r7, r8, r9) := h
 clear h
 replace H := Option.bind_eq_some_iff.mp H
 obtain ⟨⟨t146, t147, t148⟩, A20, H⟩ := H
 replace H : (if t146 = 60 then ((lex_scanner_quoted.f k t147 t148 62 false).bind fun bt149 => ((term_May.f k 1 bt149.1 (⟨#[]⟩ : ByteArray)).bind fun t153 => (if t153 = true then (some (1, (⟨#[]⟩ : ByteArray), 1, bt149.1, (⟨#[]⟩ : ByteArray), 0, true, bt149.2.1, bt149.2.2)) else ((lex_scanner_fail.f bt149.2.1 bt149.2.2 t148).bind fun bt154 => (some (1, (⟨#[]⟩ : ByteArray), 1, bt149.1, (⟨#[]⟩ : ByteArray), 0, true, bt154.1, bt154.2)))))) else (some (0, (⟨#[]⟩ : ByteArray), 0, (⟨#[]⟩ : ByteArray), (⟨#[]⟩ : ByteArray), 0, false, t147, t148))) = some (r1, r2, r3, r4, r5, r6, r7, r8, r9) := H
 have A2 := Aside0.mk A20
 clear A20
 by_cases c3 : t146 = 60
 ·rw [if_pos c3] at H
  have c3b0 : (t146 == 60) = true := beq_iff_eq.mpr c3
  have c3b1 : (t146 != 60) = false := bne_eq_false_iff_eq.mpr c3
  clear c3
  replace H := Option.bind_eq_some_iff.mp H
  obtain ⟨⟨t149, t150, t151⟩, A40, H⟩ := H
  replace H : ((term_May.f k 1 t149 (⟨#[]⟩ : ByteArray)).bind fun t153 => (if t153 = true then (some (1, (⟨#[]⟩ : ByteArray), 1, t149, (⟨#[]⟩ : ByteArray), 0, true, t150, t151)) else ((lex_scanner_fail.f t150 t151 t148).bind fun bt154 => (some (1, (⟨#[]⟩ : ByteArray), 1, t149, (⟨#[]⟩ : ByteArray), 0, true, bt154.1, bt154.2))))) = some (r1, r2, r3, r4, r5, r6, r7, r8, r9) := H
  have A4 := Aside0.mk A40
  clear A40
  replace H := Option.bind_eq_some_iff.mp H
  obtain ⟨t153, A50, H⟩ := H
  replace H : (if t153 = true then (some (1, (⟨#[]⟩ : ByteArray), 1, t149, (⟨#[]⟩ : ByteArray), 0, true, t150, t151)) else ((lex_scanner_fail.f t150 t151 t148).bind fun bt154 => (some (1, (⟨#[]⟩ : ByteArray), 1, t149, (⟨#[]⟩ : ByteArray), 0, true, bt154.1, bt154.2)))) = some (r1, r2, r3, r4, r5, r6, r7, r8, r9) := H
  have A5 := Aside0.mk A50
  clear A50
  by_cases c6 : t153 = true
  ·subst c6
   have H1 : (some (1, (⟨#[]⟩ : ByteArray), 1, t149, (⟨#[]⟩ : ByteArray), 0, true, t150, t151)) = some (r1, r2, r3, r4, r5, r6, r7, r8, r9) := by rw [if_pos rfl] at H; exact H
   clear H
   have H := H1
   clear H1
   simp only [Option.some.injEq, Prod.mk.injEq] at H
   obtain ⟨rfl, rfl, rfl, rfl, rfl, rfl, rfl, rfl, rfl⟩ := H
   go_enter Tryz.func63, Tryz.ntmps63
   go_wp2_with (first | ((with_reducible refine gate_dst (N := 2) rfl ?_); refine box_event r1_ (N := 2) r1_ (cs := #[.int .i64 0, .string (⟨#[]⟩ : ByteArray), .int .i64 0, .string (⟨#[]⟩ : ByteArray), .string (⟨#[]⟩ : ByteArray), .int .i64 0]) (t := 50) r2_ ?_; intro gb145 hg w7 hbox hb; have BK145 := Aside0.mk (hbox); have GW145 := Aside0.mk ((by rw [hg]; exact (keep_size (w := w) (g := g) (row := none) z3_) : w.heap.size ≤ gb145)); have GE145 := Aside0.mk ((Nat.le_trans HW0.out (by rw [hg]; exact (keep_size (w := w) (g := g) (row := none) z3_) : w.heap.size ≤ gb145) : w0.heap.size ≤ gb145)); have NB0_145 := Aside0.mk ((by rw [hg]; exact Nat.ne_of_lt (IsS75.lt (show IsS75 w0 _ g s0_0 s0_1 from by repeat (first | (with_reducible first | exact HI0.out | apply IsS75.alloc | apply IsS75.drewN | apply IsS75.drew | apply IsS75.set_0 | apply IsS75.set_1) | exact HI0.out))) : g ≠ gb145)); have NB145_0 := Aside0.mk ((by rw [hg]; exact Nat.ne_of_gt (IsS75.lt (show IsS75 w0 _ g s0_0 s0_1 from by repeat (first | (with_reducible first | exact HI0.out | apply IsS75.alloc | apply IsS75.drewN | apply IsS75.drew | apply IsS75.set_0 | apply IsS75.set_1) | exact HI0.out))) : gb145 ≠ g)); replace HK := Aside0.mk (KeepBut.trans z3_ (KeepBut.of_below hb g none) (.inl rfl)); replace HB := Aside0.mk (below_step (by have G0 := HI0; exact z7_) hb); replace HI0 := Aside0.mk (IsS75.below (by have G0 := HI0; exact z6_) hb); clear hb hbox hg; obtain ⟨HGz8, hgz8⟩ := HI0.out; have hcz8_0 := cellS75_0 HGz8; have hcz8_1 := cellS75_1 HGz8; have hfz8_0 := blk_frozen HGz8 0; have hfz8_1 := blk_frozen HGz8 1; clear HGz8 hgz8) | ((with_reducible refine gate_callee (f := 94) rfl ?_); refine goesL_ (some 11) rfl rfl Tryz.func94 k1_ rfl #[.pointer (some ⟨g, 0, none⟩), .int .i64 s0_1] rfl g1_ ?_; (with_reducible refine (lex_scanner_ch.calls g s0_0 s0_1 s0_1 t146 t147 t148 w0 _ ?side1 ?side2 A2.out).mono ?_); (case side1 => repeat (first | (with_reducible first | exact HI0.out | apply IsS75.alloc | apply IsS75.drewN | apply IsS75.drew | apply IsS75.set_0 | apply IsS75.set_1 | refine IsS75.far ?_ NB0_145.out _) | exact HI0.out)); (case side2 => repeat (first | (with_reducible first | exact HB.out | apply below_alloc | apply pw_below_drewN | apply below_drew1 | refine below_set ?_ (IsS75.ge HI0.out) | refine below_set ?_ GE145.out) | exact HB.out)); rintro e w9 ⟨rfl, hi, hb, hk⟩; refine ⟨_, rfl, ?_⟩; replace BK145 := Aside0.mk (KeepBut.blk hk (g' := gb145) (o := .cells #[.int .i64 0, .string (⟨#[]⟩ : ByteArray), .int .i64 0, .string (⟨#[]⟩ : ByteArray), .string (⟨#[]⟩ : ByteArray), .int .i64 0] 50 (0, 0)) (bd_ BK145.out) NB145_0.out (by simp)); replace HK := Aside0.mk (KeepBut.trans (by have G0 := GW145; exact z5_) hk (.inl rfl)); replace HB := Aside0.mk (hb); replace HI0 := Aside0.mk (hi); (try clear hb); (try clear hb2); (try clear hk); (try clear hi); obtain ⟨HGz10, hgz10⟩ := HI0.out; have hcz10_0 := cellS75_0 HGz10; have hcz10_1 := cellS75_1 HGz10; have hfz10_0 := blk_frozen HGz10 0; have hfz10_1 := blk_frozen HGz10 1; clear HGz10 hgz10) | ((with_reducible refine gate_callee (f := 95) rfl ?_); refine goesL_ (some 19) rfl rfl Tryz.func95 k1_ rfl #[.pointer (some ⟨g, 0, none⟩), .int .u8 62, .bool false] rfl g1_ ?_; (with_reducible refine (lex_scanner_quoted.calls k g t147 t148 62 false t149 t150 t151 w0 _ ?side1 ?side2 A4.out).mono ?_); (case side1 => repeat (first | (with_reducible first | exact HI0.out | apply IsS75.alloc | apply IsS75.drewN | apply IsS75.drew | apply IsS75.set_0 | apply IsS75.set_1 | refine IsS75.far ?_ NB0_145.out _) | exact HI0.out)); (case side2 => repeat (first | (with_reducible first | exact HB.out | apply below_alloc | apply pw_below_drewN | apply below_drew1 | refine below_set ?_ (IsS75.ge HI0.out) | refine below_set ?_ GE145.out) | exact HB.out)); rintro e w11 ⟨rfl, hi, hb, hk⟩; refine ⟨_, rfl, ?_⟩; replace BK145 := Aside0.mk (KeepBut.blk hk (g' := gb145) (o := .cells #[.int .i64 0, .string (⟨#[]⟩ : ByteArray), .int .i64 0, .string (⟨#[]⟩ : ByteArray), .string (⟨#[]⟩ : ByteArray), .int .i64 0] 50 (0, 0)) (bd_ BK145.out) NB145_0.out (by simp)); replace HK := Aside0.mk (KeepBut.trans (by have G0 := GW145; exact z5_) hk (.inl rfl)); replace HB := Aside0.mk (hb); replace HI0 := Aside0.mk (hi); (try clear hb); (try clear hb2); (try clear hk); (try clear hi)) | ((with_reducible refine gate_dst (N := 5) rfl ?_); refine box_event r1_ (N := 5) r1_ (cs := #[.int .i64 0, .string (⟨#[]⟩ : ByteArray), .string (⟨#[]⟩ : ByteArray)]) (t := 31) r2_ ?_; intro gb152 hg w12 hbox hb; have BK152 := Aside0.mk (hbox); have GW152 := Aside0.mk ((by rw [hg]; exact (keep_size (w := w) (g := g) (row := none) (by have G0 := GW145; exact z5_)) : w.heap.size ≤ gb152)); have GE152 := Aside0.mk ((Nat.le_trans HW0.out (by rw [hg]; exact (keep_size (w := w) (g := g) (row := none) (by have G0 := GW145; exact z5_)) : w.heap.size ≤ gb152) : w0.heap.size ≤ gb152)); have NB145_152 := Aside0.mk ((by rw [hg]; exact Nat.ne_of_lt (blk_lt (g := gb145) (o := .cells #[.int .i64 0, .string (⟨#[]⟩ : ByteArray), .int .i64 0, .string (⟨#[]⟩ : ByteArray), .string (⟨#[]⟩ : ByteArray), .int .i64 0] 50 (0, 0)) (bd_ BK145.out)) : gb145 ≠ gb152)); have NB152_145 := Aside0.mk ((by rw [hg]; exact Nat.ne_of_gt (blk_lt (g := gb145) (o := .cells #[.int .i64 0, .string (⟨#[]⟩ : ByteArray), .int .i64 0, .string (⟨#[]⟩ : ByteArray), .string (⟨#[]⟩ : ByteArray), .int .i64 0] 50 (0, 0)) (bd_ BK145.out)) : gb152 ≠ gb145)); have NB0_152 := Aside0.mk ((by rw [hg]; exact Nat.ne_of_lt (IsS75.lt (show IsS75 w0 _ g t150 t151 from by repeat (first | (with_reducible first | exact HI0.out | apply IsS75.alloc | apply IsS75.drewN | apply IsS75.drew | apply IsS75.set_0 | apply IsS75.set_1 | refine IsS75.far ?_ NB0_145.out _) | exact HI0.out))) : g ≠ gb152)); have NB152_0 := Aside0.mk ((by rw [hg]; exact Nat.ne_of_gt (IsS75.lt (show IsS75 w0 _ g t150 t151 from by repeat (first | (with_reducible first | exact HI0.out | apply IsS75.alloc | apply IsS75.drewN | apply IsS75.drew | apply IsS75.set_0 | apply IsS75.set_1 | refine IsS75.far ?_ NB0_145.out _) | exact HI0.out))) : gb152 ≠ g)); replace BK145 := Aside0.mk (blk_below (g := gb145) (o := .cells #[.int .i64 0, .string (⟨#[]⟩ : ByteArray), .int .i64 0, .string (⟨#[]⟩ : ByteArray), .string (⟨#[]⟩ : ByteArray), .int .i64 0] 50 (0, 0)) (bd_ BK145.out) hb); replace HK := Aside0.mk (KeepBut.trans (by have G0 := GW145; exact z5_) (KeepBut.of_below hb g none) (.inl rfl)); replace HB := Aside0.mk (below_step (by have G0 := HI0; have G1 := GE145; exact z8_) hb); replace HI0 := Aside0.mk (IsS75.below (by have G0 := HI0; have G1 := NB0_145; exact z9_) hb); clear hb hbox hg; have hnb13 := NB152_145.out; have hnc13 := NB145_152.out; have hnb14 := NB152_0.out; have hnc14 := NB0_152.out; have hcz15_0 := cl_ (.int .i64 0) BK152.out 0; have hcz15_1 := cl_ (.string (⟨#[]⟩ : ByteArray)) BK152.out 1; have hcz15_2 := cl_ (.string (⟨#[]⟩ : ByteArray)) BK152.out 2; have hfz15_0 := blk_frozen BK152.out 0; have hfz15_1 := blk_frozen BK152.out 1; have hfz15_2 := blk_frozen BK152.out 2) | ((with_reducible refine gate_callee (f := 32) rfl ?_); refine goesL_ (some 22) rfl rfl Tryz.func32 k1_ rfl #[.agg #[.int .i64 1, .string t149, .string (⟨#[]⟩ : ByteArray)]] rfl g1_ ?_; (with_reducible refine (term_May.calls k 1 t149 (⟨#[]⟩ : ByteArray) true _ A5.out).mono ?_); rintro e w16 ⟨rfl, hb⟩; refine ⟨_, rfl, ?_⟩; replace BK145 := Aside0.mk (blk_below (g := gb145) (o := .cells #[.int .i64 0, .string (⟨#[]⟩ : ByteArray), .int .i64 0, .string (⟨#[]⟩ : ByteArray), .string (⟨#[]⟩ : ByteArray), .int .i64 0] 50 (0, 0)) (by have G0 := NB145_152; have G1 := BK145; exact z33_) hb); replace BK152 := Aside0.mk (blk_below (g := gb152) (o := .cells #[.int .i64 1, .string t149, .string (⟨#[]⟩ : ByteArray)] 31 (0, 0)) (by have G0 := BK152; exact z34_) hb); replace HK := Aside0.mk (KeepBut.trans (by have G0 := GW145; have G1 := GW152; exact z24_) (KeepBut.of_below hb g none) (.inl rfl)); replace HB := Aside0.mk (below_step (by have G0 := HI0; have G1 := GE145; have G2 := GE152; exact z29_) hb); replace HI0 := Aside0.mk (IsS75.below (show IsS75 w0 (((w12.setCell ⟨gb152, 0, none⟩ (.int .i64 1)).setCell ⟨gb152, 1, none⟩ (.string t149)).setCell ⟨gb152, 2, none⟩ (.string (⟨#[]⟩ : ByteArray))) g t150 t151 from by repeat (first | (with_reducible first | exact HI0.out | apply IsS75.alloc | apply IsS75.drewN | apply IsS75.drew | apply IsS75.set_0 | apply IsS75.set_1 | refine IsS75.far ?_ NB0_145.out _ | refine IsS75.far ?_ NB0_152.out _) | exact HI0.out)) hb); (try clear hb); (try clear hb2); (try clear hk); (try clear hi); have hcz17_0 := cl_ (.int .i64 1) BK152.out 0; have hcz17_1 := cl_ (.string t149) BK152.out 1; have hcz17_2 := cl_ (.string (⟨#[]⟩ : ByteArray)) BK152.out 2; have hfz17_0 := blk_frozen BK152.out 0; have hfz17_1 := blk_frozen BK152.out 1; have hfz17_2 := blk_frozen BK152.out 2; have hnb18 := NB145_0.out; have hnc18 := NB0_145.out; have hcz19_0 := cl_ (.int .i64 0) BK145.out 0; have hcz19_1 := cl_ (.string (⟨#[]⟩ : ByteArray)) BK145.out 1; have hcz19_2 := cl_ (.int .i64 0) BK145.out 2; have hcz19_3 := cl_ (.string (⟨#[]⟩ : ByteArray)) BK145.out 3; have hcz19_4 := cl_ (.string (⟨#[]⟩ : ByteArray)) BK145.out 4; have hcz19_5 := cl_ (.int .i64 0) BK145.out 5; have hfz19_0 := blk_frozen BK145.out 0; have hfz19_1 := blk_frozen BK145.out 1; have hfz19_2 := blk_frozen BK145.out 2; have hfz19_3 := blk_frozen BK145.out 3; have hfz19_4 := blk_frozen BK145.out 4; have hfz19_5 := blk_frozen BK145.out 5))
   refine bodyPost_ret (results_ct rfl _ _ gb145 50 #[.int .i64 1, .string (⟨#[]⟩ : ByteArray), .int .i64 1, .string t149, .string (⟨#[]⟩ : ByteArray), .int .i64 0] (0, 0) _ rfl (by have G0 := BK145; exact z35_) Tryz.underlying50 rfl k1_) rfl ?_
   exact ⟨e2_, by have G0 := HI0; have G1 := NB0_145; have G2 := NB0_152; exact z36_, by have G0 := HI0; have G1 := GE145; have G2 := GE152; exact z29_, by have G0 := GW145; have G1 := GW152; exact z24_⟩
  ·replace c6 := Bool.eq_false_iff.mpr c6
   subst c6
   have H1 : ((lex_scanner_fail.f t150 t151 t148).bind fun bt154 => (some (1, (⟨#[]⟩ : ByteArray), 1, t149, (⟨#[]⟩ : ByteArray), 0, true, bt154.1, bt154.2))) = some (r1, r2, r3, r4, r5, r6, r7, r8, r9) := by rw [if_neg (show ¬ (false = true) by decide)] at H; exact H
   clear H
   have H := H1
   clear H1
   replace H := Option.bind_eq_some_iff.mp H
   obtain ⟨⟨t154, t155⟩, A200, H⟩ := H
   replace H : (some (1, (⟨#[]⟩ : ByteArray), 1, t149, (⟨#[]⟩ : ByteArray), 0, true, t154, t155)) = some (r1, r2, r3, r4, r5, r6, r7, r8, r9) := H
   have A20 := Aside0.mk A200
   clear A200
   simp only [Option.some.injEq, Prod.mk.injEq] at H
   obtain ⟨rfl, rfl, rfl, rfl, rfl, rfl, rfl, rfl, rfl⟩ := H
   go_enter Tryz.func63, Tryz.ntmps63
   go_wp2_with (first | ((with_reducible refine gate_dst (N := 2) rfl ?_); refine box_event r1_ (N := 2) r1_ (cs := #[.int .i64 0, .string (⟨#[]⟩ : ByteArray), .int .i64 0, .string (⟨#[]⟩ : ByteArray), .string (⟨#[]⟩ : ByteArray), .int .i64 0]) (t := 50) r2_ ?_; intro gb145 hg w21 hbox hb; have BK145 := Aside0.mk (hbox); have GW145 := Aside0.mk ((by rw [hg]; exact (keep_size (w := w) (g := g) (row := none) z3_) : w.heap.size ≤ gb145)); have GE145 := Aside0.mk ((Nat.le_trans HW0.out (by rw [hg]; exact (keep_size (w := w) (g := g) (row := none) z3_) : w.heap.size ≤ gb145) : w0.heap.size ≤ gb145)); have NB0_145 := Aside0.mk ((by rw [hg]; exact Nat.ne_of_lt (IsS75.lt (show IsS75 w0 _ g s0_0 s0_1 from by repeat (first | (with_reducible first | exact HI0.out | apply IsS75.alloc | apply IsS75.drewN | apply IsS75.drew | apply IsS75.set_0 | apply IsS75.set_1) | exact HI0.out))) : g ≠ gb145)); have NB145_0 := Aside0.mk ((by rw [hg]; exact Nat.ne_of_gt (IsS75.lt (show IsS75 w0 _ g s0_0 s0_1 from by repeat (first | (with_reducible first | exact HI0.out | apply IsS75.alloc | apply IsS75.drewN | apply IsS75.drew | apply IsS75.set_0 | apply IsS75.set_1) | exact HI0.out))) : gb145 ≠ g)); replace HK := Aside0.mk (KeepBut.trans z3_ (KeepBut.of_below hb g none) (.inl rfl)); replace HB := Aside0.mk (below_step (by have G0 := HI0; exact z7_) hb); replace HI0 := Aside0.mk (IsS75.below (by have G0 := HI0; exact z6_) hb); clear hb hbox hg; obtain ⟨HGz22, hgz22⟩ := HI0.out; have hcz22_0 := cellS75_0 HGz22; have hcz22_1 := cellS75_1 HGz22; have hfz22_0 := blk_frozen HGz22 0; have hfz22_1 := blk_frozen HGz22 1; clear HGz22 hgz22) | ((with_reducible refine gate_callee (f := 94) rfl ?_); refine goesL_ (some 11) rfl rfl Tryz.func94 k1_ rfl #[.pointer (some ⟨g, 0, none⟩), .int .i64 s0_1] rfl g1_ ?_; (with_reducible refine (lex_scanner_ch.calls g s0_0 s0_1 s0_1 t146 t147 t148 w0 _ ?side1 ?side2 A2.out).mono ?_); (case side1 => repeat (first | (with_reducible first | exact HI0.out | apply IsS75.alloc | apply IsS75.drewN | apply IsS75.drew | apply IsS75.set_0 | apply IsS75.set_1 | refine IsS75.far ?_ NB0_145.out _) | exact HI0.out)); (case side2 => repeat (first | (with_reducible first | exact HB.out | apply below_alloc | apply pw_below_drewN | apply below_drew1 | refine below_set ?_ (IsS75.ge HI0.out) | refine below_set ?_ GE145.out) | exact HB.out)); rintro e w23 ⟨rfl, hi, hb, hk⟩; refine ⟨_, rfl, ?_⟩; replace BK145 := Aside0.mk (KeepBut.blk hk (g' := gb145) (o := .cells #[.int .i64 0, .string (⟨#[]⟩ : ByteArray), .int .i64 0, .string (⟨#[]⟩ : ByteArray), .string (⟨#[]⟩ : ByteArray), .int .i64 0] 50 (0, 0)) (bd_ BK145.out) NB145_0.out (by simp)); replace HK := Aside0.mk (KeepBut.trans (by have G0 := GW145; exact z5_) hk (.inl rfl)); replace HB := Aside0.mk (hb); replace HI0 := Aside0.mk (hi); (try clear hb); (try clear hb2); (try clear hk); (try clear hi); obtain ⟨HGz24, hgz24⟩ := HI0.out; have hcz24_0 := cellS75_0 HGz24; have hcz24_1 := cellS75_1 HGz24; have hfz24_0 := blk_frozen HGz24 0; have hfz24_1 := blk_frozen HGz24 1; clear HGz24 hgz24) | ((with_reducible refine gate_callee (f := 95) rfl ?_); refine goesL_ (some 19) rfl rfl Tryz.func95 k1_ rfl #[.pointer (some ⟨g, 0, none⟩), .int .u8 62, .bool false] rfl g1_ ?_; (with_reducible refine (lex_scanner_quoted.calls k g t147 t148 62 false t149 t150 t151 w0 _ ?side1 ?side2 A4.out).mono ?_); (case side1 => repeat (first | (with_reducible first | exact HI0.out | apply IsS75.alloc | apply IsS75.drewN | apply IsS75.drew | apply IsS75.set_0 | apply IsS75.set_1 | refine IsS75.far ?_ NB0_145.out _) | exact HI0.out)); (case side2 => repeat (first | (with_reducible first | exact HB.out | apply below_alloc | apply pw_below_drewN | apply below_drew1 | refine below_set ?_ (IsS75.ge HI0.out) | refine below_set ?_ GE145.out) | exact HB.out)); rintro e w25 ⟨rfl, hi, hb, hk⟩; refine ⟨_, rfl, ?_⟩; replace BK145 := Aside0.mk (KeepBut.blk hk (g' := gb145) (o := .cells #[.int .i64 0, .string (⟨#[]⟩ : ByteArray), .int .i64 0, .string (⟨#[]⟩ : ByteArray), .string (⟨#[]⟩ : ByteArray), .int .i64 0] 50 (0, 0)) (bd_ BK145.out) NB145_0.out (by simp)); replace HK := Aside0.mk (KeepBut.trans (by have G0 := GW145; exact z5_) hk (.inl rfl)); replace HB := Aside0.mk (hb); replace HI0 := Aside0.mk (hi); (try clear hb); (try clear hb2); (try clear hk); (try clear hi)) | ((with_reducible refine gate_dst (N := 5) rfl ?_); refine box_event r1_ (N := 5) r1_ (cs := #[.int .i64 0, .string (⟨#[]⟩ : ByteArray), .string (⟨#[]⟩ : ByteArray)]) (t := 31) r2_ ?_; intro gb152 hg w26 hbox hb; have BK152 := Aside0.mk (hbox); have GW152 := Aside0.mk ((by rw [hg]; exact (keep_size (w := w) (g := g) (row := none) (by have G0 := GW145; exact z5_)) : w.heap.size ≤ gb152)); have GE152 := Aside0.mk ((Nat.le_trans HW0.out (by rw [hg]; exact (keep_size (w := w) (g := g) (row := none) (by have G0 := GW145; exact z5_)) : w.heap.size ≤ gb152) : w0.heap.size ≤ gb152)); have NB145_152 := Aside0.mk ((by rw [hg]; exact Nat.ne_of_lt (blk_lt (g := gb145) (o := .cells #[.int .i64 0, .string (⟨#[]⟩ : ByteArray), .int .i64 0, .string (⟨#[]⟩ : ByteArray), .string (⟨#[]⟩ : ByteArray), .int .i64 0] 50 (0, 0)) (bd_ BK145.out)) : gb145 ≠ gb152)); have NB152_145 := Aside0.mk ((by rw [hg]; exact Nat.ne_of_gt (blk_lt (g := gb145) (o := .cells #[.int .i64 0, .string (⟨#[]⟩ : ByteArray), .int .i64 0, .string (⟨#[]⟩ : ByteArray), .string (⟨#[]⟩ : ByteArray), .int .i64 0] 50 (0, 0)) (bd_ BK145.out)) : gb152 ≠ gb145)); have NB0_152 := Aside0.mk ((by rw [hg]; exact Nat.ne_of_lt (IsS75.lt (show IsS75 w0 _ g t150 t151 from by repeat (first | (with_reducible first | exact HI0.out | apply IsS75.alloc | apply IsS75.drewN | apply IsS75.drew | apply IsS75.set_0 | apply IsS75.set_1 | refine IsS75.far ?_ NB0_145.out _) | exact HI0.out))) : g ≠ gb152)); have NB152_0 := Aside0.mk ((by rw [hg]; exact Nat.ne_of_gt (IsS75.lt (show IsS75 w0 _ g t150 t151 from by repeat (first | (with_reducible first | exact HI0.out | apply IsS75.alloc | apply IsS75.drewN | apply IsS75.drew | apply IsS75.set_0 | apply IsS75.set_1 | refine IsS75.far ?_ NB0_145.out _) | exact HI0.out))) : gb152 ≠ g)); replace BK145 := Aside0.mk (blk_below (g := gb145) (o := .cells #[.int .i64 0, .string (⟨#[]⟩ : ByteArray), .int .i64 0, .string (⟨#[]⟩ : ByteArray), .string (⟨#[]⟩ : ByteArray), .int .i64 0] 50 (0, 0)) (bd_ BK145.out) hb); replace HK := Aside0.mk (KeepBut.trans (by have G0 := GW145; exact z5_) (KeepBut.of_below hb g none) (.inl rfl)); replace HB := Aside0.mk (below_step (by have G0 := HI0; have G1 := GE145; exact z8_) hb); replace HI0 := Aside0.mk (IsS75.below (by have G0 := HI0; have G1 := NB0_145; exact z9_) hb); clear hb hbox hg; have hnb27 := NB152_145.out; have hnc27 := NB145_152.out; have hnb28 := NB152_0.out; have hnc28 := NB0_152.out; have hcz29_0 := cl_ (.int .i64 0) BK152.out 0; have hcz29_1 := cl_ (.string (⟨#[]⟩ : ByteArray)) BK152.out 1; have hcz29_2 := cl_ (.string (⟨#[]⟩ : ByteArray)) BK152.out 2; have hfz29_0 := blk_frozen BK152.out 0; have hfz29_1 := blk_frozen BK152.out 1; have hfz29_2 := blk_frozen BK152.out 2) | ((with_reducible refine gate_callee (f := 32) rfl ?_); refine goesL_ (some 22) rfl rfl Tryz.func32 k1_ rfl #[.agg #[.int .i64 1, .string t149, .string (⟨#[]⟩ : ByteArray)]] rfl g1_ ?_; (with_reducible refine (term_May.calls k 1 t149 (⟨#[]⟩ : ByteArray) false _ A5.out).mono ?_); rintro e w30 ⟨rfl, hb⟩; refine ⟨_, rfl, ?_⟩; replace BK145 := Aside0.mk (blk_below (g := gb145) (o := .cells #[.int .i64 0, .string (⟨#[]⟩ : ByteArray), .int .i64 0, .string (⟨#[]⟩ : ByteArray), .string (⟨#[]⟩ : ByteArray), .int .i64 0] 50 (0, 0)) (by have G0 := NB145_152; have G1 := BK145; exact z33_) hb); replace BK152 := Aside0.mk (blk_below (g := gb152) (o := .cells #[.int .i64 1, .string t149, .string (⟨#[]⟩ : ByteArray)] 31 (0, 0)) (by have G0 := BK152; exact z34_) hb); replace HK := Aside0.mk (KeepBut.trans (by have G0 := GW145; have G1 := GW152; exact z24_) (KeepBut.of_below hb g none) (.inl rfl)); replace HB := Aside0.mk (below_step (by have G0 := HI0; have G1 := GE145; have G2 := GE152; exact z29_) hb); replace HI0 := Aside0.mk (IsS75.below (show IsS75 w0 (((w26.setCell ⟨gb152, 0, none⟩ (.int .i64 1)).setCell ⟨gb152, 1, none⟩ (.string t149)).setCell ⟨gb152, 2, none⟩ (.string (⟨#[]⟩ : ByteArray))) g t150 t151 from by repeat (first | (with_reducible first | exact HI0.out | apply IsS75.alloc | apply IsS75.drewN | apply IsS75.drew | apply IsS75.set_0 | apply IsS75.set_1 | refine IsS75.far ?_ NB0_145.out _ | refine IsS75.far ?_ NB0_152.out _) | exact HI0.out)) hb); (try clear hb); (try clear hb2); (try clear hk); (try clear hi)) | ((with_reducible refine gate_callee (f := 70) rfl ?_); refine goesL_ (some 26) rfl rfl Tryz.func70 k1_ rfl #[.pointer (some ⟨g, 0, none⟩), .int .i64 t148] rfl g1_ ?_; (with_reducible refine (lex_scanner_fail.calls g t150 t151 t148 t154 t155 w0 _ ?side1 ?side2 A20.out).mono ?_); (case side1 => repeat (first | (with_reducible first | exact HI0.out | apply IsS75.alloc | apply IsS75.drewN | apply IsS75.drew | apply IsS75.set_0 | apply IsS75.set_1 | refine IsS75.far ?_ NB0_145.out _ | refine IsS75.far ?_ NB0_152.out _) | exact HI0.out)); (case side2 => repeat (first | (with_reducible first | exact HB.out | apply below_alloc | apply pw_below_drewN | apply below_drew1 | refine below_set ?_ (IsS75.ge HI0.out) | refine below_set ?_ GE145.out | refine below_set ?_ GE152.out) | exact HB.out)); rintro e w31 ⟨rfl, hi, hb, hk⟩; refine ⟨_, rfl, ?_⟩; replace BK145 := Aside0.mk (KeepBut.blk hk (g' := gb145) (o := .cells #[.int .i64 0, .string (⟨#[]⟩ : ByteArray), .int .i64 0, .string (⟨#[]⟩ : ByteArray), .string (⟨#[]⟩ : ByteArray), .int .i64 0] 50 (0, 0)) (bd_ BK145.out) NB145_0.out (by simp)); replace BK152 := Aside0.mk (KeepBut.blk hk (g' := gb152) (o := .cells #[.int .i64 1, .string t149, .string (⟨#[]⟩ : ByteArray)] 31 (0, 0)) (bd_ BK152.out) NB152_0.out (by simp)); replace HK := Aside0.mk (KeepBut.trans (by have G0 := GW145; have G1 := GW152; exact z24_) hk (.inl rfl)); replace HB := Aside0.mk (hb); replace HI0 := Aside0.mk (hi); (try clear hb); (try clear hb2); (try clear hk); (try clear hi); have hcz32_0 := cl_ (.int .i64 1) BK152.out 0; have hcz32_1 := cl_ (.string t149) BK152.out 1; have hcz32_2 := cl_ (.string (⟨#[]⟩ : ByteArray)) BK152.out 2; have hfz32_0 := blk_frozen BK152.out 0; have hfz32_1 := blk_frozen BK152.out 1; have hfz32_2 := blk_frozen BK152.out 2; have hnb33 := NB145_0.out; have hnc33 := NB0_145.out; have hcz34_0 := cl_ (.int .i64 0) BK145.out 0; have hcz34_1 := cl_ (.string (⟨#[]⟩ : ByteArray)) BK145.out 1; have hcz34_2 := cl_ (.int .i64 0) BK145.out 2; have hcz34_3 := cl_ (.string (⟨#[]⟩ : ByteArray)) BK145.out 3; have hcz34_4 := cl_ (.string (⟨#[]⟩ : ByteArray)) BK145.out 4; have hcz34_5 := cl_ (.int .i64 0) BK145.out 5; have hfz34_0 := blk_frozen BK145.out 0; have hfz34_1 := blk_frozen BK145.out 1; have hfz34_2 := blk_frozen BK145.out 2; have hfz34_3 := blk_frozen BK145.out 3; have hfz34_4 := blk_frozen BK145.out 4; have hfz34_5 := blk_frozen BK145.out 5))
   refine bodyPost_ret (results_ct rfl _ _ gb145 50 #[.int .i64 1, .string (⟨#[]⟩ : ByteArray), .int .i64 1, .string t149, .string (⟨#[]⟩ : ByteArray), .int .i64 0] (0, 0) _ rfl (by have G0 := BK145; exact z35_) Tryz.underlying50 rfl k1_) rfl ?_
   exact ⟨e2_, by have G0 := HI0; have G1 := NB0_145; have G2 := NB0_152; exact z36_, by have G0 := HI0; have G1 := GE145; have G2 := GE152; exact z29_, by have G0 := GW145; have G1 := GW152; exact z24_⟩
 ·rw [if_neg c3] at H
  have c3b0 : (t146 == 60) = false := beq_eq_false_iff_ne.mpr c3
  have c3b1 : (t146 != 60) = true := bne_iff_ne.mpr c3
  simp only [Option.some.injEq, Prod.mk.injEq] at H
  obtain ⟨rfl, rfl, rfl, rfl, rfl, rfl, rfl, rfl, rfl⟩ := H
  go_enter Tryz.func63, Tryz.ntmps63
  go_wp2_with (first | ((with_reducible refine gate_dst (N := 2) rfl ?_); refine box_event r1_ (N := 2) r1_ (cs := #[.int .i64 0, .string (⟨#[]⟩ : ByteArray), .int .i64 0, .string (⟨#[]⟩ : ByteArray), .string (⟨#[]⟩ : ByteArray), .int .i64 0]) (t := 50) r2_ ?_; intro gb145 hg w35 hbox hb; have BK145 := Aside0.mk (hbox); have GW145 := Aside0.mk ((by rw [hg]; exact (keep_size (w := w) (g := g) (row := none) z3_) : w.heap.size ≤ gb145)); have GE145 := Aside0.mk ((Nat.le_trans HW0.out (by rw [hg]; exact (keep_size (w := w) (g := g) (row := none) z3_) : w.heap.size ≤ gb145) : w0.heap.size ≤ gb145)); have NB0_145 := Aside0.mk ((by rw [hg]; exact Nat.ne_of_lt (IsS75.lt (show IsS75 w0 _ g s0_0 s0_1 from by repeat (first | (with_reducible first | exact HI0.out | apply IsS75.alloc | apply IsS75.drewN | apply IsS75.drew | apply IsS75.set_0 | apply IsS75.set_1) | exact HI0.out))) : g ≠ gb145)); have NB145_0 := Aside0.mk ((by rw [hg]; exact Nat.ne_of_gt (IsS75.lt (show IsS75 w0 _ g s0_0 s0_1 from by repeat (first | (with_reducible first | exact HI0.out | apply IsS75.alloc | apply IsS75.drewN | apply IsS75.drew | apply IsS75.set_0 | apply IsS75.set_1) | exact HI0.out))) : gb145 ≠ g)); replace HK := Aside0.mk (KeepBut.trans z3_ (KeepBut.of_below hb g none) (.inl rfl)); replace HB := Aside0.mk (below_step (by have G0 := HI0; exact z7_) hb); replace HI0 := Aside0.mk (IsS75.below (by have G0 := HI0; exact z6_) hb); clear hb hbox hg; obtain ⟨HGz36, hgz36⟩ := HI0.out; have hcz36_0 := cellS75_0 HGz36; have hcz36_1 := cellS75_1 HGz36; have hfz36_0 := blk_frozen HGz36 0; have hfz36_1 := blk_frozen HGz36 1; clear HGz36 hgz36) | ((with_reducible refine gate_callee (f := 94) rfl ?_); refine goesL_ (some 11) rfl rfl Tryz.func94 k1_ rfl #[.pointer (some ⟨g, 0, none⟩), .int .i64 s0_1] rfl g1_ ?_; (with_reducible refine (lex_scanner_ch.calls g s0_0 s0_1 s0_1 t146 t147 t148 w0 _ ?side1 ?side2 A2.out).mono ?_); (case side1 => repeat (first | (with_reducible first | exact HI0.out | apply IsS75.alloc | apply IsS75.drewN | apply IsS75.drew | apply IsS75.set_0 | apply IsS75.set_1 | refine IsS75.far ?_ NB0_145.out _) | exact HI0.out)); (case side2 => repeat (first | (with_reducible first | exact HB.out | apply below_alloc | apply pw_below_drewN | apply below_drew1 | refine below_set ?_ (IsS75.ge HI0.out) | refine below_set ?_ GE145.out) | exact HB.out)); rintro e w37 ⟨rfl, hi, hb, hk⟩; refine ⟨_, rfl, ?_⟩; replace BK145 := Aside0.mk (KeepBut.blk hk (g' := gb145) (o := .cells #[.int .i64 0, .string (⟨#[]⟩ : ByteArray), .int .i64 0, .string (⟨#[]⟩ : ByteArray), .string (⟨#[]⟩ : ByteArray), .int .i64 0] 50 (0, 0)) (bd_ BK145.out) NB145_0.out (by simp)); replace HK := Aside0.mk (KeepBut.trans (by have G0 := GW145; exact z5_) hk (.inl rfl)); replace HB := Aside0.mk (hb); replace HI0 := Aside0.mk (hi); (try clear hb); (try clear hb2); (try clear hk); (try clear hi); have hnb38 := NB145_0.out; have hnc38 := NB0_145.out; have hcz39_0 := cl_ (.int .i64 0) BK145.out 0; have hcz39_1 := cl_ (.string (⟨#[]⟩ : ByteArray)) BK145.out 1; have hcz39_2 := cl_ (.int .i64 0) BK145.out 2; have hcz39_3 := cl_ (.string (⟨#[]⟩ : ByteArray)) BK145.out 3; have hcz39_4 := cl_ (.string (⟨#[]⟩ : ByteArray)) BK145.out 4; have hcz39_5 := cl_ (.int .i64 0) BK145.out 5; have hfz39_0 := blk_frozen BK145.out 0; have hfz39_1 := blk_frozen BK145.out 1; have hfz39_2 := blk_frozen BK145.out 2; have hfz39_3 := blk_frozen BK145.out 3; have hfz39_4 := blk_frozen BK145.out 4; have hfz39_5 := blk_frozen BK145.out 5))
  refine bodyPost_ret (results_ct rfl _ _ gb145 50 #[.int .i64 0, .string (⟨#[]⟩ : ByteArray), .int .i64 0, .string (⟨#[]⟩ : ByteArray), .string (⟨#[]⟩ : ByteArray), .int .i64 0] (0, 0) _ rfl (by have G0 := BK145; exact z21_) Tryz.underlying50 rfl k1_) rfl ?_
  exact ⟨e2_, by have G0 := HI0; have G1 := NB0_145; exact z9_, by have G0 := HI0; have G1 := GE145; exact z8_, by have G0 := GW145; exact z5_⟩
def lex_letter.f (a0 : Int) : Option (Bool) := if a0 ≥ 65 then (if a0 ≤ 90 then (some true) else (if a0 ≥ 97 then (some (decide (a0 ≤ 122))) else (some false))) else (if a0 ≥ 97 then (some (decide (a0 ≤ 122))) else (some false))
set_option maxHeartbeats 8000000 in
set_option maxRecDepth 100000 in
theorem lex_letter.calls (a0 : Int) (r : Bool) (w : World) (h : lex_letter.f a0 = some r) :
  Calls Tryz.prog 100 #[.int .u8 a0] w fun e w' => e = .returned (.bool r) ∧ Drawn0 w w' := by
 have H : (if a0 ≥ 65 then (if a0 ≤ 90 then (some true) else (if a0 ≥ 97 then (some (decide (a0 ≤ 122))) else (some false))) else (if a0 ≥ 97 then (some (decide (a0 ≤ 122))) else (some false))) = some r := h
 clear h
 by_cases c2 : a0 ≥ 65
 ·rw [if_pos c2] at H
  have c2b0 : decide (65 ≤ a0) = true := decide_eq_true c2
  clear c2
  by_cases c3 : a0 ≤ 90
  ·rw [if_pos c3] at H
   have c3b0 : decide (a0 ≤ 90) = true := decide_eq_true c3
   clear c3
   obtain rfl := Option.some.inj H
   go_enter Tryz.func100, Tryz.ntmps100
   go_wp2
   go_ret
   exact ⟨e1_, z2_⟩
  ·rw [if_neg c3] at H
   have c3b0 : decide (a0 ≤ 90) = false := decide_eq_false c3
   clear c3
   by_cases c4 : a0 ≥ 97
   ·rw [if_pos c4] at H
    have c4b0 : decide (97 ≤ a0) = true := decide_eq_true c4
    clear c4
    obtain rfl := Option.some.inj H
    go_enter Tryz.func100, Tryz.ntmps100
    go_wp2
    go_ret
    exact ⟨e1_, z2_⟩
   ·rw [if_neg c4] at H
    have c4b0 : decide (97 ≤ a0) = false := decide_eq_false c4
    clear c4
    obtain rfl := Option.some.inj H
    go_enter Tryz.func100, Tryz.ntmps100
    go_wp2
    go_ret
    exact ⟨e1_, z2_⟩
 ·rw [if_neg c2] at H
  have c2b0 : decide (65 ≤ a0) = false := decide_eq_false c2
  clear c2
  by_cases c5 : a0 ≥ 97
  ·rw [if_pos c5] at H
   have c5b0 : decide (97 ≤ a0) = true := decide_eq_true c5
   clear c5
   obtain rfl := Option.some.inj H
   go_enter Tryz.func100, Tryz.ntmps100
   go_wp2
   go_ret
   exact ⟨e1_, z2_⟩
  ·rw [if_neg c5] at H
   have c5b0 : decide (97 ≤ a0) = false := decide_eq_false c5
   clear c5
   obtain rfl := Option.some.inj H
   go_enter Tryz.func100, Tryz.ntmps100
   go_wp2
   go_ret
   exact ⟨e1_, z2_⟩
def lex_scanner_blank.j0 : Nat → Bool → ByteArray → Int → Option (Int × ByteArray × Int × ByteArray × ByteArray × Int × Bool × ByteArray × Int)
 | 0, _, _, _ => none
 | k + 1, x22, x1000, x1001 => if x22 = true then (some (0, (⟨#[]⟩ : ByteArray), 0, (⟨#[]⟩ : ByteArray), (⟨#[]⟩ : ByteArray), 0, false, x1000, x1001)) else (if 1 ≤ 0 then ((term_May.f k 2 ((⟨#[]⟩ : ByteArray).extract 1 (⟨#[]⟩ : ByteArray).size) (⟨#[]⟩ : ByteArray)).bind fun t166 => (if t166 = true then (some (2, (⟨#[]⟩ : ByteArray), 2, (⟨#[]⟩ : ByteArray).extract 1 (⟨#[]⟩ : ByteArray).size, (⟨#[]⟩ : ByteArray), 0, true, x1000, wrap64 (x1001 + 2))) else ((lex_scanner_fail.f x1000 (wrap64 (x1001 + 2)) x1001).bind fun bt167 => (some (2, (⟨#[]⟩ : ByteArray), 2, (⟨#[]⟩ : ByteArray).extract 1 (⟨#[]⟩ : ByteArray).size, (⟨#[]⟩ : ByteArray), 0, true, bt167.1, bt167.2))))) else (none))
def lex_scanner_blank.f (k : Nat) (s0_0 : ByteArray) (s0_1 : Int) : Option (Int × ByteArray × Int × ByteArray × ByteArray × Int × Bool × ByteArray × Int) := (lex_scanner_ch.f s0_0 s0_1 s0_1).bind fun bt159 => (if bt159.1 = 95 then ((lex_scanner_ch.f bt159.2.1 bt159.2.2 (wrap64 (bt159.2.2 + 1))).bind fun bt162 => (lex_scanner_blank.j0 k (bt162.1 != 58) bt162.2.1 bt162.2.2)) else (lex_scanner_blank.j0 k true bt159.2.1 bt159.2.2))
theorem lex_scanner_blank.mono_l : ∀ k, (∀ y0 y1 y2, LeO (lex_scanner_blank.j0 k y0 y1 y2) (lex_scanner_blank.j0 (k + 1) y0 y1 y2))
 | 0 => fun _ _ _ r h => by simp [lex_scanner_blank.j0] at h
 | k + 1 => by
  have ih0 := lex_scanner_blank.mono_l k
  ·intro y0 y1 y2
   unfold lex_scanner_blank.j0
   repeat' first
   | (with_reducible exact ih0 _ _ _)
   | (with_reducible exact term_May.mono _ _ _ _)
   | (with_reducible exact LeO.refl _)
   | (with_reducible exact LeO.none _)
   | (with_reducible refine LeO.ite ?_ ?_)
   | (with_reducible refine LeO.bind ?_ (fun _ => ?_))
   | exact ih0 _ _ _
   | exact term_May.mono _ _ _ _
   | exact LeO.none _
   | refine LeO.ite ?_ ?_
   | refine LeO.bind ?_ (fun _ => ?_)
theorem lex_scanner_blank.mono : ∀ a0 a1 k, LeO (lex_scanner_blank.f k a0 a1) (lex_scanner_blank.f (k + 1) a0 a1) := by
 intro a0 a1 k
 have ih0 := lex_scanner_blank.mono_l k
 unfold lex_scanner_blank.f
 repeat' first
   | (with_reducible exact ih0 _ _ _)
   | (with_reducible exact term_May.mono _ _ _ _)
   | (with_reducible exact LeO.refl _)
   | (with_reducible exact LeO.none _)
   | (with_reducible refine LeO.ite ?_ ?_)
   | (with_reducible refine LeO.bind ?_ (fun _ => ?_))
   | exact ih0 _ _ _
   | exact term_May.mono _ _ _ _
   | exact LeO.none _
   | refine LeO.ite ?_ ?_
   | refine LeO.bind ?_ (fun _ => ?_)
set_option maxHeartbeats 8000000 in
set_option maxRecDepth 100000 in
theorem lex_scanner_blank.calls (k : Nat) (g : Nat) (s0_0 : ByteArray) (s0_1 : Int) (r1 : Int) (r2 : ByteArray) (r3 : Int) (r4 : ByteArray) (r5 : ByteArray) (r6 : Int) (r7 : Bool) (r8 : ByteArray) (r9 : Int) (w0 w : World) (hI : IsS75 w0 w g s0_0 s0_1) (hB : Below w0.heap.size w0 w) (h : lex_scanner_blank.f k s0_0 s0_1 = some (r1, r2, r3, r4, r5, r6, r7, r8, r9)) :
  Calls Tryz.prog 64 #[.pointer (some ⟨g, 0, none⟩)] w fun e w' => e = .returned (.tuple #[.agg #[.int .i64 r1, .string r2, .int .i64 r3, .string r4, .string r5, .int .i64 r6], .bool r7]) ∧ IsS75 w0 w' g r8 r9 ∧ Below w0.heap.size w0 w' ∧ KeepBut w w' g none := by
 have hu50 := Tryz.underlying50
 have hu31 := Tryz.underlying31
 have HI0 := Aside0.mk hI
 have HK := Aside0.mk (KeepBut.refl w g none)
 have HL := Aside0.mk hB.size
 clear hI
 have HW0 := Aside0.mk hB.size
 have HB := Aside0.mk hB
 clear hB
 have H : ((lex_scanner_ch.f s0_0 s0_1 s0_1).bind fun bt159 => (if bt159.1 = 95 then ((lex_scanner_ch.f bt159.2.1 bt159.2.2 (wrap64 (bt159.2.2 + 1))).bind fun bt162 => (lex_scanner_blank.j0 k (bt162.1 != 58) bt162.2.1 bt162.2.2)) else (lex_scanner_blank.j0 k true bt159.2.1 bt159.2.2))) = some (r1, r2, r3, r4, r5, r6, r7, r8, r9) := h
 clear h
 have HC2 := Aside0.mk H
 clear H
 go_enter Tryz.func64, Tryz.ntmps64
 go_upto_region 1 with (first | ((with_reducible refine gate_dst (N := 2) rfl ?_); refine box_event r1_ (N := 2) r1_ (cs := #[.int .i64 0, .string (⟨#[]⟩ : ByteArray), .int .i64 0, .string (⟨#[]⟩ : ByteArray), .string (⟨#[]⟩ : ByteArray), .int .i64 0]) (t := 50) r2_ ?_; intro gb158 hg w3 hbox hb; have BK158 := Aside0.mk (hbox); have GW158 := Aside0.mk ((by rw [hg]; exact (keep_size (w := w) (g := g) (row := none) z3_) : w.heap.size ≤ gb158)); have GE158 := Aside0.mk ((Nat.le_trans HW0.out (by rw [hg]; exact (keep_size (w := w) (g := g) (row := none) z3_) : w.heap.size ≤ gb158) : w0.heap.size ≤ gb158)); have NB0_158 := Aside0.mk ((by rw [hg]; exact Nat.ne_of_lt (IsS75.lt (show IsS75 w0 _ g s0_0 s0_1 from by repeat (first | (with_reducible first | exact HI0.out | apply IsS75.alloc | apply IsS75.drewN | apply IsS75.drew | apply IsS75.set_0 | apply IsS75.set_1) | exact HI0.out))) : g ≠ gb158)); have NB158_0 := Aside0.mk ((by rw [hg]; exact Nat.ne_of_gt (IsS75.lt (show IsS75 w0 _ g s0_0 s0_1 from by repeat (first | (with_reducible first | exact HI0.out | apply IsS75.alloc | apply IsS75.drewN | apply IsS75.drew | apply IsS75.set_0 | apply IsS75.set_1) | exact HI0.out))) : gb158 ≠ g)); replace HK := Aside0.mk (KeepBut.trans z3_ (KeepBut.of_below hb g none) (.inl rfl)); replace HB := Aside0.mk (below_step (by have G0 := HI0; exact z7_) hb); replace HI0 := Aside0.mk (IsS75.below (by have G0 := HI0; exact z6_) hb); clear hb hbox hg))
 (try simp only [Act.put, List.setIfInBounds_toArray, List.set_cons_zero, List.set_cons_succ])
 go_cut [22] (fun v22 wc => ∃ (kq : Nat) (x22_1 : Bool) (x1000_1 : ByteArray) (x1001_1 : Int), v22 = .bool x22_1 ∧ Aside0 (lex_scanner_blank.j0 kq x22_1 x1000_1 x1001_1 = some (r1, r2, r3, r4, r5, r6, r7, r8, r9)) ∧ Aside0 (kq ≤ k) ∧ Aside0 (wc.heap[gb158]? = some (.cells #[.int .i64 0, .string (⟨#[]⟩ : ByteArray), .int .i64 0, .string (⟨#[]⟩ : ByteArray), .string (⟨#[]⟩ : ByteArray), .int .i64 0] 50 (0, 0))) ∧ Aside0 (IsS75 w0 wc g x1000_1 x1001_1) ∧ Aside0 (KeepBut w wc g none) ∧ Aside0 (Below w0.heap.size w0 wc))
 case first =>
  have H := HC2.out
  clear HC2
  replace H := Option.bind_eq_some_iff.mp H
  obtain ⟨⟨t159, t160, t161⟩, A40, H⟩ := H
  replace H : (if t159 = 95 then ((lex_scanner_ch.f t160 t161 (wrap64 (t161 + 1))).bind fun bt162 => (lex_scanner_blank.j0 k (bt162.1 != 58) bt162.2.1 bt162.2.2)) else (lex_scanner_blank.j0 k true t160 t161)) = some (r1, r2, r3, r4, r5, r6, r7, r8, r9) := H
  have A4 := Aside0.mk A40
  clear A40
  by_cases c5 : t159 = 95
  ·rw [if_pos c5] at H
   have c5b0 : (t159 == 95) = true := beq_iff_eq.mpr c5
   have c5b1 : (t159 != 95) = false := bne_eq_false_iff_eq.mpr c5
   clear c5
   (first | rw [c5b0] | (simp only [i64_w, i32_w]; rw [c5b0]) | skip)
   replace H := Option.bind_eq_some_iff.mp H
   obtain ⟨⟨t162, t163, t164⟩, A60, H⟩ := H
   replace H : (lex_scanner_blank.j0 k (t162 != 58) t163 t164) = some (r1, r2, r3, r4, r5, r6, r7, r8, r9) := H
   have A6 := Aside0.mk A60
   clear A60
   have H' := Aside0.mk H
   clear H
   obtain ⟨HGz7, hgz7⟩ := HI0.out
   have hcz7_0 := cellS75_0 HGz7
   have hcz7_1 := cellS75_1 HGz7
   have hfz7_0 := blk_frozen HGz7 0
   have hfz7_1 := blk_frozen HGz7 1
   clear HGz7 hgz7
   go_wp2_with (first | ((with_reducible refine gate_callee (f := 94) rfl ?_); refine goesL_ (some 11) rfl rfl Tryz.func94 k1_ rfl #[.pointer (some ⟨g, 0, none⟩), .int .i64 s0_1] rfl g1_ ?_; (with_reducible refine (lex_scanner_ch.calls g s0_0 s0_1 s0_1 t159 t160 t161 w0 _ ?side1 ?side2 A4.out).mono ?_); (case side1 => repeat (first | (with_reducible first | exact HI0.out | apply IsS75.alloc | apply IsS75.drewN | apply IsS75.drew | apply IsS75.set_0 | apply IsS75.set_1 | refine IsS75.far ?_ NB0_158.out _) | exact HI0.out)); (case side2 => repeat (first | (with_reducible first | exact HB.out | apply below_alloc | apply pw_below_drewN | apply below_drew1 | refine below_set ?_ (IsS75.ge HI0.out) | refine below_set ?_ GE158.out) | exact HB.out)); rintro e w8 ⟨rfl, hi, hb, hk⟩; refine ⟨_, rfl, ?_⟩; replace BK158 := Aside0.mk (KeepBut.blk hk (g' := gb158) (o := .cells #[.int .i64 0, .string (⟨#[]⟩ : ByteArray), .int .i64 0, .string (⟨#[]⟩ : ByteArray), .string (⟨#[]⟩ : ByteArray), .int .i64 0] 50 (0, 0)) (bd_ BK158.out) NB158_0.out (by simp)); replace HK := Aside0.mk (KeepBut.trans (by have G0 := GW158; exact z5_) hk (.inl rfl)); replace HB := Aside0.mk (hb); replace HI0 := Aside0.mk (hi); (try clear hb); (try clear hb2); (try clear hk); (try clear hi); obtain ⟨HGz9, hgz9⟩ := HI0.out; have hcz9_0 := cellS75_0 HGz9; have hcz9_1 := cellS75_1 HGz9; have hfz9_0 := blk_frozen HGz9 0; have hfz9_1 := blk_frozen HGz9 1; clear HGz9 hgz9) | (go_at_call 94; (with_reducible refine (lex_scanner_ch.calls g t160 t161 (wrap64 (t161 + 1)) t162 t163 t164 w0 _ ?side1 ?side2 A6.out).mono ?_); (case side1 => repeat (first | (with_reducible first | exact HI0.out | apply IsS75.alloc | apply IsS75.drewN | apply IsS75.drew | apply IsS75.set_0 | apply IsS75.set_1 | refine IsS75.far ?_ NB0_158.out _) | exact HI0.out)); (case side2 => repeat (first | (with_reducible first | exact HB.out | apply below_alloc | apply pw_below_drewN | apply below_drew1 | refine below_set ?_ (IsS75.ge HI0.out) | refine below_set ?_ GE158.out) | exact HB.out)); rintro e w10 ⟨rfl, hi, hb, hk⟩; replace BK158 := Aside0.mk (KeepBut.blk hk (g' := gb158) (o := .cells #[.int .i64 0, .string (⟨#[]⟩ : ByteArray), .int .i64 0, .string (⟨#[]⟩ : ByteArray), .string (⟨#[]⟩ : ByteArray), .int .i64 0] 50 (0, 0)) (bd_ BK158.out) NB158_0.out (by simp)); replace HK := Aside0.mk (KeepBut.trans (by have G0 := GW158; exact z5_) hk (.inl rfl)); replace HB := Aside0.mk (hb); replace HI0 := Aside0.mk (hi); (try clear hb); (try clear hb2); (try clear hk); (try clear hi)))
   go_meet
   case rel => exact ⟨_, ((t162 != 58)), (t163), (t164), e1_, H', ⟨z10_⟩, ⟨by have G0 := BK158; exact z17_⟩, ⟨by have G0 := HI0; have G1 := NB0_158; exact z9_⟩, ⟨by have G0 := GW158; exact z5_⟩, ⟨by have G0 := HI0; have G1 := GE158; exact z8_⟩⟩
  ·rw [if_neg c5] at H
   have c5b0 : (t159 == 95) = false := beq_eq_false_iff_ne.mpr c5
   have c5b1 : (t159 != 95) = true := bne_iff_ne.mpr c5
   (first | rw [c5b0] | (simp only [i64_w, i32_w]; rw [c5b0]) | skip)
   have H' := Aside0.mk H
   clear H
   obtain ⟨HGz11, hgz11⟩ := HI0.out
   have hcz11_0 := cellS75_0 HGz11
   have hcz11_1 := cellS75_1 HGz11
   have hfz11_0 := blk_frozen HGz11 0
   have hfz11_1 := blk_frozen HGz11 1
   clear HGz11 hgz11
   go_wp2_with (first | ((with_reducible refine gate_callee (f := 94) rfl ?_); refine goesL_ (some 11) rfl rfl Tryz.func94 k1_ rfl #[.pointer (some ⟨g, 0, none⟩), .int .i64 s0_1] rfl g1_ ?_; (with_reducible refine (lex_scanner_ch.calls g s0_0 s0_1 s0_1 t159 t160 t161 w0 _ ?side1 ?side2 A4.out).mono ?_); (case side1 => repeat (first | (with_reducible first | exact HI0.out | apply IsS75.alloc | apply IsS75.drewN | apply IsS75.drew | apply IsS75.set_0 | apply IsS75.set_1 | refine IsS75.far ?_ NB0_158.out _) | exact HI0.out)); (case side2 => repeat (first | (with_reducible first | exact HB.out | apply below_alloc | apply pw_below_drewN | apply below_drew1 | refine below_set ?_ (IsS75.ge HI0.out) | refine below_set ?_ GE158.out) | exact HB.out)); rintro e w12 ⟨rfl, hi, hb, hk⟩; refine ⟨_, rfl, ?_⟩; replace BK158 := Aside0.mk (KeepBut.blk hk (g' := gb158) (o := .cells #[.int .i64 0, .string (⟨#[]⟩ : ByteArray), .int .i64 0, .string (⟨#[]⟩ : ByteArray), .string (⟨#[]⟩ : ByteArray), .int .i64 0] 50 (0, 0)) (bd_ BK158.out) NB158_0.out (by simp)); replace HK := Aside0.mk (KeepBut.trans (by have G0 := GW158; exact z5_) hk (.inl rfl)); replace HB := Aside0.mk (hb); replace HI0 := Aside0.mk (hi); (try clear hb); (try clear hb2); (try clear hk); (try clear hi)))
   go_meet
   case rel => exact ⟨_, (true), (t160), (t161), e1_, H', ⟨z10_⟩, ⟨by have G0 := BK158; exact z17_⟩, ⟨by have G0 := HI0; have G1 := NB0_158; exact z9_⟩, ⟨by have G0 := GW158; exact z5_⟩, ⟨by have G0 := HI0; have G1 := GE158; exact z8_⟩⟩
 case rest =>
  clear HC2
  try clear p2
  try clear c5
  try clear c5b0
  try clear c5b1
  try clear c6
  try clear p6
  try clear c9
  try clear hcz11_0
  try clear hcz11_1
  try clear hcz7_0
  try clear hcz7_1
  try clear hcz9_0
  try clear hcz9_1
  try clear hfz11_0
  try clear hfz11_1
  try clear hfz7_0
  try clear hfz7_1
  try clear hfz9_0
  try clear hfz9_1
  obtain ⟨kq, x22_1, x1000_1, x1001_1, rfl, HA, HJ1, BK158, HI0, HK, HB⟩ := hcut
  cases kq with
  | zero => exact absurd HA.out (by simp [lex_scanner_blank.j0])
  | succ kj1 =>
   have H := HA.out
   clear HA
   simp only [lex_scanner_blank.j0] at H
   by_cases c13 : x22_1 = true
   ·subst c13
    have H1 : (some (0, (⟨#[]⟩ : ByteArray), 0, (⟨#[]⟩ : ByteArray), (⟨#[]⟩ : ByteArray), 0, false, x1000_1, x1001_1)) = some (r1, r2, r3, r4, r5, r6, r7, r8, r9) := by rw [if_pos rfl] at H; exact H
    clear H
    have H := H1
    clear H1
    simp only [Option.some.injEq, Prod.mk.injEq] at H
    obtain ⟨rfl, rfl, rfl, rfl, rfl, rfl, rfl, rfl, rfl⟩ := H
    have hnb14 := NB158_0.out
    have hnc14 := NB0_158.out
    have hcz15_0 := cl_ (.int .i64 0) BK158.out 0
    have hcz15_1 := cl_ (.string (⟨#[]⟩ : ByteArray)) BK158.out 1
    have hcz15_2 := cl_ (.int .i64 0) BK158.out 2
    have hcz15_3 := cl_ (.string (⟨#[]⟩ : ByteArray)) BK158.out 3
    have hcz15_4 := cl_ (.string (⟨#[]⟩ : ByteArray)) BK158.out 4
    have hcz15_5 := cl_ (.int .i64 0) BK158.out 5
    have hfz15_0 := blk_frozen BK158.out 0
    have hfz15_1 := blk_frozen BK158.out 1
    have hfz15_2 := blk_frozen BK158.out 2
    have hfz15_3 := blk_frozen BK158.out 3
    have hfz15_4 := blk_frozen BK158.out 4
    have hfz15_5 := blk_frozen BK158.out 5
    go_wp2
    refine bodyPost_ret (results_ct rfl _ _ gb158 50 #[.int .i64 0, .string (⟨#[]⟩ : ByteArray), .int .i64 0, .string (⟨#[]⟩ : ByteArray), .string (⟨#[]⟩ : ByteArray), .int .i64 0] (0, 0) _ rfl (by have G0 := BK158; exact z21_) Tryz.underlying50 rfl k1_) rfl ?_
    exact ⟨e2_, by have G0 := HI0; have G1 := NB0_158; exact z9_, by have G0 := HI0; have G1 := GE158; exact z8_, by have G0 := GW158; exact z5_⟩
   ·replace c13 := Bool.eq_false_iff.mpr c13
    subst c13
    have H1 : (if 1 ≤ 0 then ((term_May.f kj1 2 ((⟨#[]⟩ : ByteArray).extract 1 (⟨#[]⟩ : ByteArray).size) (⟨#[]⟩ : ByteArray)).bind fun t166 => (if t166 = true then (some (2, (⟨#[]⟩ : ByteArray), 2, (⟨#[]⟩ : ByteArray).extract 1 (⟨#[]⟩ : ByteArray).size, (⟨#[]⟩ : ByteArray), 0, true, x1000_1, wrap64 (x1001_1 + 2))) else ((lex_scanner_fail.f x1000_1 (wrap64 (x1001_1 + 2)) x1001_1).bind fun bt167 => (some (2, (⟨#[]⟩ : ByteArray), 2, (⟨#[]⟩ : ByteArray).extract 1 (⟨#[]⟩ : ByteArray).size, (⟨#[]⟩ : ByteArray), 0, true, bt167.1, bt167.2))))) else (none)) = some (r1, r2, r3, r4, r5, r6, r7, r8, r9) := by rw [if_neg (show ¬ (false = true) by decide)] at H; exact H
    clear H
    have H := H1
    clear H1
    by_cases c16 : 1 ≤ 0
    ·exact absurd c16 (by decide)
    ·rw [if_neg c16] at H
     exact absurd H (by simp)
def lex_scanner_text.f (k : Nat) (s0_0 : ByteArray) (s0_1 : Int) : Option (Int × ByteArray × Int × ByteArray × ByteArray × Int × Bool × ByteArray × Int) := (lex_scanner_ch.f s0_0 s0_1 s0_1).bind fun bt170 => (if bt170.1 = 34 then ((lex_scanner_quoted.f k bt170.2.1 bt170.2.2 34 true).bind fun bt173 => (some (3, bt173.1, 0, (⟨#[]⟩ : ByteArray), (⟨#[]⟩ : ByteArray), 0, true, bt173.2.1, bt173.2.2))) else (some (0, (⟨#[]⟩ : ByteArray), 0, (⟨#[]⟩ : ByteArray), (⟨#[]⟩ : ByteArray), 0, false, bt170.2.1, bt170.2.2)))
theorem lex_scanner_text.mono : ∀ a0 a1 k, LeO (lex_scanner_text.f k a0 a1) (lex_scanner_text.f (k + 1) a0 a1) := by
 intro a0 a1 k
 unfold lex_scanner_text.f
 repeat' first
   | (with_reducible exact lex_scanner_quoted.mono _ _ _ _ _)
   | (with_reducible exact LeO.refl _)
   | (with_reducible exact LeO.none _)
   | (with_reducible refine LeO.ite ?_ ?_)
   | (with_reducible refine LeO.bind ?_ (fun _ => ?_))
   | exact lex_scanner_quoted.mono _ _ _ _ _
   | exact LeO.none _
   | refine LeO.ite ?_ ?_
   | refine LeO.bind ?_ (fun _ => ?_)
set_option maxHeartbeats 8000000 in
set_option maxRecDepth 100000 in
theorem lex_scanner_text.calls (k : Nat) (g : Nat) (s0_0 : ByteArray) (s0_1 : Int) (r1 : Int) (r2 : ByteArray) (r3 : Int) (r4 : ByteArray) (r5 : ByteArray) (r6 : Int) (r7 : Bool) (r8 : ByteArray) (r9 : Int) (w0 w : World) (hI : IsS75 w0 w g s0_0 s0_1) (hB : Below w0.heap.size w0 w) (h : lex_scanner_text.f k s0_0 s0_1 = some (r1, r2, r3, r4, r5, r6, r7, r8, r9)) :
  Calls Tryz.prog 65 #[.pointer (some ⟨g, 0, none⟩)] w fun e w' => e = .returned (.tuple #[.agg #[.int .i64 r1, .string r2, .int .i64 r3, .string r4, .string r5, .int .i64 r6], .bool r7]) ∧ IsS75 w0 w' g r8 r9 ∧ Below w0.heap.size w0 w' ∧ KeepBut w w' g none := by
 have hu50 := Tryz.underlying50
 have HI0 := Aside0.mk hI
 have HK := Aside0.mk (KeepBut.refl w g none)
 have HL := Aside0.mk hB.size
 clear hI
 have HW0 := Aside0.mk hB.size
 have HB := Aside0.mk hB
 clear hB
 have H : ((lex_scanner_ch.f s0_0 s0_1 s0_1).bind fun bt170 => (if bt170.1 = 34 then ((lex_scanner_quoted.f k bt170.2.1 bt170.2.2 34 true).bind fun bt173 => (some (3, bt173.1, 0, (⟨#[]⟩ : ByteArray), (⟨#[]⟩ : ByteArray), 0, true, bt173.2.1, bt173.2.2))) else (some (0, (⟨#[]⟩ : ByteArray), 0, (⟨#[]⟩ : ByteArray), (⟨#[]⟩ : ByteArray), 0, false, bt170.2.1, bt170.2.2)))) = some (r1, r2, r3, r4, r5, r6, r7, r8, r9) := h
 clear h
 replace H := Option.bind_eq_some_iff.mp H
 obtain ⟨⟨t170, t171, t172⟩, A20, H⟩ := H
 replace H : (if t170 = 34 then ((lex_scanner_quoted.f k t171 t172 34 true).bind fun bt173 => (some (3, bt173.1, 0, (⟨#[]⟩ : ByteArray), (⟨#[]⟩ : ByteArray), 0, true, bt173.2.1, bt173.2.2))) else (some (0, (⟨#[]⟩ : ByteArray), 0, (⟨#[]⟩ : ByteArray), (⟨#[]⟩ : ByteArray), 0, false, t171, t172))) = some (r1, r2, r3, r4, r5, r6, r7, r8, r9) := H
 have A2 := Aside0.mk A20
 clear A20
 by_cases c3 : t170 = 34
 ·rw [if_pos c3] at H
  have c3b0 : (t170 == 34) = true := beq_iff_eq.mpr c3
  have c3b1 : (t170 != 34) = false := bne_eq_false_iff_eq.mpr c3
  clear c3
  replace H := Option.bind_eq_some_iff.mp H
  obtain ⟨⟨t173, t174, t175⟩, A40, H⟩ := H
  replace H : (some (3, t173, 0, (⟨#[]⟩ : ByteArray), (⟨#[]⟩ : ByteArray), 0, true, t174, t175)) = some (r1, r2, r3, r4, r5, r6, r7, r8, r9) := H
  have A4 := Aside0.mk A40
  clear A40
  simp only [Option.some.injEq, Prod.mk.injEq] at H
  obtain ⟨rfl, rfl, rfl, rfl, rfl, rfl, rfl, rfl, rfl⟩ := H
  go_enter Tryz.func65, Tryz.ntmps65
  go_wp2_with (first | ((with_reducible refine gate_dst (N := 2) rfl ?_); refine box_event r1_ (N := 2) r1_ (cs := #[.int .i64 0, .string (⟨#[]⟩ : ByteArray), .int .i64 0, .string (⟨#[]⟩ : ByteArray), .string (⟨#[]⟩ : ByteArray), .int .i64 0]) (t := 50) r2_ ?_; intro gb169 hg w5 hbox hb; have BK169 := Aside0.mk (hbox); have GW169 := Aside0.mk ((by rw [hg]; exact (keep_size (w := w) (g := g) (row := none) z3_) : w.heap.size ≤ gb169)); have GE169 := Aside0.mk ((Nat.le_trans HW0.out (by rw [hg]; exact (keep_size (w := w) (g := g) (row := none) z3_) : w.heap.size ≤ gb169) : w0.heap.size ≤ gb169)); have NB0_169 := Aside0.mk ((by rw [hg]; exact Nat.ne_of_lt (IsS75.lt (show IsS75 w0 _ g s0_0 s0_1 from by repeat (first | (with_reducible first | exact HI0.out | apply IsS75.alloc | apply IsS75.drewN | apply IsS75.drew | apply IsS75.set_0 | apply IsS75.set_1) | exact HI0.out))) : g ≠ gb169)); have NB169_0 := Aside0.mk ((by rw [hg]; exact Nat.ne_of_gt (IsS75.lt (show IsS75 w0 _ g s0_0 s0_1 from by repeat (first | (with_reducible first | exact HI0.out | apply IsS75.alloc | apply IsS75.drewN | apply IsS75.drew | apply IsS75.set_0 | apply IsS75.set_1) | exact HI0.out))) : gb169 ≠ g)); replace HK := Aside0.mk (KeepBut.trans z3_ (KeepBut.of_below hb g none) (.inl rfl)); replace HB := Aside0.mk (below_step (by have G0 := HI0; exact z7_) hb); replace HI0 := Aside0.mk (IsS75.below (by have G0 := HI0; exact z6_) hb); clear hb hbox hg; obtain ⟨HGz6, hgz6⟩ := HI0.out; have hcz6_0 := cellS75_0 HGz6; have hcz6_1 := cellS75_1 HGz6; have hfz6_0 := blk_frozen HGz6 0; have hfz6_1 := blk_frozen HGz6 1; clear HGz6 hgz6) | ((with_reducible refine gate_callee (f := 94) rfl ?_); refine goesL_ (some 9) rfl rfl Tryz.func94 k1_ rfl #[.pointer (some ⟨g, 0, none⟩), .int .i64 s0_1] rfl g1_ ?_; (with_reducible refine (lex_scanner_ch.calls g s0_0 s0_1 s0_1 t170 t171 t172 w0 _ ?side1 ?side2 A2.out).mono ?_); (case side1 => repeat (first | (with_reducible first | exact HI0.out | apply IsS75.alloc | apply IsS75.drewN | apply IsS75.drew | apply IsS75.set_0 | apply IsS75.set_1 | refine IsS75.far ?_ NB0_169.out _) | exact HI0.out)); (case side2 => repeat (first | (with_reducible first | exact HB.out | apply below_alloc | apply pw_below_drewN | apply below_drew1 | refine below_set ?_ (IsS75.ge HI0.out) | refine below_set ?_ GE169.out) | exact HB.out)); rintro e w7 ⟨rfl, hi, hb, hk⟩; refine ⟨_, rfl, ?_⟩; replace BK169 := Aside0.mk (KeepBut.blk hk (g' := gb169) (o := .cells #[.int .i64 0, .string (⟨#[]⟩ : ByteArray), .int .i64 0, .string (⟨#[]⟩ : ByteArray), .string (⟨#[]⟩ : ByteArray), .int .i64 0] 50 (0, 0)) (bd_ BK169.out) NB169_0.out (by simp)); replace HK := Aside0.mk (KeepBut.trans (by have G0 := GW169; exact z5_) hk (.inl rfl)); replace HB := Aside0.mk (hb); replace HI0 := Aside0.mk (hi); (try clear hb); (try clear hb2); (try clear hk); (try clear hi)) | ((with_reducible refine gate_callee (f := 95) rfl ?_); refine goesL_ (some 13) rfl rfl Tryz.func95 k1_ rfl #[.pointer (some ⟨g, 0, none⟩), .int .u8 34, .bool true] rfl g1_ ?_; (with_reducible refine (lex_scanner_quoted.calls k g t171 t172 34 true t173 t174 t175 w0 _ ?side1 ?side2 A4.out).mono ?_); (case side1 => repeat (first | (with_reducible first | exact HI0.out | apply IsS75.alloc | apply IsS75.drewN | apply IsS75.drew | apply IsS75.set_0 | apply IsS75.set_1 | refine IsS75.far ?_ NB0_169.out _) | exact HI0.out)); (case side2 => repeat (first | (with_reducible first | exact HB.out | apply below_alloc | apply pw_below_drewN | apply below_drew1 | refine below_set ?_ (IsS75.ge HI0.out) | refine below_set ?_ GE169.out) | exact HB.out)); rintro e w8 ⟨rfl, hi, hb, hk⟩; refine ⟨_, rfl, ?_⟩; replace BK169 := Aside0.mk (KeepBut.blk hk (g' := gb169) (o := .cells #[.int .i64 0, .string (⟨#[]⟩ : ByteArray), .int .i64 0, .string (⟨#[]⟩ : ByteArray), .string (⟨#[]⟩ : ByteArray), .int .i64 0] 50 (0, 0)) (bd_ BK169.out) NB169_0.out (by simp)); replace HK := Aside0.mk (KeepBut.trans (by have G0 := GW169; exact z5_) hk (.inl rfl)); replace HB := Aside0.mk (hb); replace HI0 := Aside0.mk (hi); (try clear hb); (try clear hb2); (try clear hk); (try clear hi); have hnb9 := NB169_0.out; have hnc9 := NB0_169.out; have hcz10_0 := cl_ (.int .i64 0) BK169.out 0; have hcz10_1 := cl_ (.string (⟨#[]⟩ : ByteArray)) BK169.out 1; have hcz10_2 := cl_ (.int .i64 0) BK169.out 2; have hcz10_3 := cl_ (.string (⟨#[]⟩ : ByteArray)) BK169.out 3; have hcz10_4 := cl_ (.string (⟨#[]⟩ : ByteArray)) BK169.out 4; have hcz10_5 := cl_ (.int .i64 0) BK169.out 5; have hfz10_0 := blk_frozen BK169.out 0; have hfz10_1 := blk_frozen BK169.out 1; have hfz10_2 := blk_frozen BK169.out 2; have hfz10_3 := blk_frozen BK169.out 3; have hfz10_4 := blk_frozen BK169.out 4; have hfz10_5 := blk_frozen BK169.out 5))
  refine bodyPost_ret (results_ct rfl _ _ gb169 50 #[.int .i64 3, .string t173, .int .i64 0, .string (⟨#[]⟩ : ByteArray), .string (⟨#[]⟩ : ByteArray), .int .i64 0] (0, 0) _ rfl (by (with_reducible repeat (first | refine blk_drewN ?_ _ | refine blk_drew ?_ | refine blk_alloc ?_ _)); refine blk_put (cs := #[.int .i64 3, .string t173, .int .i64 0, .string (⟨#[]⟩ : ByteArray), .string (⟨#[]⟩ : ByteArray), .int .i64 0]) ?_ 5 _ rfl; (with_reducible repeat (first | refine blk_drewN ?_ _ | refine blk_drew ?_ | refine blk_alloc ?_ _)); refine blk_put (cs := #[.int .i64 3, .string t173, .int .i64 0, .string (⟨#[]⟩ : ByteArray), .string (⟨#[]⟩ : ByteArray), .int .i64 0]) ?_ 4 _ rfl; (with_reducible repeat (first | refine blk_drewN ?_ _ | refine blk_drew ?_ | refine blk_alloc ?_ _)); refine blk_put (cs := #[.int .i64 3, .string t173, .int .i64 0, .string (⟨#[]⟩ : ByteArray), .string (⟨#[]⟩ : ByteArray), .int .i64 0]) ?_ 3 _ rfl; (with_reducible repeat (first | refine blk_drewN ?_ _ | refine blk_drew ?_ | refine blk_alloc ?_ _)); refine blk_put (cs := #[.int .i64 3, .string t173, .int .i64 0, .string (⟨#[]⟩ : ByteArray), .string (⟨#[]⟩ : ByteArray), .int .i64 0]) ?_ 2 _ rfl; (with_reducible repeat (first | refine blk_drewN ?_ _ | refine blk_drew ?_ | refine blk_alloc ?_ _)); refine blk_put (cs := #[.int .i64 3, .string (⟨#[]⟩ : ByteArray), .int .i64 0, .string (⟨#[]⟩ : ByteArray), .string (⟨#[]⟩ : ByteArray), .int .i64 0]) ?_ 1 _ rfl; (with_reducible repeat (first | refine blk_drewN ?_ _ | refine blk_drew ?_ | refine blk_alloc ?_ _)); refine blk_put (cs := #[.int .i64 0, .string (⟨#[]⟩ : ByteArray), .int .i64 0, .string (⟨#[]⟩ : ByteArray), .string (⟨#[]⟩ : ByteArray), .int .i64 0]) ?_ 0 _ rfl; (with_reducible repeat (first | refine blk_drewN ?_ _ | refine blk_drew ?_ | refine blk_alloc ?_ _)); exact BK169.out) Tryz.underlying50 rfl k1_) rfl ?_
  exact ⟨e2_, by have G0 := HI0; have G1 := NB0_169; exact z9_, by have G0 := HI0; have G1 := GE169; exact z8_, by have G0 := GW169; exact z5_⟩
 ·rw [if_neg c3] at H
  have c3b0 : (t170 == 34) = false := beq_eq_false_iff_ne.mpr c3
  have c3b1 : (t170 != 34) = true := bne_iff_ne.mpr c3
  simp only [Option.some.injEq, Prod.mk.injEq] at H
  obtain ⟨rfl, rfl, rfl, rfl, rfl, rfl, rfl, rfl, rfl⟩ := H
  go_enter Tryz.func65, Tryz.ntmps65
  go_wp2_with (first | ((with_reducible refine gate_dst (N := 2) rfl ?_); refine box_event r1_ (N := 2) r1_ (cs := #[.int .i64 0, .string (⟨#[]⟩ : ByteArray), .int .i64 0, .string (⟨#[]⟩ : ByteArray), .string (⟨#[]⟩ : ByteArray), .int .i64 0]) (t := 50) r2_ ?_; intro gb169 hg w11 hbox hb; have BK169 := Aside0.mk (hbox); have GW169 := Aside0.mk ((by rw [hg]; exact (keep_size (w := w) (g := g) (row := none) z3_) : w.heap.size ≤ gb169)); have GE169 := Aside0.mk ((Nat.le_trans HW0.out (by rw [hg]; exact (keep_size (w := w) (g := g) (row := none) z3_) : w.heap.size ≤ gb169) : w0.heap.size ≤ gb169)); have NB0_169 := Aside0.mk ((by rw [hg]; exact Nat.ne_of_lt (IsS75.lt (show IsS75 w0 _ g s0_0 s0_1 from by repeat (first | (with_reducible first | exact HI0.out | apply IsS75.alloc | apply IsS75.drewN | apply IsS75.drew | apply IsS75.set_0 | apply IsS75.set_1) | exact HI0.out))) : g ≠ gb169)); have NB169_0 := Aside0.mk ((by rw [hg]; exact Nat.ne_of_gt (IsS75.lt (show IsS75 w0 _ g s0_0 s0_1 from by repeat (first | (with_reducible first | exact HI0.out | apply IsS75.alloc | apply IsS75.drewN | apply IsS75.drew | apply IsS75.set_0 | apply IsS75.set_1) | exact HI0.out))) : gb169 ≠ g)); replace HK := Aside0.mk (KeepBut.trans z3_ (KeepBut.of_below hb g none) (.inl rfl)); replace HB := Aside0.mk (below_step (by have G0 := HI0; exact z7_) hb); replace HI0 := Aside0.mk (IsS75.below (by have G0 := HI0; exact z6_) hb); clear hb hbox hg; obtain ⟨HGz12, hgz12⟩ := HI0.out; have hcz12_0 := cellS75_0 HGz12; have hcz12_1 := cellS75_1 HGz12; have hfz12_0 := blk_frozen HGz12 0; have hfz12_1 := blk_frozen HGz12 1; clear HGz12 hgz12) | ((with_reducible refine gate_callee (f := 94) rfl ?_); refine goesL_ (some 9) rfl rfl Tryz.func94 k1_ rfl #[.pointer (some ⟨g, 0, none⟩), .int .i64 s0_1] rfl g1_ ?_; (with_reducible refine (lex_scanner_ch.calls g s0_0 s0_1 s0_1 t170 t171 t172 w0 _ ?side1 ?side2 A2.out).mono ?_); (case side1 => repeat (first | (with_reducible first | exact HI0.out | apply IsS75.alloc | apply IsS75.drewN | apply IsS75.drew | apply IsS75.set_0 | apply IsS75.set_1 | refine IsS75.far ?_ NB0_169.out _) | exact HI0.out)); (case side2 => repeat (first | (with_reducible first | exact HB.out | apply below_alloc | apply pw_below_drewN | apply below_drew1 | refine below_set ?_ (IsS75.ge HI0.out) | refine below_set ?_ GE169.out) | exact HB.out)); rintro e w13 ⟨rfl, hi, hb, hk⟩; refine ⟨_, rfl, ?_⟩; replace BK169 := Aside0.mk (KeepBut.blk hk (g' := gb169) (o := .cells #[.int .i64 0, .string (⟨#[]⟩ : ByteArray), .int .i64 0, .string (⟨#[]⟩ : ByteArray), .string (⟨#[]⟩ : ByteArray), .int .i64 0] 50 (0, 0)) (bd_ BK169.out) NB169_0.out (by simp)); replace HK := Aside0.mk (KeepBut.trans (by have G0 := GW169; exact z5_) hk (.inl rfl)); replace HB := Aside0.mk (hb); replace HI0 := Aside0.mk (hi); (try clear hb); (try clear hb2); (try clear hk); (try clear hi); have hnb14 := NB169_0.out; have hnc14 := NB0_169.out; have hcz15_0 := cl_ (.int .i64 0) BK169.out 0; have hcz15_1 := cl_ (.string (⟨#[]⟩ : ByteArray)) BK169.out 1; have hcz15_2 := cl_ (.int .i64 0) BK169.out 2; have hcz15_3 := cl_ (.string (⟨#[]⟩ : ByteArray)) BK169.out 3; have hcz15_4 := cl_ (.string (⟨#[]⟩ : ByteArray)) BK169.out 4; have hcz15_5 := cl_ (.int .i64 0) BK169.out 5; have hfz15_0 := blk_frozen BK169.out 0; have hfz15_1 := blk_frozen BK169.out 1; have hfz15_2 := blk_frozen BK169.out 2; have hfz15_3 := blk_frozen BK169.out 3; have hfz15_4 := blk_frozen BK169.out 4; have hfz15_5 := blk_frozen BK169.out 5))
  refine bodyPost_ret (results_ct rfl _ _ gb169 50 #[.int .i64 0, .string (⟨#[]⟩ : ByteArray), .int .i64 0, .string (⟨#[]⟩ : ByteArray), .string (⟨#[]⟩ : ByteArray), .int .i64 0] (0, 0) _ rfl (by have G0 := BK169; exact z21_) Tryz.underlying50 rfl k1_) rfl ?_
  exact ⟨e2_, by have G0 := HI0; have G1 := NB0_169; exact z9_, by have G0 := HI0; have G1 := GE169; exact z8_, by have G0 := GW169; exact z5_⟩
def lex_scanner_lang.f (k : Nat) (s0_0 : ByteArray) (s0_1 : Int) : Option (Int × ByteArray × Int × ByteArray × ByteArray × Int × Bool × ByteArray × Int) := (lex_scanner_ch.f s0_0 s0_1 s0_1).bind fun bt177 => (if bt177.1 = 64 then (if 1 ≤ 0 then ((term_May.f k 4 (⟨#[]⟩ : ByteArray) ((⟨#[]⟩ : ByteArray).extract 1 (⟨#[]⟩ : ByteArray).size)).bind fun t180 => (if t180 = true then (some (4, (⟨#[]⟩ : ByteArray).extract 1 (⟨#[]⟩ : ByteArray).size, 0, (⟨#[]⟩ : ByteArray), (⟨#[]⟩ : ByteArray), 0, true, bt177.2.1, wrap64 (bt177.2.2 + 1))) else ((lex_scanner_fail.f bt177.2.1 (wrap64 (bt177.2.2 + 1)) bt177.2.2).bind fun bt181 => (some (4, (⟨#[]⟩ : ByteArray).extract 1 (⟨#[]⟩ : ByteArray).size, 0, (⟨#[]⟩ : ByteArray), (⟨#[]⟩ : ByteArray), 0, true, bt181.1, bt181.2))))) else (none)) else (some (0, (⟨#[]⟩ : ByteArray), 0, (⟨#[]⟩ : ByteArray), (⟨#[]⟩ : ByteArray), 0, false, bt177.2.1, bt177.2.2)))
theorem lex_scanner_lang.mono : ∀ a0 a1 k, LeO (lex_scanner_lang.f k a0 a1) (lex_scanner_lang.f (k + 1) a0 a1) := by
 intro a0 a1 k
 unfold lex_scanner_lang.f
 repeat' first
   | (with_reducible exact term_May.mono _ _ _ _)
   | (with_reducible exact LeO.refl _)
   | (with_reducible exact LeO.none _)
   | (with_reducible refine LeO.ite ?_ ?_)
   | (with_reducible refine LeO.bind ?_ (fun _ => ?_))
   | exact term_May.mono _ _ _ _
   | exact LeO.none _
   | refine LeO.ite ?_ ?_
   | refine LeO.bind ?_ (fun _ => ?_)
set_option maxHeartbeats 8000000 in
set_option maxRecDepth 100000 in
theorem lex_scanner_lang.calls (k : Nat) (g : Nat) (s0_0 : ByteArray) (s0_1 : Int) (r1 : Int) (r2 : ByteArray) (r3 : Int) (r4 : ByteArray) (r5 : ByteArray) (r6 : Int) (r7 : Bool) (r8 : ByteArray) (r9 : Int) (w0 w : World) (hI : IsS75 w0 w g s0_0 s0_1) (hB : Below w0.heap.size w0 w) (h : lex_scanner_lang.f k s0_0 s0_1 = some (r1, r2, r3, r4, r5, r6, r7, r8, r9)) :
  Calls Tryz.prog 66 #[.pointer (some ⟨g, 0, none⟩)] w fun e w' => e = .returned (.tuple #[.agg #[.int .i64 r1, .string r2, .int .i64 r3, .string r4, .string r5, .int .i64 r6], .bool r7]) ∧ IsS75 w0 w' g r8 r9 ∧ Below w0.heap.size w0 w' ∧ KeepBut w w' g none := by
 have hu50 := Tryz.underlying50
 have hu31 := Tryz.underlying31
 have HI0 := Aside0.mk hI
 have HK := Aside0.mk (KeepBut.refl w g none)
 have HL := Aside0.mk hB.size
 clear hI
 have HW0 := Aside0.mk hB.size
 have HB := Aside0.mk hB
 clear hB
 have H : ((lex_scanner_ch.f s0_0 s0_1 s0_1).bind fun bt177 => (if bt177.1 = 64 then (if 1 ≤ 0 then ((term_May.f k 4 (⟨#[]⟩ : ByteArray) ((⟨#[]⟩ : ByteArray).extract 1 (⟨#[]⟩ : ByteArray).size)).bind fun t180 => (if t180 = true then (some (4, (⟨#[]⟩ : ByteArray).extract 1 (⟨#[]⟩ : ByteArray).size, 0, (⟨#[]⟩ : ByteArray), (⟨#[]⟩ : ByteArray), 0, true, bt177.2.1, wrap64 (bt177.2.2 + 1))) else ((lex_scanner_fail.f bt177.2.1 (wrap64 (bt177.2.2 + 1)) bt177.2.2).bind fun bt181 => (some (4, (⟨#[]⟩ : ByteArray).extract 1 (⟨#[]⟩ : ByteArray).size, 0, (⟨#[]⟩ : ByteArray), (⟨#[]⟩ : ByteArray), 0, true, bt181.1, bt181.2))))) else (none)) else (some (0, (⟨#[]⟩ : ByteArray), 0, (⟨#[]⟩ : ByteArray), (⟨#[]⟩ : ByteArray), 0, false, bt177.2.1, bt177.2.2)))) = some (r1, r2, r3, r4, r5, r6, r7, r8, r9) := h
 clear h
 replace H := Option.bind_eq_some_iff.mp H
 obtain ⟨⟨t177, t178, t179⟩, A20, H⟩ := H
 replace H : (if t177 = 64 then (if 1 ≤ 0 then ((term_May.f k 4 (⟨#[]⟩ : ByteArray) ((⟨#[]⟩ : ByteArray).extract 1 (⟨#[]⟩ : ByteArray).size)).bind fun t180 => (if t180 = true then (some (4, (⟨#[]⟩ : ByteArray).extract 1 (⟨#[]⟩ : ByteArray).size, 0, (⟨#[]⟩ : ByteArray), (⟨#[]⟩ : ByteArray), 0, true, t178, wrap64 (t179 + 1))) else ((lex_scanner_fail.f t178 (wrap64 (t179 + 1)) t179).bind fun bt181 => (some (4, (⟨#[]⟩ : ByteArray).extract 1 (⟨#[]⟩ : ByteArray).size, 0, (⟨#[]⟩ : ByteArray), (⟨#[]⟩ : ByteArray), 0, true, bt181.1, bt181.2))))) else (none)) else (some (0, (⟨#[]⟩ : ByteArray), 0, (⟨#[]⟩ : ByteArray), (⟨#[]⟩ : ByteArray), 0, false, t178, t179))) = some (r1, r2, r3, r4, r5, r6, r7, r8, r9) := H
 have A2 := Aside0.mk A20
 clear A20
 by_cases c3 : t177 = 64
 ·rw [if_pos c3] at H
  have c3b0 : (t177 == 64) = true := beq_iff_eq.mpr c3
  have c3b1 : (t177 != 64) = false := bne_eq_false_iff_eq.mpr c3
  clear c3
  by_cases c4 : 1 ≤ 0
  ·exact absurd c4 (by decide)
  ·rw [if_neg c4] at H
   exact absurd H (by simp)
 ·rw [if_neg c3] at H
  have c3b0 : (t177 == 64) = false := beq_eq_false_iff_ne.mpr c3
  have c3b1 : (t177 != 64) = true := bne_iff_ne.mpr c3
  simp only [Option.some.injEq, Prod.mk.injEq] at H
  obtain ⟨rfl, rfl, rfl, rfl, rfl, rfl, rfl, rfl, rfl⟩ := H
  go_enter Tryz.func66, Tryz.ntmps66
  go_wp2_with (first | ((with_reducible refine gate_dst (N := 2) rfl ?_); refine box_event r1_ (N := 2) r1_ (cs := #[.int .i64 0, .string (⟨#[]⟩ : ByteArray), .int .i64 0, .string (⟨#[]⟩ : ByteArray), .string (⟨#[]⟩ : ByteArray), .int .i64 0]) (t := 50) r2_ ?_; intro gb176 hg w23 hbox hb; have BK176 := Aside0.mk (hbox); have GW176 := Aside0.mk ((by rw [hg]; exact (keep_size (w := w) (g := g) (row := none) z3_) : w.heap.size ≤ gb176)); have GE176 := Aside0.mk ((Nat.le_trans HW0.out (by rw [hg]; exact (keep_size (w := w) (g := g) (row := none) z3_) : w.heap.size ≤ gb176) : w0.heap.size ≤ gb176)); have NB0_176 := Aside0.mk ((by rw [hg]; exact Nat.ne_of_lt (IsS75.lt (show IsS75 w0 _ g s0_0 s0_1 from by repeat (first | (with_reducible first | exact HI0.out | apply IsS75.alloc | apply IsS75.drewN | apply IsS75.drew | apply IsS75.set_0 | apply IsS75.set_1) | exact HI0.out))) : g ≠ gb176)); have NB176_0 := Aside0.mk ((by rw [hg]; exact Nat.ne_of_gt (IsS75.lt (show IsS75 w0 _ g s0_0 s0_1 from by repeat (first | (with_reducible first | exact HI0.out | apply IsS75.alloc | apply IsS75.drewN | apply IsS75.drew | apply IsS75.set_0 | apply IsS75.set_1) | exact HI0.out))) : gb176 ≠ g)); replace HK := Aside0.mk (KeepBut.trans z3_ (KeepBut.of_below hb g none) (.inl rfl)); replace HB := Aside0.mk (below_step (by have G0 := HI0; exact z7_) hb); replace HI0 := Aside0.mk (IsS75.below (by have G0 := HI0; exact z6_) hb); clear hb hbox hg; obtain ⟨HGz24, hgz24⟩ := HI0.out; have hcz24_0 := cellS75_0 HGz24; have hcz24_1 := cellS75_1 HGz24; have hfz24_0 := blk_frozen HGz24 0; have hfz24_1 := blk_frozen HGz24 1; clear HGz24 hgz24) | ((with_reducible refine gate_callee (f := 94) rfl ?_); refine goesL_ (some 11) rfl rfl Tryz.func94 k1_ rfl #[.pointer (some ⟨g, 0, none⟩), .int .i64 s0_1] rfl g1_ ?_; (with_reducible refine (lex_scanner_ch.calls g s0_0 s0_1 s0_1 t177 t178 t179 w0 _ ?side1 ?side2 A2.out).mono ?_); (case side1 => repeat (first | (with_reducible first | exact HI0.out | apply IsS75.alloc | apply IsS75.drewN | apply IsS75.drew | apply IsS75.set_0 | apply IsS75.set_1 | refine IsS75.far ?_ NB0_176.out _) | exact HI0.out)); (case side2 => repeat (first | (with_reducible first | exact HB.out | apply below_alloc | apply pw_below_drewN | apply below_drew1 | refine below_set ?_ (IsS75.ge HI0.out) | refine below_set ?_ GE176.out) | exact HB.out)); rintro e w25 ⟨rfl, hi, hb, hk⟩; refine ⟨_, rfl, ?_⟩; replace BK176 := Aside0.mk (KeepBut.blk hk (g' := gb176) (o := .cells #[.int .i64 0, .string (⟨#[]⟩ : ByteArray), .int .i64 0, .string (⟨#[]⟩ : ByteArray), .string (⟨#[]⟩ : ByteArray), .int .i64 0] 50 (0, 0)) (bd_ BK176.out) NB176_0.out (by simp)); replace HK := Aside0.mk (KeepBut.trans (by have G0 := GW176; exact z5_) hk (.inl rfl)); replace HB := Aside0.mk (hb); replace HI0 := Aside0.mk (hi); (try clear hb); (try clear hb2); (try clear hk); (try clear hi); have hnb26 := NB176_0.out; have hnc26 := NB0_176.out; have hcz27_0 := cl_ (.int .i64 0) BK176.out 0; have hcz27_1 := cl_ (.string (⟨#[]⟩ : ByteArray)) BK176.out 1; have hcz27_2 := cl_ (.int .i64 0) BK176.out 2; have hcz27_3 := cl_ (.string (⟨#[]⟩ : ByteArray)) BK176.out 3; have hcz27_4 := cl_ (.string (⟨#[]⟩ : ByteArray)) BK176.out 4; have hcz27_5 := cl_ (.int .i64 0) BK176.out 5; have hfz27_0 := blk_frozen BK176.out 0; have hfz27_1 := blk_frozen BK176.out 1; have hfz27_2 := blk_frozen BK176.out 2; have hfz27_3 := blk_frozen BK176.out 3; have hfz27_4 := blk_frozen BK176.out 4; have hfz27_5 := blk_frozen BK176.out 5))
  refine bodyPost_ret (results_ct rfl _ _ gb176 50 #[.int .i64 0, .string (⟨#[]⟩ : ByteArray), .int .i64 0, .string (⟨#[]⟩ : ByteArray), .string (⟨#[]⟩ : ByteArray), .int .i64 0] (0, 0) _ rfl (by have G0 := BK176; exact z21_) Tryz.underlying50 rfl k1_) rfl ?_
  exact ⟨e2_, by have G0 := HI0; have G1 := NB0_176; exact z9_, by have G0 := HI0; have G1 := GE176; exact z8_, by have G0 := GW176; exact z5_⟩
end Go.Proofs.YtjnhdamilbcmpaaGreatDoor.PWrit

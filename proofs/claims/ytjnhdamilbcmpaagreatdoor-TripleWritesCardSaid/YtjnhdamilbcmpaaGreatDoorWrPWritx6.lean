import Derived.Test.YtjnhdamilbcmpaaGreatDoorWrPWritx0
import Derived.Test.YtjnhdamilbcmpaaGreatDoorWrPWritx4
import Derived.Test.YtjnhdamilbcmpaaGreatDoorWrPWritx5
namespace Go.Proofs.YtjnhdamilbcmpaaGreatDoor.PWrit
open Go.RowKit Go.Proofs.YtjnhdamilbcmpaaGreatDoorW.PrintWords Go.Proofs.YtjnhdamilbcmpaaGreatDoorW.PrintLast Go.Proofs.YtjnhdamilbcmpaaGreatDoorW.PrintMore
attribute [local go_sem] max2_int min2_int max_two min_two max_three min_three max_four min_four
set_option linter.unusedVariables false
set_option linter.unusedSimpArgs false
def lex_scanner_variable.f (s0_0 : ByteArray) (s0_1 : Int) : Option (Int × ByteArray × Int × ByteArray × ByteArray × Int × Bool × ByteArray × Int) := (lex_scanner_ch.f s0_0 s0_1 s0_1).bind fun bt184 => (if bt184.1 = 63 then (if 1 ≤ 0 then (if ((⟨#[]⟩ : ByteArray).extract 1 (⟨#[]⟩ : ByteArray).size).toList = ([] : List UInt8) then ((lex_scanner_fail.f bt184.2.1 (wrap64 (bt184.2.2 + 1)) bt184.2.2).bind fun bt187 => (some (5, (⟨#[]⟩ : ByteArray).extract 1 (⟨#[]⟩ : ByteArray).size, 0, (⟨#[]⟩ : ByteArray), (⟨#[]⟩ : ByteArray), 0, true, bt187.1, bt187.2))) else (some (5, (⟨#[]⟩ : ByteArray).extract 1 (⟨#[]⟩ : ByteArray).size, 0, (⟨#[]⟩ : ByteArray), (⟨#[]⟩ : ByteArray), 0, true, bt184.2.1, wrap64 (bt184.2.2 + 1)))) else (none)) else (some (0, (⟨#[]⟩ : ByteArray), 0, (⟨#[]⟩ : ByteArray), (⟨#[]⟩ : ByteArray), 0, false, bt184.2.1, bt184.2.2)))
set_option maxHeartbeats 8000000 in
set_option maxRecDepth 100000 in
theorem lex_scanner_variable.calls (g : Nat) (s0_0 : ByteArray) (s0_1 : Int) (r1 : Int) (r2 : ByteArray) (r3 : Int) (r4 : ByteArray) (r5 : ByteArray) (r6 : Int) (r7 : Bool) (r8 : ByteArray) (r9 : Int) (w0 w : World) (hI : IsS75 w0 w g s0_0 s0_1) (hB : Below w0.heap.size w0 w) (h : lex_scanner_variable.f s0_0 s0_1 = some (r1, r2, r3, r4, r5, r6, r7, r8, r9)) :
  Calls Tryz.prog 67 #[.pointer (some ⟨g, 0, none⟩)] w fun e w' => e = .returned (.tuple #[.agg #[.int .i64 r1, .string r2, .int .i64 r3, .string r4, .string r5, .int .i64 r6], .bool r7]) ∧ IsS75 w0 w' g r8 r9 ∧ Below w0.heap.size w0 w' ∧ KeepBut w w' g none := by
 have hu50 := Tryz.underlying50
 have HI0 := Aside0.mk hI
 have HK := Aside0.mk (KeepBut.refl w g none)
 have HL := Aside0.mk hB.size
 clear hI
 have HW0 := Aside0.mk hB.size
 have HB := Aside0.mk hB
 clear hB
 have H : ((lex_scanner_ch.f s0_0 s0_1 s0_1).bind fun bt184 => (if bt184.1 = 63 then (if 1 ≤ 0 then (if ((⟨#[]⟩ : ByteArray).extract 1 (⟨#[]⟩ : ByteArray).size).toList = ([] : List UInt8) then ((lex_scanner_fail.f bt184.2.1 (wrap64 (bt184.2.2 + 1)) bt184.2.2).bind fun bt187 => (some (5, (⟨#[]⟩ : ByteArray).extract 1 (⟨#[]⟩ : ByteArray).size, 0, (⟨#[]⟩ : ByteArray), (⟨#[]⟩ : ByteArray), 0, true, bt187.1, bt187.2))) else (some (5, (⟨#[]⟩ : ByteArray).extract 1 (⟨#[]⟩ : ByteArray).size, 0, (⟨#[]⟩ : ByteArray), (⟨#[]⟩ : ByteArray), 0, true, bt184.2.1, wrap64 (bt184.2.2 + 1)))) else (none)) else (some (0, (⟨#[]⟩ : ByteArray), 0, (⟨#[]⟩ : ByteArray), (⟨#[]⟩ : ByteArray), 0, false, bt184.2.1, bt184.2.2)))) = some (r1, r2, r3, r4, r5, r6, r7, r8, r9) := h
 clear h
 replace H := Option.bind_eq_some_iff.mp H
 obtain ⟨⟨t184, t185, t186⟩, A20, H⟩ := H
 replace H : (if t184 = 63 then (if 1 ≤ 0 then (if ((⟨#[]⟩ : ByteArray).extract 1 (⟨#[]⟩ : ByteArray).size).toList = ([] : List UInt8) then ((lex_scanner_fail.f t185 (wrap64 (t186 + 1)) t186).bind fun bt187 => (some (5, (⟨#[]⟩ : ByteArray).extract 1 (⟨#[]⟩ : ByteArray).size, 0, (⟨#[]⟩ : ByteArray), (⟨#[]⟩ : ByteArray), 0, true, bt187.1, bt187.2))) else (some (5, (⟨#[]⟩ : ByteArray).extract 1 (⟨#[]⟩ : ByteArray).size, 0, (⟨#[]⟩ : ByteArray), (⟨#[]⟩ : ByteArray), 0, true, t185, wrap64 (t186 + 1)))) else (none)) else (some (0, (⟨#[]⟩ : ByteArray), 0, (⟨#[]⟩ : ByteArray), (⟨#[]⟩ : ByteArray), 0, false, t185, t186))) = some (r1, r2, r3, r4, r5, r6, r7, r8, r9) := H
 have A2 := Aside0.mk A20
 clear A20
 by_cases c3 : t184 = 63
 ·rw [if_pos c3] at H
  have c3b0 : (t184 == 63) = true := beq_iff_eq.mpr c3
  have c3b1 : (t184 != 63) = false := bne_eq_false_iff_eq.mpr c3
  clear c3
  by_cases c4 : 1 ≤ 0
  ·exact absurd c4 (by decide)
  ·rw [if_neg c4] at H
   exact absurd H (by simp)
 ·rw [if_neg c3] at H
  have c3b0 : (t184 == 63) = false := beq_eq_false_iff_ne.mpr c3
  have c3b1 : (t184 != 63) = true := bne_iff_ne.mpr c3
  simp only [Option.some.injEq, Prod.mk.injEq] at H
  obtain ⟨rfl, rfl, rfl, rfl, rfl, rfl, rfl, rfl, rfl⟩ := H
  go_enter Tryz.func67, Tryz.ntmps67
  go_wp2_with (first | ((with_reducible refine gate_dst (N := 2) rfl ?_); refine box_event r1_ (N := 2) r1_ (cs := #[.int .i64 0, .string (⟨#[]⟩ : ByteArray), .int .i64 0, .string (⟨#[]⟩ : ByteArray), .string (⟨#[]⟩ : ByteArray), .int .i64 0]) (t := 50) r2_ ?_; intro gb183 hg w20 hbox hb; have BK183 := Aside0.mk (hbox); have GW183 := Aside0.mk ((by rw [hg]; exact (keep_size (w := w) (g := g) (row := none) z3_) : w.heap.size ≤ gb183)); have GE183 := Aside0.mk ((Nat.le_trans HW0.out (by rw [hg]; exact (keep_size (w := w) (g := g) (row := none) z3_) : w.heap.size ≤ gb183) : w0.heap.size ≤ gb183)); have NB0_183 := Aside0.mk ((by rw [hg]; exact Nat.ne_of_lt (IsS75.lt (show IsS75 w0 _ g s0_0 s0_1 from by repeat (first | (with_reducible first | exact HI0.out | apply IsS75.alloc | apply IsS75.drewN | apply IsS75.drew | apply IsS75.set_0 | apply IsS75.set_1) | exact HI0.out))) : g ≠ gb183)); have NB183_0 := Aside0.mk ((by rw [hg]; exact Nat.ne_of_gt (IsS75.lt (show IsS75 w0 _ g s0_0 s0_1 from by repeat (first | (with_reducible first | exact HI0.out | apply IsS75.alloc | apply IsS75.drewN | apply IsS75.drew | apply IsS75.set_0 | apply IsS75.set_1) | exact HI0.out))) : gb183 ≠ g)); replace HK := Aside0.mk (KeepBut.trans z3_ (KeepBut.of_below hb g none) (.inl rfl)); replace HB := Aside0.mk (below_step (by have G0 := HI0; exact z7_) hb); replace HI0 := Aside0.mk (IsS75.below (by have G0 := HI0; exact z6_) hb); clear hb hbox hg; obtain ⟨HGz21, hgz21⟩ := HI0.out; have hcz21_0 := cellS75_0 HGz21; have hcz21_1 := cellS75_1 HGz21; have hfz21_0 := blk_frozen HGz21 0; have hfz21_1 := blk_frozen HGz21 1; clear HGz21 hgz21) | ((with_reducible refine gate_callee (f := 94) rfl ?_); refine goesL_ (some 11) rfl rfl Tryz.func94 k1_ rfl #[.pointer (some ⟨g, 0, none⟩), .int .i64 s0_1] rfl g1_ ?_; (with_reducible refine (lex_scanner_ch.calls g s0_0 s0_1 s0_1 t184 t185 t186 w0 _ ?side1 ?side2 A2.out).mono ?_); (case side1 => repeat (first | (with_reducible first | exact HI0.out | apply IsS75.alloc | apply IsS75.drewN | apply IsS75.drew | apply IsS75.set_0 | apply IsS75.set_1 | refine IsS75.far ?_ NB0_183.out _) | exact HI0.out)); (case side2 => repeat (first | (with_reducible first | exact HB.out | apply below_alloc | apply pw_below_drewN | apply below_drew1 | refine below_set ?_ (IsS75.ge HI0.out) | refine below_set ?_ GE183.out) | exact HB.out)); rintro e w22 ⟨rfl, hi, hb, hk⟩; refine ⟨_, rfl, ?_⟩; replace BK183 := Aside0.mk (KeepBut.blk hk (g' := gb183) (o := .cells #[.int .i64 0, .string (⟨#[]⟩ : ByteArray), .int .i64 0, .string (⟨#[]⟩ : ByteArray), .string (⟨#[]⟩ : ByteArray), .int .i64 0] 50 (0, 0)) (bd_ BK183.out) NB183_0.out (by simp)); replace HK := Aside0.mk (KeepBut.trans (by have G0 := GW183; exact z5_) hk (.inl rfl)); replace HB := Aside0.mk (hb); replace HI0 := Aside0.mk (hi); (try clear hb); (try clear hb2); (try clear hk); (try clear hi); have hnb23 := NB183_0.out; have hnc23 := NB0_183.out; have hcz24_0 := cl_ (.int .i64 0) BK183.out 0; have hcz24_1 := cl_ (.string (⟨#[]⟩ : ByteArray)) BK183.out 1; have hcz24_2 := cl_ (.int .i64 0) BK183.out 2; have hcz24_3 := cl_ (.string (⟨#[]⟩ : ByteArray)) BK183.out 3; have hcz24_4 := cl_ (.string (⟨#[]⟩ : ByteArray)) BK183.out 4; have hcz24_5 := cl_ (.int .i64 0) BK183.out 5; have hfz24_0 := blk_frozen BK183.out 0; have hfz24_1 := blk_frozen BK183.out 1; have hfz24_2 := blk_frozen BK183.out 2; have hfz24_3 := blk_frozen BK183.out 3; have hfz24_4 := blk_frozen BK183.out 4; have hfz24_5 := blk_frozen BK183.out 5))
  refine bodyPost_ret (results_ct rfl _ _ gb183 50 #[.int .i64 0, .string (⟨#[]⟩ : ByteArray), .int .i64 0, .string (⟨#[]⟩ : ByteArray), .string (⟨#[]⟩ : ByteArray), .int .i64 0] (0, 0) _ rfl (by have G0 := BK183; exact z21_) Tryz.underlying50 rfl k1_) rfl ?_
  exact ⟨e2_, by have G0 := HI0; have G1 := NB0_183; exact z9_, by have G0 := HI0; have G1 := GE183; exact z8_, by have G0 := GW183; exact z5_⟩
def lex_scanner_word.j0 : Nat → Bool → ByteArray → Int → Int → ByteArray → Int → ByteArray → ByteArray → Int → Option (Int × ByteArray × Int × ByteArray × ByteArray × Int × Bool × ByteArray × Int)
 | 0, _, _, _, _, _, _, _, _, _ => none
 | k + 1, x33, x1000, x1001, x190000, x190001, x190002, x190003, x190004, x190005 => if x33 = true then (some (0, (⟨#[]⟩ : ByteArray), 0, (⟨#[]⟩ : ByteArray), (⟨#[]⟩ : ByteArray), 0, false, x1000, x1001)) else (if 1 ≤ 0 then ((lex_scanner_ch.f x1000 x1001 x1001).bind fun bt197 => (if bt197.1 = 58 then ((lex_scanner_ch.f bt197.2.1 bt197.2.2 (wrap64 (bt197.2.2 + 1))).bind fun bt200 => (if bt200.1 = 45 then (some (6, (⟨#[]⟩ : ByteArray).extract 1 (⟨#[]⟩ : ByteArray).size, 0, (⟨#[]⟩ : ByteArray), (⟨#[]⟩ : ByteArray), 0, true, bt200.2.1, bt200.2.2)) else (some (x190000, x190001, x190002, x190003, x190004, x190005, true, bt200.2.1, wrap64 (bt200.2.2 + 1))))) else (some (6, (⟨#[]⟩ : ByteArray).extract 1 (⟨#[]⟩ : ByteArray).size, 0, (⟨#[]⟩ : ByteArray), (⟨#[]⟩ : ByteArray), 0, true, bt197.2.1, bt197.2.2)))) else (none))
def lex_scanner_word.f (k : Nat) (s0_0 : ByteArray) (s0_1 : Int) : Option (Int × ByteArray × Int × ByteArray × ByteArray × Int × Bool × ByteArray × Int) := (lex_scanner_ch.f s0_0 s0_1 s0_1).bind fun bt190 => ((lex_letter.f bt190.1).bind fun t193 => (if t193 = true then (lex_scanner_word.j0 k false bt190.2.1 bt190.2.2 0 (⟨#[]⟩ : ByteArray) 0 (⟨#[]⟩ : ByteArray) (⟨#[]⟩ : ByteArray) 0) else (if bt190.1 = 58 then ((lex_scanner_ch.f bt190.2.1 bt190.2.2 (wrap64 (bt190.2.2 + 1))).bind fun bt194 => (lex_scanner_word.j0 k (bt194.1 == 45) bt194.2.1 bt194.2.2 0 (⟨#[]⟩ : ByteArray) 0 (⟨#[]⟩ : ByteArray) (⟨#[]⟩ : ByteArray) 0)) else (lex_scanner_word.j0 k true bt190.2.1 bt190.2.2 0 (⟨#[]⟩ : ByteArray) 0 (⟨#[]⟩ : ByteArray) (⟨#[]⟩ : ByteArray) 0))))
theorem lex_scanner_word.mono_l : ∀ k, (∀ y0 y1 y2 y3 y4 y5 y6 y7 y8, LeO (lex_scanner_word.j0 k y0 y1 y2 y3 y4 y5 y6 y7 y8) (lex_scanner_word.j0 (k + 1) y0 y1 y2 y3 y4 y5 y6 y7 y8))
 | 0 => fun _ _ _ _ _ _ _ _ _ r h => by simp [lex_scanner_word.j0] at h
 | k + 1 => by
  have ih0 := lex_scanner_word.mono_l k
  ·intro y0 y1 y2 y3 y4 y5 y6 y7 y8
   unfold lex_scanner_word.j0
   repeat' first
   | (with_reducible exact ih0 _ _ _ _ _ _ _ _ _)
   | (with_reducible exact LeO.refl _)
   | (with_reducible exact LeO.none _)
   | (with_reducible refine LeO.ite ?_ ?_)
   | (with_reducible refine LeO.bind ?_ (fun _ => ?_))
   | exact ih0 _ _ _ _ _ _ _ _ _
   | exact LeO.none _
   | refine LeO.ite ?_ ?_
   | refine LeO.bind ?_ (fun _ => ?_)
theorem lex_scanner_word.mono : ∀ a0 a1 k, LeO (lex_scanner_word.f k a0 a1) (lex_scanner_word.f (k + 1) a0 a1) := by
 intro a0 a1 k
 have ih0 := lex_scanner_word.mono_l k
 unfold lex_scanner_word.f
 repeat' first
   | (with_reducible exact ih0 _ _ _ _ _ _ _ _ _)
   | (with_reducible exact LeO.refl _)
   | (with_reducible exact LeO.none _)
   | (with_reducible refine LeO.ite ?_ ?_)
   | (with_reducible refine LeO.bind ?_ (fun _ => ?_))
   | exact ih0 _ _ _ _ _ _ _ _ _
   | exact LeO.none _
   | refine LeO.ite ?_ ?_
   | refine LeO.bind ?_ (fun _ => ?_)
set_option maxHeartbeats 8000000 in
set_option maxRecDepth 100000 in
theorem lex_scanner_word.calls (k : Nat) (g : Nat) (s0_0 : ByteArray) (s0_1 : Int) (r1 : Int) (r2 : ByteArray) (r3 : Int) (r4 : ByteArray) (r5 : ByteArray) (r6 : Int) (r7 : Bool) (r8 : ByteArray) (r9 : Int) (w0 w : World) (hI : IsS75 w0 w g s0_0 s0_1) (hB : Below w0.heap.size w0 w) (h : lex_scanner_word.f k s0_0 s0_1 = some (r1, r2, r3, r4, r5, r6, r7, r8, r9)) :
  Calls Tryz.prog 68 #[.pointer (some ⟨g, 0, none⟩)] w fun e w' => e = .returned (.tuple #[.agg #[.int .i64 r1, .string r2, .int .i64 r3, .string r4, .string r5, .int .i64 r6], .bool r7]) ∧ IsS75 w0 w' g r8 r9 ∧ Below w0.heap.size w0 w' ∧ KeepBut w w' g none := by
 have hu50 := Tryz.underlying50
 have HI0 := Aside0.mk hI
 have HK := Aside0.mk (KeepBut.refl w g none)
 have HL := Aside0.mk hB.size
 clear hI
 have HW0 := Aside0.mk hB.size
 have HB := Aside0.mk hB
 clear hB
 have H : ((lex_scanner_ch.f s0_0 s0_1 s0_1).bind fun bt190 => ((lex_letter.f bt190.1).bind fun t193 => (if t193 = true then (lex_scanner_word.j0 k false bt190.2.1 bt190.2.2 0 (⟨#[]⟩ : ByteArray) 0 (⟨#[]⟩ : ByteArray) (⟨#[]⟩ : ByteArray) 0) else (if bt190.1 = 58 then ((lex_scanner_ch.f bt190.2.1 bt190.2.2 (wrap64 (bt190.2.2 + 1))).bind fun bt194 => (lex_scanner_word.j0 k (bt194.1 == 45) bt194.2.1 bt194.2.2 0 (⟨#[]⟩ : ByteArray) 0 (⟨#[]⟩ : ByteArray) (⟨#[]⟩ : ByteArray) 0)) else (lex_scanner_word.j0 k true bt190.2.1 bt190.2.2 0 (⟨#[]⟩ : ByteArray) 0 (⟨#[]⟩ : ByteArray) (⟨#[]⟩ : ByteArray) 0))))) = some (r1, r2, r3, r4, r5, r6, r7, r8, r9) := h
 clear h
 replace H := Option.bind_eq_some_iff.mp H
 obtain ⟨⟨t190, t191, t192⟩, A20, H⟩ := H
 replace H : ((lex_letter.f t190).bind fun t193 => (if t193 = true then (lex_scanner_word.j0 k false t191 t192 0 (⟨#[]⟩ : ByteArray) 0 (⟨#[]⟩ : ByteArray) (⟨#[]⟩ : ByteArray) 0) else (if t190 = 58 then ((lex_scanner_ch.f t191 t192 (wrap64 (t192 + 1))).bind fun bt194 => (lex_scanner_word.j0 k (bt194.1 == 45) bt194.2.1 bt194.2.2 0 (⟨#[]⟩ : ByteArray) 0 (⟨#[]⟩ : ByteArray) (⟨#[]⟩ : ByteArray) 0)) else (lex_scanner_word.j0 k true t191 t192 0 (⟨#[]⟩ : ByteArray) 0 (⟨#[]⟩ : ByteArray) (⟨#[]⟩ : ByteArray) 0)))) = some (r1, r2, r3, r4, r5, r6, r7, r8, r9) := H
 have A2 := Aside0.mk A20
 clear A20
 have HC3 := Aside0.mk H
 clear H
 go_enter Tryz.func68, Tryz.ntmps68
 go_upto_region 3 with (first | ((with_reducible refine gate_dst (N := 2) rfl ?_); refine box_event r1_ (N := 2) r1_ (cs := #[.int .i64 0, .string (⟨#[]⟩ : ByteArray), .int .i64 0, .string (⟨#[]⟩ : ByteArray), .string (⟨#[]⟩ : ByteArray), .int .i64 0]) (t := 50) r2_ ?_; intro gb189 hg w4 hbox hb; have BK189 := Aside0.mk (hbox); have GW189 := Aside0.mk ((by rw [hg]; exact (keep_size (w := w) (g := g) (row := none) z3_) : w.heap.size ≤ gb189)); have GE189 := Aside0.mk ((Nat.le_trans HW0.out (by rw [hg]; exact (keep_size (w := w) (g := g) (row := none) z3_) : w.heap.size ≤ gb189) : w0.heap.size ≤ gb189)); have NB0_189 := Aside0.mk ((by rw [hg]; exact Nat.ne_of_lt (IsS75.lt (show IsS75 w0 _ g s0_0 s0_1 from by repeat (first | (with_reducible first | exact HI0.out | apply IsS75.alloc | apply IsS75.drewN | apply IsS75.drew | apply IsS75.set_0 | apply IsS75.set_1) | exact HI0.out))) : g ≠ gb189)); have NB189_0 := Aside0.mk ((by rw [hg]; exact Nat.ne_of_gt (IsS75.lt (show IsS75 w0 _ g s0_0 s0_1 from by repeat (first | (with_reducible first | exact HI0.out | apply IsS75.alloc | apply IsS75.drewN | apply IsS75.drew | apply IsS75.set_0 | apply IsS75.set_1) | exact HI0.out))) : gb189 ≠ g)); replace HK := Aside0.mk (KeepBut.trans z3_ (KeepBut.of_below hb g none) (.inl rfl)); replace HB := Aside0.mk (below_step (by have G0 := HI0; exact z7_) hb); replace HI0 := Aside0.mk (IsS75.below (by have G0 := HI0; exact z6_) hb); clear hb hbox hg; obtain ⟨HGz5, hgz5⟩ := HI0.out; have hcz5_0 := cellS75_0 HGz5; have hcz5_1 := cellS75_1 HGz5; have hfz5_0 := blk_frozen HGz5 0; have hfz5_1 := blk_frozen HGz5 1; clear HGz5 hgz5) | ((with_reducible refine gate_callee (f := 94) rfl ?_); refine goesL_ (some 16) rfl rfl Tryz.func94 k1_ rfl #[.pointer (some ⟨g, 0, none⟩), .int .i64 s0_1] rfl g1_ ?_; (with_reducible refine (lex_scanner_ch.calls g s0_0 s0_1 s0_1 t190 t191 t192 w0 _ ?side1 ?side2 A2.out).mono ?_); (case side1 => repeat (first | (with_reducible first | exact HI0.out | apply IsS75.alloc | apply IsS75.drewN | apply IsS75.drew | apply IsS75.set_0 | apply IsS75.set_1 | refine IsS75.far ?_ NB0_189.out _) | exact HI0.out)); (case side2 => repeat (first | (with_reducible first | exact HB.out | apply below_alloc | apply pw_below_drewN | apply below_drew1 | refine below_set ?_ (IsS75.ge HI0.out) | refine below_set ?_ GE189.out) | exact HB.out)); rintro e w6 ⟨rfl, hi, hb, hk⟩; refine ⟨_, rfl, ?_⟩; replace BK189 := Aside0.mk (KeepBut.blk hk (g' := gb189) (o := .cells #[.int .i64 0, .string (⟨#[]⟩ : ByteArray), .int .i64 0, .string (⟨#[]⟩ : ByteArray), .string (⟨#[]⟩ : ByteArray), .int .i64 0] 50 (0, 0)) (bd_ BK189.out) NB189_0.out (by simp)); replace HK := Aside0.mk (KeepBut.trans (by have G0 := GW189; exact z5_) hk (.inl rfl)); replace HB := Aside0.mk (hb); replace HI0 := Aside0.mk (hi); (try clear hb); (try clear hb2); (try clear hk); (try clear hi)))
 (try simp only [Act.put, List.setIfInBounds_toArray, List.set_cons_zero, List.set_cons_succ])
 go_cut [33] (fun v33 wc => ∃ (kq : Nat) (x33_2 : Bool) (x1000_2 : ByteArray) (x1001_2 : Int), v33 = .bool x33_2 ∧ Aside0 (lex_scanner_word.j0 kq x33_2 x1000_2 x1001_2 0 (⟨#[]⟩ : ByteArray) 0 (⟨#[]⟩ : ByteArray) (⟨#[]⟩ : ByteArray) 0 = some (r1, r2, r3, r4, r5, r6, r7, r8, r9)) ∧ Aside0 (kq ≤ k) ∧ Aside0 (wc.heap[gb189]? = some (.cells #[.int .i64 0, .string (⟨#[]⟩ : ByteArray), .int .i64 0, .string (⟨#[]⟩ : ByteArray), .string (⟨#[]⟩ : ByteArray), .int .i64 0] 50 (0, 0))) ∧ Aside0 (IsS75 w0 wc g x1000_2 x1001_2) ∧ Aside0 (KeepBut w wc g none) ∧ Aside0 (Below w0.heap.size w0 wc))
 case first =>
  have H := HC3.out
  clear HC3
  replace H := Option.bind_eq_some_iff.mp H
  obtain ⟨t193, A70, H⟩ := H
  replace H : (if t193 = true then (lex_scanner_word.j0 k false t191 t192 0 (⟨#[]⟩ : ByteArray) 0 (⟨#[]⟩ : ByteArray) (⟨#[]⟩ : ByteArray) 0) else (if t190 = 58 then ((lex_scanner_ch.f t191 t192 (wrap64 (t192 + 1))).bind fun bt194 => (lex_scanner_word.j0 k (bt194.1 == 45) bt194.2.1 bt194.2.2 0 (⟨#[]⟩ : ByteArray) 0 (⟨#[]⟩ : ByteArray) (⟨#[]⟩ : ByteArray) 0)) else (lex_scanner_word.j0 k true t191 t192 0 (⟨#[]⟩ : ByteArray) 0 (⟨#[]⟩ : ByteArray) (⟨#[]⟩ : ByteArray) 0))) = some (r1, r2, r3, r4, r5, r6, r7, r8, r9) := H
  have A7 := Aside0.mk A70
  clear A70
  by_cases c8 : t193 = true
  ·subst c8
   have H1 : (lex_scanner_word.j0 k false t191 t192 0 (⟨#[]⟩ : ByteArray) 0 (⟨#[]⟩ : ByteArray) (⟨#[]⟩ : ByteArray) 0) = some (r1, r2, r3, r4, r5, r6, r7, r8, r9) := by rw [if_pos rfl] at H; exact H
   clear H
   have H := H1
   clear H1
   have H' := Aside0.mk H
   clear H
   go_wp2_with (first | ((with_reducible refine gate_callee (f := 100) rfl ?_); refine goesL_ (some 18) rfl rfl Tryz.func100 k1_ rfl #[.int .u8 t190] rfl g1_ ?_; (with_reducible refine (lex_letter.calls t190 true _ A7.out).mono ?_); rintro e w' ⟨rfl, ⟨nd, rfl⟩⟩; refine ⟨_, rfl, ?_⟩))
   go_meet
   case rel => exact ⟨_, (false), (t191), (t192), e1_, H', ⟨z10_⟩, ⟨by have G0 := BK189; exact z17_⟩, ⟨by have G0 := HI0; have G1 := NB0_189; exact z9_⟩, ⟨by have G0 := GW189; exact z5_⟩, ⟨by have G0 := HI0; have G1 := GE189; exact z8_⟩⟩
  ·replace c8 := Bool.eq_false_iff.mpr c8
   subst c8
   have H1 : (if t190 = 58 then ((lex_scanner_ch.f t191 t192 (wrap64 (t192 + 1))).bind fun bt194 => (lex_scanner_word.j0 k (bt194.1 == 45) bt194.2.1 bt194.2.2 0 (⟨#[]⟩ : ByteArray) 0 (⟨#[]⟩ : ByteArray) (⟨#[]⟩ : ByteArray) 0)) else (lex_scanner_word.j0 k true t191 t192 0 (⟨#[]⟩ : ByteArray) 0 (⟨#[]⟩ : ByteArray) (⟨#[]⟩ : ByteArray) 0)) = some (r1, r2, r3, r4, r5, r6, r7, r8, r9) := by rw [if_neg (show ¬ (false = true) by decide)] at H; exact H
   clear H
   have H := H1
   clear H1
   by_cases c9 : t190 = 58
   ·rw [if_pos c9] at H
    have c9b0 : (t190 == 58) = true := beq_iff_eq.mpr c9
    have c9b1 : (t190 != 58) = false := bne_eq_false_iff_eq.mpr c9
    clear c9
    (first | rw [c9b0] | (simp only [i64_w, i32_w]; rw [c9b0]) | skip)
    replace H := Option.bind_eq_some_iff.mp H
    obtain ⟨⟨t194, t195, t196⟩, A100, H⟩ := H
    replace H : (lex_scanner_word.j0 k (t194 == 45) t195 t196 0 (⟨#[]⟩ : ByteArray) 0 (⟨#[]⟩ : ByteArray) (⟨#[]⟩ : ByteArray) 0) = some (r1, r2, r3, r4, r5, r6, r7, r8, r9) := H
    have A10 := Aside0.mk A100
    clear A100
    have H' := Aside0.mk H
    clear H
    go_wp2_with (first | ((with_reducible refine gate_callee (f := 100) rfl ?_); refine goesL_ (some 18) rfl rfl Tryz.func100 k1_ rfl #[.int .u8 t190] rfl g1_ ?_; (with_reducible refine (lex_letter.calls t190 false _ A7.out).mono ?_); rintro e w' ⟨rfl, ⟨nd, rfl⟩⟩; refine ⟨_, rfl, ?_⟩; obtain ⟨HGz11, hgz11⟩ := HI0.out; have hcz11_0 := cellS75_0 HGz11; have hcz11_1 := cellS75_1 HGz11; have hfz11_0 := blk_frozen HGz11 0; have hfz11_1 := blk_frozen HGz11 1; clear HGz11 hgz11) | (go_at_call 94; (with_reducible refine (lex_scanner_ch.calls g t191 t192 (wrap64 (t192 + 1)) t194 t195 t196 w0 _ ?side1 ?side2 A10.out).mono ?_); (case side1 => repeat (first | (with_reducible first | exact HI0.out | apply IsS75.alloc | apply IsS75.drewN | apply IsS75.drew | apply IsS75.set_0 | apply IsS75.set_1 | refine IsS75.far ?_ NB0_189.out _) | exact HI0.out)); (case side2 => repeat (first | (with_reducible first | exact HB.out | apply below_alloc | apply pw_below_drewN | apply below_drew1 | refine below_set ?_ (IsS75.ge HI0.out) | refine below_set ?_ GE189.out) | exact HB.out)); rintro e w12 ⟨rfl, hi, hb, hk⟩; replace BK189 := Aside0.mk (KeepBut.blk hk (g' := gb189) (o := .cells #[.int .i64 0, .string (⟨#[]⟩ : ByteArray), .int .i64 0, .string (⟨#[]⟩ : ByteArray), .string (⟨#[]⟩ : ByteArray), .int .i64 0] 50 (0, 0)) (bd_ BK189.out) NB189_0.out (by simp)); replace HK := Aside0.mk (KeepBut.trans (by have G0 := GW189; exact z5_) hk (.inl rfl)); replace HB := Aside0.mk (hb); replace HI0 := Aside0.mk (hi); (try clear hb); (try clear hb2); (try clear hk); (try clear hi)))
    go_meet
    case rel => exact ⟨_, ((t194 == 45)), (t195), (t196), e1_, H', ⟨z10_⟩, ⟨by have G0 := BK189; exact z17_⟩, ⟨by have G0 := HI0; have G1 := NB0_189; exact z9_⟩, ⟨by have G0 := GW189; exact z5_⟩, ⟨by have G0 := HI0; have G1 := GE189; exact z8_⟩⟩
   ·rw [if_neg c9] at H
    have c9b0 : (t190 == 58) = false := beq_eq_false_iff_ne.mpr c9
    have c9b1 : (t190 != 58) = true := bne_iff_ne.mpr c9
    (first | rw [c9b0] | (simp only [i64_w, i32_w]; rw [c9b0]) | skip)
    have H' := Aside0.mk H
    clear H
    go_wp2_with (first | ((with_reducible refine gate_callee (f := 100) rfl ?_); refine goesL_ (some 18) rfl rfl Tryz.func100 k1_ rfl #[.int .u8 t190] rfl g1_ ?_; (with_reducible refine (lex_letter.calls t190 false _ A7.out).mono ?_); rintro e w' ⟨rfl, ⟨nd, rfl⟩⟩; refine ⟨_, rfl, ?_⟩))
    go_meet
    case rel => exact ⟨_, (true), (t191), (t192), e1_, H', ⟨z10_⟩, ⟨by have G0 := BK189; exact z17_⟩, ⟨by have G0 := HI0; have G1 := NB0_189; exact z9_⟩, ⟨by have G0 := GW189; exact z5_⟩, ⟨by have G0 := HI0; have G1 := GE189; exact z8_⟩⟩
 case rest =>
  clear HC3
  try clear c1
  try clear p2
  try clear c6
  try clear p6
  try clear c8
  try clear c9
  try clear c9b0
  try clear c9b1
  try clear c10
  try clear hcz11_0
  try clear hcz11_1
  try clear hcz5_0
  try clear hcz5_1
  try clear hfz11_0
  try clear hfz11_1
  try clear hfz5_0
  try clear hfz5_1
  obtain ⟨kq, x33_2, x1000_2, x1001_2, rfl, HA, HJ2, BK189, HI0, HK, HB⟩ := hcut
  cases kq with
  | zero => exact absurd HA.out (by simp [lex_scanner_word.j0])
  | succ kj2 =>
   have H := HA.out
   clear HA
   simp only [lex_scanner_word.j0] at H
   by_cases c13 : x33_2 = true
   ·subst c13
    have H1 : (some (0, (⟨#[]⟩ : ByteArray), 0, (⟨#[]⟩ : ByteArray), (⟨#[]⟩ : ByteArray), 0, false, x1000_2, x1001_2)) = some (r1, r2, r3, r4, r5, r6, r7, r8, r9) := by rw [if_pos rfl] at H; exact H
    clear H
    have H := H1
    clear H1
    simp only [Option.some.injEq, Prod.mk.injEq] at H
    obtain ⟨rfl, rfl, rfl, rfl, rfl, rfl, rfl, rfl, rfl⟩ := H
    have hnb14 := NB189_0.out
    have hnc14 := NB0_189.out
    have hcz15_0 := cl_ (.int .i64 0) BK189.out 0
    have hcz15_1 := cl_ (.string (⟨#[]⟩ : ByteArray)) BK189.out 1
    have hcz15_2 := cl_ (.int .i64 0) BK189.out 2
    have hcz15_3 := cl_ (.string (⟨#[]⟩ : ByteArray)) BK189.out 3
    have hcz15_4 := cl_ (.string (⟨#[]⟩ : ByteArray)) BK189.out 4
    have hcz15_5 := cl_ (.int .i64 0) BK189.out 5
    have hfz15_0 := blk_frozen BK189.out 0
    have hfz15_1 := blk_frozen BK189.out 1
    have hfz15_2 := blk_frozen BK189.out 2
    have hfz15_3 := blk_frozen BK189.out 3
    have hfz15_4 := blk_frozen BK189.out 4
    have hfz15_5 := blk_frozen BK189.out 5
    go_wp2
    refine bodyPost_ret (results_ct rfl _ _ gb189 50 #[.int .i64 0, .string (⟨#[]⟩ : ByteArray), .int .i64 0, .string (⟨#[]⟩ : ByteArray), .string (⟨#[]⟩ : ByteArray), .int .i64 0] (0, 0) _ rfl (by have G0 := BK189; exact z21_) Tryz.underlying50 rfl k1_) rfl ?_
    exact ⟨e2_, by have G0 := HI0; have G1 := NB0_189; exact z9_, by have G0 := HI0; have G1 := GE189; exact z8_, by have G0 := GW189; exact z5_⟩
   ·replace c13 := Bool.eq_false_iff.mpr c13
    subst c13
    have H1 : (if 1 ≤ 0 then ((lex_scanner_ch.f x1000_2 x1001_2 x1001_2).bind fun bt197 => (if bt197.1 = 58 then ((lex_scanner_ch.f bt197.2.1 bt197.2.2 (wrap64 (bt197.2.2 + 1))).bind fun bt200 => (if bt200.1 = 45 then (some (6, (⟨#[]⟩ : ByteArray).extract 1 (⟨#[]⟩ : ByteArray).size, 0, (⟨#[]⟩ : ByteArray), (⟨#[]⟩ : ByteArray), 0, true, bt200.2.1, bt200.2.2)) else (some (0, (⟨#[]⟩ : ByteArray), 0, (⟨#[]⟩ : ByteArray), (⟨#[]⟩ : ByteArray), 0, true, bt200.2.1, wrap64 (bt200.2.2 + 1))))) else (some (6, (⟨#[]⟩ : ByteArray).extract 1 (⟨#[]⟩ : ByteArray).size, 0, (⟨#[]⟩ : ByteArray), (⟨#[]⟩ : ByteArray), 0, true, bt197.2.1, bt197.2.2)))) else (none)) = some (r1, r2, r3, r4, r5, r6, r7, r8, r9) := by rw [if_neg (show ¬ (false = true) by decide)] at H; exact H
    clear H
    have H := H1
    clear H1
    by_cases c16 : 1 ≤ 0
    ·exact absurd c16 (by decide)
    ·rw [if_neg c16] at H
     exact absurd H (by simp)
def stringslite_HasPrefix.f (a0 : ByteArray) (a1 : ByteArray) : Option (Bool) := if (a0.size : Int) ≥ (a1.size : Int) then (if 0 ≤ (a1.size : Int) then (if (a1.size : Int) ≤ (a0.size : Int) then (some ((a0.extract 0 ((a1.size : Int) : Int).toNat).toList == a1.toList)) else (none)) else (none)) else (some false)
set_option maxHeartbeats 8000000 in
set_option maxRecDepth 100000 in
theorem stringslite_HasPrefix.calls (a0 : ByteArray) (a1 : ByteArray) (r : Bool) (w : World) (h : stringslite_HasPrefix.f a0 a1 = some r) :
  Calls Tryz.prog 111 #[.string a0, .string a1] w fun e w' => e = .returned (.bool r) ∧ Drawn0 w w' := by
 have H : (if (a0.size : Int) ≥ (a1.size : Int) then (if 0 ≤ (a1.size : Int) then (if (a1.size : Int) ≤ (a0.size : Int) then (some ((a0.extract 0 ((a1.size : Int) : Int).toNat).toList == a1.toList)) else (none)) else (none)) else (some false)) = some r := h
 clear h
 by_cases c3 : (a0.size : Int) ≥ (a1.size : Int)
 ·rw [if_pos c3] at H
  have c3b0 : decide ((a1.size : Int) ≤ (a0.size : Int)) = true := decide_eq_true c3
  have c3b1 : decide (a1.size ≤ a0.size) = true := decide_eq_true (Int.ofNat_le.mp c3)
  clear c3
  by_cases c4 : 0 ≤ (a1.size : Int)
  ·rw [if_pos c4] at H
   have c4b0 := eq_true c4
   have c4b1 : decide (0 ≤ (a1.size : Int)) = true := decide_eq_true c4
   clear c4
   by_cases c5 : (a1.size : Int) ≤ (a0.size : Int)
   ·rw [if_pos c5] at H
    have c5b0 := eq_true c5
    have c5b1 : decide ((a1.size : Int) ≤ (a0.size : Int)) = true := decide_eq_true c5
    clear c5
    obtain rfl := Option.some.inj H
    go_enter Tryz.func111, Tryz.ntmps111
    go_wp2
    go_ret
    exact ⟨e1_, z2_⟩
   ·rw [if_neg c5] at H
    exact absurd H (by simp)
  ·rw [if_neg c4] at H
   exact absurd H (by simp)
 ·rw [if_neg c3] at H
  have c3b0 : decide ((a1.size : Int) ≤ (a0.size : Int)) = false := decide_eq_false c3
  have c3b1 : decide (a1.size ≤ a0.size) = false := decide_eq_false (fun h => c3 (Int.ofNat_le.mpr h))
  clear c3
  obtain rfl := Option.some.inj H
  go_enter Tryz.func111, Tryz.ntmps111
  go_wp2
  go_ret
  exact ⟨e1_, z2_⟩
def strings_HasPrefix.f (a0 : ByteArray) (a1 : ByteArray) : Option (Bool) := (stringslite_HasPrefix.f a0 a1).bind fun t203 => (some t203)
set_option maxHeartbeats 8000000 in
set_option maxRecDepth 100000 in
theorem strings_HasPrefix.calls (a0 : ByteArray) (a1 : ByteArray) (r : Bool) (w : World) (h : strings_HasPrefix.f a0 a1 = some r) :
  Calls Tryz.prog 102 #[.string a0, .string a1] w fun e w' => e = .returned (.bool r) ∧ Drawn0 w w' := by
 have H : ((stringslite_HasPrefix.f a0 a1).bind fun t203 => (some t203)) = some r := h
 clear h
 replace H := Option.bind_eq_some_iff.mp H
 obtain ⟨t203, A30, H⟩ := H
 replace H : (some t203) = some r := H
 have A3 := Aside0.mk A30
 clear A30
 obtain rfl := Option.some.inj H
 go_enter Tryz.func102, Tryz.ntmps102
 go_wp2_with (first | ((with_reducible refine gate_callee (f := 111) rfl ?_); refine goesL_ (some 7) rfl rfl Tryz.func111 k1_ rfl #[.string a0, .string a1] rfl g1_ ?_; (with_reducible refine (stringslite_HasPrefix.calls a0 a1 t203 _ A3.out).mono ?_); rintro e w' ⟨rfl, ⟨nd, rfl⟩⟩; refine ⟨_, rfl, ?_⟩))
 go_ret
 exact ⟨e1_, z2_⟩
def lex_scanner_mark.l0 : Nat → List ByteArray → Int → Int → ByteArray → Int → Option (Int × ByteArray × Int × ByteArray × ByteArray × Int × Bool × ByteArray × Int)
 | 0, _, _, _, _, _ => none
 | k + 1, x6, x7, x8, x1000, x1001 => if x8 < x7 then (if 0 ≤ x8 then (if x8 < (x6.length : Int) then (if 0 ≤ x1001 then (if x1001 ≤ (x1000.size : Int) then ((strings_HasPrefix.f (x1000.extract (x1001 : Int).toNat x1000.size) (rdOf ByteArray.empty x6 x8)).bind fun t209 => (if t209 = true then (some (8, rdOf ByteArray.empty x6 x8, 0, (⟨#[]⟩ : ByteArray), (⟨#[]⟩ : ByteArray), 0, true, x1000, wrap64 (x1001 + ((rdOf ByteArray.empty x6 x8).size : Int)))) else (lex_scanner_mark.l0 k x6 x7 (wrap64 (x8 + 1)) x1000 x1001))) else (none)) else (none)) else (none)) else (none)) else (some (0, (⟨#[]⟩ : ByteArray), 0, (⟨#[]⟩ : ByteArray), (⟨#[]⟩ : ByteArray), 0, false, x1000, x1001))
def lex_scanner_mark.f (k : Nat) (s0_0 : ByteArray) (s0_1 : Int) : Option (Int × ByteArray × Int × ByteArray × ByteArray × Int × Bool × ByteArray × Int) := (some (([(⟨#[94, 94]⟩ : ByteArray), (⟨#[58, 45]⟩ : ByteArray), (⟨#[33, 61]⟩ : ByteArray), (⟨#[61]⟩ : ByteArray), (⟨#[46]⟩ : ByteArray), (⟨#[44]⟩ : ByteArray), (⟨#[40]⟩ : ByteArray), (⟨#[41]⟩ : ByteArray), (⟨#[123]⟩ : ByteArray), (⟨#[125]⟩ : ByteArray)] : List ByteArray) : List ByteArray)).bind fun y205 => (lex_scanner_mark.l0 k y205 (y205.length : Int) 0 s0_0 s0_1)
theorem lex_scanner_mark.mono_l : ∀ k, (∀ y0 y1 y2 y3 y4, LeO (lex_scanner_mark.l0 k y0 y1 y2 y3 y4) (lex_scanner_mark.l0 (k + 1) y0 y1 y2 y3 y4))
 | 0 => fun _ _ _ _ _ r h => by simp [lex_scanner_mark.l0] at h
 | k + 1 => by
  have ih0 := lex_scanner_mark.mono_l k
  ·intro y0 y1 y2 y3 y4
   unfold lex_scanner_mark.l0
   repeat' first
   | (with_reducible exact ih0 _ _ _ _ _)
   | (with_reducible exact LeO.refl _)
   | (with_reducible exact LeO.none _)
   | (with_reducible refine LeO.ite ?_ ?_)
   | (with_reducible refine LeO.bind ?_ (fun _ => ?_))
   | exact ih0 _ _ _ _ _
   | exact LeO.none _
   | refine LeO.ite ?_ ?_
   | refine LeO.bind ?_ (fun _ => ?_)
theorem lex_scanner_mark.mono : ∀ a0 a1 k, LeO (lex_scanner_mark.f k a0 a1) (lex_scanner_mark.f (k + 1) a0 a1) := by
 intro a0 a1 k
 have ih0 := lex_scanner_mark.mono_l k
 unfold lex_scanner_mark.f
 repeat' first
   | (with_reducible exact ih0 _ _ _ _ _)
   | (with_reducible exact LeO.refl _)
   | (with_reducible exact LeO.none _)
   | (with_reducible refine LeO.ite ?_ ?_)
   | (with_reducible refine LeO.bind ?_ (fun _ => ?_))
   | exact ih0 _ _ _ _ _
   | exact LeO.none _
   | refine LeO.ite ?_ ?_
   | refine LeO.bind ?_ (fun _ => ?_)
set_option maxHeartbeats 8000000 in
set_option maxRecDepth 100000 in
theorem lex_scanner_mark.calls (k : Nat) (g : Nat) (s0_0 : ByteArray) (s0_1 : Int) (r1 : Int) (r2 : ByteArray) (r3 : Int) (r4 : ByteArray) (r5 : ByteArray) (r6 : Int) (r7 : Bool) (r8 : ByteArray) (r9 : Int) (w0 w : World) (hI : IsS75 w0 w g s0_0 s0_1) (hB : Below w0.heap.size w0 w) (h : lex_scanner_mark.f k s0_0 s0_1 = some (r1, r2, r3, r4, r5, r6, r7, r8, r9)) :
  Calls Tryz.prog 69 #[.pointer (some ⟨g, 0, none⟩)] w fun e w' => e = .returned (.tuple #[.agg #[.int .i64 r1, .string r2, .int .i64 r3, .string r4, .string r5, .int .i64 r6], .bool r7]) ∧ IsS75 w0 w' g r8 r9 ∧ Below w0.heap.size w0 w' ∧ KeepBut w w' g none := by
 have hu50 := Tryz.underlying50
 have HI0 := Aside0.mk hI
 have HK := Aside0.mk (KeepBut.refl w g none)
 have HL := Aside0.mk hB.size
 clear hI
 have HW0 := Aside0.mk hB.size
 have HB := Aside0.mk hB
 clear hB
 have H : ((some (([(⟨#[94, 94]⟩ : ByteArray), (⟨#[58, 45]⟩ : ByteArray), (⟨#[33, 61]⟩ : ByteArray), (⟨#[61]⟩ : ByteArray), (⟨#[46]⟩ : ByteArray), (⟨#[44]⟩ : ByteArray), (⟨#[40]⟩ : ByteArray), (⟨#[41]⟩ : ByteArray), (⟨#[123]⟩ : ByteArray), (⟨#[125]⟩ : ByteArray)] : List ByteArray) : List ByteArray)).bind fun y205 => (lex_scanner_mark.l0 k y205 (y205.length : Int) 0 s0_0 s0_1)) = some (r1, r2, r3, r4, r5, r6, r7, r8, r9) := h
 clear h
 obtain ⟨y205, hy205⟩ : ∃ y_ : List ByteArray, y_ = (([(⟨#[94, 94]⟩ : ByteArray), (⟨#[58, 45]⟩ : ByteArray), (⟨#[33, 61]⟩ : ByteArray), (⟨#[61]⟩ : ByteArray), (⟨#[46]⟩ : ByteArray), (⟨#[44]⟩ : ByteArray), (⟨#[40]⟩ : ByteArray), (⟨#[41]⟩ : ByteArray), (⟨#[123]⟩ : ByteArray), (⟨#[125]⟩ : ByteArray)] : List ByteArray)) := ⟨_, rfl⟩
 replace H : (lex_scanner_mark.l0 k y205 (y205.length : Int) 0 s0_0 s0_1) = some (r1, r2, r3, r4, r5, r6, r7, r8, r9) := by first | (rw [hy205]; with_reducible exact H) | (have H2_ := (Option.bind_some _ _).symm.trans H; rw [hy205]; with_reducible exact H2_) | (have H2_ := (Option.bind_some _ _).symm.trans H; with_reducible exact H2_) | with_reducible exact H | (rw [hy205]; exact H) | exact H
 have Ny205 := Aside0.mk hy205
 clear hy205
 have H' := Aside0.mk H
 clear H
 go_enter Tryz.func69, Tryz.ntmps69
 go_wp2_with (first | ((with_reducible refine gate_dst (N := 2) rfl ?_); refine box_event r1_ (N := 2) r1_ (cs := #[.int .i64 0, .string (⟨#[]⟩ : ByteArray), .int .i64 0, .string (⟨#[]⟩ : ByteArray), .string (⟨#[]⟩ : ByteArray), .int .i64 0]) (t := 50) r2_ ?_; intro gb204 hg w2 hbox hb; have BK204 := Aside0.mk (hbox); have GW204 := Aside0.mk ((by rw [hg]; exact (keep_size (w := w) (g := g) (row := none) z3_) : w.heap.size ≤ gb204)); have GE204 := Aside0.mk ((Nat.le_trans HW0.out (by rw [hg]; exact (keep_size (w := w) (g := g) (row := none) z3_) : w.heap.size ≤ gb204) : w0.heap.size ≤ gb204)); have NB0_204 := Aside0.mk ((by rw [hg]; exact Nat.ne_of_lt (IsS75.lt (show IsS75 w0 _ g s0_0 s0_1 from by repeat (first | (with_reducible first | exact HI0.out | apply IsS75.alloc | apply IsS75.drewN | apply IsS75.drew | apply IsS75.set_0 | apply IsS75.set_1) | exact HI0.out))) : g ≠ gb204)); have NB204_0 := Aside0.mk ((by rw [hg]; exact Nat.ne_of_gt (IsS75.lt (show IsS75 w0 _ g s0_0 s0_1 from by repeat (first | (with_reducible first | exact HI0.out | apply IsS75.alloc | apply IsS75.drewN | apply IsS75.drew | apply IsS75.set_0 | apply IsS75.set_1) | exact HI0.out))) : gb204 ≠ g)); replace HK := Aside0.mk (KeepBut.trans z3_ (KeepBut.of_below hb g none) (.inl rfl)); replace HB := Aside0.mk (below_step (by have G0 := HI0; exact z7_) hb); replace HI0 := Aside0.mk (IsS75.below (by have G0 := HI0; exact z6_) hb); clear hb hbox hg) | ((with_reducible refine gate_dst (N := 6) rfl ?_); refine Kd.R_lit Kd.string _ 9 ?hg (N := 6) ?hd (xs := ([(⟨#[94, 94]⟩ : ByteArray), (⟨#[58, 45]⟩ : ByteArray), (⟨#[33, 61]⟩ : ByteArray), (⟨#[61]⟩ : ByteArray), (⟨#[46]⟩ : ByteArray), (⟨#[44]⟩ : ByteArray), (⟨#[40]⟩ : ByteArray), (⟨#[41]⟩ : ByteArray), (⟨#[123]⟩ : ByteArray), (⟨#[125]⟩ : ByteArray)] : List ByteArray)) (inner := [.string (⟨#[94, 94]⟩ : ByteArray), .string (⟨#[58, 45]⟩ : ByteArray), .string (⟨#[33, 61]⟩ : ByteArray), .string (⟨#[61]⟩ : ByteArray), .string (⟨#[46]⟩ : ByteArray), .string (⟨#[44]⟩ : ByteArray), .string (⟨#[40]⟩ : ByteArray), .string (⟨#[41]⟩ : ByteArray), .string (⟨#[123]⟩ : ByteArray), .string (⟨#[125]⟩ : ByteArray)]) (ok := fun _ => True) (okp := fun _ => True) ?hr ?hp (fun _ hk => hk) trivial (Below.refl _ _) (Nat.le_refl _) (by simp) ?_; (case hd => rfl); (case hg => rfl); (case hr => first | (go_simp; done) | (go_simp; rfl)); (case hp => exact (Reps.one (show Kd.M Kd.string _ _ _ (⟨#[94, 94]⟩ : ByteArray) [.string (⟨#[94, 94]⟩ : ByteArray)] from rfl) (Reps.one (show Kd.M Kd.string _ _ _ (⟨#[58, 45]⟩ : ByteArray) [.string (⟨#[58, 45]⟩ : ByteArray)] from rfl) (Reps.one (show Kd.M Kd.string _ _ _ (⟨#[33, 61]⟩ : ByteArray) [.string (⟨#[33, 61]⟩ : ByteArray)] from rfl) (Reps.one (show Kd.M Kd.string _ _ _ (⟨#[61]⟩ : ByteArray) [.string (⟨#[61]⟩ : ByteArray)] from rfl) (Reps.one (show Kd.M Kd.string _ _ _ (⟨#[46]⟩ : ByteArray) [.string (⟨#[46]⟩ : ByteArray)] from rfl) (Reps.one (show Kd.M Kd.string _ _ _ (⟨#[44]⟩ : ByteArray) [.string (⟨#[44]⟩ : ByteArray)] from rfl) (Reps.one (show Kd.M Kd.string _ _ _ (⟨#[40]⟩ : ByteArray) [.string (⟨#[40]⟩ : ByteArray)] from rfl) (Reps.one (show Kd.M Kd.string _ _ _ (⟨#[41]⟩ : ByteArray) [.string (⟨#[41]⟩ : ByteArray)] from rfl) (Reps.one (show Kd.M Kd.string _ _ _ (⟨#[123]⟩ : ByteArray) [.string (⟨#[123]⟩ : ByteArray)] from rfl) (Reps.one (show Kd.M Kd.string _ _ _ (⟨#[125]⟩ : ByteArray) [.string (⟨#[125]⟩ : ByteArray)] from rfl) (Reps.none _ _)))))))))))); intro v206 w3 ho4 hb hg_ hnew_; clear hg_ hnew_; (first | rw [← Ny205.out] at ho4 | (simp only [Int.reduceToNat] at ho4; rw [← Ny205.out] at ho4)); have HO207 := Aside0.mk (Kd.R_lower ho4 (keep_size (w := w) (g := g) (row := none) (by have G0 := GW204; exact z5_))); replace BK204 := Aside0.mk (blk_below (g := gb204) (o := .cells #[.int .i64 0, .string (⟨#[]⟩ : ByteArray), .int .i64 0, .string (⟨#[]⟩ : ByteArray), .string (⟨#[]⟩ : ByteArray), .int .i64 0] 50 (0, 0)) (bd_ BK204.out) hb); replace HK := Aside0.mk (KeepBut.trans (by have G0 := GW204; exact z5_) (KeepBut.of_below hb g none) (.inl rfl)); replace HB := Aside0.mk (below_step (by have G0 := HI0; have G1 := GE204; exact z8_) hb); replace HI0 := Aside0.mk (IsS75.below (by have G0 := HI0; have G1 := NB0_204; exact z9_) hb); clear hb ho4; obtain ⟨Ao5, co5, eo5⟩ := Kd.R_slice HO207.out; subst eo5))
 repeat (go_quiet (first | ((with_reducible refine gate_dst (N := 2) rfl ?_); refine box_event r1_ (N := 2) r1_ (cs := #[.int .i64 0, .string (⟨#[]⟩ : ByteArray), .int .i64 0, .string (⟨#[]⟩ : ByteArray), .string (⟨#[]⟩ : ByteArray), .int .i64 0]) (t := 50) r2_ ?_; intro gb204 hg w2 hbox hb; have BK204 := Aside0.mk (hbox); have GW204 := Aside0.mk ((by rw [hg]; exact (keep_size (w := w) (g := g) (row := none) z3_) : w.heap.size ≤ gb204)); have GE204 := Aside0.mk ((Nat.le_trans HW0.out (by rw [hg]; exact (keep_size (w := w) (g := g) (row := none) z3_) : w.heap.size ≤ gb204) : w0.heap.size ≤ gb204)); have NB0_204 := Aside0.mk ((by rw [hg]; exact Nat.ne_of_lt (IsS75.lt (show IsS75 w0 _ g s0_0 s0_1 from by repeat (first | (with_reducible first | exact HI0.out | apply IsS75.alloc | apply IsS75.drewN | apply IsS75.drew | apply IsS75.set_0 | apply IsS75.set_1) | exact HI0.out))) : g ≠ gb204)); have NB204_0 := Aside0.mk ((by rw [hg]; exact Nat.ne_of_gt (IsS75.lt (show IsS75 w0 _ g s0_0 s0_1 from by repeat (first | (with_reducible first | exact HI0.out | apply IsS75.alloc | apply IsS75.drewN | apply IsS75.drew | apply IsS75.set_0 | apply IsS75.set_1) | exact HI0.out))) : gb204 ≠ g)); replace HK := Aside0.mk (KeepBut.trans z3_ (KeepBut.of_below hb g none) (.inl rfl)); replace HB := Aside0.mk (below_step (by have G0 := HI0; exact z7_) hb); replace HI0 := Aside0.mk (IsS75.below (by have G0 := HI0; exact z6_) hb); clear hb hbox hg) | ((with_reducible refine gate_dst (N := 6) rfl ?_); refine Kd.R_lit Kd.string _ 9 ?hg (N := 6) ?hd (xs := ([(⟨#[94, 94]⟩ : ByteArray), (⟨#[58, 45]⟩ : ByteArray), (⟨#[33, 61]⟩ : ByteArray), (⟨#[61]⟩ : ByteArray), (⟨#[46]⟩ : ByteArray), (⟨#[44]⟩ : ByteArray), (⟨#[40]⟩ : ByteArray), (⟨#[41]⟩ : ByteArray), (⟨#[123]⟩ : ByteArray), (⟨#[125]⟩ : ByteArray)] : List ByteArray)) (inner := [.string (⟨#[94, 94]⟩ : ByteArray), .string (⟨#[58, 45]⟩ : ByteArray), .string (⟨#[33, 61]⟩ : ByteArray), .string (⟨#[61]⟩ : ByteArray), .string (⟨#[46]⟩ : ByteArray), .string (⟨#[44]⟩ : ByteArray), .string (⟨#[40]⟩ : ByteArray), .string (⟨#[41]⟩ : ByteArray), .string (⟨#[123]⟩ : ByteArray), .string (⟨#[125]⟩ : ByteArray)]) (ok := fun _ => True) (okp := fun _ => True) ?hr ?hp (fun _ hk => hk) trivial (Below.refl _ _) (Nat.le_refl _) (by simp) ?_; (case hd => rfl); (case hg => rfl); (case hr => first | (go_simp; done) | (go_simp; rfl)); (case hp => exact (Reps.one (show Kd.M Kd.string _ _ _ (⟨#[94, 94]⟩ : ByteArray) [.string (⟨#[94, 94]⟩ : ByteArray)] from rfl) (Reps.one (show Kd.M Kd.string _ _ _ (⟨#[58, 45]⟩ : ByteArray) [.string (⟨#[58, 45]⟩ : ByteArray)] from rfl) (Reps.one (show Kd.M Kd.string _ _ _ (⟨#[33, 61]⟩ : ByteArray) [.string (⟨#[33, 61]⟩ : ByteArray)] from rfl) (Reps.one (show Kd.M Kd.string _ _ _ (⟨#[61]⟩ : ByteArray) [.string (⟨#[61]⟩ : ByteArray)] from rfl) (Reps.one (show Kd.M Kd.string _ _ _ (⟨#[46]⟩ : ByteArray) [.string (⟨#[46]⟩ : ByteArray)] from rfl) (Reps.one (show Kd.M Kd.string _ _ _ (⟨#[44]⟩ : ByteArray) [.string (⟨#[44]⟩ : ByteArray)] from rfl) (Reps.one (show Kd.M Kd.string _ _ _ (⟨#[40]⟩ : ByteArray) [.string (⟨#[40]⟩ : ByteArray)] from rfl) (Reps.one (show Kd.M Kd.string _ _ _ (⟨#[41]⟩ : ByteArray) [.string (⟨#[41]⟩ : ByteArray)] from rfl) (Reps.one (show Kd.M Kd.string _ _ _ (⟨#[123]⟩ : ByteArray) [.string (⟨#[123]⟩ : ByteArray)] from rfl) (Reps.one (show Kd.M Kd.string _ _ _ (⟨#[125]⟩ : ByteArray) [.string (⟨#[125]⟩ : ByteArray)] from rfl) (Reps.none _ _)))))))))))); intro v206 w3 ho4 hb hg_ hnew_; clear hg_ hnew_; (first | rw [← Ny205.out] at ho4 | (simp only [Int.reduceToNat] at ho4; rw [← Ny205.out] at ho4)); have HO207 := Aside0.mk (Kd.R_lower ho4 (keep_size (w := w) (g := g) (row := none) (by have G0 := GW204; exact z5_))); replace BK204 := Aside0.mk (blk_below (g := gb204) (o := .cells #[.int .i64 0, .string (⟨#[]⟩ : ByteArray), .int .i64 0, .string (⟨#[]⟩ : ByteArray), .string (⟨#[]⟩ : ByteArray), .int .i64 0] 50 (0, 0)) (bd_ BK204.out) hb); replace HK := Aside0.mk (KeepBut.trans (by have G0 := GW204; exact z5_) (KeepBut.of_below hb g none) (.inl rfl)); replace HB := Aside0.mk (below_step (by have G0 := HI0; have G1 := GE204; exact z8_) hb); replace HI0 := Aside0.mk (IsS75.below (by have G0 := HI0; have G1 := NB0_204; exact z9_) hb); clear hb ho4; obtain ⟨Ao5, co5, eo5⟩ := Kd.R_slice HO207.out; subst eo5)); try go_wp2_with (first | ((with_reducible refine gate_dst (N := 2) rfl ?_); refine box_event r1_ (N := 2) r1_ (cs := #[.int .i64 0, .string (⟨#[]⟩ : ByteArray), .int .i64 0, .string (⟨#[]⟩ : ByteArray), .string (⟨#[]⟩ : ByteArray), .int .i64 0]) (t := 50) r2_ ?_; intro gb204 hg w2 hbox hb; have BK204 := Aside0.mk (hbox); have GW204 := Aside0.mk ((by rw [hg]; exact (keep_size (w := w) (g := g) (row := none) z3_) : w.heap.size ≤ gb204)); have GE204 := Aside0.mk ((Nat.le_trans HW0.out (by rw [hg]; exact (keep_size (w := w) (g := g) (row := none) z3_) : w.heap.size ≤ gb204) : w0.heap.size ≤ gb204)); have NB0_204 := Aside0.mk ((by rw [hg]; exact Nat.ne_of_lt (IsS75.lt (show IsS75 w0 _ g s0_0 s0_1 from by repeat (first | (with_reducible first | exact HI0.out | apply IsS75.alloc | apply IsS75.drewN | apply IsS75.drew | apply IsS75.set_0 | apply IsS75.set_1) | exact HI0.out))) : g ≠ gb204)); have NB204_0 := Aside0.mk ((by rw [hg]; exact Nat.ne_of_gt (IsS75.lt (show IsS75 w0 _ g s0_0 s0_1 from by repeat (first | (with_reducible first | exact HI0.out | apply IsS75.alloc | apply IsS75.drewN | apply IsS75.drew | apply IsS75.set_0 | apply IsS75.set_1) | exact HI0.out))) : gb204 ≠ g)); replace HK := Aside0.mk (KeepBut.trans z3_ (KeepBut.of_below hb g none) (.inl rfl)); replace HB := Aside0.mk (below_step (by have G0 := HI0; exact z7_) hb); replace HI0 := Aside0.mk (IsS75.below (by have G0 := HI0; exact z6_) hb); clear hb hbox hg) | ((with_reducible refine gate_dst (N := 6) rfl ?_); refine Kd.R_lit Kd.string _ 9 ?hg (N := 6) ?hd (xs := ([(⟨#[94, 94]⟩ : ByteArray), (⟨#[58, 45]⟩ : ByteArray), (⟨#[33, 61]⟩ : ByteArray), (⟨#[61]⟩ : ByteArray), (⟨#[46]⟩ : ByteArray), (⟨#[44]⟩ : ByteArray), (⟨#[40]⟩ : ByteArray), (⟨#[41]⟩ : ByteArray), (⟨#[123]⟩ : ByteArray), (⟨#[125]⟩ : ByteArray)] : List ByteArray)) (inner := [.string (⟨#[94, 94]⟩ : ByteArray), .string (⟨#[58, 45]⟩ : ByteArray), .string (⟨#[33, 61]⟩ : ByteArray), .string (⟨#[61]⟩ : ByteArray), .string (⟨#[46]⟩ : ByteArray), .string (⟨#[44]⟩ : ByteArray), .string (⟨#[40]⟩ : ByteArray), .string (⟨#[41]⟩ : ByteArray), .string (⟨#[123]⟩ : ByteArray), .string (⟨#[125]⟩ : ByteArray)]) (ok := fun _ => True) (okp := fun _ => True) ?hr ?hp (fun _ hk => hk) trivial (Below.refl _ _) (Nat.le_refl _) (by simp) ?_; (case hd => rfl); (case hg => rfl); (case hr => first | (go_simp; done) | (go_simp; rfl)); (case hp => exact (Reps.one (show Kd.M Kd.string _ _ _ (⟨#[94, 94]⟩ : ByteArray) [.string (⟨#[94, 94]⟩ : ByteArray)] from rfl) (Reps.one (show Kd.M Kd.string _ _ _ (⟨#[58, 45]⟩ : ByteArray) [.string (⟨#[58, 45]⟩ : ByteArray)] from rfl) (Reps.one (show Kd.M Kd.string _ _ _ (⟨#[33, 61]⟩ : ByteArray) [.string (⟨#[33, 61]⟩ : ByteArray)] from rfl) (Reps.one (show Kd.M Kd.string _ _ _ (⟨#[61]⟩ : ByteArray) [.string (⟨#[61]⟩ : ByteArray)] from rfl) (Reps.one (show Kd.M Kd.string _ _ _ (⟨#[46]⟩ : ByteArray) [.string (⟨#[46]⟩ : ByteArray)] from rfl) (Reps.one (show Kd.M Kd.string _ _ _ (⟨#[44]⟩ : ByteArray) [.string (⟨#[44]⟩ : ByteArray)] from rfl) (Reps.one (show Kd.M Kd.string _ _ _ (⟨#[40]⟩ : ByteArray) [.string (⟨#[40]⟩ : ByteArray)] from rfl) (Reps.one (show Kd.M Kd.string _ _ _ (⟨#[41]⟩ : ByteArray) [.string (⟨#[41]⟩ : ByteArray)] from rfl) (Reps.one (show Kd.M Kd.string _ _ _ (⟨#[123]⟩ : ByteArray) [.string (⟨#[123]⟩ : ByteArray)] from rfl) (Reps.one (show Kd.M Kd.string _ _ _ (⟨#[125]⟩ : ByteArray) [.string (⟨#[125]⟩ : ByteArray)] from rfl) (Reps.none _ _)))))))))))); intro v206 w3 ho4 hb hg_ hnew_; clear hg_ hnew_; (first | rw [← Ny205.out] at ho4 | (simp only [Int.reduceToNat] at ho4; rw [← Ny205.out] at ho4)); have HO207 := Aside0.mk (Kd.R_lower ho4 (keep_size (w := w) (g := g) (row := none) (by have G0 := GW204; exact z5_))); replace BK204 := Aside0.mk (blk_below (g := gb204) (o := .cells #[.int .i64 0, .string (⟨#[]⟩ : ByteArray), .int .i64 0, .string (⟨#[]⟩ : ByteArray), .string (⟨#[]⟩ : ByteArray), .int .i64 0] 50 (0, 0)) (bd_ BK204.out) hb); replace HK := Aside0.mk (KeepBut.trans (by have G0 := GW204; exact z5_) (KeepBut.of_below hb g none) (.inl rfl)); replace HB := Aside0.mk (below_step (by have G0 := HI0; have G1 := GE204; exact z8_) hb); replace HI0 := Aside0.mk (IsS75.below (by have G0 := HI0; have G1 := NB0_204; exact z9_) hb); clear hb ho4; obtain ⟨Ao5, co5, eo5⟩ := Kd.R_slice HO207.out; subst eo5)))
 go_loopg [8] k (fun kq v8 w' => ∃ (x8_1 : Int) (x1001_1 : Int) (x205000_1 : Int) (x205001_1 : ByteArray) (x205002_1 : Int) (x205003_1 : ByteArray) (x205004_1 : ByteArray) (x205005_1 : Int), v8 = .int .i64 x8_1 ∧ Aside0 (lex_scanner_mark.l0 kq y205 (y205.length : Int) x8_1 s0_0 x1001_1 = some (r1, r2, r3, r4, r5, r6, r7, r8, r9)) ∧ Aside0 (kq ≤ k) ∧ Aside0 (Kd.R Kd.string 9 w' w.heap.size (fun _ => True) (.slice Ao5 y205.length co5) y205) ∧ Aside0 (w'.heap[gb204]? = some (.cells #[.int .i64 x205000_1, .string x205001_1, .int .i64 x205002_1, .string x205003_1, .string x205004_1, .int .i64 x205005_1] 50 (0, 0))) ∧ Aside0 (IsS75 w0 w' g s0_0 x1001_1) ∧ Aside0 (KeepBut w w' g none) ∧ Aside0 (Below w0.heap.size w0 w'))
 case atStart => exact ⟨(0), (s0_1), (0), ((⟨#[]⟩ : ByteArray)), (0), ((⟨#[]⟩ : ByteArray)), ((⟨#[]⟩ : ByteArray)), (0), e1_, H', ⟨Nat.le_refl _⟩, ⟨by have G0 := HO207; exact z1_⟩, ⟨by have G0 := BK204; exact z17_⟩, ⟨by have G0 := HI0; have G1 := NB0_204; exact z9_⟩, ⟨by have G0 := GW204; exact z5_⟩, ⟨by have G0 := HI0; have G1 := GE204; exact z8_⟩⟩
 case round =>
  clear H'
  try clear p2
  obtain ⟨x8_1, x1001_1, x205000_1, x205001_1, x205002_1, x205003_1, x205004_1, x205005_1, rfl, HA, HK1, HO_6, BK204, HI0, HK, HB⟩ := hrel
  cases gk with
  | zero => exact absurd HA.out (by simp [lex_scanner_mark.l0])
  | succ k1 =>
   have H := HA.out
   clear HA
   simp only [lex_scanner_mark.l0] at H
   by_cases c6 : x8_1 < (y205.length : Int)
   ·rw [if_pos c6] at H
    have c6b0 : decide (x8_1 < (y205.length : Int)) = true := decide_eq_true c6
    clear c6
    by_cases c7 : 0 ≤ x8_1
    ·rw [if_pos c7] at H
     have c7b0 : decide (0 ≤ x8_1) = true := decide_eq_true c7
     clear c7
     by_cases c8 : x8_1 < (y205.length : Int)
     ·rw [if_pos c8] at H
      have c8b0 : decide (x8_1 < (y205.length : Int)) = true := decide_eq_true c8
      clear c8
      by_cases c9 : 0 ≤ x1001_1
      ·rw [if_pos c9] at H
       have c9b0 := eq_true c9
       have c9b1 : decide (0 ≤ x1001_1) = true := decide_eq_true c9
       clear c9
       by_cases c10 : x1001_1 ≤ (s0_0.size : Int)
       ·rw [if_pos c10] at H
        have c10b0 := eq_true c10
        have c10b1 : decide (x1001_1 ≤ (s0_0.size : Int)) = true := decide_eq_true c10
        clear c10
        replace H := Option.bind_eq_some_iff.mp H
        obtain ⟨t209, A110, H⟩ := H
        replace H : (if t209 = true then (some (8, rdOf ByteArray.empty y205 x8_1, 0, (⟨#[]⟩ : ByteArray), (⟨#[]⟩ : ByteArray), 0, true, s0_0, wrap64 (x1001_1 + ((rdOf ByteArray.empty y205 x8_1).size : Int)))) else (lex_scanner_mark.l0 k1 y205 (y205.length : Int) (wrap64 (x8_1 + 1)) s0_0 x1001_1)) = some (r1, r2, r3, r4, r5, r6, r7, r8, r9) := H
        have A11 := Aside0.mk A110
        clear A110
        by_cases c12 : t209 = true
        ·subst c12
         have H1 : (some (8, rdOf ByteArray.empty y205 x8_1, 0, (⟨#[]⟩ : ByteArray), (⟨#[]⟩ : ByteArray), 0, true, s0_0, wrap64 (x1001_1 + ((rdOf ByteArray.empty y205 x8_1).size : Int)))) = some (r1, r2, r3, r4, r5, r6, r7, r8, r9) := by rw [if_pos rfl] at H; exact H
         clear H
         have H := H1
         clear H1
         simp only [Option.some.injEq, Prod.mk.injEq] at H
         obtain ⟨rfl, rfl, rfl, rfl, rfl, rfl, rfl, rfl, rfl⟩ := H
         have p208 : 0 ≤ (x8_1 : Int) := of_decide_eq_true a1_
         have q208 : x8_1 < (y205.length : Int) := of_decide_eq_true a1_
         obtain ⟨ad208, e208, hx208_0⟩ := Kd.at_string (Kd.R_reads' HO_6.out).2.2 x8_1 p208 q208
         cases e208
         replace p208 := eq_true p208
         replace q208 := eq_true q208
         obtain ⟨HGz13, hgz13⟩ := HI0.out
         have hcz13_0 := cellS75_0 HGz13
         have hcz13_1 := cellS75_1 HGz13
         have hfz13_0 := blk_frozen HGz13 0
         have hfz13_1 := blk_frozen HGz13 1
         clear HGz13 hgz13
         go_wp2_with (first | (go_at_call 102; (with_reducible refine (strings_HasPrefix.calls (s0_0.extract (x1001_1 : Int).toNat s0_0.size) (rdOf ByteArray.empty y205 x8_1) true _ A11.out).mono ?_); rintro e w' ⟨rfl, ⟨nd, rfl⟩⟩; (try first | exact ⟨rfl, _, World.drewN_drewN _ _ _⟩ | exact ⟨rfl, _, Eq.trans (World.drewN_drewN _ _ _) (congrArg (World.drewN _) (Nat.add_assoc _ _ _))⟩); have hnb14 := NB204_0.out; have hnc14 := NB0_204.out; have hcz15_0 := cl_ (.int .i64 x205000_1) BK204.out 0; have hcz15_1 := cl_ (.string x205001_1) BK204.out 1; have hcz15_2 := cl_ (.int .i64 x205002_1) BK204.out 2; have hcz15_3 := cl_ (.string x205003_1) BK204.out 3; have hcz15_4 := cl_ (.string x205004_1) BK204.out 4; have hcz15_5 := cl_ (.int .i64 x205005_1) BK204.out 5; have hfz15_0 := blk_frozen BK204.out 0; have hfz15_1 := blk_frozen BK204.out 1; have hfz15_2 := blk_frozen BK204.out 2; have hfz15_3 := blk_frozen BK204.out 3; have hfz15_4 := blk_frozen BK204.out 4; have hfz15_5 := blk_frozen BK204.out 5))
         repeat (go_quiet (first | (go_at_call 102; (with_reducible refine (strings_HasPrefix.calls (s0_0.extract (x1001_1 : Int).toNat s0_0.size) (rdOf ByteArray.empty y205 x8_1) true _ A11.out).mono ?_); rintro e w' ⟨rfl, ⟨nd, rfl⟩⟩; (try first | exact ⟨rfl, _, World.drewN_drewN _ _ _⟩ | exact ⟨rfl, _, Eq.trans (World.drewN_drewN _ _ _) (congrArg (World.drewN _) (Nat.add_assoc _ _ _))⟩); have hnb14 := NB204_0.out; have hnc14 := NB0_204.out; have hcz15_0 := cl_ (.int .i64 x205000_1) BK204.out 0; have hcz15_1 := cl_ (.string x205001_1) BK204.out 1; have hcz15_2 := cl_ (.int .i64 x205002_1) BK204.out 2; have hcz15_3 := cl_ (.string x205003_1) BK204.out 3; have hcz15_4 := cl_ (.string x205004_1) BK204.out 4; have hcz15_5 := cl_ (.int .i64 x205005_1) BK204.out 5; have hfz15_0 := blk_frozen BK204.out 0; have hfz15_1 := blk_frozen BK204.out 1; have hfz15_2 := blk_frozen BK204.out 2; have hfz15_3 := blk_frozen BK204.out 3; have hfz15_4 := blk_frozen BK204.out 4; have hfz15_5 := blk_frozen BK204.out 5)); try go_wp2_with (first | (go_at_call 102; (with_reducible refine (strings_HasPrefix.calls (s0_0.extract (x1001_1 : Int).toNat s0_0.size) (rdOf ByteArray.empty y205 x8_1) true _ A11.out).mono ?_); rintro e w' ⟨rfl, ⟨nd, rfl⟩⟩; (try first | exact ⟨rfl, _, World.drewN_drewN _ _ _⟩ | exact ⟨rfl, _, Eq.trans (World.drewN_drewN _ _ _) (congrArg (World.drewN _) (Nat.add_assoc _ _ _))⟩); have hnb14 := NB204_0.out; have hnc14 := NB0_204.out; have hcz15_0 := cl_ (.int .i64 x205000_1) BK204.out 0; have hcz15_1 := cl_ (.string x205001_1) BK204.out 1; have hcz15_2 := cl_ (.int .i64 x205002_1) BK204.out 2; have hcz15_3 := cl_ (.string x205003_1) BK204.out 3; have hcz15_4 := cl_ (.string x205004_1) BK204.out 4; have hcz15_5 := cl_ (.int .i64 x205005_1) BK204.out 5; have hfz15_0 := blk_frozen BK204.out 0; have hfz15_1 := blk_frozen BK204.out 1; have hfz15_2 := blk_frozen BK204.out 2; have hfz15_3 := blk_frozen BK204.out 3; have hfz15_4 := blk_frozen BK204.out 4; have hfz15_5 := blk_frozen BK204.out 5)))
         refine bodyPost_ret (results_ct rfl _ _ gb204 50 #[.int .i64 8, .string (rdOf ByteArray.empty y205 x8_1), .int .i64 0, .string (⟨#[]⟩ : ByteArray), .string (⟨#[]⟩ : ByteArray), .int .i64 0] (0, 0) _ rfl (by (with_reducible repeat (first | refine blk_drewN ?_ _ | refine blk_drew ?_ | refine blk_alloc ?_ _)); refine blk_put (cs := #[.int .i64 8, .string (rdOf ByteArray.empty y205 x8_1), .int .i64 0, .string (⟨#[]⟩ : ByteArray), .string (⟨#[]⟩ : ByteArray), .int .i64 x205005_1]) ?_ 5 _ rfl; (with_reducible repeat (first | refine blk_drewN ?_ _ | refine blk_drew ?_ | refine blk_alloc ?_ _)); refine blk_put (cs := #[.int .i64 8, .string (rdOf ByteArray.empty y205 x8_1), .int .i64 0, .string (⟨#[]⟩ : ByteArray), .string x205004_1, .int .i64 x205005_1]) ?_ 4 _ rfl; (with_reducible repeat (first | refine blk_drewN ?_ _ | refine blk_drew ?_ | refine blk_alloc ?_ _)); refine blk_put (cs := #[.int .i64 8, .string (rdOf ByteArray.empty y205 x8_1), .int .i64 0, .string x205003_1, .string x205004_1, .int .i64 x205005_1]) ?_ 3 _ rfl; (with_reducible repeat (first | refine blk_drewN ?_ _ | refine blk_drew ?_ | refine blk_alloc ?_ _)); refine blk_put (cs := #[.int .i64 8, .string (rdOf ByteArray.empty y205 x8_1), .int .i64 x205002_1, .string x205003_1, .string x205004_1, .int .i64 x205005_1]) ?_ 2 _ rfl; (with_reducible repeat (first | refine blk_drewN ?_ _ | refine blk_drew ?_ | refine blk_alloc ?_ _)); refine blk_put (cs := #[.int .i64 8, .string x205001_1, .int .i64 x205002_1, .string x205003_1, .string x205004_1, .int .i64 x205005_1]) ?_ 1 _ rfl; (with_reducible repeat (first | refine blk_drewN ?_ _ | refine blk_drew ?_ | refine blk_alloc ?_ _)); refine blk_put (cs := #[.int .i64 x205000_1, .string x205001_1, .int .i64 x205002_1, .string x205003_1, .string x205004_1, .int .i64 x205005_1]) ?_ 0 _ rfl; (with_reducible repeat (first | refine blk_drewN ?_ _ | refine blk_drew ?_ | refine blk_alloc ?_ _)); refine blk_far ?_ NB204_0.out _; (with_reducible repeat (first | refine blk_drewN ?_ _ | refine blk_drew ?_ | refine blk_alloc ?_ _)); exact BK204.out) Tryz.underlying50 rfl k1_) rfl ?_
         exact ⟨e2_, by have G0 := HI0; have G1 := NB0_204; exact z9_, by have G0 := HI0; have G1 := GE204; exact z8_, by have G0 := GW204; exact z5_⟩
        ·replace c12 := Bool.eq_false_iff.mpr c12
         subst c12
         have H1 : (lex_scanner_mark.l0 k1 y205 (y205.length : Int) (wrap64 (x8_1 + 1)) s0_0 x1001_1) = some (r1, r2, r3, r4, r5, r6, r7, r8, r9) := by rw [if_neg (show ¬ (false = true) by decide)] at H; exact H
         clear H
         have H := H1
         clear H1
         have H' := Aside0.mk H
         clear H
         have p208 : 0 ≤ (x8_1 : Int) := of_decide_eq_true a1_
         have q208 : x8_1 < (y205.length : Int) := of_decide_eq_true a1_
         obtain ⟨ad208, e208, hx208_0⟩ := Kd.at_string (Kd.R_reads' HO_6.out).2.2 x8_1 p208 q208
         cases e208
         replace p208 := eq_true p208
         replace q208 := eq_true q208
         obtain ⟨HGz16, hgz16⟩ := HI0.out
         have hcz16_0 := cellS75_0 HGz16
         have hcz16_1 := cellS75_1 HGz16
         have hfz16_0 := blk_frozen HGz16 0
         have hfz16_1 := blk_frozen HGz16 1
         clear HGz16 hgz16
         go_wp2_with (first | (go_at_call 102; (with_reducible refine (strings_HasPrefix.calls (s0_0.extract (x1001_1 : Int).toNat s0_0.size) (rdOf ByteArray.empty y205 x8_1) false _ A11.out).mono ?_); rintro e w' ⟨rfl, ⟨nd, rfl⟩⟩; (try first | exact ⟨rfl, _, World.drewN_drewN _ _ _⟩ | exact ⟨rfl, _, Eq.trans (World.drewN_drewN _ _ _) (congrArg (World.drewN _) (Nat.add_assoc _ _ _))⟩)))
         repeat (go_quiet (first | (go_at_call 102; (with_reducible refine (strings_HasPrefix.calls (s0_0.extract (x1001_1 : Int).toNat s0_0.size) (rdOf ByteArray.empty y205 x8_1) false _ A11.out).mono ?_); rintro e w' ⟨rfl, ⟨nd, rfl⟩⟩; (try first | exact ⟨rfl, _, World.drewN_drewN _ _ _⟩ | exact ⟨rfl, _, Eq.trans (World.drewN_drewN _ _ _) (congrArg (World.drewN _) (Nat.add_assoc _ _ _))⟩))); try go_wp2_with (first | (go_at_call 102; (with_reducible refine (strings_HasPrefix.calls (s0_0.extract (x1001_1 : Int).toNat s0_0.size) (rdOf ByteArray.empty y205 x8_1) false _ A11.out).mono ?_); rintro e w' ⟨rfl, ⟨nd, rfl⟩⟩; (try first | exact ⟨rfl, _, World.drewN_drewN _ _ _⟩ | exact ⟨rfl, _, Eq.trans (World.drewN_drewN _ _ _) (congrArg (World.drewN _) (Nat.add_assoc _ _ _))⟩))))
         go_roundg k1
         case measure => have := HK1.out; omega
         case rel => exact ⟨(wrap64 (x8_1 + 1)), (x1001_1), (x205000_1), (x205001_1), (x205002_1), (x205003_1), (x205004_1), (x205005_1), e1_, H', ⟨by have := HK1.out; omega⟩, ⟨by have G0 := HO_6; exact z1_⟩, ⟨by have G0 := BK204; exact z17_⟩, ⟨by have G0 := HI0; have G1 := NB0_204; exact z9_⟩, ⟨by have G0 := GW204; exact z5_⟩, ⟨by have G0 := HI0; have G1 := GE204; exact z8_⟩⟩
       ·rw [if_neg c10] at H
        exact absurd H (by simp)
      ·rw [if_neg c9] at H
       exact absurd H (by simp)
     ·rw [if_neg c8] at H
      exact absurd H (by simp)
    ·rw [if_neg c7] at H
     exact absurd H (by simp)
   ·rw [if_neg c6] at H
    have c6b0 : decide (x8_1 < (y205.length : Int)) = false := decide_eq_false c6
    clear c6
    simp only [Option.some.injEq, Prod.mk.injEq] at H
    obtain ⟨rfl, rfl, rfl, rfl, rfl, rfl, rfl, rfl, rfl⟩ := H
    have hnb17 := NB204_0.out
    have hnc17 := NB0_204.out
    have hcz18_0 := cl_ (.int .i64 x205000_1) BK204.out 0
    have hcz18_1 := cl_ (.string x205001_1) BK204.out 1
    have hcz18_2 := cl_ (.int .i64 x205002_1) BK204.out 2
    have hcz18_3 := cl_ (.string x205003_1) BK204.out 3
    have hcz18_4 := cl_ (.string x205004_1) BK204.out 4
    have hcz18_5 := cl_ (.int .i64 x205005_1) BK204.out 5
    have hfz18_0 := blk_frozen BK204.out 0
    have hfz18_1 := blk_frozen BK204.out 1
    have hfz18_2 := blk_frozen BK204.out 2
    have hfz18_3 := blk_frozen BK204.out 3
    have hfz18_4 := blk_frozen BK204.out 4
    have hfz18_5 := blk_frozen BK204.out 5
    go_wp2
    repeat (go_quiet (fail); try go_wp2)
    refine bodyPost_ret (results_ct rfl _ _ gb204 50 #[.int .i64 0, .string (⟨#[]⟩ : ByteArray), .int .i64 0, .string (⟨#[]⟩ : ByteArray), .string (⟨#[]⟩ : ByteArray), .int .i64 0] (0, 0) _ rfl (by (with_reducible repeat (first | refine blk_drewN ?_ _ | refine blk_drew ?_ | refine blk_alloc ?_ _)); refine blk_put (cs := #[.int .i64 0, .string (⟨#[]⟩ : ByteArray), .int .i64 0, .string (⟨#[]⟩ : ByteArray), .string (⟨#[]⟩ : ByteArray), .int .i64 x205005_1]) ?_ 5 _ rfl; (with_reducible repeat (first | refine blk_drewN ?_ _ | refine blk_drew ?_ | refine blk_alloc ?_ _)); refine blk_put (cs := #[.int .i64 0, .string (⟨#[]⟩ : ByteArray), .int .i64 0, .string (⟨#[]⟩ : ByteArray), .string x205004_1, .int .i64 x205005_1]) ?_ 4 _ rfl; (with_reducible repeat (first | refine blk_drewN ?_ _ | refine blk_drew ?_ | refine blk_alloc ?_ _)); refine blk_put (cs := #[.int .i64 0, .string (⟨#[]⟩ : ByteArray), .int .i64 0, .string x205003_1, .string x205004_1, .int .i64 x205005_1]) ?_ 3 _ rfl; (with_reducible repeat (first | refine blk_drewN ?_ _ | refine blk_drew ?_ | refine blk_alloc ?_ _)); refine blk_put (cs := #[.int .i64 0, .string (⟨#[]⟩ : ByteArray), .int .i64 x205002_1, .string x205003_1, .string x205004_1, .int .i64 x205005_1]) ?_ 2 _ rfl; (with_reducible repeat (first | refine blk_drewN ?_ _ | refine blk_drew ?_ | refine blk_alloc ?_ _)); refine blk_put (cs := #[.int .i64 0, .string x205001_1, .int .i64 x205002_1, .string x205003_1, .string x205004_1, .int .i64 x205005_1]) ?_ 1 _ rfl; (with_reducible repeat (first | refine blk_drewN ?_ _ | refine blk_drew ?_ | refine blk_alloc ?_ _)); refine blk_put (cs := #[.int .i64 x205000_1, .string x205001_1, .int .i64 x205002_1, .string x205003_1, .string x205004_1, .int .i64 x205005_1]) ?_ 0 _ rfl; (with_reducible repeat (first | refine blk_drewN ?_ _ | refine blk_drew ?_ | refine blk_alloc ?_ _)); exact BK204.out) Tryz.underlying50 rfl k1_) rfl ?_
    exact ⟨e2_, by have G0 := HI0; have G1 := NB0_204; exact z9_, by have G0 := HI0; have G1 := GE204; exact z8_, by have G0 := GW204; exact z5_⟩
structure Upd (W w1 : World) (gy : Nat) : Prop where
 os : w1.os = W.os
 tape : w1.tape = W.tape
 output : w1.output = W.output
 size : w1.heap.size = W.heap.size
 other : ∀ k, k ≠ gy → w1.heap[k]? = W.heap[k]?
theorem setCells_heap (gy : Nat) (T : TypeId) : ∀ (vs : List Value) (o : Nat) (W : World) (cs : Array Value), W.heap[gy]? = some (.cells cs T (0, 0)) → o + vs.length ≤ cs.size → (W.setCells gy o vs).heap[gy]? = some (.cells (cs.toList.take o ++ vs ++ cs.toList.drop (o + vs.length)).toArray T (0, 0)) ∧ Upd W (W.setCells gy o vs) gy
 | [], o, W, cs, h, _ => ⟨by simpa [World.setCells] using h, ⟨rfl, rfl, rfl, rfl, fun _ _ => rfl⟩⟩
 | v :: vs, o, W, cs, h, hl => by
  have hl' : o + (vs.length + 1) ≤ cs.size := by simpa using hl
  have h1 : (W.setCell ⟨gy, o, none⟩ v).heap[gy]? = some (.cells (cs.setIfInBounds o v) T (0, 0)) := by
   simp [World.setCell, Array.getElem?_modify, h]
  obtain ⟨i1, i2⟩ := setCells_heap gy T vs (o + 1) (W.setCell ⟨gy, o, none⟩ v) (cs.setIfInBounds o v) h1 (by simp; omega)
  have u1 : Upd W (W.setCell ⟨gy, o, none⟩ v) gy := ⟨rfl, rfl, rfl, by simp, fun k hk => by simp [World.setCell, Array.getElem?_modify, Ne.symm hk]⟩
  refine ⟨?_, ⟨i2.os.trans u1.os, i2.tape.trans u1.tape, i2.output.trans u1.output, i2.size.trans u1.size, fun k hk => (i2.other k hk).trans (u1.other k hk)⟩⟩
  rw [World.setCells]
  rw [i1]
  congr 2
  have e := list_seg_step cs.toList o v vs (by simpa using hl')
  simpa [Array.toList_setIfInBounds] using congrArg List.toArray e
theorem store_seg {P : Program} {ops : Array Oper} {rest : List Oper} {o : Oper} {a : Act} {Q : Exit → Act → World → Prop} {W : World} {gy j : Nat} {T TB : TypeId} {cs new : Array Value} {u : Value} {seg : List Value} (hgd : o.guard = none) {p x : Operand} (ho : o.op = .store T p x) (hN : o.dst = none)
  (haddr : a.eval p = .pointer (some ⟨gy, j, none⟩)) (hx : a.eval x = u) (hu : u.cells.toList = seg) (hh : W.heap[gy]? = some (.cells cs TB (0, 0))) (ht : (P.info? T).map (·.size) = some seg.length) (hfit : j + seg.length ≤ cs.size) (h1 : ∀ q ∈ seg, q.oneCell' = true)
  (hnew : (cs.toList.take j ++ seg ++ cs.toList.drop (j + seg.length)).toArray = new)
  (h : ∀ w1, w1.heap[gy]? = some (.cells new TB (0, 0)) → Upd W w1 gy → wpList P ops Q rest a w1) : wpList P ops Q (o :: rest) a W := by
 have hst := run_store_run (P := P) (o := j) T u seg hh hu ht hfit h1
 obtain ⟨hb, hup⟩ := setCells_heap gy TB seg j W cs hh hfit
 rw [hnew] at hb
 have h2 := h _ hb hup
 refine wpList_plain hgd fun K hK => ?_
 have hex : Sem.run P (execOp a.eval o) W = .ok .skip (W.setCells gy j seg) := by
  unfold execOp
  rw [ho]
  simp [haddr, hx, hst]
 unfold Oper.wp
 rw [hex]
 show K (a.put o.dst undef) _
 rw [hN]
 exact hK _ _ h2
theorem Upd.below {W w1 : World} {gy B : Nat} (h : Upd W w1 gy) (hB : B ≤ gy) : Below B W w1 := ⟨h.os, h.tape, h.output, Nat.le_of_eq h.size.symm, fun k hk => h.other k (by omega)⟩
theorem Upd.keep {w W w1 : World} {g gy : Nat} (h : Upd W w1 gy) (hk : KeepBut w W g none) (hg : w.heap.size ≤ gy) : KeepBut w w1 g none := ⟨by rw [h.size]; exact hk.1, fun i hi hne hr => (h.other i (by omega)).trans (hk.2 i hi hne hr)⟩
structure NX (w0 w W : World) (g gb gs : Nat) (s : ByteArray) (at_ : Int) (cs fs : Array Value) (T : TypeId) : Prop where
 st : IsS75 w0 W g s at_
 below : Below w0.heap.size w0 W
 keep : KeepBut w W g none
 res : W.heap[gb]? = some (.cells cs 50 (0, 0))
 rows : W.heap[gs]? = some (.cells fs T (0, 0))
 gbw : w.heap.size ≤ gb
 gsw : w.heap.size ≤ gs
 gbg : gb ≠ g
 gsg : gs ≠ g
 gbs : gb ≠ gs
theorem NX.call {w0 w W W' : World} {g gb gs : Nat} {s s' : ByteArray} {at_ at' : Int} {cs fs : Array Value} {T : TypeId} (h : NX w0 w W g gb gs s at_ cs fs T) (h1 : IsS75 w0 W' g s' at') (h2 : Below w0.heap.size w0 W') (h3 : KeepBut W W' g none) : NX w0 w W' g gb gs s' at' cs fs T :=
 ⟨h1, h2, h.keep.trans h3 (.inl rfl), (h3.2 gb (blk_lt h.res) h.gbg (by simp)).trans h.res, (h3.2 gs (blk_lt h.rows) h.gsg (by simp)).trans h.rows, h.gbw, h.gsw, h.gbg, h.gsg, h.gbs⟩
theorem NX.lower {w0 w W W' : World} {g gb gs : Nat} {s : ByteArray} {at_ : Int} {cs fs : Array Value} {T : TypeId} (h : NX w0 w W g gb gs s at_ cs fs T) (hb : Below W.heap.size W W') : NX w0 w W' g gb gs s at_ cs fs T :=
 ⟨h.st.below hb, below_then h.below h.below.size hb, h.keep.trans (KeepBut.of_below hb g none) (.inl rfl), blk_below h.res hb, blk_below h.rows hb, h.gbw, h.gsw, h.gbg, h.gsg, h.gbs⟩
theorem NX.drew {w0 w W : World} {g gb gs : Nat} {s : ByteArray} {at_ : Int} {cs fs : Array Value} {T : TypeId} (h : NX w0 w W g gb gs s at_ cs fs T) (n : Nat) : NX w0 w (W.drewN n) g gb gs s at_ cs fs T :=
 h.lower (pw_below_drewN (Below.refl _ _) n)
theorem NX.upd {w0 w W W' : World} {g gb gs gy : Nat} {s : ByteArray} {at_ : Int} {cs fs : Array Value} {T : TypeId} (h : NX w0 w W g gb gs s at_ cs fs T) (hu : Upd W W' gy) (h0 : w0.heap.size ≤ gy) (hw : w.heap.size ≤ gy) (hg : gy ≠ g) (hb : gy ≠ gb) (hs : gy ≠ gs) : NX w0 w W' g gb gs s at_ cs fs T :=
 ⟨⟨(hu.other g (Ne.symm hg)).trans h.st.1, h.st.2⟩, h.below.trans (hu.below h0), hu.keep h.keep hw, (hu.other gb (Ne.symm hb)).trans h.res, (hu.other gs (Ne.symm hs)).trans h.rows, h.gbw, h.gsw, h.gbg, h.gsg, h.gbs⟩
theorem NX.fill {w0 w W W' : World} {g gb gs : Nat} {s : ByteArray} {at_ : Int} {cs fs new : Array Value} {T : TypeId} (h : NX w0 w W g gb gs s at_ cs fs T) (hu : Upd W W' gb) (h0 : w0.heap.size ≤ gb) (hn : W'.heap[gb]? = some (.cells new 50 (0, 0))) : NX w0 w W' g gb gs s at_ new fs T :=
 ⟨⟨(hu.other g (Ne.symm h.gbg)).trans h.st.1, h.st.2⟩, h.below.trans (hu.below h0), hu.keep h.keep h.gbw, hn, (hu.other gs (Ne.symm h.gbs)).trans h.rows, h.gbw, h.gsw, h.gbg, h.gsg, h.gbs⟩
theorem slice_event {P : Program} {ops : Array Oper} {rest : List Oper} {o : Oper} {a : Act} {Q : Exit → Act → World → Prop} {W : World} (hgd : o.guard = none) {N : Tmp} (_hd : o.dst = some N) {cs : Array Value} {t : TypeId} {n : Nat}
  (hrun : (execOp a.eval o).run P W = .ok (.value (.slice (some ⟨W.heap.size, 0, none⟩) n n)) (W.alloc (.cells cs t (0, 0))))
  (h : ∀ g, g = W.heap.size → ∀ w1, w1.heap[g]? = some (.cells cs t (0, 0)) → Below W.heap.size W w1 → wpList P ops Q rest (a.put o.dst (.slice (some ⟨g, 0, none⟩) n n)) w1) : wpList P ops Q (o :: rest) a W :=
 Kd.event_run hgd hrun (h _ rfl _ (blk_new W _) (below_alloc (Below.refl _ _) _))
def lex_scanner_next.g (k : Nat) (s_ : ByteArray) (a_ from_ : Int) : Option (Int × ByteArray × Int × ByteArray × ByteArray × Int × Bool × ByteArray × Int) := ((lex_scanner_iri.f k s_ a_).bind fun r_ => if r_.2.2.2.2.2.2.1 = true then some (r_.1, r_.2.1, r_.2.2.1, r_.2.2.2.1, r_.2.2.2.2.1, from_, true, r_.2.2.2.2.2.2.2.1, r_.2.2.2.2.2.2.2.2) else (fun (s_ : ByteArray) (a_ : Int) => ((lex_scanner_blank.f k s_ a_).bind fun r_ => if r_.2.2.2.2.2.2.1 = true then some (r_.1, r_.2.1, r_.2.2.1, r_.2.2.2.1, r_.2.2.2.2.1, from_, true, r_.2.2.2.2.2.2.2.1, r_.2.2.2.2.2.2.2.2) else (fun (s_ : ByteArray) (a_ : Int) => ((lex_scanner_text.f k s_ a_).bind fun r_ => if r_.2.2.2.2.2.2.1 = true then some (r_.1, r_.2.1, r_.2.2.1, r_.2.2.2.1, r_.2.2.2.2.1, from_, true, r_.2.2.2.2.2.2.2.1, r_.2.2.2.2.2.2.2.2) else (fun (s_ : ByteArray) (a_ : Int) => ((lex_scanner_lang.f k s_ a_).bind fun r_ => if r_.2.2.2.2.2.2.1 = true then some (r_.1, r_.2.1, r_.2.2.1, r_.2.2.2.1, r_.2.2.2.2.1, from_, true, r_.2.2.2.2.2.2.2.1, r_.2.2.2.2.2.2.2.2) else (fun (s_ : ByteArray) (a_ : Int) => ((lex_scanner_variable.f s_ a_).bind fun r_ => if r_.2.2.2.2.2.2.1 = true then some (r_.1, r_.2.1, r_.2.2.1, r_.2.2.2.1, r_.2.2.2.2.1, from_, true, r_.2.2.2.2.2.2.2.1, r_.2.2.2.2.2.2.2.2) else (fun (s_ : ByteArray) (a_ : Int) => ((lex_scanner_word.f k s_ a_).bind fun r_ => if r_.2.2.2.2.2.2.1 = true then some (r_.1, r_.2.1, r_.2.2.1, r_.2.2.2.1, r_.2.2.2.2.1, from_, true, r_.2.2.2.2.2.2.2.1, r_.2.2.2.2.2.2.2.2) else (fun (s_ : ByteArray) (a_ : Int) => ((lex_scanner_mark.f k s_ a_).bind fun r_ => if r_.2.2.2.2.2.2.1 = true then some (r_.1, r_.2.1, r_.2.2.1, r_.2.2.2.1, r_.2.2.2.2.1, from_, true, r_.2.2.2.2.2.2.2.1, r_.2.2.2.2.2.2.2.2) else (fun (s_ : ByteArray) (a_ : Int) => none) r_.2.2.2.2.2.2.2.1 r_.2.2.2.2.2.2.2.2)) r_.2.2.2.2.2.2.2.1 r_.2.2.2.2.2.2.2.2)) r_.2.2.2.2.2.2.2.1 r_.2.2.2.2.2.2.2.2)) r_.2.2.2.2.2.2.2.1 r_.2.2.2.2.2.2.2.2)) r_.2.2.2.2.2.2.2.1 r_.2.2.2.2.2.2.2.2)) r_.2.2.2.2.2.2.2.1 r_.2.2.2.2.2.2.2.2)) r_.2.2.2.2.2.2.2.1 r_.2.2.2.2.2.2.2.2)
def lex_scanner_next.f (k : Nat) (s0_0 : ByteArray) (s0_1 : Int) : Option (Int × ByteArray × Int × ByteArray × ByteArray × Int × Bool × ByteArray × Int) := (lex_scanner_skip.f k s0_0 s0_1).bind fun b_ => if b_.2 ≥ (b_.1.size : Int) then some (0, (⟨#[]⟩ : ByteArray), 0, (⟨#[]⟩ : ByteArray), (⟨#[]⟩ : ByteArray), 0, false, b_.1, b_.2) else lex_scanner_next.g k b_.1 b_.2 b_.2
theorem lex_scanner_next.mono : ∀ a0 a1 k, LeO (lex_scanner_next.f k a0 a1) (lex_scanner_next.f (k + 1) a0 a1) := by
 intro a0 a1 k
 unfold lex_scanner_next.f lex_scanner_next.g
 repeat' first
   | (with_reducible exact lex_scanner_skip.mono _ _ _)
   | (with_reducible exact lex_scanner_iri.mono _ _ _)
   | (with_reducible exact lex_scanner_blank.mono _ _ _)
   | (with_reducible exact lex_scanner_text.mono _ _ _)
   | (with_reducible exact lex_scanner_lang.mono _ _ _)
   | (with_reducible exact lex_scanner_word.mono _ _ _)
   | (with_reducible exact lex_scanner_mark.mono _ _ _)
   | (with_reducible exact LeO.refl _)
   | (with_reducible exact LeO.none _)
   | (with_reducible refine LeO.ite ?_ ?_)
   | (with_reducible refine LeO.bind ?_ (fun _ => ?_))
   | exact lex_scanner_skip.mono _ _ _
   | exact lex_scanner_iri.mono _ _ _
   | exact lex_scanner_blank.mono _ _ _
   | exact lex_scanner_text.mono _ _ _
   | exact lex_scanner_lang.mono _ _ _
   | exact lex_scanner_word.mono _ _ _
   | exact lex_scanner_mark.mono _ _ _
   | exact LeO.none _
   | refine LeO.ite ?_ ?_
   | refine LeO.bind ?_ (fun _ => ?_)
set_option maxHeartbeats 4000000 in
set_option maxRecDepth 100000 in
theorem lex_scanner_next.calls (k : Nat) (g : Nat) (s0_0 : ByteArray) (s0_1 : Int) (r1 : Int) (r2 : ByteArray) (r3 : Int) (r4 : ByteArray) (r5 : ByteArray) (r6 : Int) (r7 : Bool) (r8 : ByteArray) (r9 : Int) (w0 w : World) (hI : IsS75 w0 w g s0_0 s0_1) (hB : Below w0.heap.size w0 w) (h : lex_scanner_next.f k s0_0 s0_1 = some (r1, r2, r3, r4, r5, r6, r7, r8, r9)) :
  Calls Tryz.prog 45 #[.pointer (some ⟨g, 0, none⟩)] w fun e w' => e = .returned (.tuple #[.agg #[.int .i64 r1, .string r2, .int .i64 r3, .string r4, .string r5, .int .i64 r6], .bool r7]) ∧ IsS75 w0 w' g r8 r9 ∧ Below w0.heap.size w0 w' ∧ KeepBut w w' g none := by
 have hmf : ∀ (fn : Fn) (first cap : Array Value) (w : World), (Instr.makeFunc fn first cap).run Tryz.prog w = .ok (.func fn first cap) w := fun _ _ _ _ => rfl
 unfold lex_scanner_next.f at h
 obtain ⟨⟨s1, a1⟩, A0, H⟩ := Option.bind_eq_some_iff.mp h
 simp only at H
 have AS := Aside0.mk A0
 clear h A0
 have HI := Aside0.mk hI
 have HW0 := Aside0.mk hB.size
 have HB := Aside0.mk hB
 have HH := Aside0.mk H
 clear hI hB H
 go_enter Tryz.func45, Tryz.ntmps45
 go_upto_region 2 with (first | ((with_reducible refine gate_dst (N := 2) rfl ?_); refine box_event r1_ (N := 2) r1_ (cs := #[.int .i64 0, .string (⟨#[]⟩ : ByteArray), .int .i64 0, .string (⟨#[]⟩ : ByteArray), .string (⟨#[]⟩ : ByteArray), .int .i64 0]) (t := 50) r2_ ?_; intro gb hgb w1 hbox hb; have HX := Aside0.mk (show IsS75 w0 w1 g s0_0 s0_1 ∧ Below w0.heap.size w0 w1 ∧ KeepBut w w1 g none ∧ w1.heap[gb]? = some (.cells #[.int .i64 0, .string (⟨#[]⟩ : ByteArray), .int .i64 0, .string (⟨#[]⟩ : ByteArray), .string (⟨#[]⟩ : ByteArray), .int .i64 0] 50 (0, 0)) ∧ w.heap.size ≤ gb ∧ gb ≠ g from ⟨HI.out.below hb, below_then HB.out HB.out.size hb, KeepBut.of_below hb g none, hbox, Nat.le_of_eq hgb.symm, by rw [hgb]; exact Ne.symm (Nat.ne_of_lt HI.out.lt)⟩); clear hgb hbox hb HI HB) | (go_at_call 62; refine (lex_scanner_skip.calls k g s0_0 s0_1 s1 a1 w0 _ HX.out.1 HX.out.2.1 AS.out).mono ?_; rintro e w2 ⟨rfl, h1, h2, h3⟩; have HX2 := Aside0.mk (show IsS75 w0 w2 g s1 a1 ∧ Below w0.heap.size w0 w2 ∧ KeepBut w w2 g none ∧ w2.heap[gb]? = some (.cells #[.int .i64 0, .string (⟨#[]⟩ : ByteArray), .int .i64 0, .string (⟨#[]⟩ : ByteArray), .string (⟨#[]⟩ : ByteArray), .int .i64 0] 50 (0, 0)) ∧ w.heap.size ≤ gb ∧ gb ≠ g from ⟨h1, h2, HX.out.2.2.1.trans h3 (.inl rfl), (h3.2 gb (blk_lt HX.out.2.2.2.1) HX.out.2.2.2.2.2 (by simp)).trans HX.out.2.2.2.1, HX.out.2.2.2.2⟩); clear HX h1 h2 h3))
 have hc0 : w2.cell? ⟨g, 0, none⟩ = some (.string s1) := (blk_cell HX2.out.1.1 0).trans rfl
 have hc1 : w2.cell? ⟨g, 1, none⟩ = some (.int .i64 a1) := (blk_cell HX2.out.1.1 1).trans rfl
 by_cases c1 : a1 ≥ (s1.size : Int)
 ·have c1b : decide (a1 ≥ (s1.size : Int)) = true := decide_eq_true c1
  have H := HH.out
  clear HH
  rw [if_pos c1] at H
  simp only [Option.some.injEq, Prod.mk.injEq] at H
  obtain ⟨rfl, rfl, rfl, rfl, rfl, rfl, rfl, rfl, rfl⟩ := H
  repeat (go_quiet (fail); try go_wp2_with (first | ((with_reducible refine gate_store (t := 50) (p := 2) rfl ?_); refine store_seg (gy := gb) (j := 0) (T := 50) (TB := 50) (cs := #[.int .i64 0, .string (⟨#[]⟩ : ByteArray), .int .i64 0, .string (⟨#[]⟩ : ByteArray), .string (⟨#[]⟩ : ByteArray), .int .i64 0]) (new := #[.int .i64 0, .string (⟨#[]⟩ : ByteArray), .int .i64 0, .string (⟨#[]⟩ : ByteArray), .string (⟨#[]⟩ : ByteArray), .int .i64 0]) (u := .agg #[.int .i64 0, .string (⟨#[]⟩ : ByteArray), .int .i64 0, .string (⟨#[]⟩ : ByteArray), .string (⟨#[]⟩ : ByteArray), .int .i64 0]) (seg := [.int .i64 0, .string (⟨#[]⟩ : ByteArray), .int .i64 0, .string (⟨#[]⟩ : ByteArray), .string (⟨#[]⟩ : ByteArray), .int .i64 0]) rfl (p := .tmp 2) (x := .tmp 21) rfl rfl r1_ r1_ r1_ HX2.out.2.2.2.1 k1_ s1_ h1_ rfl ?_; intro w4 hz hup; have HZ := Aside0.mk hz; have HU := Aside0.mk hup; clear hz hup)))
  refine bodyPost_ret (results_ct rfl _ _ gb 50 #[.int .i64 0, .string (⟨#[]⟩ : ByteArray), .int .i64 0, .string (⟨#[]⟩ : ByteArray), .string (⟨#[]⟩ : ByteArray), .int .i64 0] (0, 0) _ rfl HZ.out Tryz.underlying50 rfl k1_) rfl ?_
  exact ⟨rfl, ⟨(HU.out.other g (Ne.symm HX2.out.2.2.2.2.2)).trans HX2.out.1.1, HX2.out.1.2⟩, (pw_below_drewN HX2.out.2.1 nq).trans (HU.out.below (Nat.le_trans HW0.out HX2.out.2.2.2.2.1)), HU.out.keep (keep_drewN HX2.out.2.2.1 nq) HX2.out.2.2.2.2.1⟩
 ·have c1b : decide (a1 ≥ (s1.size : Int)) = false := decide_eq_false c1
  have H := HH.out
  clear HH
  rw [if_neg c1] at H
  unfold lex_scanner_next.g at H
  go_quiet (fail)
  go_wp2_with (first | ((with_reducible refine gate_dst (N := 40) rfl ?_); refine slice_event ?hg (N := 40) ?hd (cs := #[.func (.func 63) #[.pointer (some ⟨g, 0, none⟩)] #[], .func (.func 64) #[.pointer (some ⟨g, 0, none⟩)] #[], .func (.func 65) #[.pointer (some ⟨g, 0, none⟩)] #[], .func (.func 66) #[.pointer (some ⟨g, 0, none⟩)] #[], .func (.func 67) #[.pointer (some ⟨g, 0, none⟩)] #[], .func (.func 68) #[.pointer (some ⟨g, 0, none⟩)] #[], .func (.func 69) #[.pointer (some ⟨g, 0, none⟩)] #[]]) (t := 100) (n := 7) ?hr ?_; (case hd => rfl); (case hg => rfl); (case hr => first | (go_simp; done) | (go_simp; rfl)); intro gs hgs w3 hbox hb; have HN := Aside0.mk (show NX w0 w w3 g gb gs s1 a1 #[.int .i64 0, .string (⟨#[]⟩ : ByteArray), .int .i64 0, .string (⟨#[]⟩ : ByteArray), .string (⟨#[]⟩ : ByteArray), .int .i64 0] #[.func (.func 63) #[.pointer (some ⟨g, 0, none⟩)] #[], .func (.func 64) #[.pointer (some ⟨g, 0, none⟩)] #[], .func (.func 65) #[.pointer (some ⟨g, 0, none⟩)] #[], .func (.func 66) #[.pointer (some ⟨g, 0, none⟩)] #[], .func (.func 67) #[.pointer (some ⟨g, 0, none⟩)] #[], .func (.func 68) #[.pointer (some ⟨g, 0, none⟩)] #[], .func (.func 69) #[.pointer (some ⟨g, 0, none⟩)] #[]] 100 from ⟨(IsS75.drewN HX2.out.1 nq).below hb, below_then (pw_below_drewN HX2.out.2.1 nq) HX2.out.2.1.size hb, HX2.out.2.2.1.trans (KeepBut.of_below hb g none) (.inl rfl), blk_below (blk_drewN HX2.out.2.2.2.1 nq) hb, hbox, HX2.out.2.2.2.2.1, by rw [hgs]; exact HX2.out.2.2.1.1, HX2.out.2.2.2.2.2, by rw [hgs]; exact Ne.symm (Nat.ne_of_lt HX2.out.1.lt), by rw [hgs]; exact Nat.ne_of_lt (blk_lt HX2.out.2.2.2.1)⟩); clear hgs hbox hb))
  clear hc0 hc1 c1 c1b HX2
  refine wp_loop_rounds 7 ?_
  obtain ⟨⟨x1_0, x2_0, x3_0, x4_0, x5_0, x6_0, x7_0, x8_0, x9_0⟩, A, H⟩ := Option.bind_eq_some_iff.mp H
  try simp only at H
  have AR := Aside0.mk A
  clear A
  have hf_ : w3.cell? ⟨gs, 0, none⟩ = some (.func (.func 63) #[.pointer (some ⟨g, 0, none⟩)] #[]) := (blk_cell HN.out.rows 0).trans rfl
  cases x7_0 with
  | true =>
   rw [if_pos rfl] at H
   simp only [Option.some.injEq, Prod.mk.injEq] at H
   obtain ⟨rfl, rfl, rfl, rfl, rfl, rfl, rfl, rfl, rfl⟩ := H
   rw [rounds_succ]
   go_wp2_with (first | (go_at_call 63; refine (lex_scanner_iri.calls k g s1 a1 x1_0 x2_0 x3_0 x4_0 x5_0 x6_0 true x8_0 x9_0 w0 _ HN.out.st HN.out.below AR.out).mono ?_; rintro e wa0 ⟨rfl, h1, h2, h3⟩; have HN1 := Aside0.mk (HN.out.call h1 h2 h3); clear HN h1 h2 h3) | ((with_reducible refine gate_dst (N := 7) rfl ?_); refine box_event r1_ (N := 7) r1_ (cs := #[.int .i64 0, .string (⟨#[]⟩ : ByteArray), .int .i64 0, .string (⟨#[]⟩ : ByteArray), .string (⟨#[]⟩ : ByteArray), .int .i64 0]) (t := 50) r2_ ?_; intro gy hgy wb0 hbox hb; have HN2 := Aside0.mk (HN1.out.lower hb); have HY := Aside0.mk hbox; have HF := Aside0.mk (show w0.heap.size ≤ gy ∧ w.heap.size ≤ gy ∧ gy ≠ g ∧ gy ≠ gb ∧ gy ≠ gs from ⟨by rw [hgy]; exact HN1.out.below.size, by rw [hgy]; exact HN1.out.keep.1, by have G0 := HN1; exact z12_, by have G0 := HN1; exact z13_, by have G0 := HN1; exact z14_⟩); clear HN1 hgy hbox hb) | ((with_reducible refine gate_store (t := 50) (p := 7) rfl ?_); refine store_seg (gy := gy) (j := 0) (T := 50) (TB := 50) (cs := #[.int .i64 0, .string (⟨#[]⟩ : ByteArray), .int .i64 0, .string (⟨#[]⟩ : ByteArray), .string (⟨#[]⟩ : ByteArray), .int .i64 0]) (new := #[.int .i64 x1_0, .string x2_0, .int .i64 x3_0, .string x4_0, .string x5_0, .int .i64 x6_0]) (u := .agg #[.int .i64 x1_0, .string x2_0, .int .i64 x3_0, .string x4_0, .string x5_0, .int .i64 x6_0]) (seg := [.int .i64 x1_0, .string x2_0, .int .i64 x3_0, .string x4_0, .string x5_0, .int .i64 x6_0]) rfl (p := .tmp 7) (x := .tmp 49) rfl rfl r1_ r1_ r1_ HY.out k1_ s1_ h1_ rfl ?_; intro wd0 hz hup; have HN := Aside0.mk (HN2.out.upd hup HF.out.1 HF.out.2.1 HF.out.2.2.1 HF.out.2.2.2.1 HF.out.2.2.2.2); have HZ := Aside0.mk hz; clear HN2 HY hz hup) | ((with_reducible refine gate_store (t := 3) (p := 53) rfl ?_); refine store_seg (gy := gy) (j := 5) (T := 3) (TB := 50) (cs := #[.int .i64 x1_0, .string x2_0, .int .i64 x3_0, .string x4_0, .string x5_0, .int .i64 x6_0]) (new := #[.int .i64 x1_0, .string x2_0, .int .i64 x3_0, .string x4_0, .string x5_0, .int .i64 a1]) (u := .int .i64 a1) (seg := [.int .i64 a1]) rfl (p := .tmp 53) (x := .tmp 52) rfl rfl r1_ r1_ r1_ HZ.out k1_ s1_ h1_ rfl ?_; intro we0 hz hup; have HN3 := Aside0.mk (HN.out.upd hup HF.out.1 HF.out.2.1 HF.out.2.2.1 HF.out.2.2.2.1 HF.out.2.2.2.2); have HZ2 := Aside0.mk hz; clear HN HZ hup; have hl0_ := (blk_cell hz 0).trans (show _ = some (.int .i64 x1_0) from rfl); have hl1_ := (blk_cell hz 1).trans (show _ = some (.string x2_0) from rfl); have hl2_ := (blk_cell hz 2).trans (show _ = some (.int .i64 x3_0) from rfl); have hl3_ := (blk_cell hz 3).trans (show _ = some (.string x4_0) from rfl); have hl4_ := (blk_cell hz 4).trans (show _ = some (.string x5_0) from rfl); have hl5_ := (blk_cell hz 5).trans (show _ = some (.int .i64 a1) from rfl); clear hz) | ((with_reducible refine gate_store (t := 50) (p := 2) rfl ?_); refine store_seg (gy := gb) (j := 0) (T := 50) (TB := 50) (cs := #[.int .i64 0, .string (⟨#[]⟩ : ByteArray), .int .i64 0, .string (⟨#[]⟩ : ByteArray), .string (⟨#[]⟩ : ByteArray), .int .i64 0]) (new := #[.int .i64 x1_0, .string x2_0, .int .i64 x3_0, .string x4_0, .string x5_0, .int .i64 a1]) (u := .agg #[.int .i64 x1_0, .string x2_0, .int .i64 x3_0, .string x4_0, .string x5_0, .int .i64 a1]) (seg := [.int .i64 x1_0, .string x2_0, .int .i64 x3_0, .string x4_0, .string x5_0, .int .i64 a1]) rfl (p := .tmp 2) (x := .tmp 54) rfl rfl r1_ r1_ r1_ HN3.out.res k1_ s1_ h1_ rfl ?_; intro wf0 hz hup; have HN4 := Aside0.mk (HN3.out.fill hup (Nat.le_trans HW0.out HN3.out.gbw) hz); clear HN3 hz hup))
   refine bodyPost_ret (results_ct rfl _ _ gb 50 #[.int .i64 x1_0, .string x2_0, .int .i64 x3_0, .string x4_0, .string x5_0, .int .i64 a1] (0, 0) _ rfl HN4.out.res Tryz.underlying50 rfl k1_) rfl ?_
   exact ⟨rfl, HN4.out.st, HN4.out.below, HN4.out.keep⟩
  | false =>
   rw [if_neg (by decide)] at H
   try simp only at H
   rw [rounds_succ]
   go_wp2_with (first | (go_at_call 63; refine (lex_scanner_iri.calls k g s1 a1 x1_0 x2_0 x3_0 x4_0 x5_0 x6_0 false x8_0 x9_0 w0 _ HN.out.st HN.out.below AR.out).mono ?_; rintro e wa0 ⟨rfl, h1, h2, h3⟩; have HN1 := Aside0.mk (HN.out.call h1 h2 h3); clear HN h1 h2 h3) | ((with_reducible refine gate_dst (N := 7) rfl ?_); refine box_event r1_ (N := 7) r1_ (cs := #[.int .i64 0, .string (⟨#[]⟩ : ByteArray), .int .i64 0, .string (⟨#[]⟩ : ByteArray), .string (⟨#[]⟩ : ByteArray), .int .i64 0]) (t := 50) r2_ ?_; intro gy hgy wb0 hbox hb; have HN2 := Aside0.mk (HN1.out.lower hb); have HY := Aside0.mk hbox; have HF := Aside0.mk (show w0.heap.size ≤ gy ∧ w.heap.size ≤ gy ∧ gy ≠ g ∧ gy ≠ gb ∧ gy ≠ gs from ⟨by rw [hgy]; exact HN1.out.below.size, by rw [hgy]; exact HN1.out.keep.1, by have G0 := HN1; exact z12_, by have G0 := HN1; exact z13_, by have G0 := HN1; exact z14_⟩); clear HN1 hgy hbox hb) | ((with_reducible refine gate_store (t := 50) (p := 7) rfl ?_); refine store_seg (gy := gy) (j := 0) (T := 50) (TB := 50) (cs := #[.int .i64 0, .string (⟨#[]⟩ : ByteArray), .int .i64 0, .string (⟨#[]⟩ : ByteArray), .string (⟨#[]⟩ : ByteArray), .int .i64 0]) (new := #[.int .i64 x1_0, .string x2_0, .int .i64 x3_0, .string x4_0, .string x5_0, .int .i64 x6_0]) (u := .agg #[.int .i64 x1_0, .string x2_0, .int .i64 x3_0, .string x4_0, .string x5_0, .int .i64 x6_0]) (seg := [.int .i64 x1_0, .string x2_0, .int .i64 x3_0, .string x4_0, .string x5_0, .int .i64 x6_0]) rfl (p := .tmp 7) (x := .tmp 49) rfl rfl r1_ r1_ r1_ HY.out k1_ s1_ h1_ rfl ?_; intro wd0 hz hup; have HN := Aside0.mk (HN2.out.upd hup HF.out.1 HF.out.2.1 HF.out.2.2.1 HF.out.2.2.2.1 HF.out.2.2.2.2); have HZ := Aside0.mk hz; clear HN2 HY hz hup))
   clear HZ HF hf_ AR
   obtain ⟨⟨x1_1, x2_1, x3_1, x4_1, x5_1, x6_1, x7_1, x8_1, x9_1⟩, A, H⟩ := Option.bind_eq_some_iff.mp H
   try simp only at H
   have AR := Aside0.mk A
   clear A
   have hf_ : wd0.cell? ⟨gs, 1, none⟩ = some (.func (.func 64) #[.pointer (some ⟨g, 0, none⟩)] #[]) := (blk_cell HN.out.rows 1).trans rfl
   cases x7_1 with
   | true =>
    rw [if_pos rfl] at H
    simp only [Option.some.injEq, Prod.mk.injEq] at H
    obtain ⟨rfl, rfl, rfl, rfl, rfl, rfl, rfl, rfl, rfl⟩ := H
    rw [rounds_succ]
    go_wp2_with (first | (go_at_call 64; refine (lex_scanner_blank.calls k g x8_0 x9_0 x1_1 x2_1 x3_1 x4_1 x5_1 x6_1 true x8_1 x9_1 w0 _ HN.out.st HN.out.below AR.out).mono ?_; rintro e wa1 ⟨rfl, h1, h2, h3⟩; have HN1 := Aside0.mk (HN.out.call h1 h2 h3); clear HN h1 h2 h3) | ((with_reducible refine gate_dst (N := 7) rfl ?_); refine box_event r1_ (N := 7) r1_ (cs := #[.int .i64 0, .string (⟨#[]⟩ : ByteArray), .int .i64 0, .string (⟨#[]⟩ : ByteArray), .string (⟨#[]⟩ : ByteArray), .int .i64 0]) (t := 50) r2_ ?_; intro gy hgy wb1 hbox hb; have HN2 := Aside0.mk (HN1.out.lower hb); have HY := Aside0.mk hbox; have HF := Aside0.mk (show w0.heap.size ≤ gy ∧ w.heap.size ≤ gy ∧ gy ≠ g ∧ gy ≠ gb ∧ gy ≠ gs from ⟨by rw [hgy]; exact HN1.out.below.size, by rw [hgy]; exact HN1.out.keep.1, by have G0 := HN1; exact z12_, by have G0 := HN1; exact z13_, by have G0 := HN1; exact z14_⟩); clear HN1 hgy hbox hb) | ((with_reducible refine gate_store (t := 50) (p := 7) rfl ?_); refine store_seg (gy := gy) (j := 0) (T := 50) (TB := 50) (cs := #[.int .i64 0, .string (⟨#[]⟩ : ByteArray), .int .i64 0, .string (⟨#[]⟩ : ByteArray), .string (⟨#[]⟩ : ByteArray), .int .i64 0]) (new := #[.int .i64 x1_1, .string x2_1, .int .i64 x3_1, .string x4_1, .string x5_1, .int .i64 x6_1]) (u := .agg #[.int .i64 x1_1, .string x2_1, .int .i64 x3_1, .string x4_1, .string x5_1, .int .i64 x6_1]) (seg := [.int .i64 x1_1, .string x2_1, .int .i64 x3_1, .string x4_1, .string x5_1, .int .i64 x6_1]) rfl (p := .tmp 7) (x := .tmp 49) rfl rfl r1_ r1_ r1_ HY.out k1_ s1_ h1_ rfl ?_; intro wd1 hz hup; have HN := Aside0.mk (HN2.out.upd hup HF.out.1 HF.out.2.1 HF.out.2.2.1 HF.out.2.2.2.1 HF.out.2.2.2.2); have HZ := Aside0.mk hz; clear HN2 HY hz hup) | ((with_reducible refine gate_store (t := 3) (p := 53) rfl ?_); refine store_seg (gy := gy) (j := 5) (T := 3) (TB := 50) (cs := #[.int .i64 x1_1, .string x2_1, .int .i64 x3_1, .string x4_1, .string x5_1, .int .i64 x6_1]) (new := #[.int .i64 x1_1, .string x2_1, .int .i64 x3_1, .string x4_1, .string x5_1, .int .i64 a1]) (u := .int .i64 a1) (seg := [.int .i64 a1]) rfl (p := .tmp 53) (x := .tmp 52) rfl rfl r1_ r1_ r1_ HZ.out k1_ s1_ h1_ rfl ?_; intro we1 hz hup; have HN3 := Aside0.mk (HN.out.upd hup HF.out.1 HF.out.2.1 HF.out.2.2.1 HF.out.2.2.2.1 HF.out.2.2.2.2); have HZ2 := Aside0.mk hz; clear HN HZ hup; have hl0_ := (blk_cell hz 0).trans (show _ = some (.int .i64 x1_1) from rfl); have hl1_ := (blk_cell hz 1).trans (show _ = some (.string x2_1) from rfl); have hl2_ := (blk_cell hz 2).trans (show _ = some (.int .i64 x3_1) from rfl); have hl3_ := (blk_cell hz 3).trans (show _ = some (.string x4_1) from rfl); have hl4_ := (blk_cell hz 4).trans (show _ = some (.string x5_1) from rfl); have hl5_ := (blk_cell hz 5).trans (show _ = some (.int .i64 a1) from rfl); clear hz) | ((with_reducible refine gate_store (t := 50) (p := 2) rfl ?_); refine store_seg (gy := gb) (j := 0) (T := 50) (TB := 50) (cs := #[.int .i64 0, .string (⟨#[]⟩ : ByteArray), .int .i64 0, .string (⟨#[]⟩ : ByteArray), .string (⟨#[]⟩ : ByteArray), .int .i64 0]) (new := #[.int .i64 x1_1, .string x2_1, .int .i64 x3_1, .string x4_1, .string x5_1, .int .i64 a1]) (u := .agg #[.int .i64 x1_1, .string x2_1, .int .i64 x3_1, .string x4_1, .string x5_1, .int .i64 a1]) (seg := [.int .i64 x1_1, .string x2_1, .int .i64 x3_1, .string x4_1, .string x5_1, .int .i64 a1]) rfl (p := .tmp 2) (x := .tmp 54) rfl rfl r1_ r1_ r1_ HN3.out.res k1_ s1_ h1_ rfl ?_; intro wf1 hz hup; have HN4 := Aside0.mk (HN3.out.fill hup (Nat.le_trans HW0.out HN3.out.gbw) hz); clear HN3 hz hup))
    refine bodyPost_ret (results_ct rfl _ _ gb 50 #[.int .i64 x1_1, .string x2_1, .int .i64 x3_1, .string x4_1, .string x5_1, .int .i64 a1] (0, 0) _ rfl HN4.out.res Tryz.underlying50 rfl k1_) rfl ?_
    exact ⟨rfl, HN4.out.st, HN4.out.below, HN4.out.keep⟩
   | false =>
    rw [if_neg (by decide)] at H
    try simp only at H
    rw [rounds_succ]
    go_wp2_with (first | (go_at_call 64; refine (lex_scanner_blank.calls k g x8_0 x9_0 x1_1 x2_1 x3_1 x4_1 x5_1 x6_1 false x8_1 x9_1 w0 _ HN.out.st HN.out.below AR.out).mono ?_; rintro e wa1 ⟨rfl, h1, h2, h3⟩; have HN1 := Aside0.mk (HN.out.call h1 h2 h3); clear HN h1 h2 h3) | ((with_reducible refine gate_dst (N := 7) rfl ?_); refine box_event r1_ (N := 7) r1_ (cs := #[.int .i64 0, .string (⟨#[]⟩ : ByteArray), .int .i64 0, .string (⟨#[]⟩ : ByteArray), .string (⟨#[]⟩ : ByteArray), .int .i64 0]) (t := 50) r2_ ?_; intro gy hgy wb1 hbox hb; have HN2 := Aside0.mk (HN1.out.lower hb); have HY := Aside0.mk hbox; have HF := Aside0.mk (show w0.heap.size ≤ gy ∧ w.heap.size ≤ gy ∧ gy ≠ g ∧ gy ≠ gb ∧ gy ≠ gs from ⟨by rw [hgy]; exact HN1.out.below.size, by rw [hgy]; exact HN1.out.keep.1, by have G0 := HN1; exact z12_, by have G0 := HN1; exact z13_, by have G0 := HN1; exact z14_⟩); clear HN1 hgy hbox hb) | ((with_reducible refine gate_store (t := 50) (p := 7) rfl ?_); refine store_seg (gy := gy) (j := 0) (T := 50) (TB := 50) (cs := #[.int .i64 0, .string (⟨#[]⟩ : ByteArray), .int .i64 0, .string (⟨#[]⟩ : ByteArray), .string (⟨#[]⟩ : ByteArray), .int .i64 0]) (new := #[.int .i64 x1_1, .string x2_1, .int .i64 x3_1, .string x4_1, .string x5_1, .int .i64 x6_1]) (u := .agg #[.int .i64 x1_1, .string x2_1, .int .i64 x3_1, .string x4_1, .string x5_1, .int .i64 x6_1]) (seg := [.int .i64 x1_1, .string x2_1, .int .i64 x3_1, .string x4_1, .string x5_1, .int .i64 x6_1]) rfl (p := .tmp 7) (x := .tmp 49) rfl rfl r1_ r1_ r1_ HY.out k1_ s1_ h1_ rfl ?_; intro wd1 hz hup; have HN := Aside0.mk (HN2.out.upd hup HF.out.1 HF.out.2.1 HF.out.2.2.1 HF.out.2.2.2.1 HF.out.2.2.2.2); have HZ := Aside0.mk hz; clear HN2 HY hz hup))
    clear HZ HF hf_ AR
    obtain ⟨⟨x1_2, x2_2, x3_2, x4_2, x5_2, x6_2, x7_2, x8_2, x9_2⟩, A, H⟩ := Option.bind_eq_some_iff.mp H
    try simp only at H
    have AR := Aside0.mk A
    clear A
    have hf_ : wd1.cell? ⟨gs, 2, none⟩ = some (.func (.func 65) #[.pointer (some ⟨g, 0, none⟩)] #[]) := (blk_cell HN.out.rows 2).trans rfl
    cases x7_2 with
    | true =>
     rw [if_pos rfl] at H
     simp only [Option.some.injEq, Prod.mk.injEq] at H
     obtain ⟨rfl, rfl, rfl, rfl, rfl, rfl, rfl, rfl, rfl⟩ := H
     rw [rounds_succ]
     go_wp2_with (first | (go_at_call 65; refine (lex_scanner_text.calls k g x8_1 x9_1 x1_2 x2_2 x3_2 x4_2 x5_2 x6_2 true x8_2 x9_2 w0 _ HN.out.st HN.out.below AR.out).mono ?_; rintro e wa2 ⟨rfl, h1, h2, h3⟩; have HN1 := Aside0.mk (HN.out.call h1 h2 h3); clear HN h1 h2 h3) | ((with_reducible refine gate_dst (N := 7) rfl ?_); refine box_event r1_ (N := 7) r1_ (cs := #[.int .i64 0, .string (⟨#[]⟩ : ByteArray), .int .i64 0, .string (⟨#[]⟩ : ByteArray), .string (⟨#[]⟩ : ByteArray), .int .i64 0]) (t := 50) r2_ ?_; intro gy hgy wb2 hbox hb; have HN2 := Aside0.mk (HN1.out.lower hb); have HY := Aside0.mk hbox; have HF := Aside0.mk (show w0.heap.size ≤ gy ∧ w.heap.size ≤ gy ∧ gy ≠ g ∧ gy ≠ gb ∧ gy ≠ gs from ⟨by rw [hgy]; exact HN1.out.below.size, by rw [hgy]; exact HN1.out.keep.1, by have G0 := HN1; exact z12_, by have G0 := HN1; exact z13_, by have G0 := HN1; exact z14_⟩); clear HN1 hgy hbox hb) | ((with_reducible refine gate_store (t := 50) (p := 7) rfl ?_); refine store_seg (gy := gy) (j := 0) (T := 50) (TB := 50) (cs := #[.int .i64 0, .string (⟨#[]⟩ : ByteArray), .int .i64 0, .string (⟨#[]⟩ : ByteArray), .string (⟨#[]⟩ : ByteArray), .int .i64 0]) (new := #[.int .i64 x1_2, .string x2_2, .int .i64 x3_2, .string x4_2, .string x5_2, .int .i64 x6_2]) (u := .agg #[.int .i64 x1_2, .string x2_2, .int .i64 x3_2, .string x4_2, .string x5_2, .int .i64 x6_2]) (seg := [.int .i64 x1_2, .string x2_2, .int .i64 x3_2, .string x4_2, .string x5_2, .int .i64 x6_2]) rfl (p := .tmp 7) (x := .tmp 49) rfl rfl r1_ r1_ r1_ HY.out k1_ s1_ h1_ rfl ?_; intro wd2 hz hup; have HN := Aside0.mk (HN2.out.upd hup HF.out.1 HF.out.2.1 HF.out.2.2.1 HF.out.2.2.2.1 HF.out.2.2.2.2); have HZ := Aside0.mk hz; clear HN2 HY hz hup) | ((with_reducible refine gate_store (t := 3) (p := 53) rfl ?_); refine store_seg (gy := gy) (j := 5) (T := 3) (TB := 50) (cs := #[.int .i64 x1_2, .string x2_2, .int .i64 x3_2, .string x4_2, .string x5_2, .int .i64 x6_2]) (new := #[.int .i64 x1_2, .string x2_2, .int .i64 x3_2, .string x4_2, .string x5_2, .int .i64 a1]) (u := .int .i64 a1) (seg := [.int .i64 a1]) rfl (p := .tmp 53) (x := .tmp 52) rfl rfl r1_ r1_ r1_ HZ.out k1_ s1_ h1_ rfl ?_; intro we2 hz hup; have HN3 := Aside0.mk (HN.out.upd hup HF.out.1 HF.out.2.1 HF.out.2.2.1 HF.out.2.2.2.1 HF.out.2.2.2.2); have HZ2 := Aside0.mk hz; clear HN HZ hup; have hl0_ := (blk_cell hz 0).trans (show _ = some (.int .i64 x1_2) from rfl); have hl1_ := (blk_cell hz 1).trans (show _ = some (.string x2_2) from rfl); have hl2_ := (blk_cell hz 2).trans (show _ = some (.int .i64 x3_2) from rfl); have hl3_ := (blk_cell hz 3).trans (show _ = some (.string x4_2) from rfl); have hl4_ := (blk_cell hz 4).trans (show _ = some (.string x5_2) from rfl); have hl5_ := (blk_cell hz 5).trans (show _ = some (.int .i64 a1) from rfl); clear hz) | ((with_reducible refine gate_store (t := 50) (p := 2) rfl ?_); refine store_seg (gy := gb) (j := 0) (T := 50) (TB := 50) (cs := #[.int .i64 0, .string (⟨#[]⟩ : ByteArray), .int .i64 0, .string (⟨#[]⟩ : ByteArray), .string (⟨#[]⟩ : ByteArray), .int .i64 0]) (new := #[.int .i64 x1_2, .string x2_2, .int .i64 x3_2, .string x4_2, .string x5_2, .int .i64 a1]) (u := .agg #[.int .i64 x1_2, .string x2_2, .int .i64 x3_2, .string x4_2, .string x5_2, .int .i64 a1]) (seg := [.int .i64 x1_2, .string x2_2, .int .i64 x3_2, .string x4_2, .string x5_2, .int .i64 a1]) rfl (p := .tmp 2) (x := .tmp 54) rfl rfl r1_ r1_ r1_ HN3.out.res k1_ s1_ h1_ rfl ?_; intro wf2 hz hup; have HN4 := Aside0.mk (HN3.out.fill hup (Nat.le_trans HW0.out HN3.out.gbw) hz); clear HN3 hz hup))
     refine bodyPost_ret (results_ct rfl _ _ gb 50 #[.int .i64 x1_2, .string x2_2, .int .i64 x3_2, .string x4_2, .string x5_2, .int .i64 a1] (0, 0) _ rfl HN4.out.res Tryz.underlying50 rfl k1_) rfl ?_
     exact ⟨rfl, HN4.out.st, HN4.out.below, HN4.out.keep⟩
    | false =>
     rw [if_neg (by decide)] at H
     try simp only at H
     rw [rounds_succ]
     go_wp2_with (first | (go_at_call 65; refine (lex_scanner_text.calls k g x8_1 x9_1 x1_2 x2_2 x3_2 x4_2 x5_2 x6_2 false x8_2 x9_2 w0 _ HN.out.st HN.out.below AR.out).mono ?_; rintro e wa2 ⟨rfl, h1, h2, h3⟩; have HN1 := Aside0.mk (HN.out.call h1 h2 h3); clear HN h1 h2 h3) | ((with_reducible refine gate_dst (N := 7) rfl ?_); refine box_event r1_ (N := 7) r1_ (cs := #[.int .i64 0, .string (⟨#[]⟩ : ByteArray), .int .i64 0, .string (⟨#[]⟩ : ByteArray), .string (⟨#[]⟩ : ByteArray), .int .i64 0]) (t := 50) r2_ ?_; intro gy hgy wb2 hbox hb; have HN2 := Aside0.mk (HN1.out.lower hb); have HY := Aside0.mk hbox; have HF := Aside0.mk (show w0.heap.size ≤ gy ∧ w.heap.size ≤ gy ∧ gy ≠ g ∧ gy ≠ gb ∧ gy ≠ gs from ⟨by rw [hgy]; exact HN1.out.below.size, by rw [hgy]; exact HN1.out.keep.1, by have G0 := HN1; exact z12_, by have G0 := HN1; exact z13_, by have G0 := HN1; exact z14_⟩); clear HN1 hgy hbox hb) | ((with_reducible refine gate_store (t := 50) (p := 7) rfl ?_); refine store_seg (gy := gy) (j := 0) (T := 50) (TB := 50) (cs := #[.int .i64 0, .string (⟨#[]⟩ : ByteArray), .int .i64 0, .string (⟨#[]⟩ : ByteArray), .string (⟨#[]⟩ : ByteArray), .int .i64 0]) (new := #[.int .i64 x1_2, .string x2_2, .int .i64 x3_2, .string x4_2, .string x5_2, .int .i64 x6_2]) (u := .agg #[.int .i64 x1_2, .string x2_2, .int .i64 x3_2, .string x4_2, .string x5_2, .int .i64 x6_2]) (seg := [.int .i64 x1_2, .string x2_2, .int .i64 x3_2, .string x4_2, .string x5_2, .int .i64 x6_2]) rfl (p := .tmp 7) (x := .tmp 49) rfl rfl r1_ r1_ r1_ HY.out k1_ s1_ h1_ rfl ?_; intro wd2 hz hup; have HN := Aside0.mk (HN2.out.upd hup HF.out.1 HF.out.2.1 HF.out.2.2.1 HF.out.2.2.2.1 HF.out.2.2.2.2); have HZ := Aside0.mk hz; clear HN2 HY hz hup))
     clear HZ HF hf_ AR
     obtain ⟨⟨x1_3, x2_3, x3_3, x4_3, x5_3, x6_3, x7_3, x8_3, x9_3⟩, A, H⟩ := Option.bind_eq_some_iff.mp H
     try simp only at H
     have AR := Aside0.mk A
     clear A
     have hf_ : wd2.cell? ⟨gs, 3, none⟩ = some (.func (.func 66) #[.pointer (some ⟨g, 0, none⟩)] #[]) := (blk_cell HN.out.rows 3).trans rfl
     cases x7_3 with
     | true =>
      rw [if_pos rfl] at H
      simp only [Option.some.injEq, Prod.mk.injEq] at H
      obtain ⟨rfl, rfl, rfl, rfl, rfl, rfl, rfl, rfl, rfl⟩ := H
      rw [rounds_succ]
      go_wp2_with (first | (go_at_call 66; refine (lex_scanner_lang.calls k g x8_2 x9_2 x1_3 x2_3 x3_3 x4_3 x5_3 x6_3 true x8_3 x9_3 w0 _ HN.out.st HN.out.below AR.out).mono ?_; rintro e wa3 ⟨rfl, h1, h2, h3⟩; have HN1 := Aside0.mk (HN.out.call h1 h2 h3); clear HN h1 h2 h3) | ((with_reducible refine gate_dst (N := 7) rfl ?_); refine box_event r1_ (N := 7) r1_ (cs := #[.int .i64 0, .string (⟨#[]⟩ : ByteArray), .int .i64 0, .string (⟨#[]⟩ : ByteArray), .string (⟨#[]⟩ : ByteArray), .int .i64 0]) (t := 50) r2_ ?_; intro gy hgy wb3 hbox hb; have HN2 := Aside0.mk (HN1.out.lower hb); have HY := Aside0.mk hbox; have HF := Aside0.mk (show w0.heap.size ≤ gy ∧ w.heap.size ≤ gy ∧ gy ≠ g ∧ gy ≠ gb ∧ gy ≠ gs from ⟨by rw [hgy]; exact HN1.out.below.size, by rw [hgy]; exact HN1.out.keep.1, by have G0 := HN1; exact z12_, by have G0 := HN1; exact z13_, by have G0 := HN1; exact z14_⟩); clear HN1 hgy hbox hb) | ((with_reducible refine gate_store (t := 50) (p := 7) rfl ?_); refine store_seg (gy := gy) (j := 0) (T := 50) (TB := 50) (cs := #[.int .i64 0, .string (⟨#[]⟩ : ByteArray), .int .i64 0, .string (⟨#[]⟩ : ByteArray), .string (⟨#[]⟩ : ByteArray), .int .i64 0]) (new := #[.int .i64 x1_3, .string x2_3, .int .i64 x3_3, .string x4_3, .string x5_3, .int .i64 x6_3]) (u := .agg #[.int .i64 x1_3, .string x2_3, .int .i64 x3_3, .string x4_3, .string x5_3, .int .i64 x6_3]) (seg := [.int .i64 x1_3, .string x2_3, .int .i64 x3_3, .string x4_3, .string x5_3, .int .i64 x6_3]) rfl (p := .tmp 7) (x := .tmp 49) rfl rfl r1_ r1_ r1_ HY.out k1_ s1_ h1_ rfl ?_; intro wd3 hz hup; have HN := Aside0.mk (HN2.out.upd hup HF.out.1 HF.out.2.1 HF.out.2.2.1 HF.out.2.2.2.1 HF.out.2.2.2.2); have HZ := Aside0.mk hz; clear HN2 HY hz hup) | ((with_reducible refine gate_store (t := 3) (p := 53) rfl ?_); refine store_seg (gy := gy) (j := 5) (T := 3) (TB := 50) (cs := #[.int .i64 x1_3, .string x2_3, .int .i64 x3_3, .string x4_3, .string x5_3, .int .i64 x6_3]) (new := #[.int .i64 x1_3, .string x2_3, .int .i64 x3_3, .string x4_3, .string x5_3, .int .i64 a1]) (u := .int .i64 a1) (seg := [.int .i64 a1]) rfl (p := .tmp 53) (x := .tmp 52) rfl rfl r1_ r1_ r1_ HZ.out k1_ s1_ h1_ rfl ?_; intro we3 hz hup; have HN3 := Aside0.mk (HN.out.upd hup HF.out.1 HF.out.2.1 HF.out.2.2.1 HF.out.2.2.2.1 HF.out.2.2.2.2); have HZ2 := Aside0.mk hz; clear HN HZ hup; have hl0_ := (blk_cell hz 0).trans (show _ = some (.int .i64 x1_3) from rfl); have hl1_ := (blk_cell hz 1).trans (show _ = some (.string x2_3) from rfl); have hl2_ := (blk_cell hz 2).trans (show _ = some (.int .i64 x3_3) from rfl); have hl3_ := (blk_cell hz 3).trans (show _ = some (.string x4_3) from rfl); have hl4_ := (blk_cell hz 4).trans (show _ = some (.string x5_3) from rfl); have hl5_ := (blk_cell hz 5).trans (show _ = some (.int .i64 a1) from rfl); clear hz) | ((with_reducible refine gate_store (t := 50) (p := 2) rfl ?_); refine store_seg (gy := gb) (j := 0) (T := 50) (TB := 50) (cs := #[.int .i64 0, .string (⟨#[]⟩ : ByteArray), .int .i64 0, .string (⟨#[]⟩ : ByteArray), .string (⟨#[]⟩ : ByteArray), .int .i64 0]) (new := #[.int .i64 x1_3, .string x2_3, .int .i64 x3_3, .string x4_3, .string x5_3, .int .i64 a1]) (u := .agg #[.int .i64 x1_3, .string x2_3, .int .i64 x3_3, .string x4_3, .string x5_3, .int .i64 a1]) (seg := [.int .i64 x1_3, .string x2_3, .int .i64 x3_3, .string x4_3, .string x5_3, .int .i64 a1]) rfl (p := .tmp 2) (x := .tmp 54) rfl rfl r1_ r1_ r1_ HN3.out.res k1_ s1_ h1_ rfl ?_; intro wf3 hz hup; have HN4 := Aside0.mk (HN3.out.fill hup (Nat.le_trans HW0.out HN3.out.gbw) hz); clear HN3 hz hup))
      refine bodyPost_ret (results_ct rfl _ _ gb 50 #[.int .i64 x1_3, .string x2_3, .int .i64 x3_3, .string x4_3, .string x5_3, .int .i64 a1] (0, 0) _ rfl HN4.out.res Tryz.underlying50 rfl k1_) rfl ?_
      exact ⟨rfl, HN4.out.st, HN4.out.below, HN4.out.keep⟩
     | false =>
      rw [if_neg (by decide)] at H
      try simp only at H
      rw [rounds_succ]
      go_wp2_with (first | (go_at_call 66; refine (lex_scanner_lang.calls k g x8_2 x9_2 x1_3 x2_3 x3_3 x4_3 x5_3 x6_3 false x8_3 x9_3 w0 _ HN.out.st HN.out.below AR.out).mono ?_; rintro e wa3 ⟨rfl, h1, h2, h3⟩; have HN1 := Aside0.mk (HN.out.call h1 h2 h3); clear HN h1 h2 h3) | ((with_reducible refine gate_dst (N := 7) rfl ?_); refine box_event r1_ (N := 7) r1_ (cs := #[.int .i64 0, .string (⟨#[]⟩ : ByteArray), .int .i64 0, .string (⟨#[]⟩ : ByteArray), .string (⟨#[]⟩ : ByteArray), .int .i64 0]) (t := 50) r2_ ?_; intro gy hgy wb3 hbox hb; have HN2 := Aside0.mk (HN1.out.lower hb); have HY := Aside0.mk hbox; have HF := Aside0.mk (show w0.heap.size ≤ gy ∧ w.heap.size ≤ gy ∧ gy ≠ g ∧ gy ≠ gb ∧ gy ≠ gs from ⟨by rw [hgy]; exact HN1.out.below.size, by rw [hgy]; exact HN1.out.keep.1, by have G0 := HN1; exact z12_, by have G0 := HN1; exact z13_, by have G0 := HN1; exact z14_⟩); clear HN1 hgy hbox hb) | ((with_reducible refine gate_store (t := 50) (p := 7) rfl ?_); refine store_seg (gy := gy) (j := 0) (T := 50) (TB := 50) (cs := #[.int .i64 0, .string (⟨#[]⟩ : ByteArray), .int .i64 0, .string (⟨#[]⟩ : ByteArray), .string (⟨#[]⟩ : ByteArray), .int .i64 0]) (new := #[.int .i64 x1_3, .string x2_3, .int .i64 x3_3, .string x4_3, .string x5_3, .int .i64 x6_3]) (u := .agg #[.int .i64 x1_3, .string x2_3, .int .i64 x3_3, .string x4_3, .string x5_3, .int .i64 x6_3]) (seg := [.int .i64 x1_3, .string x2_3, .int .i64 x3_3, .string x4_3, .string x5_3, .int .i64 x6_3]) rfl (p := .tmp 7) (x := .tmp 49) rfl rfl r1_ r1_ r1_ HY.out k1_ s1_ h1_ rfl ?_; intro wd3 hz hup; have HN := Aside0.mk (HN2.out.upd hup HF.out.1 HF.out.2.1 HF.out.2.2.1 HF.out.2.2.2.1 HF.out.2.2.2.2); have HZ := Aside0.mk hz; clear HN2 HY hz hup))
      clear HZ HF hf_ AR
      obtain ⟨⟨x1_4, x2_4, x3_4, x4_4, x5_4, x6_4, x7_4, x8_4, x9_4⟩, A, H⟩ := Option.bind_eq_some_iff.mp H
      try simp only at H
      have AR := Aside0.mk A
      clear A
      have hf_ : wd3.cell? ⟨gs, 4, none⟩ = some (.func (.func 67) #[.pointer (some ⟨g, 0, none⟩)] #[]) := (blk_cell HN.out.rows 4).trans rfl
      cases x7_4 with
      | true =>
       rw [if_pos rfl] at H
       simp only [Option.some.injEq, Prod.mk.injEq] at H
       obtain ⟨rfl, rfl, rfl, rfl, rfl, rfl, rfl, rfl, rfl⟩ := H
       rw [rounds_succ]
       go_wp2_with (first | (go_at_call 67; refine (lex_scanner_variable.calls g x8_3 x9_3 x1_4 x2_4 x3_4 x4_4 x5_4 x6_4 true x8_4 x9_4 w0 _ HN.out.st HN.out.below AR.out).mono ?_; rintro e wa4 ⟨rfl, h1, h2, h3⟩; have HN1 := Aside0.mk (HN.out.call h1 h2 h3); clear HN h1 h2 h3) | ((with_reducible refine gate_dst (N := 7) rfl ?_); refine box_event r1_ (N := 7) r1_ (cs := #[.int .i64 0, .string (⟨#[]⟩ : ByteArray), .int .i64 0, .string (⟨#[]⟩ : ByteArray), .string (⟨#[]⟩ : ByteArray), .int .i64 0]) (t := 50) r2_ ?_; intro gy hgy wb4 hbox hb; have HN2 := Aside0.mk (HN1.out.lower hb); have HY := Aside0.mk hbox; have HF := Aside0.mk (show w0.heap.size ≤ gy ∧ w.heap.size ≤ gy ∧ gy ≠ g ∧ gy ≠ gb ∧ gy ≠ gs from ⟨by rw [hgy]; exact HN1.out.below.size, by rw [hgy]; exact HN1.out.keep.1, by have G0 := HN1; exact z12_, by have G0 := HN1; exact z13_, by have G0 := HN1; exact z14_⟩); clear HN1 hgy hbox hb) | ((with_reducible refine gate_store (t := 50) (p := 7) rfl ?_); refine store_seg (gy := gy) (j := 0) (T := 50) (TB := 50) (cs := #[.int .i64 0, .string (⟨#[]⟩ : ByteArray), .int .i64 0, .string (⟨#[]⟩ : ByteArray), .string (⟨#[]⟩ : ByteArray), .int .i64 0]) (new := #[.int .i64 x1_4, .string x2_4, .int .i64 x3_4, .string x4_4, .string x5_4, .int .i64 x6_4]) (u := .agg #[.int .i64 x1_4, .string x2_4, .int .i64 x3_4, .string x4_4, .string x5_4, .int .i64 x6_4]) (seg := [.int .i64 x1_4, .string x2_4, .int .i64 x3_4, .string x4_4, .string x5_4, .int .i64 x6_4]) rfl (p := .tmp 7) (x := .tmp 49) rfl rfl r1_ r1_ r1_ HY.out k1_ s1_ h1_ rfl ?_; intro wd4 hz hup; have HN := Aside0.mk (HN2.out.upd hup HF.out.1 HF.out.2.1 HF.out.2.2.1 HF.out.2.2.2.1 HF.out.2.2.2.2); have HZ := Aside0.mk hz; clear HN2 HY hz hup) | ((with_reducible refine gate_store (t := 3) (p := 53) rfl ?_); refine store_seg (gy := gy) (j := 5) (T := 3) (TB := 50) (cs := #[.int .i64 x1_4, .string x2_4, .int .i64 x3_4, .string x4_4, .string x5_4, .int .i64 x6_4]) (new := #[.int .i64 x1_4, .string x2_4, .int .i64 x3_4, .string x4_4, .string x5_4, .int .i64 a1]) (u := .int .i64 a1) (seg := [.int .i64 a1]) rfl (p := .tmp 53) (x := .tmp 52) rfl rfl r1_ r1_ r1_ HZ.out k1_ s1_ h1_ rfl ?_; intro we4 hz hup; have HN3 := Aside0.mk (HN.out.upd hup HF.out.1 HF.out.2.1 HF.out.2.2.1 HF.out.2.2.2.1 HF.out.2.2.2.2); have HZ2 := Aside0.mk hz; clear HN HZ hup; have hl0_ := (blk_cell hz 0).trans (show _ = some (.int .i64 x1_4) from rfl); have hl1_ := (blk_cell hz 1).trans (show _ = some (.string x2_4) from rfl); have hl2_ := (blk_cell hz 2).trans (show _ = some (.int .i64 x3_4) from rfl); have hl3_ := (blk_cell hz 3).trans (show _ = some (.string x4_4) from rfl); have hl4_ := (blk_cell hz 4).trans (show _ = some (.string x5_4) from rfl); have hl5_ := (blk_cell hz 5).trans (show _ = some (.int .i64 a1) from rfl); clear hz) | ((with_reducible refine gate_store (t := 50) (p := 2) rfl ?_); refine store_seg (gy := gb) (j := 0) (T := 50) (TB := 50) (cs := #[.int .i64 0, .string (⟨#[]⟩ : ByteArray), .int .i64 0, .string (⟨#[]⟩ : ByteArray), .string (⟨#[]⟩ : ByteArray), .int .i64 0]) (new := #[.int .i64 x1_4, .string x2_4, .int .i64 x3_4, .string x4_4, .string x5_4, .int .i64 a1]) (u := .agg #[.int .i64 x1_4, .string x2_4, .int .i64 x3_4, .string x4_4, .string x5_4, .int .i64 a1]) (seg := [.int .i64 x1_4, .string x2_4, .int .i64 x3_4, .string x4_4, .string x5_4, .int .i64 a1]) rfl (p := .tmp 2) (x := .tmp 54) rfl rfl r1_ r1_ r1_ HN3.out.res k1_ s1_ h1_ rfl ?_; intro wf4 hz hup; have HN4 := Aside0.mk (HN3.out.fill hup (Nat.le_trans HW0.out HN3.out.gbw) hz); clear HN3 hz hup))
       refine bodyPost_ret (results_ct rfl _ _ gb 50 #[.int .i64 x1_4, .string x2_4, .int .i64 x3_4, .string x4_4, .string x5_4, .int .i64 a1] (0, 0) _ rfl HN4.out.res Tryz.underlying50 rfl k1_) rfl ?_
       exact ⟨rfl, HN4.out.st, HN4.out.below, HN4.out.keep⟩
      | false =>
       rw [if_neg (by decide)] at H
       try simp only at H
       rw [rounds_succ]
       go_wp2_with (first | (go_at_call 67; refine (lex_scanner_variable.calls g x8_3 x9_3 x1_4 x2_4 x3_4 x4_4 x5_4 x6_4 false x8_4 x9_4 w0 _ HN.out.st HN.out.below AR.out).mono ?_; rintro e wa4 ⟨rfl, h1, h2, h3⟩; have HN1 := Aside0.mk (HN.out.call h1 h2 h3); clear HN h1 h2 h3) | ((with_reducible refine gate_dst (N := 7) rfl ?_); refine box_event r1_ (N := 7) r1_ (cs := #[.int .i64 0, .string (⟨#[]⟩ : ByteArray), .int .i64 0, .string (⟨#[]⟩ : ByteArray), .string (⟨#[]⟩ : ByteArray), .int .i64 0]) (t := 50) r2_ ?_; intro gy hgy wb4 hbox hb; have HN2 := Aside0.mk (HN1.out.lower hb); have HY := Aside0.mk hbox; have HF := Aside0.mk (show w0.heap.size ≤ gy ∧ w.heap.size ≤ gy ∧ gy ≠ g ∧ gy ≠ gb ∧ gy ≠ gs from ⟨by rw [hgy]; exact HN1.out.below.size, by rw [hgy]; exact HN1.out.keep.1, by have G0 := HN1; exact z12_, by have G0 := HN1; exact z13_, by have G0 := HN1; exact z14_⟩); clear HN1 hgy hbox hb) | ((with_reducible refine gate_store (t := 50) (p := 7) rfl ?_); refine store_seg (gy := gy) (j := 0) (T := 50) (TB := 50) (cs := #[.int .i64 0, .string (⟨#[]⟩ : ByteArray), .int .i64 0, .string (⟨#[]⟩ : ByteArray), .string (⟨#[]⟩ : ByteArray), .int .i64 0]) (new := #[.int .i64 x1_4, .string x2_4, .int .i64 x3_4, .string x4_4, .string x5_4, .int .i64 x6_4]) (u := .agg #[.int .i64 x1_4, .string x2_4, .int .i64 x3_4, .string x4_4, .string x5_4, .int .i64 x6_4]) (seg := [.int .i64 x1_4, .string x2_4, .int .i64 x3_4, .string x4_4, .string x5_4, .int .i64 x6_4]) rfl (p := .tmp 7) (x := .tmp 49) rfl rfl r1_ r1_ r1_ HY.out k1_ s1_ h1_ rfl ?_; intro wd4 hz hup; have HN := Aside0.mk (HN2.out.upd hup HF.out.1 HF.out.2.1 HF.out.2.2.1 HF.out.2.2.2.1 HF.out.2.2.2.2); have HZ := Aside0.mk hz; clear HN2 HY hz hup))
       clear HZ HF hf_ AR
       obtain ⟨⟨x1_5, x2_5, x3_5, x4_5, x5_5, x6_5, x7_5, x8_5, x9_5⟩, A, H⟩ := Option.bind_eq_some_iff.mp H
       try simp only at H
       have AR := Aside0.mk A
       clear A
       have hf_ : wd4.cell? ⟨gs, 5, none⟩ = some (.func (.func 68) #[.pointer (some ⟨g, 0, none⟩)] #[]) := (blk_cell HN.out.rows 5).trans rfl
       cases x7_5 with
       | true =>
        rw [if_pos rfl] at H
        simp only [Option.some.injEq, Prod.mk.injEq] at H
        obtain ⟨rfl, rfl, rfl, rfl, rfl, rfl, rfl, rfl, rfl⟩ := H
        rw [rounds_succ]
        go_wp2_with (first | (go_at_call 68; refine (lex_scanner_word.calls k g x8_4 x9_4 x1_5 x2_5 x3_5 x4_5 x5_5 x6_5 true x8_5 x9_5 w0 _ HN.out.st HN.out.below AR.out).mono ?_; rintro e wa5 ⟨rfl, h1, h2, h3⟩; have HN1 := Aside0.mk (HN.out.call h1 h2 h3); clear HN h1 h2 h3) | ((with_reducible refine gate_dst (N := 7) rfl ?_); refine box_event r1_ (N := 7) r1_ (cs := #[.int .i64 0, .string (⟨#[]⟩ : ByteArray), .int .i64 0, .string (⟨#[]⟩ : ByteArray), .string (⟨#[]⟩ : ByteArray), .int .i64 0]) (t := 50) r2_ ?_; intro gy hgy wb5 hbox hb; have HN2 := Aside0.mk (HN1.out.lower hb); have HY := Aside0.mk hbox; have HF := Aside0.mk (show w0.heap.size ≤ gy ∧ w.heap.size ≤ gy ∧ gy ≠ g ∧ gy ≠ gb ∧ gy ≠ gs from ⟨by rw [hgy]; exact HN1.out.below.size, by rw [hgy]; exact HN1.out.keep.1, by have G0 := HN1; exact z12_, by have G0 := HN1; exact z13_, by have G0 := HN1; exact z14_⟩); clear HN1 hgy hbox hb) | ((with_reducible refine gate_store (t := 50) (p := 7) rfl ?_); refine store_seg (gy := gy) (j := 0) (T := 50) (TB := 50) (cs := #[.int .i64 0, .string (⟨#[]⟩ : ByteArray), .int .i64 0, .string (⟨#[]⟩ : ByteArray), .string (⟨#[]⟩ : ByteArray), .int .i64 0]) (new := #[.int .i64 x1_5, .string x2_5, .int .i64 x3_5, .string x4_5, .string x5_5, .int .i64 x6_5]) (u := .agg #[.int .i64 x1_5, .string x2_5, .int .i64 x3_5, .string x4_5, .string x5_5, .int .i64 x6_5]) (seg := [.int .i64 x1_5, .string x2_5, .int .i64 x3_5, .string x4_5, .string x5_5, .int .i64 x6_5]) rfl (p := .tmp 7) (x := .tmp 49) rfl rfl r1_ r1_ r1_ HY.out k1_ s1_ h1_ rfl ?_; intro wd5 hz hup; have HN := Aside0.mk (HN2.out.upd hup HF.out.1 HF.out.2.1 HF.out.2.2.1 HF.out.2.2.2.1 HF.out.2.2.2.2); have HZ := Aside0.mk hz; clear HN2 HY hz hup) | ((with_reducible refine gate_store (t := 3) (p := 53) rfl ?_); refine store_seg (gy := gy) (j := 5) (T := 3) (TB := 50) (cs := #[.int .i64 x1_5, .string x2_5, .int .i64 x3_5, .string x4_5, .string x5_5, .int .i64 x6_5]) (new := #[.int .i64 x1_5, .string x2_5, .int .i64 x3_5, .string x4_5, .string x5_5, .int .i64 a1]) (u := .int .i64 a1) (seg := [.int .i64 a1]) rfl (p := .tmp 53) (x := .tmp 52) rfl rfl r1_ r1_ r1_ HZ.out k1_ s1_ h1_ rfl ?_; intro we5 hz hup; have HN3 := Aside0.mk (HN.out.upd hup HF.out.1 HF.out.2.1 HF.out.2.2.1 HF.out.2.2.2.1 HF.out.2.2.2.2); have HZ2 := Aside0.mk hz; clear HN HZ hup; have hl0_ := (blk_cell hz 0).trans (show _ = some (.int .i64 x1_5) from rfl); have hl1_ := (blk_cell hz 1).trans (show _ = some (.string x2_5) from rfl); have hl2_ := (blk_cell hz 2).trans (show _ = some (.int .i64 x3_5) from rfl); have hl3_ := (blk_cell hz 3).trans (show _ = some (.string x4_5) from rfl); have hl4_ := (blk_cell hz 4).trans (show _ = some (.string x5_5) from rfl); have hl5_ := (blk_cell hz 5).trans (show _ = some (.int .i64 a1) from rfl); clear hz) | ((with_reducible refine gate_store (t := 50) (p := 2) rfl ?_); refine store_seg (gy := gb) (j := 0) (T := 50) (TB := 50) (cs := #[.int .i64 0, .string (⟨#[]⟩ : ByteArray), .int .i64 0, .string (⟨#[]⟩ : ByteArray), .string (⟨#[]⟩ : ByteArray), .int .i64 0]) (new := #[.int .i64 x1_5, .string x2_5, .int .i64 x3_5, .string x4_5, .string x5_5, .int .i64 a1]) (u := .agg #[.int .i64 x1_5, .string x2_5, .int .i64 x3_5, .string x4_5, .string x5_5, .int .i64 a1]) (seg := [.int .i64 x1_5, .string x2_5, .int .i64 x3_5, .string x4_5, .string x5_5, .int .i64 a1]) rfl (p := .tmp 2) (x := .tmp 54) rfl rfl r1_ r1_ r1_ HN3.out.res k1_ s1_ h1_ rfl ?_; intro wf5 hz hup; have HN4 := Aside0.mk (HN3.out.fill hup (Nat.le_trans HW0.out HN3.out.gbw) hz); clear HN3 hz hup))
        refine bodyPost_ret (results_ct rfl _ _ gb 50 #[.int .i64 x1_5, .string x2_5, .int .i64 x3_5, .string x4_5, .string x5_5, .int .i64 a1] (0, 0) _ rfl HN4.out.res Tryz.underlying50 rfl k1_) rfl ?_
        exact ⟨rfl, HN4.out.st, HN4.out.below, HN4.out.keep⟩
       | false =>
        rw [if_neg (by decide)] at H
        try simp only at H
        rw [rounds_succ]
        go_wp2_with (first | (go_at_call 68; refine (lex_scanner_word.calls k g x8_4 x9_4 x1_5 x2_5 x3_5 x4_5 x5_5 x6_5 false x8_5 x9_5 w0 _ HN.out.st HN.out.below AR.out).mono ?_; rintro e wa5 ⟨rfl, h1, h2, h3⟩; have HN1 := Aside0.mk (HN.out.call h1 h2 h3); clear HN h1 h2 h3) | ((with_reducible refine gate_dst (N := 7) rfl ?_); refine box_event r1_ (N := 7) r1_ (cs := #[.int .i64 0, .string (⟨#[]⟩ : ByteArray), .int .i64 0, .string (⟨#[]⟩ : ByteArray), .string (⟨#[]⟩ : ByteArray), .int .i64 0]) (t := 50) r2_ ?_; intro gy hgy wb5 hbox hb; have HN2 := Aside0.mk (HN1.out.lower hb); have HY := Aside0.mk hbox; have HF := Aside0.mk (show w0.heap.size ≤ gy ∧ w.heap.size ≤ gy ∧ gy ≠ g ∧ gy ≠ gb ∧ gy ≠ gs from ⟨by rw [hgy]; exact HN1.out.below.size, by rw [hgy]; exact HN1.out.keep.1, by have G0 := HN1; exact z12_, by have G0 := HN1; exact z13_, by have G0 := HN1; exact z14_⟩); clear HN1 hgy hbox hb) | ((with_reducible refine gate_store (t := 50) (p := 7) rfl ?_); refine store_seg (gy := gy) (j := 0) (T := 50) (TB := 50) (cs := #[.int .i64 0, .string (⟨#[]⟩ : ByteArray), .int .i64 0, .string (⟨#[]⟩ : ByteArray), .string (⟨#[]⟩ : ByteArray), .int .i64 0]) (new := #[.int .i64 x1_5, .string x2_5, .int .i64 x3_5, .string x4_5, .string x5_5, .int .i64 x6_5]) (u := .agg #[.int .i64 x1_5, .string x2_5, .int .i64 x3_5, .string x4_5, .string x5_5, .int .i64 x6_5]) (seg := [.int .i64 x1_5, .string x2_5, .int .i64 x3_5, .string x4_5, .string x5_5, .int .i64 x6_5]) rfl (p := .tmp 7) (x := .tmp 49) rfl rfl r1_ r1_ r1_ HY.out k1_ s1_ h1_ rfl ?_; intro wd5 hz hup; have HN := Aside0.mk (HN2.out.upd hup HF.out.1 HF.out.2.1 HF.out.2.2.1 HF.out.2.2.2.1 HF.out.2.2.2.2); have HZ := Aside0.mk hz; clear HN2 HY hz hup))
        clear HZ HF hf_ AR
        obtain ⟨⟨x1_6, x2_6, x3_6, x4_6, x5_6, x6_6, x7_6, x8_6, x9_6⟩, A, H⟩ := Option.bind_eq_some_iff.mp H
        try simp only at H
        have AR := Aside0.mk A
        clear A
        have hf_ : wd5.cell? ⟨gs, 6, none⟩ = some (.func (.func 69) #[.pointer (some ⟨g, 0, none⟩)] #[]) := (blk_cell HN.out.rows 6).trans rfl
        cases x7_6 with
        | true =>
         rw [if_pos rfl] at H
         simp only [Option.some.injEq, Prod.mk.injEq] at H
         obtain ⟨rfl, rfl, rfl, rfl, rfl, rfl, rfl, rfl, rfl⟩ := H
         rw [rounds_succ]
         go_wp2_with (first | (go_at_call 69; refine (lex_scanner_mark.calls k g x8_5 x9_5 x1_6 x2_6 x3_6 x4_6 x5_6 x6_6 true x8_6 x9_6 w0 _ HN.out.st HN.out.below AR.out).mono ?_; rintro e wa6 ⟨rfl, h1, h2, h3⟩; have HN1 := Aside0.mk (HN.out.call h1 h2 h3); clear HN h1 h2 h3) | ((with_reducible refine gate_dst (N := 7) rfl ?_); refine box_event r1_ (N := 7) r1_ (cs := #[.int .i64 0, .string (⟨#[]⟩ : ByteArray), .int .i64 0, .string (⟨#[]⟩ : ByteArray), .string (⟨#[]⟩ : ByteArray), .int .i64 0]) (t := 50) r2_ ?_; intro gy hgy wb6 hbox hb; have HN2 := Aside0.mk (HN1.out.lower hb); have HY := Aside0.mk hbox; have HF := Aside0.mk (show w0.heap.size ≤ gy ∧ w.heap.size ≤ gy ∧ gy ≠ g ∧ gy ≠ gb ∧ gy ≠ gs from ⟨by rw [hgy]; exact HN1.out.below.size, by rw [hgy]; exact HN1.out.keep.1, by have G0 := HN1; exact z12_, by have G0 := HN1; exact z13_, by have G0 := HN1; exact z14_⟩); clear HN1 hgy hbox hb) | ((with_reducible refine gate_store (t := 50) (p := 7) rfl ?_); refine store_seg (gy := gy) (j := 0) (T := 50) (TB := 50) (cs := #[.int .i64 0, .string (⟨#[]⟩ : ByteArray), .int .i64 0, .string (⟨#[]⟩ : ByteArray), .string (⟨#[]⟩ : ByteArray), .int .i64 0]) (new := #[.int .i64 x1_6, .string x2_6, .int .i64 x3_6, .string x4_6, .string x5_6, .int .i64 x6_6]) (u := .agg #[.int .i64 x1_6, .string x2_6, .int .i64 x3_6, .string x4_6, .string x5_6, .int .i64 x6_6]) (seg := [.int .i64 x1_6, .string x2_6, .int .i64 x3_6, .string x4_6, .string x5_6, .int .i64 x6_6]) rfl (p := .tmp 7) (x := .tmp 49) rfl rfl r1_ r1_ r1_ HY.out k1_ s1_ h1_ rfl ?_; intro wd6 hz hup; have HN := Aside0.mk (HN2.out.upd hup HF.out.1 HF.out.2.1 HF.out.2.2.1 HF.out.2.2.2.1 HF.out.2.2.2.2); have HZ := Aside0.mk hz; clear HN2 HY hz hup) | ((with_reducible refine gate_store (t := 3) (p := 53) rfl ?_); refine store_seg (gy := gy) (j := 5) (T := 3) (TB := 50) (cs := #[.int .i64 x1_6, .string x2_6, .int .i64 x3_6, .string x4_6, .string x5_6, .int .i64 x6_6]) (new := #[.int .i64 x1_6, .string x2_6, .int .i64 x3_6, .string x4_6, .string x5_6, .int .i64 a1]) (u := .int .i64 a1) (seg := [.int .i64 a1]) rfl (p := .tmp 53) (x := .tmp 52) rfl rfl r1_ r1_ r1_ HZ.out k1_ s1_ h1_ rfl ?_; intro we6 hz hup; have HN3 := Aside0.mk (HN.out.upd hup HF.out.1 HF.out.2.1 HF.out.2.2.1 HF.out.2.2.2.1 HF.out.2.2.2.2); have HZ2 := Aside0.mk hz; clear HN HZ hup; have hl0_ := (blk_cell hz 0).trans (show _ = some (.int .i64 x1_6) from rfl); have hl1_ := (blk_cell hz 1).trans (show _ = some (.string x2_6) from rfl); have hl2_ := (blk_cell hz 2).trans (show _ = some (.int .i64 x3_6) from rfl); have hl3_ := (blk_cell hz 3).trans (show _ = some (.string x4_6) from rfl); have hl4_ := (blk_cell hz 4).trans (show _ = some (.string x5_6) from rfl); have hl5_ := (blk_cell hz 5).trans (show _ = some (.int .i64 a1) from rfl); clear hz) | ((with_reducible refine gate_store (t := 50) (p := 2) rfl ?_); refine store_seg (gy := gb) (j := 0) (T := 50) (TB := 50) (cs := #[.int .i64 0, .string (⟨#[]⟩ : ByteArray), .int .i64 0, .string (⟨#[]⟩ : ByteArray), .string (⟨#[]⟩ : ByteArray), .int .i64 0]) (new := #[.int .i64 x1_6, .string x2_6, .int .i64 x3_6, .string x4_6, .string x5_6, .int .i64 a1]) (u := .agg #[.int .i64 x1_6, .string x2_6, .int .i64 x3_6, .string x4_6, .string x5_6, .int .i64 a1]) (seg := [.int .i64 x1_6, .string x2_6, .int .i64 x3_6, .string x4_6, .string x5_6, .int .i64 a1]) rfl (p := .tmp 2) (x := .tmp 54) rfl rfl r1_ r1_ r1_ HN3.out.res k1_ s1_ h1_ rfl ?_; intro wf6 hz hup; have HN4 := Aside0.mk (HN3.out.fill hup (Nat.le_trans HW0.out HN3.out.gbw) hz); clear HN3 hz hup))
         refine bodyPost_ret (results_ct rfl _ _ gb 50 #[.int .i64 x1_6, .string x2_6, .int .i64 x3_6, .string x4_6, .string x5_6, .int .i64 a1] (0, 0) _ rfl HN4.out.res Tryz.underlying50 rfl k1_) rfl ?_
         exact ⟨rfl, HN4.out.st, HN4.out.below, HN4.out.keep⟩
        | false =>
         rw [if_neg (by decide)] at H
         cases H
structure SX (w0 w W : World) (g gy : Nat) (s : ByteArray) (at_ : Int) (cs : Array Value) : Prop where
 st : IsS75 w0 W g s at_
 below : Below w0.heap.size w0 W
 keep : KeepBut w W g none
 y : W.heap[gy]? = some (.cells cs 50 (0, 0))
 yw : w.heap.size ≤ gy
 yg : gy ≠ g
 w0w : w0.heap.size ≤ w.heap.size
structure SY (w0 w W : World) (g gy gi : Nat) (s : ByteArray) (at_ : Int) (cs : Array Value) (b : Bool) : Prop extends SX w0 w W g gy s at_ cs where
 i : W.heap[gi]? = some (.cells #[.bool b] 4 (0, 0))
 iw : w.heap.size ≤ gi
 ig : gi ≠ g
 iy : gi ≠ gy
structure SZ (w0 w W : World) (g gy gi gb : Nat) (s : ByteArray) (at_ : Int) (cs : Array Value) (b : Bool) (z : Int) : Prop extends SY w0 w W g gy gi s at_ cs b where
 b : W.heap[gb]? = some (.cells #[.int .i64 z] 3 (0, 0))
 bw : w.heap.size ≤ gb
 bg : gb ≠ g
 by_ : gb ≠ gy
 bi : gb ≠ gi
theorem SX.first {w0 w W : World} {g gy : Nat} {s : ByteArray} {at_ : Int} {cs : Array Value} (hI : IsS75 w0 w g s at_) (hB : Below w0.heap.size w0 w) (hg : gy = w.heap.size) (hy : W.heap[gy]? = some (.cells cs 50 (0, 0))) (hb : Below w.heap.size w W) : SX w0 w W g gy s at_ cs :=
 ⟨hI.below hb, below_then hB hB.size hb, KeepBut.of_below hb g none, hy, Nat.le_of_eq hg.symm, by rw [hg]; exact Ne.symm (Nat.ne_of_lt hI.lt), hB.size⟩
theorem SX.lower {w0 w W W' : World} {g gy : Nat} {s : ByteArray} {at_ : Int} {cs : Array Value} (h : SX w0 w W g gy s at_ cs) (hb : Below W.heap.size W W') : SX w0 w W' g gy s at_ cs :=
 ⟨h.st.below hb, below_then h.below h.below.size hb, h.keep.trans (KeepBut.of_below hb g none) (.inl rfl), blk_below h.y hb, h.yw, h.yg, h.w0w⟩
theorem SY.lower {w0 w W W' : World} {g gy gi : Nat} {s : ByteArray} {at_ : Int} {cs : Array Value} {b : Bool} (h : SY w0 w W g gy gi s at_ cs b) (hb : Below W.heap.size W W') : SY w0 w W' g gy gi s at_ cs b :=
 ⟨h.toSX.lower hb, blk_below h.i hb, h.iw, h.ig, h.iy⟩
theorem SZ.lower {w0 w W W' : World} {g gy gi gb : Nat} {s : ByteArray} {at_ z : Int} {cs : Array Value} {b : Bool} (h : SZ w0 w W g gy gi gb s at_ cs b z) (hb : Below W.heap.size W W') : SZ w0 w W' g gy gi gb s at_ cs b z :=
 ⟨h.toSY.lower hb, blk_below h.b hb, h.bw, h.bg, h.by_, h.bi⟩
theorem SY.next {w0 w W W' : World} {g gy gi : Nat} {s : ByteArray} {at_ : Int} {cs : Array Value} {b : Bool} (h : SX w0 w W g gy s at_ cs) (hg : gi = W.heap.size) (hy : W'.heap[gi]? = some (.cells #[.bool b] 4 (0, 0))) (hb : Below W.heap.size W W') : SY w0 w W' g gy gi s at_ cs b :=
 ⟨h.lower hb, hy, by rw [hg]; exact h.keep.1, by rw [hg]; exact Ne.symm (Nat.ne_of_lt h.st.lt), by rw [hg]; exact Ne.symm (Nat.ne_of_lt (blk_lt h.y))⟩
theorem SZ.next {w0 w W W' : World} {g gy gi gb : Nat} {s : ByteArray} {at_ z : Int} {cs : Array Value} {b : Bool} (h : SY w0 w W g gy gi s at_ cs b) (hg : gb = W.heap.size) (hy : W'.heap[gb]? = some (.cells #[.int .i64 z] 3 (0, 0))) (hb : Below W.heap.size W W') : SZ w0 w W' g gy gi gb s at_ cs b z :=
 ⟨h.lower hb, hy, by rw [hg]; exact h.keep.1, by rw [hg]; exact Ne.symm (Nat.ne_of_lt h.st.lt), by rw [hg]; exact Ne.symm (Nat.ne_of_lt (blk_lt h.y)), by rw [hg]; exact Ne.symm (Nat.ne_of_lt (blk_lt h.i))⟩
theorem SX.upd {w0 w W W' : World} {g gy gz : Nat} {s : ByteArray} {at_ : Int} {cs cs' : Array Value} (h : SX w0 w W g gy s at_ cs) (hu : Upd W W' gz) (hw : w.heap.size ≤ gz) (hg : gz ≠ g) (hy : W'.heap[gy]? = some (.cells cs' 50 (0, 0))) : SX w0 w W' g gy s at_ cs' :=
 ⟨⟨(hu.other g (Ne.symm hg)).trans h.st.1, h.st.2⟩, h.below.trans (hu.below (Nat.le_trans h.w0w hw)), hu.keep h.keep hw, hy, h.yw, h.yg, h.w0w⟩
theorem SZ.upy {w0 w W W' : World} {g gy gi gb : Nat} {s : ByteArray} {at_ z : Int} {cs cs' : Array Value} {b : Bool} (h : SZ w0 w W g gy gi gb s at_ cs b z) (hu : Upd W W' gy) (hn : W'.heap[gy]? = some (.cells cs' 50 (0, 0))) : SZ w0 w W' g gy gi gb s at_ cs' b z :=
 ⟨⟨h.toSX.upd hu h.yw h.yg hn, (hu.other gi h.iy).trans h.i, h.iw, h.ig, h.iy⟩, (hu.other gb h.by_).trans h.b, h.bw, h.bg, h.by_, h.bi⟩
theorem SZ.upi {w0 w W W' : World} {g gy gi gb : Nat} {s : ByteArray} {at_ z : Int} {cs : Array Value} {b b' : Bool} (h : SZ w0 w W g gy gi gb s at_ cs b z) (hu : Upd W W' gi) (hn : W'.heap[gi]? = some (.cells #[.bool b'] 4 (0, 0))) : SZ w0 w W' g gy gi gb s at_ cs b' z :=
 ⟨⟨h.toSX.upd hu h.iw h.ig ((hu.other gy (Ne.symm h.iy)).trans h.y), hn, h.iw, h.ig, h.iy⟩, (hu.other gb h.bi).trans h.b, h.bw, h.bg, h.by_, h.bi⟩
theorem SZ.upb {w0 w W W' : World} {g gy gi gb : Nat} {s : ByteArray} {at_ z z' : Int} {cs : Array Value} {b : Bool} (h : SZ w0 w W g gy gi gb s at_ cs b z) (hu : Upd W W' gb) (hn : W'.heap[gb]? = some (.cells #[.int .i64 z'] 3 (0, 0))) : SZ w0 w W' g gy gi gb s at_ cs b z' :=
 ⟨⟨h.toSX.upd hu h.bw h.bg ((hu.other gy (Ne.symm h.by_)).trans h.y), (hu.other gi (Ne.symm h.bi)).trans h.i, h.iw, h.ig, h.iy⟩, hn, h.bw, h.bg, h.by_, h.bi⟩
theorem SZ.call {w0 w W W' : World} {g gy gi gb : Nat} {s s' : ByteArray} {at_ at' z : Int} {cs : Array Value} {b : Bool} (h : SZ w0 w W g gy gi gb s at_ cs b z) (h1 : IsS75 w0 W' g s' at') (h2 : Below w0.heap.size w0 W') (h3 : KeepBut W W' g none) : SZ w0 w W' g gy gi gb s' at' cs b z :=
 ⟨⟨⟨h1, h2, h.keep.trans h3 (.inl rfl), (h3.2 gy (blk_lt h.y) h.yg (by simp)).trans h.y, h.yw, h.yg, h.w0w⟩, (h3.2 gi (blk_lt h.i) h.ig (by simp)).trans h.i, h.iw, h.ig, h.iy⟩, (h3.2 gb (blk_lt h.b) h.bg (by simp)).trans h.b, h.bw, h.bg, h.by_, h.bi⟩
theorem setCell_self {W : World} {gy o : Nat} {T : TypeId} {cs : Array Value} {f : Nat × Nat} {v : Value} (h : W.heap[gy]? = some (.cells cs T f)) (hv : cs[o]? = some v) : W.setCell ⟨gy, o, none⟩ v = W := by
 have key : ∀ F : Obj → Obj, F (.cells cs T f) = .cells cs T f → W.heap.modify gy F = W.heap := by
  intro F hF
  apply Array.ext_getElem?
  intro k
  rw [Array.getElem?_modify]
  split
  ·rename_i hk
   subst hk
   rw [h]
   simp [hF]
  ·rfl
 have e : cs.setIfInBounds o v = cs := by
  apply Array.ext_getElem?
  intro q
  rw [Array.getElem?_setIfInBounds]
  split
  ·rename_i hq
   subst hq
   split
   ·exact hv.symm
   ·rename_i hz
    rw [Array.getElem?_eq_none (Nat.le_of_not_lt hz)]
  ·rfl
 unfold World.setCell
 rw [key _ (by simp [e])]
theorem setCells_self {gy : Nat} {T : TypeId} {cs : Array Value} {f : Nat × Nat} : ∀ (vs : List Value) (o : Nat) (W : World), W.heap[gy]? = some (.cells cs T f) → (∀ i (hi : i < vs.length), cs[o + i]? = some vs[i]) → W.setCells gy o vs = W
 | [], _, _, _, _ => rfl
 | v :: vs, o, W, h, hv => by
  have e0 : W.setCell ⟨gy, o, none⟩ v = W := setCell_self h (hv 0 (Nat.succ_pos _))
  rw [World.setCells, e0]
  exact setCells_self vs (o + 1) W h fun i hi => by
   have := hv (i + 1) (by simpa using hi)
   simpa [Nat.add_assoc, Nat.add_comm 1 i] using this
theorem store_same {P : Program} {o : Oper} {a : Act} {W : World} {gy : Nat} {T TB : TypeId} {cs : Array Value} {u : Value} {seg : List Value} {p x : Operand} (ho : o.op = .store T p x) (haddr : a.eval p = .pointer (some ⟨gy, 0, none⟩)) (hx : a.eval x = u) (hu : u.cells.toList = seg) (hc : cs = seg.toArray) (hh : W.heap[gy]? = some (.cells cs TB (0, 0))) (ht : (P.info? T).map (·.size) = some seg.length) (h1 : ∀ q ∈ seg, q.oneCell' = true) (n : Nat) :
  o.quietAt P a (fun w' => ∃ n, w' = W.drewN n) (W.drewN n) undef := by
 have hst := run_store_run (P := P) (o := 0) T u seg (blk_drewN hh n) hu ht (by subst hc; simp) h1
 have hs : (W.drewN n).setCells gy 0 seg = W.drewN n := setCells_self seg 0 _ (blk_drewN hh n) fun i hi => by subst hc; simp
 have hex : Sem.run P (execOp a.eval o) (W.drewN n) = .ok .skip (W.drewN n) := by
  unfold execOp
  rw [ho]
  simp [haddr, hx, hst, hs]
 unfold Oper.quietAt
 rw [hex]
 exact ⟨rfl, rfl⟩
set_option maxRecDepth 100000 in
theorem safely_idle (py pis pbad : Addr) (w : World) :
  CallsD Tryz.prog 44 #[.pointer (some py), .pointer (some pis), .pointer (some pbad)] .returning w fun e u' w' => e = .returned (.tuple #[]) ∧ u' = .returning ∧ Below w.heap.size w w' := by
 have hta : ∀ (t : TypeId) (W : World), Sem.run Tryz.prog (Instr.typeAssert .nilIface t 97 true) W = .ok (.tuple #[.agg #[.int .i64 0], .bool false]) W := fun t W => by
  simp [Instr.typeAssert, run_underlying Tryz.underlying97, Tryz.zeroValue97]
 have hne : ∀ W : World, Sem.run Tryz.prog (binOp .neq 20 .nilIface .nilIface) W = .ok (.bool false) W := fun W => by kernel_rfl
 refine callsD_of_wpS Tryz.func44 rfl fun c₀ cs hu => ?_
 apply wpS_seq
 apply wpS_region
 simp [wpOpsS, go_sem, recoverD, hu, Tryz.ntmps44, Exit.thenS]
 refine wpS_of_wp ?_
 simp only [Array.replicate_succ, Array.replicate_zero, List.push_toArray, List.append_toArray, List.nil_append, List.cons_append, List.setIfInBounds_toArray, List.set_cons_zero, List.set_cons_succ]
 go_wp2
 cases c₀
 simp_all [bodyPostS, results, Tryz.results44]
 exact below_alloc (Below.refl _ _) _
def lex_scanner_safely.f (k : Nat) (s0_0 : ByteArray) (s0_1 : Int) : Option (Int × ByteArray × Int × ByteArray × ByteArray × Int × Bool × Int × ByteArray × Int) := (lex_scanner_next.f k s0_0 s0_1).bind fun b_ => some (b_.1, b_.2.1, b_.2.2.1, b_.2.2.2.1, b_.2.2.2.2.1, b_.2.2.2.2.2.1, b_.2.2.2.2.2.2.1, -1, b_.2.2.2.2.2.2.2.1, b_.2.2.2.2.2.2.2.2)
theorem lex_scanner_safely.mono : ∀ a0 a1 k, LeO (lex_scanner_safely.f k a0 a1) (lex_scanner_safely.f (k + 1) a0 a1) := by
 intro a0 a1 k
 unfold lex_scanner_safely.f
 exact LeO.bind (lex_scanner_next.mono _ _ _) fun _ => LeO.refl _
set_option maxHeartbeats 4000000 in
set_option maxRecDepth 100000 in
theorem lex_scanner_safely.calls (k : Nat) (g : Nat) (s0_0 : ByteArray) (s0_1 : Int) (r1 : Int) (r2 : ByteArray) (r3 : Int) (r4 : ByteArray) (r5 : ByteArray) (r6 : Int) (r7 : Bool) (r8 : Int) (r9 : ByteArray) (r10 : Int) (w0 w : World) (hI : IsS75 w0 w g s0_0 s0_1) (hB : Below w0.heap.size w0 w) (h : lex_scanner_safely.f k s0_0 s0_1 = some (r1, r2, r3, r4, r5, r6, r7, r8, r9, r10)) :
  Calls Tryz.prog 30 #[.pointer (some ⟨g, 0, none⟩)] w fun e w' => e = .returned (.tuple #[.agg #[.int .i64 r1, .string r2, .int .i64 r3, .string r4, .string r5, .int .i64 r6], .bool r7, .int .i64 r8]) ∧ IsS75 w0 w' g r9 r10 ∧ Below w0.heap.size w0 w' ∧ KeepBut w w' g none := by
 have hmf : ∀ (fn : Fn) (first cap : Array Value) (w : World), (Instr.makeFunc fn first cap).run Tryz.prog w = .ok (.func fn first cap) w := fun _ _ _ _ => rfl
 unfold lex_scanner_safely.f at h
 obtain ⟨⟨x1, x2, x3, x4, x5, x6, x7, x8, x9⟩, A0, H⟩ := Option.bind_eq_some_iff.mp h
 simp only [Option.some.injEq, Prod.mk.injEq] at H
 obtain ⟨rfl, rfl, rfl, rfl, rfl, rfl, rfl, rfl, rfl, rfl⟩ := H
 have AS := Aside0.mk A0
 clear h A0
 have HI := Aside0.mk hI
 have HB := Aside0.mk hB
 clear hI hB
 go_enter_defers Tryz.func30, Tryz.ntmps30
 go_wp2_with (first | ((with_reducible refine gate_dst (N := 2) rfl ?_); refine box_event r1_ (N := 2) r1_ (cs := #[.int .i64 0, .string (⟨#[]⟩ : ByteArray), .int .i64 0, .string (⟨#[]⟩ : ByteArray), .string (⟨#[]⟩ : ByteArray), .int .i64 0]) (t := 50) r2_ ?_; intro gy hgy w1 hy hb; have HX := Aside0.mk (SX.first HI.out HB.out hgy hy hb); clear hgy hy hb HI HB) | ((with_reducible refine gate_dst (N := 3) rfl ?_); refine box_event r1_ (N := 3) r1_ (cs := #[.bool false]) (t := 4) r2_ ?_; intro gi hgi w2 hi hb; have HX2 := Aside0.mk (SY.next HX.out hgi hi hb); clear hgi hi hb HX) | ((with_reducible refine gate_dst (N := 4) rfl ?_); refine box_event r1_ (N := 4) r1_ (cs := #[.int .i64 0]) (t := 3) r2_ ?_; intro gb hgb w3 hi hb; have HX3 := Aside0.mk (SZ.next HX2.out hgb hi hb); clear hgb hi hb HX2) | ((with_reducible refine gate_store (t := 3) (p := 4) rfl ?_); refine store_seg (gy := gb) (j := 0) (T := 3) (TB := 3) (cs := #[.int .i64 0]) (new := #[.int .i64 (-1)]) (u := .int .i64 (-1)) (seg := [.int .i64 (-1)]) rfl (p := .tmp 4) (x := .const (.int .i64 (-1))) rfl rfl r1_ r1_ r1_ HX3.out.b k1_ s1_ h1_ rfl ?_; intro w4 hz hup; have HX4 := Aside0.mk (HX3.out.upb hup hz); clear HX3 hz hup) | (go_at_call 45; refine (lex_scanner_next.calls k g s0_0 s0_1 x1 x2 x3 x4 x5 x6 x7 x8 x9 w0 _ HX4.out.st HX4.out.below AS.out).mono ?_; rintro e w5 ⟨rfl, h1, h2, h3⟩; have HX5 := Aside0.mk (HX4.out.call h1 h2 h3); clear HX4 h1 h2 h3) | ((with_reducible refine gate_store (t := 50) (p := 2) rfl ?_); refine store_seg (gy := gy) (j := 0) (T := 50) (TB := 50) (cs := #[.int .i64 0, .string (⟨#[]⟩ : ByteArray), .int .i64 0, .string (⟨#[]⟩ : ByteArray), .string (⟨#[]⟩ : ByteArray), .int .i64 0]) (new := #[.int .i64 x1, .string x2, .int .i64 x3, .string x4, .string x5, .int .i64 x6]) (u := .agg #[.int .i64 x1, .string x2, .int .i64 x3, .string x4, .string x5, .int .i64 x6]) (seg := [.int .i64 x1, .string x2, .int .i64 x3, .string x4, .string x5, .int .i64 x6]) rfl (p := .tmp 2) (x := .tmp 9) rfl rfl r1_ r1_ r1_ HX5.out.y k1_ s1_ h1_ rfl ?_; intro w6 hz hup; have HX6 := Aside0.mk (HX5.out.upy hup hz); clear HX5 hz hup) | ((with_reducible refine gate_store (t := 4) (p := 3) rfl ?_); refine store_seg (gy := gi) (j := 0) (T := 4) (TB := 4) (cs := #[.bool false]) (new := #[.bool x7]) (u := .bool x7) (seg := [.bool x7]) rfl (p := .tmp 3) (x := .tmp 10) rfl rfl r1_ r1_ r1_ HX6.out.i k1_ s1_ h1_ rfl ?_; intro w7 hz hup; have HX7 := Aside0.mk (HX6.out.upi hup hz); clear HX6 hz hup))
 have hy0 := (blk_cell HX7.out.y 0).trans rfl
 have hy1 := (blk_cell HX7.out.y 1).trans rfl
 have hy2 := (blk_cell HX7.out.y 2).trans rfl
 have hy3 := (blk_cell HX7.out.y 3).trans rfl
 have hy4 := (blk_cell HX7.out.y 4).trans rfl
 have hy5 := (blk_cell HX7.out.y 5).trans rfl
 have hi0 := (blk_cell HX7.out.i 0).trans rfl
 have hb0 := (blk_cell HX7.out.b 0).trans rfl
 refine wp_region_quiet_lit k1_ k1_ ?_
 quiet_step (fail)
 quiet_step (fail)
 quiet_step (fail)
 refine wpQuiet_step (fun K hK => ?_)
 rw [if_pos (by rfl)]
 refine ⟨undef, ?_, hK _ ?_⟩
 ·rintro w' ⟨n, rfl⟩
  refine store_same (T := 50) (cs := #[.int .i64 x1, .string x2, .int .i64 x3, .string x4, .string x5, .int .i64 x6]) (seg := [.int .i64 x1, .string x2, .int .i64 x3, .string x4, .string x5, .int .i64 x6]) (p := .tmp 2) (x := .tmp 11) rfl rfl rfl ?hu rfl HX7.out.y k1_ ?h1 n; (case hu => rfl); (case h1 => intro q hq; simp at hq; repeat (first | (rcases hq with rfl | hq; · rfl) | (subst hq; rfl)))
 clear hK K
 refine wpQuiet_step (fun K hK => ?_)
 rw [if_pos (by rfl)]
 refine ⟨undef, ?_, hK _ ?_⟩
 ·rintro w' ⟨n, rfl⟩
  refine store_same (T := 4) (cs := #[.bool x7]) (seg := [.bool x7]) (p := .tmp 3) (x := .tmp 12) rfl rfl rfl ?hu rfl HX7.out.i k1_ ?h1 n; (case hu => rfl); (case h1 => intro q hq; simp at hq; repeat (first | (rcases hq with rfl | hq; · rfl) | (subst hq; rfl)))
 clear hK K
 refine wpQuiet_step (fun K hK => ?_)
 rw [if_pos (by rfl)]
 refine ⟨undef, ?_, hK _ ?_⟩
 ·rintro w' ⟨n, rfl⟩
  refine store_same (T := 3) (cs := #[.int .i64 (-1)]) (seg := [.int .i64 (-1)]) (p := .tmp 4) (x := .tmp 13) rfl rfl rfl ?hu rfl HX7.out.b k1_ ?h1 n; (case hu => rfl); (case h1 => intro q hq; simp at hq; repeat (first | (rcases hq with rfl | hq; · rfl) | (subst hq; rfl)))
 clear hK K
 refine wpQuiet_nil ?_
 intro w8 hw8
 obtain ⟨nq, rfl⟩ := hw8
 go_wp2
 clear hy0
 clear hy1
 clear hy2
 clear hy3
 clear hy4
 clear hy5
 clear hi0 hb0
 refine leaves_cons (f := 44) (args := #[.pointer (some ⟨gy, 0, none⟩), .pointer (some ⟨gi, 0, none⟩), .pointer (some ⟨gb, 0, none⟩)]) (by simp) (by simp [go_sem]) ?_
 refine (safely_idle ⟨gy, 0, none⟩ ⟨gi, 0, none⟩ ⟨gb, 0, none⟩ _).mono ?_
 rintro e u' w9 ⟨rfl, rfl, hb9⟩
 have HX9 := Aside0.mk ((HX7.out.lower (pw_below_drewN (Below.refl _ _) nq)).lower hb9)
 clear hb9 HX7
 have hy0 := (blk_cell HX9.out.y 0).trans (show _ = some (.int .i64 x1) from rfl)
 have hy1 := (blk_cell HX9.out.y 1).trans (show _ = some (.string x2) from rfl)
 have hy2 := (blk_cell HX9.out.y 2).trans (show _ = some (.int .i64 x3) from rfl)
 have hy3 := (blk_cell HX9.out.y 3).trans (show _ = some (.string x4) from rfl)
 have hy4 := (blk_cell HX9.out.y 4).trans (show _ = some (.string x5) from rfl)
 have hy5 := (blk_cell HX9.out.y 5).trans (show _ = some (.int .i64 x6) from rfl)
 have hi0 := (blk_cell HX9.out.i 0).trans (show _ = some (.bool x7) from rfl)
 have hb0 := (blk_cell HX9.out.b 0).trans (show _ = some (.int .i64 (-1)) from rfl)
 have := HX9.out.st
 have := HX9.out.below
 have := HX9.out.keep
 simp [Leaves, settle, results, Tryz.results30, go_sem, hy0, hy1, hy2, hy3, hy4, hy5, hi0, hb0, *]
end Go.Proofs.YtjnhdamilbcmpaaGreatDoor.PWrit

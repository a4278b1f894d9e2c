import Derived.Test.YtpbphelaeleikaaGreatDoorXtPLtx0
import Derived.Test.YtpbphelaeleikaaGreatDoorXtPLtx1
import Derived.Test.YtpbphelaeleikaaGreatDoorXtPLtx2
import Derived.Test.YtpbphelaeleikaaGreatDoorXtPLtx3
namespace Go.Proofs.YtpbphelaeleikaaGreatDoor.PLt
open Go.RowKit Go.Proofs.YtpbphelaeleikaaGreatDoorW.PrintWords Go.Proofs.YtpbphelaeleikaaGreatDoorW.PrintLast Go.Proofs.YtpbphelaeleikaaGreatDoorW.PrintMore
attribute [local go_sem] max2_int min2_int max_two min_two max_three min_three max_four min_four
set_option linter.unusedVariables false
set_option linter.unusedSimpArgs false
set_option maxHeartbeats 8000000
set_option maxRecDepth 100000
def ls_run.is (fn : Nat) (i c : Int) : Option Bool := if fn = 87 then lex_named.f i c else if fn = 88 then ls_lang_1.f i c else if fn = 91 then ls_word_1.f i c else none
def ls_run.l0 : Nat → Nat → Int → ByteArray → Int → Option Int
 | 0, _, _, _, _ => none
 | k + 1, fn, b0, s, a => if a < (s.size : Int) then (if 0 ≤ a then (ls_run.is fn (wrap64 (a - b0)) (bt s a)).bind fun b => if b = true then ls_run.l0 k fn b0 s (wrap64 (a + 1)) else some a else none) else some a
def ls_run.f (k : Nat) (s0_0 : ByteArray) (s0_1 a1 a2 : Int) (a3 : Nat) : Option (ByteArray × ByteArray × Int) := if a3 = 87 ∨ a3 = 88 ∨ a3 = 91 then (ls_run.l0 k a3 s0_1 s0_0 s0_1).bind fun e => if wrap64 (e - s0_1) > a2 then none else if 0 ≤ s0_1 then (if s0_1 ≤ e then (if e ≤ (s0_0.size : Int) then some (s0_0.extract s0_1.toNat e.toNat, s0_0, e) else none) else none) else none else none
set_option maxHeartbeats 4000000 in
set_option maxRecDepth 100000 in
theorem ls_run.c0 (k : Nat) (g : Nat) (s0_0 : ByteArray) (s0_1 a1 a2 e : Int) (w0 w : World) (hI : IsS73 w0 w g s0_0 s0_1) (hB : Below w0.heap.size w0 w) (he : ls_run.l0 k 87 s0_1 s0_0 s0_1 = some e) (hl : Ad (¬ wrap64 (e - s0_1) > a2)) (c4 : Ad (0 ≤ s0_1)) (c5 : Ad (s0_1 ≤ e)) (c6 : Ad (e ≤ (s0_0.size : Int))) :
  Calls Tryz.prog 86 #[.pointer (some ⟨g, 0, none⟩), .int .i64 a1, .int .i64 a2, .func (.func 87) #[] #[]] w fun e' w' => e' = .returned (.string (s0_0.extract s0_1.toNat e.toNat)) ∧ IsS73 w0 w' g s0_0 e ∧ Below w0.heap.size w0 w' ∧ KeepBut w w' g none := by
 have HI0 := Ad.mk hI
 have HK := Ad.mk (KeepBut.refl w g none)
 have HW0 := Ad.mk hB.size
 have HB := Ad.mk hB
 have HE := Ad.mk he
 clear hI hB he
 obtain ⟨HGz, hgz⟩ := HI0.out
 have hcz0 := cellS73_0 HGz
 have hcz1 := cellS73_1 HGz
 have hfz1 := blk_frozen HGz 1
 clear HGz hgz
 go_enter Tryz.func86, Tryz.ntmps86
 go_wp2
 clear hcz0 hcz1 hfz1
 go_loopg [] k (fun kq w' => ∃ (a : Int), Ad (ls_run.l0 kq 87 s0_1 s0_0 a = some e) ∧ Ad (kq ≤ k) ∧ Ad (IsS73 w0 w' g s0_0 a) ∧ Ad (KeepBut w w' g none) ∧ Ad (Below w0.heap.size w0 w'))
 case atStart => exact ⟨s0_1, HE, ⟨Nat.le_refl _⟩, ⟨(by have G0 := HI0; exact z21_)⟩, ⟨z22_⟩, ⟨(by have G0 := HI0; exact z23_)⟩⟩
 case round =>
  clear HE HI0 HK HB
  obtain ⟨a, HA, HK1, HI0, HK, HB⟩ := hrel
  cases gk with
  | zero => exact absurd HA.out (by simp [ls_run.l0])
  | succ k1 =>
   have H := HA.out
   clear HA
   simp only [ls_run.l0] at H
   obtain ⟨HGz, hgz⟩ := HI0.out
   have hcz0 := cellS73_0 HGz
   have hcz1 := cellS73_1 HGz
   have hfz1 := blk_frozen HGz 1
   clear HGz hgz
   by_cases c1 : a < (s0_0.size : Int)
   ·rw [if_pos c1] at H
    by_cases c2 : 0 ≤ a
    case neg => rw [if_neg c2] at H; cases H
    rw [if_pos c2] at H
    obtain ⟨b, A0, H⟩ := Option.bind_eq_some_iff.mp H
    have AB := Ad.mk (show lex_named.f (wrap64 (a - s0_1)) (bt s0_0 a) = some b by simpa [ls_run.is] using A0)
    clear A0
    have c1b : decide (a < (s0_0.size : Int)) = true := decide_eq_true c1
    have c2b : decide (0 ≤ a) = true := decide_eq_true c2
    have hx := bt_at s0_0 a
    replace c1 := eq_true c1
    replace c2 := eq_true c2
    have H' := Ad.mk H
    clear H
    cases b with
    | true =>
     have H := H'.out
     clear H'
     rw [if_pos rfl] at H
     have H' := Ad.mk H
     clear H
     go_wp2
     repeat (go_quiet (first | (go_at_call 87; (with_reducible refine (lex_named.calls (wrap64 (a - s0_1)) (bt s0_0 a) true _ AB.out).mono ?_); rintro e w' ⟨rfl, ⟨nd, rfl⟩⟩; (try first | exact ⟨rfl, _, World.drewN_drewN _ _ _⟩ | exact ⟨rfl, _, Eq.trans (World.drewN_drewN _ _ _) (congrArg (World.drewN _) (Nat.add_assoc _ _ _))⟩))); try go_wp2)
     go_roundg k1
     case measure => have := HK1.out; omega
     case rel => exact ⟨_, H', ⟨by have := HK1.out; omega⟩, ⟨(by have G0 := HI0; exact z21_)⟩, ⟨z22_⟩, ⟨(by have G0 := HI0; exact z23_)⟩⟩
    | false =>
     have H := H'.out
     clear H'
     rw [if_neg (by decide)] at H
     obtain rfl := Option.some.inj H
     clear H
     have p1 : (0 ≤ s0_1) = True := eq_true c4.out
     have p2 : (s0_1 ≤ a) = True := eq_true c5.out
     have p3 : (a ≤ (s0_0.size : Int)) = True := eq_true c6.out
     have p1b : decide (0 ≤ s0_1) = true := decide_eq_true c4.out
     have p2b : decide (s0_1 ≤ a) = true := decide_eq_true c5.out
     have p3b : decide (a ≤ (s0_0.size : Int)) = true := decide_eq_true c6.out
     have hlb : decide (wrap64 (a - s0_1) > a2) = false := decide_eq_false (by have := hl.out; omega)
     go_wp2
     repeat (go_quiet (first | (go_at_call 87; (with_reducible refine (lex_named.calls (wrap64 (a - s0_1)) (bt s0_0 a) false _ AB.out).mono ?_); rintro e w' ⟨rfl, ⟨nd, rfl⟩⟩; (try first | exact ⟨rfl, _, World.drewN_drewN _ _ _⟩ | exact ⟨rfl, _, Eq.trans (World.drewN_drewN _ _ _) (congrArg (World.drewN _) (Nat.add_assoc _ _ _))⟩))); try go_wp2)
     go_ret
     exact ⟨rfl, (by have G0 := HI0; exact z21_), (by have G0 := HI0; exact z23_), z22_⟩
   rw [if_neg c1] at H
   have c1b : decide (a < (s0_0.size : Int)) = false := decide_eq_false c1
   clear c1
   obtain rfl := Option.some.inj H
   clear H
   have p1 : (0 ≤ s0_1) = True := eq_true c4.out
   have p2 : (s0_1 ≤ a) = True := eq_true c5.out
   have p3 : (a ≤ (s0_0.size : Int)) = True := eq_true c6.out
   have p1b : decide (0 ≤ s0_1) = true := decide_eq_true c4.out
   have p2b : decide (s0_1 ≤ a) = true := decide_eq_true c5.out
   have p3b : decide (a ≤ (s0_0.size : Int)) = true := decide_eq_true c6.out
   have hlb : decide (wrap64 (a - s0_1) > a2) = false := decide_eq_false (by have := hl.out; omega)
   go_wp2
   repeat (go_quiet (fail); try go_wp2)
   go_ret
   exact ⟨rfl, (by have G0 := HI0; exact z21_), (by have G0 := HI0; exact z23_), z22_⟩
set_option maxHeartbeats 4000000 in
set_option maxRecDepth 100000 in
theorem ls_run.c1 (k : Nat) (g : Nat) (s0_0 : ByteArray) (s0_1 a1 a2 e : Int) (w0 w : World) (hI : IsS73 w0 w g s0_0 s0_1) (hB : Below w0.heap.size w0 w) (he : ls_run.l0 k 88 s0_1 s0_0 s0_1 = some e) (hl : Ad (¬ wrap64 (e - s0_1) > a2)) (c4 : Ad (0 ≤ s0_1)) (c5 : Ad (s0_1 ≤ e)) (c6 : Ad (e ≤ (s0_0.size : Int))) :
  Calls Tryz.prog 86 #[.pointer (some ⟨g, 0, none⟩), .int .i64 a1, .int .i64 a2, .func (.func 88) #[] #[]] w fun e' w' => e' = .returned (.string (s0_0.extract s0_1.toNat e.toNat)) ∧ IsS73 w0 w' g s0_0 e ∧ Below w0.heap.size w0 w' ∧ KeepBut w w' g none := by
 have HI0 := Ad.mk hI
 have HK := Ad.mk (KeepBut.refl w g none)
 have HW0 := Ad.mk hB.size
 have HB := Ad.mk hB
 have HE := Ad.mk he
 clear hI hB he
 obtain ⟨HGz, hgz⟩ := HI0.out
 have hcz0 := cellS73_0 HGz
 have hcz1 := cellS73_1 HGz
 have hfz1 := blk_frozen HGz 1
 clear HGz hgz
 go_enter Tryz.func86, Tryz.ntmps86
 go_wp2
 clear hcz0 hcz1 hfz1
 go_loopg [] k (fun kq w' => ∃ (a : Int), Ad (ls_run.l0 kq 88 s0_1 s0_0 a = some e) ∧ Ad (kq ≤ k) ∧ Ad (IsS73 w0 w' g s0_0 a) ∧ Ad (KeepBut w w' g none) ∧ Ad (Below w0.heap.size w0 w'))
 case atStart => exact ⟨s0_1, HE, ⟨Nat.le_refl _⟩, ⟨(by have G0 := HI0; exact z21_)⟩, ⟨z22_⟩, ⟨(by have G0 := HI0; exact z23_)⟩⟩
 case round =>
  clear HE HI0 HK HB
  obtain ⟨a, HA, HK1, HI0, HK, HB⟩ := hrel
  cases gk with
  | zero => exact absurd HA.out (by simp [ls_run.l0])
  | succ k1 =>
   have H := HA.out
   clear HA
   simp only [ls_run.l0] at H
   obtain ⟨HGz, hgz⟩ := HI0.out
   have hcz0 := cellS73_0 HGz
   have hcz1 := cellS73_1 HGz
   have hfz1 := blk_frozen HGz 1
   clear HGz hgz
   by_cases c1 : a < (s0_0.size : Int)
   ·rw [if_pos c1] at H
    by_cases c2 : 0 ≤ a
    case neg => rw [if_neg c2] at H; cases H
    rw [if_pos c2] at H
    obtain ⟨b, A0, H⟩ := Option.bind_eq_some_iff.mp H
    have AB := Ad.mk (show ls_lang_1.f (wrap64 (a - s0_1)) (bt s0_0 a) = some b by simpa [ls_run.is] using A0)
    clear A0
    have c1b : decide (a < (s0_0.size : Int)) = true := decide_eq_true c1
    have c2b : decide (0 ≤ a) = true := decide_eq_true c2
    have hx := bt_at s0_0 a
    replace c1 := eq_true c1
    replace c2 := eq_true c2
    have H' := Ad.mk H
    clear H
    cases b with
    | true =>
     have H := H'.out
     clear H'
     rw [if_pos rfl] at H
     have H' := Ad.mk H
     clear H
     go_wp2
     repeat (go_quiet (first | (go_at_call 88; (with_reducible refine (ls_lang_1.calls (wrap64 (a - s0_1)) (bt s0_0 a) true _ AB.out).mono ?_); rintro e w' ⟨rfl, ⟨nd, rfl⟩⟩; (try first | exact ⟨rfl, _, World.drewN_drewN _ _ _⟩ | exact ⟨rfl, _, Eq.trans (World.drewN_drewN _ _ _) (congrArg (World.drewN _) (Nat.add_assoc _ _ _))⟩))); try go_wp2)
     go_roundg k1
     case measure => have := HK1.out; omega
     case rel => exact ⟨_, H', ⟨by have := HK1.out; omega⟩, ⟨(by have G0 := HI0; exact z21_)⟩, ⟨z22_⟩, ⟨(by have G0 := HI0; exact z23_)⟩⟩
    | false =>
     have H := H'.out
     clear H'
     rw [if_neg (by decide)] at H
     obtain rfl := Option.some.inj H
     clear H
     have p1 : (0 ≤ s0_1) = True := eq_true c4.out
     have p2 : (s0_1 ≤ a) = True := eq_true c5.out
     have p3 : (a ≤ (s0_0.size : Int)) = True := eq_true c6.out
     have p1b : decide (0 ≤ s0_1) = true := decide_eq_true c4.out
     have p2b : decide (s0_1 ≤ a) = true := decide_eq_true c5.out
     have p3b : decide (a ≤ (s0_0.size : Int)) = true := decide_eq_true c6.out
     have hlb : decide (wrap64 (a - s0_1) > a2) = false := decide_eq_false (by have := hl.out; omega)
     go_wp2
     repeat (go_quiet (first | (go_at_call 88; (with_reducible refine (ls_lang_1.calls (wrap64 (a - s0_1)) (bt s0_0 a) false _ AB.out).mono ?_); rintro e w' ⟨rfl, ⟨nd, rfl⟩⟩; (try first | exact ⟨rfl, _, World.drewN_drewN _ _ _⟩ | exact ⟨rfl, _, Eq.trans (World.drewN_drewN _ _ _) (congrArg (World.drewN _) (Nat.add_assoc _ _ _))⟩))); try go_wp2)
     go_ret
     exact ⟨rfl, (by have G0 := HI0; exact z21_), (by have G0 := HI0; exact z23_), z22_⟩
   rw [if_neg c1] at H
   have c1b : decide (a < (s0_0.size : Int)) = false := decide_eq_false c1
   clear c1
   obtain rfl := Option.some.inj H
   clear H
   have p1 : (0 ≤ s0_1) = True := eq_true c4.out
   have p2 : (s0_1 ≤ a) = True := eq_true c5.out
   have p3 : (a ≤ (s0_0.size : Int)) = True := eq_true c6.out
   have p1b : decide (0 ≤ s0_1) = true := decide_eq_true c4.out
   have p2b : decide (s0_1 ≤ a) = true := decide_eq_true c5.out
   have p3b : decide (a ≤ (s0_0.size : Int)) = true := decide_eq_true c6.out
   have hlb : decide (wrap64 (a - s0_1) > a2) = false := decide_eq_false (by have := hl.out; omega)
   go_wp2
   repeat (go_quiet (fail); try go_wp2)
   go_ret
   exact ⟨rfl, (by have G0 := HI0; exact z21_), (by have G0 := HI0; exact z23_), z22_⟩
set_option maxHeartbeats 4000000 in
set_option maxRecDepth 100000 in
theorem ls_run.c2 (k : Nat) (g : Nat) (s0_0 : ByteArray) (s0_1 a1 a2 e : Int) (w0 w : World) (hI : IsS73 w0 w g s0_0 s0_1) (hB : Below w0.heap.size w0 w) (he : ls_run.l0 k 91 s0_1 s0_0 s0_1 = some e) (hl : Ad (¬ wrap64 (e - s0_1) > a2)) (c4 : Ad (0 ≤ s0_1)) (c5 : Ad (s0_1 ≤ e)) (c6 : Ad (e ≤ (s0_0.size : Int))) :
  Calls Tryz.prog 86 #[.pointer (some ⟨g, 0, none⟩), .int .i64 a1, .int .i64 a2, .func (.func 91) #[] #[]] w fun e' w' => e' = .returned (.string (s0_0.extract s0_1.toNat e.toNat)) ∧ IsS73 w0 w' g s0_0 e ∧ Below w0.heap.size w0 w' ∧ KeepBut w w' g none := by
 have HI0 := Ad.mk hI
 have HK := Ad.mk (KeepBut.refl w g none)
 have HW0 := Ad.mk hB.size
 have HB := Ad.mk hB
 have HE := Ad.mk he
 clear hI hB he
 obtain ⟨HGz, hgz⟩ := HI0.out
 have hcz0 := cellS73_0 HGz
 have hcz1 := cellS73_1 HGz
 have hfz1 := blk_frozen HGz 1
 clear HGz hgz
 go_enter Tryz.func86, Tryz.ntmps86
 go_wp2
 clear hcz0 hcz1 hfz1
 go_loopg [] k (fun kq w' => ∃ (a : Int), Ad (ls_run.l0 kq 91 s0_1 s0_0 a = some e) ∧ Ad (kq ≤ k) ∧ Ad (IsS73 w0 w' g s0_0 a) ∧ Ad (KeepBut w w' g none) ∧ Ad (Below w0.heap.size w0 w'))
 case atStart => exact ⟨s0_1, HE, ⟨Nat.le_refl _⟩, ⟨(by have G0 := HI0; exact z21_)⟩, ⟨z22_⟩, ⟨(by have G0 := HI0; exact z23_)⟩⟩
 case round =>
  clear HE HI0 HK HB
  obtain ⟨a, HA, HK1, HI0, HK, HB⟩ := hrel
  cases gk with
  | zero => exact absurd HA.out (by simp [ls_run.l0])
  | succ k1 =>
   have H := HA.out
   clear HA
   simp only [ls_run.l0] at H
   obtain ⟨HGz, hgz⟩ := HI0.out
   have hcz0 := cellS73_0 HGz
   have hcz1 := cellS73_1 HGz
   have hfz1 := blk_frozen HGz 1
   clear HGz hgz
   by_cases c1 : a < (s0_0.size : Int)
   ·rw [if_pos c1] at H
    by_cases c2 : 0 ≤ a
    case neg => rw [if_neg c2] at H; cases H
    rw [if_pos c2] at H
    obtain ⟨b, A0, H⟩ := Option.bind_eq_some_iff.mp H
    have AB := Ad.mk (show ls_word_1.f (wrap64 (a - s0_1)) (bt s0_0 a) = some b by simpa [ls_run.is] using A0)
    clear A0
    have c1b : decide (a < (s0_0.size : Int)) = true := decide_eq_true c1
    have c2b : decide (0 ≤ a) = true := decide_eq_true c2
    have hx := bt_at s0_0 a
    replace c1 := eq_true c1
    replace c2 := eq_true c2
    have H' := Ad.mk H
    clear H
    cases b with
    | true =>
     have H := H'.out
     clear H'
     rw [if_pos rfl] at H
     have H' := Ad.mk H
     clear H
     go_wp2
     repeat (go_quiet (first | (go_at_call 91; (with_reducible refine (ls_word_1.calls (wrap64 (a - s0_1)) (bt s0_0 a) true _ AB.out).mono ?_); rintro e w' ⟨rfl, ⟨nd, rfl⟩⟩; (try first | exact ⟨rfl, _, World.drewN_drewN _ _ _⟩ | exact ⟨rfl, _, Eq.trans (World.drewN_drewN _ _ _) (congrArg (World.drewN _) (Nat.add_assoc _ _ _))⟩))); try go_wp2)
     go_roundg k1
     case measure => have := HK1.out; omega
     case rel => exact ⟨_, H', ⟨by have := HK1.out; omega⟩, ⟨(by have G0 := HI0; exact z21_)⟩, ⟨z22_⟩, ⟨(by have G0 := HI0; exact z23_)⟩⟩
    | false =>
     have H := H'.out
     clear H'
     rw [if_neg (by decide)] at H
     obtain rfl := Option.some.inj H
     clear H
     have p1 : (0 ≤ s0_1) = True := eq_true c4.out
     have p2 : (s0_1 ≤ a) = True := eq_true c5.out
     have p3 : (a ≤ (s0_0.size : Int)) = True := eq_true c6.out
     have p1b : decide (0 ≤ s0_1) = true := decide_eq_true c4.out
     have p2b : decide (s0_1 ≤ a) = true := decide_eq_true c5.out
     have p3b : decide (a ≤ (s0_0.size : Int)) = true := decide_eq_true c6.out
     have hlb : decide (wrap64 (a - s0_1) > a2) = false := decide_eq_false (by have := hl.out; omega)
     go_wp2
     repeat (go_quiet (first | (go_at_call 91; (with_reducible refine (ls_word_1.calls (wrap64 (a - s0_1)) (bt s0_0 a) false _ AB.out).mono ?_); rintro e w' ⟨rfl, ⟨nd, rfl⟩⟩; (try first | exact ⟨rfl, _, World.drewN_drewN _ _ _⟩ | exact ⟨rfl, _, Eq.trans (World.drewN_drewN _ _ _) (congrArg (World.drewN _) (Nat.add_assoc _ _ _))⟩))); try go_wp2)
     go_ret
     exact ⟨rfl, (by have G0 := HI0; exact z21_), (by have G0 := HI0; exact z23_), z22_⟩
   rw [if_neg c1] at H
   have c1b : decide (a < (s0_0.size : Int)) = false := decide_eq_false c1
   clear c1
   obtain rfl := Option.some.inj H
   clear H
   have p1 : (0 ≤ s0_1) = True := eq_true c4.out
   have p2 : (s0_1 ≤ a) = True := eq_true c5.out
   have p3 : (a ≤ (s0_0.size : Int)) = True := eq_true c6.out
   have p1b : decide (0 ≤ s0_1) = true := decide_eq_true c4.out
   have p2b : decide (s0_1 ≤ a) = true := decide_eq_true c5.out
   have p3b : decide (a ≤ (s0_0.size : Int)) = true := decide_eq_true c6.out
   have hlb : decide (wrap64 (a - s0_1) > a2) = false := decide_eq_false (by have := hl.out; omega)
   go_wp2
   repeat (go_quiet (fail); try go_wp2)
   go_ret
   exact ⟨rfl, (by have G0 := HI0; exact z21_), (by have G0 := HI0; exact z23_), z22_⟩
theorem ls_run.calls (k : Nat) (g : Nat) (s0_0 : ByteArray) (s0_1 a1 a2 : Int) (a3 : Nat) (r1 r2 : ByteArray) (r3 : Int) (w0 w : World) (hI : IsS73 w0 w g s0_0 s0_1) (hB : Below w0.heap.size w0 w) (h : ls_run.f k s0_0 s0_1 a1 a2 a3 = some (r1, r2, r3)) :
  Calls Tryz.prog 86 #[.pointer (some ⟨g, 0, none⟩), .int .i64 a1, .int .i64 a2, .func (.func a3) #[] #[]] w fun e w' => e = .returned (.string r1) ∧ IsS73 w0 w' g r2 r3 ∧ Below w0.heap.size w0 w' ∧ KeepBut w w' g none := by
 unfold ls_run.f at h
 by_cases c : a3 = 87 ∨ a3 = 88 ∨ a3 = 91
 ·rw [if_pos c] at h
  obtain ⟨e, he, h⟩ := Option.bind_eq_some_iff.mp h
  by_cases c1 : wrap64 (e - s0_1) > a2
  ·rw [if_pos c1] at h; cases h
  rw [if_neg c1] at h
  by_cases c4 : 0 ≤ s0_1
  ·rw [if_pos c4] at h
   by_cases c5 : s0_1 ≤ e
   ·rw [if_pos c5] at h
    by_cases c6 : e ≤ (s0_0.size : Int)
    ·rw [if_pos c6] at h
     simp only [Option.some.injEq, Prod.mk.injEq] at h
     obtain ⟨rfl, rfl, rfl⟩ := h
     rcases c with rfl | rfl | rfl
     ·exact ls_run.c0 k g _ _ a1 a2 _ w0 w hI hB he ⟨c1⟩ ⟨c4⟩ ⟨c5⟩ ⟨c6⟩
     ·exact ls_run.c1 k g _ _ a1 a2 _ w0 w hI hB he ⟨c1⟩ ⟨c4⟩ ⟨c5⟩ ⟨c6⟩
     exact ls_run.c2 k g _ _ a1 a2 _ w0 w hI hB he ⟨c1⟩ ⟨c4⟩ ⟨c5⟩ ⟨c6⟩
    rw [if_neg c6] at h; cases h
   rw [if_neg c5] at h; cases h
  rw [if_neg c4] at h; cases h
 rw [if_neg c] at h; cases h
theorem run_neq_func {P : Program} {T : TypeId} {a : Array TypeId} {b : Array TypeId} {v : Bool} (hT : P.underlying T = some (.func a b v)) (f : Fn) (x y : Array Value) (W : World) : (binOp .neq T (.func f x y) .nilFunc).run P W = .ok (.bool true) W := by
 have h : (Op.equal T (.func f x y) .nilFunc).run P W = .ok false W := by
  have hd : ∀ d, (Op.equalIn (d + 1) T (.func f x y) .nilFunc).run P W = .ok false W := by
   intro d
   simp only [Op.equalIn, Sem.run_bind, run_underlying hT, Result.andThen_ok]
   rfl
  exact hd 9999
 simp only [binOp, Sem.run_bind, h, Result.andThen_ok]
 rfl
theorem run_neq_nilFunc {P : Program} {T : TypeId} {a : Array TypeId} {b : Array TypeId} {v : Bool} (hT : P.underlying T = some (.func a b v)) (W : World) : (binOp .neq T .nilFunc .nilFunc).run P W = .ok (.bool false) W := by
 have h : (Op.equal T .nilFunc .nilFunc).run P W = .ok true W := by
  have hd : ∀ d, (Op.equalIn (d + 1) T .nilFunc .nilFunc).run P W = .ok true W := by
   intro d
   simp only [Op.equalIn, Sem.run_bind, run_underlying hT, Result.andThen_ok]
   rfl
  exact hd 9999
 simp only [binOp, Sem.run_bind, h, Result.andThen_ok]
 rfl
def kindsFn (a : Int) : Value := if a = 1 then .func (.func 50) #[] #[] else if a = 2 then .func (.func 52) #[] #[] else if a = 3 then .func (.func 54) #[] #[] else if a = 4 then .func (.func 56) #[] #[] else if a = 5 then .func (.func 58) #[] #[] else .nilFunc
theorem look_kinds (W : World) (b : Nat) (hb : W.heap[b]? = some (.map kindsMap 5)) (a : Int) : (Instr.lookup 79 (.map (some b)) (.int .i64 a) false).run Tryz.prog W = .ok (kindsFn a) W := by
 have hT := Tryz.underlying79
 have hK := Tryz.underlying29
 have hz : (zeroValue 55).run Tryz.prog W = .ok .nilFunc W := by kernel_rfl
 have hf : Instr.findNow (.int .i64) (.int .i64 a) kindsMap.toList 0 = some (if a = 1 then some (0, kindsFn a) else if a = 2 then some (1, kindsFn a) else if a = 3 then some (2, kindsFn a) else if a = 4 then some (3, kindsFn a) else if a = 5 then some (4, kindsFn a) else none) := by
  unfold kindsMap
  simp only [findNow_cons]
  unfold kindsFn
  repeat' split
  all_goals first | rfl | (exfalso; omega) | (simp_all; done)
 by_cases h : a = 1 ∨ a = 2 ∨ a = 3 ∨ a = 4 ∨ a = 5
 ·have : ∃ i, Instr.findNow (.int .i64) (.int .i64 a) kindsMap.toList 0 = some (some (i, kindsFn a)) := by
   rw [hf]
   rcases h with rfl | rfl | rfl | rfl | rfl <;> exact ⟨_, rfl⟩
  obtain ⟨i, hi⟩ := this
  exact (run_look hT hK W hb a hi).1
 have e : kindsFn a = .nilFunc := by
  unfold kindsFn
  rw [if_neg (by omega), if_neg (by omega), if_neg (by omega), if_neg (by omega), if_neg (by omega)]
 rw [e]
 refine (run_look_none hT hK W hb a hz ?_).1
 rw [hf, if_neg (by omega), if_neg (by omega), if_neg (by omega), if_neg (by omega), if_neg (by omega)]
def term_May.f (k : Nat) (a0_0 : Int) (a0_1 : ByteArray) (a0_2 : ByteArray) : Option Bool := if a0_0 = 1 then (term_kinds_1.f a0_0 a0_1 a0_2) else (if a0_0 = 2 then (term_kinds_2.f k a0_0 a0_1 a0_2) else (if a0_0 = 3 then (term_kinds_3.f a0_0 a0_1 a0_2) else (if a0_0 = 4 then (term_kinds_4.f k a0_0 a0_1 a0_2) else (if a0_0 = 5 then (term_kinds_5.f a0_0 a0_1 a0_2) else (some false)))))
set_option maxRecDepth 100000 in
set_option maxHeartbeats 2000000 in
theorem term_May.calls1 (k : Nat) (a0_1 : ByteArray) (a0_2 : ByteArray) (r : Bool) (w : World) (h : term_kinds_1.f 1 a0_1 a0_2 = some r) :
  Calls Tryz.prog 19 #[.agg #[.int .i64 1, .string a0_1, .string a0_2]] w fun e w' => e = .returned (.bool r) ∧ Below w.heap.size w w' := by
 have hb : ((w.alloc (.cells #[.int .i64 1, .string a0_1, .string a0_2] 31)).alloc (.map kindsMap 5)).heap[w.heap.size + 1]? = some (.map kindsMap 5) := by
  have := World.alloc_heap_new (w.alloc (.cells #[.int .i64 1, .string a0_1, .string a0_2] 31)) (.map kindsMap 5)
  rwa [World.size_alloc] at this
 have hl := look_kinds _ _ hb 1
 have hl2 := look_kinds (((w.alloc (.cells #[.int .i64 1, .string a0_1, .string a0_2] 31)).alloc (.map kindsMap 5)).drew) (w.heap.size + 1) hb 1
 have hk : kindsFn 1 = .func (.func 50) #[] #[] := rfl
 rw [hk] at hl hl2
 have H := Ad.mk h
 have hne := fun (f : Fn) (x y : Array Value) (W : World) => run_neq_func Tryz.underlying55 f x y W
 have hnn := fun (W : World) => run_neq_nilFunc Tryz.underlying55 W
 clear hb h hk
 go_enter Tryz.func19, Tryz.ntmps19
 go_wp2_with fail
 go_region_with (go_at_call 34; refine (term_kinds.calls _).mono ?_; rintro e w' ⟨rfl, rfl⟩)
 all_goals
  go_wp2_with (go_at_call 50; refine (term_kinds_1.calls 1 a0_1 a0_2 r _ H.out).mono ?_; rintro e w1 ⟨rfl, hb1⟩)
  go_ret
  exact ⟨rfl, Below.trans z34_ (hb1.mono (by simp; try omega))⟩
set_option maxRecDepth 100000 in
set_option maxHeartbeats 2000000 in
theorem term_May.calls2 (k : Nat) (a0_1 : ByteArray) (a0_2 : ByteArray) (r : Bool) (w : World) (h : term_kinds_2.f k 2 a0_1 a0_2 = some r) :
  Calls Tryz.prog 19 #[.agg #[.int .i64 2, .string a0_1, .string a0_2]] w fun e w' => e = .returned (.bool r) ∧ Below w.heap.size w w' := by
 have hb : ((w.alloc (.cells #[.int .i64 2, .string a0_1, .string a0_2] 31)).alloc (.map kindsMap 5)).heap[w.heap.size + 1]? = some (.map kindsMap 5) := by
  have := World.alloc_heap_new (w.alloc (.cells #[.int .i64 2, .string a0_1, .string a0_2] 31)) (.map kindsMap 5)
  rwa [World.size_alloc] at this
 have hl := look_kinds _ _ hb 2
 have hl2 := look_kinds (((w.alloc (.cells #[.int .i64 2, .string a0_1, .string a0_2] 31)).alloc (.map kindsMap 5)).drew) (w.heap.size + 1) hb 2
 have hk : kindsFn 2 = .func (.func 52) #[] #[] := rfl
 rw [hk] at hl hl2
 have H := Ad.mk h
 have hne := fun (f : Fn) (x y : Array Value) (W : World) => run_neq_func Tryz.underlying55 f x y W
 have hnn := fun (W : World) => run_neq_nilFunc Tryz.underlying55 W
 clear hb h hk
 go_enter Tryz.func19, Tryz.ntmps19
 go_wp2_with fail
 go_region_with (go_at_call 34; refine (term_kinds.calls _).mono ?_; rintro e w' ⟨rfl, rfl⟩)
 all_goals
  go_wp2_with (go_at_call 52; refine (term_kinds_2.calls k 2 a0_1 a0_2 r _ H.out).mono ?_; rintro e w1 ⟨rfl, hb1⟩)
  go_ret
  exact ⟨rfl, Below.trans z34_ (hb1.mono (by simp; try omega))⟩
set_option maxRecDepth 100000 in
set_option maxHeartbeats 2000000 in
theorem term_May.calls3 (k : Nat) (a0_1 : ByteArray) (a0_2 : ByteArray) (r : Bool) (w : World) (h : term_kinds_3.f 3 a0_1 a0_2 = some r) :
  Calls Tryz.prog 19 #[.agg #[.int .i64 3, .string a0_1, .string a0_2]] w fun e w' => e = .returned (.bool r) ∧ Below w.heap.size w w' := by
 have hb : ((w.alloc (.cells #[.int .i64 3, .string a0_1, .string a0_2] 31)).alloc (.map kindsMap 5)).heap[w.heap.size + 1]? = some (.map kindsMap 5) := by
  have := World.alloc_heap_new (w.alloc (.cells #[.int .i64 3, .string a0_1, .string a0_2] 31)) (.map kindsMap 5)
  rwa [World.size_alloc] at this
 have hl := look_kinds _ _ hb 3
 have hl2 := look_kinds (((w.alloc (.cells #[.int .i64 3, .string a0_1, .string a0_2] 31)).alloc (.map kindsMap 5)).drew) (w.heap.size + 1) hb 3
 have hk : kindsFn 3 = .func (.func 54) #[] #[] := rfl
 rw [hk] at hl hl2
 have H := Ad.mk h
 have hne := fun (f : Fn) (x y : Array Value) (W : World) => run_neq_func Tryz.underlying55 f x y W
 have hnn := fun (W : World) => run_neq_nilFunc Tryz.underlying55 W
 clear hb h hk
 go_enter Tryz.func19, Tryz.ntmps19
 go_wp2_with fail
 go_region_with (go_at_call 34; refine (term_kinds.calls _).mono ?_; rintro e w' ⟨rfl, rfl⟩)
 all_goals
  go_wp2_with (go_at_call 54; refine (term_kinds_3.calls 3 a0_1 a0_2 r _ H.out).mono ?_; rintro e w1 ⟨rfl, hb1⟩)
  go_ret
  exact ⟨rfl, Below.trans z34_ (hb1.mono (by simp; try omega))⟩
set_option maxRecDepth 100000 in
set_option maxHeartbeats 2000000 in
theorem term_May.calls4 (k : Nat) (a0_1 : ByteArray) (a0_2 : ByteArray) (r : Bool) (w : World) (h : term_kinds_4.f k 4 a0_1 a0_2 = some r) :
  Calls Tryz.prog 19 #[.agg #[.int .i64 4, .string a0_1, .string a0_2]] w fun e w' => e = .returned (.bool r) ∧ Below w.heap.size w w' := by
 have hb : ((w.alloc (.cells #[.int .i64 4, .string a0_1, .string a0_2] 31)).alloc (.map kindsMap 5)).heap[w.heap.size + 1]? = some (.map kindsMap 5) := by
  have := World.alloc_heap_new (w.alloc (.cells #[.int .i64 4, .string a0_1, .string a0_2] 31)) (.map kindsMap 5)
  rwa [World.size_alloc] at this
 have hl := look_kinds _ _ hb 4
 have hl2 := look_kinds (((w.alloc (.cells #[.int .i64 4, .string a0_1, .string a0_2] 31)).alloc (.map kindsMap 5)).drew) (w.heap.size + 1) hb 4
 have hk : kindsFn 4 = .func (.func 56) #[] #[] := rfl
 rw [hk] at hl hl2
 have H := Ad.mk h
 have hne := fun (f : Fn) (x y : Array Value) (W : World) => run_neq_func Tryz.underlying55 f x y W
 have hnn := fun (W : World) => run_neq_nilFunc Tryz.underlying55 W
 clear hb h hk
 go_enter Tryz.func19, Tryz.ntmps19
 go_wp2_with fail
 go_region_with (go_at_call 34; refine (term_kinds.calls _).mono ?_; rintro e w' ⟨rfl, rfl⟩)
 all_goals
  go_wp2_with (go_at_call 56; refine (term_kinds_4.calls k 4 a0_1 a0_2 r _ H.out).mono ?_; rintro e w1 ⟨rfl, hb1⟩)
  go_ret
  exact ⟨rfl, Below.trans z34_ (hb1.mono (by simp; try omega))⟩
set_option maxRecDepth 100000 in
set_option maxHeartbeats 2000000 in
theorem term_May.calls5 (k : Nat) (a0_1 : ByteArray) (a0_2 : ByteArray) (r : Bool) (w : World) (h : term_kinds_5.f 5 a0_1 a0_2 = some r) :
  Calls Tryz.prog 19 #[.agg #[.int .i64 5, .string a0_1, .string a0_2]] w fun e w' => e = .returned (.bool r) ∧ Below w.heap.size w w' := by
 have hb : ((w.alloc (.cells #[.int .i64 5, .string a0_1, .string a0_2] 31)).alloc (.map kindsMap 5)).heap[w.heap.size + 1]? = some (.map kindsMap 5) := by
  have := World.alloc_heap_new (w.alloc (.cells #[.int .i64 5, .string a0_1, .string a0_2] 31)) (.map kindsMap 5)
  rwa [World.size_alloc] at this
 have hl := look_kinds _ _ hb 5
 have hl2 := look_kinds (((w.alloc (.cells #[.int .i64 5, .string a0_1, .string a0_2] 31)).alloc (.map kindsMap 5)).drew) (w.heap.size + 1) hb 5
 have hk : kindsFn 5 = .func (.func 58) #[] #[] := rfl
 rw [hk] at hl hl2
 have H := Ad.mk h
 have hne := fun (f : Fn) (x y : Array Value) (W : World) => run_neq_func Tryz.underlying55 f x y W
 have hnn := fun (W : World) => run_neq_nilFunc Tryz.underlying55 W
 clear hb h hk
 go_enter Tryz.func19, Tryz.ntmps19
 go_wp2_with fail
 go_region_with (go_at_call 34; refine (term_kinds.calls _).mono ?_; rintro e w' ⟨rfl, rfl⟩)
 all_goals
  go_wp2_with (go_at_call 58; refine (term_kinds_5.calls 5 a0_1 a0_2 r _ H.out).mono ?_; rintro e w1 ⟨rfl, hb1⟩)
  go_ret
  exact ⟨rfl, Below.trans z34_ (hb1.mono (by simp; try omega))⟩
set_option maxRecDepth 100000 in
set_option maxHeartbeats 2000000 in
theorem term_May.calls0 (a0_0 : Int) (a0_1 : ByteArray) (a0_2 : ByteArray) (w : World) (h : ¬ (a0_0 = 1 ∨ a0_0 = 2 ∨ a0_0 = 3 ∨ a0_0 = 4 ∨ a0_0 = 5)) :
  Calls Tryz.prog 19 #[.agg #[.int .i64 a0_0, .string a0_1, .string a0_2]] w fun e w' => e = .returned (.bool false) ∧ Below w.heap.size w w' := by
 have hb : ((w.alloc (.cells #[.int .i64 a0_0, .string a0_1, .string a0_2] 31)).alloc (.map kindsMap 5)).heap[w.heap.size + 1]? = some (.map kindsMap 5) := by
  have := World.alloc_heap_new (w.alloc (.cells #[.int .i64 a0_0, .string a0_1, .string a0_2] 31)) (.map kindsMap 5)
  rwa [World.size_alloc] at this
 have hl := look_kinds _ _ hb a0_0
 have hl2 := look_kinds (((w.alloc (.cells #[.int .i64 a0_0, .string a0_1, .string a0_2] 31)).alloc (.map kindsMap 5)).drew) (w.heap.size + 1) hb a0_0
 have hk : kindsFn a0_0 = .nilFunc := by
  unfold kindsFn
  rw [if_neg (by omega), if_neg (by omega), if_neg (by omega), if_neg (by omega), if_neg (by omega)]
 rw [hk] at hl hl2
 have hne := fun (f : Fn) (x y : Array Value) (W : World) => run_neq_func Tryz.underlying55 f x y W
 have hnn := fun (W : World) => run_neq_nilFunc Tryz.underlying55 W
 clear hb h hk
 go_enter Tryz.func19, Tryz.ntmps19
 go_wp2_with fail
 go_region_with (go_at_call 34; refine (term_kinds.calls _).mono ?_; rintro e w' ⟨rfl, rfl⟩)
 all_goals
  go_wp2
  go_ret
  exact ⟨rfl, z34_⟩
theorem term_May.calls (k : Nat) (a0_0 : Int) (a0_1 : ByteArray) (a0_2 : ByteArray) (r : Bool) (w : World) (h : term_May.f k a0_0 a0_1 a0_2 = some r) :
  Calls Tryz.prog 19 #[.agg #[.int .i64 a0_0, .string a0_1, .string a0_2]] w fun e w' => e = .returned (.bool r) ∧ Below w.heap.size w w' := by
 unfold term_May.f at h
 by_cases h1 : a0_0 = 1
 ·subst h1; rw [if_pos rfl] at h; exact term_May.calls1 k a0_1 a0_2 r w h
 rw [if_neg h1] at h
 by_cases h2 : a0_0 = 2
 ·subst h2; rw [if_pos rfl] at h; exact term_May.calls2 k a0_1 a0_2 r w h
 rw [if_neg h2] at h
 by_cases h3 : a0_0 = 3
 ·subst h3; rw [if_pos rfl] at h; exact term_May.calls3 k a0_1 a0_2 r w h
 rw [if_neg h3] at h
 by_cases h4 : a0_0 = 4
 ·subst h4; rw [if_pos rfl] at h; exact term_May.calls4 k a0_1 a0_2 r w h
 rw [if_neg h4] at h
 by_cases h5 : a0_0 = 5
 ·subst h5; rw [if_pos rfl] at h; exact term_May.calls5 k a0_1 a0_2 r w h
 rw [if_neg h5] at h
 obtain rfl := Option.some.inj h
 exact term_May.calls0 a0_0 a0_1 a0_2 w (by omega)
def ls_fail.f (s0_0 : ByteArray) (s0_1 : Int) (a1 : Int) : Option (ByteArray × Int) := none
theorem ls_fail.calls (g : Nat) (s0_0 : ByteArray) (s0_1 : Int) (a1 : Int) (r1 : ByteArray) (r2 : Int) (w0 w : World) (hI : IsS73 w0 w g s0_0 s0_1) (hB : Below w0.heap.size w0 w) (h : ls_fail.f s0_0 s0_1 a1 = some (r1, r2)) :
  Calls Tryz.prog 76 #[.pointer (some ⟨g, 0, none⟩), .int .i64 a1] w fun e w' => e = .returned (.tuple #[]) ∧ IsS73 w0 w' g r1 r2 ∧ Below w0.heap.size w0 w' ∧ KeepBut w w' g none := by
 cases h
mutual
def ls_quoted.l0 : Nat → Int → Bool → List Int → ByteArray → Int → Option (ByteArray × ByteArray × Int)
 | 0, _, _, _, _, _ => none
 | k + 1, x1, x2, x8, x1000, x1001 => (ls_ch.f x1000 x1001 x1001).bind fun bt131 => (if bt131.1 = x1 then (some (strOfNums x8, bt131.2.1, wrap64 (bt131.2.2 + 1))) else ((ls_ch.f bt131.2.1 bt131.2.2 bt131.2.2).bind fun bt134 => (if bt134.2.2 ≥ (bt134.2.1.size : Int) then (none) else (if x2 = true then (if bt134.1 = 10 then (none) else (ls_quoted.j1 k x1 x2 x8 bt134.1 (bt134.1 == 13) bt134.2.1 bt134.2.2)) else (ls_quoted.j1 k x1 x2 x8 bt134.1 false bt134.2.1 bt134.2.2)))))
def ls_quoted.j1 : Nat → Int → Bool → List Int → Int → Bool → ByteArray → Int → Option (ByteArray × ByteArray × Int)
 | 0, _, _, _, _, _, _, _ => none
 | k + 1, x1, x2, x8, x9, x46, x1000, x1001 => if x46 = true then (none) else (if x9 = 92 then (none) else (if x8.length < 140737488355328 then (ls_quoted.l0 k x1 x2 (x8 ++ [x9]) x1000 (wrap64 (x1001 + 1))) else (none)))
end
def ls_quoted.f (k : Nat) (s0_0 : ByteArray) (s0_1 : Int) (a1 : Int) (a2 : Bool) : Option (ByteArray × ByteArray × Int) := ls_quoted.l0 k a1 a2 ([] : List Int) s0_0 (wrap64 (s0_1 + 1))
theorem ls_quoted.calls (k : Nat) (g : Nat) (s0_0 : ByteArray) (s0_1 : Int) (a1 : Int) (a2 : Bool) (r1 : ByteArray) (r2 : ByteArray) (r3 : Int) (w0 w : World) (hI : IsS73 w0 w g s0_0 s0_1) (hB : Below w0.heap.size w0 w) (h : ls_quoted.f k s0_0 s0_1 a1 a2 = some (r1, r2, r3)) :
  Calls Tryz.prog 85 #[.pointer (some ⟨g, 0, none⟩), .int .u8 a1, .bool a2] w fun e w' => e = .returned (.string r1) ∧ IsS73 w0 w' g r2 r3 ∧ Below w0.heap.size w0 w' ∧ KeepBut w w' g none := by
 have HI0 := Ad.mk hI
 have HK := Ad.mk (KeepBut.refl w g none)
 have HL := Ad.mk hB.size
 clear hI
 have HW0 := Ad.mk hB.size
 have HB := Ad.mk hB
 clear hB
 have H := h
 clear h
 unfold ls_quoted.f at H
 have H' := Ad.mk H
 clear H
 obtain ⟨HGz4, hgz4⟩ := HI0.out
 have hcz4_0 := cellS73_0 HGz4
 have hcz4_1 := cellS73_1 HGz4
 have hfz4_0 := blk_frozen HGz4 0
 have hfz4_1 := blk_frozen HGz4 1
 clear HGz4 hgz4
 go_enter Tryz.func85, Tryz.ntmps85
 go_wp2
 repeat (go_quiet (fail); try go_wp2)
 go_loopg [8] k (fun kq v8 w' => ∃ (x8_1 : List Int) (x1000_1 : ByteArray) (x1001_1 : Int), Ad (ls_quoted.l0 kq a1 a2 x8_1 x1000_1 x1001_1 = some (r1, r2, r3)) ∧ Ad (kq ≤ k) ∧ Ad (Kd.R (Kd.int .u8) 5 w' w.heap.size (fun _ => True) v8 x8_1) ∧ Ad (IsS73 w0 w' g x1000_1 x1001_1) ∧ Ad (KeepBut w w' g none) ∧ Ad (Below w0.heap.size w0 w'))
 case atStart => exact ⟨(([] : List Int)), (s0_0), (wrap64 (s0_1 + 1)), H', ⟨Nat.le_refl _⟩, ⟨z24_⟩, ⟨by have G0 := HI0; exact z8_⟩, ⟨z9_⟩, ⟨by have G0 := HI0; exact z10_⟩⟩
 case round =>
  clear H'
  try clear p2
  try clear hcz4_0
  try clear hcz4_1
  try clear hfz4_0
  try clear hfz4_1
  obtain ⟨x8_1, x1000_1, x1001_1, HA, HK1, HO_8, HI0, HK, HB⟩ := hrel
  cases gk with
  | zero => exact absurd HA.out (by simp [ls_quoted.l0])
  | succ k1 =>
   have H := HA.out
   clear HA
   simp only [ls_quoted.l0] at H
   obtain ⟨⟨t131, t132, t133⟩, A5, H⟩ := bi_ H
   try dsimp only at H
   by_cases c6 : t131 = a1
   ·rw [if_pos c6] at H
    have c6b0 := beq_iff_eq.mpr c6
    have c6b1 := bne_eq_false_iff_eq.mpr c6
    clear c6
    simp only [Option.some.injEq, Prod.mk.injEq] at H
    obtain ⟨rfl, rfl, rfl⟩ := H
    obtain ⟨HGz7, hgz7⟩ := HI0.out
    have hcz7_0 := cellS73_0 HGz7
    have hcz7_1 := cellS73_1 HGz7
    have hfz7_0 := blk_frozen HGz7 0
    have hfz7_1 := blk_frozen HGz7 1
    clear HGz7 hgz7
    go_wp2_with (first | (go_at_call 84; (with_reducible refine (ls_ch.calls g x1000_1 x1001_1 x1001_1 t131 t132 t133 w0 _ ?side1 ?side2 A5.out).mono ?_); (case side1 => exact (by have G0 := HI0; exact z8_)); (case side2 => exact (by have G0 := HI0; exact z10_)); rintro e w8 ⟨rfl, hi, hb, hk⟩; replace HO_8 := Ad.mk (Kd.R_mono (Kd.R_keep (IsS73.apart (show IsS73 w0 _ g x1000_1 x1001_1 from by have G0 := HI0; exact z8_) (by have G0 := HO_8; exact z3_) (by decide)) hk (fun _ h => h.2)) (fun _ h => h.1)); replace HK := Ad.mk (KeepBut.trans z9_ hk (.inl rfl)); replace HB := Ad.mk (hb); replace HI0 := Ad.mk (hi); clear hb hk hi; obtain ⟨HGz9, hgz9⟩ := HI0.out; have hcz9_0 := cellS73_0 HGz9; have hcz9_1 := cellS73_1 HGz9; have hfz9_0 := blk_frozen HGz9 0; have hfz9_1 := blk_frozen HGz9 1; clear HGz9 hgz9; have hcv10 := own_string (P := Tryz.prog) Tryz.underlying88 Tryz.underlying5 Tryz.underlying9 (Kd.own_of_R HO_8.out); have hcv10s := fun (v_ : Value) => own_string (P := Tryz.prog) Tryz.underlying88 Tryz.underlying5 Tryz.underlying9 (Kd.own_of_R (Kd.R_far (p := ⟨g, 1, none⟩) (IsS73.apart HI0.out HO_8.out (by decide)) (fun _ hk => hk.2) v_))))
    repeat (go_quiet (first | (go_at_call 84; (with_reducible refine (ls_ch.calls g x1000_1 x1001_1 x1001_1 t131 t132 t133 w0 _ ?side1 ?side2 A5.out).mono ?_); (case side1 => exact (by have G0 := HI0; exact z8_)); (case side2 => exact (by have G0 := HI0; exact z10_)); rintro e w8 ⟨rfl, hi, hb, hk⟩; replace HO_8 := Ad.mk (Kd.R_mono (Kd.R_keep (IsS73.apart (show IsS73 w0 _ g x1000_1 x1001_1 from by have G0 := HI0; exact z8_) (by have G0 := HO_8; exact z3_) (by decide)) hk (fun _ h => h.2)) (fun _ h => h.1)); replace HK := Ad.mk (KeepBut.trans z9_ hk (.inl rfl)); replace HB := Ad.mk (hb); replace HI0 := Ad.mk (hi); clear hb hk hi; obtain ⟨HGz9, hgz9⟩ := HI0.out; have hcz9_0 := cellS73_0 HGz9; have hcz9_1 := cellS73_1 HGz9; have hfz9_0 := blk_frozen HGz9 0; have hfz9_1 := blk_frozen HGz9 1; clear HGz9 hgz9; have hcv10 := own_string (P := Tryz.prog) Tryz.underlying88 Tryz.underlying5 Tryz.underlying9 (Kd.own_of_R HO_8.out); have hcv10s := fun (v_ : Value) => own_string (P := Tryz.prog) Tryz.underlying88 Tryz.underlying5 Tryz.underlying9 (Kd.own_of_R (Kd.R_far (p := ⟨g, 1, none⟩) (IsS73.apart HI0.out HO_8.out (by decide)) (fun _ hk => hk.2) v_)))); try go_wp2_with (first | (go_at_call 84; (with_reducible refine (ls_ch.calls g x1000_1 x1001_1 x1001_1 t131 t132 t133 w0 _ ?side1 ?side2 A5.out).mono ?_); (case side1 => exact (by have G0 := HI0; exact z8_)); (case side2 => exact (by have G0 := HI0; exact z10_)); rintro e w8 ⟨rfl, hi, hb, hk⟩; replace HO_8 := Ad.mk (Kd.R_mono (Kd.R_keep (IsS73.apart (show IsS73 w0 _ g x1000_1 x1001_1 from by have G0 := HI0; exact z8_) (by have G0 := HO_8; exact z3_) (by decide)) hk (fun _ h => h.2)) (fun _ h => h.1)); replace HK := Ad.mk (KeepBut.trans z9_ hk (.inl rfl)); replace HB := Ad.mk (hb); replace HI0 := Ad.mk (hi); clear hb hk hi; obtain ⟨HGz9, hgz9⟩ := HI0.out; have hcz9_0 := cellS73_0 HGz9; have hcz9_1 := cellS73_1 HGz9; have hfz9_0 := blk_frozen HGz9 0; have hfz9_1 := blk_frozen HGz9 1; clear HGz9 hgz9; have hcv10 := own_string (P := Tryz.prog) Tryz.underlying88 Tryz.underlying5 Tryz.underlying9 (Kd.own_of_R HO_8.out); have hcv10s := fun (v_ : Value) => own_string (P := Tryz.prog) Tryz.underlying88 Tryz.underlying5 Tryz.underlying9 (Kd.own_of_R (Kd.R_far (p := ⟨g, 1, none⟩) (IsS73.apart HI0.out HO_8.out (by decide)) (fun _ hk => hk.2) v_)))))
    go_ret
    exact ⟨e2_, by have G0 := HI0; exact z8_, by have G0 := HI0; exact z10_, z9_⟩
   rw [if_neg c6] at H
   have c6b0 := beq_eq_false_iff_ne.mpr c6
   have c6b1 := bne_iff_ne.mpr c6
   obtain ⟨⟨t134, t135, t136⟩, A11, H⟩ := bi_ H
   try dsimp only at H
   have HC12 := Ad.mk H
   clear H
   obtain ⟨HGz13, hgz13⟩ := HI0.out
   have hcz13_0 := cellS73_0 HGz13
   have hcz13_1 := cellS73_1 HGz13
   have hfz13_0 := blk_frozen HGz13 0
   have hfz13_1 := blk_frozen HGz13 1
   clear HGz13 hgz13
   go_upto_region 8 with (first | (go_at_call 84; (with_reducible refine (ls_ch.calls g x1000_1 x1001_1 x1001_1 t131 t132 t133 w0 _ ?side1 ?side2 A5.out).mono ?_); (case side1 => exact (by have G0 := HI0; exact z8_)); (case side2 => exact (by have G0 := HI0; exact z10_)); rintro e w14 ⟨rfl, hi, hb, hk⟩; replace HO_8 := Ad.mk (Kd.R_mono (Kd.R_keep (IsS73.apart (show IsS73 w0 _ g x1000_1 x1001_1 from by have G0 := HI0; exact z8_) (by have G0 := HO_8; exact z3_) (by decide)) hk (fun _ h => h.2)) (fun _ h => h.1)); replace HK := Ad.mk (KeepBut.trans z9_ hk (.inl rfl)); replace HB := Ad.mk (hb); replace HI0 := Ad.mk (hi); clear hb hk hi; obtain ⟨HGz15, hgz15⟩ := HI0.out; have hcz15_0 := cellS73_0 HGz15; have hcz15_1 := cellS73_1 HGz15; have hfz15_0 := blk_frozen HGz15 0; have hfz15_1 := blk_frozen HGz15 1; clear HGz15 hgz15) | (go_at_call 84; (with_reducible refine (ls_ch.calls g t132 t133 t133 t134 t135 t136 w0 _ ?side1 ?side2 A11.out).mono ?_); (case side1 => exact (by have G0 := HI0; exact z8_)); (case side2 => exact (by have G0 := HI0; exact z10_)); rintro e w16 ⟨rfl, hi, hb, hk⟩; replace HO_8 := Ad.mk (Kd.R_mono (Kd.R_keep (IsS73.apart (show IsS73 w0 _ g t132 t133 from by have G0 := HI0; exact z8_) (by have G0 := HO_8; exact z3_) (by decide)) hk (fun _ h => h.2)) (fun _ h => h.1)); replace HK := Ad.mk (KeepBut.trans z9_ hk (.inl rfl)); replace HB := Ad.mk (hb); replace HI0 := Ad.mk (hi); clear hb hk hi))
   repeat (go_quiet (first | (go_at_call 84; (with_reducible refine (ls_ch.calls g x1000_1 x1001_1 x1001_1 t131 t132 t133 w0 _ ?side1 ?side2 A5.out).mono ?_); (case side1 => exact (by have G0 := HI0; exact z8_)); (case side2 => exact (by have G0 := HI0; exact z10_)); rintro e w14 ⟨rfl, hi, hb, hk⟩; replace HO_8 := Ad.mk (Kd.R_mono (Kd.R_keep (IsS73.apart (show IsS73 w0 _ g x1000_1 x1001_1 from by have G0 := HI0; exact z8_) (by have G0 := HO_8; exact z3_) (by decide)) hk (fun _ h => h.2)) (fun _ h => h.1)); replace HK := Ad.mk (KeepBut.trans z9_ hk (.inl rfl)); replace HB := Ad.mk (hb); replace HI0 := Ad.mk (hi); clear hb hk hi; obtain ⟨HGz15, hgz15⟩ := HI0.out; have hcz15_0 := cellS73_0 HGz15; have hcz15_1 := cellS73_1 HGz15; have hfz15_0 := blk_frozen HGz15 0; have hfz15_1 := blk_frozen HGz15 1; clear HGz15 hgz15) | (go_at_call 84; (with_reducible refine (ls_ch.calls g t132 t133 t133 t134 t135 t136 w0 _ ?side1 ?side2 A11.out).mono ?_); (case side1 => exact (by have G0 := HI0; exact z8_)); (case side2 => exact (by have G0 := HI0; exact z10_)); rintro e w16 ⟨rfl, hi, hb, hk⟩; replace HO_8 := Ad.mk (Kd.R_mono (Kd.R_keep (IsS73.apart (show IsS73 w0 _ g t132 t133 from by have G0 := HI0; exact z8_) (by have G0 := HO_8; exact z3_) (by decide)) hk (fun _ h => h.2)) (fun _ h => h.1)); replace HK := Ad.mk (KeepBut.trans z9_ hk (.inl rfl)); replace HB := Ad.mk (hb); replace HI0 := Ad.mk (hi); clear hb hk hi)); go_upto_region 8 with (first | (go_at_call 84; (with_reducible refine (ls_ch.calls g x1000_1 x1001_1 x1001_1 t131 t132 t133 w0 _ ?side1 ?side2 A5.out).mono ?_); (case side1 => exact (by have G0 := HI0; exact z8_)); (case side2 => exact (by have G0 := HI0; exact z10_)); rintro e w14 ⟨rfl, hi, hb, hk⟩; replace HO_8 := Ad.mk (Kd.R_mono (Kd.R_keep (IsS73.apart (show IsS73 w0 _ g x1000_1 x1001_1 from by have G0 := HI0; exact z8_) (by have G0 := HO_8; exact z3_) (by decide)) hk (fun _ h => h.2)) (fun _ h => h.1)); replace HK := Ad.mk (KeepBut.trans z9_ hk (.inl rfl)); replace HB := Ad.mk (hb); replace HI0 := Ad.mk (hi); clear hb hk hi; obtain ⟨HGz15, hgz15⟩ := HI0.out; have hcz15_0 := cellS73_0 HGz15; have hcz15_1 := cellS73_1 HGz15; have hfz15_0 := blk_frozen HGz15 0; have hfz15_1 := blk_frozen HGz15 1; clear HGz15 hgz15) | (go_at_call 84; (with_reducible refine (ls_ch.calls g t132 t133 t133 t134 t135 t136 w0 _ ?side1 ?side2 A11.out).mono ?_); (case side1 => exact (by have G0 := HI0; exact z8_)); (case side2 => exact (by have G0 := HI0; exact z10_)); rintro e w16 ⟨rfl, hi, hb, hk⟩; replace HO_8 := Ad.mk (Kd.R_mono (Kd.R_keep (IsS73.apart (show IsS73 w0 _ g t132 t133 from by have G0 := HI0; exact z8_) (by have G0 := HO_8; exact z3_) (by decide)) hk (fun _ h => h.2)) (fun _ h => h.1)); replace HK := Ad.mk (KeepBut.trans z9_ hk (.inl rfl)); replace HB := Ad.mk (hb); replace HI0 := Ad.mk (hi); clear hb hk hi)))
   (try simp only [Act.put, List.setIfInBounds_toArray, List.set_cons_zero, List.set_cons_succ])
   go_cut [46] (fun v46 wc => ∃ (kq : Nat) (x46_11 : Bool), v46 = .bool x46_11 ∧ Ad (ls_quoted.j1 kq a1 a2 x8_1 t134 x46_11 t135 t136 = some (r1, r2, r3)) ∧ Ad (kq ≤ k1) ∧ Ad (Kd.R (Kd.int .u8) 5 wc w.heap.size (fun _ => True) u8 x8_1) ∧ Ad (IsS73 w0 wc g t135 t136) ∧ Ad (KeepBut w wc g none) ∧ Ad (Below w0.heap.size w0 wc))
   case first =>
    have H := HC12.out
    clear HC12
    by_cases c17 : t136 ≥ (t135.size : Int)
    ·rw [if_pos c17] at H
     exact absurd H (by simp)
    rw [if_neg c17] at H
    have c17b0 : decide ((t135.size : Int) ≤ t136) = false := decide_eq_false c17
    clear c17
    (first | rw [c17b0] | (simp only [i64_w, i32_w]; rw [c17b0]) | skip)
    by_cases c18 : a2 = true
    ·subst c18
     rw [if_pos rfl] at H
     by_cases c19 : t134 = 10
     ·rw [if_pos c19] at H
      exact absurd H (by simp)
     rw [if_neg c19] at H
     have c19b0 := beq_eq_false_iff_ne.mpr c19
     have c19b1 := bne_iff_ne.mpr c19
     have H' := Ad.mk H
     clear H
     obtain ⟨HGz20, hgz20⟩ := HI0.out
     have hcz20_0 := cellS73_0 HGz20
     have hcz20_1 := cellS73_1 HGz20
     have hfz20_0 := blk_frozen HGz20 0
     have hfz20_1 := blk_frozen HGz20 1
     clear HGz20 hgz20
     go_wp2
     repeat (go_quiet (fail); try go_wp2)
     go_meet
     case rel => exact ⟨_, ((t134 == 13)), e1_, H', ⟨o1_⟩, ⟨by have G0 := HO_8; exact z3_⟩, ⟨by have G0 := HI0; exact z8_⟩, ⟨z9_⟩, ⟨by have G0 := HI0; exact z10_⟩⟩
    replace c18 := Bool.eq_false_iff.mpr c18
    subst c18
    rw [if_neg (show ¬ (false = true) by decide)] at H
    have H' := Ad.mk H
    clear H
    obtain ⟨HGz21, hgz21⟩ := HI0.out
    have hcz21_0 := cellS73_0 HGz21
    have hcz21_1 := cellS73_1 HGz21
    have hfz21_0 := blk_frozen HGz21 0
    have hfz21_1 := blk_frozen HGz21 1
    clear HGz21 hgz21
    go_wp2
    repeat (go_quiet (fail); try go_wp2)
    go_meet
    case rel => exact ⟨_, (false), e1_, H', ⟨o1_⟩, ⟨by have G0 := HO_8; exact z3_⟩, ⟨by have G0 := HI0; exact z8_⟩, ⟨z9_⟩, ⟨by have G0 := HI0; exact z10_⟩⟩
   case rest =>
    clear HC12
    try clear p2
    try clear c6
    try clear c6b0
    try clear c6b1
    try clear hcv10
    try clear hcz13_0
    try clear hcz13_1
    try clear hcz15_0
    try clear hcz15_1
    try clear hcz4_0
    try clear hcz4_1
    try clear hcz7_0
    try clear hcz7_1
    try clear hcz9_0
    try clear hcz9_1
    try clear hfz13_0
    try clear hfz13_1
    try clear hfz15_0
    try clear hfz15_1
    try clear hfz4_0
    try clear hfz4_1
    try clear hfz7_0
    try clear hfz7_1
    try clear hfz9_0
    try clear hfz9_1
    try clear p2
    obtain ⟨kq, x46_11, rfl, HA, HJ11, HO_8, HI0, HK, HB⟩ := hcut
    cases kq with
    | zero => exact absurd HA.out (by simp [ls_quoted.j1])
    | succ kj11 =>
     have H := HA.out
     clear HA
     simp only [ls_quoted.j1] at H
     by_cases c22 : x46_11 = true
     ·subst c22
      rw [if_pos rfl] at H
      exact absurd H (by simp)
     replace c22 := Bool.eq_false_iff.mpr c22
     subst c22
     rw [if_neg (show ¬ (false = true) by decide)] at H
     by_cases c23 : t134 = 92
     ·rw [if_pos c23] at H
      exact absurd H (by simp)
     rw [if_neg c23] at H
     have c23b0 := beq_eq_false_iff_ne.mpr c23
     have c23b1 := bne_iff_ne.mpr c23
     by_cases c24 : x8_1.length < 140737488355328
     ·rw [if_pos c24] at H
      have LMc24 := Ad.mk c24
      clear c24
      generalize hy137 : (x8_1 ++ [t134]) = y137 at H
      replace hy137 := hy137.symm
      have Ny137 := Ad.mk hy137
      clear hy137
      have H' := Ad.mk H
      clear H
      go_wp2_with (first | ((with_reducible refine gate_builtin (b := .append) (xs := #[(.tmp 35), .tmp 37]) rfl ?_); at_builtin; refine Kd.R_append (Kd.int .u8) w.heap.size rfl (.tmp 35) (.tmp 37) 88 5 (.int .u8 0) 1 rfl Tryz.underlying88 info5 rfl (by decide) (by omega) u8 x8_1 t134 [.int .u8 t134] (fun _ => True) (fun _ => False) rfl rfl ?aP (fun _ hk => hk.elim) ?aF ?aO (Below.refl _ _) ?aS ?aL ?_; (case aP => exact rfl); (case aF => exact (fun _ _ => trivial)); (case aO => exact (by have G0 := HO_8; exact z3_)); (case aS => exact (keep_size (w := w) (g := g) (row := none) z9_)); (case aL => have := LMc24.out; omega); intro v138 w25 ho hb hg hat; rw [← Ny137.out] at ho; have n0_ := Ad.mk (IsS73.grown (by have G0 := HI0; exact z8_) hg (IsS73.own_ne HI0.out HO_8.out (by decide))); have n1_ := Ad.mk (below_weaken (by have G0 := HI0; exact z10_) HL.out hb); have n2_ := Ad.mk (KeepBut.trans z9_ (KeepBut.of_grown hg g) (Kd.R_base2 HO_8.out)); have n3_ := Ad.mk (ho); clear HI0; clear HB; clear HK; clear HO_8; have HI0 := n0_; have HB := n1_; have HK := n2_; have HO139 := n3_; clear n0_ n1_ n2_ n3_; clear ho hb hg hat; obtain ⟨HGz26, hgz26⟩ := HI0.out; have hcz26_0 := cellS73_0 HGz26; have hcz26_1 := cellS73_1 HGz26; have hfz26_0 := blk_frozen HGz26 0; have hfz26_1 := blk_frozen HGz26 1; clear HGz26 hgz26))
      repeat (go_quiet (first | ((with_reducible refine gate_builtin (b := .append) (xs := #[(.tmp 35), .tmp 37]) rfl ?_); at_builtin; refine Kd.R_append (Kd.int .u8) w.heap.size rfl (.tmp 35) (.tmp 37) 88 5 (.int .u8 0) 1 rfl Tryz.underlying88 info5 rfl (by decide) (by omega) u8 x8_1 t134 [.int .u8 t134] (fun _ => True) (fun _ => False) rfl rfl ?aP (fun _ hk => hk.elim) ?aF ?aO (Below.refl _ _) ?aS ?aL ?_; (case aP => exact rfl); (case aF => exact (fun _ _ => trivial)); (case aO => exact (by have G0 := HO_8; exact z3_)); (case aS => exact (keep_size (w := w) (g := g) (row := none) z9_)); (case aL => have := LMc24.out; omega); intro v138 w25 ho hb hg hat; rw [← Ny137.out] at ho; have n0_ := Ad.mk (IsS73.grown (by have G0 := HI0; exact z8_) hg (IsS73.own_ne HI0.out HO_8.out (by decide))); have n1_ := Ad.mk (below_weaken (by have G0 := HI0; exact z10_) HL.out hb); have n2_ := Ad.mk (KeepBut.trans z9_ (KeepBut.of_grown hg g) (Kd.R_base2 HO_8.out)); have n3_ := Ad.mk (ho); clear HI0; clear HB; clear HK; clear HO_8; have HI0 := n0_; have HB := n1_; have HK := n2_; have HO139 := n3_; clear n0_ n1_ n2_ n3_; clear ho hb hg hat; obtain ⟨HGz26, hgz26⟩ := HI0.out; have hcz26_0 := cellS73_0 HGz26; have hcz26_1 := cellS73_1 HGz26; have hfz26_0 := blk_frozen HGz26 0; have hfz26_1 := blk_frozen HGz26 1; clear HGz26 hgz26)); try go_wp2_with (first | ((with_reducible refine gate_builtin (b := .append) (xs := #[(.tmp 35), .tmp 37]) rfl ?_); at_builtin; refine Kd.R_append (Kd.int .u8) w.heap.size rfl (.tmp 35) (.tmp 37) 88 5 (.int .u8 0) 1 rfl Tryz.underlying88 info5 rfl (by decide) (by omega) u8 x8_1 t134 [.int .u8 t134] (fun _ => True) (fun _ => False) rfl rfl ?aP (fun _ hk => hk.elim) ?aF ?aO (Below.refl _ _) ?aS ?aL ?_; (case aP => exact rfl); (case aF => exact (fun _ _ => trivial)); (case aO => exact (by have G0 := HO_8; exact z3_)); (case aS => exact (keep_size (w := w) (g := g) (row := none) z9_)); (case aL => have := LMc24.out; omega); intro v138 w25 ho hb hg hat; rw [← Ny137.out] at ho; have n0_ := Ad.mk (IsS73.grown (by have G0 := HI0; exact z8_) hg (IsS73.own_ne HI0.out HO_8.out (by decide))); have n1_ := Ad.mk (below_weaken (by have G0 := HI0; exact z10_) HL.out hb); have n2_ := Ad.mk (KeepBut.trans z9_ (KeepBut.of_grown hg g) (Kd.R_base2 HO_8.out)); have n3_ := Ad.mk (ho); clear HI0; clear HB; clear HK; clear HO_8; have HI0 := n0_; have HB := n1_; have HK := n2_; have HO139 := n3_; clear n0_ n1_ n2_ n3_; clear ho hb hg hat; obtain ⟨HGz26, hgz26⟩ := HI0.out; have hcz26_0 := cellS73_0 HGz26; have hcz26_1 := cellS73_1 HGz26; have hfz26_0 := blk_frozen HGz26 0; have hfz26_1 := blk_frozen HGz26 1; clear HGz26 hgz26)))
      go_roundg kj11
      case measure => have := HK1.out; have := HJ11.out; omega
      case rel => exact ⟨(y137), (t135), (wrap64 (t136 + 1)), H', ⟨by have := HK1.out; have := HJ11.out; omega⟩, ⟨by (with_reducible repeat (first | apply Kd.R_alloc | apply Kd.R_drewN | apply Kd.R_drew)); exact Kd.R_mono (Kd.R_far (p := ⟨g, 1, none⟩) (IsS73.apart HI0.out HO139.out (by decide)) (fun _ hk => hk.2) (.int .i64 (wrap64 (t136 + 1)))) (fun _ hk => trivial)⟩, ⟨by have G0 := HI0; exact z8_⟩, ⟨z9_⟩, ⟨by have G0 := HI0; exact z10_⟩⟩
     rw [if_neg c24] at H
     exact absurd H (by simp)
end Go.Proofs.YtpbphelaeleikaaGreatDoor.PLt

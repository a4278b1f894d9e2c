import Derived.Test.YtjnhdamilbcmpaaDoorCuPTmx0
import Derived.Test.YtjnhdamilbcmpaaDoorCuPTmx3
import Derived.Test.YtjnhdamilbcmpaaDoorCuPTmx4
import Derived.Test.YtjnhdamilbcmpaaDoorCuPTmx5
namespace Go.Proofs.YtjnhdamilbcmpaaDoor.PTm
open Go.RowKit Go.Proofs.YtjnhdamilbcmpaaDoorW.PrintWords Go.Proofs.YtjnhdamilbcmpaaDoorW.PrintLast Go.Proofs.YtjnhdamilbcmpaaDoorW.PrintMore
attribute [local go_sem] max2_int min2_int max_two min_two max_three min_three max_four min_four
set_option linter.unusedVariables false
set_option linter.unusedSimpArgs false
set_option maxHeartbeats 8000000
set_option maxRecDepth 100000
def ls_run.is (fn : Nat) (i c : Int) : Option Bool := if fn = 66 then lex_named.f i c else if fn = 67 then ls_lang_1.f i c else if fn = 70 then ls_word_1.f i c else none
def ls_run.l0 : Nat → Nat → Int → ByteArray → Int → Option Int
 | 0, _, _, _, _ => none
 | k + 1, fn, b0, s, a => if a < (s.size : Int) then (if 0 ≤ a then (ls_run.is fn (wrap64 (a - b0)) (bt s a)).bind fun b => if b = true then ls_run.l0 k fn b0 s (wrap64 (a + 1)) else some a else none) else some a
def ls_run.f (k : Nat) (s0_0 : ByteArray) (s0_1 a1 a2 : Int) (a3 : Nat) : Option (ByteArray × ByteArray × Int) := if a3 = 66 ∨ a3 = 67 ∨ a3 = 70 then (ls_run.l0 k a3 s0_1 s0_0 s0_1).bind fun e => if wrap64 (e - s0_1) > a2 then none else if 0 ≤ s0_1 then (if s0_1 ≤ e then (if e ≤ (s0_0.size : Int) then some (s0_0.extract s0_1.toNat e.toNat, s0_0, e) else none) else none) else none else none
set_option maxHeartbeats 4000000 in
set_option maxRecDepth 100000 in
theorem ls_run.c0 (k : Nat) (g : Nat) (s0_0 : ByteArray) (s0_1 a1 a2 e : Int) (w0 w : World) (hI : IsS65 w0 w g s0_0 s0_1) (hB : Below w0.heap.size w0 w) (he : ls_run.l0 k 66 s0_1 s0_0 s0_1 = some e) (hl : Ad (¬ wrap64 (e - s0_1) > a2)) (c4 : Ad (0 ≤ s0_1)) (c5 : Ad (s0_1 ≤ e)) (c6 : Ad (e ≤ (s0_0.size : Int))) :
  Calls Tryd.prog 65 #[.pointer (some ⟨g, 0, none⟩), .int .i64 a1, .int .i64 a2, .func (.func 66) #[] #[]] w fun e' w' => e' = .returned (.string (s0_0.extract s0_1.toNat e.toNat)) ∧ IsS65 w0 w' g s0_0 e ∧ Below w0.heap.size w0 w' ∧ KeepBut w w' g none := by
 have HI0 := Ad.mk hI
 have HK := Ad.mk (KeepBut.refl w g none)
 have HW0 := Ad.mk hB.size
 have HB := Ad.mk hB
 have HE := Ad.mk he
 clear hI hB he
 obtain ⟨HGz, hgz⟩ := HI0.out
 have hcz0 := cellS65_0 HGz
 have hcz1 := cellS65_1 HGz
 have hfz1 := blk_frozen HGz 1
 clear HGz hgz
 go_enter Tryd.func65, Tryd.ntmps65
 go_wp2
 clear hcz0 hcz1 hfz1
 go_loopg [] k (fun kq w' => ∃ (a : Int), Ad (ls_run.l0 kq 66 s0_1 s0_0 a = some e) ∧ Ad (kq ≤ k) ∧ Ad (IsS65 w0 w' g s0_0 a) ∧ Ad (KeepBut w w' g none) ∧ Ad (Below w0.heap.size w0 w'))
 case atStart => exact ⟨s0_1, HE, ⟨Nat.le_refl _⟩, ⟨(by have G0 := HI0; exact z19_)⟩, ⟨z14_⟩, ⟨(by have G0 := HI0; exact z15_)⟩⟩
 case round =>
  clear HE HI0 HK HB
  obtain ⟨a, HA, HK1, HI0, HK, HB⟩ := hrel
  cases gk with
  | zero => exact absurd HA.out z34_
  | succ k1 =>
   have H := HA.out
   clear HA
   simp only [ls_run.l0] at H
   obtain ⟨HGz, hgz⟩ := HI0.out
   have hcz0 := cellS65_0 HGz
   have hcz1 := cellS65_1 HGz
   have hfz1 := blk_frozen HGz 1
   clear HGz hgz
   by_cases c1 : a < (s0_0.size : Int)
   ·rw [if_pos c1] at H
    by_cases c2 : 0 ≤ a
    case neg => rw [if_neg c2] at H; cases H
    rw [if_pos c2] at H
    obtain ⟨b, A0, H⟩ := Option.bind_eq_some_iff.mp H
    have AB := Ad.mk (show lex_named.f (wrap64 (a - s0_1)) (bt s0_0 a) = some b by simpa [ls_run.is] using A0)
    clear A0
    have c1b : decide (a < (s0_0.size : Int)) = true := decide_eq_true c1
    have c2b : decide (0 ≤ a) = true := decide_eq_true c2
    have hx := bt_at s0_0 a
    replace c1 := eq_true c1
    replace c2 := eq_true c2
    have H' := Ad.mk H
    clear H
    cases b with
    | true =>
     have H := H'.out
     clear H'
     rw [if_pos rfl] at H
     have H' := Ad.mk H
     clear H
     go_wp2
     repeat (go_quiet (first | (go_at_call 66; (with_reducible refine (lex_named.calls (wrap64 (a - s0_1)) (bt s0_0 a) true _ AB.out).mono ?_); rintro e w' ⟨rfl, ⟨nd, rfl⟩⟩; (try first | exact ⟨rfl, _, World.drewN_drewN _ _ _⟩ | exact ⟨rfl, _, Eq.trans (World.drewN_drewN _ _ _) (congrArg (World.drewN _) (Nat.add_assoc _ _ _))⟩))); try go_wp2)
     go_roundg k1
     case measure => have := HK1.out; omega
     case rel => exact ⟨_, H', ⟨by have := HK1.out; omega⟩, ⟨(by have G0 := HI0; exact z19_)⟩, ⟨z14_⟩, ⟨(by have G0 := HI0; exact z15_)⟩⟩
    | false =>
     have H := H'.out
     clear H'
     rw [if_neg (by decide)] at H
     obtain rfl := Option.some.inj H
     clear H
     have p1 : (0 ≤ s0_1) = True := eq_true c4.out
     have p2 : (s0_1 ≤ a) = True := eq_true c5.out
     have p3 : (a ≤ (s0_0.size : Int)) = True := eq_true c6.out
     have p1b : decide (0 ≤ s0_1) = true := decide_eq_true c4.out
     have p2b : decide (s0_1 ≤ a) = true := decide_eq_true c5.out
     have p3b : decide (a ≤ (s0_0.size : Int)) = true := decide_eq_true c6.out
     have hlb : decide (wrap64 (a - s0_1) > a2) = false := decide_eq_false (by have := hl.out; omega)
     go_wp2
     repeat (go_quiet (first | (go_at_call 66; (with_reducible refine (lex_named.calls (wrap64 (a - s0_1)) (bt s0_0 a) false _ AB.out).mono ?_); rintro e w' ⟨rfl, ⟨nd, rfl⟩⟩; (try first | exact ⟨rfl, _, World.drewN_drewN _ _ _⟩ | exact ⟨rfl, _, Eq.trans (World.drewN_drewN _ _ _) (congrArg (World.drewN _) (Nat.add_assoc _ _ _))⟩))); try go_wp2)
     go_ret
     exact ⟨rfl, (by have G0 := HI0; exact z19_), (by have G0 := HI0; exact z15_), z14_⟩
   rw [if_neg c1] at H
   have c1b : decide (a < (s0_0.size : Int)) = false := decide_eq_false c1
   clear c1
   obtain rfl := Option.some.inj H
   clear H
   have p1 : (0 ≤ s0_1) = True := eq_true c4.out
   have p2 : (s0_1 ≤ a) = True := eq_true c5.out
   have p3 : (a ≤ (s0_0.size : Int)) = True := eq_true c6.out
   have p1b : decide (0 ≤ s0_1) = true := decide_eq_true c4.out
   have p2b : decide (s0_1 ≤ a) = true := decide_eq_true c5.out
   have p3b : decide (a ≤ (s0_0.size : Int)) = true := decide_eq_true c6.out
   have hlb : decide (wrap64 (a - s0_1) > a2) = false := decide_eq_false (by have := hl.out; omega)
   go_wp2
   repeat (go_quiet (fail); try go_wp2)
   go_ret
   exact ⟨rfl, (by have G0 := HI0; exact z19_), (by have G0 := HI0; exact z15_), z14_⟩
set_option maxHeartbeats 4000000 in
set_option maxRecDepth 100000 in
theorem ls_run.c1 (k : Nat) (g : Nat) (s0_0 : ByteArray) (s0_1 a1 a2 e : Int) (w0 w : World) (hI : IsS65 w0 w g s0_0 s0_1) (hB : Below w0.heap.size w0 w) (he : ls_run.l0 k 67 s0_1 s0_0 s0_1 = some e) (hl : Ad (¬ wrap64 (e - s0_1) > a2)) (c4 : Ad (0 ≤ s0_1)) (c5 : Ad (s0_1 ≤ e)) (c6 : Ad (e ≤ (s0_0.size : Int))) :
  Calls Tryd.prog 65 #[.pointer (some ⟨g, 0, none⟩), .int .i64 a1, .int .i64 a2, .func (.func 67) #[] #[]] w fun e' w' => e' = .returned (.string (s0_0.extract s0_1.toNat e.toNat)) ∧ IsS65 w0 w' g s0_0 e ∧ Below w0.heap.size w0 w' ∧ KeepBut w w' g none := by
 have HI0 := Ad.mk hI
 have HK := Ad.mk (KeepBut.refl w g none)
 have HW0 := Ad.mk hB.size
 have HB := Ad.mk hB
 have HE := Ad.mk he
 clear hI hB he
 obtain ⟨HGz, hgz⟩ := HI0.out
 have hcz0 := cellS65_0 HGz
 have hcz1 := cellS65_1 HGz
 have hfz1 := blk_frozen HGz 1
 clear HGz hgz
 go_enter Tryd.func65, Tryd.ntmps65
 go_wp2
 clear hcz0 hcz1 hfz1
 go_loopg [] k (fun kq w' => ∃ (a : Int), Ad (ls_run.l0 kq 67 s0_1 s0_0 a = some e) ∧ Ad (kq ≤ k) ∧ Ad (IsS65 w0 w' g s0_0 a) ∧ Ad (KeepBut w w' g none) ∧ Ad (Below w0.heap.size w0 w'))
 case atStart => exact ⟨s0_1, HE, ⟨Nat.le_refl _⟩, ⟨(by have G0 := HI0; exact z19_)⟩, ⟨z14_⟩, ⟨(by have G0 := HI0; exact z15_)⟩⟩
 case round =>
  clear HE HI0 HK HB
  obtain ⟨a, HA, HK1, HI0, HK, HB⟩ := hrel
  cases gk with
  | zero => exact absurd HA.out z34_
  | succ k1 =>
   have H := HA.out
   clear HA
   simp only [ls_run.l0] at H
   obtain ⟨HGz, hgz⟩ := HI0.out
   have hcz0 := cellS65_0 HGz
   have hcz1 := cellS65_1 HGz
   have hfz1 := blk_frozen HGz 1
   clear HGz hgz
   by_cases c1 : a < (s0_0.size : Int)
   ·rw [if_pos c1] at H
    by_cases c2 : 0 ≤ a
    case neg => rw [if_neg c2] at H; cases H
    rw [if_pos c2] at H
    obtain ⟨b, A0, H⟩ := Option.bind_eq_some_iff.mp H
    have AB := Ad.mk (show ls_lang_1.f (wrap64 (a - s0_1)) (bt s0_0 a) = some b by simpa [ls_run.is] using A0)
    clear A0
    have c1b : decide (a < (s0_0.size : Int)) = true := decide_eq_true c1
    have c2b : decide (0 ≤ a) = true := decide_eq_true c2
    have hx := bt_at s0_0 a
    replace c1 := eq_true c1
    replace c2 := eq_true c2
    have H' := Ad.mk H
    clear H
    cases b with
    | true =>
     have H := H'.out
     clear H'
     rw [if_pos rfl] at H
     have H' := Ad.mk H
     clear H
     go_wp2
     repeat (go_quiet (first | (go_at_call 67; (with_reducible refine (ls_lang_1.calls (wrap64 (a - s0_1)) (bt s0_0 a) true _ AB.out).mono ?_); rintro e w' ⟨rfl, ⟨nd, rfl⟩⟩; (try first | exact ⟨rfl, _, World.drewN_drewN _ _ _⟩ | exact ⟨rfl, _, Eq.trans (World.drewN_drewN _ _ _) (congrArg (World.drewN _) (Nat.add_assoc _ _ _))⟩))); try go_wp2)
     go_roundg k1
     case measure => have := HK1.out; omega
     case rel => exact ⟨_, H', ⟨by have := HK1.out; omega⟩, ⟨(by have G0 := HI0; exact z19_)⟩, ⟨z14_⟩, ⟨(by have G0 := HI0; exact z15_)⟩⟩
    | false =>
     have H := H'.out
     clear H'
     rw [if_neg (by decide)] at H
     obtain rfl := Option.some.inj H
     clear H
     have p1 : (0 ≤ s0_1) = True := eq_true c4.out
     have p2 : (s0_1 ≤ a) = True := eq_true c5.out
     have p3 : (a ≤ (s0_0.size : Int)) = True := eq_true c6.out
     have p1b : decide (0 ≤ s0_1) = true := decide_eq_true c4.out
     have p2b : decide (s0_1 ≤ a) = true := decide_eq_true c5.out
     have p3b : decide (a ≤ (s0_0.size : Int)) = true := decide_eq_true c6.out
     have hlb : decide (wrap64 (a - s0_1) > a2) = false := decide_eq_false (by have := hl.out; omega)
     go_wp2
     repeat (go_quiet (first | (go_at_call 67; (with_reducible refine (ls_lang_1.calls (wrap64 (a - s0_1)) (bt s0_0 a) false _ AB.out).mono ?_); rintro e w' ⟨rfl, ⟨nd, rfl⟩⟩; (try first | exact ⟨rfl, _, World.drewN_drewN _ _ _⟩ | exact ⟨rfl, _, Eq.trans (World.drewN_drewN _ _ _) (congrArg (World.drewN _) (Nat.add_assoc _ _ _))⟩))); try go_wp2)
     go_ret
     exact ⟨rfl, (by have G0 := HI0; exact z19_), (by have G0 := HI0; exact z15_), z14_⟩
   rw [if_neg c1] at H
   have c1b : decide (a < (s0_0.size : Int)) = false := decide_eq_false c1
   clear c1
   obtain rfl := Option.some.inj H
   clear H
   have p1 : (0 ≤ s0_1) = True := eq_true c4.out
   have p2 : (s0_1 ≤ a) = True := eq_true c5.out
   have p3 : (a ≤ (s0_0.size : Int)) = True := eq_true c6.out
   have p1b : decide (0 ≤ s0_1) = true := decide_eq_true c4.out
   have p2b : decide (s0_1 ≤ a) = true := decide_eq_true c5.out
   have p3b : decide (a ≤ (s0_0.size : Int)) = true := decide_eq_true c6.out
   have hlb : decide (wrap64 (a - s0_1) > a2) = false := decide_eq_false (by have := hl.out; omega)
   go_wp2
   repeat (go_quiet (fail); try go_wp2)
   go_ret
   exact ⟨rfl, (by have G0 := HI0; exact z19_), (by have G0 := HI0; exact z15_), z14_⟩
set_option maxHeartbeats 4000000 in
set_option maxRecDepth 100000 in
theorem ls_run.c2 (k : Nat) (g : Nat) (s0_0 : ByteArray) (s0_1 a1 a2 e : Int) (w0 w : World) (hI : IsS65 w0 w g s0_0 s0_1) (hB : Below w0.heap.size w0 w) (he : ls_run.l0 k 70 s0_1 s0_0 s0_1 = some e) (hl : Ad (¬ wrap64 (e - s0_1) > a2)) (c4 : Ad (0 ≤ s0_1)) (c5 : Ad (s0_1 ≤ e)) (c6 : Ad (e ≤ (s0_0.size : Int))) :
  Calls Tryd.prog 65 #[.pointer (some ⟨g, 0, none⟩), .int .i64 a1, .int .i64 a2, .func (.func 70) #[] #[]] w fun e' w' => e' = .returned (.string (s0_0.extract s0_1.toNat e.toNat)) ∧ IsS65 w0 w' g s0_0 e ∧ Below w0.heap.size w0 w' ∧ KeepBut w w' g none := by
 have HI0 := Ad.mk hI
 have HK := Ad.mk (KeepBut.refl w g none)
 have HW0 := Ad.mk hB.size
 have HB := Ad.mk hB
 have HE := Ad.mk he
 clear hI hB he
 obtain ⟨HGz, hgz⟩ := HI0.out
 have hcz0 := cellS65_0 HGz
 have hcz1 := cellS65_1 HGz
 have hfz1 := blk_frozen HGz 1
 clear HGz hgz
 go_enter Tryd.func65, Tryd.ntmps65
 go_wp2
 clear hcz0 hcz1 hfz1
 go_loopg [] k (fun kq w' => ∃ (a : Int), Ad (ls_run.l0 kq 70 s0_1 s0_0 a = some e) ∧ Ad (kq ≤ k) ∧ Ad (IsS65 w0 w' g s0_0 a) ∧ Ad (KeepBut w w' g none) ∧ Ad (Below w0.heap.size w0 w'))
 case atStart => exact ⟨s0_1, HE, ⟨Nat.le_refl _⟩, ⟨(by have G0 := HI0; exact z19_)⟩, ⟨z14_⟩, ⟨(by have G0 := HI0; exact z15_)⟩⟩
 case round =>
  clear HE HI0 HK HB
  obtain ⟨a, HA, HK1, HI0, HK, HB⟩ := hrel
  cases gk with
  | zero => exact absurd HA.out z34_
  | succ k1 =>
   have H := HA.out
   clear HA
   simp only [ls_run.l0] at H
   obtain ⟨HGz, hgz⟩ := HI0.out
   have hcz0 := cellS65_0 HGz
   have hcz1 := cellS65_1 HGz
   have hfz1 := blk_frozen HGz 1
   clear HGz hgz
   by_cases c1 : a < (s0_0.size : Int)
   ·rw [if_pos c1] at H
    by_cases c2 : 0 ≤ a
    case neg => rw [if_neg c2] at H; cases H
    rw [if_pos c2] at H
    obtain ⟨b, A0, H⟩ := Option.bind_eq_some_iff.mp H
    have AB := Ad.mk (show ls_word_1.f (wrap64 (a - s0_1)) (bt s0_0 a) = some b by simpa [ls_run.is] using A0)
    clear A0
    have c1b : decide (a < (s0_0.size : Int)) = true := decide_eq_true c1
    have c2b : decide (0 ≤ a) = true := decide_eq_true c2
    have hx := bt_at s0_0 a
    replace c1 := eq_true c1
    replace c2 := eq_true c2
    have H' := Ad.mk H
    clear H
    cases b with
    | true =>
     have H := H'.out
     clear H'
     rw [if_pos rfl] at H
     have H' := Ad.mk H
     clear H
     go_wp2
     repeat (go_quiet (first | (go_at_call 70; (with_reducible refine (ls_word_1.calls (wrap64 (a - s0_1)) (bt s0_0 a) true _ AB.out).mono ?_); rintro e w' ⟨rfl, ⟨nd, rfl⟩⟩; (try first | exact ⟨rfl, _, World.drewN_drewN _ _ _⟩ | exact ⟨rfl, _, Eq.trans (World.drewN_drewN _ _ _) (congrArg (World.drewN _) (Nat.add_assoc _ _ _))⟩))); try go_wp2)
     go_roundg k1
     case measure => have := HK1.out; omega
     case rel => exact ⟨_, H', ⟨by have := HK1.out; omega⟩, ⟨(by have G0 := HI0; exact z19_)⟩, ⟨z14_⟩, ⟨(by have G0 := HI0; exact z15_)⟩⟩
    | false =>
     have H := H'.out
     clear H'
     rw [if_neg (by decide)] at H
     obtain rfl := Option.some.inj H
     clear H
     have p1 : (0 ≤ s0_1) = True := eq_true c4.out
     have p2 : (s0_1 ≤ a) = True := eq_true c5.out
     have p3 : (a ≤ (s0_0.size : Int)) = True := eq_true c6.out
     have p1b : decide (0 ≤ s0_1) = true := decide_eq_true c4.out
     have p2b : decide (s0_1 ≤ a) = true := decide_eq_true c5.out
     have p3b : decide (a ≤ (s0_0.size : Int)) = true := decide_eq_true c6.out
     have hlb : decide (wrap64 (a - s0_1) > a2) = false := decide_eq_false (by have := hl.out; omega)
     go_wp2
     repeat (go_quiet (first | (go_at_call 70; (with_reducible refine (ls_word_1.calls (wrap64 (a - s0_1)) (bt s0_0 a) false _ AB.out).mono ?_); rintro e w' ⟨rfl, ⟨nd, rfl⟩⟩; (try first | exact ⟨rfl, _, World.drewN_drewN _ _ _⟩ | exact ⟨rfl, _, Eq.trans (World.drewN_drewN _ _ _) (congrArg (World.drewN _) (Nat.add_assoc _ _ _))⟩))); try go_wp2)
     go_ret
     exact ⟨rfl, (by have G0 := HI0; exact z19_), (by have G0 := HI0; exact z15_), z14_⟩
   rw [if_neg c1] at H
   have c1b : decide (a < (s0_0.size : Int)) = false := decide_eq_false c1
   clear c1
   obtain rfl := Option.some.inj H
   clear H
   have p1 : (0 ≤ s0_1) = True := eq_true c4.out
   have p2 : (s0_1 ≤ a) = True := eq_true c5.out
   have p3 : (a ≤ (s0_0.size : Int)) = True := eq_true c6.out
   have p1b : decide (0 ≤ s0_1) = true := decide_eq_true c4.out
   have p2b : decide (s0_1 ≤ a) = true := decide_eq_true c5.out
   have p3b : decide (a ≤ (s0_0.size : Int)) = true := decide_eq_true c6.out
   have hlb : decide (wrap64 (a - s0_1) > a2) = false := decide_eq_false (by have := hl.out; omega)
   go_wp2
   repeat (go_quiet (fail); try go_wp2)
   go_ret
   exact ⟨rfl, (by have G0 := HI0; exact z19_), (by have G0 := HI0; exact z15_), z14_⟩
theorem ls_run.calls (k : Nat) (g : Nat) (s0_0 : ByteArray) (s0_1 a1 a2 : Int) (a3 : Nat) (r1 r2 : ByteArray) (r3 : Int) (w0 w : World) (hI : IsS65 w0 w g s0_0 s0_1) (hB : Below w0.heap.size w0 w) (h : ls_run.f k s0_0 s0_1 a1 a2 a3 = some (r1, r2, r3)) :
  Calls Tryd.prog 65 #[.pointer (some ⟨g, 0, none⟩), .int .i64 a1, .int .i64 a2, .func (.func a3) #[] #[]] w fun e w' => e = .returned (.string r1) ∧ IsS65 w0 w' g r2 r3 ∧ Below w0.heap.size w0 w' ∧ KeepBut w w' g none := by
 unfold ls_run.f at h
 by_cases c : a3 = 66 ∨ a3 = 67 ∨ a3 = 70
 ·rw [if_pos c] at h
  obtain ⟨e, he, h⟩ := Option.bind_eq_some_iff.mp h
  by_cases c1 : wrap64 (e - s0_1) > a2
  ·rw [if_pos c1] at h; cases h
  rw [if_neg c1] at h
  by_cases c4 : 0 ≤ s0_1
  ·rw [if_pos c4] at h
   by_cases c5 : s0_1 ≤ e
   ·rw [if_pos c5] at h
    by_cases c6 : e ≤ (s0_0.size : Int)
    ·rw [if_pos c6] at h
     simp only [Option.some.injEq, Prod.mk.injEq] at h
     obtain ⟨rfl, rfl, rfl⟩ := h
     rcases c with rfl | rfl | rfl
     ·exact ls_run.c0 k g _ _ a1 a2 _ w0 w hI hB he ⟨c1⟩ ⟨c4⟩ ⟨c5⟩ ⟨c6⟩
     ·exact ls_run.c1 k g _ _ a1 a2 _ w0 w hI hB he ⟨c1⟩ ⟨c4⟩ ⟨c5⟩ ⟨c6⟩
     exact ls_run.c2 k g _ _ a1 a2 _ w0 w hI hB he ⟨c1⟩ ⟨c4⟩ ⟨c5⟩ ⟨c6⟩
    rw [if_neg c6] at h; cases h
   rw [if_neg c5] at h; cases h
  rw [if_neg c4] at h; cases h
 rw [if_neg c] at h; cases h
theorem run_neq_func {P : Program} {T : TypeId} {a : Array TypeId} {b : Array TypeId} {v : Bool} (hT : P.underlying T = some (.func a b v)) (f : Fn) (x y : Array Value) (W : World) : (binOp .neq T (.func f x y) .nilFunc).run P W = .ok (.bool true) W := by
 have h : (Op.equal T (.func f x y) .nilFunc).run P W = .ok false W := by
  have hd : ∀ d, (Op.equalIn (d + 1) T (.func f x y) .nilFunc).run P W = .ok false W := by
   intro d
   simp only [Op.equalIn, Sem.run_bind, run_underlying hT, Result.andThen_ok]
   rfl
  exact hd 9999
 simp only [binOp, Sem.run_bind, h, Result.andThen_ok]
 rfl
theorem run_neq_nilFunc {P : Program} {T : TypeId} {a : Array TypeId} {b : Array TypeId} {v : Bool} (hT : P.underlying T = some (.func a b v)) (W : World) : (binOp .neq T .nilFunc .nilFunc).run P W = .ok (.bool false) W := by
 have h : (Op.equal T .nilFunc .nilFunc).run P W = .ok true W := by
  have hd : ∀ d, (Op.equalIn (d + 1) T .nilFunc .nilFunc).run P W = .ok true W := by
   intro d
   simp only [Op.equalIn, Sem.run_bind, run_underlying hT, Result.andThen_ok]
   rfl
  exact hd 9999
 simp only [binOp, Sem.run_bind, h, Result.andThen_ok]
 rfl
def kindsFn (a : Int) : Value := if a = 1 then .func (.func 52) #[] #[] else if a = 2 then .func (.func 54) #[] #[] else if a = 3 then .func (.func 56) #[] #[] else if a = 4 then .func (.func 58) #[] #[] else if a = 5 then .func (.func 60) #[] #[] else .nilFunc
theorem look_kinds (W : World) (b : Nat) (hb : W.heap[b]? = some (.map kindsMap 5)) (a : Int) : (Instr.lookup 87 (.map (some b)) (.int .i64 a) false).run Tryd.prog W = .ok (kindsFn a) W := by
 have hT := Tryd.underlying87
 have hK := Tryd.underlying34
 have hz : (zeroValue 71).run Tryd.prog W = .ok .nilFunc W := by kernel_rfl
 have hf : Instr.findNow (.int .i64) (.int .i64 a) kindsMap.toList 0 = some (if a = 1 then some (0, kindsFn a) else if a = 2 then some (1, kindsFn a) else if a = 3 then some (2, kindsFn a) else if a = 4 then some (3, kindsFn a) else if a = 5 then some (4, kindsFn a) else none) := by
  unfold kindsMap
  simp only [findNow_cons]
  unfold kindsFn
  repeat' split
  all_goals first | rfl | (exfalso; omega) | (simp_all; done)
 by_cases h : a = 1 ∨ a = 2 ∨ a = 3 ∨ a = 4 ∨ a = 5
 ·have : ∃ i, Instr.findNow (.int .i64) (.int .i64 a) kindsMap.toList 0 = some (some (i, kindsFn a)) := by
   rw [hf]
   rcases h with rfl | rfl | rfl | rfl | rfl <;> exact ⟨_, rfl⟩
  obtain ⟨i, hi⟩ := this
  exact (run_look hT hK W hb a hi).1
 have e : kindsFn a = .nilFunc := by
  unfold kindsFn
  rw [if_neg (by omega), if_neg (by omega), if_neg (by omega), if_neg (by omega), if_neg (by omega)]
 rw [e]
 refine (run_look_none hT hK W hb a hz ?_).1
 rw [hf, if_neg (by omega), if_neg (by omega), if_neg (by omega), if_neg (by omega), if_neg (by omega)]
def term_May.f (k : Nat) (a0_0 : Int) (a0_1 : ByteArray) (a0_2 : ByteArray) : Option Bool := if a0_0 = 1 then (term_kinds_1.f a0_0 a0_1 a0_2) else (if a0_0 = 2 then (term_kinds_2.f k a0_0 a0_1 a0_2) else (if a0_0 = 3 then (term_kinds_3.f a0_0 a0_1 a0_2) else (if a0_0 = 4 then (term_kinds_4.f k a0_0 a0_1 a0_2) else (if a0_0 = 5 then (term_kinds_5.f a0_0 a0_1 a0_2) else (some false)))))
theorem term_May.mono : ∀ a0 a1 a2 k, LeO (term_May.f k a0 a1 a2) (term_May.f (k + 1) a0 a1 a2) := by
 intro a0 a1 a2 k
 unfold term_May.f
 repeat' first
   | (with_reducible exact term_kinds_2.mono _ _ _ _)
   | (with_reducible exact term_kinds_4.mono _ _ _ _)
   | (with_reducible exact LeO.refl _)
   | (with_reducible refine LeO.ite ?_ ?_)
set_option maxRecDepth 100000 in
set_option maxHeartbeats 2000000 in
theorem term_May.calls1 (k : Nat) (a0_1 : ByteArray) (a0_2 : ByteArray) (r : Bool) (w : World) (h : term_kinds_1.f 1 a0_1 a0_2 = some r) :
  Calls Tryd.prog 28 #[.agg #[.int .i64 1, .string a0_1, .string a0_2]] w fun e w' => e = .returned (.bool r) ∧ Below w.heap.size w w' := by
 have hb : ((w.alloc (.cells #[.int .i64 1, .string a0_1, .string a0_2] 36)).alloc (.map kindsMap 5)).heap[w.heap.size + 1]? = some (.map kindsMap 5) := by
  have := World.alloc_heap_new (w.alloc (.cells #[.int .i64 1, .string a0_1, .string a0_2] 36)) (.map kindsMap 5)
  rwa [World.size_alloc] at this
 have hl := look_kinds _ _ hb 1
 have hl2 := look_kinds (((w.alloc (.cells #[.int .i64 1, .string a0_1, .string a0_2] 36)).alloc (.map kindsMap 5)).drew) (w.heap.size + 1) hb 1
 have hk : kindsFn 1 = .func (.func 52) #[] #[] := rfl
 rw [hk] at hl hl2
 have H := Ad.mk h
 have hne := fun (f : Fn) (x y : Array Value) (W : World) => run_neq_func Tryd.underlying71 f x y W
 have hnn := fun (W : World) => run_neq_nilFunc Tryd.underlying71 W
 clear hb h hk
 go_enter Tryd.func28, Tryd.ntmps28
 go_wp2_with fail
 go_region_with (go_at_call 37; refine (term_kinds.calls _).mono ?_; rintro e w' ⟨rfl, rfl⟩)
 all_goals
  go_wp2_with (go_at_call 52; refine (term_kinds_1.calls 1 a0_1 a0_2 r _ H.out).mono ?_; rintro e w1 ⟨rfl, hb1⟩)
  go_ret
  exact ⟨rfl, Below.trans z42_ (hb1.mono (by simp; try omega))⟩
set_option maxRecDepth 100000 in
set_option maxHeartbeats 2000000 in
theorem term_May.calls2 (k : Nat) (a0_1 : ByteArray) (a0_2 : ByteArray) (r : Bool) (w : World) (h : term_kinds_2.f k 2 a0_1 a0_2 = some r) :
  Calls Tryd.prog 28 #[.agg #[.int .i64 2, .string a0_1, .string a0_2]] w fun e w' => e = .returned (.bool r) ∧ Below w.heap.size w w' := by
 have hb : ((w.alloc (.cells #[.int .i64 2, .string a0_1, .string a0_2] 36)).alloc (.map kindsMap 5)).heap[w.heap.size + 1]? = some (.map kindsMap 5) := by
  have := World.alloc_heap_new (w.alloc (.cells #[.int .i64 2, .string a0_1, .string a0_2] 36)) (.map kindsMap 5)
  rwa [World.size_alloc] at this
 have hl := look_kinds _ _ hb 2
 have hl2 := look_kinds (((w.alloc (.cells #[.int .i64 2, .string a0_1, .string a0_2] 36)).alloc (.map kindsMap 5)).drew) (w.heap.size + 1) hb 2
 have hk : kindsFn 2 = .func (.func 54) #[] #[] := rfl
 rw [hk] at hl hl2
 have H := Ad.mk h
 have hne := fun (f : Fn) (x y : Array Value) (W : World) => run_neq_func Tryd.underlying71 f x y W
 have hnn := fun (W : World) => run_neq_nilFunc Tryd.underlying71 W
 clear hb h hk
 go_enter Tryd.func28, Tryd.ntmps28
 go_wp2_with fail
 go_region_with (go_at_call 37; refine (term_kinds.calls _).mono ?_; rintro e w' ⟨rfl, rfl⟩)
 all_goals
  go_wp2_with (go_at_call 54; refine (term_kinds_2.calls k 2 a0_1 a0_2 r _ H.out).mono ?_; rintro e w1 ⟨rfl, hb1⟩)
  go_ret
  exact ⟨rfl, Below.trans z42_ (hb1.mono (by simp; try omega))⟩
set_option maxRecDepth 100000 in
set_option maxHeartbeats 2000000 in
theorem term_May.calls3 (k : Nat) (a0_1 : ByteArray) (a0_2 : ByteArray) (r : Bool) (w : World) (h : term_kinds_3.f 3 a0_1 a0_2 = some r) :
  Calls Tryd.prog 28 #[.agg #[.int .i64 3, .string a0_1, .string a0_2]] w fun e w' => e = .returned (.bool r) ∧ Below w.heap.size w w' := by
 have hb : ((w.alloc (.cells #[.int .i64 3, .string a0_1, .string a0_2] 36)).alloc (.map kindsMap 5)).heap[w.heap.size + 1]? = some (.map kindsMap 5) := by
  have := World.alloc_heap_new (w.alloc (.cells #[.int .i64 3, .string a0_1, .string a0_2] 36)) (.map kindsMap 5)
  rwa [World.size_alloc] at this
 have hl := look_kinds _ _ hb 3
 have hl2 := look_kinds (((w.alloc (.cells #[.int .i64 3, .string a0_1, .string a0_2] 36)).alloc (.map kindsMap 5)).drew) (w.heap.size + 1) hb 3
 have hk : kindsFn 3 = .func (.func 56) #[] #[] := rfl
 rw [hk] at hl hl2
 have H := Ad.mk h
 have hne := fun (f : Fn) (x y : Array Value) (W : World) => run_neq_func Tryd.underlying71 f x y W
 have hnn := fun (W : World) => run_neq_nilFunc Tryd.underlying71 W
 clear hb h hk
 go_enter Tryd.func28, Tryd.ntmps28
 go_wp2_with fail
 go_region_with (go_at_call 37; refine (term_kinds.calls _).mono ?_; rintro e w' ⟨rfl, rfl⟩)
 all_goals
  go_wp2_with (go_at_call 56; refine (term_kinds_3.calls 3 a0_1 a0_2 r _ H.out).mono ?_; rintro e w1 ⟨rfl, hb1⟩)
  go_ret
  exact ⟨rfl, Below.trans z42_ (hb1.mono (by simp; try omega))⟩
set_option maxRecDepth 100000 in
set_option maxHeartbeats 2000000 in
theorem term_May.calls4 (k : Nat) (a0_1 : ByteArray) (a0_2 : ByteArray) (r : Bool) (w : World) (h : term_kinds_4.f k 4 a0_1 a0_2 = some r) :
  Calls Tryd.prog 28 #[.agg #[.int .i64 4, .string a0_1, .string a0_2]] w fun e w' => e = .returned (.bool r) ∧ Below w.heap.size w w' := by
 have hb : ((w.alloc (.cells #[.int .i64 4, .string a0_1, .string a0_2] 36)).alloc (.map kindsMap 5)).heap[w.heap.size + 1]? = some (.map kindsMap 5) := by
  have := World.alloc_heap_new (w.alloc (.cells #[.int .i64 4, .string a0_1, .string a0_2] 36)) (.map kindsMap 5)
  rwa [World.size_alloc] at this
 have hl := look_kinds _ _ hb 4
 have hl2 := look_kinds (((w.alloc (.cells #[.int .i64 4, .string a0_1, .string a0_2] 36)).alloc (.map kindsMap 5)).drew) (w.heap.size + 1) hb 4
 have hk : kindsFn 4 = .func (.func 58) #[] #[] := rfl
 rw [hk] at hl hl2
 have H := Ad.mk h
 have hne := fun (f : Fn) (x y : Array Value) (W : World) => run_neq_func Tryd.underlying71 f x y W
 have hnn := fun (W : World) => run_neq_nilFunc Tryd.underlying71 W
 clear hb h hk
 go_enter Tryd.func28, Tryd.ntmps28
 go_wp2_with fail
 go_region_with (go_at_call 37; refine (term_kinds.calls _).mono ?_; rintro e w' ⟨rfl, rfl⟩)
 all_goals
  go_wp2_with (go_at_call 58; refine (term_kinds_4.calls k 4 a0_1 a0_2 r _ H.out).mono ?_; rintro e w1 ⟨rfl, hb1⟩)
  go_ret
  exact ⟨rfl, Below.trans z42_ (hb1.mono (by simp; try omega))⟩
set_option maxRecDepth 100000 in
set_option maxHeartbeats 2000000 in
theorem term_May.calls5 (k : Nat) (a0_1 : ByteArray) (a0_2 : ByteArray) (r : Bool) (w : World) (h : term_kinds_5.f 5 a0_1 a0_2 = some r) :
  Calls Tryd.prog 28 #[.agg #[.int .i64 5, .string a0_1, .string a0_2]] w fun e w' => e = .returned (.bool r) ∧ Below w.heap.size w w' := by
 have hb : ((w.alloc (.cells #[.int .i64 5, .string a0_1, .string a0_2] 36)).alloc (.map kindsMap 5)).heap[w.heap.size + 1]? = some (.map kindsMap 5) := by
  have := World.alloc_heap_new (w.alloc (.cells #[.int .i64 5, .string a0_1, .string a0_2] 36)) (.map kindsMap 5)
  rwa [World.size_alloc] at this
 have hl := look_kinds _ _ hb 5
 have hl2 := look_kinds (((w.alloc (.cells #[.int .i64 5, .string a0_1, .string a0_2] 36)).alloc (.map kindsMap 5)).drew) (w.heap.size + 1) hb 5
 have hk : kindsFn 5 = .func (.func 60) #[] #[] := rfl
 rw [hk] at hl hl2
 have H := Ad.mk h
 have hne := fun (f : Fn) (x y : Array Value) (W : World) => run_neq_func Tryd.underlying71 f x y W
 have hnn := fun (W : World) => run_neq_nilFunc Tryd.underlying71 W
 clear hb h hk
 go_enter Tryd.func28, Tryd.ntmps28
 go_wp2_with fail
 go_region_with (go_at_call 37; refine (term_kinds.calls _).mono ?_; rintro e w' ⟨rfl, rfl⟩)
 all_goals
  go_wp2_with (go_at_call 60; refine (term_kinds_5.calls 5 a0_1 a0_2 r _ H.out).mono ?_; rintro e w1 ⟨rfl, hb1⟩)
  go_ret
  exact ⟨rfl, Below.trans z42_ (hb1.mono (by simp; try omega))⟩
set_option maxRecDepth 100000 in
set_option maxHeartbeats 2000000 in
theorem term_May.calls0 (a0_0 : Int) (a0_1 : ByteArray) (a0_2 : ByteArray) (w : World) (h : ¬ (a0_0 = 1 ∨ a0_0 = 2 ∨ a0_0 = 3 ∨ a0_0 = 4 ∨ a0_0 = 5)) :
  Calls Tryd.prog 28 #[.agg #[.int .i64 a0_0, .string a0_1, .string a0_2]] w fun e w' => e = .returned (.bool false) ∧ Below w.heap.size w w' := by
 have hb : ((w.alloc (.cells #[.int .i64 a0_0, .string a0_1, .string a0_2] 36)).alloc (.map kindsMap 5)).heap[w.heap.size + 1]? = some (.map kindsMap 5) := by
  have := World.alloc_heap_new (w.alloc (.cells #[.int .i64 a0_0, .string a0_1, .string a0_2] 36)) (.map kindsMap 5)
  rwa [World.size_alloc] at this
 have hl := look_kinds _ _ hb a0_0
 have hl2 := look_kinds (((w.alloc (.cells #[.int .i64 a0_0, .string a0_1, .string a0_2] 36)).alloc (.map kindsMap 5)).drew) (w.heap.size + 1) hb a0_0
 have hk : kindsFn a0_0 = .nilFunc := by
  unfold kindsFn
  rw [if_neg (by omega), if_neg (by omega), if_neg (by omega), if_neg (by omega), if_neg (by omega)]
 rw [hk] at hl hl2
 have hne := fun (f : Fn) (x y : Array Value) (W : World) => run_neq_func Tryd.underlying71 f x y W
 have hnn := fun (W : World) => run_neq_nilFunc Tryd.underlying71 W
 clear hb h hk
 go_enter Tryd.func28, Tryd.ntmps28
 go_wp2_with fail
 go_region_with (go_at_call 37; refine (term_kinds.calls _).mono ?_; rintro e w' ⟨rfl, rfl⟩)
 all_goals
  go_wp2
  go_ret
  exact ⟨rfl, z42_⟩
theorem term_May.calls (k : Nat) (a0_0 : Int) (a0_1 : ByteArray) (a0_2 : ByteArray) (r : Bool) (w : World) (h : term_May.f k a0_0 a0_1 a0_2 = some r) :
  Calls Tryd.prog 28 #[.agg #[.int .i64 a0_0, .string a0_1, .string a0_2]] w fun e w' => e = .returned (.bool r) ∧ Below w.heap.size w w' := by
 unfold term_May.f at h
 by_cases h1 : a0_0 = 1
 ·subst h1; rw [if_pos rfl] at h; exact term_May.calls1 k a0_1 a0_2 r w h
 rw [if_neg h1] at h
 by_cases h2 : a0_0 = 2
 ·subst h2; rw [if_pos rfl] at h; exact term_May.calls2 k a0_1 a0_2 r w h
 rw [if_neg h2] at h
 by_cases h3 : a0_0 = 3
 ·subst h3; rw [if_pos rfl] at h; exact term_May.calls3 k a0_1 a0_2 r w h
 rw [if_neg h3] at h
 by_cases h4 : a0_0 = 4
 ·subst h4; rw [if_pos rfl] at h; exact term_May.calls4 k a0_1 a0_2 r w h
 rw [if_neg h4] at h
 by_cases h5 : a0_0 = 5
 ·subst h5; rw [if_pos rfl] at h; exact term_May.calls5 k a0_1 a0_2 r w h
 rw [if_neg h5] at h
 obtain rfl := Option.some.inj h
 exact term_May.calls0 a0_0 a0_1 a0_2 w (by omega)
end Go.Proofs.YtjnhdamilbcmpaaDoor.PTm

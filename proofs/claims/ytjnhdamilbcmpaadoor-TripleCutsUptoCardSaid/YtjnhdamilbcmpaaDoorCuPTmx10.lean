import Derived.Test.YtjnhdamilbcmpaaDoorCuPTmx0
import Derived.Test.YtjnhdamilbcmpaaDoorCuPTmx5
import Derived.Test.YtjnhdamilbcmpaaDoorCuPTmx9
namespace Go.Proofs.YtjnhdamilbcmpaaDoor.PTm
open Go.RowKit Go.Proofs.YtjnhdamilbcmpaaDoorW.PrintWords Go.Proofs.YtjnhdamilbcmpaaDoorW.PrintLast Go.Proofs.YtjnhdamilbcmpaaDoorW.PrintMore
attribute [local go_sem] max2_int min2_int max_two min_two max_three min_three max_four min_four
set_option linter.unusedVariables false
set_option linter.unusedSimpArgs false
set_option maxHeartbeats 8000000
set_option maxRecDepth 100000
def ls_mark.l0 : Nat → List ByteArray → Int → Int → ByteArray → Int → Option (Int × ByteArray × Int × ByteArray × ByteArray × Int × Bool × ByteArray × Int)
 | 0, _, _, _, _, _ => none
 | k + 1, x6, x7, x8, x1000, x1001 => if x8 < x7 then (if 0 ≤ x8 then (if x8 < (x6.length : Int) then (if 0 ≤ x1001 then (if x1001 ≤ (x1000.size : Int) then ((strings_HasPrefix.f (x1000.extract (x1001 : Int).toNat x1000.size) (rdOf ByteArray.empty x6 x8)).bind fun t274 => (if t274 = true then (some (8, rdOf ByteArray.empty x6 x8, 0, (⟨#[]⟩ : ByteArray), (⟨#[]⟩ : ByteArray), 0, true, x1000, wrap64 (x1001 + ((rdOf ByteArray.empty x6 x8).size : Int)))) else (ls_mark.l0 k x6 x7 (wrap64 (x8 + 1)) x1000 x1001))) else (none)) else (none)) else (none)) else (none)) else (some (0, (⟨#[]⟩ : ByteArray), 0, (⟨#[]⟩ : ByteArray), (⟨#[]⟩ : ByteArray), 0, false, x1000, x1001))
def ls_mark.f (k : Nat) (s0_0 : ByteArray) (s0_1 : Int) : Option (Int × ByteArray × Int × ByteArray × ByteArray × Int × Bool × ByteArray × Int) := (some (([(⟨#[94, 94]⟩ : ByteArray), (⟨#[58, 45]⟩ : ByteArray), (⟨#[33, 61]⟩ : ByteArray), (⟨#[61]⟩ : ByteArray), (⟨#[46]⟩ : ByteArray), (⟨#[44]⟩ : ByteArray), (⟨#[40]⟩ : ByteArray), (⟨#[41]⟩ : ByteArray), (⟨#[123]⟩ : ByteArray), (⟨#[125]⟩ : ByteArray)] : List ByteArray) : List ByteArray)).bind fun y270 => (ls_mark.l0 k y270 (y270.length : Int) 0 s0_0 s0_1)
theorem ls_mark.calls (k : Nat) (g : Nat) (s0_0 : ByteArray) (s0_1 : Int) (r1 : Int) (r2 : ByteArray) (r3 : Int) (r4 : ByteArray) (r5 : ByteArray) (r6 : Int) (r7 : Bool) (r8 : ByteArray) (r9 : Int) (w0 w : World) (hI : IsS65 w0 w g s0_0 s0_1) (hB : Below w0.heap.size w0 w) (h : ls_mark.f k s0_0 s0_1 = some (r1, r2, r3, r4, r5, r6, r7, r8, r9)) :
  Calls Tryd.prog 49 #[.pointer (some ⟨g, 0, none⟩)] w fun e w' => e = .returned (.tuple #[.agg #[.int .i64 r1, .string r2, .int .i64 r3, .string r4, .string r5, .int .i64 r6], .bool r7]) ∧ IsS65 w0 w' g r8 r9 ∧ Below w0.heap.size w0 w' ∧ KeepBut w w' g none := by
 have hu56 := Tryd.underlying56
 have HI0 := Ad.mk hI
 have HK := Ad.mk (KeepBut.refl w g none)
 have HL := Ad.mk hB.size
 clear hI
 have HW0 := Ad.mk hB.size
 have HB := Ad.mk hB
 clear hB
 have H := h
 clear h
 unfold ls_mark.f at H
 replace H := yb_ H
 obtain ⟨y270, hy270, H⟩ := H
 have Ny270 := Ad.mk hy270
 clear hy270
 have H' := Ad.mk H
 clear H
 go_enter Tryd.func49, Tryd.ntmps49
 go_wp2_with (first | ((with_reducible refine gate_dst (N := 2) rfl ?_); refine box_event r1_ (N := 2) r1_ (cs := #[.int .i64 0, .string ⟨#[]⟩, .int .i64 0, .string ⟨#[]⟩, .string ⟨#[]⟩, .int .i64 0]) (t := 56) r2_ ?_; intro gb269 hg w2 hbox hb; have BK269 := Ad.mk (hbox); have GW269 := Ad.mk ((z12_ : w.heap.size ≤ gb269)); have GE269 := Ad.mk ((Nat.le_trans HW0.out (z12_ : w.heap.size ≤ gb269) : w0.heap.size ≤ gb269)); have NB0_269 := Ad.mk ((by have G0 := HI0; exact z21_ : g ≠ gb269)); have NB269_0 := Ad.mk ((by have G0 := HI0; exact z22_ : gb269 ≠ g)); replace HK := Ad.mk (KeepBut.trans z3_ (KeepBut.of_below hb g none) (.inl rfl)); replace HB := Ad.mk (below_step (by have G0 := HI0; exact z4_) hb); replace HI0 := Ad.mk (IsS65.below (by have G0 := HI0; exact z2_) hb); clear hb hbox hg) | ((with_reducible refine gate_dst (N := 6) rfl ?_); refine Kd.R_lit Kd.string _ 9 r1_ (N := 6) r1_ (xs := ([(⟨#[94, 94]⟩ : ByteArray), (⟨#[58, 45]⟩ : ByteArray), (⟨#[33, 61]⟩ : ByteArray), (⟨#[61]⟩ : ByteArray), (⟨#[46]⟩ : ByteArray), (⟨#[44]⟩ : ByteArray), (⟨#[40]⟩ : ByteArray), (⟨#[41]⟩ : ByteArray), (⟨#[123]⟩ : ByteArray), (⟨#[125]⟩ : ByteArray)] : List ByteArray)) (inner := [.string ⟨#[94, 94]⟩, .string ⟨#[58, 45]⟩, .string ⟨#[33, 61]⟩, .string ⟨#[61]⟩, .string ⟨#[46]⟩, .string ⟨#[44]⟩, .string ⟨#[40]⟩, .string ⟨#[41]⟩, .string ⟨#[123]⟩, .string ⟨#[125]⟩]) (ok := fun _ => True) (okp := fun _ => True) r2_ ?hp (fun _ hk => hk) trivial (Below.refl _ _) (Nat.le_refl _) (by simp) ?_; (case hp => exact (Reps.one (show Kd.M Kd.string _ _ _ (⟨#[94, 94]⟩ : ByteArray) [.string ⟨#[94, 94]⟩] from rfl) (Reps.one (show Kd.M Kd.string _ _ _ (⟨#[58, 45]⟩ : ByteArray) [.string ⟨#[58, 45]⟩] from rfl) (Reps.one (show Kd.M Kd.string _ _ _ (⟨#[33, 61]⟩ : ByteArray) [.string ⟨#[33, 61]⟩] from rfl) (Reps.one (show Kd.M Kd.string _ _ _ (⟨#[61]⟩ : ByteArray) [.string ⟨#[61]⟩] from rfl) (Reps.one (show Kd.M Kd.string _ _ _ (⟨#[46]⟩ : ByteArray) [.string ⟨#[46]⟩] from rfl) (Reps.one (show Kd.M Kd.string _ _ _ (⟨#[44]⟩ : ByteArray) [.string ⟨#[44]⟩] from rfl) (Reps.one (show Kd.M Kd.string _ _ _ (⟨#[40]⟩ : ByteArray) [.string ⟨#[40]⟩] from rfl) (Reps.one (show Kd.M Kd.string _ _ _ (⟨#[41]⟩ : ByteArray) [.string ⟨#[41]⟩] from rfl) (Reps.one (show Kd.M Kd.string _ _ _ (⟨#[123]⟩ : ByteArray) [.string ⟨#[123]⟩] from rfl) (Reps.one (show Kd.M Kd.string _ _ _ (⟨#[125]⟩ : ByteArray) [.string ⟨#[125]⟩] from rfl) (Reps.none _ _)))))))))))); intro v271 w3 ho4 hb hg_ hnew_; clear hg_ hnew_; (first | rw [← Ny270.out] at ho4 | (simp only [Int.reduceToNat] at ho4; rw [← Ny270.out] at ho4)); have HO272 := Ad.mk (Kd.R_lower ho4 (keep_size (w := w) (g := g) (row := none) (by have G0 := GW269; exact z6_))); replace BK269 := Ad.mk (blk_below (g := gb269) (o := .cells #[.int .i64 0, .string ⟨#[]⟩, .int .i64 0, .string ⟨#[]⟩, .string ⟨#[]⟩, .int .i64 0] 56 (0, 0)) (bd_ BK269.out) hb); replace HK := Ad.mk (KeepBut.trans (by have G0 := GW269; exact z6_) (KeepBut.of_below hb g none) (.inl rfl)); replace HB := Ad.mk (below_step (by have G0 := HI0; have G1 := GE269; exact z8_) hb); replace HI0 := Ad.mk (IsS65.below (by have G0 := HI0; have G1 := NB0_269; exact z7_) hb); clear hb ho4; obtain ⟨Ao5, co5, eo5⟩ := Kd.R_slice HO272.out; subst eo5))
 repeat (go_quiet (first | ((with_reducible refine gate_dst (N := 2) rfl ?_); refine box_event r1_ (N := 2) r1_ (cs := #[.int .i64 0, .string ⟨#[]⟩, .int .i64 0, .string ⟨#[]⟩, .string ⟨#[]⟩, .int .i64 0]) (t := 56) r2_ ?_; intro gb269 hg w2 hbox hb; have BK269 := Ad.mk (hbox); have GW269 := Ad.mk ((z12_ : w.heap.size ≤ gb269)); have GE269 := Ad.mk ((Nat.le_trans HW0.out (z12_ : w.heap.size ≤ gb269) : w0.heap.size ≤ gb269)); have NB0_269 := Ad.mk ((by have G0 := HI0; exact z21_ : g ≠ gb269)); have NB269_0 := Ad.mk ((by have G0 := HI0; exact z22_ : gb269 ≠ g)); replace HK := Ad.mk (KeepBut.trans z3_ (KeepBut.of_below hb g none) (.inl rfl)); replace HB := Ad.mk (below_step (by have G0 := HI0; exact z4_) hb); replace HI0 := Ad.mk (IsS65.below (by have G0 := HI0; exact z2_) hb); clear hb hbox hg) | ((with_reducible refine gate_dst (N := 6) rfl ?_); refine Kd.R_lit Kd.string _ 9 r1_ (N := 6) r1_ (xs := ([(⟨#[94, 94]⟩ : ByteArray), (⟨#[58, 45]⟩ : ByteArray), (⟨#[33, 61]⟩ : ByteArray), (⟨#[61]⟩ : ByteArray), (⟨#[46]⟩ : ByteArray), (⟨#[44]⟩ : ByteArray), (⟨#[40]⟩ : ByteArray), (⟨#[41]⟩ : ByteArray), (⟨#[123]⟩ : ByteArray), (⟨#[125]⟩ : ByteArray)] : List ByteArray)) (inner := [.string ⟨#[94, 94]⟩, .string ⟨#[58, 45]⟩, .string ⟨#[33, 61]⟩, .string ⟨#[61]⟩, .string ⟨#[46]⟩, .string ⟨#[44]⟩, .string ⟨#[40]⟩, .string ⟨#[41]⟩, .string ⟨#[123]⟩, .string ⟨#[125]⟩]) (ok := fun _ => True) (okp := fun _ => True) r2_ ?hp (fun _ hk => hk) trivial (Below.refl _ _) (Nat.le_refl _) (by simp) ?_; (case hp => exact (Reps.one (show Kd.M Kd.string _ _ _ (⟨#[94, 94]⟩ : ByteArray) [.string ⟨#[94, 94]⟩] from rfl) (Reps.one (show Kd.M Kd.string _ _ _ (⟨#[58, 45]⟩ : ByteArray) [.string ⟨#[58, 45]⟩] from rfl) (Reps.one (show Kd.M Kd.string _ _ _ (⟨#[33, 61]⟩ : ByteArray) [.string ⟨#[33, 61]⟩] from rfl) (Reps.one (show Kd.M Kd.string _ _ _ (⟨#[61]⟩ : ByteArray) [.string ⟨#[61]⟩] from rfl) (Reps.one (show Kd.M Kd.string _ _ _ (⟨#[46]⟩ : ByteArray) [.string ⟨#[46]⟩] from rfl) (Reps.one (show Kd.M Kd.string _ _ _ (⟨#[44]⟩ : ByteArray) [.string ⟨#[44]⟩] from rfl) (Reps.one (show Kd.M Kd.string _ _ _ (⟨#[40]⟩ : ByteArray) [.string ⟨#[40]⟩] from rfl) (Reps.one (show Kd.M Kd.string _ _ _ (⟨#[41]⟩ : ByteArray) [.string ⟨#[41]⟩] from rfl) (Reps.one (show Kd.M Kd.string _ _ _ (⟨#[123]⟩ : ByteArray) [.string ⟨#[123]⟩] from rfl) (Reps.one (show Kd.M Kd.string _ _ _ (⟨#[125]⟩ : ByteArray) [.string ⟨#[125]⟩] from rfl) (Reps.none _ _)))))))))))); intro v271 w3 ho4 hb hg_ hnew_; clear hg_ hnew_; (first | rw [← Ny270.out] at ho4 | (simp only [Int.reduceToNat] at ho4; rw [← Ny270.out] at ho4)); have HO272 := Ad.mk (Kd.R_lower ho4 (keep_size (w := w) (g := g) (row := none) (by have G0 := GW269; exact z6_))); replace BK269 := Ad.mk (blk_below (g := gb269) (o := .cells #[.int .i64 0, .string ⟨#[]⟩, .int .i64 0, .string ⟨#[]⟩, .string ⟨#[]⟩, .int .i64 0] 56 (0, 0)) (bd_ BK269.out) hb); replace HK := Ad.mk (KeepBut.trans (by have G0 := GW269; exact z6_) (KeepBut.of_below hb g none) (.inl rfl)); replace HB := Ad.mk (below_step (by have G0 := HI0; have G1 := GE269; exact z8_) hb); replace HI0 := Ad.mk (IsS65.below (by have G0 := HI0; have G1 := NB0_269; exact z7_) hb); clear hb ho4; obtain ⟨Ao5, co5, eo5⟩ := Kd.R_slice HO272.out; subst eo5)); try go_wp2_with (first | ((with_reducible refine gate_dst (N := 2) rfl ?_); refine box_event r1_ (N := 2) r1_ (cs := #[.int .i64 0, .string ⟨#[]⟩, .int .i64 0, .string ⟨#[]⟩, .string ⟨#[]⟩, .int .i64 0]) (t := 56) r2_ ?_; intro gb269 hg w2 hbox hb; have BK269 := Ad.mk (hbox); have GW269 := Ad.mk ((z12_ : w.heap.size ≤ gb269)); have GE269 := Ad.mk ((Nat.le_trans HW0.out (z12_ : w.heap.size ≤ gb269) : w0.heap.size ≤ gb269)); have NB0_269 := Ad.mk ((by have G0 := HI0; exact z21_ : g ≠ gb269)); have NB269_0 := Ad.mk ((by have G0 := HI0; exact z22_ : gb269 ≠ g)); replace HK := Ad.mk (KeepBut.trans z3_ (KeepBut.of_below hb g none) (.inl rfl)); replace HB := Ad.mk (below_step (by have G0 := HI0; exact z4_) hb); replace HI0 := Ad.mk (IsS65.below (by have G0 := HI0; exact z2_) hb); clear hb hbox hg) | ((with_reducible refine gate_dst (N := 6) rfl ?_); refine Kd.R_lit Kd.string _ 9 r1_ (N := 6) r1_ (xs := ([(⟨#[94, 94]⟩ : ByteArray), (⟨#[58, 45]⟩ : ByteArray), (⟨#[33, 61]⟩ : ByteArray), (⟨#[61]⟩ : ByteArray), (⟨#[46]⟩ : ByteArray), (⟨#[44]⟩ : ByteArray), (⟨#[40]⟩ : ByteArray), (⟨#[41]⟩ : ByteArray), (⟨#[123]⟩ : ByteArray), (⟨#[125]⟩ : ByteArray)] : List ByteArray)) (inner := [.string ⟨#[94, 94]⟩, .string ⟨#[58, 45]⟩, .string ⟨#[33, 61]⟩, .string ⟨#[61]⟩, .string ⟨#[46]⟩, .string ⟨#[44]⟩, .string ⟨#[40]⟩, .string ⟨#[41]⟩, .string ⟨#[123]⟩, .string ⟨#[125]⟩]) (ok := fun _ => True) (okp := fun _ => True) r2_ ?hp (fun _ hk => hk) trivial (Below.refl _ _) (Nat.le_refl _) (by simp) ?_; (case hp => exact (Reps.one (show Kd.M Kd.string _ _ _ (⟨#[94, 94]⟩ : ByteArray) [.string ⟨#[94, 94]⟩] from rfl) (Reps.one (show Kd.M Kd.string _ _ _ (⟨#[58, 45]⟩ : ByteArray) [.string ⟨#[58, 45]⟩] from rfl) (Reps.one (show Kd.M Kd.string _ _ _ (⟨#[33, 61]⟩ : ByteArray) [.string ⟨#[33, 61]⟩] from rfl) (Reps.one (show Kd.M Kd.string _ _ _ (⟨#[61]⟩ : ByteArray) [.string ⟨#[61]⟩] from rfl) (Reps.one (show Kd.M Kd.string _ _ _ (⟨#[46]⟩ : ByteArray) [.string ⟨#[46]⟩] from rfl) (Reps.one (show Kd.M Kd.string _ _ _ (⟨#[44]⟩ : ByteArray) [.string ⟨#[44]⟩] from rfl) (Reps.one (show Kd.M Kd.string _ _ _ (⟨#[40]⟩ : ByteArray) [.string ⟨#[40]⟩] from rfl) (Reps.one (show Kd.M Kd.string _ _ _ (⟨#[41]⟩ : ByteArray) [.string ⟨#[41]⟩] from rfl) (Reps.one (show Kd.M Kd.string _ _ _ (⟨#[123]⟩ : ByteArray) [.string ⟨#[123]⟩] from rfl) (Reps.one (show Kd.M Kd.string _ _ _ (⟨#[125]⟩ : ByteArray) [.string ⟨#[125]⟩] from rfl) (Reps.none _ _)))))))))))); intro v271 w3 ho4 hb hg_ hnew_; clear hg_ hnew_; (first | rw [← Ny270.out] at ho4 | (simp only [Int.reduceToNat] at ho4; rw [← Ny270.out] at ho4)); have HO272 := Ad.mk (Kd.R_lower ho4 (keep_size (w := w) (g := g) (row := none) (by have G0 := GW269; exact z6_))); replace BK269 := Ad.mk (blk_below (g := gb269) (o := .cells #[.int .i64 0, .string ⟨#[]⟩, .int .i64 0, .string ⟨#[]⟩, .string ⟨#[]⟩, .int .i64 0] 56 (0, 0)) (bd_ BK269.out) hb); replace HK := Ad.mk (KeepBut.trans (by have G0 := GW269; exact z6_) (KeepBut.of_below hb g none) (.inl rfl)); replace HB := Ad.mk (below_step (by have G0 := HI0; have G1 := GE269; exact z8_) hb); replace HI0 := Ad.mk (IsS65.below (by have G0 := HI0; have G1 := NB0_269; exact z7_) hb); clear hb ho4; obtain ⟨Ao5, co5, eo5⟩ := Kd.R_slice HO272.out; subst eo5)))
 go_loopg [8] k (fun kq v8 w' => ∃ (x8_1 : Int) (x1001_1 : Int) (x270000_1 : Int) (x270001_1 : ByteArray) (x270002_1 : Int) (x270003_1 : ByteArray) (x270004_1 : ByteArray) (x270005_1 : Int), v8 = .int .i64 x8_1 ∧ Ad (ls_mark.l0 kq y270 (y270.length : Int) x8_1 s0_0 x1001_1 = some (r1, r2, r3, r4, r5, r6, r7, r8, r9)) ∧ Ad (kq ≤ k) ∧ Ad (Kd.R Kd.string 9 w' w.heap.size (fun _ => True) (.slice Ao5 y270.length co5) y270) ∧ Ad (w'.heap[gb269]? = some (.cells #[.int .i64 x270000_1, .string x270001_1, .int .i64 x270002_1, .string x270003_1, .string x270004_1, .int .i64 x270005_1] 56 (0, 0))) ∧ Ad (IsS65 w0 w' g s0_0 x1001_1) ∧ Ad (KeepBut w w' g none) ∧ Ad (Below w0.heap.size w0 w'))
 case atStart => exact ⟨(0), (s0_1), (0), ((⟨#[]⟩ : ByteArray)), (0), ((⟨#[]⟩ : ByteArray)), ((⟨#[]⟩ : ByteArray)), (0), e1_, H', ⟨Nat.le_refl _⟩, ⟨by have G0 := HO272; exact z1_⟩, ⟨by refine bd_ ?_; exact BK269.out⟩, ⟨by have G0 := HI0; have G1 := NB0_269; exact z7_⟩, ⟨by have G0 := GW269; exact z6_⟩, ⟨by have G0 := HI0; have G1 := GE269; exact z8_⟩⟩
 case round =>
  clear H'
  try clear p2
  try clear c4
  obtain ⟨x8_1, x1001_1, x270000_1, x270001_1, x270002_1, x270003_1, x270004_1, x270005_1, rfl, HA, HK1, HO_6, BK269, HI0, HK, HB⟩ := hrel
  cases gk with
  | zero => exact absurd HA.out (by simp [ls_mark.l0])
  | succ k1 =>
   have H := HA.out
   clear HA
   simp only [ls_mark.l0] at H
   by_cases c6 : x8_1 < (y270.length : Int)
   ·rw [if_pos c6] at H
    have c6b0 := decide_eq_true c6
    clear c6
    by_cases c7 : 0 ≤ x8_1
    ·rw [if_pos c7] at H
     have c7b0 := decide_eq_true c7
     clear c7
     by_cases c8 : x8_1 < (y270.length : Int)
     ·rw [if_pos c8] at H
      have c8b0 := decide_eq_true c8
      clear c8
      by_cases c9 : 0 ≤ x1001_1
      ·rw [if_pos c9] at H
       have c9b0 := eq_true c9
       have c9b1 := decide_eq_true c9
       clear c9
       by_cases c10 : x1001_1 ≤ (s0_0.size : Int)
       ·rw [if_pos c10] at H
        have c10b0 := eq_true c10
        have c10b1 := decide_eq_true c10
        clear c10
        obtain ⟨t274, A11, H⟩ := bi_ H
        by_cases c12 : t274 = true
        ·subst c12
         rw [if_pos rfl] at H
         simp only [Option.some.injEq, Prod.mk.injEq] at H
         obtain ⟨rfl, rfl, rfl, rfl, rfl, rfl, rfl, rfl, rfl⟩ := H
         have p273 : 0 ≤ (x8_1 : Int) := of_decide_eq_true a1_
         have q273 : x8_1 < (y270.length : Int) := of_decide_eq_true a1_
         obtain ⟨ad273, e273, hx273_0⟩ := Kd.at_string (Kd.R_reads' HO_6.out).2.2 x8_1 p273 q273
         cases e273
         replace p273 := eq_true p273
         replace q273 := eq_true q273
         obtain ⟨HGz13, hgz13⟩ := HI0.out
         have hcz13_0 := cellS65_0 HGz13
         have hcz13_1 := cellS65_1 HGz13
         have hfz13_0 := blk_frozen HGz13 0
         have hfz13_1 := blk_frozen HGz13 1
         clear HGz13 hgz13
         go_wp2_with (first | (go_at_call 71; (with_reducible refine (strings_HasPrefix.calls (s0_0.extract (x1001_1 : Int).toNat s0_0.size) (rdOf ByteArray.empty y270 x8_1) true _ A11.out).mono ?_); rintro e w' ⟨rfl, ⟨nd, rfl⟩⟩; (try first | exact ⟨rfl, _, World.drewN_drewN _ _ _⟩ | exact ⟨rfl, _, Eq.trans (World.drewN_drewN _ _ _) (congrArg (World.drewN _) (Nat.add_assoc _ _ _))⟩); have hnb14 := NB269_0.out; have hnc14 := NB0_269.out; obtain ⟨⟨hcz15_0, hcz15_1, hcz15_2, hcz15_3, hcz15_4, hcz15_5⟩, hfz15_0, hfz15_1, hfz15_2, hfz15_3, hfz15_4, hfz15_5⟩ := c6_ BK269.out))
         repeat (go_quiet (first | (go_at_call 71; (with_reducible refine (strings_HasPrefix.calls (s0_0.extract (x1001_1 : Int).toNat s0_0.size) (rdOf ByteArray.empty y270 x8_1) true _ A11.out).mono ?_); rintro e w' ⟨rfl, ⟨nd, rfl⟩⟩; (try first | exact ⟨rfl, _, World.drewN_drewN _ _ _⟩ | exact ⟨rfl, _, Eq.trans (World.drewN_drewN _ _ _) (congrArg (World.drewN _) (Nat.add_assoc _ _ _))⟩); have hnb14 := NB269_0.out; have hnc14 := NB0_269.out; obtain ⟨⟨hcz15_0, hcz15_1, hcz15_2, hcz15_3, hcz15_4, hcz15_5⟩, hfz15_0, hfz15_1, hfz15_2, hfz15_3, hfz15_4, hfz15_5⟩ := c6_ BK269.out)); try go_wp2_with (first | (go_at_call 71; (with_reducible refine (strings_HasPrefix.calls (s0_0.extract (x1001_1 : Int).toNat s0_0.size) (rdOf ByteArray.empty y270 x8_1) true _ A11.out).mono ?_); rintro e w' ⟨rfl, ⟨nd, rfl⟩⟩; (try first | exact ⟨rfl, _, World.drewN_drewN _ _ _⟩ | exact ⟨rfl, _, Eq.trans (World.drewN_drewN _ _ _) (congrArg (World.drewN _) (Nat.add_assoc _ _ _))⟩); have hnb14 := NB269_0.out; have hnc14 := NB0_269.out; obtain ⟨⟨hcz15_0, hcz15_1, hcz15_2, hcz15_3, hcz15_4, hcz15_5⟩, hfz15_0, hfz15_1, hfz15_2, hfz15_3, hfz15_4, hfz15_5⟩ := c6_ BK269.out)))
         refine bodyPost_ret (results_ct rfl _ _ gb269 56 #[.int .i64 8, .string (rdOf ByteArray.empty y270 x8_1), .int .i64 0, .string ⟨#[]⟩, .string ⟨#[]⟩, .int .i64 0] (0, 0) _ rfl (by refine bd_ ?_; refine blk_put (cs := #[.int .i64 8, .string (rdOf ByteArray.empty y270 x8_1), .int .i64 0, .string ⟨#[]⟩, .string ⟨#[]⟩, .int .i64 x270005_1]) ?_ 5 _ rfl; refine bd_ ?_; refine blk_put (cs := #[.int .i64 8, .string (rdOf ByteArray.empty y270 x8_1), .int .i64 0, .string ⟨#[]⟩, .string x270004_1, .int .i64 x270005_1]) ?_ 4 _ rfl; refine bd_ ?_; refine blk_put (cs := #[.int .i64 8, .string (rdOf ByteArray.empty y270 x8_1), .int .i64 0, .string x270003_1, .string x270004_1, .int .i64 x270005_1]) ?_ 3 _ rfl; refine bd_ ?_; refine blk_put (cs := #[.int .i64 8, .string (rdOf ByteArray.empty y270 x8_1), .int .i64 x270002_1, .string x270003_1, .string x270004_1, .int .i64 x270005_1]) ?_ 2 _ rfl; refine bd_ ?_; refine blk_put (cs := #[.int .i64 8, .string x270001_1, .int .i64 x270002_1, .string x270003_1, .string x270004_1, .int .i64 x270005_1]) ?_ 1 _ rfl; refine bd_ ?_; refine blk_put (cs := #[.int .i64 x270000_1, .string x270001_1, .int .i64 x270002_1, .string x270003_1, .string x270004_1, .int .i64 x270005_1]) ?_ 0 _ rfl; refine bd_ ?_; refine blk_far ?_ NB269_0.out _; refine bd_ ?_; exact BK269.out) Tryd.underlying56 rfl k1_) rfl ?_
         exact ⟨e2_, by have G0 := HI0; have G1 := NB0_269; exact z7_, by have G0 := HI0; have G1 := GE269; exact z8_, by have G0 := GW269; exact z6_⟩
        replace c12 := Bool.eq_false_iff.mpr c12
        subst c12
        rw [if_neg (show ¬ (false = true) by decide)] at H
        have H' := Ad.mk H
        clear H
        have p273 : 0 ≤ (x8_1 : Int) := of_decide_eq_true a1_
        have q273 : x8_1 < (y270.length : Int) := of_decide_eq_true a1_
        obtain ⟨ad273, e273, hx273_0⟩ := Kd.at_string (Kd.R_reads' HO_6.out).2.2 x8_1 p273 q273
        cases e273
        replace p273 := eq_true p273
        replace q273 := eq_true q273
        obtain ⟨HGz16, hgz16⟩ := HI0.out
        have hcz16_0 := cellS65_0 HGz16
        have hcz16_1 := cellS65_1 HGz16
        have hfz16_0 := blk_frozen HGz16 0
        have hfz16_1 := blk_frozen HGz16 1
        clear HGz16 hgz16
        go_wp2_with (first | (go_at_call 71; (with_reducible refine (strings_HasPrefix.calls (s0_0.extract (x1001_1 : Int).toNat s0_0.size) (rdOf ByteArray.empty y270 x8_1) false _ A11.out).mono ?_); rintro e w' ⟨rfl, ⟨nd, rfl⟩⟩; (try first | exact ⟨rfl, _, World.drewN_drewN _ _ _⟩ | exact ⟨rfl, _, Eq.trans (World.drewN_drewN _ _ _) (congrArg (World.drewN _) (Nat.add_assoc _ _ _))⟩)))
        repeat (go_quiet (first | (go_at_call 71; (with_reducible refine (strings_HasPrefix.calls (s0_0.extract (x1001_1 : Int).toNat s0_0.size) (rdOf ByteArray.empty y270 x8_1) false _ A11.out).mono ?_); rintro e w' ⟨rfl, ⟨nd, rfl⟩⟩; (try first | exact ⟨rfl, _, World.drewN_drewN _ _ _⟩ | exact ⟨rfl, _, Eq.trans (World.drewN_drewN _ _ _) (congrArg (World.drewN _) (Nat.add_assoc _ _ _))⟩))); try go_wp2_with (first | (go_at_call 71; (with_reducible refine (strings_HasPrefix.calls (s0_0.extract (x1001_1 : Int).toNat s0_0.size) (rdOf ByteArray.empty y270 x8_1) false _ A11.out).mono ?_); rintro e w' ⟨rfl, ⟨nd, rfl⟩⟩; (try first | exact ⟨rfl, _, World.drewN_drewN _ _ _⟩ | exact ⟨rfl, _, Eq.trans (World.drewN_drewN _ _ _) (congrArg (World.drewN _) (Nat.add_assoc _ _ _))⟩))))
        go_roundg k1
        case measure => have := HK1.out; omega
        case rel => exact ⟨(wrap64 (x8_1 + 1)), (x1001_1), (x270000_1), (x270001_1), (x270002_1), (x270003_1), (x270004_1), (x270005_1), e1_, H', ⟨by have := HK1.out; omega⟩, ⟨by have G0 := HO_6; exact z1_⟩, ⟨by refine bd_ ?_; exact BK269.out⟩, ⟨by have G0 := HI0; have G1 := NB0_269; exact z7_⟩, ⟨by have G0 := GW269; exact z6_⟩, ⟨by have G0 := HI0; have G1 := GE269; exact z8_⟩⟩
       rw [if_neg c10] at H
       exact absurd H (by simp)
      rw [if_neg c9] at H
      exact absurd H (by simp)
     rw [if_neg c8] at H
     exact absurd H (by simp)
    rw [if_neg c7] at H
    exact absurd H (by simp)
   rw [if_neg c6] at H
   have c6b0 := decide_eq_false c6
   clear c6
   simp only [Option.some.injEq, Prod.mk.injEq] at H
   obtain ⟨rfl, rfl, rfl, rfl, rfl, rfl, rfl, rfl, rfl⟩ := H
   have hnb17 := NB269_0.out
   have hnc17 := NB0_269.out
   obtain ⟨⟨hcz18_0, hcz18_1, hcz18_2, hcz18_3, hcz18_4, hcz18_5⟩, hfz18_0, hfz18_1, hfz18_2, hfz18_3, hfz18_4, hfz18_5⟩ := c6_ BK269.out
   go_wp2
   repeat (go_quiet (fail); try go_wp2)
   refine bodyPost_ret (results_ct rfl _ _ gb269 56 #[.int .i64 0, .string ⟨#[]⟩, .int .i64 0, .string ⟨#[]⟩, .string ⟨#[]⟩, .int .i64 0] (0, 0) _ rfl (by refine bd_ ?_; refine blk_put (cs := #[.int .i64 0, .string ⟨#[]⟩, .int .i64 0, .string ⟨#[]⟩, .string ⟨#[]⟩, .int .i64 x270005_1]) ?_ 5 _ rfl; refine bd_ ?_; refine blk_put (cs := #[.int .i64 0, .string ⟨#[]⟩, .int .i64 0, .string ⟨#[]⟩, .string x270004_1, .int .i64 x270005_1]) ?_ 4 _ rfl; refine bd_ ?_; refine blk_put (cs := #[.int .i64 0, .string ⟨#[]⟩, .int .i64 0, .string x270003_1, .string x270004_1, .int .i64 x270005_1]) ?_ 3 _ rfl; refine bd_ ?_; refine blk_put (cs := #[.int .i64 0, .string ⟨#[]⟩, .int .i64 x270002_1, .string x270003_1, .string x270004_1, .int .i64 x270005_1]) ?_ 2 _ rfl; refine bd_ ?_; refine blk_put (cs := #[.int .i64 0, .string x270001_1, .int .i64 x270002_1, .string x270003_1, .string x270004_1, .int .i64 x270005_1]) ?_ 1 _ rfl; refine bd_ ?_; refine blk_put (cs := #[.int .i64 x270000_1, .string x270001_1, .int .i64 x270002_1, .string x270003_1, .string x270004_1, .int .i64 x270005_1]) ?_ 0 _ rfl; refine bd_ ?_; exact BK269.out) Tryd.underlying56 rfl k1_) rfl ?_
   exact ⟨e2_, by have G0 := HI0; have G1 := NB0_269; exact z7_, by have G0 := HI0; have G1 := GE269; exact z8_, by have G0 := GW269; exact z6_⟩
end Go.Proofs.YtjnhdamilbcmpaaDoor.PTm

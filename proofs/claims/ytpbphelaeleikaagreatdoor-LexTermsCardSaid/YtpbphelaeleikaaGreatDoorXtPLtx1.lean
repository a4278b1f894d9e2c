import Derived.Test.YtpbphelaeleikaaGreatDoorXtPLtx0
namespace Go.Proofs.YtpbphelaeleikaaGreatDoor.PLt
open Go.RowKit Go.Proofs.YtpbphelaeleikaaGreatDoorW.PrintWords Go.Proofs.YtpbphelaeleikaaGreatDoorW.PrintLast Go.Proofs.YtpbphelaeleikaaGreatDoorW.PrintMore
attribute [local go_sem] max2_int min2_int max_two min_two max_three min_three max_four min_four
set_option linter.unusedVariables false
set_option linter.unusedSimpArgs false
set_option maxHeartbeats 8000000
set_option maxRecDepth 100000
theorem push_set_last {α : Type} (a : Array α) (x y : α) : (a.push x).setIfInBounds a.size y = a.push y := by
 apply Array.ext_getElem?
 intro i
 rw [Array.getElem?_setIfInBounds, Array.getElem?_push, Array.getElem?_push]
 by_cases h : a.size = i
 ·subst h; simp
 simp [h, Ne.symm h]
theorem run_put_new {P : Program} {T K E : TypeId} {q : IntKind} (hT : P.underlying T = some (.map K E)) (hK : P.underlying K = some (.int q)) (w : World) (es : Array MapEntry) (c : Nat) (k : Int) (v : Value)
  (hf : Instr.findNow (.int q) (.int q k) es.toList 0 = some none) :
  (Instr.mapUpdate T (.map (some w.heap.size)) (.int q k) v).run P (w.alloc (.map es c)) = .ok () (w.alloc (.map (es.push { key := .int q k, val := v, born := c }) (c + 1))) := by
 have hg : (w.alloc (.map es c)).heap[w.heap.size]? = some (.map es c) := World.alloc_heap_new w _
 have hs : ({ w.alloc (.map es c) with heap := (w.alloc (.map es c)).heap.setIfInBounds w.heap.size (.map (es.push { key := .int q k, val := v, born := c }) (c + 1)) } : World) = w.alloc (.map (es.push { key := .int q k, val := v, born := c }) (c + 1)) := by
  show ({ w with heap := (w.heap.push (.map es c)).setIfInBounds w.heap.size _ } : World) = { w with heap := w.heap.push _ }
  rw [push_set_last]
 have hck : (Instr.checkKey false 10000 K (.int q k)).run P (w.alloc (.map es c)) = .ok () (w.alloc (.map es c)) := by
  exact Go.MapKept.run_checkKey hK z32_ false 9999
 have hfk : (Instr.findKey K (.int q k) es.toList).run P (w.alloc (.map es c)) = .ok none (w.alloc (.map es c)) := by
  exact Go.MapKept.run_findKey hK hf
 simp only [Instr.mapUpdate, Sem.run_bind, run_underlying hT, Result.andThen_ok]
 rw [Go.MapKept.run_getObj_map hg]
 simp only [Result.andThen_ok, Sem.run_bind, hck, hfk]
 rw [Go.MapKept.run_setObj_map _ hg, hs]
theorem findNow_cons (q : IntKind) (k a : Int) (v : Value) (n : Nat) (es : List MapEntry) (i : Nat) : Instr.findNow (.int q) (.int q k) (⟨.int q a, v, n⟩ :: es) i = if k = a then some (some (i, v)) else Instr.findNow (.int q) (.int q k) es (i + 1) := by
 simp only [Instr.findNow, Instr.sameNow, if_true]
 by_cases h : k = a
 ·subst h; simp
 have e : (k == a) = false := by simpa using h
 rw [e, if_neg h]
theorem run_look {P : Program} {T K E : TypeId} {q : IntKind} (hT : P.underlying T = some (.map K E)) (hK : P.underlying K = some (.int q)) (w : World) {b c : Nat} {es : Array MapEntry} (hb : w.heap[b]? = some (.map es c)) (k : Int) {v : Value} {i : Nat}
  (hf : Instr.findNow (.int q) (.int q k) es.toList 0 = some (some (i, v))) : (Instr.lookup T (.map (some b)) (.int q k) false).run P w = .ok v w ∧ (Instr.lookup T (.map (some b)) (.int q k) true).run P w = .ok (.tuple #[v, .bool true]) w := by
 have hck : ∀ e, (Instr.checkKey e 10000 K (.int q k)).run P w = .ok () w := fun e => Go.MapKept.run_checkKey hK z32_ e 9999
 have hfk : (Instr.findKey K (.int q k) es.toList).run P w = .ok (some (i, v)) w := Go.MapKept.run_findKey hK hf
 constructor <;>
 ·simp only [Instr.lookup, Sem.run_bind, run_underlying hT, Result.andThen_ok]
  rw [Go.MapKept.run_getObj_map hb]
  simp [hck, hfk]
theorem run_look_none {P : Program} {T K E : TypeId} {q : IntKind} (hT : P.underlying T = some (.map K E)) (hK : P.underlying K = some (.int q)) (w : World) {b c : Nat} {es : Array MapEntry} (hb : w.heap[b]? = some (.map es c)) (k : Int) {z : Value} (hz : (zeroValue E).run P w = .ok z w)
  (hf : Instr.findNow (.int q) (.int q k) es.toList 0 = some none) : (Instr.lookup T (.map (some b)) (.int q k) false).run P w = .ok z w ∧ (Instr.lookup T (.map (some b)) (.int q k) true).run P w = .ok (.tuple #[z, .bool false]) w := by
 have hck : ∀ e, (Instr.checkKey e 10000 K (.int q k)).run P w = .ok () w := fun e => Go.MapKept.run_checkKey hK z32_ e 9999
 have hfk : (Instr.findKey K (.int q k) es.toList).run P w = .ok none w := Go.MapKept.run_findKey hK hf
 constructor <;>
 ·simp only [Instr.lookup, Sem.run_bind, run_underlying hT, Result.andThen_ok]
  rw [Go.MapKept.run_getObj_map hb]
  simp [hck, hfk, hz]
def kindsMap : Array MapEntry := #[⟨.int .i64 1, .func (.func 50) #[] #[], 0⟩, ⟨.int .i64 2, .func (.func 52) #[] #[], 1⟩, ⟨.int .i64 3, .func (.func 54) #[] #[], 2⟩, ⟨.int .i64 4, .func (.func 56) #[] #[], 3⟩, ⟨.int .i64 5, .func (.func 58) #[] #[], 4⟩]
set_option maxRecDepth 100000 in
set_option maxHeartbeats 1000000 in
theorem term_kinds.calls (w : World) : Calls Tryz.prog 34 #[] w fun e w' => e = .returned (.map (some w.heap.size)) ∧ w' = w.alloc (.map kindsMap 5) := by
 have hmm := @run_makeMap Tryz.prog
 have hT := Tryz.underlying79
 have hK := Tryz.underlying29
 have p1 := run_put_new hT hK w #[] 0 1 (.func (.func 50) #[] #[]) rfl
 have p2 := run_put_new hT hK w #[⟨.int .i64 1, .func (.func 50) #[] #[], 0⟩] 1 2 (.func (.func 52) #[] #[]) rfl
 have p3 := run_put_new hT hK w #[⟨.int .i64 1, .func (.func 50) #[] #[], 0⟩, ⟨.int .i64 2, .func (.func 52) #[] #[], 1⟩] 2 3 (.func (.func 54) #[] #[]) rfl
 have p4 := run_put_new hT hK w #[⟨.int .i64 1, .func (.func 50) #[] #[], 0⟩, ⟨.int .i64 2, .func (.func 52) #[] #[], 1⟩, ⟨.int .i64 3, .func (.func 54) #[] #[], 2⟩] 3 4 (.func (.func 56) #[] #[]) rfl
 have p5 := run_put_new hT hK w #[⟨.int .i64 1, .func (.func 50) #[] #[], 0⟩, ⟨.int .i64 2, .func (.func 52) #[] #[], 1⟩, ⟨.int .i64 3, .func (.func 54) #[] #[], 2⟩, ⟨.int .i64 4, .func (.func 56) #[] #[], 3⟩] 4 5 (.func (.func 58) #[] #[]) rfl
 simp only [List.push_toArray, List.nil_append, List.cons_append] at p1 p2 p3 p4 p5
 clear hT hK
 go_enter Tryz.func34, Tryz.ntmps34
 go_wp2
 go_ret
 exact ⟨rfl, rfl⟩
def utf_may.f (a0 : Int) : Option (Bool) := if a0 ≥ 0 then (if a0 ≤ 1114111 then (if a0 < 55296 then (some true) else (some (decide (a0 > 57343)))) else (some false)) else (some false)
theorem utf_may.calls (a0 : Int) (r : Bool) (w : World) (h : utf_may.f a0 = some r) :
  Calls Tryz.prog 66 #[.int .i64 a0] w fun e w' => e = .returned (.bool r) ∧ Drawn0 w w' := by
 have H := h
 clear h
 unfold utf_may.f at H
 by_cases c2 : a0 ≥ 0
 ·rw [if_pos c2] at H
  have c2b0 : decide (0 ≤ a0) = true := decide_eq_true c2
  clear c2
  by_cases c3 : a0 ≤ 1114111
  ·rw [if_pos c3] at H
   have c3b0 := decide_eq_true c3
   clear c3
   by_cases c4 : a0 < 55296
   ·rw [if_pos c4] at H
    have c4b0 := decide_eq_true c4
    clear c4
    obtain rfl := Option.some.inj H
    go_enter Tryz.func66, Tryz.ntmps66
    go_wp2
    go_ret
    exact ⟨e1_, z1_⟩
   rw [if_neg c4] at H
   have c4b0 := decide_eq_false c4
   clear c4
   obtain rfl := Option.some.inj H
   go_enter Tryz.func66, Tryz.ntmps66
   go_wp2
   go_ret
   exact ⟨e1_, z1_⟩
  rw [if_neg c3] at H
  have c3b0 := decide_eq_false c3
  clear c3
  obtain rfl := Option.some.inj H
  go_enter Tryz.func66, Tryz.ntmps66
  go_wp2
  go_ret
  exact ⟨e1_, z1_⟩
 rw [if_neg c2] at H
 have c2b0 : decide (0 ≤ a0) = false := decide_eq_false c2
 clear c2
 obtain rfl := Option.some.inj H
 go_enter Tryz.func66, Tryz.ntmps66
 go_wp2
 go_ret
 exact ⟨e1_, z1_⟩
def utf_size.f (a0 : Int) : Option (Int) := if a0 < 128 then (some 1) else (if a0 < 2048 then (some 2) else (if a0 < 65536 then (some 3) else (some 4)))
theorem utf_size.calls (a0 : Int) (r : Int) (w : World) (h : utf_size.f a0 = some r) :
  Calls Tryz.prog 67 #[.int .i64 a0] w fun e w' => e = .returned (.int .i64 r) ∧ Drawn0 w w' := by
 have H := h
 clear h
 unfold utf_size.f at H
 by_cases c2 : a0 < 128
 ·rw [if_pos c2] at H
  have c2b0 := decide_eq_true c2
  clear c2
  obtain rfl := Option.some.inj H
  go_enter Tryz.func67, Tryz.ntmps67
  go_wp2
  go_ret
  exact ⟨e1_, z1_⟩
 rw [if_neg c2] at H
 have c2b0 := decide_eq_false c2
 clear c2
 by_cases c3 : a0 < 2048
 ·rw [if_pos c3] at H
  have c3b0 := decide_eq_true c3
  clear c3
  obtain rfl := Option.some.inj H
  go_enter Tryz.func67, Tryz.ntmps67
  go_wp2
  go_ret
  exact ⟨e1_, z1_⟩
 rw [if_neg c3] at H
 have c3b0 := decide_eq_false c3
 clear c3
 by_cases c4 : a0 < 65536
 ·rw [if_pos c4] at H
  have c4b0 := decide_eq_true c4
  clear c4
  obtain rfl := Option.some.inj H
  go_enter Tryz.func67, Tryz.ntmps67
  go_wp2
  go_ret
  exact ⟨e1_, z1_⟩
 rw [if_neg c4] at H
 have c4b0 := decide_eq_false c4
 clear c4
 obtain rfl := Option.some.inj H
 go_enter Tryz.func67, Tryz.ntmps67
 go_wp2
 go_ret
 exact ⟨e1_, z1_⟩
mutual
def utf_head.j0 : Nat → Int → Bool → Option (Int × Int)
 | 0, _, _ => none
 | k + 1, x0, x9 => if x9 = true then (some (wrap64 (Go.bits .and .u8 x0 31), 1)) else (if x0 ≥ 224 then (utf_head.j1 k x0 (decide (x0 < 240))) else (utf_head.j1 k x0 false))
def utf_head.j1 : Nat → Int → Bool → Option (Int × Int)
 | 0, _, _ => none
 | k + 1, x0, x19 => if x19 = true then (some (wrap64 (Go.bits .and .u8 x0 15), 2)) else (if x0 ≥ 240 then (if x0 < 245 then (some (wrap64 (Go.bits .and .u8 x0 7), 3)) else (some (0, (-1)))) else (some (0, (-1))))
end
def utf_head.f (k : Nat) (a0 : Int) : Option (Int × Int) := if a0 < 128 then (some (wrap64 (a0), 0)) else (if a0 ≥ 194 then (utf_head.j0 k a0 (decide (a0 < 224))) else (utf_head.j0 k a0 false))
theorem utf_head.calls (k : Nat) (a0 : Int) (r1 : Int) (r2 : Int) (w : World) (h : utf_head.f k a0 = some (r1, r2)) :
  Calls Tryz.prog 83 #[.int .u8 a0] w fun e w' => e = .returned (.tuple #[.int .i64 r1, .int .i64 r2]) ∧ Drawn0 w w' := by
 have H := h
 clear h
 unfold utf_head.f at H
 by_cases c2 : a0 < 128
 ·rw [if_pos c2] at H
  have c2b0 := decide_eq_true c2
  clear c2
  simp only [Option.some.injEq, Prod.mk.injEq] at H
  obtain ⟨rfl, rfl⟩ := H
  go_enter Tryz.func83, Tryz.ntmps83
  go_wp2
  go_ret2
  exact ⟨e1_, z1_⟩
 rw [if_neg c2] at H
 have c2b0 := decide_eq_false c2
 clear c2
 have HC3 := Ad.mk H
 clear H
 go_enter Tryz.func83, Tryz.ntmps83
 go_upto_region 3 with (fail)
 go_cut [9] (fun v9 wc => ∃ (kq : Nat) (x9_2 : Bool), v9 = .bool x9_2 ∧ Ad (utf_head.j0 kq a0 x9_2 = some (r1, r2)) ∧ Ad (kq ≤ k) ∧ Drawn0 w wc)
 case first =>
  have H := HC3.out
  clear HC3
  by_cases c4 : a0 ≥ 194
  ·rw [if_pos c4] at H
   have c4b0 : decide (194 ≤ a0) = true := decide_eq_true c4
   clear c4
   (first | rw [c4b0] | (simp only [i64_w, i32_w]; rw [c4b0]) | skip)
   have H' := Ad.mk H
   clear H
   go_wp2
   go_meet
   case rel => exact ⟨_, (decide (a0 < 224)), e1_, H', ⟨z12_⟩, z1_⟩
  rw [if_neg c4] at H
  have c4b0 : decide (194 ≤ a0) = false := decide_eq_false c4
  clear c4
  (first | rw [c4b0] | (simp only [i64_w, i32_w]; rw [c4b0]) | skip)
  have H' := Ad.mk H
  clear H
  go_wp2
  go_meet
  case rel => exact ⟨_, (false), e1_, H', ⟨z12_⟩, z1_⟩
 case rest =>
  clear HC3
  try clear c2
  try clear c2b0
  obtain ⟨kq, x9_2, rfl, HA, HJ2, ⟨mc2, rfl⟩⟩ := hcut
  cases kq with
  | zero => exact absurd HA.out (by simp [utf_head.j0])
  | succ kj2 =>
   have H := HA.out
   clear HA
   simp only [utf_head.j0] at H
   by_cases c5 : x9_2 = true
   ·subst c5
    rw [if_pos rfl] at H
    simp only [Option.some.injEq, Prod.mk.injEq] at H
    obtain ⟨rfl, rfl⟩ := H
    go_wp2
    go_ret2
    exact ⟨e1_, z1_⟩
   replace c5 := Bool.eq_false_iff.mpr c5
   subst c5
   rw [if_neg (show ¬ (false = true) by decide)] at H
   have HC6 := Ad.mk H
   clear H
   go_upto_region 5 with (fail)
   go_cut [19] (fun v19 wc => ∃ (kq : Nat) (x19_5 : Bool), v19 = .bool x19_5 ∧ Ad (utf_head.j1 kq a0 x19_5 = some (r1, r2)) ∧ Ad (kq ≤ kj2) ∧ Drawn0 w wc)
   case first =>
    have H := HC6.out
    clear HC6
    by_cases c7 : a0 ≥ 224
    ·rw [if_pos c7] at H
     have c7b0 : decide (224 ≤ a0) = true := decide_eq_true c7
     clear c7
     (first | rw [c7b0] | (simp only [i64_w, i32_w]; rw [c7b0]) | skip)
     have H' := Ad.mk H
     clear H
     go_wp2
     go_meet
     case rel => exact ⟨_, (decide (a0 < 240)), e1_, H', ⟨by have := HJ2.out; first | omega | exact Nat.le_refl _⟩, z1_⟩
    rw [if_neg c7] at H
    have c7b0 : decide (224 ≤ a0) = false := decide_eq_false c7
    clear c7
    (first | rw [c7b0] | (simp only [i64_w, i32_w]; rw [c7b0]) | skip)
    have H' := Ad.mk H
    clear H
    go_wp2
    go_meet
    case rel => exact ⟨_, (false), e1_, H', ⟨by have := HJ2.out; first | omega | exact Nat.le_refl _⟩, z1_⟩
   case rest =>
    clear HC6
    try clear c2
    try clear c2b0
    try clear c4
    try clear c4b0
    try clear c5
    obtain ⟨kq, x19_5, rfl, HA, HJ5, ⟨mc5, rfl⟩⟩ := hcut
    cases kq with
    | zero => exact absurd HA.out (by simp [utf_head.j1])
    | succ kj5 =>
     have H := HA.out
     clear HA
     simp only [utf_head.j1] at H
     by_cases c8 : x19_5 = true
     ·subst c8
      rw [if_pos rfl] at H
      simp only [Option.some.injEq, Prod.mk.injEq] at H
      obtain ⟨rfl, rfl⟩ := H
      go_wp2
      go_ret2
      exact ⟨e1_, z1_⟩
     replace c8 := Bool.eq_false_iff.mpr c8
     subst c8
     rw [if_neg (show ¬ (false = true) by decide)] at H
     by_cases c9 : a0 ≥ 240
     ·rw [if_pos c9] at H
      have c9b0 : decide (240 ≤ a0) = true := decide_eq_true c9
      clear c9
      by_cases c10 : a0 < 245
      ·rw [if_pos c10] at H
       have c10b0 := decide_eq_true c10
       clear c10
       simp only [Option.some.injEq, Prod.mk.injEq] at H
       obtain ⟨rfl, rfl⟩ := H
       go_wp2
       go_ret2
       exact ⟨e1_, z1_⟩
      rw [if_neg c10] at H
      have c10b0 := decide_eq_false c10
      clear c10
      simp only [Option.some.injEq, Prod.mk.injEq] at H
      obtain ⟨rfl, rfl⟩ := H
      go_wp2
      go_ret2
      exact ⟨e1_, z1_⟩
     rw [if_neg c9] at H
     have c9b0 : decide (240 ≤ a0) = false := decide_eq_false c9
     clear c9
     simp only [Option.some.injEq, Prod.mk.injEq] at H
     obtain ⟨rfl, rfl⟩ := H
     go_wp2
     go_ret2
     exact ⟨e1_, z1_⟩
def utf_Get.l0 : Nat → ByteArray → Int → Int → Int → Option (Int × Int × Int)
 | 0, _, _, _, _ => none
 | k + 1, s, more, r, i => if i < more then (if 0 ≤ wrap64 (i + 1) then (if wrap64 (i + 1) < (s.size : Int) then (if Go.bits .and .u8 (bt s (wrap64 (i + 1))) 192 = 128 then (utf_Get.l0 k s more (Go.bits .or .i64 (wrap64 (r * 64)) (wrap64 (Go.bits .and .u8 (bt s (wrap64 (i + 1))) 63))) (wrap64 (i + 1))) else (some (0, 0, 4))) else none) else none)
  else ((utf_may.f r).bind fun t => if t = true then ((utf_size.f r).bind fun u => if u = wrap64 (more + 1) then (some (r, wrap64 (more + 1), 0)) else (some (0, 0, 4))) else (some (0, 0, 4)))
def utf_Get.j0 (k : Nat) (s : ByteArray) (r more : Int) : Option (Int × Int × Int) := if more < 0 then (some (0, 0, 4)) else (if (s.size : Int) ≤ more then (some (0, 0, 4)) else (utf_Get.l0 k s more r 0))
def utf_Get.f (k : Nat) (s : ByteArray) : Option (Int × Int × Int) := if 0 < s.size then ((utf_head.f k (bt s 0)).bind fun b => utf_Get.j0 k s b.1 b.2) else (some (0, 0, 4))
theorem nonempty_of_size {s : ByteArray} (h : 0 < s.size) : ¬ (s.toList = []) := by
 intro e
 rw [ByteArray.toList_eq] at e
 have e2 : s.data.toList.length = 0 := by rw [e]; rfl
 rw [Array.length_toList] at e2
 have e3 : s.size = s.data.size := rfl
 omega
theorem empty_of_size {s : ByteArray} (h : ¬ 0 < s.size) : s = ⟨#[]⟩ := by
 obtain ⟨⟨l⟩⟩ := s
 cases l with
 | nil => rfl
 | cons c l => exact absurd (show 0 < (⟨⟨c :: l⟩⟩ : ByteArray).size from Nat.succ_pos _) h
set_option maxHeartbeats 1000000 in
set_option maxRecDepth 100000 in
theorem utf_Get.calls (k : Nat) (s : ByteArray) (r1 r2 r3 : Int) (w : World) (h : utf_Get.f k s = some (r1, r2, r3)) :
  Calls Tryz.prog 65 #[.string s] w fun e w' => e = .returned (.tuple #[.int .i64 r1, .int .i64 r2, .int .i64 r3]) ∧ Drawn0 w w' := by
 by_cases h0 : 0 < s.size
 ·unfold utf_Get.f at h
  rw [if_pos h0] at h
  obtain ⟨⟨hr, hm⟩, hh, h⟩ := Option.bind_eq_some_iff.mp h
  have H := Ad.mk h
  have HH := Ad.mk hh
  clear h hh
  have e0 := nonempty_of_size h0
  have e1 : decide ((0 : Int) < (s.size : Int)) = true := decide_eq_true (by omega)
  have hx0 : ∀ h : 0 < s.size, ((s[0]'h).toNat : Int) = bt s 0 := bt_at s 0
  have e0b : (s.toList != []) = true := bne_iff_ne.mpr e0
  have e0c : (s.toList == []) = false := beq_eq_false_iff_ne.mpr e0
  have e0d : (!s.toList.isEmpty) = true := by simp [e0]
  have hsplit : (hm < 0 ∧ (r1 = 0 ∧ r2 = 0 ∧ r3 = 4)) ∨ (0 ≤ hm ∧ (s.size : Int) ≤ hm ∧ (r1 = 0 ∧ r2 = 0 ∧ r3 = 4)) ∨ (0 ≤ hm ∧ hm < (s.size : Int) ∧ utf_Get.l0 k s hm hr 0 = some (r1, r2, r3)) := by
   have h := H.out
   unfold utf_Get.j0 at h
   by_cases c1 : hm < 0
   ·rw [if_pos c1] at h; simp at h; exact .inl ⟨c1, by omega⟩
   rw [if_neg c1] at h
   by_cases c2 : (s.size : Int) ≤ hm
   ·rw [if_pos c2] at h; simp at h; exact .inr (.inl ⟨by omega, c2, by omega⟩)
   rw [if_neg c2] at h; exact .inr (.inr ⟨by omega, by omega, h⟩)
  have e1n := eq_true h0
  clear H e0 h0
  rcases hsplit with ⟨c1, rfl, rfl, rfl⟩ | ⟨c1, c2, rfl, rfl, rfl⟩ | ⟨c1, c2, H⟩
  ·have d1 : decide (hm < 0) = true := decide_eq_true c1
   go_enter Tryz.func65, Tryz.ntmps65
   go_wp2_with fail
   refine wp_scope_jumps 0 (fun a' w' => True ∧ Drawn0 w w' ∧ ∃ u1 u2 u3 u4 u5 u6 u7 u8 u9 u10 u11 u12 u13 u14 u15 u16 u17 u18 u19 u20 u21 u22 u23 u24 u25 u26 u27 u28 u29 u30 u31 u32 u33 u34 u35 u36 u37 u38 u39 u40 u41 u42 u43 u44 u45 u46 u47 u48 u49 u50 u51 u52 u53 u54 u55 : Value, a' = { tmps := #[.string s, u1, u2, u3, u4, u5, u6, u7, u8, u9, u10, u11, u12, u13, u14, u15, u16, u17, u18, u19, u20, u21, u22, u23, u24, u25, u26, u27, u28, u29, u30, u31, u32, u33, u34, u35, u36, u37, u38, u39, u40, u41, u42, u43, u44, u45, u46, u47, u48, u49, u50, u51, u52, u53, u54, u55], defers := [] }) (fun _ _ => 0) rfl ?_ ?_
   ·go_wp2_with (go_at_call 83; refine (utf_head.calls k (bt s 0) hr hm _ HH.out).mono ?_; rintro e w' ⟨rfl, ⟨nd, rfl⟩⟩)
    go_step3
    exact ⟨rfl, trivial, z1_, ⟨_, _, _, _, _, _, _, _, _, _, _, _, _, _, _, _, _, _, _, _, _, _, _, _, _, _, _, _, _, _, _, _, _, _, _, _, _, _, _, _, _, _, _, _, _, _, _, _, _, _, _, _, _, _, _, rfl⟩⟩
   rintro a' w' ⟨_, ⟨nd, rfl⟩, u1, u2, u3, u4, u5, u6, u7, u8, u9, u10, u11, u12, u13, u14, u15, u16, u17, u18, u19, u20, u21, u22, u23, u24, u25, u26, u27, u28, u29, u30, u31, u32, u33, u34, u35, u36, u37, u38, u39, u40, u41, u42, u43, u44, u45, u46, u47, u48, u49, u50, u51, u52, u53, u54, u55, rfl⟩
   go_wp2
   simp only [Exit.jump]
   go_ret3
   exact ⟨rfl, z1_⟩
  ·have d1 : decide (hm < 0) = false := decide_eq_false (by omega)
   have d2 : decide ((s.size : Int) ≤ hm) = true := decide_eq_true c2
   go_enter Tryz.func65, Tryz.ntmps65
   go_wp2_with fail
   refine wp_scope_jumps 0 (fun a' w' => True ∧ Drawn0 w w' ∧ ∃ u1 u2 u3 u4 u5 u6 u7 u8 u9 u10 u11 u12 u13 u14 u15 u16 u17 u18 u19 u20 u21 u22 u23 u24 u25 u26 u27 u28 u29 u30 u31 u32 u33 u34 u35 u36 u37 u38 u39 u40 u41 u42 u43 u44 u45 u46 u47 u48 u49 u50 u51 u52 u53 u54 u55 : Value, a' = { tmps := #[.string s, u1, u2, u3, u4, u5, u6, u7, u8, u9, u10, u11, u12, u13, u14, u15, u16, u17, u18, u19, u20, u21, u22, u23, u24, u25, u26, u27, u28, u29, u30, u31, u32, u33, u34, u35, u36, u37, u38, u39, u40, u41, u42, u43, u44, u45, u46, u47, u48, u49, u50, u51, u52, u53, u54, u55], defers := [] }) (fun _ _ => 0) rfl ?_ ?_
   ·go_wp2_with (go_at_call 83; refine (utf_head.calls k (bt s 0) hr hm _ HH.out).mono ?_; rintro e w' ⟨rfl, ⟨nd, rfl⟩⟩)
    go_step3
    exact ⟨rfl, trivial, z1_, ⟨_, _, _, _, _, _, _, _, _, _, _, _, _, _, _, _, _, _, _, _, _, _, _, _, _, _, _, _, _, _, _, _, _, _, _, _, _, _, _, _, _, _, _, _, _, _, _, _, _, _, _, _, _, _, _, rfl⟩⟩
   rintro a' w' ⟨_, ⟨nd, rfl⟩, u1, u2, u3, u4, u5, u6, u7, u8, u9, u10, u11, u12, u13, u14, u15, u16, u17, u18, u19, u20, u21, u22, u23, u24, u25, u26, u27, u28, u29, u30, u31, u32, u33, u34, u35, u36, u37, u38, u39, u40, u41, u42, u43, u44, u45, u46, u47, u48, u49, u50, u51, u52, u53, u54, u55, rfl⟩
   go_wp2
   simp only [Exit.jump]
   go_ret3
   exact ⟨rfl, z1_⟩
  have d1 : decide (hm < 0) = false := decide_eq_false (by omega)
  have d2 : decide ((s.size : Int) ≤ hm) = false := decide_eq_false (by omega)
  have H' := Ad.mk H
  clear H
  go_enter Tryz.func65, Tryz.ntmps65
  go_wp2_with fail
  refine wp_scope_jumps 0 (fun a' w' => (r1 = 0 ∧ r2 = 0 ∧ r3 = 4) ∧ Drawn0 w w' ∧ ∃ u1 u2 u3 u4 u5 u6 u7 u8 u9 u10 u11 u12 u13 u14 u15 u16 u17 u18 u19 u20 u21 u22 u23 u24 u25 u26 u27 u28 u29 u30 u31 u32 u33 u34 u35 u36 u37 u38 u39 u40 u41 u42 u43 u44 u45 u46 u47 u48 u49 u50 u51 u52 u53 u54 u55 : Value, a' = { tmps := #[.string s, u1, u2, u3, u4, u5, u6, u7, u8, u9, u10, u11, u12, u13, u14, u15, u16, u17, u18, u19, u20, u21, u22, u23, u24, u25, u26, u27, u28, u29, u30, u31, u32, u33, u34, u35, u36, u37, u38, u39, u40, u41, u42, u43, u44, u45, u46, u47, u48, u49, u50, u51, u52, u53, u54, u55], defers := [] }) (fun _ _ => 0) rfl ?_ ?_
  ·go_wp2_with (go_at_call 83; refine (utf_head.calls k (bt s 0) hr hm _ HH.out).mono ?_; rintro e w' ⟨rfl, ⟨nd, rfl⟩⟩)
   go_loopg [5, 25] k (fun kq v5 v25 w' => ∃ r i : Int, v5 = .int .i64 r ∧ v25 = .int .i64 i ∧ Ad (utf_Get.l0 kq s hm r i = some (r1, r2, r3)) ∧ Drawn0 w w')
   case atStart => exact ⟨hr, 0, rfl, rfl, H', z1_⟩
   case round =>
    clear H'
    obtain ⟨r, i, rfl, rfl, HA, ⟨m2, rfl⟩⟩ := hrel
    cases gk with
    | zero => exact absurd HA.out (by simp [utf_Get.l0])
    | succ k2 =>
     have H := HA.out
     clear HA
     simp only [utf_Get.l0] at H
     by_cases c3 : i < hm
     ·rw [if_pos c3] at H
      have c3b : decide (i < hm) = true := decide_eq_true c3
      obtain ⟨ji, hji⟩ : ∃ j_ : Int, wrap64 (i + 1) = j_ := ⟨_, rfl⟩
      rw [hji] at H
      have p1 : 0 ≤ ji := by
       by_cases q : 0 ≤ ji
       ·exact q
       rw [if_neg q] at H; cases H
      rw [if_pos p1] at H
      have p2 : ji < (s.size : Int) := by
       by_cases q : ji < (s.size : Int)
       ·exact q
       rw [if_neg q] at H; cases H
      rw [if_pos p2] at H
      have hx := bt_at s ji
      have P1 := eq_true p1
      have P2 := eq_true p2
      by_cases c4 : Go.bits .and .u8 (bt s ji) 192 = 128
      ·rw [if_pos c4] at H
       have c4b : (Go.bits .and .u8 (bt s ji) 192 == 128) = true := beq_iff_eq.mpr c4
       have c4c : (Go.bits .and .u8 (bt s ji) 192 != 128) = false := bne_eq_false_iff_eq.mpr c4
       have H2 := Ad.mk H
       clear H c3 c4 p1 p2
       go_wp2
       go_roundg k2
       case measure => omega
       case rel => exact ⟨_, _, rfl, by rw [hji], H2, z1_⟩
      rw [if_neg c4] at H
      have c4b : (Go.bits .and .u8 (bt s ji) 192 == 128) = false := beq_eq_false_iff_ne.mpr c4
      have c4c : (Go.bits .and .u8 (bt s ji) 192 != 128) = true := bne_iff_ne.mpr c4
      have H2 : r1 = 0 ∧ r2 = 0 ∧ r3 = 4 := by simp at H; omega
      have H3 := Ad.mk H2
      clear H H2 c3 c4 p1 p2
      go_wp2
      go_step3
      exact ⟨rfl, H3.out, z1_, ⟨_, _, _, _, _, _, _, _, _, _, _, _, _, _, _, _, _, _, _, _, _, _, _, _, _, _, _, _, _, _, _, _, _, _, _, _, _, _, _, _, _, _, _, _, _, _, _, _, _, _, _, _, _, _, _, rfl⟩⟩
     rw [if_neg c3] at H
     have c3b : decide (i < hm) = false := decide_eq_false c3
     obtain ⟨t1, ht1, H⟩ := Option.bind_eq_some_iff.mp H
     have HT1 := Ad.mk ht1
     clear ht1 c3
     cases t1 with
     | false =>
      rw [if_neg (by decide)] at H
      have H2 : r1 = 0 ∧ r2 = 0 ∧ r3 = 4 := by simp at H; omega
      have H3 := Ad.mk H2
      clear H H2
      go_wp2_with (go_at_call 66; refine (utf_may.calls r false _ HT1.out).mono ?_; rintro e w' ⟨rfl, ⟨nd, rfl⟩⟩)
      go_wp2
      go_step3
      go_wp2
      simp only [Exit.jump]
      go_ret3
      exact ⟨by obtain ⟨rfl, rfl, rfl⟩ := H3.out; rfl, z1_⟩
     | true =>
      rw [if_pos rfl] at H
      obtain ⟨t2, ht2, H⟩ := Option.bind_eq_some_iff.mp H
      have HT2 := Ad.mk ht2
      clear ht2
      by_cases c5 : t2 = wrap64 (hm + 1)
      ·rw [if_pos c5] at H
       have c5b : (t2 == wrap64 (hm + 1)) = true := beq_iff_eq.mpr c5
       have H2 : r1 = r ∧ r2 = wrap64 (hm + 1) ∧ r3 = 0 := by simp at H; omega
       obtain ⟨rfl, rfl, rfl⟩ := H2
       clear H c5
       go_wp2_with (first | (go_at_call 66; refine (utf_may.calls _ true _ HT1.out).mono ?_; rintro e w' ⟨rfl, ⟨nd, rfl⟩⟩) | (go_at_call 67; refine (utf_size.calls _ t2 _ HT2.out).mono ?_; rintro e w' ⟨rfl, ⟨nd, rfl⟩⟩))
       simp only [Exit.jump]
       go_ret3
       exact ⟨rfl, z1_⟩
      rw [if_neg c5] at H
      have c5b : (t2 == wrap64 (hm + 1)) = false := beq_eq_false_iff_ne.mpr c5
      have H2 : r1 = 0 ∧ r2 = 0 ∧ r3 = 4 := by simp at H; omega
      have H3 := Ad.mk H2
      clear H H2 c5
      go_wp2_with (first | (go_at_call 66; refine (utf_may.calls _ true _ HT1.out).mono ?_; rintro e w' ⟨rfl, ⟨nd, rfl⟩⟩) | (go_at_call 67; refine (utf_size.calls _ t2 _ HT2.out).mono ?_; rintro e w' ⟨rfl, ⟨nd, rfl⟩⟩))
      go_step3
      go_wp2
      simp only [Exit.jump]
      go_ret3
      exact ⟨by obtain ⟨rfl, rfl, rfl⟩ := H3.out; rfl, z1_⟩
  rintro a' w' ⟨⟨rfl, rfl, rfl⟩, ⟨nd, rfl⟩, u1, u2, u3, u4, u5, u6, u7, u8, u9, u10, u11, u12, u13, u14, u15, u16, u17, u18, u19, u20, u21, u22, u23, u24, u25, u26, u27, u28, u29, u30, u31, u32, u33, u34, u35, u36, u37, u38, u39, u40, u41, u42, u43, u44, u45, u46, u47, u48, u49, u50, u51, u52, u53, u54, u55, rfl⟩
  go_wp2
  simp only [Exit.jump]
  go_ret3
  exact ⟨rfl, z1_⟩
 have h1 : (r1 = 0 ∧ r2 = 0 ∧ r3 = 4) := by
  unfold utf_Get.f at h
  rw [if_neg h0] at h
  simp at h; omega
 obtain ⟨rfl, rfl, rfl⟩ := h1
 obtain rfl := empty_of_size h0
 clear h h0
 go_enter Tryz.func65, Tryz.ntmps65
 go_wp2_with fail
 refine wp_scope_jumps 0 (fun a' w' => ∃ u1 u2 u3 u4 u5 u6 u7 u8 u9 u10 u11 u12 u13 u14 u15 u16 u17 u18 u19 u20 u21 u22 u23 u24 u25 u26 u27 u28 u29 u30 u31 u32 u33 u34 u35 u36 u37 u38 u39 u40 u41 u42 u43 u44 u45 u46 u47 u48 u49 u50 u51 u52 u53 u54 u55 : Value, a' = { tmps := #[.string ⟨#[]⟩, u1, u2, u3, u4, u5, u6, u7, u8, u9, u10, u11, u12, u13, u14, u15, u16, u17, u18, u19, u20, u21, u22, u23, u24, u25, u26, u27, u28, u29, u30, u31, u32, u33, u34, u35, u36, u37, u38, u39, u40, u41, u42, u43, u44, u45, u46, u47, u48, u49, u50, u51, u52, u53, u54, u55], defers := [] } ∧ Drawn0 w w') (fun _ _ => 0) rfl ?_ ?_
 ·go_wp2
  go_step3
  exact ⟨rfl, _, _, _, _, _, _, _, _, _, _, _, _, _, _, _, _, _, _, _, _, _, _, _, _, _, _, _, _, _, _, _, _, _, _, _, _, _, _, _, _, _, _, _, _, _, _, _, _, _, _, _, _, _, _, _, rfl, z1_⟩
 rintro a' w' ⟨u1, u2, u3, u4, u5, u6, u7, u8, u9, u10, u11, u12, u13, u14, u15, u16, u17, u18, u19, u20, u21, u22, u23, u24, u25, u26, u27, u28, u29, u30, u31, u32, u33, u34, u35, u36, u37, u38, u39, u40, u41, u42, u43, u44, u45, u46, u47, u48, u49, u50, u51, u52, u53, u54, u55, rfl, ⟨nd, rfl⟩⟩
 go_wp2
 simp only [Exit.jump]
 go_ret3
 exact ⟨rfl, z1_⟩
def term_letter.f (a0 : Int) : Option (Bool) := if a0 ≥ 65 then (if a0 ≤ 90 then (some true) else (if a0 ≥ 97 then (some (decide (a0 ≤ 122))) else (some false))) else (if a0 ≥ 97 then (some (decide (a0 ≤ 122))) else (some false))
theorem term_letter.calls (a0 : Int) (r : Bool) (w : World) (h : term_letter.f a0 = some r) :
  Calls Tryz.prog 80 #[.int .u8 a0] w fun e w' => e = .returned (.bool r) ∧ Drawn0 w w' := by
 have H := h
 clear h
 unfold term_letter.f at H
 by_cases c2 : a0 ≥ 65
 ·rw [if_pos c2] at H
  have c2b0 : decide (65 ≤ a0) = true := decide_eq_true c2
  clear c2
  by_cases c3 : a0 ≤ 90
  ·rw [if_pos c3] at H
   have c3b0 := decide_eq_true c3
   clear c3
   obtain rfl := Option.some.inj H
   go_enter Tryz.func80, Tryz.ntmps80
   go_wp2
   go_ret
   exact ⟨e1_, z1_⟩
  rw [if_neg c3] at H
  have c3b0 := decide_eq_false c3
  clear c3
  by_cases c4 : a0 ≥ 97
  ·rw [if_pos c4] at H
   have c4b0 : decide (97 ≤ a0) = true := decide_eq_true c4
   clear c4
   obtain rfl := Option.some.inj H
   go_enter Tryz.func80, Tryz.ntmps80
   go_wp2
   go_ret
   exact ⟨e1_, z1_⟩
  rw [if_neg c4] at H
  have c4b0 : decide (97 ≤ a0) = false := decide_eq_false c4
  clear c4
  obtain rfl := Option.some.inj H
  go_enter Tryz.func80, Tryz.ntmps80
  go_wp2
  go_ret
  exact ⟨e1_, z1_⟩
 rw [if_neg c2] at H
 have c2b0 : decide (65 ≤ a0) = false := decide_eq_false c2
 clear c2
 by_cases c5 : a0 ≥ 97
 ·rw [if_pos c5] at H
  have c5b0 : decide (97 ≤ a0) = true := decide_eq_true c5
  clear c5
  obtain rfl := Option.some.inj H
  go_enter Tryz.func80, Tryz.ntmps80
  go_wp2
  go_ret
  exact ⟨e1_, z1_⟩
 rw [if_neg c5] at H
 have c5b0 : decide (97 ≤ a0) = false := decide_eq_false c5
 clear c5
 obtain rfl := Option.some.inj H
 go_enter Tryz.func80, Tryz.ntmps80
 go_wp2
 go_ret
 exact ⟨e1_, z1_⟩
def term_digit.f (a0 : Int) : Option (Bool) := if a0 ≥ 48 then (some (decide (a0 ≤ 57))) else (some false)
theorem term_digit.calls (a0 : Int) (r : Bool) (w : World) (h : term_digit.f a0 = some r) :
  Calls Tryz.prog 81 #[.int .u8 a0] w fun e w' => e = .returned (.bool r) ∧ Drawn0 w w' := by
 have H := h
 clear h
 unfold term_digit.f at H
 by_cases c2 : a0 ≥ 48
 ·rw [if_pos c2] at H
  have c2b0 : decide (48 ≤ a0) = true := decide_eq_true c2
  clear c2
  obtain rfl := Option.some.inj H
  go_enter Tryz.func81, Tryz.ntmps81
  go_wp2
  go_ret
  exact ⟨e1_, z1_⟩
 rw [if_neg c2] at H
 have c2b0 : decide (48 ≤ a0) = false := decide_eq_false c2
 clear c2
 obtain rfl := Option.some.inj H
 go_enter Tryz.func81, Tryz.ntmps81
 go_wp2
 go_ret
 exact ⟨e1_, z1_⟩
def term_blank.l0 : Nat → ByteArray → Int → Int → Option (Bool)
 | 0, _, _, _ => none
 | k + 1, x0, x5, x6 => if x6 < x5 then (if 0 ≤ x6 then (if x6 < (x0.size : Int) then ((term_letter.f (bt x0 x6)).bind fun t101 => (if t101 = true then (term_blank.l0 k x0 x5 (wrap64 (x6 + 1))) else (if x6 = 0 then (some false) else ((term_digit.f (bt x0 x6)).bind fun t102 => (if t102 = true then (term_blank.l0 k x0 x5 (wrap64 (x6 + 1))) else (some false)))))) else (none)) else (none)) else (if (x0.size : Int) ≥ 1 then (some (decide ((x0.size : Int) ≤ 64))) else (some false))
def term_blank.f (k : Nat) (a0 : ByteArray) : Option (Bool) := term_blank.l0 k a0 (a0.size : Int) 0
theorem term_blank.calls (k : Nat) (a0 : ByteArray) (r : Bool) (w : World) (h : term_blank.f k a0 = some r) :
  Calls Tryz.prog 53 #[.string a0] w fun e w' => e = .returned (.bool r) ∧ Drawn0 w w' := by
 have H := h
 clear h
 unfold term_blank.f at H
 have H' := Ad.mk H
 clear H
 go_enter Tryz.func53, Tryz.ntmps53
 go_wp2
 go_loopg [6] k (fun kq v6 w' => ∃ (x6_1 : Int), v6 = .int .i64 x6_1 ∧ Ad (term_blank.l0 kq a0 (a0.size : Int) x6_1 = some r) ∧ Ad (kq ≤ k) ∧ Drawn0 w w')
 case atStart => exact ⟨(0), e1_, H', ⟨Nat.le_refl _⟩, z1_⟩
 case round =>
  clear H'
  obtain ⟨x6_1, rfl, HA, HK1, ⟨m1, rfl⟩⟩ := hrel
  cases gk with
  | zero => exact absurd HA.out (by simp [term_blank.l0])
  | succ k1 =>
   have H := HA.out
   clear HA
   simp only [term_blank.l0] at H
   by_cases c2 : x6_1 < (a0.size : Int)
   ·rw [if_pos c2] at H
    have c2b0 := decide_eq_true c2
    clear c2
    by_cases c3 : 0 ≤ x6_1
    ·rw [if_pos c3] at H
     have c3b0 := decide_eq_true c3
     clear c3
     by_cases c4 : x6_1 < (a0.size : Int)
     ·rw [if_pos c4] at H
      have c4b0 := decide_eq_true c4
      clear c4
      obtain ⟨t101, A6, H⟩ := bi_ H
      by_cases c7 : t101 = true
      ·subst c7
       rw [if_pos rfl] at H
       have H' := Ad.mk H
       clear H
       have p5 : 0 ≤ (x6_1 : Int) := of_decide_eq_true a1_
       have q5 : x6_1 < (a0.size : Int) := of_decide_eq_true a1_
       have hx5 := bt_at a0 x6_1
       replace p5 := eq_true p5
       replace q5 := eq_true q5
       go_wp2_with (first | ((with_reducible refine gate_callee (f := 80) rfl ?_); refine goesL_ (some 12) rfl rfl Tryz.func80 k1_ rfl #[.int .u8 (bt a0 x6_1)] rfl g1_ ?_; (with_reducible refine (term_letter.calls (bt a0 x6_1) true _ A6.out).mono ?_); rintro e w' ⟨rfl, ⟨nd, rfl⟩⟩; refine ⟨_, rfl, ?_⟩))
       go_roundg k1
       case measure => have := HK1.out; omega
       case rel => exact ⟨(wrap64 (x6_1 + 1)), e1_, H', ⟨by have := HK1.out; omega⟩, z1_⟩
      replace c7 := Bool.eq_false_iff.mpr c7
      subst c7
      rw [if_neg (show ¬ (false = true) by decide)] at H
      by_cases c8 : x6_1 = 0
      ·rw [if_pos c8] at H
       have c8b0 := beq_iff_eq.mpr c8
       have c8b1 := bne_eq_false_iff_eq.mpr c8
       clear c8
       obtain rfl := Option.some.inj H
       have p5 : 0 ≤ (x6_1 : Int) := of_decide_eq_true a1_
       have q5 : x6_1 < (a0.size : Int) := of_decide_eq_true a1_
       have hx5 := bt_at a0 x6_1
       replace p5 := eq_true p5
       replace q5 := eq_true q5
       go_wp2_with (first | ((with_reducible refine gate_callee (f := 80) rfl ?_); refine goesL_ (some 12) rfl rfl Tryz.func80 k1_ rfl #[.int .u8 (bt a0 x6_1)] rfl g1_ ?_; (with_reducible refine (term_letter.calls (bt a0 x6_1) false _ A6.out).mono ?_); rintro e w' ⟨rfl, ⟨nd, rfl⟩⟩; refine ⟨_, rfl, ?_⟩))
       go_ret
       exact ⟨e1_, z1_⟩
      rw [if_neg c8] at H
      have c8b0 := beq_eq_false_iff_ne.mpr c8
      have c8b1 := bne_iff_ne.mpr c8
      obtain ⟨t102, A10, H⟩ := bi_ H
      by_cases c11 : t102 = true
      ·subst c11
       rw [if_pos rfl] at H
       have H' := Ad.mk H
       clear H
       have p5 : 0 ≤ (x6_1 : Int) := of_decide_eq_true a1_
       have q5 : x6_1 < (a0.size : Int) := of_decide_eq_true a1_
       have hx5 := bt_at a0 x6_1
       replace p5 := eq_true p5
       replace q5 := eq_true q5
       go_wp2_with (first | ((with_reducible refine gate_callee (f := 80) rfl ?_); refine goesL_ (some 12) rfl rfl Tryz.func80 k1_ rfl #[.int .u8 (bt a0 x6_1)] rfl g1_ ?_; (with_reducible refine (term_letter.calls (bt a0 x6_1) false _ A6.out).mono ?_); rintro e w' ⟨rfl, ⟨nd, rfl⟩⟩; refine ⟨_, rfl, ?_⟩; have p9 : 0 ≤ (x6_1 : Int) := of_decide_eq_true a1_; have q9 : x6_1 < (a0.size : Int) := of_decide_eq_true a1_; have hx9 := bt_at a0 x6_1; replace p9 := eq_true p9; replace q9 := eq_true q9) | (go_at_call 81; (with_reducible refine (term_digit.calls (bt a0 x6_1) true _ A10.out).mono ?_); rintro e w' ⟨rfl, ⟨nd, rfl⟩⟩))
       go_roundg k1
       case measure => have := HK1.out; omega
       case rel => exact ⟨(wrap64 (x6_1 + 1)), e1_, H', ⟨by have := HK1.out; omega⟩, z1_⟩
      replace c11 := Bool.eq_false_iff.mpr c11
      subst c11
      rw [if_neg (show ¬ (false = true) by decide)] at H
      obtain rfl := Option.some.inj H
      have p5 : 0 ≤ (x6_1 : Int) := of_decide_eq_true a1_
      have q5 : x6_1 < (a0.size : Int) := of_decide_eq_true a1_
      have hx5 := bt_at a0 x6_1
      replace p5 := eq_true p5
      replace q5 := eq_true q5
      go_wp2_with (first | ((with_reducible refine gate_callee (f := 80) rfl ?_); refine goesL_ (some 12) rfl rfl Tryz.func80 k1_ rfl #[.int .u8 (bt a0 x6_1)] rfl g1_ ?_; (with_reducible refine (term_letter.calls (bt a0 x6_1) false _ A6.out).mono ?_); rintro e w' ⟨rfl, ⟨nd, rfl⟩⟩; refine ⟨_, rfl, ?_⟩; have p9 : 0 ≤ (x6_1 : Int) := of_decide_eq_true a1_; have q9 : x6_1 < (a0.size : Int) := of_decide_eq_true a1_; have hx9 := bt_at a0 x6_1; replace p9 := eq_true p9; replace q9 := eq_true q9) | (go_at_call 81; (with_reducible refine (term_digit.calls (bt a0 x6_1) false _ A10.out).mono ?_); rintro e w' ⟨rfl, ⟨nd, rfl⟩⟩))
      go_ret
      exact ⟨e1_, z1_⟩
     rw [if_neg c4] at H
     exact absurd H (by simp)
    rw [if_neg c3] at H
    exact absurd H (by simp)
   rw [if_neg c2] at H
   have c2b0 := decide_eq_false c2
   clear c2
   by_cases c12 : (a0.size : Int) ≥ 1
   ·rw [if_pos c12] at H
    have c12b0 : decide (1 ≤ (a0.size : Int)) = true := decide_eq_true c12
    have c12b1 : decide (1 ≤ a0.size) = true := decide_eq_true (by omega)
    clear c12
    obtain rfl := Option.some.inj H
    go_wp2
    go_ret
    exact ⟨e1_, z1_⟩
   rw [if_neg c12] at H
   have c12b0 : decide (1 ≤ (a0.size : Int)) = false := decide_eq_false c12
   have c12b1 : decide (1 ≤ a0.size) = false := decide_eq_false (by omega)
   clear c12
   obtain rfl := Option.some.inj H
   go_wp2
   go_ret
   exact ⟨e1_, z1_⟩
end Go.Proofs.YtpbphelaeleikaaGreatDoor.PLt

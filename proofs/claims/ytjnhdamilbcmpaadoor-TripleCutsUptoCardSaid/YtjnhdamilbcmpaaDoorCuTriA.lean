import Derived.Test.YtjnhdamilbcmpaaDoorCuLexN
import Derived.Test.YtjnhdamilbcmpaaDoorCuLexL
import Derived.Test.YtjnhdamilbcmpaaDoorCuTriAdd
import Derived.Test.YtjnhdamilbcmpaaDoorCuPTmx14
set_option linter.unusedVariables false
set_option linter.unusedSimpArgs false
namespace Go.Proofs.YtjnhdamilbcmpaaDoor.PTm
open Go.RowKit Go.Proofs.YtjnhdamilbcmpaaDoorW.PrintWords Go.Proofs.YtjnhdamilbcmpaaDoorW.PrintLast Go.Proofs.YtjnhdamilbcmpaaDoorW.PrintMore
abbrev Sm := S56
abbrev Te := S36
abbrev Tr := S38
def caret : ByteArray := ⟨#[94, 94]⟩
def extL : List Sm → Int × ByteArray × Nat
 | [] => (3, nob, 1)
 | [q1] => if q1.f0 = 4 then (4, q1.f1, 2) else (3, nob, 1)
 | q1 :: q2 :: _ => if q1.f0 = 4 then (4, q1.f1, 2) else if q1.f0 = 8 ∧ q1.f1 = caret ∧ q2.f0 = 1 then (5, q2.f2.f1, 3) else (3, nob, 1)
theorem ext1 (q1 : Sm) : extL [q1] = if q1.f0 = 4 then (4, q1.f1, 2) else (3, nob, 1) := rfl
theorem ext2 (q1 q2 : Sm) (r : List Sm) : extL (q1 :: q2 :: r) = if q1.f0 = 4 then (4, q1.f1, 2) else if q1.f0 = 8 ∧ q1.f1 = caret ∧ q2.f0 = 1 then (5, q2.f2.f1, 3) else (3, nob, 1) := rfl
def xsdS : List UInt8 := [104, 116, 116, 112, 58, 47, 47, 119, 119, 119, 46, 119, 51, 46, 111, 114, 103, 47, 50, 48, 48, 49, 47, 88, 77, 76, 83, 99, 104, 101, 109, 97, 35, 115, 116, 114, 105, 110, 103]
def fixL (a : Int × ByteArray × Nat) : Int × ByteArray := if a.2.1.toList = xsdS ∧ a.1 = 5 then (3, nob) else (a.1, a.2.1)
def readL : List Sm → Option (Te × Nat)
 | [] => none
 | q :: r => if q.f0 = 2 then some (q.f2, 1) else if q.f0 = 3 then (if mayB (fixL (extL r)).1 q.f1 (fixL (extL r)).2 = true then some (⟨(fixL (extL r)).1, q.f1, (fixL (extL r)).2⟩, (extL r).2.2) else none) else if q.f0 = 1 then some (q.f2, 1) else none
theorem readL_cons (q : Sm) (r : List Sm) : readL (q :: r) = if q.f0 = 2 then some (q.f2, 1) else if q.f0 = 3 then (if mayB (fixL (extL r)).1 q.f1 (fixL (extL r)).2 = true then some (⟨(fixL (extL r)).1, q.f1, (fixL (extL r)).2⟩, (extL r).2.2) else none) else if q.f0 = 1 then some (q.f2, 1) else none := rfl
def rdAns : Option (Te × Nat) → Int × ByteArray × ByteArray × Int × Int
 | none => (0, nob, nob, 0, 4)
 | some (t, c) => (t.f0, t.f1, t.f2, (c : Int), 0)
def Bd (ls : List Sm) : Prop := ∀ q ∈ ls, q.f1.size ≤ 1100000 ∧ q.f2.f1.size ≤ 1100000 ∧ q.f2.f2.size ≤ 1100000
theorem toList_inj {x y : ByteArray} : x.toList = y.toList ↔ x = y := by
 constructor
 ·intro h
  rw [Lib.toList_data, Lib.toList_data] at h
  cases x with
  | mk dx => cases y with
   | mk dy => exact congrArg ByteArray.mk (Array.toList_inj.1 h)
 ·intro h
  rw [h]
theorem mark_f (a : Int) (b : ByteArray) (c : Int) (d e : ByteArray) (p : Int) (m : ByteArray) : lex_Mark.f a b c d e p m = some (decide (a = 8 ∧ b = m)) := by
 unfold lex_Mark.f
 by_cases h : a = 8
 ·rw [if_pos h]
  by_cases g : b = m
  ·subst g
   rw [beq_self_eq_true, decide_eq_true ⟨h, rfl⟩]
  ·rw [decide_eq_false (fun q => g q.2), beq_eq_false_iff_ne.2 (fun q => g (toList_inj.1 q))]
 ·rw [if_neg h, decide_eq_false (fun q => h q.1)]
theorem cut_some (s : ByteArray) (hs : s.size ≤ 1000000000) : ∃ b, strings_Cut.f s (⟨#[58]⟩ : ByteArray) = some b ∧ b.2.1.size ≤ s.size := cut_total s hs
theorem res_f (k : Nat) (q : Sm) (h : q.f1.size ≤ 1100000) : ∃ v, lex_resource.f k q.f0 q.f1 q.f2.f0 q.f2.f1 q.f2.f2 q.f3 [] = some v ∧ (q.f0 = 1 → v = (q.f2.f0, q.f2.f1, q.f2.f2, true)) ∧ (q.f0 ≠ 1 → v.2.2.2 = false) := by
 unfold lex_resource.f
 by_cases c : q.f0 = 1
 ·rw [if_pos c]
  exact ⟨_, rfl, fun _ => rfl, fun g => absurd c g⟩
 ·obtain ⟨b, hb, hz⟩ := cut_some q.f1 (by omega)
  rw [if_neg c, hb, Option.bind_some]
  have e : lookM [] b.1 = none := rfl
  rw [e]
  have e2 : ((none : Option ByteArray).getD (⟨#[]⟩ : ByteArray)).size = 0 := rfl
  rw [if_pos (by rw [e2]; omega), if_neg (fun g => by cases g.2)]
  exact ⟨_, rfl, fun g => absurd g c, fun _ => rfl⟩
theorem rd0 (q : Sm) (r : List Sm) : rd_T56 (q :: r) 0 = q := rfl
theorem rd1 (q q1 : Sm) (r : List Sm) : rd_T56 (q :: q1 :: r) 1 = q1 := rfl
theorem rd2 (q q1 q2 : Sm) (r : List Sm) : rd_T56 (q :: q1 :: q2 :: r) 2 = q2 := rfl
theorem ext_small (r : List Sm) (h : Bd r) : (fixL (extL r)).2.size ≤ 1100000 ∧ (extL r).2.1.size ≤ 1100000 := by
 have key : (extL r).2.1.size ≤ 1100000 := by
  match r, h with
  | [], _ => decide
  | [q1], h =>
   rw [ext1]
   split
   ·exact (h q1 (List.mem_cons_self ..)).1
   ·decide
  | q1 :: q2 :: _, h =>
   rw [ext2]
   split
   ·exact (h q1 (List.mem_cons_self ..)).1
   ·split
    ·exact (h q2 (List.mem_cons_of_mem _ (List.mem_cons_self ..))).2.1
    ·decide
 refine ⟨?_, key⟩
 unfold fixL
 split
 ·decide
 ·exact key
theorem ext_f (k : Nat) (q : Sm) (r : List Sm) (h : Bd r) : lex_Read.B k (q :: r) [] (lex_Read.A (q :: r)) = some ((extL r).1, (extL r).2.1, ((extL r).2.2 : Int)) := by
 unfold lex_Read.B lex_Read.A
 match r, h with
 | [], _ =>
  rw [if_neg (by simp), if_neg (fun g => absurd g.1 (by simp))]
  rfl
 | [q1], h =>
  rw [if_neg (by simp), rd1]
  rw [ext1]
  by_cases c : q1.f0 = 4
  ·rw [if_pos ⟨by simp, c⟩, if_pos c]
   rfl
  ·rw [if_neg (fun g => c g.2), if_neg c]
   rfl
 | q1 :: q2 :: r', h =>
  rw [if_pos (by simp), rd1, rd2, mark_f, Option.bind_some]
  rw [ext2]
  by_cases c4 : q1.f0 = 4
  ·have ha : 1 < (q :: q1 :: q2 :: r').length ∧ q1.f0 = 4 := ⟨by simp, c4⟩
   have h8 : ¬ decide (q1.f0 = 8 ∧ q1.f1 = (⟨#[94, 94]⟩ : ByteArray)) = true := by
    rw [decide_eq_true_eq]
    omega
   rw [if_pos ha, if_pos c4, if_neg h8]
   rfl
  ·have ha : ¬ (1 < (q :: q1 :: q2 :: r').length ∧ q1.f0 = 4) := fun g => c4 g.2
   rw [if_neg ha, if_neg c4]
   obtain ⟨v, hv, h1, h2⟩ := res_f k q2 (h q2 (List.mem_cons_of_mem _ (List.mem_cons_self ..))).1
   by_cases c8 : q1.f0 = 8 ∧ q1.f1 = caret
   ·have h8 : decide (q1.f0 = 8 ∧ q1.f1 = (⟨#[94, 94]⟩ : ByteArray)) = true := decide_eq_true c8
    rw [if_pos h8, hv, Option.bind_some]
    by_cases c1 : q2.f0 = 1
    ·rw [h1 c1, if_pos rfl, if_pos (show q1.f0 = 8 ∧ q1.f1 = caret ∧ q2.f0 = 1 from ⟨c8.1, c8.2, c1⟩)]
     rfl
    ·rw [h2 c1, if_neg (by decide), if_neg (show ¬ (q1.f0 = 8 ∧ q1.f1 = caret ∧ q2.f0 = 1) from fun g => c1 g.2.2)]
     rfl
   ·have h8 : ¬ decide (q1.f0 = 8 ∧ q1.f1 = (⟨#[94, 94]⟩ : ByteArray)) = true := by
     rw [decide_eq_true_eq]
     exact c8
    rw [if_neg h8, if_neg (show ¬ (q1.f0 = 8 ∧ q1.f1 = caret ∧ q2.f0 = 1) from fun g => c8 ⟨g.1, g.2.1⟩)]
    rfl
theorem read_f (k : Nat) (ls : List Sm) (h : Bd ls) (hk : 5000000 ≤ k) : lex_Read.f k ls [] = some (rdAns (readL ls)) := by
 unfold lex_Read.f
 match ls, h with
 | [], _ =>
  rw [if_neg (by simp)]
  rfl
 | q :: r, h =>
  have hq := h q (List.mem_cons_self ..)
  have hr : Bd r := fun x hx => h x (List.mem_cons_of_mem _ hx)
  obtain ⟨v, hv, h1, h2⟩ := res_f k q hq.1
  rw [if_pos (by simp), rd0, hv, Option.bind_some]
  rw [readL_cons]
  by_cases c2 : q.f0 = 2
  ·rw [if_pos c2, if_pos c2]
   rfl
  rw [if_neg c2, if_neg c2]
  by_cases c3 : q.f0 = 3
  ·rw [if_pos c3, if_pos c3, ext_f k q r hr, Option.bind_some]
   have hc : lex_Read.C ((extL r).1, (extL r).2.1, ((extL r).2.2 : Int)) = fixL (extL r) := rfl
   rw [hc]
   obtain ⟨z1, z2⟩ := ext_small r hr
   rw [may_q _ _ _ hq.1 z1 k (by omega), Option.bind_some]
   by_cases cm : mayB (fixL (extL r)).1 q.f1 (fixL (extL r)).2 = true
   ·rw [if_pos cm, if_pos cm]
    rfl
   ·rw [if_neg cm, if_neg cm]
    rfl
  rw [if_neg c3, if_neg c3]
  by_cases c1 : q.f0 = 1
  ·rw [h1 c1, if_pos rfl, if_pos c1]
   rfl
  ·rw [h2 c1, if_neg (by decide), if_neg c1]
   rfl
theorem read_le {ls : List Sm} {t : Te} {c : Nat} (h : readL ls = some (t, c)) : 1 ≤ c ∧ c ≤ ls.length ∧ t.f1.size + t.f2.size ≤ ((ls.take c).map fun x => x.f1.size + x.f2.f1.size + x.f2.f2.size).sum := by
 match ls with
 | [] => cases h
 | q :: r =>
  rw [readL_cons] at h
  by_cases c2 : q.f0 = 2
  ·rw [if_pos c2] at h
   cases h
   simp only [List.length_cons, List.take_succ_cons, List.take_zero, List.map_cons, List.map_nil, List.sum_cons, List.sum_nil]
   omega
  rw [if_neg c2] at h
  by_cases c3 : q.f0 = 3
  ·rw [if_pos c3] at h
   split at h
   ·cases h
    dsimp only
    have hfix : (fixL (extL r)).2.size ≤ (extL r).2.1.size := by
     unfold fixL
     split
     ·exact Nat.zero_le _
     ·exact Nat.le_refl _
    match r with
    | [] =>
     have e : (extL ([] : List Sm)).2.1.size = 0 := rfl
     have e2 : (extL ([] : List Sm)).2.2 = 1 := rfl
     rw [e] at hfix
     rw [e2]
     simp only [List.length_cons, List.take_succ_cons, List.take_zero, List.map_cons, List.map_nil, List.sum_cons, List.sum_nil]
     omega
    | [q1] =>
     by_cases c4 : q1.f0 = 4
     ·have e : extL [q1] = (4, q1.f1, 2) := by rw [ext1, if_pos c4]
      rw [e] at hfix ⊢
      simp only [List.length_cons, List.length_nil, List.take_succ_cons, List.take_zero, List.map_cons, List.map_nil, List.sum_cons, List.sum_nil] at hfix ⊢
      omega
     ·have e : extL [q1] = (3, nob, 1) := by rw [ext1, if_neg c4]
      rw [e] at hfix ⊢
      have e0 : nob.size = 0 := rfl
      simp only [e0, List.length_cons, List.length_nil, List.take_succ_cons, List.take_zero, List.map_cons, List.map_nil, List.sum_cons, List.sum_nil] at hfix ⊢
      omega
    | q1 :: q2 :: r' =>
     by_cases c4 : q1.f0 = 4
     ·have e : extL (q1 :: q2 :: r') = (4, q1.f1, 2) := by rw [ext2, if_pos c4]
      rw [e] at hfix ⊢
      simp only [List.length_cons, List.take_succ_cons, List.take_zero, List.map_cons, List.map_nil, List.sum_cons, List.sum_nil] at hfix ⊢
      omega
     ·by_cases c8 : q1.f0 = 8 ∧ q1.f1 = caret ∧ q2.f0 = 1
      ·have e : extL (q1 :: q2 :: r') = (5, q2.f2.f1, 3) := by rw [ext2, if_neg c4, if_pos c8]
       rw [e] at hfix ⊢
       simp only [List.length_cons, List.take_succ_cons, List.take_zero, List.map_cons, List.map_nil, List.sum_cons, List.sum_nil] at hfix ⊢
       omega
      ·have e : extL (q1 :: q2 :: r') = (3, nob, 1) := by rw [ext2, if_neg c4, if_neg c8]
       rw [e] at hfix ⊢
       have e0 : nob.size = 0 := rfl
       simp only [e0, List.length_cons, List.take_succ_cons, List.take_zero, List.map_cons, List.map_nil, List.sum_cons, List.sum_nil] at hfix ⊢
       omega
   ·cases h
  rw [if_neg c3] at h
  by_cases c1 : q.f0 = 1
  ·rw [if_pos c1] at h
   cases h
   simp only [List.length_cons, List.take_succ_cons, List.take_zero, List.map_cons, List.map_nil, List.sum_cons, List.sum_nil]
   omega
  ·rw [if_neg c1] at h
   cases h
def rd3 (ls : List Sm) : (Te × Te × Te × List Sm) ⊕ List Sm := match readL ls with
 | none => .inr ls
 | some (x, c1) => match readL (ls.drop c1) with
  | none => .inr (ls.drop c1)
  | some (y, c2) => match readL ((ls.drop c1).drop c2) with
   | none => .inr ((ls.drop c1).drop c2)
   | some (z, c3) => .inl (x, y, z, ((ls.drop c1).drop c2).drop c3)
def dotS (q : Sm) : Prop := q.f0 = 8 ∧ q.f1 = (⟨#[46]⟩ : ByteArray)
instance (q : Sm) : Decidable (dotS q) := inferInstanceAs (Decidable (q.f0 = 8 ∧ q.f1 = (⟨#[46]⟩ : ByteArray)))
def parseL : Nat → List Sm → List Tr → List Tr ⊕ List Sm
 | 0, _, out => .inl out
 | d + 1, ls, out => match ls with
  | [] => .inl out
  | q0 :: r0 => match rd3 (q0 :: r0) with
   | .inr rem => .inr rem
   | .inl (x, y, z, l3) => if addB ⟨x, y, z⟩ = true then (match l3 with
    | [] => .inr []
    | q :: l4 => if dotS q then parseL d l4 (out ++ [⟨x, y, z⟩]) else .inr (q :: l4)) else .inr (q0 :: r0)
def prAns (s : ByteArray) : List Tr ⊕ List Sm → List Tr × Int × Int
 | .inl o => (o, 0, 0)
 | .inr rem => ([], nt_Parse.pl s rem, 4)
theorem rd3_le {ls : List Sm} {x y z : Te} {l3 : List Sm} (h : rd3 ls = .inl (x, y, z, l3)) : ∃ n, 3 ≤ n ∧ n ≤ ls.length ∧ l3 = ls.drop n ∧ (x.f1.size + x.f2.size) + (y.f1.size + y.f2.size) + (z.f1.size + z.f2.size) ≤ ((ls.take n).map fun x => x.f1.size + x.f2.f1.size + x.f2.f2.size).sum := by
 unfold rd3 at h
 cases h1 : readL ls with
 | none => rw [h1] at h; cases h
 | some p1 =>
  obtain ⟨x1, c1⟩ := p1
  rw [h1] at h
  dsimp only at h
  cases h2 : readL (ls.drop c1) with
  | none => rw [h2] at h; cases h
  | some p2 =>
   obtain ⟨x2, c2⟩ := p2
   rw [h2] at h
   dsimp only at h
   cases h3 : readL ((ls.drop c1).drop c2) with
   | none => rw [h3] at h; cases h
   | some p3 =>
    obtain ⟨x3, c3⟩ := p3
    rw [h3] at h
    cases h
    obtain ⟨a1, b1, s1⟩ := read_le h1
    obtain ⟨a2, b2, s2⟩ := read_le h2
    obtain ⟨a3, b3, s3⟩ := read_le h3
    simp only [List.length_drop] at b2 b3
    refine ⟨c1 + c2 + c3, by omega, by omega, by rw [List.drop_drop, List.drop_drop, Nat.add_assoc], ?_⟩
    have e1 : ls.take (c1 + c2 + c3) = ls.take c1 ++ ((ls.drop c1).take c2 ++ ((ls.drop c1).drop c2).take c3) := by
     rw [Nat.add_assoc, List.take_add, List.take_add]
    rw [e1, List.map_append, List.map_append, List.sum_append, List.sum_append]
    omega
theorem bd_drop {ls : List Sm} (h : Bd ls) (n : Nat) : Bd (ls.drop n) := fun q hq => h q (List.mem_of_mem_drop hq)
theorem rd_f (k : Nat) (s : ByteArray) (ls : List Sm) (h : Bd ls) (hk : 5000000 ≤ k) : nt_Parse.rd k s 3 [] ls = some (match rd3 ls with | .inl (x, y, z, l3) => .inl ([x, y, z], l3) | .inr rem => .inr (nt_Parse.pl s rem, 4)) := by
 have step : ∀ (n : Nat) (ts : List Te) (l : List Sm), Bd l → nt_Parse.rd k s (n + 1) ts l = match readL l with
   | none => some (.inr (nt_Parse.pl s l, 4))
   | some (t, c) => nt_Parse.rd k s n (ts ++ [t]) (l.drop c) := by
  intro n ts l hl
  rw [nt_Parse.rd, read_f k l hl hk, Option.bind_some]
  cases hr : readL l with
  | none => rfl
  | some p =>
   obtain ⟨t, c⟩ := p
   have hc := (read_le hr).2.1
   dsimp only [rdAns]
   rw [if_neg (by decide), if_pos (by omega), Int.toNat_natCast]
 rw [step 2 [] ls h]
 unfold rd3
 cases h1 : readL ls with
 | none => rfl
 | some p1 =>
  obtain ⟨x1, c1⟩ := p1
  dsimp only
  rw [step 1 _ _ (bd_drop h _)]
  cases h2 : readL (ls.drop c1) with
  | none => rfl
  | some p2 =>
   obtain ⟨x2, c2⟩ := p2
   dsimp only
   rw [step 0 _ _ (bd_drop (bd_drop h _) _)]
   cases h3 : readL ((ls.drop c1).drop c2) with
   | none => rfl
   | some p3 => rfl
theorem rd3_small {ls : List Sm} (hb : Bd ls) {x y z : Te} {l3 : List Sm} (h : rd3 ls = .inl (x, y, z, l3)) : SmallT ⟨x, y, z⟩ := by
 have one : ∀ (l : List Sm), Bd l → ∀ t c, readL l = some (t, c) → t.f1.size ≤ 1100000 ∧ t.f2.size ≤ 1100000 := by
  intro l hl t c h
  match l, hl with
  | [], _ => cases h
  | q :: r, hl =>
   have hq := hl q (List.mem_cons_self ..)
   rw [readL_cons] at h
   split at h
   ·cases h
    exact hq.2
   ·split at h
    ·split at h
     ·cases h
      exact ⟨hq.1, (ext_small r fun x hx => hl x (List.mem_cons_of_mem _ hx)).1⟩
     ·cases h
    ·split at h
     ·cases h
      exact hq.2
     ·cases h
 unfold rd3 at h
 cases h1 : readL ls with
 | none => rw [h1] at h; cases h
 | some p1 =>
  obtain ⟨x1, c1⟩ := p1
  rw [h1] at h
  dsimp only at h
  cases h2 : readL (ls.drop c1) with
  | none => rw [h2] at h; cases h
  | some p2 =>
   obtain ⟨x2, c2⟩ := p2
   rw [h2] at h
   dsimp only at h
   cases h3 : readL ((ls.drop c1).drop c2) with
   | none => rw [h3] at h; cases h
   | some p3 =>
    obtain ⟨x3, c3⟩ := p3
    rw [h3] at h
    cases h
    exact ⟨one _ hb _ _ h1, one _ (bd_drop hb _) _ _ h2, one _ (bd_drop (bd_drop hb _) _) _ _ h3⟩
theorem parse_f (s : ByteArray) : ∀ (d : Nat) (ls : List Sm) (out : List Tr) (k : Nat), ls.length ≤ d → Bd ls → 5000000 + d + 1 ≤ k → out.length + d < 1000000000 →
  nt_Parse.l0 k s ls out = some (prAns s (parseL (d + 1) ls out))
 | d, [], out, k, hd, hb, hk, ho => by
  obtain ⟨k, rfl⟩ : ∃ q, k = q + 1 := ⟨k - 1, by omega⟩
  rw [nt_Parse.l0, if_neg (by simp), parseL]
  rfl
 | 0, q0 :: r0, out, k, hd, hb, hk, ho => absurd hd (by simp)
 | d + 1, q0 :: r0, out, k, hd, hb, hk, ho => by
  obtain ⟨k, rfl⟩ : ∃ q, k = q + 1 := ⟨k - 1, by omega⟩
  rw [nt_Parse.l0, if_pos (by simp), rd_f k s _ hb (by omega), Option.bind_some, parseL]
  cases h3 : rd3 (q0 :: r0) with
  | inr rem => rfl
  | inl p =>
   obtain ⟨x, y, z, l3⟩ := p
   obtain ⟨n, n1, n2, rfl, _⟩ := rd3_le h3
   dsimp only
   rw [add_q ⟨x, y, z⟩ (rd3_small hb h3) k (by omega), Option.bind_some]
   by_cases ca : addB ⟨x, y, z⟩ = true
   ·rw [if_pos ca, if_pos ca]
    cases hl : (q0 :: r0).drop n with
    | nil =>
     rw [if_neg (by simp)]
     rfl
    | cons q l4 =>
     have hb4 : Bd (q :: l4) := hl ▸ bd_drop hb n
     have hlen : (q :: l4).length ≤ d + 1 - n + 1 := by
      rw [← hl, List.length_drop]
      omega
     rw [List.length_cons] at hlen
     rw [if_pos (by simp), rd0, mark_f, Option.bind_some]
     dsimp only
     by_cases cd : dotS q
     ·have h8 : decide (q.f0 = 8 ∧ q.f1 = (⟨#[46]⟩ : ByteArray)) = true := decide_eq_true cd
      rw [if_pos h8, if_pos cd, if_pos (by omega)]
      exact parse_f s d l4 _ k (by omega) (fun x hx => hb4 x (List.mem_cons_of_mem _ hx)) (by omega) (by rw [List.length_append, List.length_cons, List.length_nil]; omega)
     ·have h8 : ¬ decide (q.f0 = 8 ∧ q.f1 = (⟨#[46]⟩ : ByteArray)) = true := by
       rw [decide_eq_true_eq]
       exact cd
      rw [if_neg h8, if_neg cd]
      rfl
   ·rw [if_neg ca, if_neg ca]
    rfl
end Go.Proofs.YtjnhdamilbcmpaaDoor.PTm

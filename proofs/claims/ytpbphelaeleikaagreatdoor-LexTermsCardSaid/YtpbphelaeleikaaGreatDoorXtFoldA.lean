import Derived.Test.YtpbphelaeleikaaGreatDoorXtShelf
import Derived.WalkKit
import Derived.Deep.LoopGhost
import Derived.Deep.QuietTactic
import Derived.BigQuiet
import Derived.Shelf.RegionOpenPlain
import Derived.Lib.Walk
import Derived.Lib.Strings
import Derived.Laws.Strings3
import Derived.Laws.RangeAny
import Derived.ScopeJumps
import Derived.WalkMore
namespace Go.Proofs.YtpbphelaeleikaaGreatDoor
open Go.RowKit Go.Lib
structure Hd (p : Prop) : Prop where
 out : p
def afT (i : Nat) : Nat := if 65 ≤ i ∧ i ≤ 90 then i + 32 else if i = 107 then 8490 else if i = 115 then 383 else if 97 ≤ i ∧ i ≤ 122 then i - 32 else i
def orbL : List (Nat × Nat) := [(75, 107), (83, 115), (107, 8490), (115, 383), (181, 924), (197, 229), (223, 7838), (229, 8491), (304, 304), (305, 305), (383, 83), (452, 453), (453, 454), (454, 452), (455, 456), (456, 457), (457, 455), (458, 459), (459, 460), (460, 458), (497, 498), (498, 499), (499, 497), (837, 921), (912, 8147), (914, 946), (917, 949), (920, 952), (921, 953), (922, 954), (924, 956), (928, 960), (929, 961), (931, 962), (934, 966), (937, 969), (944, 8163), (946, 976), (949, 1013), (952, 977), (953, 8126), (954, 1008), (956, 181), (960, 982), (961, 1009), (962, 963), (963, 931), (966, 981), (969, 8486), (976, 914), (977, 1012), (981, 934), (982, 928), (1008, 922), (1009, 929), (1012, 920), (1013, 917), (1042, 1074), (1044, 1076), (1054, 1086), (1057, 1089), (1058, 1090), (1066, 1098), (1074, 7296), (1076, 7297), (1086, 7298), (1089, 7299), (1090, 7300), (1098, 7302), (1122, 1123), (1123, 7303), (7296, 1042), (7297, 1044), (7298, 1054), (7299, 1057), (7300, 7301), (7301, 1058), (7302, 1066), (7303, 1122), (7304, 42570), (7776, 7777), (7777, 7835), (7835, 7776), (7838, 223), (8126, 837), (8147, 912), (8163, 944), (8486, 937), (8490, 75), (8491, 197), (42570, 42571), (42571, 7304), (64261, 64262), (64262, 64261)]
def orbF (i : Nat) : Nat := (orbL.getD i (0, 0)).1
def orbT (i : Nat) : Nat := (orbL.getD i (0, 0)).2
structure FoldTabs (w : World) : Prop where
 a : ∀ i, i < 128 → w.cell? ⟨0, i, none⟩ = some (.int .u16 (afT i))
 o : ∃ (ad : Addr) (c : Nat), w.cell? ⟨1, 0, none⟩ = some (.slice (some ad) 94 c) ∧ 94 ≤ c ∧ ∀ i, i < 94 → w.cell? (ad.add (i * 2)) = some (.int .u16 (orbF i)) ∧ w.cell? ⟨(ad.add (i * 2)).block, (ad.add (i * 2)).off + 1, none⟩ = some (.int .u16 (orbT i))
 u : Lib.Utf8Tabs 3 4 w
set_option maxRecDepth 100000 in
set_option maxHeartbeats 1000000 in
theorem fold_low (r : Nat) (w : World) (hr : r < 128) (HT : FoldTabs w) : Calls Tryz.prog 40 #[.int .i32 r] w fun e w' => e = .returned (.int .i32 (afT r)) ∧ w = w' := by
 have hc := HT.a r hr
 have c1 : decide ((r : Int) < 0) = false := decide_eq_false (by omega)
 have c2 : decide (1114111 < (r : Int)) = false := decide_eq_false (by omega)
 have c3 : decide ((r : Int) < 128) = true := decide_eq_true (by omega)
 have c4 : decide (r < 128) = true := decide_eq_true (by omega)
 have ha : afT r ≤ 65535 := by
  unfold afT
  repeat' split
  all_goals omega
 go_enter Tryz.func40, Tryz.ntmps40
 go_wp2
 go_ret
 exact ⟨rfl, rfl⟩
def Orb (r idx : Nat) : Prop := idx < 94 ∧ orbF idx = r ∧ ∀ m, m < 94 → (orbF m < r ↔ m < idx)
theorem orbF_le (m : Nat) : orbF m ≤ 65535 := by
 by_cases h : m < 94
 ·exact (show ∀ m, m < 94 → orbF m ≤ 65535 by decide) m h
 ·unfold orbF; rw [List.getD_eq_getElem?_getD, List.getElem?_eq_none (by show 94 ≤ m; omega)]; decide
theorem orbT_le (m : Nat) : orbT m ≤ 65535 := by
 by_cases h : m < 94
 ·exact (show ∀ m, m < 94 → orbT m ≤ 65535 by decide) m h
 ·unfold orbT; rw [List.getD_eq_getElem?_getD, List.getElem?_eq_none (by show 94 ≤ m; omega)]; decide
theorem orb_383 : Orb 383 10 := ⟨by decide, by decide, by decide⟩
theorem orb_8490 : Orb 8490 88 := ⟨by decide, by decide, by decide⟩
set_option maxRecDepth 100000 in
set_option maxHeartbeats 1000000 in
theorem fold_orb (r idx : Nat) (w : World) (hr : 128 ≤ r) (hr2 : r ≤ 65535) (HO : Orb r idx) (HT : FoldTabs w) : Calls Tryz.prog 40 #[.int .i32 r] w fun e w' => e = .returned (.int .i32 (orbT idx)) ∧ w = w' := by
 obtain ⟨ad, c, hs, hc, hcell⟩ := HT.o
 obtain ⟨hi, hF, hlt⟩ := HO
 have c1 : decide ((r : Int) < 0) = false := decide_eq_false (by omega)
 have c2 : decide (1114111 < (r : Int)) = false := decide_eq_false (by omega)
 have c3 : decide ((r : Int) < 128) = false := decide_eq_false (by omega)
 have c4 : decide (r < 128) = false := decide_eq_false (by omega)
 have HC := Hd.mk hcell
 have HL := Hd.mk hlt
 clear hcell hlt
 go_enter Tryz.func40, Tryz.ntmps40
 go_wp2
 go_loop [3, 4, 5] (fun lo hi md => ∃ a b : Nat, lo = .int .i64 (a : Int) ∧ hi = .int .i64 (b : Int) ∧ a ≤ idx ∧ idx ≤ b ∧ b ≤ 94) (fun lo hi _ => (Go.RowKit.intOf hi - Go.RowKit.intOf lo).toNat)
 case atStart => exact ⟨0, 94, rfl, rfl, by omega, by omega, by omega⟩
 case round =>
  rename_i md
  obtain ⟨a, b, rfl, rfl, h1, h2, h3⟩ := hrel
  by_cases hab : a < b
  ·have d1 : decide (a < b) = true := decide_eq_true hab
   obtain ⟨m, hm⟩ : ∃ m : Nat, (a + b) / 2 = m := ⟨_, rfl⟩
   have hm1 : a ≤ m := by omega
   have hm2 : m < b := by omega
   have hcm := (HC.out m (by omega)).1
   have hiff := HL.out m (by omega)
   have hbm := orbF_le m
   by_cases hmi : m < idx
   ·have hq := hiff.2 hmi
    have d2 : decide (orbF m < r) = true := decide_eq_true hq
    clear hiff
    go_wp2
    go_round
    case rel => exact ⟨m + 1, b, by go_num, rfl, by omega, by omega, by omega⟩
    case measure => simp [Go.RowKit.intOf]; omega
   ·have hq : ¬ orbF m < r := fun h => hmi (hiff.1 h)
    have d2 : decide (orbF m < r) = false := decide_eq_false hq
    clear hiff
    go_wp2
    go_round
    case rel => exact ⟨a, m, rfl, by go_num, by omega, by omega, by omega⟩
    case measure => simp [Go.RowKit.intOf]; omega
  ·obtain rfl : a = idx := by omega
   obtain rfl : a = b := by omega
   have d1 : decide (a < a) = false := decide_eq_false (by omega)
   have hcm := (HC.out a (by omega)).1
   have hcn := (HC.out a (by omega)).2
   have d3 : decide (a < 94) = true := decide_eq_true (by omega)
   rw [hF] at hcm
   have hbt := orbT_le a
   go_wp2
   go_ret
   exact ⟨rfl, rfl⟩
def fo (r : Nat) : Nat := if r < 128 then afT r else if r = 383 then 83 else 75
def InO (r : Nat) : Prop := r < 128 ∨ r = 383 ∨ r = 8490
theorem fold_any (r : Nat) (w : World) (hr : InO r) (HT : FoldTabs w) : Calls Tryz.prog 40 #[.int .i32 r] w fun e w' => e = .returned (.int .i32 (fo r)) ∧ w = w' := by
 rcases hr with h | rfl | rfl
 ·have e : fo r = afT r := if_pos h
  rw [e]; exact fold_low r w h HT
 ·exact fold_orb 383 10 w (by omega) (by omega) orb_383 HT
 ·exact fold_orb 8490 88 w (by omega) (by omega) orb_8490 HT
theorem fo_in {r : Nat} (h : InO r) : InO (fo r) := by
 rcases h with h | rfl | rfl
 ·exact (show ∀ r, r < 128 → (fo r < 128 ∨ fo r = 383 ∨ fo r = 8490) by decide) r h
 ·exact .inl (by decide)
 ·exact .inl (by decide)
theorem fo_three : ∀ r, r < 128 → fo r = r ∨ fo (fo r) = r ∨ fo (fo (fo r)) = r := by decide
theorem FoldTabs.below {w w' : World} (h : FoldTabs w) (hb : Below w.heap.size w w') : FoldTabs w' := by
 have key : ∀ {a : Addr} {v : Value}, w.cell? a = some v → w'.cell? a = some v := fun {a v} hx => (hb.cell (World.block_lt_of_cell? w _ hx)).trans hx
 refine ⟨fun i hi => key (h.a i hi), ?_, fun c hc => key (h.u.1 c hc), fun i hi => ⟨key (h.u.2 i hi).1, key (h.u.2 i hi).2⟩⟩
 obtain ⟨ad, c, h1, h2, h3⟩ := h.o
 exact ⟨ad, c, key h1, h2, fun i hi => ⟨key (h3 i hi).1, key (h3 i hi).2⟩⟩
theorem decode_one (s : ByteArray) (h : 0 < s.size) (hb : 128 ≤ (s[0]'h).toNat) : (Utf8.decode s 0).2 = 1 → (Utf8.decode s 0).1 = 65533 := by
 have hn : ¬ (s[0]'h).toNat < 128 := by omega
 simp only [Utf8.decode, get_at s 0 h, hn, if_false]
 repeat' split
 all_goals simp_all [Utf8.runeError]
end Go.Proofs.YtpbphelaeleikaaGreatDoor

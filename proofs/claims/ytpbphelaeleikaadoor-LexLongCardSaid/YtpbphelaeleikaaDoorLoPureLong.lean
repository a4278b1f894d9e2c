import Derived.Test.YtpbphelaeleikaaDoorLoPLongx0
import Derived.Test.YtpbphelaeleikaaDoorLoPLongx1
import Derived.Test.YtpbphelaeleikaaDoorLoPLongx2
import Derived.Test.YtpbphelaeleikaaDoorLoPLongx3
import Derived.Test.YtpbphelaeleikaaDoorLoPLongx4
import Derived.Test.YtpbphelaeleikaaDoorLoPLongx5
import Derived.Test.YtpbphelaeleikaaDoorLoPLongx6
import Derived.Test.YtpbphelaeleikaaDoorLoPLongx7
import Derived.Test.YtpbphelaeleikaaDoorLoPLongx8
import Derived.Test.YtpbphelaeleikaaDoorLoPLongx9
import Derived.Test.YtpbphelaeleikaaDoorLoPLongx10
set_option linter.unusedVariables false
set_option linter.unusedSimpArgs false
namespace Go.Proofs.YtpbphelaeleikaaDoor.PLong
open Go.RowKit Go.Proofs.YtpbphelaeleikaaDoorW.PrintWords Go.Proofs.YtpbphelaeleikaaDoorW.PrintLast Go.Proofs.YtpbphelaeleikaaDoorW.PrintMore
def Blanks (s : ByteArray) : Prop := ∀ i, i < s.size → bt s ((i : Nat) : Int) = 32
theorem w64s {n : Int} (h0 : 0 ≤ n) (h1 : n ≤ 9223372036854775807) : wrap64 n = n := by unfold wrap64; omega
theorem head32 : utf_head.f 12 32 = some (32, 0) := by decide +kernel
theorem may32 : utf_may.f 32 = some true := by decide +kernel
theorem size32 : utf_size.f 32 = some 1 := by decide +kernel
theorem put32 : (putT 32).1.length = 1 := by decide +kernel
theorem get32 (t : ByteArray) (h : 0 < t.size) (hb : bt t 0 = 32) : getT t = (32, 1, 0) := by
  have e : utf_Get.f 12 t = some (32, 1, 0) := by
    unfold utf_Get.f
    rw [if_pos h, hb, head32, Option.bind_some]
    unfold utf_Get.j0
    rw [if_neg (by decide), if_neg (by dsimp only; omega)]
    rw [show (12 : Nat) = 11 + 1 from rfl, utf_Get.l0, if_neg (by decide)]
    dsimp only
    rw [may32, Option.bind_some, if_pos rfl, size32, Option.bind_some, show wrap64 ((0 : Int) + 1) = 1 from by decide +kernel, if_pos rfl]
  have := getT_eq t
  rw [e] at this
  exact (Option.some.inj this).symm
theorem bt_drop (s : ByteArray) (i : Nat) (h : i < s.size) : bt (s.extract i s.size) 0 = bt s ((i : Nat) : Int) := by
  have h1 : 0 < (s.extract i s.size).size := by rw [extract_size s i (by omega)]; omega
  unfold bt
  simp only [Int.toNat_natCast, Int.toNat_zero]
  rw [dif_pos h1, dif_pos h]
  simp [ByteArray.getElem_extract]
theorem fold32 (s : ByteArray) (hb : Blanks s) (hs : s.size ≤ 1000000000000) : ∀ (k at_ : Nat) (a : Int), at_ + k = s.size → (runesFrom s k at_).foldl (fun _ p => wrap64 (p.1 + ((putT p.2).1.length : Int))) a = if k = 0 then a else (s.size : Int)
  | 0, _, _, _ => rfl
  | k + 1, at_, a, h => by
    have hlt : at_ < s.size := by omega
    have hg : getT (s.extract at_ s.size) = (32, 1, 0) := get32 _ (by rw [extract_size s at_ (by omega)]; omega) (by rw [bt_drop s at_ hlt]; exact hb at_ hlt)
    rw [runesFrom, if_pos hlt, hg]
    dsimp only
    rw [if_pos rfl, List.foldl_cons, put32, show at_ + (1 : Int).toNat = at_ + 1 from rfl, fold32 s hb hs k (at_ + 1) _ (by omega), if_neg (Nat.succ_ne_zero k)]
    split
    · rw [w64s (by omega) (by omega)]
      omega
    · rfl
theorem well32 (s : ByteArray) (hb : Blanks s) (hs : s.size ≤ 1000000000000) : lex_well.f s = some s := by
  have e : endP (runesOf s) = (s.size : Int) := by
    unfold endP runesOf
    rw [fold32 s hb hs s.size 0 0 (Nat.zero_add _)]
    split
    · omega
    · rfl
  unfold lex_well.f
  rw [e, if_pos ⟨by omega, by omega, by omega⟩, Int.toNat_natCast]
  congr 1
  exact ByteArray.extract_zero_size
theorem skip32 (s : ByteArray) (hb : Blanks s) (hs : s.size ≤ 1000000000000) : ∀ (d k i : Nat), i + d = s.size → d + 1 ≤ k → lex_scanner_skip.l0 k s (i : Int) = some (s, (s.size : Int))
  | 0, k, i, h, hk => by
    obtain ⟨k, rfl⟩ : ∃ q, k = q + 1 := ⟨k - 1, by omega⟩
    rw [lex_scanner_skip.l0, if_neg (by omega)]
    have : i = s.size := by omega
    rw [this]
  | d + 1, k, i, h, hk => by
    obtain ⟨k, rfl⟩ : ∃ q, k = q + 1 := ⟨k - 1, by omega⟩
    have hw : wrap64 ((i : Int) + 1) = ((i + 1 : Nat) : Int) := by
      rw [w64s (by omega) (by omega)]
      omega
    rw [lex_scanner_skip.l0, if_pos (by omega), if_pos (by omega), hb i (by omega), if_neg (by decide), if_neg (by decide), if_neg (by decide), if_neg (by decide), if_pos rfl, hw]
    exact skip32 s hb hs d k (i + 1) (by omega) (by omega)
theorem all32 (s : ByteArray) (hb : Blanks s) (hs : s.size ≤ 1048576) (k : Nat) (hk : s.size + 3 ≤ k) : lex_All.f k s = some ([], 0, 0) := by
  unfold lex_All.f
  rw [if_neg (by omega), well32 s hb (by omega), Option.bind_some, if_neg (by omega)]
  obtain ⟨k, rfl⟩ : ∃ q, k = q + 1 := ⟨k - 1, by omega⟩
  have hn : lex_scanner_next.f k s 0 = some (0, (⟨#[]⟩ : ByteArray), 0, (⟨#[]⟩ : ByteArray), (⟨#[]⟩ : ByteArray), 0, false, s, (s.size : Int)) := by
    unfold lex_scanner_next.f lex_scanner_skip.f
    rw [show (0 : Int) = ((0 : Nat) : Int) from rfl, skip32 s hb (by omega) s.size k 0 (Nat.zero_add _) (by omega), Option.bind_some]
    exact if_pos (by dsimp only; omega)
  rw [lex_All.l0]
  unfold lex_scanner_safely.f
  rw [hn]
  rfl
theorem long32 (s : ByteArray) (hs : 1048576 < s.size) (k : Nat) : lex_All.f k s = some ([], 0, 3) := by
  unfold lex_All.f
  exact if_pos (by omega)
theorem blanks_of (m : Nat) : (strOfNums (List.replicate m 32)).size = m ∧ Blanks (strOfNums (List.replicate m 32)) := by
  have e : strOfNums (List.replicate m 32) = ⟨(List.replicate m (32 : UInt8)).toArray⟩ := by
    unfold strOfNums
    rw [List.map_replicate]
    rfl
  rw [e]
  have z : (⟨(List.replicate m (32 : UInt8)).toArray⟩ : ByteArray).size = m := by
    show (List.replicate m (32 : UInt8)).toArray.size = m
    rw [List.size_toArray, List.length_replicate]
  refine ⟨z, fun i hi => ?_⟩
  unfold bt
  rw [Int.toNat_natCast, dif_pos hi]
  have g : (⟨(List.replicate m (32 : UInt8)).toArray⟩ : ByteArray)[i]'hi = 32 := by
    show (List.replicate m (32 : UInt8)).toArray[i]'(by rw [List.size_toArray, List.length_replicate]; omega) = 32
    simp
  rw [g]
  rfl
theorem known60 : rhizomelaw04_known.f 60 = some true := by decide +kernel
theorem known_k : ∀ m, rhizomelaw04_known.f (60 + m) = some true
  | 0 => known60
  | m + 1 => rhizomelaw04_known.mono (60 + m) _ (known_k m)
theorem known_ge (k : Nat) (hk : 60 ≤ k) : rhizomelaw04_known.f k = some true := by
  obtain ⟨m, rfl⟩ : ∃ m, k = 60 + m := ⟨k - 60, by omega⟩
  exact known_k m
theorem set_blank (i n : Nat) : (List.replicate i (32 : Int) ++ List.replicate (n + 1) 0).set i 32 = List.replicate (i + 1) 32 ++ List.replicate n 0 := by
  rw [List.set_append_right _ _ (by rw [List.length_replicate]; exact Nat.le_refl _), List.length_replicate, Nat.sub_self, List.replicate_succ, List.set_cons_zero, List.replicate_succ' , List.append_assoc]
  rfl
theorem fill32 (N : Nat) (hN : N ≤ 1000000000000) : ∀ (n i k : Nat), i + n = N → rhizomelaw04_LexLong.l0 (n + k) (List.replicate i 32 ++ List.replicate n 0) (i : Int) = rhizomelaw04_LexLong.l0 k (List.replicate N 32) (N : Int)
  | 0, i, k, h => by
    obtain rfl : i = N := by omega
    rw [Nat.zero_add, List.replicate_zero, List.append_nil]
  | n + 1, i, k, h => by
    have hw : wrap64 ((i : Int) + 1) = ((i + 1 : Nat) : Int) := by
      rw [w64s (by omega) (by omega)]
      omega
    have hl : (List.replicate i (32 : Int) ++ List.replicate (n + 1) 0).length = N := by
      rw [List.length_append, List.length_replicate, List.length_replicate]
      exact h
    have hs := fill32 N hN n (i + 1) k (by omega)
    rw [show n + 1 + k = (n + k) + 1 by omega, rhizomelaw04_LexLong.l0, hl, if_pos (by omega), if_pos (by omega), hw, Int.toNat_natCast, set_blank]
    exact hs
theorem long_end (N : Nat) (h1 : 1048577 ≤ N) (h2 : N ≤ 1048577) (k : Nat) (hk : N + 100 ≤ k) : rhizomelaw04_LexLong.l0 (k + 1) (List.replicate N 32) (N : Int) = some true := by
  have hd : (List.replicate N (32 : Int)).drop 1 = List.replicate (N - 1) 32 := by rw [List.drop_replicate]
  obtain ⟨a1, a2⟩ := blanks_of (N - 1)
  obtain ⟨b1, b2⟩ := blanks_of N
  rw [rhizomelaw04_LexLong.l0, List.length_replicate, if_neg (by omega), if_pos (by omega), hd, all32 _ a2 (by omega) k (by omega), Option.bind_some, long32 _ (by omega) k, Option.bind_some]
  unfold rhizomelaw04_num.f
  rw [known_ge k (by omega)]
  rfl
theorem lexLong_pure : rhizomelaw04_LexLong.Pure := by
  have key : ∀ N : Nat, 1048577 ≤ N → N ≤ 1048577 → ∃ k, rhizomelaw04_LexLong.l0 k (List.replicate N 0) 0 = some true := fun N h1 h2 =>
    ⟨N + (N + 101), (fill32 N (by omega) N 0 (N + 101) (Nat.zero_add _)).trans (long_end N h1 h2 (N + 100) (Nat.le_refl _))⟩
  obtain ⟨k, hk⟩ := key _ (Nat.le_refl _) (Nat.le_refl _)
  refine ⟨k, ?_⟩
  unfold rhizomelaw04_LexLong.f
  exact (if_pos (by decide)).trans hk
end Go.Proofs.YtpbphelaeleikaaDoor.PLong

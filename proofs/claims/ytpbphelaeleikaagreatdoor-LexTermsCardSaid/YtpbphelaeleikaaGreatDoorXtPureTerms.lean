import Derived.Test.YtpbphelaeleikaaGreatDoorXtLtF
set_option linter.unusedVariables false
set_option linter.unusedSimpArgs false
namespace Go.Proofs.YtpbphelaeleikaaGreatDoor.PLt
open Go.RowKit Go.Proofs.YtpbphelaeleikaaGreatDoorW.PrintWords Go.Proofs.YtpbphelaeleikaaGreatDoorW.PrintLast Go.Proofs.YtpbphelaeleikaaGreatDoorW.PrintMore
theorem known60 : w4_known.f 60 = some true := by decide +kernel
theorem sumP_ge (p : List S24) (i : Nat) : ∀ n, i < n → min (rd_T24 p (i : Int)).f1.size 9001 ≤ sumP p n
 | 0, h => by omega
 | n + 1, h => by
  simp only [sumP]
  by_cases c : i = n
  ·subst c; omega
  ·have := sumP_ge p i n (by omega); omega
theorem drop_ok (l : List S43) (hl : ∀ x ∈ l, SymOk x) (n : Nat) : ∀ x ∈ l.drop n, SymOk x := fun x hx => hl x (List.mem_of_mem_drop hx)
theorem terms_any (s : ByteArray) (A1 : Option Addr) (c1 : Nat) (p : List S24) (at_ : Int) (mark word : ByteArray) (w : World) (hr1 : Kd.C k24 w A1 p.length p) (hc1 : p.length ≤ c1) (HT : FoldTabs w) :
  Calls Tryz.prog 3 #[.string s, .slice A1 p.length c1, .int .i64 at_, .string mark, .string word] w fun e w' => e = .returned (.bool true) ∧ Below w.heap.size w w' := by
 obtain ⟨l, e, hrun, _, hl⟩ := run_f (s.extract 0 (min s.size 9000)) (by rw [ByteArray.size_extract]; omega) 600000 (Nat.le_refl _)
 have mw : ∃ b1 b2 : Bool, ∀ k, 400000 ≤ k → 0 ≤ at_ → at_ < l.length → lex_Mark.f (rd_T43 l at_).f0 (rd_T43 l at_).f1 (rd_T43 l at_).f2.f0 (rd_T43 l at_).f2.f1 (rd_T43 l at_).f2.f2 (rd_T43 l at_).f3 mark = some b1 ∧ g4_Mark.f (rd_T43 l at_).f0 (rd_T43 l at_).f1 (rd_T43 l at_).f2.f0 (rd_T43 l at_).f2.f1 (rd_T43 l at_).f2.f2 (rd_T43 l at_).f3 mark = some b1 ∧ WordOk (rd_T43 l at_) word b2 ∧ g4_Word.f k (rd_T43 l at_).f0 (rd_T43 l at_).f1 (rd_T43 l at_).f2.f0 (rd_T43 l at_).f2.f1 (rd_T43 l at_).f2.f2 (rd_T43 l at_).f3 word = some b2 := by
  by_cases c : 0 ≤ at_ ∧ at_ < l.length
  ·obtain ⟨c1, c2⟩ := c
   obtain ⟨n, rfl⟩ := Int.eq_ofNat_of_zero_le c1
   obtain ⟨b, hb1, hb2⟩ := word_eq2 (rd_T43 l (n : Int)) (hl _ (rd_mem l n (by omega))) word
   exact ⟨markB (rd_T43 l (n : Int)) mark, b, fun k hk _ _ => ⟨lmark _ _, rmark _ _, hb1, hb2 k hk⟩⟩
  ·exact ⟨true, true, fun k _ h1 h2 => absurd ⟨h1, h2⟩ c⟩
 obtain ⟨b1, b2, hmw⟩ := mw
 by_cases g : p.length ≤ 20 ∧ sumP p p.length ≤ 9000
 ·have hp : ∀ i : Nat, i < p.length → (rd_T24 p (i : Int)).f1.size ≤ 9000 := fun i hi => by
   have := sumP_ge p i p.length hi
   omega
  obtain ⟨K, hK⟩ := read_eq (l.drop at_.toNat) p (drop_ok l hl _) hp (by omega)
  obtain ⟨t1, t2, t3, t4, t5, q⟩ := hK (K + 700000) (by omega)
  exact terms_walk (K + 700000) 600000 60 s A1 c1 p at_ mark word w hr1 hc1 HT l e hrun known60 t1 t2 t3 t4 t5 (fun _ _ _ _ _ => q) b1 b2 (hmw _ (by omega))
 ·exact terms_walk 700000 600000 60 s A1 c1 p at_ mark word w hr1 hc1 HT l e hrun known60 0 Z0 Z0 0 0 (fun _ h1 h2 => absurd ⟨h1, h2⟩ g) b1 b2 (hmw _ (by omega))
end Go.Proofs.YtpbphelaeleikaaGreatDoor.PLt

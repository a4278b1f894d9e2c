import Derived.Test.YtegmcmndjnbkaaaDoorMeTermText
set_option linter.unusedVariables false
set_option linter.unusedSimpArgs false
namespace Go.Proofs.YtegmcmndjnbkaaaDoor.PTerm
open Go.RowKit Go.Proofs.YtegmcmndjnbkaaaDoorW.PrintWords Go.Proofs.YtegmcmndjnbkaaaDoorW.PrintLast Go.Proofs.YtegmcmndjnbkaaaDoorW.PrintMore
theorem ka : mayB 4 (⟨#[97, 34, 98]⟩ : ByteArray) (⟨#[101, 110]⟩ : ByteArray) = true := by decide +kernel
theorem kb : mayB 5 (⟨#[49]⟩ : ByteArray) (⟨#[104, 116, 116, 112, 58, 47, 47, 120]⟩ : ByteArray) = true := by
  unfold mayB
  simp only [show ((5 : Int) = 1) = False by simp, show ((5 : Int) = 2) = False by simp, show ((5 : Int) = 3) = False by simp, show ((5 : Int) = 4) = False by simp, if_false, if_true]
  rw [show valB (⟨#[49]⟩ : ByteArray) = true by decide +kernel, show iriB (⟨#[104, 116, 116, 112, 58, 47, 47, 120]⟩ : ByteArray) = true by decide +kernel, Lib.toList_data]
  rfl
theorem kta : (textB 4 (⟨#[97, 34, 98]⟩ : ByteArray) (⟨#[101, 110]⟩ : ByteArray)).toList = [34, 97, 92, 34, 98, 34, 64, 101, 110] := by
  rw [Lib.toList_data]
  decide +kernel
theorem ktb : (textB 5 (⟨#[49]⟩ : ByteArray) (⟨#[104, 116, 116, 112, 58, 47, 47, 120]⟩ : ByteArray)).toList = [34, 49, 34, 94, 94, 60, 104, 116, 116, 112, 58, 47, 47, 120, 62] := by
  rw [Lib.toList_data]
  decide +kernel
theorem known_eq : ∃ K, ∀ k, K ≤ k → rhizomelaw02_known.f k = some true := by
  obtain ⟨K1, k1⟩ := tText_eq 4 (⟨#[97, 34, 98]⟩ : ByteArray) (⟨#[101, 110]⟩ : ByteArray) (by decide) (by decide)
  obtain ⟨K2, k2⟩ := tText_eq 5 (⟨#[49]⟩ : ByteArray) (⟨#[104, 116, 116, 112, 58, 47, 47, 120]⟩ : ByteArray) (by decide) (by decide)
  refine ⟨K1 + K2, fun k hk => ?_⟩
  unfold rhizomelaw02_known.f rhizomelaw02_num.f
  rw [k1 k (by omega), k2 k (by omega), ka, kb]
  simp only [if_true, Option.bind_some, kta, ktb]
  decide +kernel
end Go.Proofs.YtegmcmndjnbkaaaDoor.PTerm

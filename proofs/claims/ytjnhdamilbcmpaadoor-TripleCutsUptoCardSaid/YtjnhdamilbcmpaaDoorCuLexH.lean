import Derived.Test.YtjnhdamilbcmpaaDoorCuLexG
set_option linter.unusedVariables false
set_option linter.unusedSimpArgs false
namespace Go.Proofs.YtjnhdamilbcmpaaDoor.PTm
open Go.RowKit Go.Proofs.YtjnhdamilbcmpaaDoorW.PrintWords Go.Proofs.YtjnhdamilbcmpaaDoorW.PrintLast Go.Proofs.YtjnhdamilbcmpaaDoorW.PrintMore
theorem allL_step (n k : Nat) (r : List Int) : allL n (k + 1) r = match skipL false r with
  | [] => ([], none)
  | c :: t => match tokL (c :: t) with
   | none => ([], some (n - (t.length + 1)))
   | some y => ((⟨y.1.1, y.1.2.1, (⟨y.1.2.2.1, y.1.2.2.2.1, y.1.2.2.2.2⟩ : S36), ((n - (t.length + 1) : Nat) : Int)⟩ : S56) :: (allL n k y.2).1, (allL n k y.2).2) := rfl
theorem dig_le : ∀ (n : Nat) (acc : Int) (r : List Int) (v : Int) (r' : List Int), digL n acc r = some (v, r') → r'.length ≤ r.length
 | 0, acc, r, v, r', h => by
  cases h
  exact Nat.le_refl _
 | n + 1, acc, r, v, r', h => by
  rw [digL] at h
  cases hv : hexv (hd0 r) with
  | none => rw [hv] at h; cases h
  | some x =>
   rw [hv] at h
   have := dig_le n _ _ v r' h
   rw [List.length_drop] at this
   omega
theorem skip_le : ∀ (r : List Int) (b : Bool), (skipL b r).length ≤ r.length
 | [], true => Nat.le_refl _
 | [], false => Nat.le_refl _
 | c :: r, true => by
  have := skip_le r (decide (c ≠ 10))
  rw [skipL, List.length_cons]
  omega
 | c :: r, false => by
  have h1 := skip_le r true
  have h2 := skip_le r false
  rw [skipL, List.length_cons]
  split
  ·omega
  ·split
   ·omega
   ·rw [List.length_cons]
    omega
theorem bys_append (x y : ByteArray) : bys (x ++ y) = bys x ++ bys y := by
 unfold bys
 rw [← List.map_append]
 simp
end Go.Proofs.YtjnhdamilbcmpaaDoor.PTm

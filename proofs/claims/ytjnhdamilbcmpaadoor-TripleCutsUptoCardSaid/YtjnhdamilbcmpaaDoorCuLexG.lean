import Derived.Test.YtjnhdamilbcmpaaDoorCuLexF
set_option linter.unusedVariables false
set_option linter.unusedSimpArgs false
namespace Go.Proofs.YtjnhdamilbcmpaaDoor.PTm
open Go.RowKit Go.Proofs.YtjnhdamilbcmpaaDoorW.PrintWords Go.Proofs.YtjnhdamilbcmpaaDoorW.PrintLast Go.Proofs.YtjnhdamilbcmpaaDoorW.PrintMore
theorem hd_app {r : List Int} (h : r ≠ []) (q : List Int) : hd0 (r ++ q) = hd0 r := by
 cases r with
 | nil => exact absurd rfl h
 | cons c t => rfl
theorem drop_app {r : List Int} (h : r ≠ []) (q : List Int) : (r ++ q).drop 1 = r.drop 1 ++ q := by
 cases r with
 | nil => exact absurd rfl h
 | cons c t => rfl
theorem dig_app (q : List Int) : ∀ (n : Nat) (acc : Int) (r : List Int) (v : Int) (r' : List Int), digL n acc r = some (v, r') → digL n acc (r ++ q) = some (v, r' ++ q)
 | 0, acc, r, v, r', h => by
  cases h
  rfl
 | n + 1, acc, r, v, r', h => by
  rw [digL] at h
  have hr : r ≠ [] := by
   rintro rfl
   rw [show hd0 [] = 0 from rfl, hexv_zero] at h
   cases h
  rw [digL, hd_app hr, drop_app hr]
  cases hv : hexv (hd0 r) with
  | none => rw [hv] at h; cases h
  | some x =>
   rw [hv] at h
   exact dig_app q n _ _ v r' h
theorem escO_app (q r : List Int) (v : Int) (b r' : List Int) (h : escO r v = some (b, r')) : escO (r ++ q) v = some (b, r' ++ q) := by
 unfold escO at h ⊢
 by_cases c : (putT v).2 = 0
 ·rw [if_pos c] at h ⊢
  cases h
  rfl
 ·rw [if_neg c] at h
  cases h
theorem esc_app (all : Bool) (q r b r' : List Int) (h : escP all r = some (b, r')) : escP all (r ++ q) = some (b, r' ++ q) := by
 have hr : r ≠ [] := by
  rintro rfl
  unfold escP at h
  rw [show hd0 [] = 0 from rfl, if_neg (by decide), if_neg (by decide), if_neg (fun h => absurd h.2.1 (by decide))] at h
  cases h
 unfold escP at h ⊢
 rw [hd_app hr, drop_app hr]
 by_cases c1 : hd0 r = 117
 ·rw [if_pos c1] at h ⊢
  cases hd : digL 4 0 (r.drop 1) with
  | none => rw [hd] at h; cases h
  | some x =>
   rw [hd] at h
   rw [dig_app q 4 0 _ x.1 x.2 hd]
   exact escO_app q _ _ _ _ h
 rw [if_neg c1] at h ⊢
 by_cases c2 : hd0 r = 85
 ·rw [if_pos c2] at h ⊢
  cases hd : digL 8 0 (r.drop 1) with
  | none => rw [hd] at h; cases h
  | some x =>
   rw [hd] at h
   rw [dig_app q 8 0 _ x.1 x.2 hd]
   exact escO_app q _ _ _ _ h
 rw [if_neg c2] at h ⊢
 by_cases c3 : all = true ∧ hd0 r > 0 ∧ escI (hd0 r) ≥ 0
 ·rw [if_pos c3] at h ⊢
  exact escO_app q _ _ _ _ h
 ·rw [if_neg c3] at h
  cases h
section
variable (r : List Int) (hr : r ≠ []) (m : List Int)
include hr
end
end Go.Proofs.YtjnhdamilbcmpaaDoor.PTm

import Derived.Test.YtjnhdamilbcmpaaDoorCuLexI
set_option linter.unusedVariables false
set_option linter.unusedSimpArgs false
namespace Go.Proofs.YtjnhdamilbcmpaaDoor.PTm
open Go.RowKit Go.Proofs.YtjnhdamilbcmpaaDoorW.PrintWords Go.Proofs.YtjnhdamilbcmpaaDoorW.PrintLast Go.Proofs.YtjnhdamilbcmpaaDoorW.PrintMore
theorem hd_len {r : List Int} (h : hd0 r ≠ 0) : 1 ≤ r.length := by
 cases r with
 | nil => exact absurd rfl h
 | cons c t => rw [List.length_cons]; omega
theorem escO_w {q : List Int} {v : Int} {b r' : List Int} (h : escO q v = some (b, r')) : b.length ≤ 4 ∧ r' = q := by
 unfold escO at h
 split at h
 ·cases h
  exact ⟨put_len v, rfl⟩
 ·cases h
theorem esc_w {all : Bool} {r b r' : List Int} (h : escP all r = some (b, r')) : b.length ≤ 4 ∧ r'.length + 1 ≤ r.length := by
 unfold escP at h
 have hl : (r.drop 1).length = r.length - 1 := List.length_drop
 split at h
 ·rename_i c
  have := hd_len (r := r) (by omega)
  split at h
  ·cases h
  ·rename_i x hx
   obtain ⟨h1, rfl⟩ := escO_w h
   have := dig_le 4 0 _ x.1 x.2 hx
   exact ⟨h1, by omega⟩
 ·split at h
  ·rename_i c
   have := hd_len (r := r) (by omega)
   split at h
   ·cases h
   ·rename_i x hx
    obtain ⟨h1, rfl⟩ := escO_w h
    have := dig_le 8 0 _ x.1 x.2 hx
    exact ⟨h1, by omega⟩
  ·split at h
   ·rename_i c
    have := hd_len (r := r) (by omega)
    obtain ⟨h1, rfl⟩ := escO_w h
    exact ⟨h1, by omega⟩
   ·cases h
theorem quoted_w (en : Int) (all : Bool) : ∀ (k : Nat) (r x r' : List Int), quotedL en all k r = some (x, r') → x.length + 4 * r'.length + 4 ≤ 4 * r.length
 | 0, r, x, r', h => by cases h
 | k + 1, [], x, r', h => by cases h
 | k + 1, c :: t, x, r', h => by
  rw [quotedL] at h
  rw [List.length_cons]
  by_cases c1 : c = en
  ·rw [if_pos c1] at h
   cases h
   simp only [List.length_nil]
   omega
  rw [if_neg c1] at h
  by_cases c2 : all = true ∧ (c = 10 ∨ c = 13)
  ·rw [if_pos c2] at h
   cases h
  rw [if_neg c2] at h
  by_cases c3 : c = 92
  ·rw [if_pos c3] at h
   cases he : escP all t with
   | none => rw [he] at h; cases h
   | some y =>
    rw [he] at h
    have h1 := esc_w (b := y.1) (r' := y.2) he
    dsimp only at h
    cases hq : quotedL en all k y.2 with
    | none => rw [hq] at h; cases h
    | some z =>
     rw [hq] at h
     have h2 := quoted_w en all k y.2 z.1 z.2 hq
     cases h
     rw [List.length_append]
     omega
  ·rw [if_neg c3] at h
   cases hq : quotedL en all k t with
   | none => rw [hq] at h; cases h
   | some z =>
    rw [hq] at h
    have h2 := quoted_w en all k t z.1 z.2 hq
    cases h
    rw [List.length_cons]
    omega
def wS (y : Sy) : Nat := y.2.1.size + y.2.2.2.1.size + y.2.2.2.2.size
def Wt (n : Nat) (y : Sy) (r' : List Int) : Prop := r'.length < n ∧ wS y + 4 * r'.length ≤ 4 * n
def WO (n : Nat) (o : Out) : Prop := ∀ y r', o = some (some (y, r')) → Wt n y r'
theorem wt_oK {n : Nat} {o : Out} {p : Option (Sy × List Int)} (h : WO n o) (hp : ∀ y r', p = some (y, r') → Wt n y r') : ∀ y r', oK o p = some (y, r') → Wt n y r' := by
 intro y r' e
 match o, h with
 | none, h => exact hp y r' e
 | some none, h => cases e
 | some (some z), h =>
  cases e
  exact h y r' rfl
theorem nob_size : nob.size = 0 := rfl
theorem span_w (f : Bool → Int → Bool) (b : Bool) (r : List Int) : (spanF f b r).1.length + (spanF f b r).2.length = r.length := by
 have := congrArg List.length (span_len f b r)
 rw [List.length_append] at this
 omega
theorem tok_w (r : List Int) : ∀ y r', tokL r = some (y, r') → Wt r.length y r' := by
 rw [tokL_eq]
 refine wt_oK ?_ (wt_oK ?_ (wt_oK ?_ (wt_oK ?_ (wt_oK ?_ (wt_oK ?_ (wt_oK ?_ ?_))))))
 ·intro y r' h
  unfold iriO at h
  split at h
  ·rename_i c
   have h0 := hd_len (r := r) (by omega)
   have hd : (r.drop 1).length = r.length - 1 := List.length_drop
   cases hq : quotedL 62 false r.length (r.drop 1) with
   | none => rw [hq] at h; cases h
   | some x =>
    rw [hq] at h
    have h1 := quoted_w _ _ _ _ x.1 x.2 hq
    dsimp only at h
    split at h
    ·cases h
     unfold Wt wS
     dsimp only
     rw [nob_size, str_len]
     omega
    ·cases h
  ·cases h
 ·intro y r' h
  unfold blankO at h
  have h1 := span_w namedF false (r.drop 2)
  have hd : (r.drop 2).length = r.length - 2 := List.length_drop
  split at h
  ·rename_i c
   have h0 := hd_len (r := r) (by omega)
   split at h
   ·rename_i c'
    have h0' := hd_len (r := r.drop 1) (by omega)
    have hd1 : (r.drop 1).length = r.length - 1 := List.length_drop
    split at h
    ·cases h
    ·split at h
     ·cases h
      unfold Wt wS
      dsimp only
      rw [nob_size, str_len]
      omega
     ·cases h
   ·cases h
  ·cases h
 ·intro y r' h
  unfold textO at h
  split at h
  ·rename_i c
   have h0 := hd_len (r := r) (by omega)
   have hd : (r.drop 1).length = r.length - 1 := List.length_drop
   cases hq : quotedL 34 true r.length (r.drop 1) with
   | none => rw [hq] at h; cases h
   | some x =>
    rw [hq] at h
    have h1 := quoted_w _ _ _ _ x.1 x.2 hq
    cases h
    unfold Wt wS
    dsimp only
    rw [nob_size, str_len]
    omega
  ·cases h
 ·intro y r' h
  unfold langO at h
  have h1 := span_w langF false (r.drop 1)
  have hd : (r.drop 1).length = r.length - 1 := List.length_drop
  split at h
  ·rename_i c
   have h0 := hd_len (r := r) (by omega)
   split at h
   ·cases h
   ·split at h
    ·cases h
     unfold Wt wS
     dsimp only
     rw [nob_size, str_len]
     omega
    ·cases h
  ·cases h
 ·intro y r' h
  unfold varO at h
  have h1 := span_w namedF false (r.drop 1)
  have hd : (r.drop 1).length = r.length - 1 := List.length_drop
  split at h
  ·rename_i c
   have h0 := hd_len (r := r) (by omega)
   split at h
   ·cases h
   ·split at h
    ·cases h
    ·cases h
     unfold Wt wS
     dsimp only
     rw [nob_size, str_len]
     omega
  ·cases h
 ·intro y r' h
  unfold wordO wordG at h
  have h1 := span_w namedF false r
  have hfirst : letterB (hd0 r) = true → 1 ≤ (spanF namedF false r).1.length := by
   intro hl
   cases r with
   | nil => cases hl
   | cons c t =>
    have hc : namedF false c = true := by
     unfold namedF
     rw [show letterB c = true from hl]
     rfl
    rw [spanF, if_pos hc]
    dsimp only
    rw [List.length_cons]
    omega
  have h58 : hd0 r = 58 → (spanF namedF false r).2 = r := by
   intro hc
   cases r with
   | nil => cases hc
   | cons c t =>
    obtain rfl : c = 58 := hc
    rw [spanF, if_neg (by decide)]
  generalize spanF namedF false r = w at h h1 hfirst h58
  have hd : (w.2.drop 1).length = w.2.length - 1 := List.length_drop
  have h3 := span_w restF false (w.2.drop 1)
  split at h
  ·rename_i c
   split at h
   ·cases h
   ·split at h
    ·rename_i c2
     have h0 := hd_len (r := w.2) (by omega)
     split at h
     ·cases h
     ·cases h
      unfold Wt wS
      dsimp only
      rw [nob_size, str_len, List.length_append, List.length_cons]
      omega
    ·rename_i c2
     cases h
     unfold Wt wS
     dsimp only
     rw [nob_size, str_len]
     rcases c with c | c
     ·have := hfirst c
      omega
     ·exfalso
      apply c2
      rw [h58 c.1]
      exact c
  ·cases h
 ·have key : ∀ ms : List ByteArray, (∀ m ∈ ms, 1 ≤ m.size ∧ m.size ≤ 2) → WO r.length (markL ms r) := by
   intro ms
   induction ms with
   | nil => intro _ y r' h; cases h
   | cons x ms ih =>
    intro hm y r' h
    rw [markL] at h
    split at h
    ·rename_i c
     cases h
     have hx := hm x (List.mem_cons_self ..)
     have hl := (List.isPrefixOf_iff_prefix.1 c).length_le
     rw [bys_length] at hl
     unfold Wt wS
     dsimp only
     rw [nob_size, List.length_drop]
     omega
    ·exact ih (fun m h => hm m (List.mem_cons_of_mem _ h)) y r' h
  exact key marks marks_size
 ·intro y r' h
  cases h
theorem tok_lt {r : List Int} {y : Sy} {r' : List Int} (h : tokL r = some (y, r')) : r'.length < r.length := (tok_w r y r' h).1
theorem allL_fuel (n : Nat) : ∀ (k K : Nat) (r : List Int), r.length < k → k ≤ K → allL n K r = allL n k r
 | 0, K, r, h, _ => absurd h (Nat.not_lt_zero _)
 | k + 1, K, r, h, hK => by
  obtain ⟨K, rfl⟩ : ∃ q, K = q + 1 := ⟨K - 1, by omega⟩
  rw [allL_step, allL_step]
  have h1 := skip_le r false
  cases hs : skipL false r with
  | nil => rfl
  | cons c t =>
   rw [hs] at h1
   dsimp only
   cases ht : tokL (c :: t) with
   | none => rfl
   | some y =>
    have h2 := tok_lt (y := y.1) (r' := y.2) ht
    rw [List.length_cons] at h1 h2
    dsimp only
    rw [allL_fuel n k K y.2 (by omega) (by omega)]
def lexN (n : Nat) (r : List Int) : List S56 × Option Nat := allL n (r.length + 1) r
theorem lexN_eq (n k : Nat) (r : List Int) (h : r.length < k) : allL n k r = lexN n r := allL_fuel n (r.length + 1) k r (Nat.lt_succ_self _) h
theorem lexN_step (n : Nat) (r : List Int) : lexN n r = match skipL false r with
  | [] => ([], none)
  | c :: t => match tokL (c :: t) with
   | none => ([], some (n - (t.length + 1)))
   | some y => (⟨y.1.1, y.1.2.1, (⟨y.1.2.2.1, y.1.2.2.2.1, y.1.2.2.2.2⟩ : S36), ((n - (t.length + 1) : Nat) : Int)⟩ :: (lexN n y.2).1, (lexN n y.2).2) := by
 unfold lexN
 rw [allL_step]
 have h1 := skip_le r false
 cases hs : skipL false r with
 | nil => rfl
 | cons c t =>
  rw [hs] at h1
  dsimp only
  cases ht : tokL (c :: t) with
  | none => rfl
  | some y =>
   have h2 := tok_lt (y := y.1) (r' := y.2) ht
   rw [List.length_cons] at h1 h2
   dsimp only
   rw [lexN_eq n r.length y.2 (by omega)]
   rfl
theorem lexN_skip (n : Nat) (r q : List Int) (h : skipL false r = skipL false q) : lexN n r = lexN n q := by rw [lexN_step, lexN_step, h]
theorem lexN_nil (n : Nat) : lexN n [] = ([], none) := rfl
def allB (s : ByteArray) : List S56 × Int × Int := if stp s < s.size then ([], ((stp s : Nat) : Int), 4) else match (lexN s.size (bys s)).2 with | none => ((lexN s.size (bys s)).1, 0, 0) | some q => ([], (q : Int), 4)
theorem all_B (s : ByteArray) (hs : s.size ≤ 200000) (k : Nat) : lex_All.f k s = some (allB s) := by
 rw [all_any s hs k, lexN_eq _ _ _ (by rw [bys_length]; omega)]
 rfl
theorem lexN_w (n : Nat) : ∀ (k : Nat) (r : List Int), r.length ≤ k → (lexN n r).1.length ≤ r.length ∧ (((lexN n r).1.map fun x => x.f1.size + x.f2.f1.size + x.f2.f2.size).sum ≤ 4 * r.length)
 | 0, r, hk => by
  obtain rfl := List.eq_nil_of_length_eq_zero (Nat.le_zero.1 hk)
  exact ⟨Nat.le_refl _, Nat.le_refl _⟩
 | k + 1, r, hk => by
  rw [lexN_step]
  have h1 := skip_le r false
  cases hs : skipL false r with
  | nil => exact ⟨Nat.zero_le _, Nat.zero_le _⟩
  | cons c t =>
   rw [hs] at h1
   dsimp only
   cases ht : tokL (c :: t) with
   | none => exact ⟨Nat.zero_le _, Nat.zero_le _⟩
   | some y =>
    obtain ⟨w1, w2⟩ := tok_w (c :: t) y.1 y.2 ht
    obtain ⟨i1, i2⟩ := lexN_w n k y.2 (by omega)
    unfold wS at w2
    dsimp only
    rw [List.length_cons, List.map_cons, List.sum_cons]
    dsimp only
    omega
end Go.Proofs.YtjnhdamilbcmpaaDoor.PTm

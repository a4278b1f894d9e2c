import Derived.Test.YtpbphelaeleikaaDoorMeLexG
set_option linter.unusedVariables false
set_option linter.unusedSimpArgs false
namespace Go.Proofs.YtpbphelaeleikaaDoor.PMean
open Go.RowKit Go.Proofs.YtpbphelaeleikaaDoorW.PrintWords Go.Proofs.YtpbphelaeleikaaDoorW.PrintLast Go.Proofs.YtpbphelaeleikaaDoorW.PrintMore
theorem allL_step (n k : Nat) (r : List Int) : allL n (k + 1) r = match skipL false r with
  | [] => ([], none)
  | c :: t => match tokL (c :: t) with
   | none => ([], some (n - (t.length + 1)))
   | some y => ((⟨y.1.1, y.1.2.1, (⟨y.1.2.2.1, y.1.2.2.2.1, y.1.2.2.2.2⟩ : S31), ((n - (t.length + 1) : Nat) : Int)⟩ : S38) :: (allL n k y.2).1, (allL n k y.2).2) := rfl
theorem allL_mono (n : Nat) : ∀ (k K : Nat) (r : List Int), (allL n k r).2 = none → k ≤ K → allL n K r = allL n k r
 | 0, K, r, h, hk => by cases h
 | k + 1, K, r, h, hk => by
  obtain ⟨K, rfl⟩ : ∃ j, K = j + 1 := ⟨K - 1, by omega⟩
  rw [allL_step] at h ⊢
  rw [allL_step]
  cases hs : skipL false r with
  | nil => rfl
  | cons c t =>
   rw [hs] at h
   dsimp only at h ⊢
   cases ht : tokL (c :: t) with
   | none => rfl
   | some y =>
    rw [ht] at h
    dsimp only at h ⊢
    rw [allL_mono n k K y.2 h (by omega)]
theorem all_app (n : Nat) (m : List Int) (j : Nat) (hm : (allL (n + 1 + m.length) j m).2 = none) : ∀ (k : Nat) (r : List Int), (allL n k r).2 = none →
  allL (n + 1 + m.length) (k + j) (r ++ 10 :: m) = ((allL n k r).1 ++ (allL (n + 1 + m.length) j m).1, none)
 | 0, r, h => by cases h
 | k + 1, r, h => by
  rw [allL_step] at h
  rw [show k + 1 + j = (k + j) + 1 by omega, allL_step, allL_step]
  obtain ⟨s1, s2⟩ := skip_app m r false
  cases hs : skipL false r with
  | nil =>
   rw [s1 hs]
   dsimp only
   have e := allL_mono (n + 1 + m.length) j (k + j + 1) m hm (by omega)
   rw [allL_step] at e
   rw [e, List.nil_append]
   exact Prod.ext rfl hm
  | cons c t =>
   rw [hs] at h
   rw [s2 (by rw [hs]; intro q; cases q), hs]
   dsimp only [List.cons_append] at h ⊢
   cases ht : tokL (c :: t) with
   | none =>
    rw [ht] at h
    cases h
   | some y =>
    rw [ht] at h
    have hy := tok_app (c :: t) (by intro q; cases q) m y.1 y.2 ht
    rw [List.cons_append] at hy
    rw [hy]
    dsimp only at h ⊢
    rw [all_app n m j hm k y.2 h, show n + 1 + m.length - ((t ++ 10 :: m).length + 1) = n - (t.length + 1) by rw [List.length_append, List.length_cons]; omega]
    rfl
theorem dig_le : ∀ (n : Nat) (acc : Int) (r : List Int) (v : Int) (r' : List Int), digL n acc r = some (v, r') → r'.length ≤ r.length
 | 0, acc, r, v, r', h => by
  cases h
  exact Nat.le_refl _
 | n + 1, acc, r, v, r', h => by
  rw [digL] at h
  cases hv : hexv (hd0 r) with
  | none => rw [hv] at h; cases h
  | some x =>
   rw [hv] at h
   have := dig_le n _ _ v r' h
   rw [List.length_drop] at this
   omega
theorem escO_le (r : List Int) (v : Int) (b r' : List Int) (h : escO r v = some (b, r')) : r' = r := by
 unfold escO at h
 by_cases c : (putT v).2 = 0
 ·rw [if_pos c] at h
  cases h
  rfl
 ·rw [if_neg c] at h
  cases h
theorem esc_le (all : Bool) (r b r' : List Int) (h : escP all r = some (b, r')) : r'.length ≤ r.length := by
 unfold escP at h
 have hdr : (r.drop 1).length ≤ r.length := by rw [List.length_drop]; omega
 by_cases c1 : hd0 r = 117
 ·rw [if_pos c1] at h
  cases hd : digL 4 0 (r.drop 1) with
  | none => rw [hd] at h; cases h
  | some x =>
   rw [hd] at h
   have := dig_le 4 0 _ x.1 x.2 hd
   rw [escO_le _ _ _ _ h]
   omega
 rw [if_neg c1] at h
 by_cases c2 : hd0 r = 85
 ·rw [if_pos c2] at h
  cases hd : digL 8 0 (r.drop 1) with
  | none => rw [hd] at h; cases h
  | some x =>
   rw [hd] at h
   have := dig_le 8 0 _ x.1 x.2 hd
   rw [escO_le _ _ _ _ h]
   omega
 rw [if_neg c2] at h
 by_cases c3 : all = true ∧ hd0 r > 0 ∧ escI (hd0 r) ≥ 0
 ·rw [if_pos c3] at h
  rw [escO_le _ _ _ _ h]
  exact hdr
 ·rw [if_neg c3] at h
  cases h
theorem quoted_le (en : Int) (all : Bool) : ∀ (k : Nat) (r x r' : List Int), quotedL en all k r = some (x, r') → r'.length ≤ r.length
 | 0, r, x, r', h => by cases h
 | k + 1, [], x, r', h => by cases h
 | k + 1, c :: t, x, r', h => by
  rw [quotedL] at h
  rw [List.length_cons]
  by_cases c1 : c = en
  ·rw [if_pos c1] at h
   cases h
   omega
  rw [if_neg c1] at h
  by_cases c2 : all = true ∧ (c = 10 ∨ c = 13)
  ·rw [if_pos c2] at h
   cases h
  rw [if_neg c2] at h
  by_cases c3 : c = 92
  ·rw [if_pos c3] at h
   cases he : escP all t with
   | none => rw [he] at h; cases h
   | some y =>
    rw [he] at h
    have h1 := esc_le all t y.1 y.2 he
    dsimp only at h
    cases hq : quotedL en all k y.2 with
    | none => rw [hq] at h; cases h
    | some z =>
     rw [hq] at h
     have h2 := quoted_le en all k y.2 z.1 z.2 hq
     cases h
     omega
  ·rw [if_neg c3] at h
   cases hq : quotedL en all k t with
   | none => rw [hq] at h; cases h
   | some z =>
    rw [hq] at h
    have h2 := quoted_le en all k t z.1 z.2 hq
    cases h
    omega
def Le (n : Nat) (o : Out) : Prop := ∀ y r', o = some (some (y, r')) → r'.length ≤ n
theorem le_oK {n : Nat} {o : Out} {p : Option (Sy × List Int)} (h : Le n o) (hp : ∀ y r', p = some (y, r') → r'.length ≤ n) : ∀ y r', oK o p = some (y, r') → r'.length ≤ n := by
 intro y r' e
 match o, h with
 | none, h => exact hp y r' e
 | some none, h => cases e
 | some (some z), h =>
  cases e
  exact h y r' rfl
theorem span_le (f : Bool → Int → Bool) (b : Bool) (r : List Int) : (spanF f b r).2.length ≤ r.length := by
 have := congrArg List.length (span_len f b r)
 rw [List.length_append] at this
 omega
theorem drop_le (r : List Int) (n : Nat) : (r.drop n).length ≤ r.length := by rw [List.length_drop]; omega
theorem tok_le (r : List Int) : ∀ y r', tokL r = some (y, r') → r'.length ≤ r.length := by
 rw [tokL_eq]
 refine le_oK ?_ (le_oK ?_ (le_oK ?_ (le_oK ?_ (le_oK ?_ (le_oK ?_ (le_oK ?_ ?_))))))
 ·intro y r' h
  unfold iriO at h
  split at h
  ·cases hq : quotedL 62 false r.length (r.drop 1) with
   | none => rw [hq] at h; cases h
   | some x =>
    rw [hq] at h
    have h1 := quoted_le _ _ _ _ x.1 x.2 hq
    have h2 := drop_le r 1
    dsimp only at h
    split at h
    ·cases h
     omega
    ·cases h
  ·cases h
 ·intro y r' h
  unfold blankO at h
  have h1 := span_le namedF false (r.drop 2)
  have h2 := drop_le r 2
  split at h
  ·split at h
   ·split at h
    ·cases h
    ·split at h
     ·cases h
      omega
     ·cases h
   ·cases h
  ·cases h
 ·intro y r' h
  unfold textO at h
  split at h
  ·cases hq : quotedL 34 true r.length (r.drop 1) with
   | none => rw [hq] at h; cases h
   | some x =>
    rw [hq] at h
    have h1 := quoted_le _ _ _ _ x.1 x.2 hq
    have h2 := drop_le r 1
    cases h
    omega
  ·cases h
 ·intro y r' h
  unfold langO at h
  have h1 := span_le langF false (r.drop 1)
  have h2 := drop_le r 1
  split at h
  ·split at h
   ·cases h
   ·split at h
    ·cases h
     omega
    ·cases h
  ·cases h
 ·intro y r' h
  unfold varO at h
  have h1 := span_le namedF false (r.drop 1)
  have h2 := drop_le r 1
  split at h
  ·split at h
   ·cases h
   ·split at h
    ·cases h
    ·cases h
     omega
  ·cases h
 ·intro y r' h
  unfold wordO wordG at h
  have h1 := span_le namedF false r
  generalize spanF namedF false r = w at h h1
  have h2 := drop_le w.2 1
  have h3 := span_le restF false (w.2.drop 1)
  split at h
  ·split at h
   ·cases h
   ·split at h
    ·split at h
     ·cases h
     ·cases h
      omega
    ·cases h
     omega
  ·cases h
 ·have key : ∀ ms : List ByteArray, Le r.length (markL ms r) := by
   intro ms
   induction ms with
   | nil => intro y r' h; cases h
   | cons x ms ih =>
    intro y r' h
    rw [markL] at h
    split at h
    ·cases h
     exact drop_le r _
    ·exact ih y r' h
  exact key marks
 ·intro y r' h
  cases h
theorem skip_le : ∀ (r : List Int) (b : Bool), (skipL b r).length ≤ r.length
 | [], true => Nat.le_refl _
 | [], false => Nat.le_refl _
 | c :: r, true => by
  have := skip_le r (decide (c ≠ 10))
  rw [skipL, List.length_cons]
  omega
 | c :: r, false => by
  have h1 := skip_le r true
  have h2 := skip_le r false
  rw [skipL, List.length_cons]
  split
  ·omega
  ·split
   ·omega
   ·rw [List.length_cons]
    omega
def sh (n : Nat) (x : S38) : S38 := ⟨x.f0, x.f1, x.f2, x.f3 + (n : Int)⟩
theorem all_shift (n s0 : Nat) : ∀ (k : Nat) (r : List Int), r.length ≤ n → (allL n k r).2 = none → allL (s0 + n) k r = ((allL n k r).1.map (sh s0), none)
 | 0, r, hr, h => by cases h
 | k + 1, r, hr, h => by
  rw [allL_step] at h ⊢
  rw [allL_step]
  have h1 := skip_le r false
  cases hs : skipL false r with
  | nil => rfl
  | cons c t =>
   rw [hs] at h h1
   dsimp only at h ⊢
   cases ht : tokL (c :: t) with
   | none => rw [ht] at h; cases h
   | some y =>
    rw [ht] at h
    have h2 := tok_le (c :: t) y.1 y.2 ht
    rw [List.length_cons] at h1 h2
    dsimp only at h ⊢
    rw [all_shift n s0 k y.2 (by omega) h, show s0 + n - (t.length + 1) = (n - (t.length + 1)) + s0 by omega]
    rfl
theorem bys_append (x y : ByteArray) : bys (x ++ y) = bys x ++ bys y := by
 unfold bys
 rw [← List.map_append]
 simp
theorem all_two (a b : ByteArray) (ha : (allL a.size (a.size + 1) (bys a)).2 = none) (hb : (allL b.size (b.size + 1) (bys b)).2 = none) :
  allL (a ++ (⟨#[10]⟩ : ByteArray) ++ b).size ((a ++ (⟨#[10]⟩ : ByteArray) ++ b).size + 1) (bys (a ++ (⟨#[10]⟩ : ByteArray) ++ b)) = ((allL a.size (a.size + 1) (bys a)).1 ++ (allL b.size (b.size + 1) (bys b)).1.map (sh (a.size + 1)), none) := by
 have hl : (bys b).length = b.size := bys_length b
 have e1 := all_shift b.size (a.size + 1) (b.size + 1) (bys b) (Nat.le_of_eq hl) hb
 have e2 := all_app a.size (bys b) (b.size + 1) (by rw [hl, e1]) (a.size + 1) (bys a) ha
 rw [hl, e1] at e2
 rw [bys_append, bys_append, show bys (⟨#[10]⟩ : ByteArray) = [10] from rfl, List.append_assoc, ByteArray.size_append, ByteArray.size_append, show (⟨#[10]⟩ : ByteArray).size = 1 from rfl, show a.size + 1 + b.size + 1 = a.size + 1 + (b.size + 1) - 0 by omega]
 exact e2
end Go.Proofs.YtpbphelaeleikaaDoor.PMean

import Derived.Test.YtegmcmndjnbkaaaDoorMeTermText
import Derived.Lib.Bytealg
set_option linter.unusedVariables false
set_option linter.unusedSimpArgs false
namespace Go.Proofs.YtegmcmndjnbkaaaDoor.PTerm
structure Ord3 {α : Type} (c : α → α → Int) : Prop where
  anti : ∀ a b, c b a = - c a b
  zero : ∀ a b, c a b = 0 ↔ a = b
  trans : ∀ a b d, c a b ≤ 0 → c b d ≤ 0 → c a d ≤ 0
theorem Ord3.strict {α : Type} {c : α → α → Int} (h : Ord3 c) (a b d : α) (h1 : c a b < 0) (h2 : c b d < 0) : c a d < 0 := by
  have h3 := h.trans a b d (by omega) (by omega)
  by_cases h0 : c a d = 0
  · have := (h.zero a d).1 h0
    subst this
    have := h.anti a b
    omega
  · omega
def lex2 {α β : Type} (c : α → α → Int) (d : β → β → Int) (x y : α × β) : Int := if c x.1 y.1 ≠ 0 then c x.1 y.1 else d x.2 y.2
theorem Ord3.lex {α β : Type} {c : α → α → Int} {d : β → β → Int} (h : Ord3 c) (g : Ord3 d) : Ord3 (lex2 c d) where
  anti := by
    rintro ⟨a1, a2⟩ ⟨b1, b2⟩
    have e1 := h.anti a1 b1
    have e2 := g.anti a2 b2
    simp only [lex2]
    split <;> split <;> omega
  zero := by
    rintro ⟨a1, a2⟩ ⟨b1, b2⟩
    have e1 := h.zero a1 b1
    have e2 := g.zero a2 b2
    simp only [lex2, Prod.mk.injEq]
    split
    · constructor
      · intro q; contradiction
      · rintro ⟨q, _⟩; exact absurd (e1.2 q) (by assumption)
    · rename_i q
      have q : c a1 b1 = 0 := by simpa using q
      rw [e2, ← e1]
      exact ⟨fun z => ⟨q, z⟩, fun z => z.2⟩
  trans := by
    rintro ⟨a1, a2⟩ ⟨b1, b2⟩ ⟨d1, d2⟩
    simp only [lex2]
    intro p q
    by_cases z1 : c a1 b1 = 0
    · have := (h.zero a1 b1).1 z1
      subst this
      rw [if_neg (by simpa using z1)] at p
      by_cases z2 : c a1 d1 = 0
      · rw [if_neg (by simpa using z2)] at q ⊢
        exact g.trans a2 b2 d2 p q
      · rw [if_pos z2] at q ⊢
        exact q
    · rw [if_pos z1] at p
      by_cases z2 : c b1 d1 = 0
      · have := (h.zero b1 d1).1 z2
        subst this
        rw [if_pos z1]
        exact p
      · rw [if_pos z2] at q
        have s := h.strict a1 b1 d1 (by omega) (by omega)
        rw [if_pos (by omega)]
        omega
def cmpI (a b : Int) : Int := if a < b then -1 else if a > b then 1 else 0
theorem cmpI_ord : Ord3 cmpI where
  anti := by intro a b; unfold cmpI; repeat' split <;> omega
  zero := by intro a b; unfold cmpI; repeat' split <;> omega
  trans := by intro a b d; unfold cmpI; repeat' split <;> omega
theorem cb_anti : ∀ a b : List UInt8, Lib.compareBytes b a = - Lib.compareBytes a b
  | [], [] => rfl
  | [], _ :: _ => rfl
  | _ :: _, [] => rfl
  | a :: ls, b :: ms => by
    unfold Lib.compareBytes
    by_cases h1 : a < b
    · have h2 : ¬ b < a := by rw [UInt8.lt_iff_toNat_lt] at h1 ⊢; omega
      simp [h1, h2]
    · by_cases h2 : b < a
      · simp [h1, h2]
      · simp only [h1, h2, if_false]
        exact cb_anti ls ms
theorem cb_zero : ∀ a b : List UInt8, Lib.compareBytes a b = 0 ↔ a = b
  | [], [] => by simp [Lib.compareBytes]
  | [], _ :: _ => by simp [Lib.compareBytes]
  | _ :: _, [] => by simp [Lib.compareBytes]
  | a :: ls, b :: ms => by
    unfold Lib.compareBytes
    by_cases h1 : a < b
    · have : a ≠ b := by rintro rfl; rw [UInt8.lt_iff_toNat_lt] at h1; omega
      simp [h1, this]
    · by_cases h2 : b < a
      · have : a ≠ b := by rintro rfl; rw [UInt8.lt_iff_toNat_lt] at h2; omega
        simp [h1, h2, this]
      · have : a = b := by
          rw [UInt8.lt_iff_toNat_lt] at h1 h2
          exact UInt8.toNat_inj.mp (by omega)
        rw [if_neg h1, if_neg h2, cb_zero ls ms, this]
        simp
theorem cb_trans : ∀ a b d : List UInt8, Lib.compareBytes a b ≤ 0 → Lib.compareBytes b d ≤ 0 → Lib.compareBytes a d ≤ 0
  | [], _, [], _, _ => by simp [Lib.compareBytes]
  | [], _, _ :: _, _, _ => by simp [Lib.compareBytes]
  | _ :: _, [], _, h, _ => by simp [Lib.compareBytes] at h
  | _ :: _, _ :: _, [], _, h => by simp [Lib.compareBytes] at h
  | a :: ls, b :: ms, d :: ks, h1, h2 => by
    have ih := cb_trans ls ms ks
    unfold Lib.compareBytes at h1 h2 ⊢
    simp only [UInt8.lt_iff_toNat_lt] at h1 h2 ⊢
    repeat' split at h1
    all_goals repeat' split at h2
    all_goals repeat' split
    all_goals first | omega | (exact ih h1 h2)
def cmpB (a b : ByteArray) : Int := Lib.compareBytes a.data.toList b.data.toList
theorem cmpB_ord : Ord3 cmpB where
  anti a b := cb_anti _ _
  zero a b := by
    unfold cmpB
    rw [cb_zero]
    constructor
    · intro h
      obtain ⟨⟨l⟩⟩ := a
      obtain ⟨⟨m⟩⟩ := b
      simp at h
      rw [h]
    · rintro rfl; rfl
  trans a b d := cb_trans _ _ _
abbrev Tm := Int × ByteArray × ByteArray
def cmpT : Tm → Tm → Int := lex2 cmpI (lex2 cmpB cmpB)
theorem cmpT_ord : Ord3 cmpT := cmpI_ord.lex (cmpB_ord.lex cmpB_ord)
def cmp3 : Tm × Tm × Tm → Tm × Tm × Tm → Int := lex2 cmpT (lex2 cmpT cmpT)
theorem cmp3_ord : Ord3 cmp3 := cmpT_ord.lex (cmpT_ord.lex cmpT_ord)
end Go.Proofs.YtegmcmndjnbkaaaDoor.PTerm

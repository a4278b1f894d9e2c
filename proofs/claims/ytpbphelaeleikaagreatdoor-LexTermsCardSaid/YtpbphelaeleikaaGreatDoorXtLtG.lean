import Derived.Test.YtpbphelaeleikaaGreatDoorXtFoldA
import Derived.Test.YtpbphelaeleikaaGreatDoorRows
import Derived.Lib.LaidU8
import Derived.KernelRfl
namespace Go.Proofs.YtpbphelaeleikaaGreatDoor
open Go.RowKit Go.Lib Go.Shelf
set_option linter.unusedVariables false
theorem laidA : (Rows.laid_unicode_asciiFold : DataW Unit) = tabData .u16 ((List.range 128).map fun i => (afT i : Int)) := by kernel_rfl
theorem laidO : (Rows.laid_unicode_caseOrbit : DataW Unit) = .slice ((List.range 94).map fun i => .agg ([(orbF i : Int), (orbT i : Int)].map fun z => .lit (.int .u16 z))) [] := by kernel_rfl
theorem laidF : (Rows.laid_unicode_utf8_first : DataW Unit) = firstData := by kernel_rfl
theorem laidR : (Rows.laid_unicode_utf8_acceptRanges : DataW Unit) = acceptData := by kernel_rfl
theorem u8x : U8Extra Tryz.prog Tryz.lays260_ren := ⟨by kernel_rfl, by kernel_rfl, by kernel_rfl, by kernel_rfl, by kernel_rfl, by kernel_rfl, by kernel_rfl⟩
theorem cellA {w : World} (h : VarReads Tryz.prog w "unicode.asciiFold" Rows.laid_unicode_asciiFold) (i : Nat) (hi : i < 128) : w.cell? ⟨0, i, none⟩ = some (.int .u16 (afT i)) := by
 rw [laidA] at h
 obtain ⟨g, t, cs, fuel, p, hg, hty, hvar, hd⟩ := h
 obtain rfl : g = 0 := Option.some.inj (hg.symm.trans (by kernel_rfl))
 obtain rfl : t = 104 := Option.some.inj (hty.symm.trans (by kernel_rfl))
 have hcs := cells_of_tab Tryz.underlying104 Tryz.underlying103 (by kernel_rfl) (by kernel_rfl) hd
 have := World.var?_cell hg hvar i
 rw [this, ← Array.getElem?_toList, hcs]
 simp [hi]
theorem cellO {w : World} (h : VarReads Tryz.prog w "unicode.caseOrbit" Rows.laid_unicode_caseOrbit) : ∃ (ad : Addr) (c : Nat), w.cell? ⟨1, 0, none⟩ = some (.slice (some ad) 94 c) ∧ 94 ≤ c ∧ ∀ i, i < 94 → w.cell? (ad.add (i * 2)) = some (.int .u16 (orbF i)) ∧ w.cell? ⟨(ad.add (i * 2)).block, (ad.add (i * 2)).off + 1, none⟩ = some (.int .u16 (orbT i)) := by
 rw [laidO] at h
 obtain ⟨g, t, cs, fuel, p, hg, hty, hvar, hd⟩ := h
 obtain rfl : g = 1 := Option.some.inj (hg.symm.trans (by kernel_rfl))
 obtain rfl : t = 105 := Option.some.inj (hty.symm.trans (by kernel_rfl))
 rcases DataW.trod_slice Tryz.underlying105 hd with ⟨_, hx'⟩ | ⟨a', len, cap, el, rs, m, e0, hc0, hx', _, hlc, _, hel, helem, hsp, _⟩
 ·cases hx'
 ·have eq := congrArg Prod.fst hx'
  simp only [DataW.slice.injEq] at eq
  obtain ⟨eE, eR⟩ := eq
  have hlen : len = 94 := by
   have := congrArg List.length eE
   simp at this
   omega
  subst hlen
  have hcell0 := World.var?_cell hg hvar 0
  rw [← Array.getElem?_toList, hc0] at hcell0
  have helt : ∀ i, i < 94 → ∀ j, j < 2 → w.cell? ((a'.add (i * 2)).add j) = some (.int .u16 (if j = 0 then orbF i else orbT i)) := by
   intro i hi j hj
   have h1 := helem i hi
   rw [show Tryz.prog.cellsOf 108 = 2 by kernel_rfl] at h1
   obtain ⟨b, hb⟩ : ∃ b, el[i]? = some b := ⟨el[i]'(by omega), List.getElem?_eq_getElem (by omega)⟩
   rw [hb] at h1
   obtain ⟨ce, hce, hte⟩ := Option.bind_eq_some_iff.1 h1
   have hb1 : b.1 = .agg ([(orbF i : Int), (orbT i : Int)].map fun z => .lit (.int .u16 z)) := by
    have := congrArg (·[i]?) eE
    simpa [hb, hi] using this.symm
   have hcs := ints_of_struct (p := b.2) Tryz.underlying108 (fun q f hq => by
    match q, hq with
    | 0, hq => simp at hq; subst hq; exact ⟨Tryz.underlying103, rfl, by kernel_rfl⟩
    | 1, hq => simp at hq; subst hq; exact ⟨Tryz.underlying103, rfl, by kernel_rfl⟩
    | q + 2, hq => simp at hq) (by kernel_rfl) (by rw [← hb1]; exact hte)
   obtain ⟨_, _, hcc⟩ := World.cells?_some hce
   rw [hcc j hj, hcs]
   match j, hj with
   | 0, _ => rfl
   | 1, _ => rfl
  obtain ⟨R, oR, sR⟩ := a'
  obtain rfl : sR = none := by
   have h00 := helt 0 (by omega) 0 (by omega)
   have : (Addr.add (Addr.add ⟨R, oR, sR⟩ (0 * 2)) 0) = ⟨R, oR, sR⟩ := by simp [Addr.add]
   rw [this] at h00
   exact cell_spot h00
  refine ⟨⟨R, oR, none⟩, cap, hcell0, hlc, fun i hi => ⟨?_, ?_⟩⟩
  ·have h := helt i hi 0 (by omega)
   rw [Addr.add_lit, Addr.add_lit, Nat.add_zero] at h
   rw [Addr.add_lit]; exact h
  ·have h := helt i hi 1 (by omega)
   rw [Addr.add_lit, Addr.add_lit] at h
   rw [Addr.add_lit]; exact h
theorem foldTabs_of {w : World} (h0 : VarReads Tryz.prog w "unicode.asciiFold" Rows.laid_unicode_asciiFold) (h1 : VarReads Tryz.prog w "unicode.caseOrbit" Rows.laid_unicode_caseOrbit) (h3 : VarReads Tryz.prog w "unicode/utf8.first" Rows.laid_unicode_utf8_first) (h4 : VarReads Tryz.prog w "unicode/utf8.acceptRanges" Rows.laid_unicode_utf8_acceptRanges) : FoldTabs w := by
 rw [laidF] at h3
 rw [laidR] at h4
 exact ⟨cellA h0, cellO h1, utf8Tabs_of_reads Tryz.lays260 u8x h3 h4⟩
end Go.Proofs.YtpbphelaeleikaaGreatDoor

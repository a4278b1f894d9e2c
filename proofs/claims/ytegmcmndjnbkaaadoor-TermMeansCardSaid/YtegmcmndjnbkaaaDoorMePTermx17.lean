import Derived.Test.YtegmcmndjnbkaaaDoorMePTermx0
namespace Go.Proofs.YtegmcmndjnbkaaaDoor.PTerm
open Go.RowKit Go.Proofs.YtegmcmndjnbkaaaDoorW.PrintWords Go.Proofs.YtegmcmndjnbkaaaDoorW.PrintLast Go.Proofs.YtegmcmndjnbkaaaDoorW.PrintMore
attribute [local go_sem] max2_int min2_int max_two min_two max_three min_three max_four min_four
set_option linter.unusedVariables false
set_option linter.unusedSimpArgs false
def tms (x : S29) : List S26 := [x.f0, x.f1, x.f2]
def muchGo : List S26 → Int → Option Int
  | [], n => some n
  | t :: ts, n => if n + mn t.f1.size 30001 + mn t.f2.size 30001 > 30000 then none else muchGo ts (n + mn t.f1.size 30001 + mn t.f2.size 30001)
def muchB (l : List S29) (most : Int) : Bool := (muchGo ((l.take (most + 1).toNat).flatMap tms) 0).isNone || decide ((l.length : Int) > most)
theorem getD_lt {α : Type} {xs : List α} {j : Nat} (z : α) (w : Nat) (h : j < xs.length) : xs.getD j z = xs[j] := by simp [List.getD_eq_getElem?_getD, List.getElem?_eq_getElem h]
theorem wrap64_small {n : Int} (h0 : 0 ≤ n) (h1 : n ≤ 9223372036854775807) : wrap64 n = n := by unfold wrap64; omega
theorem muchGo_step {t : S26} {ts : List S26} {n m1 m2 : Int} (h1 : mn t.f1.size 30001 = m1) (h2 : mn t.f2.size 30001 = m2) : muchGo (t :: ts) n = if n + m1 + m2 > 30000 then none else muchGo ts (n + m1 + m2) := by subst h1; subst h2; rfl
theorem mn_pos {a b : Int} (h : b < a) : mn a b = b := if_pos h
theorem mn_neg {a b : Int} (h : ¬ b < a) : mn a b = a := if_neg h
def rhizomeref02_Much.f (l0 : List S29) (a1 : Int) : Option Bool := some (muchB l0 a1)
set_option maxRecDepth 100000 in
set_option maxHeartbeats 2000000 in
theorem rhizomeref02_Much.calls (A0 : Option Addr) (c0 : Nat) (l0 : List S29) (a1 : Int) (r : Bool) (w : World) (hr0 : Kd.C k29 w A0 l0.length l0) (hc0 : l0.length ≤ c0) (h : rhizomeref02_Much.f l0 a1 = some r) :
    Calls Tryd.prog 22 #[.slice A0 l0.length c0, .int .i64 a1] w fun e w' => e = .returned (.bool r) ∧ Drawn0 w w' := by
  obtain rfl := Option.some.inj h
  clear h
  have hlen : l0.length ≤ 9223372036854775807 := hr0.2.1
  have HR0 := Aside0.mk hr0
  clear hr0 hc0
  have HH : Aside0 (muchGo ((l0.take (a1 + 1).toNat).flatMap tms) 0 = muchGo (((l0.take (a1 + 1).toNat).drop 0).flatMap tms) 0) := ⟨rfl⟩
  go_enter Tryd.func22, Tryd.ntmps22
  go_wp2
  go_loopg [5, 6] l0.length (fun g s5 s6 wr => ∃ (i n : Int), s5 = .int .i64 n ∧ s6 = .int .i64 i ∧ 0 ≤ i ∧ i ≤ l0.length ∧ g = l0.length - i.toNat ∧ Aside0 (0 ≤ n ∧ n ≤ 30000) ∧ Aside0 (muchGo ((l0.take (a1 + 1).toNat).flatMap tms) 0 = muchGo (((l0.take (a1 + 1).toNat).drop i.toNat).flatMap tms) n) ∧ Aside0 (Drawn0 w wr))
  case atStart => exact ⟨0, 0, rfl, rfl, by omega, by omega, by omega, ⟨by omega⟩, HH, ⟨Drawn0.refl w⟩⟩
  case round =>
    clear HH
    obtain ⟨i, n, rfl, rfl, hi0, hi, rfl, hn, HG, HD⟩ := hrel
    by_cases c1 : i < (l0.length : Int)
    · have c1b : decide (i < (l0.length : Int)) = true := decide_eq_true c1
      by_cases c2 : i ≤ a1
      · have c2b : decide (i ≤ a1) = true := decide_eq_true c2
        have hlt : i.toNat < l0.length := by omega
        have hd : (l0.take (a1 + 1).toNat).drop i.toNat = rd_T29 l0 i :: (l0.take (a1 + 1).toNat).drop (i.toNat + 1) := by
          have h1 : i.toNat < (l0.take (a1 + 1).toNat).length := by simp; omega
          rw [List.drop_eq_getElem_cons h1, show rd_T29 l0 i = l0[i.toNat] from getD_lt _ 0 hlt]
          simp
        rw [hd] at HG
        have HK := HG.out
        clear HG
        simp only [List.flatMap_cons] at HK
        have HI : Aside0 (muchGo ((l0.take (a1 + 1).toNat).flatMap tms) 0 = muchGo ((tms (rd_T29 l0 i)).drop 0 ++ ((l0.take (a1 + 1).toNat).drop (i.toNat + 1)).flatMap tms) n) := ⟨HK⟩
        clear HK hd
        go_wp2
        go_loopg [5, 7] 3 (fun g s5 s7 wr => ∃ (k n : Int), s5 = .int .i64 n ∧ s7 = .int .i64 k ∧ 0 ≤ k ∧ k ≤ 3 ∧ g = 3 - k.toNat ∧ Aside0 (0 ≤ n ∧ n ≤ 30000) ∧ Aside0 (muchGo ((l0.take (a1 + 1).toNat).flatMap tms) 0 = muchGo ((tms (rd_T29 l0 i)).drop k.toNat ++ ((l0.take (a1 + 1).toNat).drop (i.toNat + 1)).flatMap tms) n) ∧ Aside0 (Drawn0 w wr))
        case atStart => exact ⟨0, n, rfl, rfl, by omega, by omega, by omega, hn, HI, HD⟩
        case round =>
          clear HI HD hn
          obtain ⟨k, n, rfl, rfl, hk0, hk, rfl, hn, HI, HD⟩ := hrel
          by_cases c3 : k < 3
          · have c3b : decide (k < 3) = true := decide_eq_true c3
            have p8 : (0 ≤ i) = True := eq_true hi0
            have q8 : (i < (l0.length : Int)) = True := eq_true c1
            obtain ⟨ad, e, hx0, hx1, hx2, hx3, hx4, hx5, hx6, hx7, hx8⟩ := at_T29 HR0.out i hi0 c1
            cases e
            have HB := HD.out.below
            replace hx1 := (HB.cell (World.block_lt_of_cell? w _ hx1)).trans hx1
            replace hx2 := (HB.cell (World.block_lt_of_cell? w _ hx2)).trans hx2
            replace hx4 := (HB.cell (World.block_lt_of_cell? w _ hx4)).trans hx4
            replace hx5 := (HB.cell (World.block_lt_of_cell? w _ hx5)).trans hx5
            replace hx7 := (HB.cell (World.block_lt_of_cell? w _ hx7)).trans hx7
            replace hx8 := (HB.cell (World.block_lt_of_cell? w _ hx8)).trans hx8
            clear hx0 hx3 hx6
            have hk3 : k = 0 ∨ k = 1 ∨ k = 2 := by omega
            rcases hk3 with rfl | rfl | rfl
            · by_cases d1 : (30001 : Int) < ((rd_T29 l0 i).f0.f1.size : Int)
              · have hm1 := mn_pos d1
                have d1b := eq_true d1
                by_cases d2 : (30001 : Int) < ((rd_T29 l0 i).f0.f2.size : Int)
                · have hm2 := mn_pos d2
                  have d2b := eq_true d2
                  obtain ⟨hn0, hn1⟩ := hn.out
                  have hw1 : wrap64 (n + 30001) = n + 30001 := wrap64_small (by omega) (by omega)
                  have hw2 : wrap64 (n + 30001 + 30001) = n + 30001 + 30001 := wrap64_small (by omega) (by omega)
                  have HS : Aside0 (muchGo ((l0.take (a1 + 1).toNat).flatMap tms) 0 = if n + 30001 + 30001 > 30000 then none else muchGo ((tms (rd_T29 l0 i)).drop 1 ++ ((l0.take (a1 + 1).toNat).drop (i.toNat + 1)).flatMap tms) (n + 30001 + 30001)) := ⟨HI.out.trans (muchGo_step hm1 hm2)⟩
                  clear HI hm1 hm2
                  by_cases c4 : 30000 < n + 30001 + 30001
                  · have c4b : decide (30000 < n + 30001 + 30001) = true := decide_eq_true c4
                    have HF := HS.out
                    rw [if_pos c4] at HF
                    have HF2 : muchB l0 a1 = true := by unfold muchB; rw [HF]; rfl
                    clear HS HF c4
                    go_wp2
                    repeat (go_quiet (fail); try go_wp2)
                    go_ret
                    exact ⟨HF2 ▸ rfl, HD.out.step _⟩
                  · exfalso; omega
                · have hm2 := mn_neg d2
                  have d2b := eq_false d2
                  obtain ⟨hn0, hn1⟩ := hn.out
                  have hw1 : wrap64 (n + 30001) = n + 30001 := wrap64_small (by omega) (by omega)
                  have hw2 : wrap64 (n + 30001 + ((rd_T29 l0 i).f0.f2.size : Int)) = n + 30001 + ((rd_T29 l0 i).f0.f2.size : Int) := wrap64_small (by omega) (by omega)
                  have HS : Aside0 (muchGo ((l0.take (a1 + 1).toNat).flatMap tms) 0 = if n + 30001 + ((rd_T29 l0 i).f0.f2.size : Int) > 30000 then none else muchGo ((tms (rd_T29 l0 i)).drop 1 ++ ((l0.take (a1 + 1).toNat).drop (i.toNat + 1)).flatMap tms) (n + 30001 + ((rd_T29 l0 i).f0.f2.size : Int))) := ⟨HI.out.trans (muchGo_step hm1 hm2)⟩
                  clear HI hm1 hm2
                  by_cases c4 : 30000 < n + 30001 + ((rd_T29 l0 i).f0.f2.size : Int)
                  · have c4b : decide (30000 < n + 30001 + ((rd_T29 l0 i).f0.f2.size : Int)) = true := decide_eq_true c4
                    have HF := HS.out
                    rw [if_pos c4] at HF
                    have HF2 : muchB l0 a1 = true := by unfold muchB; rw [HF]; rfl
                    clear HS HF c4
                    go_wp2
                    repeat (go_quiet (fail); try go_wp2)
                    go_ret
                    exact ⟨HF2 ▸ rfl, HD.out.step _⟩
                  · exfalso; omega
              · have hm1 := mn_neg d1
                have d1b := eq_false d1
                by_cases d2 : (30001 : Int) < ((rd_T29 l0 i).f0.f2.size : Int)
                · have hm2 := mn_pos d2
                  have d2b := eq_true d2
                  obtain ⟨hn0, hn1⟩ := hn.out
                  have hw1 : wrap64 (n + ((rd_T29 l0 i).f0.f1.size : Int)) = n + ((rd_T29 l0 i).f0.f1.size : Int) := wrap64_small (by omega) (by omega)
                  have hw2 : wrap64 (n + ((rd_T29 l0 i).f0.f1.size : Int) + 30001) = n + ((rd_T29 l0 i).f0.f1.size : Int) + 30001 := wrap64_small (by omega) (by omega)
                  have HS : Aside0 (muchGo ((l0.take (a1 + 1).toNat).flatMap tms) 0 = if n + ((rd_T29 l0 i).f0.f1.size : Int) + 30001 > 30000 then none else muchGo ((tms (rd_T29 l0 i)).drop 1 ++ ((l0.take (a1 + 1).toNat).drop (i.toNat + 1)).flatMap tms) (n + ((rd_T29 l0 i).f0.f1.size : Int) + 30001)) := ⟨HI.out.trans (muchGo_step hm1 hm2)⟩
                  clear HI hm1 hm2
                  by_cases c4 : 30000 < n + ((rd_T29 l0 i).f0.f1.size : Int) + 30001
                  · have c4b : decide (30000 < n + ((rd_T29 l0 i).f0.f1.size : Int) + 30001) = true := decide_eq_true c4
                    have HF := HS.out
                    rw [if_pos c4] at HF
                    have HF2 : muchB l0 a1 = true := by unfold muchB; rw [HF]; rfl
                    clear HS HF c4
                    go_wp2
                    repeat (go_quiet (fail); try go_wp2)
                    go_ret
                    exact ⟨HF2 ▸ rfl, HD.out.step _⟩
                  · exfalso; omega
                · have hm2 := mn_neg d2
                  have d2b := eq_false d2
                  obtain ⟨hn0, hn1⟩ := hn.out
                  have hw1 : wrap64 (n + ((rd_T29 l0 i).f0.f1.size : Int)) = n + ((rd_T29 l0 i).f0.f1.size : Int) := wrap64_small (by omega) (by omega)
                  have hw2 : wrap64 (n + ((rd_T29 l0 i).f0.f1.size : Int) + ((rd_T29 l0 i).f0.f2.size : Int)) = n + ((rd_T29 l0 i).f0.f1.size : Int) + ((rd_T29 l0 i).f0.f2.size : Int) := wrap64_small (by omega) (by omega)
                  have HS : Aside0 (muchGo ((l0.take (a1 + 1).toNat).flatMap tms) 0 = if n + ((rd_T29 l0 i).f0.f1.size : Int) + ((rd_T29 l0 i).f0.f2.size : Int) > 30000 then none else muchGo ((tms (rd_T29 l0 i)).drop 1 ++ ((l0.take (a1 + 1).toNat).drop (i.toNat + 1)).flatMap tms) (n + ((rd_T29 l0 i).f0.f1.size : Int) + ((rd_T29 l0 i).f0.f2.size : Int))) := ⟨HI.out.trans (muchGo_step hm1 hm2)⟩
                  clear HI hm1 hm2
                  by_cases c4 : 30000 < n + ((rd_T29 l0 i).f0.f1.size : Int) + ((rd_T29 l0 i).f0.f2.size : Int)
                  · have c4b : decide (30000 < n + ((rd_T29 l0 i).f0.f1.size : Int) + ((rd_T29 l0 i).f0.f2.size : Int)) = true := decide_eq_true c4
                    have HF := HS.out
                    rw [if_pos c4] at HF
                    have HF2 : muchB l0 a1 = true := by unfold muchB; rw [HF]; rfl
                    clear HS HF c4
                    go_wp2
                    repeat (go_quiet (fail); try go_wp2)
                    go_ret
                    exact ⟨HF2 ▸ rfl, HD.out.step _⟩
                  · have c4b : decide (30000 < n + ((rd_T29 l0 i).f0.f1.size : Int) + ((rd_T29 l0 i).f0.f2.size : Int)) = false := decide_eq_false c4
                    have HF := Aside0.mk HS.out
                    rw [if_neg c4] at HF
                    clear HS
                    go_wp2
                    repeat (go_quiet (fail); try go_wp2)
                    go_roundg (3 - 1)
                    case measure => omega
                    case rel => exact ⟨1, _, rfl, rfl, by omega, by omega, rfl, ⟨by omega⟩, HF, ⟨HD.out.step _⟩⟩
            · by_cases d1 : (30001 : Int) < ((rd_T29 l0 i).f1.f1.size : Int)
              · have hm1 := mn_pos d1
                have d1b := eq_true d1
                by_cases d2 : (30001 : Int) < ((rd_T29 l0 i).f1.f2.size : Int)
                · have hm2 := mn_pos d2
                  have d2b := eq_true d2
                  obtain ⟨hn0, hn1⟩ := hn.out
                  have hw1 : wrap64 (n + 30001) = n + 30001 := wrap64_small (by omega) (by omega)
                  have hw2 : wrap64 (n + 30001 + 30001) = n + 30001 + 30001 := wrap64_small (by omega) (by omega)
                  have HS : Aside0 (muchGo ((l0.take (a1 + 1).toNat).flatMap tms) 0 = if n + 30001 + 30001 > 30000 then none else muchGo ((tms (rd_T29 l0 i)).drop 2 ++ ((l0.take (a1 + 1).toNat).drop (i.toNat + 1)).flatMap tms) (n + 30001 + 30001)) := ⟨HI.out.trans (muchGo_step hm1 hm2)⟩
                  clear HI hm1 hm2
                  by_cases c4 : 30000 < n + 30001 + 30001
                  · have c4b : decide (30000 < n + 30001 + 30001) = true := decide_eq_true c4
                    have HF := HS.out
                    rw [if_pos c4] at HF
                    have HF2 : muchB l0 a1 = true := by unfold muchB; rw [HF]; rfl
                    clear HS HF c4
                    go_wp2
                    repeat (go_quiet (fail); try go_wp2)
                    go_ret
                    exact ⟨HF2 ▸ rfl, HD.out.step _⟩
                  · exfalso; omega
                · have hm2 := mn_neg d2
                  have d2b := eq_false d2
                  obtain ⟨hn0, hn1⟩ := hn.out
                  have hw1 : wrap64 (n + 30001) = n + 30001 := wrap64_small (by omega) (by omega)
                  have hw2 : wrap64 (n + 30001 + ((rd_T29 l0 i).f1.f2.size : Int)) = n + 30001 + ((rd_T29 l0 i).f1.f2.size : Int) := wrap64_small (by omega) (by omega)
                  have HS : Aside0 (muchGo ((l0.take (a1 + 1).toNat).flatMap tms) 0 = if n + 30001 + ((rd_T29 l0 i).f1.f2.size : Int) > 30000 then none else muchGo ((tms (rd_T29 l0 i)).drop 2 ++ ((l0.take (a1 + 1).toNat).drop (i.toNat + 1)).flatMap tms) (n + 30001 + ((rd_T29 l0 i).f1.f2.size : Int))) := ⟨HI.out.trans (muchGo_step hm1 hm2)⟩
                  clear HI hm1 hm2
                  by_cases c4 : 30000 < n + 30001 + ((rd_T29 l0 i).f1.f2.size : Int)
                  · have c4b : decide (30000 < n + 30001 + ((rd_T29 l0 i).f1.f2.size : Int)) = true := decide_eq_true c4
                    have HF := HS.out
                    rw [if_pos c4] at HF
                    have HF2 : muchB l0 a1 = true := by unfold muchB; rw [HF]; rfl
                    clear HS HF c4
                    go_wp2
                    repeat (go_quiet (fail); try go_wp2)
                    go_ret
                    exact ⟨HF2 ▸ rfl, HD.out.step _⟩
                  · exfalso; omega
              · have hm1 := mn_neg d1
                have d1b := eq_false d1
                by_cases d2 : (30001 : Int) < ((rd_T29 l0 i).f1.f2.size : Int)
                · have hm2 := mn_pos d2
                  have d2b := eq_true d2
                  obtain ⟨hn0, hn1⟩ := hn.out
                  have hw1 : wrap64 (n + ((rd_T29 l0 i).f1.f1.size : Int)) = n + ((rd_T29 l0 i).f1.f1.size : Int) := wrap64_small (by omega) (by omega)
                  have hw2 : wrap64 (n + ((rd_T29 l0 i).f1.f1.size : Int) + 30001) = n + ((rd_T29 l0 i).f1.f1.size : Int) + 30001 := wrap64_small (by omega) (by omega)
                  have HS : Aside0 (muchGo ((l0.take (a1 + 1).toNat).flatMap tms) 0 = if n + ((rd_T29 l0 i).f1.f1.size : Int) + 30001 > 30000 then none else muchGo ((tms (rd_T29 l0 i)).drop 2 ++ ((l0.take (a1 + 1).toNat).drop (i.toNat + 1)).flatMap tms) (n + ((rd_T29 l0 i).f1.f1.size : Int) + 30001)) := ⟨HI.out.trans (muchGo_step hm1 hm2)⟩
                  clear HI hm1 hm2
                  by_cases c4 : 30000 < n + ((rd_T29 l0 i).f1.f1.size : Int) + 30001
                  · have c4b : decide (30000 < n + ((rd_T29 l0 i).f1.f1.size : Int) + 30001) = true := decide_eq_true c4
                    have HF := HS.out
                    rw [if_pos c4] at HF
                    have HF2 : muchB l0 a1 = true := by unfold muchB; rw [HF]; rfl
                    clear HS HF c4
                    go_wp2
                    repeat (go_quiet (fail); try go_wp2)
                    go_ret
                    exact ⟨HF2 ▸ rfl, HD.out.step _⟩
                  · exfalso; omega
                · have hm2 := mn_neg d2
                  have d2b := eq_false d2
                  obtain ⟨hn0, hn1⟩ := hn.out
                  have hw1 : wrap64 (n + ((rd_T29 l0 i).f1.f1.size : Int)) = n + ((rd_T29 l0 i).f1.f1.size : Int) := wrap64_small (by omega) (by omega)
                  have hw2 : wrap64 (n + ((rd_T29 l0 i).f1.f1.size : Int) + ((rd_T29 l0 i).f1.f2.size : Int)) = n + ((rd_T29 l0 i).f1.f1.size : Int) + ((rd_T29 l0 i).f1.f2.size : Int) := wrap64_small (by omega) (by omega)
                  have HS : Aside0 (muchGo ((l0.take (a1 + 1).toNat).flatMap tms) 0 = if n + ((rd_T29 l0 i).f1.f1.size : Int) + ((rd_T29 l0 i).f1.f2.size : Int) > 30000 then none else muchGo ((tms (rd_T29 l0 i)).drop 2 ++ ((l0.take (a1 + 1).toNat).drop (i.toNat + 1)).flatMap tms) (n + ((rd_T29 l0 i).f1.f1.size : Int) + ((rd_T29 l0 i).f1.f2.size : Int))) := ⟨HI.out.trans (muchGo_step hm1 hm2)⟩
                  clear HI hm1 hm2
                  by_cases c4 : 30000 < n + ((rd_T29 l0 i).f1.f1.size : Int) + ((rd_T29 l0 i).f1.f2.size : Int)
                  · have c4b : decide (30000 < n + ((rd_T29 l0 i).f1.f1.size : Int) + ((rd_T29 l0 i).f1.f2.size : Int)) = true := decide_eq_true c4
                    have HF := HS.out
                    rw [if_pos c4] at HF
                    have HF2 : muchB l0 a1 = true := by unfold muchB; rw [HF]; rfl
                    clear HS HF c4
                    go_wp2
                    repeat (go_quiet (fail); try go_wp2)
                    go_ret
                    exact ⟨HF2 ▸ rfl, HD.out.step _⟩
                  · have c4b : decide (30000 < n + ((rd_T29 l0 i).f1.f1.size : Int) + ((rd_T29 l0 i).f1.f2.size : Int)) = false := decide_eq_false c4
                    have HF := Aside0.mk HS.out
                    rw [if_neg c4] at HF
                    clear HS
                    go_wp2
                    repeat (go_quiet (fail); try go_wp2)
                    go_roundg (3 - 2)
                    case measure => omega
                    case rel => exact ⟨2, _, rfl, rfl, by omega, by omega, rfl, ⟨by omega⟩, HF, ⟨HD.out.step _⟩⟩
            · by_cases d1 : (30001 : Int) < ((rd_T29 l0 i).f2.f1.size : Int)
              · have hm1 := mn_pos d1
                have d1b := eq_true d1
                by_cases d2 : (30001 : Int) < ((rd_T29 l0 i).f2.f2.size : Int)
                · have hm2 := mn_pos d2
                  have d2b := eq_true d2
                  obtain ⟨hn0, hn1⟩ := hn.out
                  have hw1 : wrap64 (n + 30001) = n + 30001 := wrap64_small (by omega) (by omega)
                  have hw2 : wrap64 (n + 30001 + 30001) = n + 30001 + 30001 := wrap64_small (by omega) (by omega)
                  have HS : Aside0 (muchGo ((l0.take (a1 + 1).toNat).flatMap tms) 0 = if n + 30001 + 30001 > 30000 then none else muchGo ((tms (rd_T29 l0 i)).drop 3 ++ ((l0.take (a1 + 1).toNat).drop (i.toNat + 1)).flatMap tms) (n + 30001 + 30001)) := ⟨HI.out.trans (muchGo_step hm1 hm2)⟩
                  clear HI hm1 hm2
                  by_cases c4 : 30000 < n + 30001 + 30001
                  · have c4b : decide (30000 < n + 30001 + 30001) = true := decide_eq_true c4
                    have HF := HS.out
                    rw [if_pos c4] at HF
                    have HF2 : muchB l0 a1 = true := by unfold muchB; rw [HF]; rfl
                    clear HS HF c4
                    go_wp2
                    repeat (go_quiet (fail); try go_wp2)
                    go_ret
                    exact ⟨HF2 ▸ rfl, HD.out.step _⟩
                  · exfalso; omega
                · have hm2 := mn_neg d2
                  have d2b := eq_false d2
                  obtain ⟨hn0, hn1⟩ := hn.out
                  have hw1 : wrap64 (n + 30001) = n + 30001 := wrap64_small (by omega) (by omega)
                  have hw2 : wrap64 (n + 30001 + ((rd_T29 l0 i).f2.f2.size : Int)) = n + 30001 + ((rd_T29 l0 i).f2.f2.size : Int) := wrap64_small (by omega) (by omega)
                  have HS : Aside0 (muchGo ((l0.take (a1 + 1).toNat).flatMap tms) 0 = if n + 30001 + ((rd_T29 l0 i).f2.f2.size : Int) > 30000 then none else muchGo ((tms (rd_T29 l0 i)).drop 3 ++ ((l0.take (a1 + 1).toNat).drop (i.toNat + 1)).flatMap tms) (n + 30001 + ((rd_T29 l0 i).f2.f2.size : Int))) := ⟨HI.out.trans (muchGo_step hm1 hm2)⟩
                  clear HI hm1 hm2
                  by_cases c4 : 30000 < n + 30001 + ((rd_T29 l0 i).f2.f2.size : Int)
                  · have c4b : decide (30000 < n + 30001 + ((rd_T29 l0 i).f2.f2.size : Int)) = true := decide_eq_true c4
                    have HF := HS.out
                    rw [if_pos c4] at HF
                    have HF2 : muchB l0 a1 = true := by unfold muchB; rw [HF]; rfl
                    clear HS HF c4
                    go_wp2
                    repeat (go_quiet (fail); try go_wp2)
                    go_ret
                    exact ⟨HF2 ▸ rfl, HD.out.step _⟩
                  · exfalso; omega
              · have hm1 := mn_neg d1
                have d1b := eq_false d1
                by_cases d2 : (30001 : Int) < ((rd_T29 l0 i).f2.f2.size : Int)
                · have hm2 := mn_pos d2
                  have d2b := eq_true d2
                  obtain ⟨hn0, hn1⟩ := hn.out
                  have hw1 : wrap64 (n + ((rd_T29 l0 i).f2.f1.size : Int)) = n + ((rd_T29 l0 i).f2.f1.size : Int) := wrap64_small (by omega) (by omega)
                  have hw2 : wrap64 (n + ((rd_T29 l0 i).f2.f1.size : Int) + 30001) = n + ((rd_T29 l0 i).f2.f1.size : Int) + 30001 := wrap64_small (by omega) (by omega)
                  have HS : Aside0 (muchGo ((l0.take (a1 + 1).toNat).flatMap tms) 0 = if n + ((rd_T29 l0 i).f2.f1.size : Int) + 30001 > 30000 then none else muchGo ((tms (rd_T29 l0 i)).drop 3 ++ ((l0.take (a1 + 1).toNat).drop (i.toNat + 1)).flatMap tms) (n + ((rd_T29 l0 i).f2.f1.size : Int) + 30001)) := ⟨HI.out.trans (muchGo_step hm1 hm2)⟩
                  clear HI hm1 hm2
                  by_cases c4 : 30000 < n + ((rd_T29 l0 i).f2.f1.size : Int) + 30001
                  · have c4b : decide (30000 < n + ((rd_T29 l0 i).f2.f1.size : Int) + 30001) = true := decide_eq_true c4
                    have HF := HS.out
                    rw [if_pos c4] at HF
                    have HF2 : muchB l0 a1 = true := by unfold muchB; rw [HF]; rfl
                    clear HS HF c4
                    go_wp2
                    repeat (go_quiet (fail); try go_wp2)
                    go_ret
                    exact ⟨HF2 ▸ rfl, HD.out.step _⟩
                  · exfalso; omega
                · have hm2 := mn_neg d2
                  have d2b := eq_false d2
                  obtain ⟨hn0, hn1⟩ := hn.out
                  have hw1 : wrap64 (n + ((rd_T29 l0 i).f2.f1.size : Int)) = n + ((rd_T29 l0 i).f2.f1.size : Int) := wrap64_small (by omega) (by omega)
                  have hw2 : wrap64 (n + ((rd_T29 l0 i).f2.f1.size : Int) + ((rd_T29 l0 i).f2.f2.size : Int)) = n + ((rd_T29 l0 i).f2.f1.size : Int) + ((rd_T29 l0 i).f2.f2.size : Int) := wrap64_small (by omega) (by omega)
                  have HS : Aside0 (muchGo ((l0.take (a1 + 1).toNat).flatMap tms) 0 = if n + ((rd_T29 l0 i).f2.f1.size : Int) + ((rd_T29 l0 i).f2.f2.size : Int) > 30000 then none else muchGo ((tms (rd_T29 l0 i)).drop 3 ++ ((l0.take (a1 + 1).toNat).drop (i.toNat + 1)).flatMap tms) (n + ((rd_T29 l0 i).f2.f1.size : Int) + ((rd_T29 l0 i).f2.f2.size : Int))) := ⟨HI.out.trans (muchGo_step hm1 hm2)⟩
                  clear HI hm1 hm2
                  by_cases c4 : 30000 < n + ((rd_T29 l0 i).f2.f1.size : Int) + ((rd_T29 l0 i).f2.f2.size : Int)
                  · have c4b : decide (30000 < n + ((rd_T29 l0 i).f2.f1.size : Int) + ((rd_T29 l0 i).f2.f2.size : Int)) = true := decide_eq_true c4
                    have HF := HS.out
                    rw [if_pos c4] at HF
                    have HF2 : muchB l0 a1 = true := by unfold muchB; rw [HF]; rfl
                    clear HS HF c4
                    go_wp2
                    repeat (go_quiet (fail); try go_wp2)
                    go_ret
                    exact ⟨HF2 ▸ rfl, HD.out.step _⟩
                  · have c4b : decide (30000 < n + ((rd_T29 l0 i).f2.f1.size : Int) + ((rd_T29 l0 i).f2.f2.size : Int)) = false := decide_eq_false c4
                    have HF := Aside0.mk HS.out
                    rw [if_neg c4] at HF
                    clear HS
                    go_wp2
                    repeat (go_quiet (fail); try go_wp2)
                    go_roundg (3 - 3)
                    case measure => omega
                    case rel => exact ⟨3, _, rfl, rfl, by omega, by omega, rfl, ⟨by omega⟩, HF, ⟨HD.out.step _⟩⟩
          · have c3b : decide (k < 3) = false := decide_eq_false c3
            obtain rfl : k = 3 := by omega
            have HG : Aside0 (muchGo ((l0.take (a1 + 1).toNat).flatMap tms) 0 = muchGo (((l0.take (a1 + 1).toNat).drop (i.toNat + 1)).flatMap tms) n) := ⟨HI.out⟩
            clear HI
            have hw1 : wrap64 (i + 1) = i + 1 := wrap64_small (by omega) (by omega)
            go_wp2
            go_roundg (l0.length - (i.toNat + 1))
            case measure => omega
            case rel => exact ⟨i + 1, n, rfl, rfl, by omega, by omega, by omega, hn, by rw [show (i + 1).toNat = i.toNat + 1 by omega]; exact HG, HD⟩
      · have c2b : decide (i ≤ a1) = false := decide_eq_false c2
        have HF : muchB l0 a1 = decide ((l0.length : Int) > a1) := by
          unfold muchB
          rw [HG.out, List.drop_eq_nil_of_le (by simp; omega)]
          rfl
        clear HG
        go_wp2
        go_ret
        exact ⟨rfl, HD.out⟩
    · have c1b : decide (i < (l0.length : Int)) = false := decide_eq_false c1
      have HF : muchB l0 a1 = decide ((l0.length : Int) > a1) := by
        unfold muchB
        rw [HG.out, List.drop_eq_nil_of_le (by simp; omega)]
        rfl
      clear HG
      go_wp2
      go_ret
      exact ⟨by first | rfl | exact HF ▸ rfl, HD.out⟩
def rhizomelaw02_begins.f (a0 : ByteArray) (a1 : ByteArray) : Option (Bool) := if (a0.size : Int) ≤ (a1.size : Int) then (if 0 ≤ (a0.size : Int) then (some ((a1.extract 0 ((a0.size : Int) : Int).toNat).toList == a0.toList)) else (none)) else (some false)
set_option maxHeartbeats 8000000 in
set_option maxRecDepth 100000 in
theorem rhizomelaw02_begins.calls (a0 : ByteArray) (a1 : ByteArray) (r : Bool) (w : World) (h : rhizomelaw02_begins.f a0 a1 = some r) :
    Calls Tryd.prog 23 #[.string a0, .string a1] w fun e w' => e = .returned (.bool r) ∧ Drawn0 w w' := by
  have H : (if (a0.size : Int) ≤ (a1.size : Int) then (if 0 ≤ (a0.size : Int) then (some ((a1.extract 0 ((a0.size : Int) : Int).toNat).toList == a0.toList)) else (none)) else (some false)) = some r := h
  clear h
  by_cases c3 : (a0.size : Int) ≤ (a1.size : Int)
  · rw [if_pos c3] at H
    have c3b0 : decide ((a0.size : Int) ≤ (a1.size : Int)) = true := decide_eq_true c3
    have c3b1 : decide (a0.size ≤ a1.size) = true := decide_eq_true (Int.ofNat_le.mp c3)
    clear c3
    by_cases c4 : 0 ≤ (a0.size : Int)
    · rw [if_pos c4] at H
      have c4b0 := eq_true c4
      have c4b1 : decide (0 ≤ (a0.size : Int)) = true := decide_eq_true c4
      clear c4
      have c5b0 := eq_true (of_decide_eq_true (by first | (with_reducible assumption) | assumption) : (a0.size : Int) ≤ (a1.size : Int))
      obtain rfl := Option.some.inj H
      go_enter Tryd.func23, Tryd.ntmps23
      go_wp2
      go_ret
      exact ⟨by first | rfl | (simp; done) | (simp [*]; done), by repeat (first | exact Drawn0.refl _ | apply Drawn0.step)⟩
    · rw [if_neg c4] at H
      exact absurd H (by simp)
  · rw [if_neg c3] at H
    have c3b0 : decide ((a0.size : Int) ≤ (a1.size : Int)) = false := decide_eq_false c3
    have c3b1 : decide (a0.size ≤ a1.size) = false := decide_eq_false (fun h => c3 (Int.ofNat_le.mpr h))
    clear c3
    obtain rfl := Option.some.inj H
    go_enter Tryd.func23, Tryd.ntmps23
    go_wp2
    go_ret
    exact ⟨by first | rfl | (simp; done) | (simp [*]; done), by repeat (first | exact Drawn0.refl _ | apply Drawn0.step)⟩
def cmp_Or_int.l0 : Nat → Int → List Int → Int → Int → Option (Int)
  | 0, _, _, _, _ => none
  | k + 1, x3, x6, x7, x8 => if x8 < x7 then (if 0 ≤ x8 then (if x8 < (x6.length : Int) then (if (rd x6 x8) = x3 then (cmp_Or_int.l0 k x3 x6 x7 (wrap64 (x8 + 1))) else (some (rd x6 x8))) else (none)) else (none)) else (some x3)
def cmp_Or_int.f (k : Nat) (l0 : List Int) : Option (Int) := cmp_Or_int.l0 k 0 l0 (l0.length : Int) 0
theorem cmp_Or_int.mono_l : ∀ k, (∀ y0 y1 y2 y3, LeO (cmp_Or_int.l0 k y0 y1 y2 y3) (cmp_Or_int.l0 (k + 1) y0 y1 y2 y3))
  | 0 => fun _ _ _ _ r h => by simp [cmp_Or_int.l0] at h
  | k + 1 => by
    have ih0 := cmp_Or_int.mono_l k
    · intro y0 y1 y2 y3
      unfold cmp_Or_int.l0
      repeat' first
      | (with_reducible exact ih0 _ _ _ _)
      | (with_reducible exact LeO.refl _)
      | (with_reducible exact LeO.none _)
      | (with_reducible refine LeO.ite ?_ ?_)
      | (with_reducible refine LeO.bind ?_ (fun _ => ?_))
      | exact ih0 _ _ _ _
      | exact LeO.none _
      | refine LeO.ite ?_ ?_
      | refine LeO.bind ?_ (fun _ => ?_)
theorem cmp_Or_int.mono : ∀ a0 k, LeO (cmp_Or_int.f k a0) (cmp_Or_int.f (k + 1) a0) := by
  intro a0 k
  have ih0 := cmp_Or_int.mono_l k
  unfold cmp_Or_int.f
  repeat' first
      | (with_reducible exact ih0 _ _ _ _)
      | (with_reducible exact LeO.refl _)
      | (with_reducible exact LeO.none _)
      | (with_reducible refine LeO.ite ?_ ?_)
      | (with_reducible refine LeO.bind ?_ (fun _ => ?_))
      | exact ih0 _ _ _ _
      | exact LeO.none _
      | refine LeO.ite ?_ ?_
      | refine LeO.bind ?_ (fun _ => ?_)
set_option maxHeartbeats 8000000 in
set_option maxRecDepth 100000 in
theorem cmp_Or_int.calls (k : Nat) (A0 : Option Addr) (c0 : Nat) (l0 : List Int) (r : Int) (w : World) (hr0 : Kd.C (Kd.int .i64) w A0 l0.length l0) (hc0 : l0.length ≤ c0) (h : cmp_Or_int.f k l0 = some r) :
    Calls Tryd.prog 40 #[.slice A0 l0.length c0] w fun e w' => e = .returned (.int .i64 r) ∧ Drawn0 w w' := by
  have HR0 := Aside0.mk hr0
  have HC0 := Aside0.mk hc0
  clear hr0 hc0
  have H : (cmp_Or_int.l0 k 0 l0 (l0.length : Int) 0) = some r := h
  clear h
  have H' := Aside0.mk H
  clear H
  go_enter Tryd.func40, Tryd.ntmps40
  go_wp2
  go_loopg [8] k (fun kq v8 w' => ∃ (x8_1 : Int), v8 = .int .i64 x8_1 ∧ Aside0 (cmp_Or_int.l0 kq 0 l0 (l0.length : Int) x8_1 = some r) ∧ Aside0 (kq ≤ k) ∧ Drawn0 w w')
  case atStart => exact ⟨(0), (by first | rfl | (simp; done) | (simp [*]; done)), H', ⟨Nat.le_refl _⟩, by repeat (first | exact Drawn0.refl _ | apply Drawn0.step)⟩
  case round =>
    clear H'
    obtain ⟨x8_1, rfl, HA, HK1, ⟨m1, rfl⟩⟩ := hrel
    cases gk with
    | zero => exact absurd HA.out (by simp [cmp_Or_int.l0])
    | succ k1 =>
      have H := HA.out
      clear HA
      simp only [cmp_Or_int.l0] at H
      by_cases c2 : x8_1 < (l0.length : Int)
      · rw [if_pos c2] at H
        have c2b0 : decide (x8_1 < (l0.length : Int)) = true := decide_eq_true c2
        clear c2
        by_cases c3 : 0 ≤ x8_1
        · rw [if_pos c3] at H
          have c3b0 : decide (0 ≤ x8_1) = true := decide_eq_true c3
          clear c3
          by_cases c4 : x8_1 < (l0.length : Int)
          · rw [if_pos c4] at H
            have c4b0 : decide (x8_1 < (l0.length : Int)) = true := decide_eq_true c4
            clear c4
            by_cases c5 : (rd l0 x8_1) = 0
            · rw [if_pos c5] at H
              have c5b0 : ((rd l0 x8_1) == 0) = true := beq_iff_eq.mpr c5
              have c5b1 : ((rd l0 x8_1) != 0) = false := bne_eq_false_iff_eq.mpr c5
              clear c5
              have H' := Aside0.mk H
              clear H
              have p329 : 0 ≤ (x8_1 : Int) := of_decide_eq_true (by first | (with_reducible assumption) | assumption)
              have q329 : x8_1 < (l0.length : Int) := of_decide_eq_true (by first | (with_reducible assumption) | assumption)
              obtain ⟨ad329, e329, hx329_0⟩ := Kd.at_int HR0.out x8_1 p329 q329
              cases e329
              replace p329 := eq_true p329
              replace q329 := eq_true q329
              go_wp2
              go_roundg k1
              case measure => have := HK1.out; omega
              case rel => exact ⟨(wrap64 (x8_1 + 1)), (by first | rfl | (simp; done) | (simp [*]; done)), H', ⟨by have := HK1.out; omega⟩, by repeat (first | exact Drawn0.refl _ | apply Drawn0.step)⟩
            · rw [if_neg c5] at H
              have c5b0 : ((rd l0 x8_1) == 0) = false := beq_eq_false_iff_ne.mpr c5
              have c5b1 : ((rd l0 x8_1) != 0) = true := bne_iff_ne.mpr c5
              obtain rfl := Option.some.inj H
              have p329 : 0 ≤ (x8_1 : Int) := of_decide_eq_true (by first | (with_reducible assumption) | assumption)
              have q329 : x8_1 < (l0.length : Int) := of_decide_eq_true (by first | (with_reducible assumption) | assumption)
              obtain ⟨ad329, e329, hx329_0⟩ := Kd.at_int HR0.out x8_1 p329 q329
              cases e329
              replace p329 := eq_true p329
              replace q329 := eq_true q329
              go_wp2
              go_ret
              exact ⟨by first | rfl | (simp; done) | (simp [*]; done), by repeat (first | exact Drawn0.refl _ | apply Drawn0.step)⟩
          · rw [if_neg c4] at H
            exact absurd H (by simp)
        · rw [if_neg c3] at H
          exact absurd H (by simp)
      · rw [if_neg c2] at H
        have c2b0 : decide (x8_1 < (l0.length : Int)) = false := decide_eq_false c2
        clear c2
        obtain rfl := Option.some.inj H
        go_wp2
        go_ret
        exact ⟨by first | rfl | (simp; done) | (simp [*]; done), by repeat (first | exact Drawn0.refl _ | apply Drawn0.step)⟩
def api_Kind_61.f (a0 : Int) : Option (Bool) := some (a0 != a0)
set_option maxHeartbeats 8000000 in
set_option maxRecDepth 100000 in
theorem api_Kind_61.calls (a0 : Int) (r : Bool) (w : World) (h : api_Kind_61.f a0 = some r) :
    Calls Tryd.prog 61 #[.int .i64 a0] w fun e w' => e = .returned (.bool r) ∧ Drawn0 w w' := by
  have H : (some (a0 != a0)) = some r := h
  clear h
  obtain rfl := Option.some.inj H
  go_enter Tryd.func61, Tryd.ntmps61
  go_wp2
  go_ret
  exact ⟨by first | rfl | (simp; done) | (simp [*]; done), by repeat (first | exact Drawn0.refl _ | apply Drawn0.step)⟩
def api_Kind_41.f (a0 : Int) (a1 : Int) : Option (Int) := (api_Kind_61.f a0).bind fun t330 => ((api_Kind_61.f a1).bind fun t331 => (if t330 = true then (if t331 = true then (some 0) else (some (-1))) else (if t331 = true then (some 1) else (if a0 < a1 then (some (-1)) else (if a0 > a1 then (some 1) else (some 0))))))
set_option maxHeartbeats 8000000 in
set_option maxRecDepth 100000 in
theorem api_Kind_41.calls (a0 : Int) (a1 : Int) (r : Int) (w : World) (h : api_Kind_41.f a0 a1 = some r) :
    Calls Tryd.prog 41 #[.int .i64 a0, .int .i64 a1] w fun e w' => e = .returned (.int .i64 r) ∧ Drawn0 w w' := by
  have H : ((api_Kind_61.f a0).bind fun t330 => ((api_Kind_61.f a1).bind fun t331 => (if t330 = true then (if t331 = true then (some 0) else (some (-1))) else (if t331 = true then (some 1) else (if a0 < a1 then (some (-1)) else (if a0 > a1 then (some 1) else (some 0))))))) = some r := h
  clear h
  replace H := Option.bind_eq_some_iff.mp H
  obtain ⟨t330, A30, H⟩ := H
  replace H : ((api_Kind_61.f a1).bind fun t331 => (if t330 = true then (if t331 = true then (some 0) else (some (-1))) else (if t331 = true then (some 1) else (if a0 < a1 then (some (-1)) else (if a0 > a1 then (some 1) else (some 0)))))) = some r := H
  have A3 := Aside0.mk A30
  clear A30
  replace H := Option.bind_eq_some_iff.mp H
  obtain ⟨t331, A40, H⟩ := H
  replace H : (if t330 = true then (if t331 = true then (some 0) else (some (-1))) else (if t331 = true then (some 1) else (if a0 < a1 then (some (-1)) else (if a0 > a1 then (some 1) else (some 0))))) = some r := H
  have A4 := Aside0.mk A40
  clear A40
  by_cases c5 : t330 = true
  · subst c5
    have H1 : (if t331 = true then (some 0) else (some (-1))) = some r := by rw [if_pos rfl] at H; exact H
    clear H
    have H := H1
    clear H1
    by_cases c6 : t331 = true
    · subst c6
      have H1 : (some 0) = some r := by rw [if_pos rfl] at H; exact H
      clear H
      have H := H1
      clear H1
      obtain rfl := Option.some.inj H
      go_enter Tryd.func41, Tryd.ntmps41
      go_wp2_with (first | ((with_reducible refine gate_callee (f := 61) rfl ?_); refine goesL_ (some 8) rfl rfl Tryd.func61 (by kernel_rfl) rfl #[.int .i64 a0] rfl (by (try simp only [List.map_toArray, List.map_cons, List.map_nil]); first | done | rfl | (simp only [List.length_drop, List.length_take]; rfl)) ?_; (with_reducible refine (api_Kind_61.calls a0 true _ A3.out).mono ?_); rintro e w' ⟨rfl, ⟨nd, rfl⟩⟩; refine ⟨_, rfl, ?_⟩) | ((with_reducible refine gate_callee (f := 61) rfl ?_); refine goesL_ (some 10) rfl rfl Tryd.func61 (by kernel_rfl) rfl #[.int .i64 a1] rfl (by (try simp only [List.map_toArray, List.map_cons, List.map_nil]); first | done | rfl | (simp only [List.length_drop, List.length_take]; rfl)) ?_; (with_reducible refine (api_Kind_61.calls a1 true _ A4.out).mono ?_); rintro e w' ⟨rfl, ⟨nd, rfl⟩⟩; refine ⟨_, rfl, ?_⟩))
      go_ret
      exact ⟨by first | rfl | (simp; done) | (simp [*]; done), by repeat (first | exact Drawn0.refl _ | apply Drawn0.step)⟩
    · replace c6 := Bool.eq_false_iff.mpr c6
      subst c6
      have H1 : (some (-1)) = some r := by rw [if_neg (show ¬ (false = true) by decide)] at H; exact H
      clear H
      have H := H1
      clear H1
      obtain rfl := Option.some.inj H
      go_enter Tryd.func41, Tryd.ntmps41
      go_wp2_with (first | ((with_reducible refine gate_callee (f := 61) rfl ?_); refine goesL_ (some 8) rfl rfl Tryd.func61 (by kernel_rfl) rfl #[.int .i64 a0] rfl (by (try simp only [List.map_toArray, List.map_cons, List.map_nil]); first | done | rfl | (simp only [List.length_drop, List.length_take]; rfl)) ?_; (with_reducible refine (api_Kind_61.calls a0 true _ A3.out).mono ?_); rintro e w' ⟨rfl, ⟨nd, rfl⟩⟩; refine ⟨_, rfl, ?_⟩) | ((with_reducible refine gate_callee (f := 61) rfl ?_); refine goesL_ (some 10) rfl rfl Tryd.func61 (by kernel_rfl) rfl #[.int .i64 a1] rfl (by (try simp only [List.map_toArray, List.map_cons, List.map_nil]); first | done | rfl | (simp only [List.length_drop, List.length_take]; rfl)) ?_; (with_reducible refine (api_Kind_61.calls a1 false _ A4.out).mono ?_); rintro e w' ⟨rfl, ⟨nd, rfl⟩⟩; refine ⟨_, rfl, ?_⟩))
      go_ret
      exact ⟨by first | rfl | (simp; done) | (simp [*]; done), by repeat (first | exact Drawn0.refl _ | apply Drawn0.step)⟩
  · replace c5 := Bool.eq_false_iff.mpr c5
    subst c5
    have H1 : (if t331 = true then (some 1) else (if a0 < a1 then (some (-1)) else (if a0 > a1 then (some 1) else (some 0)))) = some r := by rw [if_neg (show ¬ (false = true) by decide)] at H; exact H
    clear H
    have H := H1
    clear H1
    by_cases c7 : t331 = true
    · subst c7
      have H1 : (some 1) = some r := by rw [if_pos rfl] at H; exact H
      clear H
      have H := H1
      clear H1
      obtain rfl := Option.some.inj H
      go_enter Tryd.func41, Tryd.ntmps41
      go_wp2_with (first | ((with_reducible refine gate_callee (f := 61) rfl ?_); refine goesL_ (some 8) rfl rfl Tryd.func61 (by kernel_rfl) rfl #[.int .i64 a0] rfl (by (try simp only [List.map_toArray, List.map_cons, List.map_nil]); first | done | rfl | (simp only [List.length_drop, List.length_take]; rfl)) ?_; (with_reducible refine (api_Kind_61.calls a0 false _ A3.out).mono ?_); rintro e w' ⟨rfl, ⟨nd, rfl⟩⟩; refine ⟨_, rfl, ?_⟩) | ((with_reducible refine gate_callee (f := 61) rfl ?_); refine goesL_ (some 10) rfl rfl Tryd.func61 (by kernel_rfl) rfl #[.int .i64 a1] rfl (by (try simp only [List.map_toArray, List.map_cons, List.map_nil]); first | done | rfl | (simp only [List.length_drop, List.length_take]; rfl)) ?_; (with_reducible refine (api_Kind_61.calls a1 true _ A4.out).mono ?_); rintro e w' ⟨rfl, ⟨nd, rfl⟩⟩; refine ⟨_, rfl, ?_⟩))
      go_ret
      exact ⟨by first | rfl | (simp; done) | (simp [*]; done), by repeat (first | exact Drawn0.refl _ | apply Drawn0.step)⟩
    · replace c7 := Bool.eq_false_iff.mpr c7
      subst c7
      have H1 : (if a0 < a1 then (some (-1)) else (if a0 > a1 then (some 1) else (some 0))) = some r := by rw [if_neg (show ¬ (false = true) by decide)] at H; exact H
      clear H
      have H := H1
      clear H1
      by_cases c8 : a0 < a1
      · rw [if_pos c8] at H
        have c8b0 : decide (a0 < a1) = true := decide_eq_true c8
        clear c8
        obtain rfl := Option.some.inj H
        go_enter Tryd.func41, Tryd.ntmps41
        go_wp2_with (first | ((with_reducible refine gate_callee (f := 61) rfl ?_); refine goesL_ (some 8) rfl rfl Tryd.func61 (by kernel_rfl) rfl #[.int .i64 a0] rfl (by (try simp only [List.map_toArray, List.map_cons, List.map_nil]); first | done | rfl | (simp only [List.length_drop, List.length_take]; rfl)) ?_; (with_reducible refine (api_Kind_61.calls a0 false _ A3.out).mono ?_); rintro e w' ⟨rfl, ⟨nd, rfl⟩⟩; refine ⟨_, rfl, ?_⟩) | ((with_reducible refine gate_callee (f := 61) rfl ?_); refine goesL_ (some 10) rfl rfl Tryd.func61 (by kernel_rfl) rfl #[.int .i64 a1] rfl (by (try simp only [List.map_toArray, List.map_cons, List.map_nil]); first | done | rfl | (simp only [List.length_drop, List.length_take]; rfl)) ?_; (with_reducible refine (api_Kind_61.calls a1 false _ A4.out).mono ?_); rintro e w' ⟨rfl, ⟨nd, rfl⟩⟩; refine ⟨_, rfl, ?_⟩))
        go_ret
        exact ⟨by first | rfl | (simp; done) | (simp [*]; done), by repeat (first | exact Drawn0.refl _ | apply Drawn0.step)⟩
      · rw [if_neg c8] at H
        have c8b0 : decide (a0 < a1) = false := decide_eq_false c8
        clear c8
        by_cases c9 : a0 > a1
        · rw [if_pos c9] at H
          have c9b0 : decide (a1 < a0) = true := decide_eq_true c9
          clear c9
          obtain rfl := Option.some.inj H
          go_enter Tryd.func41, Tryd.ntmps41
          go_wp2_with (first | ((with_reducible refine gate_callee (f := 61) rfl ?_); refine goesL_ (some 8) rfl rfl Tryd.func61 (by kernel_rfl) rfl #[.int .i64 a0] rfl (by (try simp only [List.map_toArray, List.map_cons, List.map_nil]); first | done | rfl | (simp only [List.length_drop, List.length_take]; rfl)) ?_; (with_reducible refine (api_Kind_61.calls a0 false _ A3.out).mono ?_); rintro e w' ⟨rfl, ⟨nd, rfl⟩⟩; refine ⟨_, rfl, ?_⟩) | ((with_reducible refine gate_callee (f := 61) rfl ?_); refine goesL_ (some 10) rfl rfl Tryd.func61 (by kernel_rfl) rfl #[.int .i64 a1] rfl (by (try simp only [List.map_toArray, List.map_cons, List.map_nil]); first | done | rfl | (simp only [List.length_drop, List.length_take]; rfl)) ?_; (with_reducible refine (api_Kind_61.calls a1 false _ A4.out).mono ?_); rintro e w' ⟨rfl, ⟨nd, rfl⟩⟩; refine ⟨_, rfl, ?_⟩))
          go_ret
          exact ⟨by first | rfl | (simp; done) | (simp [*]; done), by repeat (first | exact Drawn0.refl _ | apply Drawn0.step)⟩
        · rw [if_neg c9] at H
          have c9b0 : decide (a1 < a0) = false := decide_eq_false c9
          clear c9
          obtain rfl := Option.some.inj H
          go_enter Tryd.func41, Tryd.ntmps41
          go_wp2_with (first | ((with_reducible refine gate_callee (f := 61) rfl ?_); refine goesL_ (some 8) rfl rfl Tryd.func61 (by kernel_rfl) rfl #[.int .i64 a0] rfl (by (try simp only [List.map_toArray, List.map_cons, List.map_nil]); first | done | rfl | (simp only [List.length_drop, List.length_take]; rfl)) ?_; (with_reducible refine (api_Kind_61.calls a0 false _ A3.out).mono ?_); rintro e w' ⟨rfl, ⟨nd, rfl⟩⟩; refine ⟨_, rfl, ?_⟩) | ((with_reducible refine gate_callee (f := 61) rfl ?_); refine goesL_ (some 10) rfl rfl Tryd.func61 (by kernel_rfl) rfl #[.int .i64 a1] rfl (by (try simp only [List.map_toArray, List.map_cons, List.map_nil]); first | done | rfl | (simp only [List.length_drop, List.length_take]; rfl)) ?_; (with_reducible refine (api_Kind_61.calls a1 false _ A4.out).mono ?_); rintro e w' ⟨rfl, ⟨nd, rfl⟩⟩; refine ⟨_, rfl, ?_⟩))
          go_ret
          exact ⟨by first | rfl | (simp; done) | (simp [*]; done), by repeat (first | exact Drawn0.refl _ | apply Drawn0.step)⟩
def strings_Compare.f (a0 a1 : ByteArray) : Option Int := some (Lib.compareBytes a0.data.toList a1.data.toList)
theorem strings_Compare.calls (a0 a1 : ByteArray) (r : Int) (w : World) (h : strings_Compare.f a0 a1 = some r) :
    Calls Tryd.prog 42 #[.string a0, .string a1] w fun e w' => e = .returned (.int .i64 r) ∧ Drawn0 w w' := by
  obtain rfl := Option.some.inj h
  exact (Tryd.strings_Compare a0 a1 w).mono fun e w' ⟨he, hw⟩ => ⟨he, by rw [hw]; exact Drawn0.refl w⟩
def term_Compare.f (k : Nat) (a0_0 : Int) (a0_1 : ByteArray) (a0_2 : ByteArray) (a1_0 : Int) (a1_1 : ByteArray) (a1_2 : ByteArray) : Option (Int) := (api_Kind_41.f a0_0 a1_0).bind fun t334 => ((strings_Compare.f a0_1 a1_1).bind fun t335 => ((strings_Compare.f a0_2 a1_2).bind fun t336 => ((cmp_Or_int.f k (([t334, t335, t336] : List Int))).bind fun t340 => (some t340))))
theorem term_Compare.mono : ∀ a0 a1 a2 a3 a4 a5 k, LeO (term_Compare.f k a0 a1 a2 a3 a4 a5) (term_Compare.f (k + 1) a0 a1 a2 a3 a4 a5) := by
  intro a0 a1 a2 a3 a4 a5 k
  unfold term_Compare.f
  repeat' first
      | (with_reducible exact cmp_Or_int.mono _ _)
      | (with_reducible exact LeO.refl _)
      | (with_reducible exact LeO.none _)
      | (with_reducible refine LeO.ite ?_ ?_)
      | (with_reducible refine LeO.bind ?_ (fun _ => ?_))
      | exact cmp_Or_int.mono _ _
      | exact LeO.none _
      | refine LeO.ite ?_ ?_
      | refine LeO.bind ?_ (fun _ => ?_)
def term_Compare.T1 : Bool × List (List Nat × List Nat) := (true, [([], []), ([0], [0]), ([], []), ([2], [2]), ([1, 3], [1, 3]), ([], []), ([5], [5]), ([], []), ([7], [7]), ([6, 8, 4], [6, 8]), ([], []), ([10], [10]), ([], []), ([12], [12]), ([11, 13, 9], [11, 13]), ([4, 9, 14], [4, 9, 14]), ([15, 14], [15]), ([16, 16, 0, 1, 2, 3, 4, 5, 6, 7, 8, 9, 10, 11, 12, 13, 14, 15, 16], [16])])
def term_Compare.B1 : List Nat := [0, 1, 0, 4, 15, 0, 32, 0, 128, 511, 0, 1024, 0, 4096, 16383, 32767, 65535, 131071]
theorem term_Compare.tab1 : rtab .any (opsOf Tryd.f25 1) = term_Compare.T1 := by kernel_rfl
theorem term_Compare.bits1 : waitsOk term_Compare.T1.2 term_Compare.B1 = true := by kernel_rfl
set_option maxHeartbeats 8000000 in
set_option maxRecDepth 100000 in
theorem term_Compare.calls (k : Nat) (a0_0 : Int) (a0_1 : ByteArray) (a0_2 : ByteArray) (a1_0 : Int) (a1_1 : ByteArray) (a1_2 : ByteArray) (r : Int) (w : World) (h : term_Compare.f k a0_0 a0_1 a0_2 a1_0 a1_1 a1_2 = some r) :
    Calls Tryd.prog 25 #[.agg #[.int .i64 a0_0, .string a0_1, .string a0_2], .agg #[.int .i64 a1_0, .string a1_1, .string a1_2]] w fun e w' => e = .returned (.int .i64 r) ∧ Below w.heap.size w w' := by
  have hu26 := Tryd.underlying26
  have HB := Aside0.mk (Below.refl w.heap.size w)
  have H : ((api_Kind_41.f a0_0 a1_0).bind fun t334 => ((strings_Compare.f a0_1 a1_1).bind fun t335 => ((strings_Compare.f a0_2 a1_2).bind fun t336 => ((cmp_Or_int.f k (([t334, t335, t336] : List Int))).bind fun t340 => (some t340))))) = some r := h
  clear h
  replace H := Option.bind_eq_some_iff.mp H
  obtain ⟨t334, A30, H⟩ := H
  replace H : ((strings_Compare.f a0_1 a1_1).bind fun t335 => ((strings_Compare.f a0_2 a1_2).bind fun t336 => ((cmp_Or_int.f k (([t334, t335, t336] : List Int))).bind fun t340 => (some t340)))) = some r := H
  have A3 := Aside0.mk A30
  clear A30
  replace H := Option.bind_eq_some_iff.mp H
  obtain ⟨t335, A40, H⟩ := H
  replace H : ((strings_Compare.f a0_2 a1_2).bind fun t336 => ((cmp_Or_int.f k (([t334, t335, t336] : List Int))).bind fun t340 => (some t340))) = some r := H
  have A4 := Aside0.mk A40
  clear A40
  replace H := Option.bind_eq_some_iff.mp H
  obtain ⟨t336, A50, H⟩ := H
  replace H : ((cmp_Or_int.f k (([t334, t335, t336] : List Int))).bind fun t340 => (some t340)) = some r := H
  have A5 := Aside0.mk A50
  clear A50
  obtain ⟨y337, hy337⟩ : ∃ y_ : List Int, y_ = (([t334, t335, t336] : List Int)) := ⟨_, rfl⟩
  replace H : ((cmp_Or_int.f k y337).bind fun t340 => (some t340)) = some r := by first | (rw [hy337]; with_reducible exact H) | (have H2_ := (Option.bind_some _ _).symm.trans H; rw [hy337]; with_reducible exact H2_) | (have H2_ := (Option.bind_some _ _).symm.trans H; with_reducible exact H2_) | with_reducible exact H | (rw [hy337]; exact H) | exact H
  have Ny337 := Aside0.mk hy337
  clear hy337
  replace H := Option.bind_eq_some_iff.mp H
  obtain ⟨t340, A60, H⟩ := H
  replace H : (some t340) = some r := H
  have A6 := Aside0.mk A60
  clear A60
  obtain rfl := Option.some.inj H
  go_enter Tryd.func25, Tryd.ntmps25
  try go_wp2_with (first | ((with_reducible refine gate_dst (N := 2) rfl ?_); refine box_event ?hg (N := 2) ?hd (cs := #[.int .i64 a0_0, .string a0_1, .string a0_2]) (t := 26) ?hr ?_; (case hd => rfl); (case hg => rfl); (case hr => first | (go_simp; done) | (go_simp; rfl)); intro gb332 hg w7 hbox hb; have n0_ := Aside0.mk (below_step (by repeat (first | (with_reducible first | exact HB.out | apply below_alloc | apply pw_below_drewN | apply below_drew1) | exact HB.out)) hb); have n1_ := Aside0.mk (hbox); have n2_ := Aside0.mk ((by rw [hg]; exact (below_size (by repeat (first | (with_reducible first | exact HB.out | apply below_alloc | apply pw_below_drewN | apply below_drew1) | exact HB.out))) : w.heap.size ≤ gb332)); have n3_ := Aside0.mk ((by rw [hg]; exact (below_size (by repeat (first | (with_reducible first | exact HB.out | apply below_alloc | apply pw_below_drewN | apply below_drew1) | exact HB.out))) : w.heap.size ≤ gb332)); clear HB; have HB := n0_; have BK332 := n1_; have GW332 := n2_; have GE332 := n3_; clear n0_ n1_ n2_ n3_; clear hb hbox hg) | ((with_reducible refine gate_dst (N := 3) rfl ?_); refine box_event ?hg (N := 3) ?hd (cs := #[.int .i64 a1_0, .string a1_1, .string a1_2]) (t := 26) ?hr ?_; (case hd => rfl); (case hg => rfl); (case hr => first | (go_simp; done) | (go_simp; rfl)); intro gb333 hg w8 hbox hb; have n0_ := Aside0.mk (blk_below (g := gb332) (o := .cells #[.int .i64 a0_0, .string a0_1, .string a0_2] 26 (0, 0)) (by (with_reducible repeat (first | refine blk_drewN ?_ _ | refine blk_drew ?_ | refine blk_alloc ?_ _)); exact BK332.out) hb); have n1_ := Aside0.mk (below_step (by repeat (first | (with_reducible first | exact HB.out | apply below_alloc | apply pw_below_drewN | apply below_drew1 | refine below_set ?_ GE332.out) | exact HB.out)) hb); have n2_ := Aside0.mk (hbox); have n3_ := Aside0.mk ((by rw [hg]; exact (below_size (by repeat (first | (with_reducible first | exact HB.out | apply below_alloc | apply pw_below_drewN | apply below_drew1 | refine below_set ?_ GE332.out) | exact HB.out))) : w.heap.size ≤ gb333)); have n4_ := Aside0.mk ((by rw [hg]; exact (below_size (by repeat (first | (with_reducible first | exact HB.out | apply below_alloc | apply pw_below_drewN | apply below_drew1 | refine below_set ?_ GE332.out) | exact HB.out))) : w.heap.size ≤ gb333)); have n5_ := Aside0.mk ((by rw [hg]; exact Nat.ne_of_lt (blk_lt (g := gb332) (o := .cells #[.int .i64 a0_0, .string a0_1, .string a0_2] 26 (0, 0)) (by (with_reducible repeat (first | refine blk_drewN ?_ _ | refine blk_drew ?_ | refine blk_alloc ?_ _)); exact BK332.out)) : gb332 ≠ gb333)); have n6_ := Aside0.mk ((by rw [hg]; exact Nat.ne_of_gt (blk_lt (g := gb332) (o := .cells #[.int .i64 a0_0, .string a0_1, .string a0_2] 26 (0, 0)) (by (with_reducible repeat (first | refine blk_drewN ?_ _ | refine blk_drew ?_ | refine blk_alloc ?_ _)); exact BK332.out)) : gb333 ≠ gb332)); clear BK332; clear HB; have BK332 := n0_; have HB := n1_; have BK333 := n2_; have GW333 := n3_; have GE333 := n4_; have NB332_333 := n5_; have NB333_332 := n6_; clear n0_ n1_ n2_ n3_ n4_ n5_ n6_; clear hb hbox hg))
  have n0_ := Aside0.mk (blk_drew BK332.out)
  have n1_ := Aside0.mk (blk_drew BK333.out)
  have n2_ := Aside0.mk (below_drew1 HB.out)
  clear BK332
  clear BK333
  clear HB
  have BK332 := n0_
  have BK333 := n1_
  have HB := n2_
  clear n0_ n1_ n2_
  refine start_ (n := 18) (S := fun w' => w'.cell? ⟨gb332, 0, none⟩ = some (.int .i64 a0_0) ∧ w'.cell? ⟨gb332, 1, none⟩ = some (.string a0_1) ∧ w'.cell? ⟨gb332, 2, none⟩ = some (.string a0_2) ∧ w'.cell? ⟨gb333, 0, none⟩ = some (.int .i64 a1_0) ∧ w'.cell? ⟨gb333, 1, none⟩ = some (.string a1_1) ∧ w'.cell? ⟨gb333, 2, none⟩ = some (.string a1_2)) (ds := []) #[false, false, false, false, false, false, false, false, false, false, false, false, false, false, false, false, false, false] (by kernel_rfl) rfl rfl ⟨(blk_cell BK332.out 0).trans rfl, (blk_cell BK332.out 1).trans rfl, (blk_cell BK332.out 2).trans rfl, (blk_cell BK333.out 0).trans rfl, (blk_cell BK333.out 1).trans rfl, (blk_cell BK333.out 2).trans rfl⟩ (fun hHeld => ?_); refine with_tabW term_Compare.tab1 term_Compare.bits1 (fun HT_ HW_ => ?_)
  generalize w8.drew = w9 at BK332 BK333 HB hHeld ⊢
  refine pure_ (i := 0) (N := some 5) (v := ?_) (a' := ?_) #[true, false, false, false, false, false, false, false, false, false, false, false, false, false, false, false, false, false] rfl rfl (any_of HT_.out (by kernel_rfl)) (fun _ _ _ h => h) (Or.inl ⟨by rfl, ?_⟩) ?_ ?_
  rotate_left
  · intro w'
    go_simp
    with_reducible rfl
  rotate_left
  · simp only [Act.put, List.setIfInBounds_toArray, List.set_cons_zero, List.set_cons_succ, i64_w, i32_w]
    rfl
  refine pure_ (i := 2) (N := some 7) (v := ?_) (a' := ?_) #[true, false, true, false, false, false, false, false, false, false, false, false, false, false, false, false, false, false] rfl rfl (any_of HT_.out (by kernel_rfl)) (fun _ _ _ h => h) (Or.inl ⟨by rfl, ?_⟩) ?_ ?_
  rotate_left
  · intro w'
    go_simp
    with_reducible rfl
  rotate_left
  · simp only [Act.put, List.setIfInBounds_toArray, List.set_cons_zero, List.set_cons_succ, i64_w, i32_w]
    rfl
  refine pure_ (i := 5) (N := some 10) (v := ?_) (a' := ?_) #[true, false, true, false, false, true, false, false, false, false, false, false, false, false, false, false, false, false] rfl rfl (any_of HT_.out (by kernel_rfl)) (fun _ _ _ h => h) (Or.inl ⟨by rfl, ?_⟩) ?_ ?_
  rotate_left
  · intro w'
    go_simp
    with_reducible rfl
  rotate_left
  · simp only [Act.put, List.setIfInBounds_toArray, List.set_cons_zero, List.set_cons_succ, i64_w, i32_w]
    rfl
  refine pure_ (i := 7) (N := some 12) (v := ?_) (a' := ?_) #[true, false, true, false, false, true, false, true, false, false, false, false, false, false, false, false, false, false] rfl rfl (any_of HT_.out (by kernel_rfl)) (fun _ _ _ h => h) (Or.inl ⟨by rfl, ?_⟩) ?_ ?_
  rotate_left
  · intro w'
    go_simp
    with_reducible rfl
  rotate_left
  · simp only [Act.put, List.setIfInBounds_toArray, List.set_cons_zero, List.set_cons_succ, i64_w, i32_w]
    rfl
  refine pure_ (i := 10) (N := some 15) (v := ?_) (a' := ?_) #[true, false, true, false, false, true, false, true, false, false, true, false, false, false, false, false, false, false] rfl rfl (any_of HT_.out (by kernel_rfl)) (fun _ _ _ h => h) (Or.inl ⟨by rfl, ?_⟩) ?_ ?_
  rotate_left
  · intro w'
    go_simp
    with_reducible rfl
  rotate_left
  · simp only [Act.put, List.setIfInBounds_toArray, List.set_cons_zero, List.set_cons_succ, i64_w, i32_w]
    rfl
  refine pure_ (i := 12) (N := some 17) (v := ?_) (a' := ?_) #[true, false, true, false, false, true, false, true, false, false, true, false, true, false, false, false, false, false] rfl rfl (any_of HT_.out (by kernel_rfl)) (fun _ _ _ h => h) (Or.inl ⟨by rfl, ?_⟩) ?_ ?_
  rotate_left
  · intro w'
    go_simp
    with_reducible rfl
  rotate_left
  · simp only [Act.put, List.setIfInBounds_toArray, List.set_cons_zero, List.set_cons_succ, i64_w, i32_w]
    rfl
  refine take_ (i := 1) (N := some 6) (v := ?_) (a' := ?_) #[true, true, true, false, false, true, false, true, false, false, true, false, true, false, false, false, false, false] rfl rfl (take_ofW HT_.out HW_.out (by kernel_rfl)) (fun _ _ _ h => h) (Or.inl ⟨by rfl, ?_⟩) hHeld ?_ ?_
  rotate_left
  · rintro w' ⟨s0, s1, s2, s3, s4, s5⟩
    go_simp
    with_reducible rfl
  rotate_left
  · simp only [Act.put, List.setIfInBounds_toArray, List.set_cons_zero, List.set_cons_succ, i64_w, i32_w]
    rfl
  refine take_ (i := 3) (N := some 8) (v := ?_) (a' := ?_) #[true, true, true, true, false, true, false, true, false, false, true, false, true, false, false, false, false, false] rfl rfl (take_ofW HT_.out HW_.out (by kernel_rfl)) (fun _ _ _ h => h) (Or.inl ⟨by rfl, ?_⟩) hHeld ?_ ?_
  rotate_left
  · rintro w' ⟨s0, s1, s2, s3, s4, s5⟩
    go_simp
    with_reducible rfl
  rotate_left
  · simp only [Act.put, List.setIfInBounds_toArray, List.set_cons_zero, List.set_cons_succ, i64_w, i32_w]
    rfl
  refine take_ (i := 6) (N := some 11) (v := ?_) (a' := ?_) #[true, true, true, true, false, true, true, true, false, false, true, false, true, false, false, false, false, false] rfl rfl (take_ofW HT_.out HW_.out (by kernel_rfl)) (fun _ _ _ h => h) (Or.inl ⟨by rfl, ?_⟩) hHeld ?_ ?_
  rotate_left
  · rintro w' ⟨s0, s1, s2, s3, s4, s5⟩
    go_simp
    with_reducible rfl
  rotate_left
  · simp only [Act.put, List.setIfInBounds_toArray, List.set_cons_zero, List.set_cons_succ, i64_w, i32_w]
    rfl
  refine take_ (i := 8) (N := some 13) (v := ?_) (a' := ?_) #[true, true, true, true, false, true, true, true, true, false, true, false, true, false, false, false, false, false] rfl rfl (take_ofW HT_.out HW_.out (by kernel_rfl)) (fun _ _ _ h => h) (Or.inl ⟨by rfl, ?_⟩) hHeld ?_ ?_
  rotate_left
  · rintro w' ⟨s0, s1, s2, s3, s4, s5⟩
    go_simp
    with_reducible rfl
  rotate_left
  · simp only [Act.put, List.setIfInBounds_toArray, List.set_cons_zero, List.set_cons_succ, i64_w, i32_w]
    rfl
  refine take_ (i := 11) (N := some 16) (v := ?_) (a' := ?_) #[true, true, true, true, false, true, true, true, true, false, true, true, true, false, false, false, false, false] rfl rfl (take_ofW HT_.out HW_.out (by kernel_rfl)) (fun _ _ _ h => h) (Or.inl ⟨by rfl, ?_⟩) hHeld ?_ ?_
  rotate_left
  · rintro w' ⟨s0, s1, s2, s3, s4, s5⟩
    go_simp
    with_reducible rfl
  rotate_left
  · simp only [Act.put, List.setIfInBounds_toArray, List.set_cons_zero, List.set_cons_succ, i64_w, i32_w]
    rfl
  refine take_ (i := 13) (N := some 18) (v := ?_) (a' := ?_) #[true, true, true, true, false, true, true, true, true, false, true, true, true, true, false, false, false, false] rfl rfl (take_ofW HT_.out HW_.out (by kernel_rfl)) (fun _ _ _ h => h) (Or.inl ⟨by rfl, ?_⟩) hHeld ?_ ?_
  rotate_left
  · rintro w' ⟨s0, s1, s2, s3, s4, s5⟩
    go_simp
    with_reducible rfl
  rotate_left
  · simp only [Act.put, List.setIfInBounds_toArray, List.set_cons_zero, List.set_cons_succ, i64_w, i32_w]
    rfl
  refine one_ (i := 4) (N := some 9) #[true, true, true, true, true, true, true, true, true, false, true, true, true, true, false, false, false, false] rfl rfl (one_of HT_.out (by kernel_rfl)) (by decide) (fun K hK => ?_)
  refine goes_ Tryd.func41 (by kernel_rfl) rfl #[.int .i64 a0_0, .int .i64 a1_0] (by rfl) rfl rfl (by (try simp only [List.map_toArray, List.map_cons, List.map_nil]); first | done | rfl | (simp only [List.length_drop, List.length_take]; rfl)) ?_
  with_reducible refine (api_Kind_41.calls a0_0 a1_0 t334 _ A3.out).mono ?_
  rintro e w' ⟨rfl, ⟨nd, rfl⟩⟩
  refine ⟨_, rfl, ?_⟩
  refine hK.out _ _ ⟨(blk_cell BK332.out 0).trans rfl, (blk_cell BK332.out 1).trans rfl, (blk_cell BK332.out 2).trans rfl, (blk_cell BK333.out 0).trans rfl, (blk_cell BK333.out 1).trans rfl, (blk_cell BK333.out 2).trans rfl⟩ (fun hHeld => ?_)
  clear hK K
  refine norm_ (a' := ?_) ?_ ?_
  rotate_left
  · show Act.put _ (some 9) _ = _
    simp only [Act.put, List.setIfInBounds_toArray, List.set_cons_zero, List.set_cons_succ, i64_w, i32_w]
    rfl
  refine one_ (i := 9) (N := some 14) #[true, true, true, true, true, true, true, true, true, true, true, true, true, true, false, false, false, false] rfl rfl (one_of HT_.out (by kernel_rfl)) (by decide) (fun K hK => ?_)
  refine goes_ Tryd.func42 (by kernel_rfl) rfl #[.string a0_1, .string a1_1] (by rfl) rfl rfl (by (try simp only [List.map_toArray, List.map_cons, List.map_nil]); first | done | rfl | (simp only [List.length_drop, List.length_take]; rfl)) ?_
  with_reducible refine (strings_Compare.calls a0_1 a1_1 t335 _ A4.out).mono ?_
  rintro e w' ⟨rfl, ⟨nd, rfl⟩⟩
  refine ⟨_, rfl, ?_⟩
  refine hK.out _ _ ⟨(blk_cell BK332.out 0).trans rfl, (blk_cell BK332.out 1).trans rfl, (blk_cell BK332.out 2).trans rfl, (blk_cell BK333.out 0).trans rfl, (blk_cell BK333.out 1).trans rfl, (blk_cell BK333.out 2).trans rfl⟩ (fun hHeld => ?_)
  clear hK K
  refine norm_ (a' := ?_) ?_ ?_
  rotate_left
  · show Act.put _ (some 14) _ = _
    simp only [Act.put, List.setIfInBounds_toArray, List.set_cons_zero, List.set_cons_succ, i64_w, i32_w]
    rfl
  refine one_ (i := 14) (N := some 19) #[true, true, true, true, true, true, true, true, true, true, true, true, true, true, true, false, false, false] rfl rfl (one_of HT_.out (by kernel_rfl)) (by decide) (fun K hK => ?_)
  refine goes_ Tryd.func42 (by kernel_rfl) rfl #[.string a0_2, .string a1_2] (by rfl) rfl rfl (by (try simp only [List.map_toArray, List.map_cons, List.map_nil]); first | done | rfl | (simp only [List.length_drop, List.length_take]; rfl)) ?_
  with_reducible refine (strings_Compare.calls a0_2 a1_2 t336 _ A5.out).mono ?_
  rintro e w' ⟨rfl, ⟨nd, rfl⟩⟩
  refine ⟨_, rfl, ?_⟩
  refine hK.out _ _ ⟨(blk_cell BK332.out 0).trans rfl, (blk_cell BK332.out 1).trans rfl, (blk_cell BK332.out 2).trans rfl, (blk_cell BK333.out 0).trans rfl, (blk_cell BK333.out 1).trans rfl, (blk_cell BK333.out 2).trans rfl⟩ (fun hHeld => ?_)
  clear hK K
  refine norm_ (a' := ?_) ?_ ?_
  rotate_left
  · show Act.put _ (some 19) _ = _
    simp only [Act.put, List.setIfInBounds_toArray, List.set_cons_zero, List.set_cons_succ, i64_w, i32_w]
    rfl
  refine one_ (i := 15) (N := some 20) #[true, true, true, true, true, true, true, true, true, true, true, true, true, true, true, true, false, false] rfl rfl (one_of HT_.out (by kernel_rfl)) (by decide) (fun K hK => ?_)
  refine Kd.R_lit_step (Kd.int .i64) _ 3 ?hg (N := 20) ?hd (xs := ([t334, t335, t336] : List Int)) (inner := [.int .i64 t334, .int .i64 t335, .int .i64 t336]) (ok := fun _ => True) (okp := fun _ => True) ?hr ?hp (fun _ hk => hk) trivial (Below.refl _ _) (Nat.le_refl _) (by simp) ?_; (case hd => rfl); (case hg => rfl); (case hr => first | (go_simp; done) | (go_simp; rfl)); (case hp => exact (Reps.one (show Kd.M (Kd.int .i64) _ _ _ t334 [.int .i64 t334] from rfl) (Reps.one (show Kd.M (Kd.int .i64) _ _ _ t335 [.int .i64 t335] from rfl) (Reps.one (show Kd.M (Kd.int .i64) _ _ _ t336 [.int .i64 t336] from rfl) (Reps.none _ _)))))
  intro v338 w10 ho11 hb hg_ hnew_
  clear hg_ hnew_
  (first | rw [← Ny337.out] at ho11 | (simp only [Int.reduceToNat] at ho11; rw [← Ny337.out] at ho11))
  have n0_ := Aside0.mk (Kd.R_lower ho11 (below_size (by repeat (first | (with_reducible first | exact HB.out | apply below_alloc | apply pw_below_drewN | apply below_drew1 | refine below_set ?_ GE332.out | refine below_set ?_ GE333.out) | exact HB.out))))
  have n1_ := Aside0.mk (blk_below (g := gb332) (o := .cells #[.int .i64 a0_0, .string a0_1, .string a0_2] 26 (0, 0)) (by (with_reducible repeat (first | refine blk_drewN ?_ _ | refine blk_drew ?_ | refine blk_alloc ?_ _)); exact BK332.out) hb)
  have n2_ := Aside0.mk (blk_below (g := gb333) (o := .cells #[.int .i64 a1_0, .string a1_1, .string a1_2] 26 (0, 0)) (by (with_reducible repeat (first | refine blk_drewN ?_ _ | refine blk_drew ?_ | refine blk_alloc ?_ _)); exact BK333.out) hb)
  have n3_ := Aside0.mk (below_step (by repeat (first | (with_reducible first | exact HB.out | apply below_alloc | apply pw_below_drewN | apply below_drew1 | refine below_set ?_ GE332.out | refine below_set ?_ GE333.out) | exact HB.out)) hb)
  clear BK332
  clear BK333
  clear HB
  have HO339 := n0_
  have BK332 := n1_
  have BK333 := n2_
  have HB := n3_
  clear n0_ n1_ n2_ n3_
  clear hb ho11
  obtain ⟨Ao12, co12, eo12⟩ := Kd.R_slice HO339.out
  (first | subst eo12 | (injection eo12 with f1_ f2_ f3_; have f4_ := f1_.symm; have f5_ := f3_.symm; clear f1_ f2_ f3_; subst f4_; subst f5_))
  refine hK.out _ _ ⟨(blk_cell BK332.out 0).trans rfl, (blk_cell BK332.out 1).trans rfl, (blk_cell BK332.out 2).trans rfl, (blk_cell BK333.out 0).trans rfl, (blk_cell BK333.out 1).trans rfl, (blk_cell BK333.out 2).trans rfl⟩ (fun hHeld => ?_)
  clear hK K
  refine norm_ (a' := ?_) ?_ ?_
  rotate_left
  · show Act.put _ (some 20) _ = _
    simp only [Act.put, List.setIfInBounds_toArray, List.set_cons_zero, List.set_cons_succ, i64_w, i32_w]
    rfl
  refine one_ (i := 16) (N := some 21) #[true, true, true, true, true, true, true, true, true, true, true, true, true, true, true, true, true, false] rfl rfl (one_of HT_.out (by kernel_rfl)) (by decide) (fun K hK => ?_)
  refine goes_ Tryd.func40 (by kernel_rfl) rfl #[.slice Ao12 y337.length co12] (by rfl) rfl rfl (by (try simp only [List.map_toArray, List.map_cons, List.map_nil]); first | done | rfl | (simp only [List.length_drop, List.length_take]; rfl)) ?_
  with_reducible refine (cmp_Or_int.calls k _ _ y337 t340 _ ?side1 ?side2 A6.out).mono ?_
  (case side1 => repeat (first | exact (Kd.R_reads' HO339.out).2.2 | (with_reducible refine Kd.C_alloc ?_ _) | (with_reducible refine Kd.C_drewN ?_ _) | (with_reducible refine Kd.C_drew ?_)))
  (case side2 => exact (Kd.R_reads' HO339.out).2.1)
  rintro e w' ⟨rfl, ⟨nd, rfl⟩⟩
  refine ⟨_, rfl, ?_⟩
  refine hK.out _ _ ⟨(blk_cell BK332.out 0).trans rfl, (blk_cell BK332.out 1).trans rfl, (blk_cell BK332.out 2).trans rfl, (blk_cell BK333.out 0).trans rfl, (blk_cell BK333.out 1).trans rfl, (blk_cell BK333.out 2).trans rfl⟩ (fun hHeld => ?_)
  clear hK K
  refine norm_ (a' := ?_) ?_ ?_
  rotate_left
  · show Act.put _ (some 21) _ = _
    simp only [Act.put, List.setIfInBounds_toArray, List.set_cons_zero, List.set_cons_succ, i64_w, i32_w]
    rfl
  refine pure_ (i := 17) (N := some 4) (v := ?_) (a' := ?_) #[true, true, true, true, true, true, true, true, true, true, true, true, true, true, true, true, true, true] rfl rfl (any_of HT_.out (by kernel_rfl)) (fun _ _ _ h => h) (Or.inl ⟨by rfl, ?_⟩) ?_ ?_
  rotate_left
  · intro w'
    go_simp
    with_reducible rfl
  rotate_left
  · simp only [Act.put, List.setIfInBounds_toArray, List.set_cons_zero, List.set_cons_succ, i64_w, i32_w]
    rfl
  refine done_ (done_of HT_.out (by kernel_rfl)) ?_
  try go_wp2
  go_ret
  exact ⟨by first | rfl | (simp [errW_none, errW_some] <;> rfl) | (simp [*, errW_none, errW_some] <;> rfl), by repeat (first | (with_reducible first | exact HB.out | apply below_alloc | apply pw_below_drewN | apply below_drew1 | refine below_set ?_ GE332.out | refine below_set ?_ GE333.out) | exact HB.out)⟩
end Go.Proofs.YtegmcmndjnbkaaaDoor.PTerm

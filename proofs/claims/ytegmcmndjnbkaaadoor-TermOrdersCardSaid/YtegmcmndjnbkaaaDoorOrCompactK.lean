import Derived.Shelf.SlLaysE0
import Derived.Shelf.SlicesQ.Reverse
import Derived.Shelf.RegionOpenPlain
import Derived.WalkKit
import Derived.Deep.LoopGhost
import Derived.Deep.Draws
import Derived.Lib.Walk
import Derived.Sort.WalkB12
import Derived.Lib.SliceRun
import Derived.Lib.SlicesCompact
set_option linter.unusedVariables false
set_option linter.unusedSimpArgs false
namespace Go.Proofs.CompactK
open Go.Shelf Go.RowKit Go.Lib Go.Sort
section
variable {α : Type} [Inhabited α] (enc : α → List Value) (k : Nat)
theorem setMany_at (hk : ∀ x, (enc x).length = k) (d : Array α) (i : Nat) (hi : i < d.size) (x : α) : setMany (flatK enc k d) (i * k) (enc x) = flatK enc k (d.setIfInBounds i x) := by
  apply Array.ext
  · simp
  · intro t h1 h2
    have ht : t < d.size * k := by simpa using h1
    rw [← getElem!_pos _ t h1, ← getElem!_pos _ t h2, get_setMany _ _ _ t (by simpa using ht), get_flatK _ _ _ t ht, get_flatK _ _ _ t (by simpa using ht), hk]
    have k0 : 0 < k := by
      rcases Nat.eq_zero_or_pos k with h | h
      · subst h; simp at ht
      · exact h
    by_cases b : t / k = i
    · rw [if_pos ((blk_iff k i t k0).2 b), b, getElem!_set_same d i x hi]
      congr 1
      subst b
      rw [Nat.mod_eq_sub_div_mul]
    · rw [if_neg (fun h => b ((blk_iff k i t k0).1 h)), getElem!_set_other d i _ x b]
theorem put_at (hk : ∀ x, (enc x).length = k) (w : World) (blk off : Nat) (d : Array α) (i : Nat) (hi : i < d.size) (x : α) : (putRowK enc k w blk off d).setCells blk (off + i * k) (enc x) = putRowK enc k w blk off (d.setIfInBounds i x) := by
  have b : i * k + k ≤ d.size * k := by
    have := Nat.mul_le_mul_right k (show i + 1 ≤ d.size from hi); rwa [Nat.add_mul, Nat.one_mul] at this
  unfold putRowK
  rw [setCells_putRow _ _ _ _ _ _ (by rw [hk, size_flatK]; exact b), setMany_at enc k hk d i hi x]
theorem setCells_append (w : World) (blk : Nat) : ∀ (xs ys : List Value) (o : Nat), w.setCells blk o (xs ++ ys) = (w.setCells blk o xs).setCells blk (o + xs.length) ys := by
  intro xs
  induction xs generalizing w with
  | nil => intro ys o; simp [World.setCells]
  | cons a xs ih =>
    intro ys o
    simp only [List.cons_append, World.setCells, List.length_cons]
    rw [ih]
    congr 1
    omega
theorem put_lay (hk : ∀ x, (enc x).length = k) (w : World) (blk off : Nat) : ∀ (xs : List α) (d : Array α) (s : Nat), s + xs.length ≤ d.size → (putRowK enc k w blk off d).setCells blk (off + s * k) (xs.flatMap enc) = putRowK enc k w blk off (lay d s xs)
  | [], _, _, _ => rfl
  | x :: r, d, s, h => by
    have hl : s + (r.length + 1) ≤ d.size := by simpa using h
    rw [List.flatMap_cons, setCells_append, put_at enc k hk w blk off d s (by omega) x, lay, hk]
    rw [show off + s * k + k = off + (s + 1) * k by rw [Nat.add_mul, Nat.one_mul]; omega]
    exact put_lay hk w blk off r _ (s + 1) (by simp; omega)
theorem zero_flat (z : Array Value) : ∀ n, (Builtin.zeroCells z n).toList = (List.replicate n z.toList).flatten := by
  intro n
  simp only [Builtin.zeroCells, Array.toList_map, Array.toList_range]
  induction n with
  | zero => simp
  | succ n ih =>
    rw [List.replicate_succ, List.flatten_cons, Nat.add_mul, Nat.one_mul, Nat.add_comm, List.range_add, List.map_append]
    congr 1
    · apply List.ext_getElem
      · simp
      · intro i h1 h2
        have hi : i < z.size := by simpa using h1
        simp [Nat.mod_eq_of_lt hi, hi]
    · rw [← ih, List.map_map]
      apply List.map_congr_left
      intro i _
      simp
theorem run_clear_k {P : Program} (w : World) (t e ty : TypeId) (z : List Value) (ht : P.underlying t = some (.slice e)) (hv : ∀ w, (zeroValue e).run P w = .ok (.agg z.toArray) w) (h1 : ∀ v ∈ z, v.oneCell' = true) (b o n c : Nat) (hn : 0 < n)
    (hc : ∀ j, j < n * z.length → (w.cell? ⟨b, o + j, none⟩).isSome = true) (hf : ∀ j, j < n * z.length → w.frozen? ⟨b, o + j, none⟩ = false) :
    (Builtin.clear_ #[t] ty #[.slice (some ⟨b, o, none⟩) n c]).run P w = .ok (.tuple #[]) (w.setCells b o (List.replicate n z).flatten) := by
  have hzc : (Builtin.zeroCells (Value.agg z.toArray).cells n).toList = (List.replicate n z).flatten := by
    rw [zero_flat]
    rfl
  have hlen : (List.replicate n z).flatten.length = n * z.length := by simp
  have hst := run_storeCells_cells (P := P) b o (List.replicate n z).flatten 0 w (by rw [hlen]; simpa using hc) (by rw [hlen]; simpa using hf) (by intro v hv'; obtain ⟨l, hl, hvl⟩ := List.mem_flatten.1 hv'; rw [List.eq_of_mem_replicate hl] at hvl; exact h1 v hvl)
  simp only [Nat.add_zero] at hst
  obtain ⟨m, rfl⟩ : ∃ m, n = m + 1 := ⟨n - 1, by omega⟩
  simp only [Builtin.clear_]
  simp [run_underlying ht, hv, hzc, hst]
end
section
variable {P : Program} {ρ : Ren} {α : Type} [Inhabited α] [DecidableEq α]
set_option maxHeartbeats 4000000 in
set_option maxRecDepth 1000000 in
theorem compact_k (hB : Bears P (ρ.f 43) (SlBodyN.n43 ρ)) (mixed : P.follows .mixedOrders = true)
    (t3 : P.underlying (ρ.t 3) = some (TypeDesc.int IntKind.i64)) (a3 : ∀ w, (isAgg (ρ.t 3)).run P w = .ok false w) (z3 : ∀ w, (Go.sizeOf (ρ.t 3)).run P w = .ok 1 w) (v3 : ∀ w, (zeroValue (ρ.t 3)).run P w = .ok (Value.int IntKind.i64 0) w)
    (t4 : P.underlying (ρ.t 4) = some (TypeDesc.bool)) (a4 : ∀ w, (isAgg (ρ.t 4)).run P w = .ok false w) (z4 : ∀ w, (Go.sizeOf (ρ.t 4)).run P w = .ok 1 w) (v4 : ∀ w, (zeroValue (ρ.t 4)).run P w = .ok (Value.bool false) w)
    (t22 : P.underlying (ρ.t 22) = some (TypeDesc.slice (ρ.t 23))) (a22 : ∀ w, (isAgg (ρ.t 22)).run P w = .ok false w) (z22 : ∀ w, (Go.sizeOf (ρ.t 22)).run P w = .ok 1 w) (v22 : ∀ w, (zeroValue (ρ.t 22)).run P w = .ok (Value.slice none 0 0) w)
    (k : Nat) (aE : ∀ w, (isAgg (ρ.t 23)).run P w = .ok true w) (zE : ∀ w, (Go.sizeOf (ρ.t 23)).run P w = .ok k w) (enc : α → List Value) (hk : ∀ x, (enc x).length = k) (h1 : ∀ x, ∀ v ∈ enc x, v.oneCell' = true)
    (heq' : ∀ (x y : α) (w : World), Sem.run P (binOp .eql (ρ.t 23) (.agg (enc x).toArray) (.agg (enc y).toArray)) w = .ok (.bool (decide (x = y))) w)
    (hne' : ∀ (x y : α) (w : World), Sem.run P (binOp .neq (ρ.t 23) (.agg (enc x).toArray) (.agg (enc y).toArray)) w = .ok (.bool (!decide (x = y))) w)
    (hgd' : ∀ (op : BinOp) (a b : Operand) (x y : α) (w : World), Sem.run P (eqGuard op (ρ.t 23) a b (.agg (enc x).toArray) (.agg (enc y).toArray)) w = .ok () w)
    (zr : α) (v23 : ∀ w, (zeroValue (ρ.t 23)).run P w = .ok (.agg (enc zr).toArray) w)
    (blk off cap : Nat) (d : Array α) (w : World) (hH : HoldsK enc k w blk off d) (hsz : d.size ≤ 9223372036854775807) (hcap : d.size ≤ cap) :
    Calls P (ρ.f 43) #[.slice (some ⟨blk, off, none⟩) d.size cap] w fun e w' => e = .returned (.slice (some ⟨blk, off, none⟩) (compactUpTo d d.size).length cap) ∧ ∃ q, w' = putRowK enc k (Sort.ahead w q) blk off (compactUpTo d d.size ++ List.replicate (d.size - (compactUpTo d d.size).length) zr).toArray := by
  have same : ∀ q, (∀ j, j < d.size → keeps d j = true) → (compactUpTo d d.size).length = d.size ∧ w.drewN q = putRowK enc k (Sort.ahead w q) blk off (compactUpTo d d.size ++ List.replicate (d.size - (compactUpTo d d.size).length) zr).toArray := by
    intro q hall
    have e : compactUpTo d d.size = d.toList := by rw [compactUpTo_all d _ hall, range_map_get]
    rw [e]
    refine ⟨by simp, ?_⟩
    simp only [Array.length_toList, Nat.sub_self, List.replicate_zero, List.append_nil, Array.toArray_toList]
    exact (putRowK_self enc k (Sort.ahead w q) blk off d (holdsK_ahead enc k w q blk off d hH)).symm
  have HS : Aside (∀ q, (∀ j, j < d.size → keeps d j = true) → (compactUpTo d d.size).length = d.size ∧ w.drewN q = putRowK enc k (Sort.ahead w q) blk off (compactUpTo d d.size ++ List.replicate (d.size - (compactUpTo d d.size).length) zr).toArray) := same
  clear same
  have HK : Hid (∀ x, (enc x).length = k) := hk
  have H1 : Hid (∀ x, ∀ v ∈ enc x, v.oneCell' = true) := h1
  have HH : Hid (HoldsK enc k w blk off d) := hH
  clear hk h1 hH
  obtain ⟨_, _, FG⟩ := hB
  by_cases h2 : d.size < 2
  · go_enter FG, SlBodyN.n43_ntmps ρ
    go_wp2
    go_ret
    obtain ⟨e1, e2⟩ := HS.out 0 (fun j hj => keeps_lt_one d j (by omega))
    exact ⟨by rw [e1]; rfl, 0, e2⟩
  · go_enter FG, SlBodyN.n43_ntmps ρ
    go_wp2
    go_loopg [3] d.size (fun g s3 wr => ∃ cp q : Nat, cp + 1 ≤ d.size ∧ d.size - (cp + 1) ≤ g ∧ s3 = .int .i64 ((cp + 1 : Nat) : Int) ∧ wr = w.drewN q ∧ Hid (∀ j, j < cp + 1 → keeps d j = true))
    case atStart => exact ⟨0, 0, by omega, by omega, by go_num, rfl, keeps_lt_one d⟩
    case round =>
      obtain ⟨cp, q, hk1, hg, rfl, rfl, hall⟩ := hrel
      by_cases hlt : cp + 1 < d.size
      · have hltz : (cp : Int) + 1 < (d.size : Int) := by omega
        have hltz0 : (cp : Int) < (d.size : Int) := by omega
        have hwp : IntKind.i64.wrap (cp : Int) = (cp : Int) := by rw [IntKind.wrap_i64]; omega
        have p0 : (0 : Int) ≤ (cp : Int) + 1 := by omega
        have e0 : ((cp : Int) + 1).toNat = cp + 1 := by omega
        obtain ⟨x, hx⟩ : ∃ x, d[cp + 1]! = x := ⟨_, rfl⟩
        obtain ⟨y, hy⟩ : ∃ y, d[cp]! = y := ⟨_, rfl⟩
        have lc : ∀ n, Sem.run P (loadCellsFrom ⟨blk, off + (cp + 1) * k, none⟩ 0 k #[]) ((w.drewN q).drewN n) = .ok (enc x).toArray ((w.drewN q).drewN n) := fun n => by
          rw [← hx]; exact run_loadCellsFrom_list P _ _ _ k (HK.out _) (HoldsK.cells (holdsK_ahead enc k w (q + n) blk off d HH.out) HK.out (by omega))
        have lp : ∀ n, Sem.run P (loadCellsFrom ⟨blk, off + cp * k, none⟩ 0 k #[]) ((w.drewN q).drewN n) = .ok (enc y).toArray ((w.drewN q).drewN n) := fun n => by
          rw [← hy]; exact run_loadCellsFrom_list P _ _ _ k (HK.out _) (HoldsK.cells (holdsK_ahead enc k w (q + n) blk off d HH.out) HK.out (by omega))
        have B : Hid (d[cp + 1]! = x ∧ d[cp]! = y) := ⟨hx, hy⟩
        clear hx hy
        have lenx : (enc x).length = k := HK.out _
        have leny : (enc y).length = k := HK.out _
        by_cases hdup : x = y
        · subst hdup
          generalize hW : w.drewN q = W at lc lp ⊢
          have HW : Hid (w.drewN q = W) := hW
          clear hW
          go_wp2_with fail
          go_quiet_o (fail)
          go_wp2
          clear lc lp
          have HWQ : Hid (W.drewN nq = putRowK enc k (Sort.ahead w (q + nq)) blk off d) := by
            show _ = _
            rw [← HW.out, World.drewN_drewN]
            exact (putRowK_self enc k (Sort.ahead w (q + nq)) blk off d (holdsK_ahead enc k w (q + nq) blk off d HH.out)).symm
          go_loopg [3, 5] d.size (fun g s3 s5 wr => ∃ (kk k2 q2 : Nat) (dk : Array α), s3 = .int .i64 (kk : Int) ∧ s5 = .int .i64 ((k2 + 1 : Nat) : Int) ∧ cp + 1 + (k2 + 1) ≤ d.size ∧ d.size - (cp + 1 + (k2 + 1)) ≤ g ∧ wr = putRowK enc k (Sort.ahead w q2) blk off dk ∧ CompInv d (cp + 1 + (k2 + 1)) kk dk)
          case atStart => exact ⟨cp + 1, 0, q + nq, d, by go_num, by go_num, by omega, by omega, HWQ.out, CompInv.start hall.out (keeps_neg (by omega) (by rw [B.out.1, show cp + 1 - 1 = cp by omega, B.out.2]))⟩
          case round =>
            obtain ⟨kk, k2, q2, dk, rfl, rfl, hle, hg2, hwr, hI⟩ := hrel
            have hkk := hI.lt
            have hds := hI.size
            have hHk : HoldsK enc k wr blk off dk := by rw [hwr]; exact holdsK_putRowK enc k _ blk off d dk (holdsK_ahead enc k w q2 blk off d HH.out) hds
            have W2 : Hid (wr = putRowK enc k (Sort.ahead w q2) blk off dk) := hwr
            have I2 : Hid (CompInv d (cp + 1 + (k2 + 1)) kk dk) := hI
            clear hwr
            by_cases hlt2 : cp + 1 + (k2 + 1) < d.size
            · obtain ⟨u, hu⟩ : ∃ u, dk[cp + 1 + (k2 + 1)]! = u := ⟨_, rfl⟩
              obtain ⟨v, hv⟩ : ∃ v, dk[cp + 1 + k2]! = v := ⟨_, rfl⟩
              have lm : ∀ n, Sem.run P (loadCellsFrom ⟨blk, off + (cp + 1) * k + (k2 + 1) * k, none⟩ 0 k #[]) (wr.drewN n) = .ok (enc u).toArray (wr.drewN n) := fun n => by
                rw [← hu, Nat.add_assoc, ← Nat.add_mul]; exact run_loadCellsFrom_list P _ _ _ k (HK.out _) (HoldsK.cells (W := wr.drewN n) hHk HK.out (by omega))
              have lq : ∀ n, Sem.run P (loadCellsFrom ⟨blk, off + (cp + 1) * k + k2 * k, none⟩ 0 k #[]) (wr.drewN n) = .ok (enc v).toArray (wr.drewN n) := fun n => by
                rw [← hv, Nat.add_assoc, ← Nat.add_mul]; exact run_loadCellsFrom_list P _ _ _ k (HK.out _) (HoldsK.cells (W := wr.drewN n) hHk HK.out (by omega))
              have st : ∀ n, Sem.run P (storeCells ⟨blk, off + kk * k, none⟩ (enc u) 0) (wr.drewN n) = .ok () ((wr.drewN n).setCells blk (off + kk * k) (enc u)) := fun n =>
                stores_of_holds P (W := wr.drewN n) hHk (kk * k) _ (by rw [HK.out, size_flatK]; have := Nat.mul_le_mul_right k (show kk + 1 ≤ dk.size by omega); rwa [Nat.add_mul, Nat.one_mul] at this) (H1.out _)
              rw [hI.high (cp + 1 + (k2 + 1)) (by omega)] at hu
              rw [hI.high (cp + 1 + k2) (by omega)] at hv
              have C : Hid (d[cp + 1 + (k2 + 1)]! = u ∧ d[cp + 1 + k2]! = v) := ⟨hu, hv⟩
              have lenu : (enc u).length = k := HK.out _
              have lenv : (enc v).length = k := HK.out _
              clear hHk hI hu hv
              have jz : (k2 : Int) + 1 < ((d.size - (cp + 1) : Nat) : Int) := by omega
              have jz1 : (k2 : Int) < ((d.size - (cp + 1) : Nat) : Int) := by omega
              have hw2 : IntKind.i64.wrap (k2 : Int) = (k2 : Int) := by rw [IntKind.wrap_i64]; omega
              have p2 : (0 : Int) ≤ (k2 : Int) + 1 := by omega
              have e2 : ((k2 : Int) + 1).toNat = k2 + 1 := by omega
              by_cases huv : u = v
              · subst huv
                go_wp2_with fail
                go_quiet_o (fail)
                go_wp2
                go_roundg (d.size - (cp + 1 + (k2 + 1 + 1)))
                case measure => omega
                case rel => exact ⟨kk, k2 + 1, q2 + nq, dk, rfl, by go_num, by omega, Nat.le_refl _, by rw [W2.out]; exact putRowK_drewN enc k w q2 nq blk off dk, I2.out.skip (keeps_neg (by omega) (by rw [C.out.1, show cp + 1 + (k2 + 1) - 1 = cp + 1 + k2 by omega, C.out.2]))⟩
              · go_wp2_with fail
                go_quiet_o (fail)
                go_wp2
                go_roundg (d.size - (cp + 1 + (k2 + 1 + 1)))
                case measure => omega
                case rel =>
                  refine ⟨kk + 1, k2 + 1, q2 + nq, dk.setIfInBounds kk u, by go_num, by go_num, by omega, Nat.le_refl _, ?_, ?_⟩
                  · rw [W2.out, putRowK_drewN enc k w q2 nq blk off dk]
                    exact put_at enc k HK.out (Sort.ahead w (q2 + nq)) blk off dk kk (by omega) u
                  · have := I2.out.keep hlt2 (keeps_pos (by rw [C.out.1, show cp + 1 + (k2 + 1) - 1 = cp + 1 + k2 by omega, C.out.2]; exact huv))
                    rwa [C.out.1] at this
            · have hend : cp + 1 + (k2 + 1) = d.size := by omega
              have hcl : ∀ ty, (Builtin.clear_ #[ρ.t 22] ty #[.slice (some ⟨blk, off + kk * k, none⟩) (d.size - kk) (cap - kk)]).run P wr = .ok (.tuple #[]) (wr.setCells blk (off + kk * k) (List.replicate (d.size - kk) (enc zr)).flatten) := by
                intro ty
                have hfl : ∀ j, j < (d.size - kk) * (enc zr).length → kk * k + j < (flatK enc k dk).size := fun j hj => by
                  rw [HK.out] at hj
                  rw [size_flatK, hds]
                  have h3 : (d.size - kk) * k + kk * k = d.size * k := by rw [← Nat.add_mul]; congr 1; omega
                  omega
                exact run_clear_k wr _ _ ty _ t22 v23 (H1.out zr) blk (off + kk * k) _ _ (by omega) (fun j hj => by rw [Nat.add_assoc, (hHk (kk * k + j) (hfl j hj)).1]; rfl) (fun j hj => by rw [Nat.add_assoc]; exact (hHk (kk * k + j) (hfl j hj)).2)
              clear hHk hI
              go_wp2
              go_ret
              have hI := I2.out
              rw [hend] at hI
              refine ⟨by rw [hI.len]; rfl, q2, ?_⟩
              rw [hI.len, ← hI.done zr, ← put_lay enc k HK.out _ blk off _ dk kk (by simp; omega), ← W2.out, List.flatMap_replicate]
        · generalize hW : w.drewN q = W at lc lp ⊢
          have HW : Hid (w.drewN q = W) := hW
          clear hW
          go_wp2_with fail
          go_quiet_o (fail)
          go_wp2
          go_roundg (d.size - (cp + 1 + 1))
          case measure => omega
          case rel =>
            refine ⟨cp + 1, q + nq, by omega, Nat.le_refl _, by go_num, by rw [← HW.out, World.drewN_drewN], fun j hj => ?_⟩
            by_cases e : j = cp + 1
            · subst e
              exact keeps_pos (by rw [B.out.1, show cp + 1 - 1 = cp by omega, B.out.2]; exact hdup)
            · exact hall.out j (by omega)
      · have : cp + 1 = d.size := by omega
        go_wp2
        go_ret
        obtain ⟨e1, e2⟩ := HS.out q (by rw [← this]; exact hall.out)
        exact ⟨by rw [e1]; rfl, q, e2⟩
end
end Go.Proofs.CompactK

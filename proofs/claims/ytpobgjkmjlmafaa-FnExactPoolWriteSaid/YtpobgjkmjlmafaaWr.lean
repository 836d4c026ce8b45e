/- Putting a volume into a row that has no room: a new row. -/
import Derived.Test.YtpobgjkmjlmafaaWq
namespace Go.Proofs.Ytpobgjkmjlmafaa
open Go.RowKit Go.Proofs.YtpobgjkmjlmafaaW.PrintWords Go.Proofs.YtpobgjkmjlmafaaW.PrintLast
set_option linter.unusedVariables false
set_option linter.unusedSimpArgs false

theorem grow_cells {L Z E : List Value} {n i cap : Nat} (hL : L.length = n * 2) (hE : E.length = 2) (hi : i ≤ n) (hc : n + 1 ≤ cap) (hr : Z.length + i * 2 = cap * 2) :
    layL (layL (L.take (i * 2) ++ Z) (i * 2) E) ((i + 1) * 2) (L.drop (i * 2)) = (L.take (i * 2) ++ (E ++ L.drop (i * 2))) ++ Z.drop ((n + 1 - i) * 2) := by
  have hd : (L.drop (i * 2)).length = (n - i) * 2 := by rw [List.length_drop, hL]; omega
  have ht : (L.take (i * 2)).length = i * 2 := by rw [List.length_take]; omega
  apply List.ext_getElem?
  intro k
  rw [layL_get (by rw [layL_len (by rw [List.length_append, ht, hE]; omega)]; simp; omega), layL_get (by rw [List.length_append, ht, hE]; omega), hd, hE, List.append_assoc, List.append_assoc]
  by_cases h1 : k < i * 2
  · rw [if_pos h1, if_pos (by omega), List.getElem?_append_left (by omega), List.getElem?_append_left (by omega)]
  · rw [if_neg h1]
    by_cases h2 : k < i * 2 + 2
    · rw [if_pos h2, if_pos (by omega), List.getElem?_append_right (by omega), List.getElem?_append_left (by omega), ht]
    · rw [if_neg h2, if_neg (by omega), List.getElem?_append_right (show (L.take (i * 2)).length ≤ k by omega), List.getElem?_append_right (show (L.take (i * 2)).length ≤ k by omega), List.getElem?_append_right (show E.length ≤ k - (L.take (i * 2)).length by omega), ht, hE]
      by_cases h3 : k < (i + 1) * 2 + (n - i) * 2
      · rw [if_pos h3, List.getElem?_append_left (by rw [hd]; omega)]
        congr 1
        omega
      · rw [if_neg h3, List.getElem?_append_right (by rw [hd]; omega), List.getElem?_drop, hd]
        congr 1
        omega
theorem zeroCells_one {z : Array Value} (hz : ∀ v ∈ z, v.oneCell' = true) (h2 : z.size = 2) (n : Nat) : (Builtin.zeroCells z n).size = n * 2 := by simp [Builtin.zeroCells, h2]

theorem wpList_append_run {P : Program} (w : World) {ops : Array Oper} {rest : List Oper} {o : Oper} {a : Act} {Q : Exit → Act → World → Prop} (hgd : o.guard = none) (d s : Operand) (t t' : TypeId)
    (ho : o.op = .call { callee := .builtin .append, args := #[d, s], argTypes := #[t, t'] }) (v u : Value) (hd : a.eval d = v) (hs : a.eval s = u) {v' : Value} {w' : World}
    (hr : (Builtin.append_ #[t, t'] o.type #[v, u]).run P w = .ok v' w') (h : wpList P ops Q rest (a.put o.dst v') w') : wpList P ops Q (o :: rest) a w := by
  refine wpList_plain hgd fun K hK => ?_
  unfold Oper.wp execOp
  simp only [ho, resolve, invoke, builtin, Sem.run_bind, Sem.run_pure, Result.andThen_ok, List.map_toArray, List.map_cons, List.map_nil, hd, hs, hr]
  exact hK _ _ h

set_option maxHeartbeats 4000000 in
set_option maxRecDepth 100000 in
theorem insert_grow_c {W : World} {base g cap : Nat} {vs : List Vol} {bvs : List Value} {x : Vol} {b : Value} {i : Nat} (h : VRow W base (.slice (some ⟨g, 0, none⟩) vs.length cap) vs bvs) (hbase : base ≤ W.heap.size) (h1 : ∀ b ∈ bvs, b.oneCell' = true) (hb : b.oneCell' = true) (hi : i < vs.length) (hroom : cap < vs.length + 1) (hl : vs.length ≤ 1048576) :
    Calls Try.prog 145 #[.slice (some ⟨g, 0, none⟩) vs.length cap, .int .i64 i, .slice (some ⟨W.heap.size, 0, none⟩) 1 1] (W.alloc (.cells #[.string x.name, b] 43)) (Ins1 W base (.slice (some ⟨g, 0, none⟩) vs.length cap) vs bvs i x b) := by
  obtain ⟨hbg, hnc, hmax, hL, rest, hrl, hg⟩ := own_open h.row
  have hone : ∀ u ∈ (vs.zip bvs).flatMap encV, u.oneCell' = true := one_flatV fun z hz => h1 z.2 (List.of_mem_zip hz).2
  have hlen := h.len
  have hgW : g < W.heap.size := (Array.getElem?_eq_some_iff.1 hg).1
  obtain ⟨w, hw⟩ : ∃ w, w = W.alloc (.cells #[.string x.name, b] 43) := ⟨_, rfl⟩
  have hgw : w.heap[g]? = some (.cells (((vs.zip bvs).flatMap encV) ++ rest).toArray 43 (0, 0)) := by rw [hw]; exact Blk.alloc (show Blk W g _ _ from hg) _
  have hvw : w.heap[W.heap.size]? = some (.cells [.string x.name, b].toArray 43 (0, 0)) := by rw [hw]; exact Blk.new W _ _
  have hgrw : W.grownBy w (some g) := by rw [hw]; exact World.grownBy_alloc W _ _
  have hWw : W.heap.size < w.heap.size := by rw [hw]; simp
  obtain ⟨vb, hvb⟩ : ∃ vb, vb = W.heap.size := ⟨_, rfl⟩
  rw [← hw, ← hvb]
  rw [← hvb] at hvw hWw
  generalize hn : vs.length = n at *
  have HL : ((vs.zip bvs).flatMap encV).length = n * 2 := hL
  obtain ⟨L, hLe⟩ : ∃ L, L = (vs.zip bvs).flatMap encV := ⟨_, rfl⟩
  rw [← hLe] at hgw hone HL
  have hdl : (L.drop (i * 2)).length = (n - i) * 2 := by rw [List.length_drop, HL]; omega
  have htl : (L.take (i * 2)).length = i * 2 := by rw [List.length_take, HL]; omega
  have hgd : w.drew.heap[g]? = some (.cells (L ++ rest).toArray 43 (0, 0)) := hgw
  obtain ⟨i0, hi0, hz⟩ := Option.map_eq_some_iff.1 info_vol
  simp only [Prod.mk.injEq] at hz
  obtain ⟨hz0, hzs, hzb⟩ := hz
  have hkk : (n : Int) + 1 - (i : Int) = ((n + 1 - i : Nat) : Int) := by omega
  have hik : i + (n + 1 - i) = n + 1 := by omega
  have hold : (Builtin.firstCells i0.size i (.slice (some ⟨g, 0, none⟩) i cap)).run Try.prog w.drew = .ok (L.take (i * 2)).toArray w.drew := by
    rw [hzs]
    exact run_firstCells_some w.drew 2 i ⟨g, 0, none⟩ i cap (L.take (i * 2)) htl (fun j v hj => by
      rw [Addr.add_lit, Nat.zero_add, cell_of_row hgd]
      have hjl := ltQ hj
      rw [List.getElem?_append_left (by omega)]
      rwa [List.getElem?_take, if_pos (by omega)] at hj)
  have hrz : ∀ ty, (Builtin.append_ #[28, 3] ty #[.slice (some ⟨g, 0, none⟩) i cap, .int .i64 ((n : Int) + 1 - (i : Int))]).run Try.prog w =
      .ok (.slice (some ⟨w.heap.size, 0, none⟩) (n + 1) (grownCap w (n + 1) cap 43)) (w.drew.alloc (.cells ((L.take (i * 2)).toArray ++ Builtin.zeroCells (Value.agg #[.string ⟨#[]⟩, .slice none 0 0]).cells (n + 1 - i) ++ Builtin.zeroCells (Value.agg #[.string ⟨#[]⟩, .slice none 0 0]).cells (grownCap w (n + 1) cap 43 - (n + 1))) 43)) := fun ty => by
    have h := Lib.run_append_grow_zeros w 28 3 ty 43 i0 _ .i64 .i64 Try.underlying28 Try.underlying3 hi0 hz0 (some ⟨g, 0, none⟩) i cap (L.take (i * 2)) hold (n + 1 - i) (by omega) (by omega) (by omega) (by omega) (by rw [hzb]; omega) (by rw [hzb, hik]; exact growslice_fits hroom (by omega))
    rw [hik] at h
    rw [hkk]
    exact h
  have hGn : n + 1 ≤ grownCap w (n + 1) cap 43 := grownCap_ge w _ _ _
  have hG63 : grownCap w (n + 1) cap 43 ≤ 9223372036854775807 := by
    have := grownCap_le_maxLen w (n + 1) cap 43 (by unfold maxLen; omega)
    unfold maxLen at this
    omega
  generalize grownCap w (n + 1) cap 43 = G at hrz hGn hG63
  obtain ⟨Z, hZ⟩ : ∃ Z, Z = (Builtin.zeroCells (Value.agg #[.string ⟨#[]⟩, .slice none 0 0]).cells (n + 1 - i)).toList ++ (Builtin.zeroCells (Value.agg #[.string ⟨#[]⟩, .slice none 0 0]).cells (G - (n + 1))).toList := ⟨_, rfl⟩
  have hZl : Z.length + i * 2 = G * 2 := by rw [hZ]; simp [Builtin.zeroCells, Value.cells]; omega
  have hROW : ((L.take (i * 2)).toArray ++ Builtin.zeroCells (Value.agg #[.string ⟨#[]⟩, .slice none 0 0]).cells (n + 1 - i) ++ Builtin.zeroCells (Value.agg #[.string ⟨#[]⟩, .slice none 0 0]).cells (G - (n + 1))) = (L.take (i * 2) ++ Z).toArray := by
    rw [hZ]; apply Array.ext'; simp
  rw [hROW] at hrz
  have hrowl : (L.take (i * 2) ++ Z).length = G * 2 := by rw [List.length_append, htl]; omega
  obtain ⟨N, hN⟩ : ∃ N, N = w.heap.size := ⟨_, rfl⟩
  rw [← hN] at hrz hWw
  have hgN : g ≠ N := by have := (Array.getElem?_eq_some_iff.1 hgw).1; omega
  have hvN : vb ≠ N := by omega
  have hcpA : ∀ (W0 : World), W0.heap = (w.alloc (.cells (L.take (i * 2) ++ Z).toArray 43)).heap → ∀ ty dc, (Builtin.copy_ #[28, 28] ty #[.slice (some ⟨N, i * 2, none⟩) (n + 1 - i) dc, .slice (some ⟨vb, 0, none⟩) 1 1]).run Try.prog W0 = .ok (goInt 1) (W0.setCells N (i * 2) [.string x.name, b]) := fun W0 hW0 ty dc => by
    have e1 : W0.heap[N]? = some (.cells (L.take (i * 2) ++ Z).toArray 43 (0, 0)) := by rw [hW0, hN]; exact Blk.new w _ _
    have e2 : W0.heap[vb]? = some (.cells [.string x.name, b].toArray 43 (0, 0)) := by rw [hW0]; exact Blk.alloc (show Blk w vb _ _ from hvw) _
    have := run_copy_rows (P := Try.prog) W0 28 28 ty 43 2 N (i * 2) (n + 1 - i) dc ⟨vb, 0, none⟩ 1 1 [.string x.name, b] Try.underlying28 size_vol (by simp only [Nat.min_def]; split <;> simp <;> omega)
      (fun j v hj => by rw [Addr.add_lit, Nat.zero_add, cell_of_row e2]; exact hj)
      (fun j hj => by rw [cell_of_row e1, List.getElem?_eq_getElem (by rw [hrowl]; simp at hj; omega)]; rfl) (fun j hj => free_of_row e1 _) (by intro v hv; simp at hv; rcases hv with rfl | rfl; rfl; exact hb)
    rwa [show Nat.min 1 (n + 1 - i) = 1 by simp only [Nat.min_def]; split <;> omega] at this
  have hcpB : ∀ (W0 : World), W0.heap = ((w.alloc (.cells (L.take (i * 2) ++ Z).toArray 43)).setCells N (i * 2) [.string x.name, b]).heap → ∀ ty dc sc, (Builtin.copy_ #[28, 28] ty #[.slice (some ⟨N, (i + 1) * 2, none⟩) (n - i) dc, .slice (some ⟨g, i * 2, none⟩) (n - i) sc]).run Try.prog W0 = .ok (goInt (Nat.min (n - i) (n - i))) (W0.setCells N ((i + 1) * 2) (L.drop (i * 2))) := fun W0 hW0 ty dc sc => by
    have e1 : W0.heap[N]? = some (.cells (layL (L.take (i * 2) ++ Z) (i * 2) [.string x.name, b]).toArray 43 (0, 0)) := by
      rw [hW0]; exact setCells_heap _ _ _ _ (by rw [hN]; exact Blk.new w _ _) (by rw [hrowl]; simp; omega)
    have e2 : W0.heap[g]? = some (.cells (L ++ rest).toArray 43 (0, 0)) := by
      rw [hW0, (grown_setCells N [.string x.name, b] (i * 2) (w.alloc (.cells (L.take (i * 2) ++ Z).toArray 43))).block g (by have := (Array.getElem?_eq_some_iff.1 hgw).1; simp; omega) (by simpa using hgN)]
      exact Blk.alloc (show Blk w g _ _ from hgw) _
    have el : (layL (L.take (i * 2) ++ Z) (i * 2) [.string x.name, b]).length = G * 2 := by rw [layL_len (by rw [hrowl]; simp; omega), hrowl]
    exact run_copy_rows (P := Try.prog) W0 28 28 ty 43 2 N ((i + 1) * 2) _ dc ⟨g, i * 2, none⟩ _ sc (L.drop (i * 2)) Try.underlying28 size_vol (by rw [hdl]; simp only [Nat.min_def]; split <;> omega)
      (fun j v hj => by
        rw [Addr.add_lit, cell_of_row e2, List.getElem?_append_left (by have := ltQ hj; omega)]
        rwa [List.getElem?_drop] at hj)
      (fun j hj => by rw [cell_of_row e1, List.getElem?_eq_getElem (by rw [el]; omega)]; rfl) (fun j hj => free_of_row e1 _) (fun v hv => hone v (List.mem_of_mem_drop hv))
  have hins : ∀ W0 : World, W0.heap = ((w.alloc (.cells (L.take (i * 2) ++ Z).toArray 43)).setCells N (i * 2) [.string x.name, b]).heap → W0.os = w.os → W0.tape = w.tape → W0.output = w.output → VRow (W0.setCells N ((i + 1) * 2) (L.drop (i * 2))) base (.slice (some ⟨N, 0, none⟩) (n + 1) G) (insAt i x vs) (insAt i b bvs) ∧ W.grownBy (W0.setCells N ((i + 1) * 2) (L.drop (i * 2))) (some g) := fun W0 hW0 ho1 ho2 ho3 => by
    have e1 : W0.heap[N]? = some (.cells (layL (L.take (i * 2) ++ Z) (i * 2) [.string x.name, b]).toArray 43 (0, 0)) := by
      rw [hW0]; exact setCells_heap _ _ _ _ (by rw [hN]; exact Blk.new w _ _) (by rw [hrowl]; simp; omega)
    have el : (layL (L.take (i * 2) ++ Z) (i * 2) [.string x.name, b]).length = G * 2 := by rw [layL_len (by rw [hrowl]; simp; omega), hrowl]
    have hfin := setCells_heap (L.drop (i * 2)) ((i + 1) * 2) _ W0 e1 (by rw [el, hdl]; omega)
    rw [grow_cells HL rfl (Nat.le_of_lt hi) hGn hZl] at hfin
    have e0 : (insAt i x vs).length = n + 1 := by rw [insAt_len (by omega), hn]
    refine ⟨⟨by rw [e0, insAt_len (by omega), hlen], ?_⟩, ?_⟩
    · rw [e0, zip_insAt _ _ _ _ _ (by rw [hlen, hn]) (by omega), flat_insAt encV_len, ← hLe]
      exact own_close (by omega) (by omega) hG63 (by simp [encV, HL]; omega) (by simp; omega) hfin
    · have g0 : w.grownBy W0 none := by
        have g1 := grown_setCells N [.string x.name, b] (i * 2) (w.alloc (.cells (L.take (i * 2) ++ Z).toArray 43))
        refine ⟨ho1, ho2, ho3, ?_, fun k hk _ => ?_⟩
        · rw [hW0]; have := g1.size; simp at this; omega
        · rw [hW0, g1.block k (by simp; omega) (by simp; omega)]
          exact (bel_alloc (Below.refl _ _) _ : Bel w (w.alloc (.cells (L.take (i * 2) ++ Z).toArray 43))).block k hk
      have g2 := grown_setCells N (L.drop (i * 2)) ((i + 1) * 2) W0
      refine ⟨by rw [g2.os, g0.os, hgrw.os], by rw [g2.tape, g0.tape, hgrw.tape], by rw [g2.output, g0.output, hgrw.output], by have := g2.size; have := g0.size; have := hgrw.size; omega, fun k hk hne => ?_⟩
      have hkw : k < w.heap.size := Nat.lt_of_lt_of_le hk hgrw.size
      rw [g2.block k (Nat.lt_of_lt_of_le hkw g0.size) (by simp; omega), g0.block k hkw (by simp), hgrw.block k hk hne]
  have G1 := Lib.hid hins
  have HN := Lib.hid hn
  have HZ := Lib.hid hrz
  clear hrz
  have HA := Lib.hid hcpA
  have HB := Lib.hid hcpB
  have hSz := Lib.hid hN
  have w1 : IntKind.i64.wrap ((i : Int) + 1) = (i : Int) + 1 := by rw [IntKind.wrap_i64]; omega
  clear hins hcpA hcpB hrowl hROW hZl hZ hold hgd hdl htl HL hone hgrw hvw hgw hg hw hvb hL hlen hLe hrl h1 h hgW hi0 hz0 hzs hzb hkk hik hN
  have hin : i ≤ n := by omega
  have hz2 : ¬ ((i : Int) = (n : Int)) := by omega
  have hz3 : (cap : Int) < (n : Int) + 1 := by omega
  have hb1 : (0 : Int) ≤ (i : Int) + 1 := by omega
  have htn : ((i : Int) + 1).toNat = i + 1 := by omega
  have hb3 : (i : Int) ≤ (n : Int) + 1 := by omega
  have hb4 : ¬ (cap = i) := by omega
  have hGi : ¬ (G = i) := by omega
  have hGim : ¬ (G = i + 1) := by omega
  have hlast : n - i + (i + 1) = n + 1 := by omega
  have hic : i ≤ cap := by omega
  have mixed : Try.prog.follows .mixedOrders = true := by kernel_rfl
  go_enter Try.func145, Try.ntmps145
  have hA := HA.out (w.alloc (.cells (L.take (i * 2) ++ Z).toArray 43)).drew rfl
  go_wp2_with (at_builtin; refine wpList_append_run _ rfl _ _ 28 3 rfl _ _ rfl rfl (HZ.out _) ?_)
  have hB2 := HB.out ((w.alloc (.cells (L.take (i * 2) ++ Z).toArray 43)).drew.setCells N (i * 2) [.string x.name, b]).drew rfl
  go_region_law_o (fail)
  go_wp2
  go_ret
  have hG := G1.out ((w.alloc (.cells (L.take (i * 2) ++ Z).toArray 43)).drew.setCells N (i * 2) [.string x.name, b]).drew rfl rfl rfl rfl
  exact ⟨_, rfl, hG.1, hG.2⟩
end Go.Proofs.Ytpobgjkmjlmafaa

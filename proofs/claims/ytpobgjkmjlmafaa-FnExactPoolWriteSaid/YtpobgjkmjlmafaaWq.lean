/- Putting a volume into a row. -/
import Derived.Test.YtpobgjkmjlmafaaWp
namespace Go.Proofs.Ytpobgjkmjlmafaa
open Go.RowKit Go.Proofs.YtpobgjkmjlmafaaW.PrintWords Go.Proofs.YtpobgjkmjlmafaaW.PrintLast
set_option linter.unusedVariables false
set_option linter.unusedSimpArgs false

def insAt {α} (i : Nat) (x : α) (xs : List α) : List α := xs.take i ++ x :: xs.drop i
theorem insAt_len {α} {i : Nat} {x : α} {xs : List α} (h : i ≤ xs.length) : (insAt i x xs).length = xs.length + 1 := by simp [insAt]; omega
theorem insAt_end {α} (x : α) (xs : List α) : insAt xs.length x xs = xs ++ [x] := by simp [insAt]
theorem zip_insAt {α β} (xs : List α) (ys : List β) (i : Nat) (x : α) (y : β) (h : ys.length = xs.length) (hi : i ≤ xs.length) : (insAt i x xs).zip (insAt i y ys) = insAt i (x, y) (xs.zip ys) := by
  unfold insAt
  rw [List.zip_append (by simp; omega), List.zip_cons_cons, List.zip_eq_zipWith, List.zip_eq_zipWith, List.zip_eq_zipWith, List.take_zipWith, List.drop_zipWith]
theorem flat_insAt {α β} {enc : α → List β} {sz : Nat} (hl : ∀ x, (enc x).length = sz) (xs : List α) (x : α) (i : Nat) : (insAt i x xs).flatMap enc = (xs.flatMap enc).take (i * sz) ++ (enc x ++ (xs.flatMap enc).drop (i * sz)) := by
  unfold insAt
  rw [List.flatMap_append, List.flatMap_cons, flat_take hl, flat_drop hl]
/-- What a row of volumes is behind the insertion of one. -/
def Ins1 (w : World) (base : Nat) (v : Value) (vs : List Vol) (bvs : List Value) (i : Nat) (x : Vol) (b : Value) (e : Ending) (w' : World) : Prop :=
  ∃ v', e = .returned v' ∧ VRow w' base v' (insAt i x vs) (insAt i b bvs) ∧ w.grownBy w' v.ownBlock
theorem row_end {w : World} {base : Nat} {v' : Value} {vs : List Vol} {bvs : List Value} {x : Vol} {b : Value} (hlen : bvs.length = vs.length) (h : w.ownsRow base 43 2 v' (vs.length + 1) ((vs.zip bvs).flatMap encV ++ encV (x, b))) : VRow w base v' (insAt vs.length x vs) (insAt vs.length b bvs) := by
  rw [insAt_end, show vs.length = bvs.length from hlen.symm, insAt_end]
  refine ⟨by simp [hlen], ?_⟩
  rw [List.zip_append hlen.symm, List.flatMap_append, List.length_append]
  simpa using h

set_option maxHeartbeats 4000000 in
set_option maxRecDepth 100000 in
theorem insert_end_c {W : World} {base : Nat} {v : Value} {vs : List Vol} {bvs : List Value} {x : Vol} {b : Value} (h : VRow W base v vs bvs) (hbase : base ≤ W.heap.size) (hb : b.oneCell' = true) (hl : vs.length ≤ 1048576) :
    Calls Try.prog 145 #[v, .int .i64 vs.length, .slice (some ⟨W.heap.size, 0, none⟩) 1 1] (W.alloc (.cells #[.string x.name, b] 43)) (Ins1 W base v vs bvs vs.length x b) := by
  obtain ⟨A, c, rfl, hc⟩ := own_cap h.row
  have H := Lib.hid h
  clear h
  have h1 : ∀ u ∈ encV (x, b), u.oneCell' = true := by intro u hu; simp [encV] at hu; rcases hu with rfl | rfl; rfl; exact hb
  have H1 := Lib.hid h1
  clear h1
  generalize hn : vs.length = n at hc hl ⊢
  have HN := Lib.hid hn
  clear hn
  have hres : ∃ A2 n2 c2, (if c = n then A else A.map (·.add (n * 2))) = A2 := ⟨_, 0, 0, rfl⟩
  cases A with
  | none =>
    have hn0 : n = 0 := by
      rcases H.out.row.2 with ⟨_, h0⟩ | ⟨g, cap, cur, e, _⟩
      · rw [← HN.out]; exact h0
      · cases e
    subst hn0
    obtain rfl : c = 0 := by
      rcases H.out.row.2 with ⟨e, h0⟩ | ⟨g, cap, cur, e, _⟩
      · injection e
      · cases e
    go_enter Try.func145, Try.ntmps145
    go_wp2_with (at_builtin; refine print_append_cells (w0 := W) base rfl (.tmp 23) (.tmp 24) 28 43 (.agg #[.string ⟨#[]⟩, .slice none 0 0]) 2 40 rfl Try.underlying28 info_vol rfl (by decide) (by decide) _ 0 ((vs.zip bvs).flatMap encV) (encV (x, b)) rfl rfl rfl H1.out (HN.out ▸ H.out.row) ((Below.refl _ W).mono hbase) hbase (by omega) ?_; intro v2 w2 hr2 hb2 hg2 hat2; clear hat2)
    go_ret
    refine ⟨_, rfl, ?_, hg2⟩
    have := row_end (x := x) (b := b) (v' := v2) H.out.len (by rw [HN.out]; exact hr2)
    rwa [HN.out] at this
  | some ad =>
    go_enter Try.func145, Try.ntmps145
    go_wp2_with (at_builtin; refine print_append_cells (w0 := W) base rfl (.tmp 23) (.tmp 24) 28 43 (.agg #[.string ⟨#[]⟩, .slice none 0 0]) 2 40 rfl Try.underlying28 info_vol rfl (by decide) (by decide) _ n ((vs.zip bvs).flatMap encV) (encV (x, b)) rfl rfl rfl H1.out (HN.out ▸ H.out.row) ((Below.refl _ W).mono hbase) hbase (by omega) ?_; intro v2 w2 hr2 hb2 hg2 hat2; clear hat2)
    all_goals
      go_ret
      refine ⟨_, rfl, ?_, hg2⟩
      have := row_end (x := x) (b := b) (v' := v2) H.out.len (by rw [HN.out]; exact hr2)
      rwa [HN.out] at this
theorem room_cells {L rest E : List Value} {n i cap : Nat} (hL : L.length = n * 2) (hE : E.length = 2) (hi : i ≤ n) (hc : n + 1 ≤ cap) (hr : rest.length + n * 2 = cap * 2) :
    layL (layL (L ++ rest) ((i + 1) * 2) (L.drop (i * 2))) (i * 2) E = (L.take (i * 2) ++ (E ++ L.drop (i * 2))) ++ rest.drop 2 := by
  have hd : (L.drop (i * 2)).length = (n - i) * 2 := by rw [List.length_drop, hL]; omega
  have ht : (L.take (i * 2)).length = i * 2 := by rw [List.length_take]; omega
  apply List.ext_getElem?
  intro k
  rw [layL_get (by rw [layL_len (by rw [List.length_append, hd]; omega)]; simp; omega), layL_get (by rw [List.length_append, hd]; omega), hd, hE, List.append_assoc, List.append_assoc]
  by_cases h1 : k < i * 2
  · rw [if_pos h1, if_pos (by omega), List.getElem?_append_left (by omega), List.getElem?_append_left (by omega), List.getElem?_take, if_pos h1]
  · rw [if_neg h1]
    by_cases h2 : k < i * 2 + 2
    · rw [if_pos h2, List.getElem?_append_right (by omega), List.getElem?_append_left (by omega), ht]
    · rw [if_neg h2, if_neg (by omega), List.getElem?_append_right (show (L.take (i * 2)).length ≤ k by omega), List.getElem?_append_right (show E.length ≤ k - (L.take (i * 2)).length by omega), ht, hE]
      by_cases h3 : k < (i + 1) * 2 + (n - i) * 2
      · rw [if_pos h3, List.getElem?_append_left (by rw [hd]; omega)]
        congr 1
        omega
      · rw [if_neg h3, List.getElem?_append_right (by omega), List.getElem?_append_right (by rw [hd]; omega), List.getElem?_drop, hd, hL]
        congr 1
        omega
theorem size_vol : (Try.prog.info? 43).map (·.size) = some 2 := by kernel_rfl

set_option maxHeartbeats 4000000 in
set_option maxRecDepth 100000 in
theorem insert_room_c {W : World} {base g cap : Nat} {vs : List Vol} {bvs : List Value} {x : Vol} {b : Value} {i : Nat} (h : VRow W base (.slice (some ⟨g, 0, none⟩) vs.length cap) vs bvs) (hbase : base ≤ W.heap.size) (h1 : ∀ b ∈ bvs, b.oneCell' = true) (hb : b.oneCell' = true) (hi : i < vs.length) (hroom : vs.length + 1 ≤ cap) :
    Calls Try.prog 145 #[.slice (some ⟨g, 0, none⟩) vs.length cap, .int .i64 i, .slice (some ⟨W.heap.size, 0, none⟩) 1 1] (W.alloc (.cells #[.string x.name, b] 43)) (Ins1 W base (.slice (some ⟨g, 0, none⟩) vs.length cap) vs bvs i x b) := by
  obtain ⟨hbg, hnc, hmax, hL, rest, hrl, hg⟩ := own_open h.row
  have hone : ∀ u ∈ (vs.zip bvs).flatMap encV, u.oneCell' = true := one_flatV fun z hz => h1 z.2 (List.of_mem_zip hz).2
  have hlen := h.len
  have hgW : g < W.heap.size := (Array.getElem?_eq_some_iff.1 hg).1
  obtain ⟨w, hw⟩ : ∃ w, w = W.alloc (.cells #[.string x.name, b] 43) := ⟨_, rfl⟩
  have hgw : w.heap[g]? = some (.cells (((vs.zip bvs).flatMap encV) ++ rest).toArray 43 (0, 0)) := by rw [hw]; exact Blk.alloc (show Blk W g _ _ from hg) _
  have hvw : w.heap[W.heap.size]? = some (.cells [.string x.name, b].toArray 43 (0, 0)) := by rw [hw]; exact Blk.new W _ _
  have hgrw : W.grownBy w (some g) := by rw [hw]; exact World.grownBy_alloc W _ _
  obtain ⟨vb, hvb⟩ : ∃ vb, vb = W.heap.size := ⟨_, rfl⟩
  rw [← hw, ← hvb]
  rw [← hvb] at hvw
  have hne : vb ≠ g := by omega
  generalize hn : vs.length = n at *
  have HL : ((vs.zip bvs).flatMap encV).length = n * 2 := hL
  obtain ⟨L, hLe⟩ : ∃ L, L = (vs.zip bvs).flatMap encV := ⟨_, rfl⟩
  rw [← hLe] at hgw hone HL
  have hcur : (L ++ rest).length = cap * 2 := by rw [List.length_append, HL]; omega
  have hdl : (L.drop (i * 2)).length = (n - i) * 2 := by rw [List.length_drop, HL]; omega
  have hgd : w.drew.heap[g]? = some (.cells (L ++ rest).toArray 43 (0, 0)) := hgw
  have hov : ∀ lb cb, (callFunc 155 #[.slice (some ⟨vb, 0, none⟩) 1 1, .slice (some ⟨g, (i + 1) * 2, none⟩) lb cb]).run Try.prog w = .ok (.value (.bool false)) w := fun lb cb => by
    rw [run_callFunc_extern Try.func155 (by kernel_rfl) (by kernel_rfl) (by kernel_rfl) (e := Extern.SlicesOverlaps.overlaps #[28, 28] #[4]) (by kernel_rfl),
      Lib.run_overlaps_apart w 28 4 43 Try.underlying28 2 (fun w => by
        obtain ⟨i0, hi0, hz⟩ := Option.map_eq_some_iff.1 info_vol
        simp only [Prod.mk.injEq] at hz
        simp [sizeOf, typeInfo, hi0, hz.2.1]) ⟨vb, 0, none⟩ ⟨g, (i + 1) * 2, none⟩ 1 1 lb cb hne 43 43 2 (cap * 2) (by simp [World.shape?, hvw]) (by simp [World.shape?, hgw, ← hcur]) (by omega) (free_of_row hvw 0) (free_of_row hvw 2)]
    rfl
  have hcp1 : ∀ ty dc sc, (Builtin.copy_ #[28, 28] ty #[.slice (some ⟨g, (i + 1) * 2, none⟩) (n - i) dc, .slice (some ⟨g, i * 2, none⟩) (n + 1 - i) sc]).run Try.prog w.drew = .ok (goInt (Nat.min (n + 1 - i) (n - i))) (w.drew.setCells g ((i + 1) * 2) (L.drop (i * 2))) := fun ty dc sc =>
    run_copy_rows w.drew _ _ ty 43 2 g ((i + 1) * 2) _ dc ⟨g, i * 2, none⟩ _ sc (L.drop (i * 2)) Try.underlying28 size_vol (by rw [hdl]; simp only [Nat.min_def]; split <;> omega)
      (fun j v hj => by
        rw [Addr.add_lit, cell_of_row hgd, List.getElem?_append_left (by have := ltQ hj; omega)]
        rwa [List.getElem?_drop] at hj)
      (fun j hj => by rw [cell_of_row hgd, List.getElem?_eq_getElem (by rw [hcur]; omega)]; rfl) (fun j hj => free_of_row hgd _) (fun v hv => hone v (List.mem_of_mem_drop hv))
  obtain ⟨W1, hW1⟩ : ∃ W1, W1 = w.drew.setCells g ((i + 1) * 2) (L.drop (i * 2)) := ⟨_, rfl⟩
  rw [← hW1] at hcp1
  have hh1 : W1.heap[g]? = some (.cells (layL (L ++ rest) ((i + 1) * 2) (L.drop (i * 2))).toArray 43 (0, 0)) := by
    rw [hW1]; exact setCells_heap _ _ (L ++ rest) w.drew hgd (by rw [hcur, hdl]; omega)
  have hl1 : (layL (L ++ rest) ((i + 1) * 2) (L.drop (i * 2))).length = cap * 2 := by rw [layL_len (by rw [hcur, hdl]; omega), hcur]
  have hv1 : W1.heap[vb]? = some (.cells [.string x.name, b].toArray 43 (0, 0)) := by
    rw [hW1]; exact ((grown_setCells g (L.drop (i * 2)) ((i + 1) * 2) w.drew).block vb (Array.getElem?_eq_some_iff.1 hvw).1 (by simpa using hne)).trans hvw
  have hcp2 : ∀ ty dc, (Builtin.copy_ #[28, 28] ty #[.slice (some ⟨g, i * 2, none⟩) (n + 1 - i) dc, .slice (some ⟨vb, 0, none⟩) 1 1]).run Try.prog W1 = .ok (goInt 1) (W1.setCells g (i * 2) [.string x.name, b]) := fun ty dc => by
    have := run_copy_rows (P := Try.prog) W1 28 28 ty 43 2 g (i * 2) (n + 1 - i) dc ⟨vb, 0, none⟩ 1 1 [.string x.name, b] Try.underlying28 size_vol (by simp only [Nat.min_def]; split <;> simp <;> omega)
      (fun j v hj => by rw [Addr.add_lit, Nat.zero_add, cell_of_row hv1]; exact hj)
      (fun j hj => by rw [cell_of_row hh1, List.getElem?_eq_getElem (by rw [hl1]; simp at hj; omega)]; rfl) (fun j hj => free_of_row hh1 _) (by intro v hv; simp at hv; rcases hv with rfl | rfl; rfl; exact hb)
    rwa [show Nat.min 1 (n + 1 - i) = 1 by simp only [Nat.min_def]; split <;> omega] at this
  have hfin : (W1.setCells g (i * 2) [.string x.name, b]).heap[g]? = some (.cells ((L.take (i * 2) ++ ([.string x.name, b] ++ L.drop (i * 2))) ++ rest.drop 2).toArray 43 (0, 0)) := by
    rw [← room_cells HL rfl (Nat.le_of_lt hi) hroom hrl]
    exact setCells_heap _ _ _ _ hh1 (by rw [hl1]; simp; omega)
  have hgr : W.grownBy (W1.setCells g (i * 2) [.string x.name, b]) (some g) := grown_tr hgrw (grown_tr (by rw [hW1]; exact grown_tr (grown_drew w _) (grown_setCells g _ _ _)) (grown_setCells g _ _ _))
  have hins : VRow (W1.setCells g (i * 2) [.string x.name, b]) base (.slice (some ⟨g, 0, none⟩) (n + 1) cap) (insAt i x vs) (insAt i b bvs) := by
    have e1 : (insAt i x vs).length = n + 1 := by rw [insAt_len (by omega), hn]
    refine ⟨by rw [e1, insAt_len (by omega), hlen], ?_⟩
    rw [e1, zip_insAt _ _ _ _ _ (by rw [hlen, hn]) (by omega), flat_insAt encV_len, ← hLe]
    exact own_close hbg (by omega) hmax (by simp [encV, HL]; omega) (by simp; omega) hfin
  have G1 := Lib.hid (And.intro hins hgr)
  have HN := Lib.hid hn
  have w1 : IntKind.i64.wrap ((i : Int) + 1) = (i : Int) + 1 := by rw [IntKind.wrap_i64]; omega
  clear hins hgr hfin hv1 hl1 hh1 hW1 hgd hdl hcur HL hone hgrw hvw hgw hg hw hvb hL hlen hLe hrl h1 h hgW
  have hin : i ≤ n := by omega
  have hz2 : ¬ ((i : Int) = (n : Int)) := by omega
  have hb1 : (0 : Int) ≤ (i : Int) + 1 := by omega
  have htn : ((i : Int) + 1).toNat = i + 1 := by omega
  have htn2 : ((n : Int) + 1).toNat = n + 1 := by omega
  have hb2 : ¬ (cap = i + 1) := by omega
  have hb3 : (i : Int) ≤ (n : Int) + 1 := by omega
  have hb4 : ¬ (cap = i) := by omega
  have hb5 : (n : Int) + 1 ≤ (cap : Int) := by omega
  have hb6 : ¬ ((cap : Int) < (n : Int) + 1) := by omega
  have hb7 : (0 : Int) ≤ (n : Int) + 1 := by omega
  have mixed : Try.prog.follows .mixedOrders = true := by kernel_rfl
  go_enter Try.func145, Try.ntmps145
  go_wp2_with (simp only [hov])
  go_region_law_o (refine step_copy_rows rfl _ _ 28 28 rfl _ _ (by simp [Act.eval, Act.put]) (by simp [Act.eval, Act.put]) (hcp1 _ _ _) ?_)
  go_wp2_with (at_builtin; refine wpList_copy_rows _ rfl _ _ 28 28 rfl _ _ rfl rfl (hcp2 _ _) ?_)
  go_ret
  exact ⟨_, rfl, G1.out.1, G1.out.2⟩
end Go.Proofs.Ytpobgjkmjlmafaa

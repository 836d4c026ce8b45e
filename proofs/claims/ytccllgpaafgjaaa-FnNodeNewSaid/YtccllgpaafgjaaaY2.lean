/- Contracts of the program's and the reference's functions, and the plain laws behind them: part 2 of 3. -/
import Derived.Test.YtccllgpaafgjaaaY1
import Derived.Laws.IdiomCopy
import Derived.Deep.RegionLaw
import Derived.Shelf.RegionOpenPlain
import Derived.Lib.Overlaps
import Derived.Lib.AppendZerosOnto
import Derived.Lib.SliceRun
import Derived.Lib.Bytealg
import Derived.Laws.Externs
import Derived.RegionTactic
import Derived.ChangeAlike
/- Rows that are copied over, cleared, shifted: what the cells hold behind it. -/









namespace Go.Proofs.Ytccllgpaafgjaaa
open Go.RowKit Go.Proofs.YtccllgpaafgjaaaW.PrintWords
set_option linter.unusedVariables false
set_option linter.unusedSimpArgs false

/-- vs laid over L from place o on. -/
def layL (L : List Value) (o : Nat) (vs : List Value) : List Value := L.take o ++ (vs ++ L.drop (o + vs.length))
theorem layL_len {L : List Value} {o : Nat} {vs : List Value} (h : o + vs.length ≤ L.length) : (layL L o vs).length = L.length := by simp [layL]; omega
theorem layL_nil (L : List Value) (o : Nat) : layL L o [] = L := by simp [layL]
theorem layL_cons {L : List Value} {o : Nat} {v : Value} {vs : List Value} (h : o + (vs.length + 1) ≤ L.length) : layL (L.set o v) (o + 1) vs = layL L o (v :: vs) := by
  have := list_seg_step L o v vs h
  simpa [layL, List.append_assoc] using this
theorem layL_get {L : List Value} {o : Nat} {vs : List Value} (h : o + vs.length ≤ L.length) (k : Nat) : (layL L o vs)[k]? = if k < o then L[k]? else if k < o + vs.length then vs[k - o]? else L[k]? := by
  have h1 : (L.take o).length = o := by rw [List.length_take]; omega
  unfold layL
  by_cases hk : k < o
  · rw [if_pos hk, List.getElem?_append_left (by omega), List.getElem?_take, if_pos hk]
  · rw [if_neg hk, List.getElem?_append_right (by omega), h1]
    by_cases hk2 : k < o + vs.length
    · rw [if_pos hk2, List.getElem?_append_left (by omega)]
    · rw [if_neg hk2, List.getElem?_append_right (by omega), List.getElem?_drop]
      congr 1; omega
theorem setCells_heap {b : Nat} {t : TypeId} : ∀ (vs : List Value) (o : Nat) (cur : List Value) (w : World), w.heap[b]? = some (.cells cur.toArray t (0, 0)) → o + vs.length ≤ cur.length → (w.setCells b o vs).heap[b]? = some (.cells (layL cur o vs).toArray t (0, 0))
  | [], o, cur, w, h, _ => by rw [World.setCells, layL_nil]; exact h
  | v :: vs, o, cur, w, h, hl => by
    rw [World.setCells, ← layL_cons (by simpa using hl)]
    refine setCells_heap vs (o + 1) (cur.set o v) _ ?_ (by simp at hl ⊢; omega)
    have := blk_set (show Blk w b cur.toArray t from h) o v
    simpa [Blk] using this
theorem grown_setCell (w : World) (b i : Nat) (u : Value) : w.grownBy (w.setCell ⟨b, i, none⟩ u) (some b) :=
  ⟨rfl, rfl, rfl, by simp [World.setCell], fun k hk hne => Below.heap_setCell w ⟨b, i, none⟩ u k (fun e => hne (by rw [e]))⟩
theorem grown_setCells (b : Nat) : ∀ (vs : List Value) (o : Nat) (w : World), w.grownBy (w.setCells b o vs) (some b)
  | [], _, w => grown_refl w _
  | v :: vs, o, w => grown_tr (grown_setCell w b o v) (grown_setCells b vs (o + 1) _)
theorem grown_drew (w : World) (r : Option Nat) : w.grownBy w.drew r := grown_of_bel (Below.refl _ _).drew r

/-- A row of one's own that is not nil, laid open. -/
theorem own_open {w : World} {base g n cap : Nat} {e : TypeId} {sz : Nat} {xs : List Value} (h : w.ownsRow base e sz (.slice (some ⟨g, 0, none⟩) n cap) n xs) :
    base ≤ g ∧ n ≤ cap ∧ cap ≤ 9223372036854775807 ∧ xs.length = n * sz ∧ ∃ rest : List Value, rest.length + n * sz = cap * sz ∧ w.heap[g]? = some (.cells (xs ++ rest).toArray e (0, 0)) := by
  rcases h.2 with ⟨h0, _⟩ | ⟨g', cap', cur, e1, hb, hg, hc, hm, hs, ht⟩
  · cases h0
  · obtain ⟨rfl, rfl⟩ : g = g' ∧ cap = cap' := by simpa using e1
    refine ⟨hb, hc, by simpa [maxLen] using hm, h.1, cur.toList.drop (n * sz), ?_, ?_⟩
    · rw [List.length_drop, Array.length_toList, hs]
      have := Nat.mul_le_mul_right sz hc
      omega
    · rw [← ht, List.take_append_drop]; exact hg
theorem own_close {w : World} {base g n cap : Nat} {e : TypeId} {sz : Nat} {xs rest : List Value} (hb : base ≤ g) (hc : n ≤ cap) (hm : cap ≤ 9223372036854775807) (hl : xs.length = n * sz) (hr : rest.length + n * sz = cap * sz)
    (hg : w.heap[g]? = some (.cells (xs ++ rest).toArray e (0, 0))) : w.ownsRow base e sz (.slice (some ⟨g, 0, none⟩) n cap) n xs :=
  ⟨hl, .inr ⟨g, cap, (xs ++ rest).toArray, rfl, hb, hg, hc, by simpa [maxLen] using hm, by simp; omega, by simp [← hl]⟩⟩
theorem cell_of_row {w : World} {g : Nat} {cs : List Value} {e : TypeId} (hg : w.heap[g]? = some (.cells cs.toArray e (0, 0))) (k : Nat) : w.cell? ⟨g, k, none⟩ = cs[k]? := by simp [World.cell?, hg]
theorem free_of_row {w : World} {g : Nat} {cs : List Value} {e : TypeId} (hg : w.heap[g]? = some (.cells cs.toArray e (0, 0))) (k : Nat) : w.frozen? ⟨g, k, none⟩ = false := by simp [World.frozen?, hg]

/-- copy at elements of any number of cells. -/
theorem run_copy_rows {P : Program} (w : World) (dT sT ty elem : TypeId) (size : Nat) (b o dLen dCap : Nat) (a : Addr) (sLen sCap : Nat) (cs : List Value)
    (hu : P.underlying dT = some (.slice elem)) (hs : (P.info? elem).map (·.size) = some size) (hn : cs.length = Nat.min sLen dLen * size)
    (hsrc : ∀ j v, cs[j]? = some v → w.cell? (a.add j) = some v) (hc : ∀ j, j < cs.length → (w.cell? ⟨b, o + j, none⟩).isSome = true) (hf : ∀ j, j < cs.length → w.frozen? ⟨b, o + j, none⟩ = false) (h1 : ∀ v ∈ cs, v.oneCell' = true) :
    (Builtin.copy_ #[dT, sT] ty #[.slice (some ⟨b, o, none⟩) dLen dCap, .slice (some a) sLen sCap]).run P w = .ok (goInt (Nat.min sLen dLen)) (w.setCells b o cs) := by
  have hl := run_loadCells_list (P := P) w a cs hsrc
  have hst := run_storeCells_cells (P := P) b o cs 0 w (by simpa using hc) (by simpa using hf) h1
  cases hq : P.info? elem with
  | none => simp [hq] at hs
  | some i =>
    have hi : i.size = size := by simpa [hq] using hs
    simp [Builtin.copy_, run_underlying hu, Builtin.lenOf, Builtin.firstCells, sizeOf, typeInfo, hq, hi, ← hn, hl, hst]
/-- clear at elements of any number of cells. -/
theorem run_clear_rows {P : Program} (w : World) (t e ty : TypeId) (z : Value) (ht : P.underlying t = some (.slice e)) (hv : ∀ w, (zeroValue e).run P w = .ok z w) (b o n c : Nat) (zs : List Value) (hz : (Builtin.zeroCells z.cells n).toList = zs) (h1 : ∀ v ∈ zs, v.oneCell' = true) (hn : 0 < n)
    (hc : ∀ j, j < zs.length → (w.cell? ⟨b, o + j, none⟩).isSome = true) (hf : ∀ j, j < zs.length → w.frozen? ⟨b, o + j, none⟩ = false) :
    (Builtin.clear_ #[t] ty #[.slice (some ⟨b, o, none⟩) n c]).run P w = .ok (.tuple #[]) (w.setCells b o zs) := by
  have hst := run_storeCells_cells (P := P) b o zs 0 w (by simpa using hc) (by simpa using hf) h1
  simp only [Nat.add_zero] at hst
  obtain ⟨m, rfl⟩ : ∃ m, n = m + 1 := ⟨n - 1, by omega⟩
  simp [Builtin.clear_, run_underlying ht, hv, hz, hst]
theorem wpList_copy_rows {P : Program} (w : World) {ops : Array Oper} {rest : List Oper} {o : Oper} {a : Act} {Q : Exit → Act → World → Prop} (hgd : o.guard = none) (d s : Operand) (t t' : TypeId)
    (ho : o.op = .call { callee := .builtin .copy, args := #[d, s], argTypes := #[t, t'] }) (v u : Value) (hd : a.eval d = v) (hs : a.eval s = u) {v' : Value} {w' : World}
    (hr : (Builtin.copy_ #[t, t'] o.type #[v, u]).run P w = .ok v' w') (h : wpList P ops Q rest (a.put o.dst v') w') : wpList P ops Q (o :: rest) a w := by
  refine wpList_plain hgd fun K hK => ?_
  unfold Oper.wp execOp
  simp only [ho, resolve, invoke, builtin, Sem.run_bind, Sem.run_pure, Result.andThen_ok, List.map_toArray, List.map_cons, List.map_nil, hd, hs, hr]
  exact hK _ _ h
theorem step_copy_rows {P : Program} {ops : Array Oper} {o : Oper} {a : Act} {w : World} {K : Act → World → Prop} {Q : Exit → Act → World → Prop} {E : Prop}
    (hg : o.guard = none) (d x : Operand) (dT sT : TypeId) (hop : o.op = Op.call { callee := Callee.builtin Builtin.copy, args := #[d, x], argTypes := #[dT, sT] })
    (v u : Value) (hd : a.eval d = v) (hx : a.eval x = u) {v' : Value} {w' : World} (hr : (Builtin.copy_ #[dT, sT] o.type #[v, u]).run P w = .ok v' w') (hK : K (a.put o.dst v') w') :
    if Region.wanted o (yielded ops a.tmps) = true then Oper.wp P o a w K Q else E := by
  have hw : Region.wanted o (yielded ops a.tmps) = true := by simp [Region.wanted, hg]
  rw [if_pos hw]
  unfold Oper.wp
  simp [execOp, hop, resolve, invoke, builtin, hd, hx, hr, Result.andThen]
  exact hK

/-! ### lists of cells -/
theorem flat_take {α β} {enc : α → List β} {sz : Nat} (hl : ∀ x, (enc x).length = sz) (xs : List α) (k : Nat) : (xs.take k).flatMap enc = (xs.flatMap enc).take (k * sz) := by
  induction xs generalizing k with
  | nil => simp
  | cons y ys ih =>
    cases k with
    | zero => simp
    | succ k => rw [List.take_succ_cons, List.flatMap_cons, List.flatMap_cons, ih, List.take_append, hl, show (k + 1) * sz - sz = k * sz by rw [Nat.succ_mul]; omega, List.take_of_length_le (l := enc y) (by rw [hl, Nat.succ_mul]; omega)]
theorem flat_drop {α β} {enc : α → List β} {sz : Nat} (hl : ∀ x, (enc x).length = sz) (xs : List α) (k : Nat) : (xs.drop k).flatMap enc = (xs.flatMap enc).drop (k * sz) := by
  induction xs generalizing k with
  | nil => simp
  | cons y ys ih =>
    cases k with
    | zero => simp
    | succ k => rw [List.drop_succ_cons, List.flatMap_cons, ih, List.drop_append, hl, show (k + 1) * sz - sz = k * sz by rw [Nat.succ_mul]; omega, List.drop_of_length_le (l := enc y) (by rw [hl, Nat.succ_mul]; omega), List.nil_append]
end Go.Proofs.Ytccllgpaafgjaaa
/- Taking a volume out of a row. -/

namespace Go.Proofs.Ytccllgpaafgjaaa
open Go.RowKit Go.Proofs.YtccllgpaafgjaaaW.PrintWords Go.Proofs.YtccllgpaafgjaaaW.PrintLast
set_option linter.unusedVariables false
set_option linter.unusedSimpArgs false

theorem zip_eraseIdx {α β} (xs : List α) (ys : List β) (i : Nat) (h : ys.length = xs.length) : (xs.eraseIdx i).zip (ys.eraseIdx i) = (xs.zip ys).eraseIdx i := by
  induction xs generalizing ys i with
  | nil => simp
  | cons x xs ih =>
    cases ys with
    | nil => simp at h
    | cons y ys =>
      cases i with
      | zero => rfl
      | succ i => simp [ih ys i (by simpa using h)]
theorem flat_erase {α β} {enc : α → List β} {sz : Nat} (hl : ∀ x, (enc x).length = sz) (xs : List α) (i : Nat) : (xs.eraseIdx i).flatMap enc = (xs.flatMap enc).take (i * sz) ++ (xs.flatMap enc).drop ((i + 1) * sz) := by
  rw [List.eraseIdx_eq_take_drop_succ, List.flatMap_append, flat_take hl, flat_drop hl]
theorem one_flatV {zs : List (Vol × Value)} (h : ∀ z ∈ zs, z.2.oneCell' = true) : ∀ u ∈ zs.flatMap encV, u.oneCell' = true := by
  intro u hu
  obtain ⟨z, hz, hu⟩ := List.mem_flatMap.1 hu
  simp [encV] at hu
  rcases hu with rfl | rfl
  · rfl
  · exact h z hz
theorem vol_zero (w : World) : (zeroValue 90).run Try.prog w = .ok (.agg #[.string ⟨#[]⟩, .slice none 0 0]) w := by
  have h := info_vol
  obtain ⟨i, hi, hz⟩ := Option.map_eq_some_iff.1 h
  simp only [Prod.mk.injEq] at hz
  simp [zeroValue, typeInfo, hi, hz.1]
/-- What a row of volumes is behind the deletion of one. -/
def Gone1 (w : World) (base g cap : Nat) (vs : List Vol) (bvs : List Value) (i : Nat) (e : Ending) (w' : World) : Prop :=
  e = .returned (.slice (some ⟨g, 0, none⟩) (vs.length - 1) cap) ∧ VRow w' base (.slice (some ⟨g, 0, none⟩) (vs.length - 1) cap) (vs.eraseIdx i) (bvs.eraseIdx i) ∧ w.grownBy w' (some g)
theorem gone_cells {L rest : List Value} {n i cap : Nat} (hL : L.length = n * 2) (hi : i < n) (hr : rest.length + n * 2 = cap * 2) :
    layL (layL (L ++ rest) (i * 2) (L.drop ((i + 1) * 2))) ((n - 1) * 2) [.string ⟨#[]⟩, .slice none 0 0] = (L.take (i * 2) ++ L.drop ((i + 1) * 2)) ++ (.string ⟨#[]⟩ :: .slice none 0 0 :: rest) := by
  have hd : (L.drop ((i + 1) * 2)).length = (n - 1 - i) * 2 := by rw [List.length_drop, hL]; omega
  apply List.ext_getElem?
  intro k
  rw [layL_get (by rw [layL_len (by rw [List.length_append, hd]; omega)]; simp; omega), layL_get (by rw [List.length_append, hd]; omega), hd]
  have ht : (L.take (i * 2)).length = i * 2 := by rw [List.length_take]; omega
  by_cases h1 : k < i * 2
  · rw [if_pos (by omega), if_pos h1, List.append_assoc, List.getElem?_append_left (by omega), List.getElem?_append_left (by omega), List.getElem?_take, if_pos h1]
  · by_cases h2 : k < (n - 1) * 2
    · rw [if_pos h2, if_neg h1, if_pos (by omega), List.append_assoc, List.getElem?_append_right (by omega), List.getElem?_append_left (by rw [hd]; omega), ht]
    · rw [if_neg h2, List.getElem?_append_right (show (L.take (i * 2) ++ L.drop ((i + 1) * 2)).length ≤ k by rw [List.length_append, ht, hd]; omega), List.length_append, ht, hd]
      by_cases h3 : k < (n - 1) * 2 + 2
      · rw [if_pos (by simpa using h3)]
        rcases (show k = (n - 1) * 2 ∨ k = (n - 1) * 2 + 1 by omega) with rfl | rfl
        · rw [show (n - 1) * 2 - (n - 1) * 2 = 0 by omega, show (n - 1) * 2 - (i * 2 + (n - 1 - i) * 2) = 0 by omega]; rfl
        · rw [show (n - 1) * 2 + 1 - (n - 1) * 2 = 1 by omega, show (n - 1) * 2 + 1 - (i * 2 + (n - 1 - i) * 2) = 1 by omega]; rfl
      · rw [if_neg (by simpa using h3), if_neg h1, if_neg (by omega), List.getElem?_append_right (by omega), show k - (i * 2 + (n - 1 - i) * 2) = (k - n * 2) + 2 by omega, hL]
        rfl

set_option maxHeartbeats 4000000 in
set_option maxRecDepth 100000 in
theorem delete_c {w : World} {base g cap : Nat} {vs : List Vol} {bvs : List Value} {i : Nat} (h : VRow w base (.slice (some ⟨g, 0, none⟩) vs.length cap) vs bvs) (h1 : ∀ b ∈ bvs, b.oneCell' = true) (hi : i < vs.length) :
    Calls Try.prog 112 #[.slice (some ⟨g, 0, none⟩) vs.length cap, .int .i64 i, .int .i64 ((i : Int) + 1)] w (Gone1 w base g cap vs bvs i) := by
  obtain ⟨hbg, hnc, hmax, hL, rest, hrl, hg⟩ := own_open h.row
  have hone : ∀ u ∈ (vs.zip bvs).flatMap encV, u.oneCell' = true := one_flatV fun z hz => h1 z.2 (List.of_mem_zip hz).2
  have hlen := h.len
  generalize hn : vs.length = n at *
  have HL : ((vs.zip bvs).flatMap encV).length = n * 2 := hL
  obtain ⟨L, hLe⟩ : ∃ L, L = (vs.zip bvs).flatMap encV := ⟨_, rfl⟩
  rw [← hLe] at hg hone HL
  have hcur : (L ++ rest).length = cap * 2 := by rw [List.length_append, HL]; omega
  obtain ⟨news, hnews⟩ : ∃ news, news = L.drop ((i + 1) * 2) := ⟨_, rfl⟩
  have hlenN : news.length = (n - (i + 1)) * 2 := by rw [hnews, List.length_drop, HL]; omega
  have hgd : w.drew.heap[g]? = some (.cells (L ++ rest).toArray 90 (0, 0)) := hg
  obtain ⟨A, hA, hsrc⟩ : ∃ A : Addr, (if cap = i + 1 then some (⟨g, 0, none⟩ : Addr) else some ⟨g, (i + 1) * 2, none⟩) = some A ∧ (∀ t u, news[t]? = some u → w.drew.cell? (A.add t) = some u) := by
    by_cases hc : cap = i + 1
    · refine ⟨⟨g, 0, none⟩, by simp [hc], fun t u hu => ?_⟩
      have h0 : news.length = 0 := by rw [hlenN]; omega
      rw [List.length_eq_zero_iff.1 h0] at hu
      simp at hu
    · refine ⟨⟨g, (i + 1) * 2, none⟩, by simp [hc], fun t u hu => ?_⟩
      rw [Addr.add_lit, cell_of_row hgd, List.getElem?_append_left (by have := ltQ hu; omega)]
      rwa [hnews, List.getElem?_drop] at hu
  have s2 : ∀ u ∈ news, u.oneCell' = true := fun u hu => hone u (List.mem_of_mem_drop (hnews ▸ hu))
  have s3 : ∀ t, t < news.length → (w.drew.cell? ⟨g, 0 + i * 2 + t, none⟩).isSome = true ∧ w.drew.frozen? ⟨g, 0 + i * 2 + t, none⟩ = false := fun t ht => by
    refine ⟨?_, free_of_row hgd _⟩
    rw [cell_of_row hgd]
    rw [List.getElem?_eq_getElem (by rw [hcur]; omega)]; rfl
  obtain ⟨W1, hW1⟩ : ∃ W1, W1 = w.drew.setCells g (0 + i * 2) news := ⟨_, rfl⟩
  have hh1 : W1.heap[g]? = some (.cells (layL (L ++ rest) (i * 2) news).toArray 90 (0, 0)) := by
    rw [hW1, Nat.zero_add]; exact setCells_heap news (i * 2) (L ++ rest) w.drew hgd (by rw [hcur, hlenN]; omega)
  have hl1 : (layL (L ++ rest) (i * 2) news).length = cap * 2 := by rw [layL_len (by rw [hcur, hlenN]; omega), hcur]
  have hcl : ∀ ty c, (Builtin.clear_ #[47] ty #[.slice (some ⟨g, (n - 1) * 2, none⟩) 1 c]).run Try.prog W1 = .ok (.tuple #[]) (W1.setCells g ((n - 1) * 2) [.string ⟨#[]⟩, .slice none 0 0]) := fun ty c =>
    run_clear_rows W1 _ 90 ty _ Try.underlying47 vol_zero g ((n - 1) * 2) 1 c [.string ⟨#[]⟩, .slice none 0 0] (by kernel_rfl) (by intro v hv; simp at hv; rcases hv with rfl | rfl <;> rfl) (by omega)
      (fun j hj => by rw [cell_of_row hh1, List.getElem?_eq_getElem (by rw [hl1]; simp at hj; omega)]; rfl) (fun j hj => free_of_row hh1 _)
  have hfin : (W1.setCells g ((n - 1) * 2) [.string ⟨#[]⟩, .slice none 0 0]).heap[g]? = some (.cells ((L.take (i * 2) ++ L.drop ((i + 1) * 2)) ++ (.string ⟨#[]⟩ :: .slice none 0 0 :: rest)).toArray 90 (0, 0)) := by
    rw [← gone_cells HL hi hrl, ← hnews]
    exact setCells_heap _ _ _ _ hh1 (by rw [hl1]; simp; omega)
  have hgr : w.grownBy (W1.setCells g ((n - 1) * 2) [.string ⟨#[]⟩, .slice none 0 0]) (some g) := grown_tr (by rw [hW1]; exact grown_tr (grown_drew w _) (grown_setCells g _ _ _)) (grown_setCells g _ _ _)
  have hgone : VRow (W1.setCells g ((n - 1) * 2) [.string ⟨#[]⟩, .slice none 0 0]) base (.slice (some ⟨g, 0, none⟩) (n - 1) cap) (vs.eraseIdx i) (bvs.eraseIdx i) := by
    have e1 : (vs.eraseIdx i).length = n - 1 := by rw [List.length_eraseIdx_of_lt (by omega), hn]
    refine ⟨by rw [e1, List.length_eraseIdx_of_lt (by omega), hlen], ?_⟩
    rw [e1, zip_eraseIdx _ _ _ (by rw [hlen, hn]), flat_erase encV_len, ← hLe]
    exact own_close hbg (by omega) hmax (by rw [List.length_append, List.length_take, List.length_drop, HL]; omega) (by simp; omega) hfin
  obtain ⟨i0, hi0, hz⟩ := Option.map_eq_some_iff.1 info_vol
  simp only [Prod.mk.injEq] at hz
  have G1 := Lib.hid (And.intro hgone hgr)
  have I0 := Lib.hid hi0
  have I1 := Lib.hid hz.2.1
  have HS := Lib.hid hsrc
  have S1 := Lib.hid hlenN
  have S2 := Lib.hid s2
  have S3 := Lib.hid s3
  have HW := Lib.hid hW1
  have HC := Lib.hid hcl
  clear hcl hW1 s2 s3 hlenN hsrc hi0 hz hgone hgr hfin hl1 hh1 hgd hnews hcur HL hg hone hLe hrl hL h1 h hlen
  go_enter Try.func112, Try.ntmps112
  go_wp2_with fail
  have hic : i ≤ cap := by omega
  have hjc : i + 1 ≤ cap := by omega
  have mixed : Try.prog.follows .mixedOrders = true := by kernel_rfl
  have hi1 : (0 : Int) ≤ (i : Int) + 1 := by omega
  have hi2 : (i : Int) + 1 ≤ (n : Int) := by omega
  have hi3 : ((i : Int) + 1).toNat = i + 1 := by omega
  go_region_law_o (refine step_append_room rfl (.tmp 22) (.tmp 25) 47 rfl 90 i0 2 Try.underlying47 I0.out I1.out g 0 i cap (by simp [Act.eval, Act.put]) A (n - (i + 1)) (cap - (i + 1)) news (by simp [Act.eval, Act.put]) S1.out HS.out S2.out (by omega) S3.out ?_; rw [← HW.out])
  have hq1 : i + (n - (i + 1)) = n - 1 := by omega
  have hq2 : n - (n - 1) = 1 := by omega
  have hq3 : ¬ cap = n - 1 := by omega
  have hq4 : n - 1 ≤ n := by omega
  rw [hq1]
  have hcl := HC.out
  go_wp2
  go_ret
  subst hn
  exact ⟨rfl, G1.out.1, G1.out.2⟩
end Go.Proofs.Ytccllgpaafgjaaa
/- Putting a volume into a row. -/

namespace Go.Proofs.Ytccllgpaafgjaaa
open Go.RowKit Go.Proofs.YtccllgpaafgjaaaW.PrintWords Go.Proofs.YtccllgpaafgjaaaW.PrintLast
set_option linter.unusedVariables false
set_option linter.unusedSimpArgs false

def insAt {α} (i : Nat) (x : α) (xs : List α) : List α := xs.take i ++ x :: xs.drop i
theorem insAt_len {α} {i : Nat} {x : α} {xs : List α} (h : i ≤ xs.length) : (insAt i x xs).length = xs.length + 1 := by simp [insAt]; omega
theorem insAt_end {α} (x : α) (xs : List α) : insAt xs.length x xs = xs ++ [x] := by simp [insAt]
theorem zip_insAt {α β} (xs : List α) (ys : List β) (i : Nat) (x : α) (y : β) (h : ys.length = xs.length) (hi : i ≤ xs.length) : (insAt i x xs).zip (insAt i y ys) = insAt i (x, y) (xs.zip ys) := by
  unfold insAt
  rw [List.zip_append (by simp; omega), List.zip_cons_cons, List.zip_eq_zipWith, List.zip_eq_zipWith, List.zip_eq_zipWith, List.take_zipWith, List.drop_zipWith]
theorem flat_insAt {α β} {enc : α → List β} {sz : Nat} (hl : ∀ x, (enc x).length = sz) (xs : List α) (x : α) (i : Nat) : (insAt i x xs).flatMap enc = (xs.flatMap enc).take (i * sz) ++ (enc x ++ (xs.flatMap enc).drop (i * sz)) := by
  unfold insAt
  rw [List.flatMap_append, List.flatMap_cons, flat_take hl, flat_drop hl]
/-- What a row of volumes is behind the insertion of one. -/
def Ins1 (w : World) (base : Nat) (v : Value) (vs : List Vol) (bvs : List Value) (i : Nat) (x : Vol) (b : Value) (e : Ending) (w' : World) : Prop :=
  ∃ v', e = .returned v' ∧ VRow w' base v' (insAt i x vs) (insAt i b bvs) ∧ w.grownBy w' v.ownBlock
theorem row_end {w : World} {base : Nat} {v' : Value} {vs : List Vol} {bvs : List Value} {x : Vol} {b : Value} (hlen : bvs.length = vs.length) (h : w.ownsRow base 90 2 v' (vs.length + 1) ((vs.zip bvs).flatMap encV ++ encV (x, b))) : VRow w base v' (insAt vs.length x vs) (insAt vs.length b bvs) := by
  rw [insAt_end, show vs.length = bvs.length from hlen.symm, insAt_end]
  refine ⟨by simp [hlen], ?_⟩
  rw [List.zip_append hlen.symm, List.flatMap_append, List.length_append]
  simpa using h

set_option maxHeartbeats 4000000 in
set_option maxRecDepth 100000 in
theorem insert_end_c {W : World} {base : Nat} {v : Value} {vs : List Vol} {bvs : List Value} {x : Vol} {b : Value} (h : VRow W base v vs bvs) (hbase : base ≤ W.heap.size) (hb : b.oneCell' = true) (hl : vs.length ≤ 1048576) :
    Calls Try.prog 130 #[v, .int .i64 vs.length, .slice (some ⟨W.heap.size, 0, none⟩) 1 1] (W.alloc (.cells #[.string x.name, b] 90)) (Ins1 W base v vs bvs vs.length x b) := by
  obtain ⟨A, c, rfl, hc⟩ := own_cap h.row
  have H := Lib.hid h
  clear h
  have h1 : ∀ u ∈ encV (x, b), u.oneCell' = true := by intro u hu; simp [encV] at hu; rcases hu with rfl | rfl; rfl; exact hb
  have H1 := Lib.hid h1
  clear h1
  generalize hn : vs.length = n at hc hl ⊢
  have HN := Lib.hid hn
  clear hn
  have hres : ∃ A2 n2 c2, (if c = n then A else A.map (·.add (n * 2))) = A2 := ⟨_, 0, 0, rfl⟩
  cases A with
  | none =>
    have hn0 : n = 0 := by
      rcases H.out.row.2 with ⟨_, h0⟩ | ⟨g, cap, cur, e, _⟩
      · rw [← HN.out]; exact h0
      · cases e
    subst hn0
    obtain rfl : c = 0 := by
      rcases H.out.row.2 with ⟨e, h0⟩ | ⟨g, cap, cur, e, _⟩
      · injection e
      · cases e
    go_enter Try.func130, Try.ntmps130
    go_wp2_with (at_builtin; refine print_append_cells (w0 := W) base rfl (.tmp 23) (.tmp 24) 47 90 (.agg #[.string ⟨#[]⟩, .slice none 0 0]) 2 40 rfl Try.underlying47 info_vol rfl (by decide) (by decide) _ 0 ((vs.zip bvs).flatMap encV) (encV (x, b)) rfl rfl rfl H1.out (HN.out ▸ H.out.row) ((Below.refl _ W).mono hbase) hbase (by omega) ?_; intro v2 w2 hr2 hb2 hg2 hat2; clear hat2)
    go_ret
    refine ⟨_, rfl, ?_, hg2⟩
    have := row_end (x := x) (b := b) (v' := v2) H.out.len (by rw [HN.out]; exact hr2)
    rwa [HN.out] at this
  | some ad =>
    go_enter Try.func130, Try.ntmps130
    go_wp2_with (at_builtin; refine print_append_cells (w0 := W) base rfl (.tmp 23) (.tmp 24) 47 90 (.agg #[.string ⟨#[]⟩, .slice none 0 0]) 2 40 rfl Try.underlying47 info_vol rfl (by decide) (by decide) _ n ((vs.zip bvs).flatMap encV) (encV (x, b)) rfl rfl rfl H1.out (HN.out ▸ H.out.row) ((Below.refl _ W).mono hbase) hbase (by omega) ?_; intro v2 w2 hr2 hb2 hg2 hat2; clear hat2)
    all_goals
      go_ret
      refine ⟨_, rfl, ?_, hg2⟩
      have := row_end (x := x) (b := b) (v' := v2) H.out.len (by rw [HN.out]; exact hr2)
      rwa [HN.out] at this
theorem room_cells {L rest E : List Value} {n i cap : Nat} (hL : L.length = n * 2) (hE : E.length = 2) (hi : i ≤ n) (hc : n + 1 ≤ cap) (hr : rest.length + n * 2 = cap * 2) :
    layL (layL (L ++ rest) ((i + 1) * 2) (L.drop (i * 2))) (i * 2) E = (L.take (i * 2) ++ (E ++ L.drop (i * 2))) ++ rest.drop 2 := by
  have hd : (L.drop (i * 2)).length = (n - i) * 2 := by rw [List.length_drop, hL]; omega
  have ht : (L.take (i * 2)).length = i * 2 := by rw [List.length_take]; omega
  apply List.ext_getElem?
  intro k
  rw [layL_get (by rw [layL_len (by rw [List.length_append, hd]; omega)]; simp; omega), layL_get (by rw [List.length_append, hd]; omega), hd, hE, List.append_assoc, List.append_assoc]
  by_cases h1 : k < i * 2
  · rw [if_pos h1, if_pos (by omega), List.getElem?_append_left (by omega), List.getElem?_append_left (by omega), List.getElem?_take, if_pos h1]
  · rw [if_neg h1]
    by_cases h2 : k < i * 2 + 2
    · rw [if_pos h2, List.getElem?_append_right (by omega), List.getElem?_append_left (by omega), ht]
    · rw [if_neg h2, if_neg (by omega), List.getElem?_append_right (show (L.take (i * 2)).length ≤ k by omega), List.getElem?_append_right (show E.length ≤ k - (L.take (i * 2)).length by omega), ht, hE]
      by_cases h3 : k < (i + 1) * 2 + (n - i) * 2
      · rw [if_pos h3, List.getElem?_append_left (by rw [hd]; omega)]
        congr 1
        omega
      · rw [if_neg h3, List.getElem?_append_right (by omega), List.getElem?_append_right (by rw [hd]; omega), List.getElem?_drop, hd, hL]
        congr 1
        omega
theorem size_vol : (Try.prog.info? 90).map (·.size) = some 2 := by kernel_rfl

set_option maxHeartbeats 4000000 in
set_option maxRecDepth 100000 in
theorem insert_room_c {W : World} {base g cap : Nat} {vs : List Vol} {bvs : List Value} {x : Vol} {b : Value} {i : Nat} (h : VRow W base (.slice (some ⟨g, 0, none⟩) vs.length cap) vs bvs) (hbase : base ≤ W.heap.size) (h1 : ∀ b ∈ bvs, b.oneCell' = true) (hb : b.oneCell' = true) (hi : i < vs.length) (hroom : vs.length + 1 ≤ cap) :
    Calls Try.prog 130 #[.slice (some ⟨g, 0, none⟩) vs.length cap, .int .i64 i, .slice (some ⟨W.heap.size, 0, none⟩) 1 1] (W.alloc (.cells #[.string x.name, b] 90)) (Ins1 W base (.slice (some ⟨g, 0, none⟩) vs.length cap) vs bvs i x b) := by
  obtain ⟨hbg, hnc, hmax, hL, rest, hrl, hg⟩ := own_open h.row
  have hone : ∀ u ∈ (vs.zip bvs).flatMap encV, u.oneCell' = true := one_flatV fun z hz => h1 z.2 (List.of_mem_zip hz).2
  have hlen := h.len
  have hgW : g < W.heap.size := (Array.getElem?_eq_some_iff.1 hg).1
  obtain ⟨w, hw⟩ : ∃ w, w = W.alloc (.cells #[.string x.name, b] 90) := ⟨_, rfl⟩
  have hgw : w.heap[g]? = some (.cells (((vs.zip bvs).flatMap encV) ++ rest).toArray 90 (0, 0)) := by rw [hw]; exact Blk.alloc (show Blk W g _ _ from hg) _
  have hvw : w.heap[W.heap.size]? = some (.cells [.string x.name, b].toArray 90 (0, 0)) := by rw [hw]; exact Blk.new W _ _
  have hgrw : W.grownBy w (some g) := by rw [hw]; exact World.grownBy_alloc W _ _
  obtain ⟨vb, hvb⟩ : ∃ vb, vb = W.heap.size := ⟨_, rfl⟩
  rw [← hw, ← hvb]
  rw [← hvb] at hvw
  have hne : vb ≠ g := by omega
  generalize hn : vs.length = n at *
  have HL : ((vs.zip bvs).flatMap encV).length = n * 2 := hL
  obtain ⟨L, hLe⟩ : ∃ L, L = (vs.zip bvs).flatMap encV := ⟨_, rfl⟩
  rw [← hLe] at hgw hone HL
  have hcur : (L ++ rest).length = cap * 2 := by rw [List.length_append, HL]; omega
  have hdl : (L.drop (i * 2)).length = (n - i) * 2 := by rw [List.length_drop, HL]; omega
  have hgd : w.drew.heap[g]? = some (.cells (L ++ rest).toArray 90 (0, 0)) := hgw
  have hov : ∀ lb cb, (callFunc 140 #[.slice (some ⟨vb, 0, none⟩) 1 1, .slice (some ⟨g, (i + 1) * 2, none⟩) lb cb]).run Try.prog w = .ok (.value (.bool false)) w := fun lb cb => by
    rw [run_callFunc_extern Try.func140 (by kernel_rfl) (by kernel_rfl) (by kernel_rfl) (e := Extern.SlicesOverlaps.overlaps #[47, 47] #[4]) (by kernel_rfl),
      Lib.run_overlaps_apart w 47 4 90 Try.underlying47 2 (fun w => by
        obtain ⟨i0, hi0, hz⟩ := Option.map_eq_some_iff.1 info_vol
        simp only [Prod.mk.injEq] at hz
        simp [sizeOf, typeInfo, hi0, hz.2.1]) ⟨vb, 0, none⟩ ⟨g, (i + 1) * 2, none⟩ 1 1 lb cb hne 90 90 2 (cap * 2) (by simp [World.shape?, hvw]) (by simp [World.shape?, hgw, ← hcur]) (by omega) (free_of_row hvw 0) (free_of_row hvw 2)]
    rfl
  have hcp1 : ∀ ty dc sc, (Builtin.copy_ #[47, 47] ty #[.slice (some ⟨g, (i + 1) * 2, none⟩) (n - i) dc, .slice (some ⟨g, i * 2, none⟩) (n + 1 - i) sc]).run Try.prog w.drew = .ok (goInt (Nat.min (n + 1 - i) (n - i))) (w.drew.setCells g ((i + 1) * 2) (L.drop (i * 2))) := fun ty dc sc =>
    run_copy_rows w.drew _ _ ty 90 2 g ((i + 1) * 2) _ dc ⟨g, i * 2, none⟩ _ sc (L.drop (i * 2)) Try.underlying47 size_vol (by rw [hdl]; simp only [Nat.min_def]; split <;> omega)
      (fun j v hj => by
        rw [Addr.add_lit, cell_of_row hgd, List.getElem?_append_left (by have := ltQ hj; omega)]
        rwa [List.getElem?_drop] at hj)
      (fun j hj => by rw [cell_of_row hgd, List.getElem?_eq_getElem (by rw [hcur]; omega)]; rfl) (fun j hj => free_of_row hgd _) (fun v hv => hone v (List.mem_of_mem_drop hv))
  obtain ⟨W1, hW1⟩ : ∃ W1, W1 = w.drew.setCells g ((i + 1) * 2) (L.drop (i * 2)) := ⟨_, rfl⟩
  rw [← hW1] at hcp1
  have hh1 : W1.heap[g]? = some (.cells (layL (L ++ rest) ((i + 1) * 2) (L.drop (i * 2))).toArray 90 (0, 0)) := by
    rw [hW1]; exact setCells_heap _ _ (L ++ rest) w.drew hgd (by rw [hcur, hdl]; omega)
  have hl1 : (layL (L ++ rest) ((i + 1) * 2) (L.drop (i * 2))).length = cap * 2 := by rw [layL_len (by rw [hcur, hdl]; omega), hcur]
  have hv1 : W1.heap[vb]? = some (.cells [.string x.name, b].toArray 90 (0, 0)) := by
    rw [hW1]; exact ((grown_setCells g (L.drop (i * 2)) ((i + 1) * 2) w.drew).block vb (Array.getElem?_eq_some_iff.1 hvw).1 (by simpa using hne)).trans hvw
  have hcp2 : ∀ ty dc, (Builtin.copy_ #[47, 47] ty #[.slice (some ⟨g, i * 2, none⟩) (n + 1 - i) dc, .slice (some ⟨vb, 0, none⟩) 1 1]).run Try.prog W1 = .ok (goInt 1) (W1.setCells g (i * 2) [.string x.name, b]) := fun ty dc => by
    have := run_copy_rows (P := Try.prog) W1 47 47 ty 90 2 g (i * 2) (n + 1 - i) dc ⟨vb, 0, none⟩ 1 1 [.string x.name, b] Try.underlying47 size_vol (by simp only [Nat.min_def]; split <;> simp <;> omega)
      (fun j v hj => by rw [Addr.add_lit, Nat.zero_add, cell_of_row hv1]; exact hj)
      (fun j hj => by rw [cell_of_row hh1, List.getElem?_eq_getElem (by rw [hl1]; simp at hj; omega)]; rfl) (fun j hj => free_of_row hh1 _) (by intro v hv; simp at hv; rcases hv with rfl | rfl; rfl; exact hb)
    rwa [show Nat.min 1 (n + 1 - i) = 1 by simp only [Nat.min_def]; split <;> omega] at this
  have hfin : (W1.setCells g (i * 2) [.string x.name, b]).heap[g]? = some (.cells ((L.take (i * 2) ++ ([.string x.name, b] ++ L.drop (i * 2))) ++ rest.drop 2).toArray 90 (0, 0)) := by
    rw [← room_cells HL rfl (Nat.le_of_lt hi) hroom hrl]
    exact setCells_heap _ _ _ _ hh1 (by rw [hl1]; simp; omega)
  have hgr : W.grownBy (W1.setCells g (i * 2) [.string x.name, b]) (some g) := grown_tr hgrw (grown_tr (by rw [hW1]; exact grown_tr (grown_drew w _) (grown_setCells g _ _ _)) (grown_setCells g _ _ _))
  have hins : VRow (W1.setCells g (i * 2) [.string x.name, b]) base (.slice (some ⟨g, 0, none⟩) (n + 1) cap) (insAt i x vs) (insAt i b bvs) := by
    have e1 : (insAt i x vs).length = n + 1 := by rw [insAt_len (by omega), hn]
    refine ⟨by rw [e1, insAt_len (by omega), hlen], ?_⟩
    rw [e1, zip_insAt _ _ _ _ _ (by rw [hlen, hn]) (by omega), flat_insAt encV_len, ← hLe]
    exact own_close hbg (by omega) hmax (by simp [encV, HL]; omega) (by simp; omega) hfin
  have G1 := Lib.hid (And.intro hins hgr)
  have HN := Lib.hid hn
  have w1 : IntKind.i64.wrap ((i : Int) + 1) = (i : Int) + 1 := by rw [IntKind.wrap_i64]; omega
  clear hins hgr hfin hv1 hl1 hh1 hW1 hgd hdl hcur HL hone hgrw hvw hgw hg hw hvb hL hlen hLe hrl h1 h hgW
  have hin : i ≤ n := by omega
  have hz2 : ¬ ((i : Int) = (n : Int)) := by omega
  have hb1 : (0 : Int) ≤ (i : Int) + 1 := by omega
  have htn : ((i : Int) + 1).toNat = i + 1 := by omega
  have htn2 : ((n : Int) + 1).toNat = n + 1 := by omega
  have hb2 : ¬ (cap = i + 1) := by omega
  have hb3 : (i : Int) ≤ (n : Int) + 1 := by omega
  have hb4 : ¬ (cap = i) := by omega
  have hb5 : (n : Int) + 1 ≤ (cap : Int) := by omega
  have hb6 : ¬ ((cap : Int) < (n : Int) + 1) := by omega
  have hb7 : (0 : Int) ≤ (n : Int) + 1 := by omega
  have mixed : Try.prog.follows .mixedOrders = true := by kernel_rfl
  go_enter Try.func130, Try.ntmps130
  go_wp2_with (simp only [hov])
  go_region_law_o (refine step_copy_rows rfl _ _ 47 47 rfl _ _ (by simp [Act.eval, Act.put]) (by simp [Act.eval, Act.put]) (hcp1 _ _ _) ?_)
  go_wp2_with (at_builtin; refine wpList_copy_rows _ rfl _ _ 47 47 rfl _ _ rfl rfl (hcp2 _ _) ?_)
  go_ret
  exact ⟨_, rfl, G1.out.1, G1.out.2⟩
end Go.Proofs.Ytccllgpaafgjaaa
/- Putting a volume into a row that has no room: a new row. -/

namespace Go.Proofs.Ytccllgpaafgjaaa
open Go.RowKit Go.Proofs.YtccllgpaafgjaaaW.PrintWords Go.Proofs.YtccllgpaafgjaaaW.PrintLast
set_option linter.unusedVariables false
set_option linter.unusedSimpArgs false

theorem grow_cells {L Z E : List Value} {n i cap : Nat} (hL : L.length = n * 2) (hE : E.length = 2) (hi : i ≤ n) (hc : n + 1 ≤ cap) (hr : Z.length + i * 2 = cap * 2) :
    layL (layL (L.take (i * 2) ++ Z) (i * 2) E) ((i + 1) * 2) (L.drop (i * 2)) = (L.take (i * 2) ++ (E ++ L.drop (i * 2))) ++ Z.drop ((n + 1 - i) * 2) := by
  have hd : (L.drop (i * 2)).length = (n - i) * 2 := by rw [List.length_drop, hL]; omega
  have ht : (L.take (i * 2)).length = i * 2 := by rw [List.length_take]; omega
  apply List.ext_getElem?
  intro k
  rw [layL_get (by rw [layL_len (by rw [List.length_append, ht, hE]; omega)]; simp; omega), layL_get (by rw [List.length_append, ht, hE]; omega), hd, hE, List.append_assoc, List.append_assoc]
  by_cases h1 : k < i * 2
  · rw [if_pos h1, if_pos (by omega), List.getElem?_append_left (by omega), List.getElem?_append_left (by omega)]
  · rw [if_neg h1]
    by_cases h2 : k < i * 2 + 2
    · rw [if_pos h2, if_pos (by omega), List.getElem?_append_right (by omega), List.getElem?_append_left (by omega), ht]
    · rw [if_neg h2, if_neg (by omega), List.getElem?_append_right (show (L.take (i * 2)).length ≤ k by omega), List.getElem?_append_right (show (L.take (i * 2)).length ≤ k by omega), List.getElem?_append_right (show E.length ≤ k - (L.take (i * 2)).length by omega), ht, hE]
      by_cases h3 : k < (i + 1) * 2 + (n - i) * 2
      · rw [if_pos h3, List.getElem?_append_left (by rw [hd]; omega)]
        congr 1
        omega
      · rw [if_neg h3, List.getElem?_append_right (by rw [hd]; omega), List.getElem?_drop, hd]
        congr 1
        omega
theorem wpList_append_run {P : Program} (w : World) {ops : Array Oper} {rest : List Oper} {o : Oper} {a : Act} {Q : Exit → Act → World → Prop} (hgd : o.guard = none) (d s : Operand) (t t' : TypeId)
    (ho : o.op = .call { callee := .builtin .append, args := #[d, s], argTypes := #[t, t'] }) (v u : Value) (hd : a.eval d = v) (hs : a.eval s = u) {v' : Value} {w' : World}
    (hr : (Builtin.append_ #[t, t'] o.type #[v, u]).run P w = .ok v' w') (h : wpList P ops Q rest (a.put o.dst v') w') : wpList P ops Q (o :: rest) a w := by
  refine wpList_plain hgd fun K hK => ?_
  unfold Oper.wp execOp
  simp only [ho, resolve, invoke, builtin, Sem.run_bind, Sem.run_pure, Result.andThen_ok, List.map_toArray, List.map_cons, List.map_nil, hd, hs, hr]
  exact hK _ _ h

set_option maxHeartbeats 4000000 in
set_option maxRecDepth 100000 in
theorem insert_grow_c {W : World} {base g cap : Nat} {vs : List Vol} {bvs : List Value} {x : Vol} {b : Value} {i : Nat} (h : VRow W base (.slice (some ⟨g, 0, none⟩) vs.length cap) vs bvs) (hbase : base ≤ W.heap.size) (h1 : ∀ b ∈ bvs, b.oneCell' = true) (hb : b.oneCell' = true) (hi : i < vs.length) (hroom : cap < vs.length + 1) (hl : vs.length ≤ 1048576) :
    Calls Try.prog 130 #[.slice (some ⟨g, 0, none⟩) vs.length cap, .int .i64 i, .slice (some ⟨W.heap.size, 0, none⟩) 1 1] (W.alloc (.cells #[.string x.name, b] 90)) (Ins1 W base (.slice (some ⟨g, 0, none⟩) vs.length cap) vs bvs i x b) := by
  obtain ⟨hbg, hnc, hmax, hL, rest, hrl, hg⟩ := own_open h.row
  have hone : ∀ u ∈ (vs.zip bvs).flatMap encV, u.oneCell' = true := one_flatV fun z hz => h1 z.2 (List.of_mem_zip hz).2
  have hlen := h.len
  have hgW : g < W.heap.size := (Array.getElem?_eq_some_iff.1 hg).1
  obtain ⟨w, hw⟩ : ∃ w, w = W.alloc (.cells #[.string x.name, b] 90) := ⟨_, rfl⟩
  have hgw : w.heap[g]? = some (.cells (((vs.zip bvs).flatMap encV) ++ rest).toArray 90 (0, 0)) := by rw [hw]; exact Blk.alloc (show Blk W g _ _ from hg) _
  have hvw : w.heap[W.heap.size]? = some (.cells [.string x.name, b].toArray 90 (0, 0)) := by rw [hw]; exact Blk.new W _ _
  have hgrw : W.grownBy w (some g) := by rw [hw]; exact World.grownBy_alloc W _ _
  have hWw : W.heap.size < w.heap.size := by rw [hw]; simp
  obtain ⟨vb, hvb⟩ : ∃ vb, vb = W.heap.size := ⟨_, rfl⟩
  rw [← hw, ← hvb]
  rw [← hvb] at hvw hWw
  generalize hn : vs.length = n at *
  have HL : ((vs.zip bvs).flatMap encV).length = n * 2 := hL
  obtain ⟨L, hLe⟩ : ∃ L, L = (vs.zip bvs).flatMap encV := ⟨_, rfl⟩
  rw [← hLe] at hgw hone HL
  have hdl : (L.drop (i * 2)).length = (n - i) * 2 := by rw [List.length_drop, HL]; omega
  have htl : (L.take (i * 2)).length = i * 2 := by rw [List.length_take, HL]; omega
  have hgd : w.drew.heap[g]? = some (.cells (L ++ rest).toArray 90 (0, 0)) := hgw
  obtain ⟨i0, hi0, hz⟩ := Option.map_eq_some_iff.1 info_vol
  simp only [Prod.mk.injEq] at hz
  obtain ⟨hz0, hzs, hzb⟩ := hz
  have hkk : (n : Int) + 1 - (i : Int) = ((n + 1 - i : Nat) : Int) := by omega
  have hik : i + (n + 1 - i) = n + 1 := by omega
  have hold : (Builtin.firstCells i0.size i (.slice (some ⟨g, 0, none⟩) i cap)).run Try.prog w.drew = .ok (L.take (i * 2)).toArray w.drew := by
    rw [hzs]
    exact run_firstCells_some w.drew 2 i ⟨g, 0, none⟩ i cap (L.take (i * 2)) htl (fun j v hj => by
      rw [Addr.add_lit, Nat.zero_add, cell_of_row hgd]
      have hjl := ltQ hj
      rw [List.getElem?_append_left (by omega)]
      rwa [List.getElem?_take, if_pos (by omega)] at hj)
  have hrz : ∀ ty, (Builtin.append_ #[47, 3] ty #[.slice (some ⟨g, 0, none⟩) i cap, .int .i64 ((n : Int) + 1 - (i : Int))]).run Try.prog w =
      .ok (.slice (some ⟨w.heap.size, 0, none⟩) (n + 1) (grownCap w (n + 1) cap 90)) (w.drew.alloc (.cells ((L.take (i * 2)).toArray ++ Builtin.zeroCells (Value.agg #[.string ⟨#[]⟩, .slice none 0 0]).cells (n + 1 - i) ++ Builtin.zeroCells (Value.agg #[.string ⟨#[]⟩, .slice none 0 0]).cells (grownCap w (n + 1) cap 90 - (n + 1))) 90)) := fun ty => by
    have h := Lib.run_append_grow_zeros w 47 3 ty 90 i0 _ .i64 .i64 Try.underlying47 Try.underlying3 hi0 hz0 (some ⟨g, 0, none⟩) i cap (L.take (i * 2)) hold (n + 1 - i) (by omega) (by omega) (by omega) (by omega) (by rw [hzb]; omega) (by rw [hzb, hik]; exact growslice_fits hroom (by omega))
    rw [hik] at h
    rw [hkk]
    exact h
  have hGn : n + 1 ≤ grownCap w (n + 1) cap 90 := grownCap_ge w _ _ _
  have hG63 : grownCap w (n + 1) cap 90 ≤ 9223372036854775807 := by
    have := grownCap_le_maxLen w (n + 1) cap 90 (by unfold maxLen; omega)
    unfold maxLen at this
    omega
  generalize grownCap w (n + 1) cap 90 = G at hrz hGn hG63
  obtain ⟨Z, hZ⟩ : ∃ Z, Z = (Builtin.zeroCells (Value.agg #[.string ⟨#[]⟩, .slice none 0 0]).cells (n + 1 - i)).toList ++ (Builtin.zeroCells (Value.agg #[.string ⟨#[]⟩, .slice none 0 0]).cells (G - (n + 1))).toList := ⟨_, rfl⟩
  have hZl : Z.length + i * 2 = G * 2 := by rw [hZ]; simp [Builtin.zeroCells, Value.cells]; omega
  have hROW : ((L.take (i * 2)).toArray ++ Builtin.zeroCells (Value.agg #[.string ⟨#[]⟩, .slice none 0 0]).cells (n + 1 - i) ++ Builtin.zeroCells (Value.agg #[.string ⟨#[]⟩, .slice none 0 0]).cells (G - (n + 1))) = (L.take (i * 2) ++ Z).toArray := by
    rw [hZ]; apply Array.ext'; simp
  rw [hROW] at hrz
  have hrowl : (L.take (i * 2) ++ Z).length = G * 2 := by rw [List.length_append, htl]; omega
  obtain ⟨N, hN⟩ : ∃ N, N = w.heap.size := ⟨_, rfl⟩
  rw [← hN] at hrz hWw
  have hgN : g ≠ N := by have := (Array.getElem?_eq_some_iff.1 hgw).1; omega
  have hvN : vb ≠ N := by omega
  have hcpA : ∀ (W0 : World), W0.heap = (w.alloc (.cells (L.take (i * 2) ++ Z).toArray 90)).heap → ∀ ty dc, (Builtin.copy_ #[47, 47] ty #[.slice (some ⟨N, i * 2, none⟩) (n + 1 - i) dc, .slice (some ⟨vb, 0, none⟩) 1 1]).run Try.prog W0 = .ok (goInt 1) (W0.setCells N (i * 2) [.string x.name, b]) := fun W0 hW0 ty dc => by
    have e1 : W0.heap[N]? = some (.cells (L.take (i * 2) ++ Z).toArray 90 (0, 0)) := by rw [hW0, hN]; exact Blk.new w _ _
    have e2 : W0.heap[vb]? = some (.cells [.string x.name, b].toArray 90 (0, 0)) := by rw [hW0]; exact Blk.alloc (show Blk w vb _ _ from hvw) _
    have := run_copy_rows (P := Try.prog) W0 47 47 ty 90 2 N (i * 2) (n + 1 - i) dc ⟨vb, 0, none⟩ 1 1 [.string x.name, b] Try.underlying47 size_vol (by simp only [Nat.min_def]; split <;> simp <;> omega)
      (fun j v hj => by rw [Addr.add_lit, Nat.zero_add, cell_of_row e2]; exact hj)
      (fun j hj => by rw [cell_of_row e1, List.getElem?_eq_getElem (by rw [hrowl]; simp at hj; omega)]; rfl) (fun j hj => free_of_row e1 _) (by intro v hv; simp at hv; rcases hv with rfl | rfl; rfl; exact hb)
    rwa [show Nat.min 1 (n + 1 - i) = 1 by simp only [Nat.min_def]; split <;> omega] at this
  have hcpB : ∀ (W0 : World), W0.heap = ((w.alloc (.cells (L.take (i * 2) ++ Z).toArray 90)).setCells N (i * 2) [.string x.name, b]).heap → ∀ ty dc sc, (Builtin.copy_ #[47, 47] ty #[.slice (some ⟨N, (i + 1) * 2, none⟩) (n - i) dc, .slice (some ⟨g, i * 2, none⟩) (n - i) sc]).run Try.prog W0 = .ok (goInt (Nat.min (n - i) (n - i))) (W0.setCells N ((i + 1) * 2) (L.drop (i * 2))) := fun W0 hW0 ty dc sc => by
    have e1 : W0.heap[N]? = some (.cells (layL (L.take (i * 2) ++ Z) (i * 2) [.string x.name, b]).toArray 90 (0, 0)) := by
      rw [hW0]; exact setCells_heap _ _ _ _ (by rw [hN]; exact Blk.new w _ _) (by rw [hrowl]; simp; omega)
    have e2 : W0.heap[g]? = some (.cells (L ++ rest).toArray 90 (0, 0)) := by
      rw [hW0, (grown_setCells N [.string x.name, b] (i * 2) (w.alloc (.cells (L.take (i * 2) ++ Z).toArray 90))).block g (by have := (Array.getElem?_eq_some_iff.1 hgw).1; simp; omega) (by simpa using hgN)]
      exact Blk.alloc (show Blk w g _ _ from hgw) _
    have el : (layL (L.take (i * 2) ++ Z) (i * 2) [.string x.name, b]).length = G * 2 := by rw [layL_len (by rw [hrowl]; simp; omega), hrowl]
    exact run_copy_rows (P := Try.prog) W0 47 47 ty 90 2 N ((i + 1) * 2) _ dc ⟨g, i * 2, none⟩ _ sc (L.drop (i * 2)) Try.underlying47 size_vol (by rw [hdl]; simp only [Nat.min_def]; split <;> omega)
      (fun j v hj => by
        rw [Addr.add_lit, cell_of_row e2, List.getElem?_append_left (by have := ltQ hj; omega)]
        rwa [List.getElem?_drop] at hj)
      (fun j hj => by rw [cell_of_row e1, List.getElem?_eq_getElem (by rw [el]; omega)]; rfl) (fun j hj => free_of_row e1 _) (fun v hv => hone v (List.mem_of_mem_drop hv))
  have hins : ∀ W0 : World, W0.heap = ((w.alloc (.cells (L.take (i * 2) ++ Z).toArray 90)).setCells N (i * 2) [.string x.name, b]).heap → W0.os = w.os → W0.tape = w.tape → W0.output = w.output → VRow (W0.setCells N ((i + 1) * 2) (L.drop (i * 2))) base (.slice (some ⟨N, 0, none⟩) (n + 1) G) (insAt i x vs) (insAt i b bvs) ∧ W.grownBy (W0.setCells N ((i + 1) * 2) (L.drop (i * 2))) (some g) := fun W0 hW0 ho1 ho2 ho3 => by
    have e1 : W0.heap[N]? = some (.cells (layL (L.take (i * 2) ++ Z) (i * 2) [.string x.name, b]).toArray 90 (0, 0)) := by
      rw [hW0]; exact setCells_heap _ _ _ _ (by rw [hN]; exact Blk.new w _ _) (by rw [hrowl]; simp; omega)
    have el : (layL (L.take (i * 2) ++ Z) (i * 2) [.string x.name, b]).length = G * 2 := by rw [layL_len (by rw [hrowl]; simp; omega), hrowl]
    have hfin := setCells_heap (L.drop (i * 2)) ((i + 1) * 2) _ W0 e1 (by rw [el, hdl]; omega)
    rw [grow_cells HL rfl (Nat.le_of_lt hi) hGn hZl] at hfin
    have e0 : (insAt i x vs).length = n + 1 := by rw [insAt_len (by omega), hn]
    refine ⟨⟨by rw [e0, insAt_len (by omega), hlen], ?_⟩, ?_⟩
    · rw [e0, zip_insAt _ _ _ _ _ (by rw [hlen, hn]) (by omega), flat_insAt encV_len, ← hLe]
      exact own_close (by omega) (by omega) hG63 (by simp [encV, HL]; omega) (by simp; omega) hfin
    · have g0 : w.grownBy W0 none := by
        have g1 := grown_setCells N [.string x.name, b] (i * 2) (w.alloc (.cells (L.take (i * 2) ++ Z).toArray 90))
        refine ⟨ho1, ho2, ho3, ?_, fun k hk _ => ?_⟩
        · rw [hW0]; have := g1.size; simp at this; omega
        · rw [hW0, g1.block k (by simp; omega) (by simp; omega)]
          exact (bel_alloc (Below.refl _ _) _ : Bel w (w.alloc (.cells (L.take (i * 2) ++ Z).toArray 90))).block k hk
      have g2 := grown_setCells N (L.drop (i * 2)) ((i + 1) * 2) W0
      refine ⟨by rw [g2.os, g0.os, hgrw.os], by rw [g2.tape, g0.tape, hgrw.tape], by rw [g2.output, g0.output, hgrw.output], by have := g2.size; have := g0.size; have := hgrw.size; omega, fun k hk hne => ?_⟩
      have hkw : k < w.heap.size := Nat.lt_of_lt_of_le hk hgrw.size
      rw [g2.block k (Nat.lt_of_lt_of_le hkw g0.size) (by simp; omega), g0.block k hkw (by simp), hgrw.block k hk hne]
  have G1 := Lib.hid hins
  have HN := Lib.hid hn
  have HZ := Lib.hid hrz
  clear hrz
  have HA := Lib.hid hcpA
  have HB := Lib.hid hcpB
  have hSz := Lib.hid hN
  have w1 : IntKind.i64.wrap ((i : Int) + 1) = (i : Int) + 1 := by rw [IntKind.wrap_i64]; omega
  clear hins hcpA hcpB hrowl hROW hZl hZ hold hgd hdl htl HL hone hgrw hvw hgw hg hw hvb hL hlen hLe hrl h1 h hgW hi0 hz0 hzs hzb hkk hik hN
  have hin : i ≤ n := by omega
  have hz2 : ¬ ((i : Int) = (n : Int)) := by omega
  have hz3 : (cap : Int) < (n : Int) + 1 := by omega
  have hb1 : (0 : Int) ≤ (i : Int) + 1 := by omega
  have htn : ((i : Int) + 1).toNat = i + 1 := by omega
  have hb3 : (i : Int) ≤ (n : Int) + 1 := by omega
  have hb4 : ¬ (cap = i) := by omega
  have hGi : ¬ (G = i) := by omega
  have hGim : ¬ (G = i + 1) := by omega
  have hlast : n - i + (i + 1) = n + 1 := by omega
  have hic : i ≤ cap := by omega
  have mixed : Try.prog.follows .mixedOrders = true := by kernel_rfl
  go_enter Try.func130, Try.ntmps130
  have hA := HA.out (w.alloc (.cells (L.take (i * 2) ++ Z).toArray 90)).drew rfl
  go_wp2_with (at_builtin; refine wpList_append_run _ rfl _ _ 47 3 rfl _ _ rfl rfl (HZ.out _) ?_)
  have hB2 := HB.out ((w.alloc (.cells (L.take (i * 2) ++ Z).toArray 90)).drew.setCells N (i * 2) [.string x.name, b]).drew rfl
  go_region_law_o (fail)
  go_wp2
  go_ret
  have hG := G1.out ((w.alloc (.cells (L.take (i * 2) ++ Z).toArray 90)).drew.setCells N (i * 2) [.string x.name, b]).drew rfl rfl rfl rfl
  exact ⟨_, rfl, hG.1, hG.2⟩
end Go.Proofs.Ytccllgpaafgjaaa
/- Comparing strings; searching a sorted row of volumes. -/

namespace Go.Proofs.Ytccllgpaafgjaaa
open Go.RowKit Go.Proofs.YtccllgpaafgjaaaW.PrintWords Go.Proofs.YtccllgpaafgjaaaW.PrintLast
set_option linter.unusedVariables false
set_option linter.unusedSimpArgs false

theorem insert_c {W : World} {base : Nat} {v : Value} {vs : List Vol} {bvs : List Value} {x : Vol} {b : Value} {i : Nat} (h : VRow W base v vs bvs) (hbase : base ≤ W.heap.size) (h1 : ∀ b ∈ bvs, b.oneCell' = true) (hb : b.oneCell' = true) (hi : i ≤ vs.length) (hl : vs.length ≤ 1048576) :
    Calls Try.prog 130 #[v, .int .i64 i, .slice (some ⟨W.heap.size, 0, none⟩) 1 1] (W.alloc (.cells #[.string x.name, b] 90)) (Ins1 W base v vs bvs i x b) := by
  by_cases hin : i = vs.length
  · subst hin; exact insert_end_c h hbase hb hl
  · obtain ⟨g, cap, rfl, _, _, hc⟩ := own_form h.row (by omega)
    by_cases hr : vs.length + 1 ≤ cap
    · exact insert_room_c h hbase h1 hb (by omega) hr
    · exact insert_grow_c h hbase h1 hb (by omega) (by omega) hl

def cmpS (a b : ByteArray) : Int := Lib.compareBytes a.data.toList b.data.toList
theorem run_cmpS (a b : ByteArray) (w : World) : (callFunc 145 #[.string a, .string b]).run Try.prog w = .ok (.value (.int .i64 (cmpS a b))) w := by
  rw [run_callFunc_extern Try.func145 (by kernel_rfl) (by kernel_rfl) (by kernel_rfl) (e := Extern.BytealgCompare.compare) (by kernel_rfl), Lib.run_compareString]
  rfl
theorem compareString_c (a b : ByteArray) (w : World) : Calls Try.prog 139 #[.string a, .string b] w (Same (.int .i64 (cmpS a b)) w) := by
  have hc := run_cmpS a b
  go_enter Try.func139, Try.ntmps139
  go_wp2
  go_ret
  exact ⟨rfl, rfl⟩
theorem compare_c (a b : ByteArray) (w : World) : Calls Try.prog 129 #[.string a, .string b] w (Same (.int .i64 (cmpS a b)) w) := by
  go_enter Try.func129, Try.ntmps129
  go_wp2_with (go_at_call 139; refine (compareString_c a b _).mono ?_; rintro e w' ⟨rfl, rfl⟩)
  go_ret
  exact ⟨rfl, rfl⟩
theorem insertClo_c (x : Vol) (bv : Value) (t : ByteArray) (w : World) : Calls Try.prog 128 #[.agg #[.string x.name, bv], .string t] w (Ret (.int .i64 (cmpS x.name t)) w) := by
  go_enter Try.func128, Try.ntmps128
  go_wp2_with (go_at_call 129; refine (compare_c _ _ _).mono ?_; rintro e w' ⟨rfl, rfl⟩)
  go_ret
  exact ⟨rfl, bel_alloc (Below.refl _ _) _⟩

/-- What a search leaves: the place, and whether it is met there. -/
def Found (q : Nat) (w : World) (e : Ending) (w' : World) : Prop := ∃ f : Bool, e = .returned (.tuple #[.int .i64 q, .bool f]) ∧ Bel w w'
set_option maxRecDepth 100000 in
set_option maxHeartbeats 2000000 in
theorem search_c {w : World} {A : Option Addr} {c q : Nat} {vs : List Vol} {t : ByteArray} (hC : kVol.C w A vs.length vs) (hq : q ≤ vs.length) (hl : vs.length ≤ 1048576) (hm : ∀ (m : Nat) (x : Vol), vs[m]? = some x → (m < q ↔ cmpS x.name t < 0)) :
    Calls Try.prog 127 #[.slice A vs.length c, .string t, .func (.func 128) #[] #[]] w (Found q w) := by
  have H := Lib.hid hC
  have HM := Lib.hid hm
  clear hC hm
  go_enter Try.func127, Try.ntmps127
  go_wp2
  go_loopg [9, 10] vs.length (fun g v9 v10 W => ∃ i j : Nat, i ≤ q ∧ q ≤ j ∧ j ≤ vs.length ∧ j - i = g ∧ v9 = .int .i64 i ∧ v10 = .int .i64 j ∧ Bel w W)
  case atStart => exact ⟨0, vs.length, by omega, hq, Nat.le_refl _, rfl, rfl, rfl, Below.refl _ _⟩
  case round =>
    obtain ⟨i, j, hi, hj, hjn, hg, rfl, rfl, hW⟩ := hrel
    by_cases hlt : i < j
    · have hk : (i + j) / 2 < vs.length := by omega
      obtain ⟨x, hx⟩ := getQ hk
      obtain ⟨ad, A1, n1, rfl, hc, hc', hn, hC1⟩ := at_vol (Kd.C_below H.out hW) hx
      have HX := Lib.hid hx
      clear hx
      have hiff := HM.out _ _ HX.out
      by_cases hcm : cmpS x.name t < 0
      · have hkq : (i + j) / 2 < q := hiff.2 hcm
        clear hiff
        go_wp2_with (go_at_call 128; refine (insertClo_c x _ t _).mono ?_; rintro e w1 ⟨rfl, hb1⟩)
        go_roundg (j - ((i + j) / 2 + 1))
        case rel => exact ⟨(i + j) / 2 + 1, j, by omega, hj, hjn, rfl, int_eq (by omega), rfl, hW.tr hb1⟩
        case measure => omega
      · have hkq : q ≤ (i + j) / 2 := Nat.le_of_not_lt fun h => hcm (hiff.1 h)
        clear hiff
        go_wp2_with (go_at_call 128; refine (insertClo_c x _ t _).mono ?_; rintro e w1 ⟨rfl, hb1⟩)
        go_roundg ((i + j) / 2 - i)
        case rel => exact ⟨i, (i + j) / 2, hi, hkq, by omega, rfl, rfl, int_eq (by omega), hW.tr hb1⟩
        case measure => omega
    · obtain rfl : i = q := by omega
      by_cases hqn : i < vs.length
      · obtain ⟨x, hx⟩ := getQ hqn
        obtain ⟨ad, A1, n1, rfl, hc, hc', hn, hC1⟩ := at_vol (Kd.C_below H.out hW) hx
        clear hx
        go_wp2_with (go_at_call 128; refine (insertClo_c x _ t _).mono ?_; rintro e w1 ⟨rfl, hb1⟩)
        all_goals
          go_ret2
          exact ⟨_, rfl, hW.tr hb1⟩
      · have hqe : i = vs.length := by omega
        go_wp2
        go_ret2
        exact ⟨_, rfl, hW⟩
end Go.Proofs.Ytccllgpaafgjaaa
/- A pool that is a variable of one's own; a volume put into it. -/


namespace Go.Proofs.Ytccllgpaafgjaaa
open Go.RowKit Go.Proofs.YtccllgpaafgjaaaW.PrintWords Go.Proofs.YtccllgpaafgjaaaW.PrintLast
set_option linter.unusedVariables false
set_option linter.unusedSimpArgs false

/-- Block b is a variable that holds the pool p; all that p has is of one's own, behind base. -/
structure PV (w : World) (b base : Nat) (p : Pool) : Prop where
  h : ∃ v0 v1 bvs, Blk w b #[v0, v1] 49 ∧ OwnP w base v0 v1 p bvs
  lo : base ≤ b
theorem PV.bel {w w' : World} {b base : Nat} {p : Pool} (h : PV w b base p) (hb : Bel w w') : PV w' b base p := by
  obtain ⟨⟨v0, v1, bvs, h1, h2⟩, h3⟩ := h
  exact ⟨⟨v0, v1, bvs, h1.bel hb, h2.bel hb⟩, h3⟩
/-- A step on such a variable: p becomes q, what lies below base is as it was. -/
def PVStep (b base : Nat) (q : Pool) (r : Value) (w : World) (e : Ending) (w' : World) : Prop := e = .returned r ∧ PV w' b base q ∧ Below base w w'
theorem own_one {w : World} {base : Nat} {e : TypeId} {sz n : Nat} {v : Value} {xs : List Value} (h : w.ownsRow base e sz v n xs) : v.oneCell' = true := by
  obtain ⟨A, c, rfl, _⟩ := own_cap h; rfl
theorem OwnV.one {w : World} {base : Nat} {v : Value} {vs : List Vol} {bvs : List Value} (h : OwnV w base v vs bvs) : ∀ b ∈ bvs, b.oneCell' = true := by
  intro b hb
  obtain ⟨m, hm⟩ := List.getElem?_of_mem hb
  obtain ⟨x, hx⟩ := getQ (show m < vs.length by rw [← h.row.len]; exact ltQ hm)
  exact own_one (h.inner m x b hx hm)
theorem insAt_get {α} {i : Nat} {x : α} {xs : List α} (hi : i ≤ xs.length) (k : Nat) : (insAt i x xs)[k]? = if k < i then xs[k]? else if k = i then some x else xs[k - 1]? := by
  unfold insAt
  have ht : (xs.take i).length = i := by rw [List.length_take]; omega
  by_cases h1 : k < i
  · rw [if_pos h1, List.getElem?_append_left (by omega), List.getElem?_take, if_pos h1]
  · rw [if_neg h1, List.getElem?_append_right (by omega), ht]
    by_cases h2 : k = i
    · rw [if_pos h2, h2, Nat.sub_self]; rfl
    · rw [if_neg h2, show k - i = (k - 1 - i) + 1 by omega, List.getElem?_cons_succ, List.getElem?_drop]
      congr 1; omega
/-- One volume more, in its place. -/
theorem OwnV.ins {W w1 : World} {base i : Nat} {v v1 : Value} {vs : List Vol} {bvs : List Value} {x : Vol} {b : Value} (h : OwnV W base v vs bvs) (hb : OwnI W base b x.blocks) (hi : i ≤ vs.length)
    (hap : ∀ (m : Nat) (b' : Value) (k : Nat), bvs[m]? = some b' → b'.ownBlock = some k → b.ownBlock ≠ some k) (hg : W.grownBy w1 v.ownBlock)
    (hr : VRow w1 base v1 (insAt i x vs) (insAt i b bvs)) : OwnV w1 base v1 (insAt i x vs) (insAt i b bvs) := by
  have hl := h.row.len
  refine ⟨hr, ?_, ?_⟩
  · intro m y c hy hc
    rw [insAt_get (by omega)] at hy hc
    by_cases h1 : m < i
    · rw [if_pos h1] at hy hc
      exact own_other_type (h.inner m y c hy hc) h.row.row (by decide) hg
    · rw [if_neg h1] at hy hc
      by_cases h2 : m = i
      · rw [if_pos h2] at hy hc
        obtain rfl := Option.some.inj hy
        obtain rfl := Option.some.inj hc
        exact own_other_type hb h.row.row (by decide) hg
      · rw [if_neg h2] at hy hc
        exact own_other_type (h.inner (m - 1) y c hy hc) h.row.row (by decide) hg
  · have hne : ∀ m c k, m ≠ i → (insAt i b bvs)[m]? = some c → c.ownBlock = some k → b.ownBlock ≠ some k := by
      intro m c k hm hc hk
      rw [insAt_get (by omega)] at hc
      by_cases h1 : m < i
      · rw [if_pos h1] at hc; exact hap m c k hc hk
      · rw [if_neg h1, if_neg hm] at hc; exact hap (m - 1) c k hc hk
    intro m j c c' k hmj hc hc' hk hk'
    by_cases h1 : m = i
    · subst h1
      rw [insAt_get (by omega), if_neg (by omega), if_pos rfl] at hc
      obtain rfl := Option.some.inj hc
      exact hne j c' k (by omega) hc' hk' hk
    · by_cases h2 : j = i
      · subst h2
        rw [insAt_get (by omega), if_neg (by omega), if_pos rfl] at hc'
        obtain rfl := Option.some.inj hc'
        exact hne m c k h1 hc hk hk'
      · rw [insAt_get (by omega)] at hc hc'
        have key : ∀ m : Nat, m ≠ i → ∀ c, (if m < i then bvs[m]? else if m = i then some b else bvs[m - 1]?) = some c → bvs[if m < i then m else m - 1]? = some c := by
          intro m hm c hc
          by_cases h3 : m < i
          · rwa [if_pos h3] at hc ⊢
          · rw [if_neg h3, if_neg hm] at hc; rwa [if_neg h3]
        refine h.apart _ _ c c' k ?_ (key m h1 c hc) (key j h2 c' hc') hk hk'
        split <;> split <;> omega

theorem Blk.grown {w w' : World} {b : Nat} {cs : Array Value} {t : TypeId} {r : Option Nat} (h : Blk w b cs t) (hg : w.grownBy w' r) (hne : some b ≠ r) : Blk w' b cs t := (hg.block b (Blk.lt h) hne).trans h
theorem own_blk_ne {w : World} {base : Nat} {e : TypeId} {sz n : Nat} {v : Value} {xs : List Value} (h : w.ownsRow base e sz v n xs) {b : Nat} {cs : Array Value} {t : TypeId} (hB : Blk w b cs t) (hne : e ≠ t) : some b ≠ v.ownBlock := by
  intro hk
  obtain ⟨c2, hc2⟩ := own_type h hk.symm
  rw [show w.heap[b]? = some (.cells cs t (0, 0)) from hB] at hc2
  injection hc2 with hc2
  injection hc2 with _ ht
  exact hne ht.symm
theorem own_old {w : World} {base : Nat} {e : TypeId} {sz n : Nat} {v : Value} {xs : List Value} (h : w.ownsRow base e sz v n xs) : some w.heap.size ≠ v.ownBlock := fun hk => by
  have := own_block_lt h hk.symm
  omega

set_option maxHeartbeats 4000000 in
set_option maxRecDepth 10000 in
theorem insert2_c {w w0 : World} {b base q : Nat} {p : Pool} {x : Vol} {bx : Value} (hp : PV w0 b base p) (hb : Bel w0 w) (hx : OwnI w w0.heap.size bx x.blocks) (hq : q ≤ p.vols.length) (hl : p.vols.length ≤ 1048576) (hm : ∀ (m : Nat) (y : Vol), p.vols[m]? = some y → (m < q ↔ cmpS y.name x.name < 0)) :
    Calls Try.prog 104 #[.pointer (some ⟨b, 0, none⟩), .agg #[.string x.name, bx]] w (PVStep b base ⟨p.slots, insAt q x p.vols⟩ (.tuple #[]) w) := by
  obtain ⟨⟨v0, v1, bvs, hB0, hP0⟩, hlo⟩ := hp
  have hbW : b < w0.heap.size := hB0.lt
  have hB := hB0.bel hb
  have hP := hP0.bel hb
  have hrow := hP.v.row
  obtain ⟨A1, c1, rfl, hc1, hC1⟩ := hP.v.reads
  obtain ⟨A0, c0, rfl, hc0, hC0⟩ := hP.s.reads
  obtain ⟨Ax, cx, rfl, hcx, hCx⟩ := hx.reads
  have hap : ∀ (m : Nat) (b' : Value) (k : Nat), bvs[m]? = some b' → b'.ownBlock = some k → Value.ownBlock (.slice Ax x.blocks.length cx) ≠ some k := fun m b' k hm hk h2 => by
    have e1 := hP0.v.inner_lt hm hk
    have e2 := own_block_ge hx h2
    omega
  have hbase : base ≤ w.heap.size := by have := hb.size; omega
  have HX := Lib.hid (own_lower hx (by have := hb.size; omega) : OwnI w base (.slice Ax x.blocks.length cx) x.blocks)
  have HP := Lib.hid hP
  have HB := Lib.hid hB
  have HAP := Lib.hid hap
  have HM := Lib.hid hm
  have HC1 := Lib.hid hC1
  clear hm hap hP hP0 hB0 hx hC1 hC0 hCx hrow
  have q1 := HB.out.cell 1
  have hbw : b < w.heap.size := HB.out.lt
  simp at q1
  clear hB
  go_enter Try.func104, Try.ntmps104
  go_wp2
  have hT : Blk (w.alloc (.cells #[.string x.name, .slice Ax x.blocks.length cx] 90)) w.heap.size #[.string x.name, .slice Ax x.blocks.length cx] 90 := Blk.new _ _ _
  have hW : Bel w (w.alloc (.cells #[.string x.name, .slice Ax x.blocks.length cx] 90)) := bel_alloc (Below.refl _ _) _
  have hwt : w.heap.size < (w.alloc (.cells #[.string x.name, .slice Ax x.blocks.length cx] 90)).heap.size := by simp
  generalize (w.alloc (.cells #[.string x.name, .slice Ax x.blocks.length cx] 90)) = W at hT hW hwt ⊢
  have HT := Lib.hid hT
  have HW := Lib.hid hW
  have u1 := (HB.out.bel HW.out).cell 1
  have t0 := HT.out.cell 0
  have t1 := HT.out.cell 1
  simp at u1 t0 t1
  clear hT hW q1
  refine start_ (n := 12) (S := fun w' => w'.cell? ⟨b, 1, none⟩ = some (.slice A1 p.vols.length c1) ∧ w'.cell? ⟨w.heap.size, 0, none⟩ = some (.string x.name)) (ds := []) #[false, false, false, false, false, false, false, false, false, false, false, false] (by kernel_rfl) rfl rfl ⟨u1, t0⟩ (fun hHeld => ?_)
  refine pure_ (i := 0) (N := some 7) (v := ?_) (a' := ?_) #[true, false, false, false, false, false, false, false, false, false, false, false] rfl rfl (by kernel_rfl) (fun _ _ _ h => h) (Or.inl ⟨by rfl, ?_⟩) ?_ ?_
  rotate_left
  · intro w'
    go_simp
    with_reducible rfl
  rotate_left
  · simp only [Act.put, List.setIfInBounds_toArray, List.set_cons_zero, List.set_cons_succ, i64_w, i32_w]
    rfl
  refine pure_ (i := 1) (N := some 8) (v := ?_) (a' := ?_) #[true, true, false, false, false, false, false, false, false, false, false, false] rfl rfl (by kernel_rfl) (fun _ _ _ h => h) (Or.inl ⟨by rfl, ?_⟩) ?_ ?_
  rotate_left
  · intro w'
    go_simp
    with_reducible rfl
  rotate_left
  · simp only [Act.put, List.setIfInBounds_toArray, List.set_cons_zero, List.set_cons_succ, i64_w, i32_w]
    rfl
  refine pure_ (i := 2) (N := some 9) (v := ?_) (a' := ?_) #[true, true, true, false, false, false, false, false, false, false, false, false] rfl rfl (by kernel_rfl) (fun _ _ _ h => h) (Or.inl ⟨by rfl, ?_⟩) ?_ ?_
  rotate_left
  · intro w'
    go_simp
    with_reducible rfl
  rotate_left
  · simp only [Act.put, List.setIfInBounds_toArray, List.set_cons_zero, List.set_cons_succ, i64_w, i32_w]
    rfl
  refine pure_ (i := 4) (N := some 11) (v := ?_) (a' := ?_) #[true, true, true, false, true, false, false, false, false, false, false, false] rfl rfl (by kernel_rfl) (fun _ _ _ h => h) (Or.inl ⟨by rfl, ?_⟩) ?_ ?_
  rotate_left
  · intro w'
    go_simp
    with_reducible rfl
  rotate_left
  · simp only [Act.put, List.setIfInBounds_toArray, List.set_cons_zero, List.set_cons_succ, i64_w, i32_w]
    rfl
  refine take_ (i := 3) (N := some 10) (v := ?_) (a' := ?_) #[true, true, true, true, true, false, false, false, false, false, false, false] rfl rfl (by kernel_rfl) (fun _ _ _ h => h) (Or.inl ⟨by rfl, ?_⟩) hHeld ?_ ?_
  rotate_left
  · rintro w' ⟨s0, s1⟩
    go_simp
    with_reducible rfl
  rotate_left
  · simp only [Act.put, List.setIfInBounds_toArray, List.set_cons_zero, List.set_cons_succ, i64_w, i32_w]
    rfl
  refine take_ (i := 5) (N := some 12) (v := ?_) (a' := ?_) #[true, true, true, true, true, true, false, false, false, false, false, false] rfl rfl (by kernel_rfl) (fun _ _ _ h => h) (Or.inl ⟨by rfl, ?_⟩) hHeld ?_ ?_
  rotate_left
  · rintro w' ⟨s0, s1⟩
    go_simp
    with_reducible rfl
  rotate_left
  · simp only [Act.put, List.setIfInBounds_toArray, List.set_cons_zero, List.set_cons_succ, i64_w, i32_w]
    rfl
  refine one_ (i := 6) (N := some 13) #[true, true, true, true, true, true, true, false, false, false, false, false] rfl rfl (by kernel_rfl) (by decide) (fun K hK => ?_)
  refine goes_ Try.func127 (by kernel_rfl) rfl #[.slice A1 p.vols.length c1, .string x.name, .func (.func 128) #[] #[]] (by rfl) rfl rfl (by simp only [List.map_toArray, List.map_cons, List.map_nil]; rfl) ?_
  with_reducible refine (search_c (Kd.C_below HC1.out HW.out.drew) hq hl HM.out).mono ?_
  rintro e w1 ⟨f, rfl, hb1⟩
  refine ⟨_, rfl, ?_⟩
  refine hK.out _ _ ⟨(HB.out.bel (Bel.tr (b := W.drew) HW.out.drew hb1)).cell 1, (Blk.bel (w := W.drew) HT.out hb1).cell 0⟩ (fun hHeld => ?_)
  clear hK K
  refine norm_ (a' := ?_) ?_ ?_
  rotate_left
  · show Act.put _ (some 13) _ = _
    simp only [Act.put, List.setIfInBounds_toArray, List.set_cons_zero, List.set_cons_succ, i64_w, i32_w]
    rfl
  refine pure_ (i := 7) (N := some 6) (v := ?_) (a' := ?_) #[true, true, true, true, true, true, true, true, false, false, false, false] rfl rfl (by kernel_rfl) (fun _ _ _ h => h) (Or.inl ⟨by rfl, ?_⟩) ?_ ?_
  rotate_left
  · intro w'
    go_simp
    with_reducible rfl
  rotate_left
  · simp only [Act.put, List.setIfInBounds_toArray, List.set_cons_zero, List.set_cons_succ, i64_w, i32_w]
    rfl
  refine pure_ (i := 8) (N := some 14) (v := ?_) (a' := ?_) #[true, true, true, true, true, true, true, true, true, false, false, false] rfl rfl (by kernel_rfl) (fun _ _ _ h => h) (Or.inl ⟨by rfl, ?_⟩) ?_ ?_
  rotate_left
  · intro w'
    go_simp
    with_reducible rfl
  rotate_left
  · simp only [Act.put, List.setIfInBounds_toArray, List.set_cons_zero, List.set_cons_succ, i64_w, i32_w]
    rfl
  refine pure_ (i := 9) (N := some 15) (v := ?_) (a' := ?_) #[true, true, true, true, true, true, true, true, true, true, false, false] rfl rfl (by kernel_rfl) (fun _ _ _ h => h) (Or.inl ⟨by rfl, ?_⟩) ?_ ?_
  rotate_left
  · intro w'
    go_simp
    with_reducible rfl
  rotate_left
  · simp only [Act.put, List.setIfInBounds_toArray, List.set_cons_zero, List.set_cons_succ, i64_w, i32_w]
    rfl
  refine pure_ (i := 10) (N := some 4) (v := ?_) (a' := ?_) #[true, true, true, true, true, true, true, true, true, true, true, false] rfl rfl (by kernel_rfl) (fun _ _ _ h => h) (Or.inl ⟨by rfl, ?_⟩) ?_ ?_
  rotate_left
  · intro w'
    go_simp
    with_reducible rfl
  rotate_left
  · simp only [Act.put, List.setIfInBounds_toArray, List.set_cons_zero, List.set_cons_succ, i64_w, i32_w]
    rfl
  refine pure_ (i := 11) (N := some 5) (v := ?_) (a' := ?_) #[true, true, true, true, true, true, true, true, true, true, true, true] rfl rfl (by kernel_rfl) (fun _ _ _ h => h) (Or.inl ⟨by rfl, ?_⟩) ?_ ?_
  rotate_left
  · intro w'
    go_simp
    with_reducible rfl
  rotate_left
  · simp only [Act.put, List.setIfInBounds_toArray, List.set_cons_zero, List.set_cons_succ, i64_w, i32_w]
    rfl
  refine done_ (by kernel_rfl) ?_
  have hD1 := Bel.tr (b := W.drew) HW.out.drew hb1
  have hT1 := Blk.bel (w := W.drew) HT.out hb1
  clear u1 t0 t1 hHeld
  have u1 := (HB.out.bel hD1).cell 1
  have t0 := hT1.cell 0
  have t1 := hT1.cell 1
  simp at u1 t0 t1
  have HT1 := Lib.hid hT1
  have HD1 := Lib.hid hD1
  have hI : Calls Try.prog 130 #[.slice A1 p.vols.length c1, .int .i64 q, .slice (some ⟨w1.heap.size, 0, none⟩) 1 1] ((w1.alloc (.cells #[.string x.name, .slice Ax x.blocks.length cx] 90)).drew) (Ins1 w1.drew base (.slice A1 p.vols.length c1) p.vols bvs q x (.slice Ax x.blocks.length cx)) :=
    insert_c (W := w1.drew) ((HP.out.v.row).bel hD1.drew) (by have := hD1.size; show base ≤ w1.heap.size; omega) HP.out.v.one rfl hq hl
  have HI := Lib.hid hI
  clear hT1 hD1 hI hb1
  go_wp2
  refine start_ (n := 12) (S := fun w' => w'.cell? ⟨b, 1, none⟩ = some (.slice A1 p.vols.length c1) ∧ w'.cell? ⟨w.heap.size, 0, none⟩ = some (.string x.name) ∧ w'.cell? ⟨w.heap.size, 1, none⟩ = some (.slice Ax x.blocks.length cx)) (ds := [11]) #[false, false, false, false, false, false, false, false, false, false, false, false] (by kernel_rfl) rfl rfl ⟨u1, t0, t1⟩ (fun hHeld => ?_)
  refine pure_ (i := 0) (N := some 16) (v := ?_) (a' := ?_) #[true, false, false, false, false, false, false, false, false, false, false, false] rfl rfl (by kernel_rfl) (fun _ _ _ h => h) (Or.inl ⟨by rfl, ?_⟩) ?_ ?_
  rotate_left
  · intro w'
    go_simp
    with_reducible rfl
  rotate_left
  · simp only [Act.put, List.setIfInBounds_toArray, List.set_cons_zero, List.set_cons_succ, i64_w, i32_w]
    rfl
  refine pure_ (i := 1) (N := some 17) (v := ?_) (a' := ?_) #[true, true, false, false, false, false, false, false, false, false, false, false] rfl rfl (by kernel_rfl) (fun _ _ _ h => h) (Or.inl ⟨by rfl, ?_⟩) ?_ ?_
  rotate_left
  · intro w'
    go_simp
    with_reducible rfl
  rotate_left
  · simp only [Act.put, List.setIfInBounds_toArray, List.set_cons_zero, List.set_cons_succ, i64_w, i32_w]
    rfl
  refine pure_ (i := 2) (N := some 18) (v := ?_) (a' := ?_) #[true, true, true, false, false, false, false, false, false, false, false, false] rfl rfl (by kernel_rfl) (fun _ _ _ h => h) (Or.inl ⟨by rfl, ?_⟩) ?_ ?_
  rotate_left
  · intro w'
    go_simp
    with_reducible rfl
  rotate_left
  · simp only [Act.put, List.setIfInBounds_toArray, List.set_cons_zero, List.set_cons_succ, i64_w, i32_w]
    rfl
  refine pure_ (i := 3) (N := some 19) (v := ?_) (a' := ?_) #[true, true, true, true, false, false, false, false, false, false, false, false] rfl rfl (by kernel_rfl) (fun _ _ _ h => h) (Or.inl ⟨by rfl, ?_⟩) ?_ ?_
  rotate_left
  · intro w'
    go_simp
    with_reducible rfl
  rotate_left
  · simp only [Act.put, List.setIfInBounds_toArray, List.set_cons_zero, List.set_cons_succ, i64_w, i32_w]
    rfl
  refine pure_ (i := 5) (N := some 21) (v := ?_) (a' := ?_) #[true, true, true, true, false, true, false, false, false, false, false, false] rfl rfl (by kernel_rfl) (fun _ _ _ h => h) (Or.inl ⟨by rfl, ?_⟩) ?_ ?_
  rotate_left
  · intro w'
    go_simp
    with_reducible rfl
  rotate_left
  · simp only [Act.put, List.setIfInBounds_toArray, List.set_cons_zero, List.set_cons_succ, i64_w, i32_w]
    rfl
  refine take_ (i := 4) (N := some 20) (v := ?_) (a' := ?_) #[true, true, true, true, true, true, false, false, false, false, false, false] rfl rfl (by kernel_rfl) (fun _ _ _ h => h) (Or.inl ⟨by rfl, ?_⟩) hHeld ?_ ?_
  rotate_left
  · rintro w' ⟨s0, s1, s2⟩
    go_simp
    with_reducible rfl
  rotate_left
  · simp only [Act.put, List.setIfInBounds_toArray, List.set_cons_zero, List.set_cons_succ, i64_w, i32_w]
    rfl
  refine take_ (i := 6) (N := some 22) (v := ?_) (a' := ?_) #[true, true, true, true, true, true, true, false, false, false, false, false] rfl rfl (by kernel_rfl) (fun _ _ _ h => h) (Or.inl ⟨by rfl, ?_⟩) hHeld ?_ ?_
  rotate_left
  · rintro w' ⟨s0, s1, s2⟩
    go_simp
    with_reducible rfl
  rotate_left
  · simp only [Act.put, List.setIfInBounds_toArray, List.set_cons_zero, List.set_cons_succ, i64_w, i32_w]
    rfl
  refine one_ (i := 7) (N := some 23) #[true, true, true, true, true, true, true, true, false, false, false, false] rfl rfl (by kernel_rfl) (by decide) (fun K hK => ?_)
  refine value_ (w1 := ?_) (v := ?_) (by rfl) rfl ?_ ?_
  rotate_left 2
  · go_simp
    constructor
    · rfl
    · rfl
  have hB2 := (HB.out.bel HD1.out).alloc (.cells #[.string x.name, .slice Ax x.blocks.length cx] 90)
  have hT2 := HT1.out.alloc (.cells #[.string x.name, .slice Ax x.blocks.length cx] 90)
  refine hK.out _ _ ⟨hB2.cell 1, hT2.cell 0, hT2.cell 1⟩ (fun hHeld => ?_)
  clear hK K
  refine norm_ (a' := ?_) ?_ ?_
  rotate_left
  · show Act.put _ (some 23) _ = _
    simp only [Act.put, List.setIfInBounds_toArray, List.set_cons_zero, List.set_cons_succ, i64_w, i32_w]
    rfl
  refine one_ (i := 8) (N := some 24) #[true, true, true, true, true, true, true, true, true, false, false, false] rfl rfl (by kernel_rfl) (by decide) (fun K hK => ?_)
  refine goes_ Try.func130 (by kernel_rfl) rfl #[.slice A1 p.vols.length c1, .int .i64 q, .slice (some ⟨w1.heap.size, 0, none⟩) 1 1] (by rfl) rfl rfl (by simp only [List.map_toArray, List.map_cons, List.map_nil]; rfl) ?_
  with_reducible refine (HI.out).mono ?_
  rintro e w2 ⟨v2, rfl, hr2, hg2⟩
  obtain ⟨A2, c2, rfl, hc2⟩ := own_cap hr2.row
  have hB2 : Blk w2 b _ _ := (HB.out.bel HD1.out.drew).grown hg2 (own_blk_ne (HP.out.v.row.row) HB.out (by decide))
  have hT2 : Blk w2 w.heap.size _ _ := Blk.grown (w := w1.drew) HT1.out hg2 (own_old HP.out.v.row.row)
  have z1 := hB2.cell 1
  have f1 := hB2.free 1
  simp at z1
  refine ⟨_, rfl, ?_⟩
  refine hK.out _ _ ⟨hB2.cell 1, hT2.cell 0, hT2.cell 1⟩ (fun hHeld => ?_)
  clear hK K
  refine norm_ (a' := ?_) ?_ ?_
  rotate_left
  · show Act.put _ (some 24) _ = _
    simp only [Act.put, List.setIfInBounds_toArray, List.set_cons_zero, List.set_cons_succ, i64_w, i32_w]
    rfl
  refine pure_ (i := 9) (N := some 25) (v := ?_) (a' := ?_) #[true, true, true, true, true, true, true, true, true, true, false, false] rfl rfl (by kernel_rfl) (fun _ _ _ h => h) (Or.inl ⟨by rfl, ?_⟩) ?_ ?_
  rotate_left
  · intro w'
    go_simp
    with_reducible rfl
  rotate_left
  · simp only [Act.put, List.setIfInBounds_toArray, List.set_cons_zero, List.set_cons_succ, i64_w, i32_w]
    rfl
  refine pure_ (i := 10) (N := some 26) (v := ?_) (a' := ?_) #[true, true, true, true, true, true, true, true, true, true, true, false] rfl rfl (by kernel_rfl) (fun _ _ _ h => h) (Or.inl ⟨by rfl, ?_⟩) ?_ ?_
  rotate_left
  · intro w'
    go_simp
    with_reducible rfl
  rotate_left
  · simp only [Act.put, List.setIfInBounds_toArray, List.set_cons_zero, List.set_cons_succ, i64_w, i32_w]
    rfl
  refine last_ (i := 11) (N := none) #[true, true, true, true, true, true, true, true, true, true, true, true] rfl rfl (by kernel_rfl) (by decide) (fun K hK => ?_)
  refine skip_ (w1 := ?_) (by rfl) rfl ?_ ?_
  rotate_left
  · go_simp
    rfl
  refine hK.out _ _ ?_
  clear hK K
  refine done_ (by kernel_rfl) ?_
  have hD2 := HD1.out.drew
  have hrowv := (HP.out.v.row).bel hD2
  have hov := (HP.out.v.bel hD2).ins (OwnI.bel HX.out hD2) hq HAP.out hg2 hr2
  have hos : OwnS w2 base (.slice A0 p.slots.length c0) p.slots := own_other_type (HP.out.s.bel hD2) hrowv.row (by decide) hg2
  have hB3 := hB2.set 1 (.slice A2 (insAt q x p.vols).length c2) (cs' := #[.slice A0 p.slots.length c0, .slice A2 (insAt q x p.vols).length c2]) rfl
  have hsz : w.heap.size ≤ w1.heap.size := HD1.out.size
  have hbel : Below base w w2 := (hD2.mono hbase).grown hg2 (by show base ≤ w1.heap.size; omega) (own_base hrowv.row)
  go_end0
  exact ⟨rfl, ⟨⟨_, _, _, hB3, hos.far hB2 (by decide) _ _, hov.far hB2 (by decide) (by decide) _ _⟩, hlo⟩, hbel.setCell hlo _⟩
end Go.Proofs.Ytccllgpaafgjaaa
/- toIntS, toSlot, toVol, toSlotS, toVolS, toPool: copies of the laws' own values. -/







namespace Go.Proofs.Ytccllgpaafgjaaa
open Go.RowKit Go.Proofs.YtccllgpaafgjaaaW.PrintWords Go.Proofs.YtccllgpaafgjaaaW.PrintLast
set_option linter.unusedVariables false
set_option linter.unusedSimpArgs false

theorem kInt_mkM (w : World) (base : Nat) (ok : Nat → Prop) (x : Int) : kInt.M w base ok x [.int .i64 x] := rfl
theorem OwnI.get {w : World} {base g n cap : Nat} {s : List Int} (h : OwnI w base (.slice (some ⟨g, 0, none⟩) n cap) s) (hn : n = s.length) : OwnI w base (.slice (some ⟨g, 0, none⟩) s.length cap) s := hn ▸ h
theorem Blk.nw3 (w : World) (o o' : Obj) (cs : Array Value) (t : TypeId) : Blk (((w.alloc o).alloc o').alloc (.cells cs t)) (w.heap.size + 1 + 1) cs t := by
  have := Blk.nw2 (w.alloc o) o' cs t
  rwa [show (w.alloc o).heap.size = w.heap.size + 1 by simp] at this
/-- One volume of one's own stored: its name, its blocks. -/
theorem OwnV.put {w : World} {base g cap : Nat} {vs : List Vol} {bvs : List Value} (h : OwnV w base (.slice (some ⟨g, 0, none⟩) vs.length cap) vs bvs) {m : Nat} {y : Vol} (hy : vs[m]? = some y) (x : Vol) {b : Value} (hb : OwnI w base b x.blocks)
    (hap : ∀ (i : Nat) (b' : Value) (k : Nat), bvs[i]? = some b' → b'.ownBlock = some k → b.ownBlock ≠ some k) :
    OwnV ((w.setCell ⟨g, m * 2, none⟩ (.string x.name)).setCell ⟨g, m * 2 + 1, none⟩ b) base (.slice (some ⟨g, 0, none⟩) vs.length cap) (vs.set m x) (bvs.set m b) ∧ w.grownBy ((w.setCell ⟨g, m * 2, none⟩ (.string x.name)).setCell ⟨g, m * 2 + 1, none⟩ b) (some g) := by
  obtain ⟨h1, g1⟩ := h.row.setN hy x.name
  have hm := ltQ hy
  have hy1 : (vs.set m ⟨x.name, y.blocks⟩)[m]? = some ⟨x.name, y.blocks⟩ := List.getElem?_set_self hm
  have h1' : VRow (w.setCell ⟨g, m * 2, none⟩ (.string x.name)) base (.slice (some ⟨g, 0, none⟩) (vs.set m ⟨x.name, y.blocks⟩).length cap) (vs.set m ⟨x.name, y.blocks⟩) bvs := by rw [List.length_set]; exact h1
  obtain ⟨h2, g2⟩ := h1'.setB hy1 b
  have hbm : m < bvs.length := by rw [h.row.len]; exact hm
  have hg := grown_tr g1 g2
  have hz : ((vs.set m x).zip (bvs.set m b)).flatMap encV = ((vs.set m ⟨x.name, y.blocks⟩).zip (bvs.set m b)).flatMap encV := by
    rw [show vs.set m x = (vs.set m ⟨x.name, y.blocks⟩).set m x by rw [List.set_set], ← zip_setL (List.getElem?_set_self hbm)]
    exact flat_same (zip_get hy1 (List.getElem?_set_self hbm)) rfl
  refine ⟨⟨⟨by rw [List.length_set, List.length_set]; exact h.row.len, ?_⟩, ?_, ?_⟩, hg⟩
  · have h5 := h2.row
    rw [hz, List.length_set]
    rw [List.length_set] at h5
    exact h5
  · intro i z c hz2 hc
    by_cases e : i = m
    · subst e
      rw [List.getElem?_set_self hm] at hz2
      rw [List.getElem?_set_self hbm] at hc
      obtain rfl := Option.some.inj hz2
      obtain rfl := Option.some.inj hc
      exact own_other_type hb h.row.row (by decide) hg
    · rw [List.getElem?_set_ne (fun h => e h.symm)] at hz2 hc
      exact own_other_type (h.inner i z c hz2 hc) h.row.row (by decide) hg
  · intro i j c c' k hij hc hc' hk hk'
    by_cases e : i = m
    · subst e
      rw [List.getElem?_set_self hbm] at hc
      rw [List.getElem?_set_ne hij] at hc'
      obtain rfl := Option.some.inj hc
      exact hap j c' k hc' hk' hk
    · rw [List.getElem?_set_ne (fun h => e h.symm)] at hc
      by_cases e2 : j = m
      · subst e2
        rw [List.getElem?_set_self hbm] at hc'
        obtain rfl := Option.some.inj hc'
        exact hap i c k hc hk hk'
      · rw [List.getElem?_set_ne (fun h => e2 h.symm)] at hc'
        exact h.apart i j c c' k hij hc hc' hk hk'
/-- A row whose elements are all zero. -/
def kZ (Z : List Value) : Kd Unit := Kd.iso (Kd.raw Z.length) (fun _ => Z)
def MadeV (w : World) (vs : List Vol) (e : Ending) (w' : World) : Prop := ∃ v bvs, e = .returned v ∧ OwnV w' w.heap.size v vs bvs ∧ Bel w w'
end Go.Proofs.Ytccllgpaafgjaaa
/- What a change of a pool returns. -/


namespace Go.Proofs.Ytccllgpaafgjaaa
open Go.RowKit Go.Proofs.YtccllgpaafgjaaaW.PrintWords Go.Proofs.YtccllgpaafgjaaaW.PrintLast
set_option linter.unusedVariables false
set_option linter.unusedSimpArgs false

/-- A pool of the callee's own, and a bool. -/
def MadePB (w : World) (q : Pool) (ok : Bool) (e : Ending) (w' : World) : Prop := ∃ v0 v1 bvs, e = .returned (.tuple #[.agg #[v0, v1], .bool ok]) ∧ OwnP w' w.heap.size v0 v1 q bvs ∧ Bel w w'
def noP : Pool := ⟨[], []⟩
theorem OwnP.none (w : World) (base : Nat) : OwnP w base (.slice none 0 0) (.slice none 0 0) noP [] := ⟨World.ownsRow_nil _ _ _ _, OwnV.nil _ _⟩
/-- What a closure handed to 'changed' does. -/
def Changes (r : Option Pool) (b base : Nat) (w : World) (e : Ending) (w' : World) : Prop := e = .returned (.bool r.isSome) ∧ (∃ q, PV w' b base q ∧ ∀ q', r = some q' → q = q') ∧ Below base w w'
/-- What 'changed' returns. -/
def chP (p : Pool) (r : Option Pool) : Pool := if poolOk p then r.getD p else noP
def chB (p : Pool) (r : Option Pool) : Bool := poolOk p && r.isSome
set_option maxHeartbeats 4000000 in
set_option maxRecDepth 10000 in
theorem changed_c {w : World} {A0 A1 : Option Addr} {c0 c1 : Nat} {p : Pool} (h : PoolIn w A0 A1 c0 c1 p) (hs : SmallP p) (F : FuncId) (caps : Array Value) (r : Option Pool)
    (hen : ∀ (args : Array Value) (W : World), (callFunc F args).run Try.prog W = .ok (.enter F args) W)
    (hch : poolOk p = true → ∀ (W : World) (b base : Nat), Bel w W → w.heap.size ≤ base → base ≤ W.heap.size → PV W b base p → Calls Try.prog F (#[.pointer (some ⟨b, 0, none⟩)] ++ caps) W (Changes r b base W)) :
    Calls Try.prog 101 #[.agg #[.slice A0 p.slots.length c0, .slice A1 p.vols.length c1], .func (.func F) #[] caps] w (MadePB w (chP p r) (chB p r)) := by
  have HS := Lib.hid hs
  have HP := Lib.hid h
  have HC := Lib.hid hch
  clear h hs hch
  go_enter Try.func101, Try.ntmps101
  go_wp2_with fail
  have hB : Blk ((w.alloc (.cells #[.slice A0 p.slots.length c0, .slice A1 p.vols.length c1] 49)).alloc (.cells #[.slice none 0 0, .slice none 0 0] 49)) w.heap.size #[.slice A0 p.slots.length c0, .slice A1 p.vols.length c1] 49 := (Blk.new _ _ _).alloc _
  have hR : Blk ((w.alloc (.cells #[.slice A0 p.slots.length c0, .slice A1 p.vols.length c1] 49)).alloc (.cells #[.slice none 0 0, .slice none 0 0] 49)) (w.heap.size + 1) #[.slice none 0 0, .slice none 0 0] 49 := Blk.nw2 _ _ _ _
  have hW : Bel w ((w.alloc (.cells #[.slice A0 p.slots.length c0, .slice A1 p.vols.length c1] 49)).alloc (.cells #[.slice none 0 0, .slice none 0 0] 49)) := bel_alloc (bel_alloc (Below.refl _ _) _) _
  have hl2 : w.heap.size + 2 ≤ ((w.alloc (.cells #[.slice A0 p.slots.length c0, .slice A1 p.vols.length c1] 49)).alloc (.cells #[.slice none 0 0, .slice none 0 0] 49)).heap.size := by simp
  generalize ((w.alloc (.cells #[.slice A0 p.slots.length c0, .slice A1 p.vols.length c1] 49)).alloc (.cells #[.slice none 0 0, .slice none 0 0] 49)) = W0 at hB hR hW hl2 ⊢
  have HB := Lib.hid hB
  have HR := Lib.hid hR
  have HW := Lib.hid hW
  clear hB hR hW
  refine (implPoolOk_in (HP.out.bel HW.out) HS.out).mono ?_
  rintro e w1 ⟨rfl, hb1⟩
  have HB1 := Lib.hid hb1
  have q0 := (HB.out.bel HB1.out).cell 0
  have q1 := (HB.out.bel HB1.out).cell 1
  have r0 := (HR.out.bel HB1.out).cell 0
  have r1 := (HR.out.bel HB1.out).cell 1
  have f0 := (HR.out.bel HB1.out).free 0
  have f1 := (HR.out.bel HB1.out).free 1
  simp at q0 q1 r0 r1
  clear hb1
  cases hok : poolOk p with
  | false =>
    have E1 := Lib.hid (show chP p r = noP by unfold chP; rw [hok]; rfl)
    have E2 := Lib.hid (show chB p r = false by unfold chB; rw [hok]; rfl)
    clear hok
    go_wp2
    have hR3 := (HR.out.bel HB1.out).set 0 (.slice none 0 0) (cs' := #[.slice none 0 0, .slice none 0 0]) rfl
    have hR4 := hR3.set 1 (.slice none 0 0) (cs' := #[.slice none 0 0, .slice none 0 0]) rfl
    have hb4 := bel_set (bel_set (HW.out.tr HB1.out) (Nat.le_succ _) 0 (.slice none 0 0)) (Nat.le_succ _) 1 (.slice none 0 0)
    refine bodyPost_ret (results_ct rfl _ _ (w.heap.size + 1) 49 #[.slice none 0 0, .slice none 0 0] (0, 0) _ rfl hR4 Try.underlying49 rfl (by kernel_rfl)) rfl ?_
    rw [E1.out, E2.out]
    exact ⟨_, _, _, rfl, OwnP.none _ _, hb4⟩
  | true =>
    have E1 := Lib.hid (show chP p r = r.getD p by unfold chP; rw [if_pos hok])
    have E2 := Lib.hid (show chB p r = r.isSome by unfold chB; rw [hok]; rfl)
    have HK := Lib.hid (HC.out hok)
    clear hok
    go_wp2_with fail
    refine (poolClone_c (HP.out.bel (HW.out.tr HB1.out)) HS.out).mono ?_
    rintro e w2 ⟨v0, v1, bvs, rfl, ho, hb2⟩
    have HO := Lib.hid ho
    have HB2 := Lib.hid hb2
    clear q0 q1 r0 r1 f0 f1 ho hb2
    obtain ⟨A2, A3, c2, c3, rfl, rfl, hpi⟩ := HO.out.reads
    clear hpi
    go_wp2_with fail
    have hpv : PV (w2.alloc (.cells #[.slice A2 p.slots.length c2, .slice A3 p.vols.length c3] 49)) w2.heap.size w1.heap.size p := ⟨⟨_, _, _, Blk.new _ _ _, HO.out.bel (bel_alloc (Below.refl _ _) _)⟩, HB2.out.size⟩
    have hb01 : Bel W0 w2 := HB1.out.tr HB2.out
    refine (HK.out _ w2.heap.size w1.heap.size (HW.out.tr (bel_alloc hb01 _)) (HW.out.tr HB1.out).size (by have := HB2.out.size; simp; omega) hpv).mono ?_
    rintro e w3 ⟨rfl, ⟨q, hq, hqr⟩, hb3⟩
    have hb13 : Below w1.heap.size w1 w3 := (bel_alloc HB2.out _).trans hb3
    have hb03 : Bel W0 w3 := HB1.out.tr hb13
    have HB3 := Lib.hid hb03
    have HB13 := Lib.hid hb13
    have HQ := Lib.hid hq
    have HQR := Lib.hid hqr
    clear hpv hb01 hb13 hb03 hb3 hq hqr
    have q0 := (HB.out.bel HB3.out).cell 0
    have q1 := (HB.out.bel HB3.out).cell 1
    have r0 := (HR.out.bel HB3.out).cell 0
    have r1 := (HR.out.bel HB3.out).cell 1
    have f0 := (HR.out.bel HB3.out).free 0
    have f1 := (HR.out.bel HB3.out).free 1
    simp at q0 q1 r0 r1
    cases hr : r with
    | none =>
      have E3 := Lib.hid (show chP p r = p by rw [E1.out, hr]; rfl)
      have E4 := Lib.hid (show chB p r = false by rw [E2.out, hr]; rfl)
      clear hr
      go_wp2_with fail
      refine (poolClone_c (HP.out.bel (HW.out.tr HB3.out)) HS.out).mono ?_
      rintro e w4 ⟨v0, v1, bvs, rfl, ho, hb4⟩
      have HO4 := Lib.hid ho
      have HB4 := Lib.hid hb4
      obtain ⟨A2, A3, c2, c3, rfl, rfl, hpi⟩ := ho.reads
      clear q0 q1 r0 r1 f0 f1 ho hb4 hpi
      have r0 := (HR.out.bel (HB3.out.tr HB4.out)).cell 0
      have r1 := (HR.out.bel (HB3.out.tr HB4.out)).cell 1
      have f0 := (HR.out.bel (HB3.out.tr HB4.out)).free 0
      have f1 := (HR.out.bel (HB3.out.tr HB4.out)).free 1
      simp at r0 r1
      go_wp2
      have hR2 := HR.out.bel (HB3.out.tr HB4.out)
      have hR3 := hR2.set 0 (.slice A2 p.slots.length c2) (cs' := #[.slice A2 p.slots.length c2, .slice none 0 0]) rfl
      have hR4 := hR3.set 1 (.slice A3 p.vols.length c3) (cs' := #[.slice A2 p.slots.length c2, .slice A3 p.vols.length c3]) rfl
      have hb5 := bel_set (bel_set (HW.out.tr (HB3.out.tr HB4.out)) (Nat.le_succ _) 0 (.slice A2 p.slots.length c2)) (Nat.le_succ _) 1 (.slice A3 p.vols.length c3)
      have hop4 := (HO4.out.far hR2 (by decide) (by decide) (by decide) 0 (.slice A2 p.slots.length c2)).far hR3 (by decide) (by decide) (by decide) 1 (.slice A3 p.vols.length c3)
      refine bodyPost_ret (results_ct rfl _ _ (w.heap.size + 1) 49 #[.slice A2 p.slots.length c2, .slice A3 p.vols.length c3] (0, 0) _ rfl hR4 Try.underlying49 rfl (by kernel_rfl)) rfl ?_
      rw [E3.out, E4.out]
      exact ⟨_, _, _, rfl, hop4.lower (by have := (HW.out.tr HB3.out).size; omega), hb5⟩
    | some q' =>
      have E3 := Lib.hid (show chP p r = q by rw [E1.out, HQR.out q' hr, hr]; rfl)
      have E4 := Lib.hid (show chB p r = true by rw [E2.out, hr]; rfl)
      clear hr
      obtain ⟨⟨v0, v1, bvs, hq1, hq2⟩, hlo⟩ := HQ.out
      obtain ⟨A4, A5, c4, c5, rfl, rfl, hpi⟩ := hq2.reads
      have HQ1 := Lib.hid hq1
      have HQ2 := Lib.hid hq2
      have s0 := HQ1.out.cell 0
      have s1 := HQ1.out.cell 1
      simp at s0 s1
      clear hq1 hq2 hpi
      go_wp2
      have hR2 := HR.out.bel HB3.out
      have hR3 := hR2.set 0 (.slice A4 q.slots.length c4) (cs' := #[.slice A4 q.slots.length c4, .slice none 0 0]) rfl
      have hR4 := hR3.set 1 (.slice A5 q.vols.length c5) (cs' := #[.slice A4 q.slots.length c4, .slice A5 q.vols.length c5]) rfl
      have hb5 := bel_set (bel_set (HW.out.tr HB3.out) (Nat.le_succ _) 0 (.slice A4 q.slots.length c4)) (Nat.le_succ _) 1 (.slice A5 q.vols.length c5)
      have hop4 := (HQ2.out.far hR2 (by decide) (by decide) (by decide) 0 (.slice A4 q.slots.length c4)).far hR3 (by decide) (by decide) (by decide) 1 (.slice A5 q.vols.length c5)
      refine bodyPost_ret (results_ct rfl _ _ (w.heap.size + 1) 49 #[.slice A4 q.slots.length c4, .slice A5 q.vols.length c5] (0, 0) _ rfl hR4 Try.underlying49 rfl (by kernel_rfl)) rfl ?_
      rw [E3.out, E4.out]
      exact ⟨_, _, _, rfl, hop4.lower (HW.out.tr HB1.out).size, hb5⟩
end Go.Proofs.Ytccllgpaafgjaaa
/- Plain Lean: valid slots and pools, laid out; a piece less, a piece more. -/


namespace Go.Proofs.Ytccllgpaafgjaaa
open Go.RowKit Go.Proofs.YtccllgpaafgjaaaW.PrintWords
set_option linter.unusedVariables false
set_option linter.unusedSimpArgs false

/-! ### names -/
def nmN (t : ByteArray) : Nat := (t.toList.headD 0).toNat
theorem isNm_one {t : ByteArray} (h : isNm t = true) : ∃ b : UInt8, t.toList = [b] ∧ 65 ≤ b.toNat ∧ b.toNat ≤ 68 := by
  simp [isNm] at h
  rcases h with h | h | h | h <;> exact ⟨_, h, by decide, by decide⟩
theorem nm_bd {a : ByteArray} (h : isNm a = true) : 65 ≤ nmN a ∧ nmN a ≤ 68 := by
  obtain ⟨b, hb, h1, h2⟩ := isNm_one h
  simp [nmN, hb, h1, h2]
theorem nm_lt {a b : ByteArray} (ha : isNm a = true) (hb : isNm b = true) : Op.bytesLess a.toList b.toList = decide (nmN a < nmN b) := by
  obtain ⟨x, hx, _⟩ := isNm_one ha
  obtain ⟨y, hy, _⟩ := isNm_one hb
  simp [nmN, hx, hy, Op.bytesLess, UInt8.lt_iff_toNat_lt]
theorem nm_eq {a b : ByteArray} (ha : isNm a = true) (hb : isNm b = true) : a = b ↔ nmN a = nmN b := by
  obtain ⟨x, hx, _⟩ := isNm_one ha
  obtain ⟨y, hy, _⟩ := isNm_one hb
  constructor
  · rintro rfl; rfl
  · intro h
    refine str_eq ?_
    rw [hx, hy]
    simp [nmN, hx, hy] at h
    rw [UInt8.toNat_inj.1 h]
def cmpN (a b : ByteArray) : Int := Lib.compareBytes a.data.toList b.data.toList
theorem nm_cmp {a b : ByteArray} (ha : isNm a = true) (hb : isNm b = true) : cmpN a b < 0 ↔ nmN a < nmN b := by
  obtain ⟨x, hx, _⟩ := isNm_one ha
  obtain ⟨y, hy, _⟩ := isNm_one hb
  have e1 : a.data.toList = [x] := by rw [← hx, ByteArray.toList_eq]
  have e2 : b.data.toList = [y] := by rw [← hy, ByteArray.toList_eq]
  have h1 := UInt8.lt_iff_toNat_lt (a := x) (b := y)
  have h2 := UInt8.lt_iff_toNat_lt (a := y) (b := x)
  simp only [nmN, hx, hy, cmpN, e1, e2, Lib.compareBytes, List.headD_cons]
  split
  · rename_i h; simp [h1.1 h]
  · rename_i h
    split
    · rename_i h3; have := h2.1 h3; simp; omega
    · simp; rw [h1] at h; omega

/-! ### slots -/
structure StoreP (s : List Slot) : Prop where
  len : s.length = 8
  ok : ∀ (m : Nat) (x : Slot), s[m]? = some x → tOk x.text = true ∧ 0 ≤ x.uses ∧ x.uses ≤ 99 ∧ (x.text = e0 ↔ x.uses = 0)
  uniq : ∀ (i j : Nat) (x y : Slot), s[i]? = some x → s[j]? = some y → x.text = y.text → x.text ≠ e0 → i = j
theorem slotOk_iff {x : Slot} : slotOk x = true ↔ tOk x.text = true ∧ 0 ≤ x.uses ∧ x.uses ≤ 99 ∧ (x.text = e0 ↔ x.uses = 0) := by
  unfold slotOk
  rw [Bool.and_eq_true, Bool.and_eq_true, inR_iff]
  have : ((x.text.toList == []) == (x.uses == 0)) = true ↔ (x.text = e0 ↔ x.uses = 0) := by
    rw [← toList_nil (s := x.text)]
    cases h1 : (x.text.toList == []) <;> cases h2 : (x.uses == 0) <;> simp_all
  rw [this, and_assoc, and_assoc]
theorem dupIn_no {x : Slot} {pre : List Slot} : dupIn x pre = false ↔ (x.text = e0 ∨ ∀ o ∈ pre, o.text ≠ x.text) := by
  unfold dupIn hasText
  rw [← toList_nil (s := x.text)]
  cases h1 : (x.text.toList == [])
  · have hn : x.text.toList ≠ [] := by simpa using h1
    simp only [Bool.not_false, Bool.true_and, hn, false_or, List.any_eq_false]
    exact ⟨fun h o ho e => by simpa [e] using h o ho, fun h o ho => by simpa using fun e => h o ho (str_eq e)⟩
  · have hn : x.text.toList = [] := by simpa using h1
    simp [hn]
theorem storeOk_iff {s : List Slot} : storeOk s = true ↔ StoreP s := by
  unfold storeOk
  rw [Bool.and_eq_true, allN_iff, decide_eq_true_eq]
  have key : ∀ i x, s[i]? = some x → (storeAt s i = true ↔ (tOk x.text = true ∧ 0 ≤ x.uses ∧ x.uses ≤ 99 ∧ (x.text = e0 ↔ x.uses = 0)) ∧ (x.text = e0 ∨ ∀ o ∈ s.take i, o.text ≠ x.text)) := by
    intro i x hx
    rw [storeAt_eq hx, Bool.and_eq_true, slotOk_iff, Bool.not_eq_true', dupIn_no]
  constructor
  · rintro ⟨h, hl⟩
    refine ⟨hl, fun m x hx => ((key m x hx).1 (h m (ltQ hx))).1, ?_⟩
    have aux : ∀ (i j : Nat) (x y : Slot), i < j → s[i]? = some x → s[j]? = some y → x.text = y.text → x.text ≠ e0 → False := by
      intro i j x y hij hx hy he hne
      rcases ((key j y hy).1 (h j (ltQ hy))).2 with h2 | h2
      · exact hne (he.trans h2)
      · refine h2 x ?_ he
        exact List.mem_of_getElem? (show (s.take j)[i]? = some x by rw [List.getElem?_take, if_pos hij]; exact hx)
    intro i j x y hx hy he hne
    rcases Nat.lt_trichotomy i j with h1 | h1 | h1
    · exact (aux i j x y h1 hx hy he hne).elim
    · exact h1
    · exact (aux j i y x h1 hy hx he.symm (he ▸ hne)).elim
  · rintro ⟨hl, h1, h2⟩
    refine ⟨fun i hi => ?_, hl⟩
    obtain ⟨x, hx⟩ := getQ hi
    refine (key i x hx).2 ⟨h1 i x hx, ?_⟩
    by_cases he : x.text = e0
    · exact .inl he
    · refine .inr fun o ho e => ?_
      obtain ⟨j, hj⟩ := List.getElem?_of_mem ho
      have hji : j < i := by have := ltQ hj; rw [List.length_take] at this; omega
      rw [List.getElem?_take, if_pos hji] at hj
      have := h2 j i o x hj hx e (e ▸ he)
      omega
/-- One slot turned. -/
theorem StoreP.set {s : List Slot} (h : StoreP s) {m : Nat} {x y : Slot} (hx : s[m]? = some x) (hy : tOk y.text = true ∧ 0 ≤ y.uses ∧ y.uses ≤ 99 ∧ (y.text = e0 ↔ y.uses = 0))
    (hu : y.text = e0 ∨ y.text = x.text ∨ ∀ (j : Nat) (z : Slot), s[j]? = some z → z.text ≠ y.text) : StoreP (s.set m y) := by
  have hm := ltQ hx
  have get : ∀ (j : Nat) (z : Slot), (s.set m y)[j]? = some z → (j = m ∧ z = y) ∨ (j ≠ m ∧ s[j]? = some z) := by
    intro j z hz
    by_cases e : j = m
    · subst e; rw [List.getElem?_set_self hm] at hz; exact .inl ⟨rfl, (Option.some.inj hz).symm⟩
    · rw [List.getElem?_set_ne (fun h => e h.symm)] at hz; exact .inr ⟨e, hz⟩
  have clash : ∀ (j : Nat) (z : Slot), j ≠ m → s[j]? = some z → z.text = y.text → y.text ≠ e0 → False := by
    intro j z hj hz e hne
    rcases hu with h1 | h1 | h1
    · exact hne h1
    · exact hj (h.uniq j m z x hz hx (e.trans h1) (e ▸ hne))
    · exact h1 j z hz e
  refine ⟨by rw [List.length_set]; exact h.len, ?_, ?_⟩
  · intro j z hz
    rcases get j z hz with ⟨_, rfl⟩ | ⟨_, hz⟩
    · exact hy
    · exact h.ok j z hz
  · intro i j a b ha hb e hne
    rcases get i a ha with ⟨e1, e2⟩ | ⟨hi, ha2⟩ <;> rcases get j b hb with ⟨e3, e4⟩ | ⟨hj, hb2⟩
    · rw [e1, e3]
    · exact (clash j b hj hb2 (by rw [← e, e2]) (by rw [← e2]; exact hne)).elim
    · exact (clash i a hi ha2 (by rw [e, e4]) (by rw [← e4, ← e]; exact hne)).elim
    · exact h.uniq i j a b ha2 hb2 e hne
theorem lessS_uses {x : Slot} (h : 1 ≤ x.uses) : (lessS x).uses = x.uses - 1 := by unfold lessS; split <;> simp <;> omega
theorem lessS_text (x : Slot) : (lessS x).text = x.text ∨ (lessS x).uses = 0 := by unfold lessS; split <;> simp
theorem tOk_e0 : tOk e0 = true := by unfold tOk; rw [toList_nil.2 rfl]; rfl
theorem StoreP.drop {s : List Slot} (h : StoreP s) {m : Nat} {x : Slot} (hx : s[m]? = some x) (h1 : 1 ≤ x.uses) : StoreP (dropS s m) := by
  rw [dropS_eq hx]
  obtain ⟨a, b, c, d⟩ := h.ok m x hx
  refine h.set hx ?_ ?_
  · unfold lessS
    split
    · exact ⟨tOk_e0, by simp, by simp, by simp⟩
    · refine ⟨a, by simp; omega, by simp; omega, ?_⟩
      rw [d]; simp; omega
  · unfold lessS; split <;> simp
/-- A reference more. -/
def incS (s : List Slot) (m : Nat) : List Slot := s.set m ⟨(s.getD m Slot.z).text, (s.getD m Slot.z).uses + 1⟩
theorem incS_eq {s : List Slot} {m : Nat} {x : Slot} (h : s[m]? = some x) : incS s m = s.set m ⟨x.text, x.uses + 1⟩ := by unfold incS; rw [getD_of h]
theorem StoreP.inc {s : List Slot} (h : StoreP s) {m : Nat} {x : Slot} (hx : s[m]? = some x) (h1 : 1 ≤ x.uses) (h2 : x.uses ≤ 98) : StoreP (incS s m) := by
  rw [incS_eq hx]
  obtain ⟨a, b, c, d⟩ := h.ok m x hx
  exact h.set hx ⟨a, by simp; omega, by simp; omega, by rw [d]; simp; omega⟩ (.inr (.inl rfl))

/-! ### all references of a row of blocks: less, more -/
def dropAll (s : List Slot) : List Int → List Slot
  | [] => s
  | x :: xs => dropAll (if 0 < x then dropS s (x - 1).toNat else s) xs
def incAll (s : List Slot) : List Int → List Slot
  | [] => s
  | x :: xs => incAll (if 0 < x then incS s (x - 1).toNat else s) xs
theorem dropAll_snoc (s : List Slot) (xs : List Int) (x : Int) : dropAll s (xs ++ [x]) = if 0 < x then dropS (dropAll s xs) (x - 1).toNat else dropAll s xs := by
  induction xs generalizing s with
  | nil => rfl
  | cons y ys ih => exact ih _
theorem incAll_snoc (s : List Slot) (xs : List Int) (x : Int) : incAll s (xs ++ [x]) = if 0 < x then incS (incAll s xs) (x - 1).toNat else incAll s xs := by
  induction xs generalizing s with
  | nil => rfl
  | cons y ys ih => exact ih _
theorem dropS_len (s : List Slot) (m : Nat) : (dropS s m).length = s.length := by simp [dropS]
theorem incS_len (s : List Slot) (m : Nat) : (incS s m).length = s.length := by simp [incS]
theorem dropAll_len (s : List Slot) (xs : List Int) : (dropAll s xs).length = s.length := by
  induction xs generalizing s with
  | nil => rfl
  | cons y ys ih => simp only [dropAll, ih]; split <;> simp [dropS_len]
theorem incAll_len (s : List Slot) (xs : List Int) : (incAll s xs).length = s.length := by
  induction xs generalizing s with
  | nil => rfl
  | cons y ys ih => simp only [incAll, ih]; split <;> simp [incS_len]
/-- What is dropped is counted. -/
theorem dropAll_get {xs : List Int} : ∀ {s : List Slot}, StoreP s → (∀ x ∈ xs, 0 ≤ x ∧ x ≤ 8) → (∀ (m : Nat) (x : Slot), s[m]? = some x → cnt (m + 1) xs ≤ x.uses) →
    StoreP (dropAll s xs) ∧ ∀ (m : Nat) (x : Slot), s[m]? = some x → ∃ y, (dropAll s xs)[m]? = some y ∧ y.uses = x.uses - cnt (m + 1) xs ∧ (y.text = x.text ∨ y.uses = 0) := by
  induction xs with
  | nil => intro s h _ _; exact ⟨h, fun m x hx => ⟨x, hx, by simp [cnt], .inl rfl⟩⟩
  | cons a xs ih =>
    intro s h hr hc
    have ha := hr a List.mem_cons_self
    have hr' : ∀ x ∈ xs, 0 ≤ x ∧ x ≤ 8 := fun x hx => hr x (List.mem_cons_of_mem _ hx)
    simp only [dropAll]
    by_cases h0 : 0 < a
    · rw [if_pos h0]
      obtain ⟨x0, hx0⟩ := getQ (show (a - 1).toNat < s.length by rw [h.len]; omega)
      have hca := hc _ _ hx0
      simp only [cnt, show (((a - 1).toNat : Nat) : Int) + 1 = a by omega, if_pos] at hca
      have hcn := cnt_le a xs
      have h1 : 1 ≤ x0.uses := by omega
      have hd := h.drop hx0 h1
      have get : ∀ (m : Nat) (x : Slot), s[m]? = some x → ∃ y, (dropS s (a - 1).toNat)[m]? = some y ∧ y.uses = x.uses - (if a = (m : Int) + 1 then 1 else 0) ∧ (y.text = x.text ∨ y.uses = 0) := by
        intro m x hx
        by_cases e : m = (a - 1).toNat
        · subst e
          obtain rfl := Option.some.inj (hx.symm.trans hx0)
          refine ⟨lessS x, by rw [dropS_eq hx, List.getElem?_set_self (ltQ hx)], ?_, lessS_text x⟩
          rw [lessS_uses h1, if_pos (by omega)]
        · refine ⟨x, by unfold dropS; rw [List.getElem?_set_ne (fun h => e h.symm)]; exact hx, ?_, .inl rfl⟩
          rw [if_neg (by omega)]; omega
      obtain ⟨r1, r2⟩ := ih hd hr' (fun m y hy => by
        obtain ⟨x, hx⟩ := getQ (show m < s.length by have := ltQ hy; rwa [dropS_len] at this)
        obtain ⟨y', hy', hu, _⟩ := get m x hx
        obtain rfl := Option.some.inj (hy.symm.trans hy')
        have := hc m x hx
        simp only [cnt] at this
        omega)
      refine ⟨r1, fun m x hx => ?_⟩
      obtain ⟨y, hy, hu, ht⟩ := get m x hx
      obtain ⟨z, hz, hu2, ht2⟩ := r2 m y hy
      refine ⟨z, hz, by simp only [cnt]; omega, ?_⟩
      have hcm := cnt_le ((m : Int) + 1) xs
      have hz0 := ((r1.ok m z hz).2.1)
      rcases ht2 with ht2 | ht2
      · rcases ht with ht | ht
        · exact .inl (ht2.trans ht)
        · exact .inr (by omega)
      · exact .inr ht2
    · rw [if_neg h0]
      obtain ⟨r1, r2⟩ := ih h hr' (fun m x hx => by have := hc m x hx; simp only [cnt] at this; rw [if_neg (by omega)] at this; omega)
      refine ⟨r1, fun m x hx => ?_⟩
      obtain ⟨z, hz, hu2, ht2⟩ := r2 m x hx
      exact ⟨z, hz, by simp only [cnt]; rw [if_neg (by omega)]; omega, ht2⟩
/-- What is added is counted. -/
theorem incAll_get {xs : List Int} : ∀ {s : List Slot}, StoreP s → (∀ x ∈ xs, 0 ≤ x ∧ x ≤ 8) → (∀ (m : Nat) (x : Slot), s[m]? = some x → x.uses + cnt (m + 1) xs ≤ 99 ∧ (0 < cnt (m + 1) xs → 1 ≤ x.uses)) →
    StoreP (incAll s xs) ∧ ∀ (m : Nat) (x : Slot), s[m]? = some x → (incAll s xs)[m]? = some ⟨x.text, x.uses + cnt (m + 1) xs⟩ := by
  induction xs with
  | nil => intro s h _ _; exact ⟨h, fun m x hx => by simpa [cnt, incAll] using hx⟩
  | cons a xs ih =>
    intro s h hr hc
    have ha := hr a List.mem_cons_self
    have hr' : ∀ x ∈ xs, 0 ≤ x ∧ x ≤ 8 := fun x hx => hr x (List.mem_cons_of_mem _ hx)
    simp only [incAll]
    by_cases h0 : 0 < a
    · rw [if_pos h0]
      obtain ⟨x0, hx0⟩ := getQ (show (a - 1).toNat < s.length by rw [h.len]; omega)
      have hca := hc _ _ hx0
      simp only [cnt, show (((a - 1).toNat : Nat) : Int) + 1 = a by omega, if_pos] at hca
      have hcn := cnt_le a xs
      have h1 : 1 ≤ x0.uses := hca.2 (by omega)
      have h2 : x0.uses ≤ 98 := by have := hca.1; omega
      have hd := h.inc hx0 h1 h2
      have get : ∀ (m : Nat) (x : Slot), s[m]? = some x → (incS s (a - 1).toNat)[m]? = some ⟨x.text, x.uses + (if a = (m : Int) + 1 then 1 else 0)⟩ := by
        intro m x hx
        by_cases e : m = (a - 1).toNat
        · subst e
          rw [incS_eq hx, List.getElem?_set_self (ltQ hx), if_pos (by omega)]
        · unfold incS; rw [List.getElem?_set_ne (fun h => e h.symm), hx, if_neg (by omega)]; simp
      obtain ⟨r1, r2⟩ := ih hd hr' (fun m y hy => by
        obtain ⟨x, hx⟩ := getQ (show m < s.length by have := ltQ hy; rwa [incS_len] at this)
        obtain rfl := Option.some.inj (hy.symm.trans (get m x hx))
        have := hc m x hx
        simp only [cnt] at this
        have h3 := h.ok m x hx
        have h4 := cnt_le ((m : Int) + 1) xs
        refine ⟨by simp only; omega, fun h5 => ?_⟩
        simp only
        have := this.2 (by omega)
        split <;> omega)
      refine ⟨r1, fun m x hx => ?_⟩
      rw [r2 m _ (get m x hx)]
      simp only [cnt]
      congr 2; omega
    · rw [if_neg h0]
      obtain ⟨r1, r2⟩ := ih h hr' (fun m x hx => by have := hc m x hx; simp only [cnt] at this; rw [if_neg (by omega)] at this; simpa using this)
      refine ⟨r1, fun m x hx => ?_⟩
      rw [r2 m x hx]
      simp only [cnt]
      rw [if_neg (by omega)]
      congr 2; omega

/-! ### where a piece is put -/
theorem textB {a b : ByteArray} : (a.toList == b.toList) = true ↔ a = b := ⟨fun h => str_eq (by simpa using h), fun h => by simp [h]⟩
def goRound (d : Nat) (p : Int) : Int := (p - 1 + d) % 8 + 1
theorem goRound_succ {d : Nat} {p : Int} : goRound d (p % 8 + 1) = goRound (d + 1) p := by unfold goRound; omega
theorem scan_hit {s : List Slot} {t : ByteArray} {m : Nat} {x : Slot} (hx : s[m]? = some x) (ht : x.text = t) (hu : ∀ (j : Nat) (y : Slot), s[j]? = some y → y.text = t → j = m) (hl : s.length = 8) :
    ∀ (n d : Nat) (p free : Int), 1 ≤ p → p ≤ 8 → d < n → goRound d p = (m : Int) + 1 → scan s t n p free = ((m : Int) + 1, true) := by
  intro n
  induction n with
  | zero => intro d p free h1 h8 hd; omega
  | succ n ih =>
    intro d p free h1 h8 hd hg
    obtain ⟨y, hy⟩ := getQ (show (p - 1).toNat < s.length by rw [hl]; omega)
    unfold scan
    rw [getD_of hy]
    cases hb : (y.text.toList == t.toList)
    · simp only [Bool.false_eq_true, if_false]
      cases d with
      | zero =>
        exfalso
        unfold goRound at hg
        have : (p - 1).toNat = m := by omega
        rw [this] at hy
        obtain rfl := Option.some.inj (hy.symm.trans hx)
        rw [ht] at hb
        simp at hb
      | succ d => exact ih d _ _ (by omega) (by omega) (by omega) (by rw [goRound_succ]; exact hg)
    · simp only [if_true]
      have := hu _ y hy (textB.1 hb)
      rw [show p = (m : Int) + 1 by omega]
theorem probe_free {s : List Slot} (hl : s.length = 8) : ∀ (n : Nat) (p : Int), 1 ≤ p → p ≤ 8 → probe s n p ≠ 0 → ∃ (m : Nat) (x : Slot), probe s n p = (m : Int) + 1 ∧ s[m]? = some x ∧ x.uses = 0 := by
  intro n
  induction n with
  | zero => intro p _ _ h; exact absurd rfl h
  | succ n ih =>
    intro p h1 h8 h
    obtain ⟨y, hy⟩ := getQ (show (p - 1).toNat < s.length by rw [hl]; omega)
    unfold probe at h ⊢
    rw [getD_of hy] at h ⊢
    by_cases h0 : y.uses = 0
    · rw [if_pos h0]; exact ⟨(p - 1).toNat, y, by omega, hy, h0⟩
    · rw [if_neg h0] at h ⊢; exact ih _ (by omega) (by omega) h
theorem scan_miss {s : List Slot} {t : ByteArray} (hn : ∀ (j : Nat) (y : Slot), s[j]? = some y → y.text ≠ t) (hl : s.length = 8) :
    ∀ (n : Nat) (p free : Int), 1 ≤ p → p ≤ 8 → scan s t n p free = (if free = 0 then probe s n p else free, false) := by
  intro n
  induction n with
  | zero => intro p free _ _; unfold scan probe; split <;> simp_all
  | succ n ih =>
    intro p free h1 h8
    obtain ⟨y, hy⟩ := getQ (show (p - 1).toNat < s.length by rw [hl]; omega)
    have hb : (y.text.toList == t.toList) = false := by
      cases hb : (y.text.toList == t.toList)
      · rfl
      · exact absurd (textB.1 hb) (hn _ y hy)
    unfold scan probe
    rw [getD_of hy, hb]
    simp only [Bool.false_eq_true, if_false]
    rw [ih _ _ (by omega) (by omega)]
    by_cases h0 : y.uses = 0
    · by_cases hf : free = 0
      · rw [if_pos (show y.uses = 0 ∧ free = 0 from ⟨h0, hf⟩), if_neg (by omega), if_pos hf, if_pos h0]
      · rw [if_neg (show ¬ (y.uses = 0 ∧ free = 0) from fun h => hf h.2), if_neg hf, if_neg hf]
    · rw [if_neg (show ¬ (y.uses = 0 ∧ free = 0) from fun h => h0 h.1), if_neg h0]
/-- Where a piece is put, and what is there. -/
inductive PutAt (s : List Slot) (t : ByteArray) (r : Int) : Prop where
  | no (h : r = 0)
  | old (m : Nat) (x : Slot) (h : r = (m : Int) + 1) (hx : s[m]? = some x) (ht : x.text = t) (hu : x.uses < 99)
  | fresh (m : Nat) (x : Slot) (h : r = (m : Int) + 1) (hx : s[m]? = some x) (hu : x.uses = 0) (hn : ∀ (j : Nat) (y : Slot), s[j]? = some y → y.text ≠ t)
theorem find_cases (s : List Slot) (t : ByteArray) : (idx (fun o : Slot => o.text.toList == t.toList) s = -1 ∧ ∀ (j : Nat) (y : Slot), s[j]? = some y → y.text ≠ t) ∨
    ∃ (m : Nat) (x : Slot), idx (fun o : Slot => o.text.toList == t.toList) s = m ∧ s[m]? = some x ∧ x.text = t := by
  have hb := idx_bd (fun o : Slot => o.text.toList == t.toList) s
  by_cases h : 0 ≤ idx (fun o : Slot => o.text.toList == t.toList) s
  · obtain ⟨x, hx, ht⟩ := idx_get h
    exact .inr ⟨_, x, by omega, hx, textB.1 ht⟩
  · refine .inl ⟨by omega, fun j y hy he => h (hb.2.2.2 ?_)⟩
    rw [List.any_eq_true]
    exact ⟨y, List.mem_of_getElem? hy, textB.2 he⟩
theorem putAt_cases {s : List Slot} (h : StoreP s) {t : ByteArray} (ht : t ≠ e0) : PutAt s t (putAt s t) ∧ putAt2 s t = putAt s t := by
  rcases find_cases s t with ⟨hi, hn⟩ | ⟨m, x, hi, hx, he⟩
  · have e1 : putAt s t = probe s 8 (placeOf t) := by unfold putAt; rw [if_pos hi]
    have e2 : scanS s t = (probe s 8 (placeOf t), false) := by unfold scanS; rw [scan_miss hn h.len 8 _ 0 placeOf_bd.1 placeOf_bd.2]; simp
    by_cases h0 : probe s 8 (placeOf t) = 0
    · refine ⟨.no (by rw [e1, h0]), ?_⟩
      unfold putAt2; rw [e2]; simp [h0, e1]
    · obtain ⟨m, x, e3, hx, hu⟩ := probe_free h.len 8 _ placeOf_bd.1 placeOf_bd.2 h0
      refine ⟨.fresh m x (by rw [e1, e3]) hx hu hn, ?_⟩
      unfold putAt2
      rw [e2, e1, e3]
      simp only [show ((m : Int) + 1 - 1).toNat = m by omega, getD_of hx, hu]
      rw [if_neg (by omega)]
  · have hok := h.ok m x hx
    have e2 : scanS s t = ((m : Int) + 1, true) := by
      unfold scanS
      have hm : m < 8 := by have := ltQ hx; rw [h.len] at this; exact this
      have hp := placeOf_bd (s := t)
      refine scan_hit hx he (fun j y hy hyt => h.uniq j m y x hy hx (hyt.trans he.symm) (hyt ▸ ht)) h.len 8 (((m : Int) + 1 - placeOf t) % 8).toNat _ 0 hp.1 hp.2 (by omega) ?_
      unfold goRound; omega
    have e1 : putAt s t = if x.uses = 99 then 0 else (m : Int) + 1 := by
      unfold putAt; rw [if_neg (by omega), hi, Int.toNat_natCast, getD_of hx]
    have e3 : putAt2 s t = if x.uses = 99 then 0 else (m : Int) + 1 := by
      unfold putAt2
      rw [e2]
      simp only [show ((m : Int) + 1 - 1).toNat = m by omega, getD_of hx]
      by_cases h9 : x.uses = 99
      · rw [if_pos (by omega), if_pos h9]
      · rw [if_neg (by omega), if_neg h9]
    refine ⟨?_, e3.trans e1.symm⟩
    by_cases h9 : x.uses = 99
    · exact .no (by rw [e1, if_pos h9])
    · exact .old m x (by rw [e1, if_neg h9]) hx he (by omega)
theorem StoreP.more {s : List Slot} (h : StoreP s) {t : ByteArray} (ht : t ≠ e0) (hk : tOk t = true) {r : Int} (hr : PutAt s t r) : StoreP (moreS s t r) := by
  unfold moreS
  cases hr with
  | no h0 => rw [if_pos h0]; exact h
  | old m x e hx he hu =>
    have hok := h.ok m x hx
    rw [if_neg (by omega), e, show ((m : Int) + 1 - 1).toNat = m by omega, getD_of hx]
    refine h.set hx ⟨hk, by simp; omega, by simp; omega, ?_⟩ (.inr (.inl he.symm))
    constructor
    · intro h5; exact absurd h5 ht
    · intro h5; simp at h5; omega
  | fresh m x e hx hu hn =>
    rw [if_neg (by omega), e, show ((m : Int) + 1 - 1).toNat = m by omega, getD_of hx, hu]
    refine h.set hx ⟨hk, by simp, by simp, ?_⟩ (.inr (.inr hn))
    constructor
    · intro h5; exact absurd h5 ht
    · intro h5; simp at h5
end Go.Proofs.Ytccllgpaafgjaaa
/- Plain Lean: valid pools; what making, writing, cloning, and doing away with a volume make of one. -/


namespace Go.Proofs.Ytccllgpaafgjaaa
open Go.RowKit Go.Proofs.YtccllgpaafgjaaaW.PrintWords
set_option linter.unusedVariables false
set_option linter.unusedSimpArgs false

/-- Volumes by name. -/
def SortV (vs : List Vol) : Prop := ∀ (i j : Nat) (x y : Vol), i < j → vs[i]? = some x → vs[j]? = some y → nmN x.name < nmN y.name
structure VolsP (vs : List Vol) : Prop where
  v : ∀ (m : Nat) (x : Vol), vs[m]? = some x → volOk x = true
  sort : SortV vs
theorem VolsP.nm {vs : List Vol} (h : VolsP vs) {m : Nat} {x : Vol} (hx : vs[m]? = some x) : isNm x.name = true := (volOk_parts (h.v m x hx)).2.1
theorem VolsP.low {vs : List Vol} (h : VolsP vs) : ∀ (m : Nat) (x : Vol), vs[m]? = some x → 65 + m ≤ nmN x.name := by
  intro m
  induction m with
  | zero => intro x hx; exact (nm_bd (h.nm hx)).1
  | succ m ih =>
    intro x hx
    obtain ⟨y, hy⟩ := getQ (show m < vs.length by have := ltQ hx; omega)
    have h1 := ih y hy
    have h2 := h.sort m (m + 1) y x (by omega) hy hx
    omega
theorem VolsP.len {vs : List Vol} (h : VolsP vs) : vs.length ≤ 4 := by
  by_cases hl : vs.length ≤ 4
  · exact hl
  · obtain ⟨x, hx⟩ := getQ (show 4 < vs.length by omega)
    have h1 := h.low 4 x hx
    have h2 := (nm_bd (h.nm hx)).2
    omega
theorem VolsP.uniq {vs : List Vol} (h : VolsP vs) {i j : Nat} {x y : Vol} (hx : vs[i]? = some x) (hy : vs[j]? = some y) (he : x.name = y.name) : i = j := by
  rcases Nat.lt_trichotomy i j with h1 | h1 | h1
  · have := h.sort i j x y h1 hx hy; rw [he] at this; omega
  · exact h1
  · have := h.sort j i y x h1 hy hx; rw [he] at this; omega
structure PoolP (p : Pool) : Prop where
  s : StoreP p.slots
  v : VolsP p.vols
  uses : ∀ (m : Nat) (x : Slot), p.slots[m]? = some x → x.uses = uses (m + 1) p.vols
theorem volsOk_iff {vs : List Vol} : (allN (volsAt vs) vs.length = true) ↔ VolsP vs := by
  rw [allN_iff]
  have key : ∀ i x, vs[i]? = some x → (volsAt vs i = true ↔ volOk x = true ∧ (0 < i → Op.bytesLess (vs.getD (i - 1) Vol.z).name.toList x.name.toList = true)) := by
    intro i x hx
    unfold volsAt
    rw [getD_of hx]
    simp
    intro _
    by_cases h0 : i = 0
    · subst h0; simp
    · simp [Nat.pos_of_ne_zero h0]
      exact fun h => absurd h h0
  constructor
  · intro h
    have hv : ∀ (m : Nat) (x : Vol), vs[m]? = some x → volOk x = true := fun m x hx => ((key m x hx).1 (h m (ltQ hx))).1
    have hs : ∀ (d i : Nat) (x y : Vol), vs[i]? = some x → vs[i + d + 1]? = some y → nmN x.name < nmN y.name := by
      intro d
      induction d with
      | zero =>
        intro i x y hx hy
        have h1 := ((key _ y hy).1 (h _ (ltQ hy))).2 (by omega)
        rw [show i + 0 + 1 - 1 = i by omega, getD_of hx, nm_lt (volOk_parts (hv _ _ hx)).2.1 (volOk_parts (hv _ _ hy)).2.1] at h1
        simpa using h1
      | succ d ih =>
        intro i x y hx hy
        obtain ⟨z, hz⟩ := getQ (show i + d + 1 < vs.length by have := ltQ hy; omega)
        have h1 := ((key _ y hy).1 (h _ (ltQ hy))).2 (by omega)
        rw [show i + (d + 1) + 1 - 1 = i + d + 1 by omega, getD_of hz, nm_lt (volOk_parts (hv _ _ hz)).2.1 (volOk_parts (hv _ _ hy)).2.1] at h1
        have h2 := ih i x z hx hz
        simp at h1; omega
    exact ⟨hv, fun i j x y hij hx hy => hs (j - i - 1) i x y hx (by rw [show i + (j - i - 1) + 1 = j by omega]; exact hy)⟩
  · intro h i hi
    obtain ⟨x, hx⟩ := getQ hi
    refine (key i x hx).2 ⟨h.v i x hx, fun h0 => ?_⟩
    obtain ⟨y, hy⟩ := getQ (show i - 1 < vs.length by omega)
    rw [getD_of hy, nm_lt (h.nm hy) (h.nm hx)]
    simpa using h.sort (i - 1) i y x (by omega) hy hx
theorem poolOk_iff {p : Pool} : poolOk p = true ↔ PoolP p := by
  unfold poolOk
  rw [Bool.and_eq_true, Bool.and_eq_true, Bool.and_eq_true, storeOk_iff, volsOk_iff, decide_eq_true_eq, allN_iff]
  constructor
  · rintro ⟨⟨⟨h1, h2⟩, h3⟩, h4⟩
    refine ⟨h1, h3, fun m x hx => ?_⟩
    have := h4 m (by have := ltQ hx; rwa [h1.len] at this)
    unfold usesAt at this; rw [getD_of hx] at this
    simpa using this
  · rintro ⟨h1, h2, h3⟩
    refine ⟨⟨⟨h1, h2.len⟩, h2⟩, fun m hm => ?_⟩
    obtain ⟨x, hx⟩ := getQ (show m < p.slots.length by rw [h1.len]; exact hm)
    unfold usesAt; rw [getD_of hx]
    simpa using h3 m x hx

/-! ### counting -/
theorem uses_append (p : Int) (xs ys : List Vol) : uses p (xs ++ ys) = uses p xs + uses p ys := by
  induction xs with
  | nil => simp [uses]
  | cons a xs ih => simp only [List.cons_append, uses, ih]; omega
theorem uses_insAt (p : Int) (vs : List Vol) (x : Vol) (i : Nat) : uses p (insAt i x vs) = uses p vs + cnt p x.blocks := by
  unfold insAt
  rw [uses_append, uses]
  have := uses_append p (vs.take i) (vs.drop i)
  rw [List.take_append_drop] at this
  omega
theorem uses_erase {p : Int} {vs : List Vol} {x : Vol} {i : Nat} (hx : vs[i]? = some x) : uses p (vs.eraseIdx i) = uses p vs - cnt p x.blocks := by
  induction vs generalizing i with
  | nil => simp at hx
  | cons a vs ih =>
    cases i with
    | zero => simp at hx; subst hx; simp [uses]; omega
    | succ i => simp at hx; simp only [List.eraseIdx_cons_succ, uses, ih hx]; omega
theorem uses_set {p : Int} {vs : List Vol} {x y : Vol} {i : Nat} (hx : vs[i]? = some x) : uses p (vs.set i y) = uses p vs - cnt p x.blocks + cnt p y.blocks := by
  induction vs generalizing i with
  | nil => simp at hx
  | cons a vs ih =>
    cases i with
    | zero => simp at hx; subst hx; simp [uses]; omega
    | succ i => simp at hx; simp only [List.set_cons_succ, uses, ih hx]; omega
theorem cnt_set {p : Int} {bs : List Int} {x y : Int} {i : Nat} (hx : bs[i]? = some x) : cnt p (bs.set i y) = cnt p bs - (if x = p then 1 else 0) + (if y = p then 1 else 0) := by
  induction bs generalizing i with
  | nil => simp at hx
  | cons a bs ih =>
    cases i with
    | zero => simp at hx; subst hx; simp [cnt]; omega
    | succ i => simp at hx; simp only [List.set_cons_succ, cnt, ih hx]; omega
theorem uses_nonneg (p : Int) (vs : List Vol) : 0 ≤ uses p vs := by
  induction vs with
  | nil => simp [uses]
  | cons a vs ih => have := cnt_le p a.blocks; simp only [uses]; omega
theorem uses_mem {p : Int} {vs : List Vol} {x : Vol} {i : Nat} (hx : vs[i]? = some x) : cnt p x.blocks ≤ uses p vs := by
  have h1 := uses_erase (p := p) hx
  have h2 := uses_nonneg p (vs.eraseIdx i)
  omega
theorem cnt_pos {p : Int} {bs : List Int} (h : p ∈ bs) : 1 ≤ cnt p bs := by
  induction bs with
  | nil => simp at h
  | cons a bs ih =>
    have := cnt_le p bs
    simp only [cnt]
    rcases List.mem_cons.1 h with h | h
    · rw [if_pos h.symm]; omega
    · have := ih h; split <;> omega
theorem uses_bd {p : Int} {vs : List Vol} (h : ∀ x ∈ vs, volOk x = true) : uses p vs ≤ 6 * vs.length := by
  induction vs with
  | nil => simp [uses]
  | cons a vs ih =>
    have h1 := ih (fun x hx => h x (List.mem_cons_of_mem _ hx))
    have h2 := (volOk_parts (h a List.mem_cons_self)).2.2.2
    have h3 := cnt_le p a.blocks
    simp only [uses, List.length_cons]; omega
theorem VolsP.uses_le {vs : List Vol} (h : VolsP vs) (p : Int) : uses p vs ≤ 24 := by
  have h1 := uses_bd (p := p) (vs := vs) (fun x hx => by obtain ⟨m, hm⟩ := List.getElem?_of_mem hx; exact h.v m x hm)
  have h2 := h.len
  omega

/-! ### where a name stands -/
def posOf (t : ByteArray) : List Vol → Nat
  | [] => 0
  | v :: vs => if Op.bytesLess t.toList v.name.toList then 0 else posOf t vs + 1
theorem posOf_le (t : ByteArray) (vs : List Vol) : posOf t vs ≤ vs.length := by
  induction vs with
  | nil => simp [posOf]
  | cons v vs ih => unfold posOf; split <;> simp; omega
theorem posOf_lt {t : ByteArray} {vs : List Vol} {m : Nat} {x : Vol} (hm : m < posOf t vs) (hx : vs[m]? = some x) : Op.bytesLess t.toList x.name.toList = false := by
  induction vs generalizing m with
  | nil => simp at hx
  | cons v vs ih =>
    unfold posOf at hm
    split at hm
    · omega
    · rename_i h
      cases m with
      | zero => simp at hx; subst hx; simpa using h
      | succ m => exact ih (m := m) (by omega) (by simpa using hx)
theorem posOf_at {t : ByteArray} {vs : List Vol} {x : Vol} (hx : vs[posOf t vs]? = some x) : Op.bytesLess t.toList x.name.toList = true := by
  induction vs with
  | nil => simp at hx
  | cons v vs ih =>
    unfold posOf at hx
    split at hx
    · rename_i h; simp at hx; subst hx; exact h
    · exact ih (by simpa using hx)
theorem volIdx_no {vs : List Vol} {t : ByteArray} : volIdx vs t < 0 ↔ ∀ (m : Nat) (x : Vol), vs[m]? = some x → x.name ≠ t := by
  have hb := idx_bd (fun v : Vol => v.name.toList == t.toList) vs
  have hv : volIdx vs t = idx (fun v : Vol => v.name.toList == t.toList) vs := rfl
  rw [hv]
  constructor
  · intro h m x hx he
    have : vs.any (fun v : Vol => v.name.toList == t.toList) = true := by rw [List.any_eq_true]; exact ⟨x, List.mem_of_getElem? hx, textB.2 he⟩
    have := hb.2.2.2 this
    omega
  · intro h
    by_cases h0 : 0 ≤ idx (fun v : Vol => v.name.toList == t.toList) vs
    · obtain ⟨x, hx, hf⟩ := idx_get h0
      exact absurd (textB.1 hf) (h _ x hx)
    · omega
theorem volIdx_yes {vs : List Vol} {t : ByteArray} (h : ¬ volIdx vs t < 0) : ∃ (m : Nat) (x : Vol), volIdx vs t = m ∧ vs[m]? = some x ∧ x.name = t := by
  have h0 : 0 ≤ idx (fun v : Vol => v.name.toList == t.toList) vs := by have : volIdx vs t = idx (fun v : Vol => v.name.toList == t.toList) vs := rfl; omega
  obtain ⟨x, hx, hf⟩ := idx_get h0
  exact ⟨_, x, (Int.toNat_of_nonneg h0).symm, hx, textB.1 hf⟩
theorem VolsP.idx {vs : List Vol} (h : VolsP vs) {m : Nat} {x : Vol} (hx : vs[m]? = some x) : volIdx vs x.name = m := by
  by_cases h0 : volIdx vs x.name < 0
  · exact absurd rfl (volIdx_no.1 h0 m x hx)
  · obtain ⟨k, y, e, hy, hn⟩ := volIdx_yes h0
    rw [e, h.uniq hx hy hn.symm]
/-- In a row by name a new name's place parts the lesser ones from the greater ones. -/
theorem VolsP.pos {vs : List Vol} (h : VolsP vs) {t : ByteArray} (ht : isNm t = true) (hn : volIdx vs t < 0) (m : Nat) (x : Vol) (hx : vs[m]? = some x) : m < posOf t vs ↔ nmN x.name < nmN t := by
  have hne : nmN x.name ≠ nmN t := fun e => volIdx_no.1 hn m x hx ((nm_eq (h.nm hx) ht).2 e)
  constructor
  · intro hm
    have := posOf_lt hm hx
    rw [nm_lt ht (h.nm hx)] at this
    simp at this; omega
  · intro hm
    by_cases h1 : m < posOf t vs
    · exact h1
    · exfalso
      obtain ⟨y, hy⟩ := getQ (show posOf t vs < vs.length by have := ltQ hx; omega)
      have h2 := posOf_at hy
      rw [nm_lt ht (h.nm hy)] at h2
      simp at h2
      by_cases h3 : m = posOf t vs
      · subst h3; obtain rfl := Option.some.inj (hx.symm.trans hy); omega
      · have := h.sort _ m y x (by omega) hy hx; omega
theorem VolsP.ins {vs : List Vol} (h : VolsP vs) {v : Vol} (hv : volOk v = true) (hn : volIdx vs v.name < 0) : VolsP (insAt (posOf v.name vs) v vs) := by
  have hq := posOf_le v.name vs
  have hnm := (volOk_parts hv).2.1
  have hp := h.pos hnm hn
  have get : ∀ (m : Nat) (x : Vol), (insAt (posOf v.name vs) v vs)[m]? = some x → (m < posOf v.name vs ∧ vs[m]? = some x) ∨ (m = posOf v.name vs ∧ x = v) ∨ (posOf v.name vs < m ∧ vs[m - 1]? = some x) := by
    intro m x hx
    rw [insAt_get hq] at hx
    by_cases h1 : m < posOf v.name vs
    · rw [if_pos h1] at hx; exact .inl ⟨h1, hx⟩
    · rw [if_neg h1] at hx
      by_cases h2 : m = posOf v.name vs
      · rw [if_pos h2] at hx; exact .inr (.inl ⟨h2, (Option.some.inj hx).symm⟩)
      · rw [if_neg h2] at hx; exact .inr (.inr ⟨by omega, hx⟩)
  have hgt : ∀ (m : Nat) (x : Vol), posOf v.name vs ≤ m → vs[m]? = some x → nmN v.name < nmN x.name := by
    intro m x hm hx
    have h1 := (hp m x hx).2
    have h2 : nmN x.name ≠ nmN v.name := fun e => volIdx_no.1 hn m x hx ((nm_eq (h.nm hx) hnm).2 e)
    by_cases h3 : nmN x.name < nmN v.name
    · have := h1 h3; omega
    · omega
  refine ⟨fun m x hx => ?_, fun i j x y hij hx hy => ?_⟩
  · rcases get m x hx with ⟨_, hx⟩ | ⟨_, rfl⟩ | ⟨_, hx⟩
    · exact h.v _ _ hx
    · exact hv
    · exact h.v _ _ hx
  · rcases get i x hx with ⟨hi, hx⟩ | ⟨hi, hxv⟩ | ⟨hi, hx⟩ <;> rcases get j y hy with ⟨hj, hy⟩ | ⟨hj, hyv⟩ | ⟨hj, hy⟩
    · exact h.sort i j x y hij hx hy
    · rw [hyv]; exact (hp i x hx).1 hi
    · exact h.sort i (j - 1) x y (by omega) hx hy
    · omega
    · omega
    · rw [hxv]; exact hgt (j - 1) y (by omega) hy
    · omega
    · omega
    · exact h.sort (i - 1) (j - 1) x y (by omega) hx hy
theorem erase_get {α} {xs : List α} {i m : Nat} {x : α} (h : (xs.eraseIdx i)[m]? = some x) : xs[if m < i then m else m + 1]? = some x := by
  rw [List.getElem?_eraseIdx] at h
  split at h
  · rename_i h1; rwa [if_pos h1]
  · rename_i h1; rwa [if_neg h1]
theorem VolsP.erase {vs : List Vol} (h : VolsP vs) (i : Nat) : VolsP (vs.eraseIdx i) :=
  ⟨fun m x hx => h.v _ _ (erase_get hx), fun a b x y hab hx hy => h.sort _ _ x y (by split <;> split <;> omega) (erase_get hx) (erase_get hy)⟩
theorem VolsP.set {vs : List Vol} (h : VolsP vs) {i : Nat} {x y : Vol} (hx : vs[i]? = some x) (hn : y.name = x.name) (hy : volOk y = true) : VolsP (vs.set i y) := by
  have get : ∀ (m : Nat) (z : Vol), (vs.set i y)[m]? = some z → (m = i ∧ z = y) ∨ (m ≠ i ∧ vs[m]? = some z) := by
    intro m z hz
    by_cases e : m = i
    · subst e; rw [List.getElem?_set_self (ltQ hx)] at hz; exact .inl ⟨rfl, (Option.some.inj hz).symm⟩
    · rw [List.getElem?_set_ne (fun h => e h.symm)] at hz; exact .inr ⟨e, hz⟩
  refine ⟨fun m z hz => ?_, fun a b z u hab hz hu => ?_⟩
  · rcases get m z hz with ⟨_, rfl⟩ | ⟨_, hz⟩
    · exact hy
    · exact h.v _ _ hz
  · rcases get a z hz with ⟨ha, hzy⟩ | ⟨ha, hz⟩ <;> rcases get b u hu with ⟨hb, huy⟩ | ⟨hb, hu⟩
    · omega
    · rw [hzy, hn]; exact h.sort i b x u (by omega) hx hu
    · rw [huy, hn]; exact h.sort a i z x (by omega) hz hx
    · exact h.sort a b z u hab hz hu

/-! ### the four changes -/
def goneF (p : Pool) (name : ByteArray) : Option Pool :=
  if volIdx p.vols name < 0 then none else some ⟨dropAll p.slots (volAt p.vols (volIdx p.vols name)).blocks, p.vols.eraseIdx (volIdx p.vols name).toNat⟩
def makeF (p : Pool) (name : ByteArray) (size : Int) : Option Pool :=
  if isNm name = true ∧ volIdx p.vols name < 0 ∧ inR size 1 6 = true then some ⟨p.slots, insAt (posOf name p.vols) ⟨name, List.replicate size.toNat 0⟩ p.vols⟩ else none
def cloneF (p : Pool) (fr dst : ByteArray) : Option Pool :=
  if 0 ≤ volIdx p.vols fr ∧ isNm dst = true ∧ volIdx p.vols dst < 0 then some ⟨incAll p.slots (volAt p.vols (volIdx p.vols fr)).blocks, insAt (posOf dst p.vols) ⟨dst, (volAt p.vols (volIdx p.vols fr)).blocks⟩ p.vols⟩ else none
def setBlk (vs : List Vol) (i : Nat) (b : Nat) (pl : Int) : List Vol := vs.set i ⟨(vs.getD i Vol.z).name, (vs.getD i Vol.z).blocks.set b pl⟩
/-- The slots behind a block's piece given back. -/
def backS (p : Pool) (name : ByteArray) (b : Int) : List Slot := dropAll p.slots [placeAt p.vols name b]
def writeF (p : Pool) (name : ByteArray) (b : Int) (text : ByteArray) : Option Pool :=
  if 0 ≤ hasBlk p.vols name b ∧ tOk text = true then
    (if text = e0 then some ⟨backS p name b, setBlk p.vols (volIdx p.vols name).toNat b.toNat 0⟩
     else if putAt (backS p name b) text = 0 then none else some ⟨putS (backS p name b) text, setBlk p.vols (volIdx p.vols name).toNat b.toNat (putAt (backS p name b) text)⟩)
  else none
end Go.Proofs.Ytccllgpaafgjaaa
/- A volume done away with: what the program's closure does. -/


namespace Go.Proofs.Ytccllgpaafgjaaa
open Go.RowKit Go.Proofs.YtccllgpaafgjaaaW.PrintWords Go.Proofs.YtccllgpaafgjaaaW.PrintLast
set_option linter.unusedVariables false
set_option linter.unusedSimpArgs false

theorem OwnV.erase {W w1 : World} {base i : Nat} {v v1 : Value} {vs : List Vol} {bvs : List Value} (h : OwnV W base v vs bvs) (hg : W.grownBy w1 v.ownBlock) (hr : VRow w1 base v1 (vs.eraseIdx i) (bvs.eraseIdx i)) : OwnV w1 base v1 (vs.eraseIdx i) (bvs.eraseIdx i) :=
  ⟨hr, fun m x b hx hb => own_other_type (h.inner _ x b (erase_get hx) (erase_get hb)) h.row.row (by decide) hg, fun a c b b' k hne hb hb' => h.apart _ _ b b' k (by split <;> split <;> omega) (erase_get hb) (erase_get hb')⟩
/-- The store behind k references less of a volume of a valid pool. -/
theorem drop_at {p : Pool} (hp : PoolP p) {i : Nat} {v : Vol} (hv : p.vols[i]? = some v) {k m : Nat} (hx : v.blocks[k]? = some ((m : Int) + 1)) : ∃ y, (dropAll p.slots (v.blocks.take k))[m]? = some y ∧ 1 ≤ y.uses ∧ y.uses ≤ 99 := by
  have hr := (volOk_parts (hp.v.v i v hv)).1
  have hr' : ∀ x ∈ v.blocks.take k, 0 ≤ x ∧ x ≤ 8 := fun x hx => hr x (List.mem_of_mem_take hx)
  have hcl : ∀ q : Int, cnt q (v.blocks.take k) ≤ cnt q v.blocks := fun q => by
    have : ∀ (xs : List Int) (k : Nat), cnt q (xs.take k) ≤ cnt q xs := by
      intro xs
      induction xs with
      | nil => intro k; simp
      | cons a xs ih => intro k; cases k with
        | zero => have := cnt_le q (a :: xs); simp [cnt] at this ⊢; exact this.1
        | succ k => have := ih k; simp only [List.take_succ_cons, cnt]; omega
    exact this _ _
  have hc : ∀ (j : Nat) (x : Slot), p.slots[j]? = some x → cnt (j + 1) (v.blocks.take k) ≤ x.uses := fun j x hx => by
    have h1 := hp.uses j x hx
    have h2 := uses_mem (p := (j : Int) + 1) hv
    have := hcl ((j : Int) + 1)
    omega
  obtain ⟨h1, h2⟩ := dropAll_get hp.s hr' hc
  have hm := hr _ (List.mem_of_getElem? hx)
  obtain ⟨x, hxs⟩ := getQ (show m < p.slots.length by rw [hp.s.len]; omega)
  obtain ⟨y, hy, hu, _⟩ := h2 m x hxs
  have h3 := uses_mem (p := (m : Int) + 1) hv
  have h4 := hp.uses m x hxs
  have h5 : cnt ((m : Int) + 1) (v.blocks.take (k + 1)) = cnt ((m : Int) + 1) (v.blocks.take k) + 1 := by rw [take_snoc hx, cnt_snoc, if_pos rfl]
  have h6 : cnt ((m : Int) + 1) (v.blocks.take (k + 1)) ≤ cnt ((m : Int) + 1) v.blocks := by
    have : ∀ (xs : List Int) (k : Nat), cnt ((m : Int) + 1) (xs.take k) ≤ cnt ((m : Int) + 1) xs := by
      intro xs
      induction xs with
      | nil => intro k; simp
      | cons a xs ih => intro k; cases k with
        | zero => have := cnt_le ((m : Int) + 1) (a :: xs); simp [cnt] at this ⊢; exact this.1
        | succ k => have := ih k; simp only [List.take_succ_cons, cnt]; omega
    exact this _ _
  exact ⟨y, hy, by omega, (h1.ok m y hy).2.2.1⟩

set_option maxHeartbeats 4000000 in
set_option maxRecDepth 10000 in
theorem goneClo_c {w : World} {A0 A1 : Option Addr} {c0 c1 bp bn : Nat} {p : Pool} {name : ByteArray} (h : PoolIn w A0 A1 c0 c1 p) (hs : SmallP p) (hB : Blk w bp #[.slice A0 p.slots.length c0, .slice A1 p.vols.length c1] 49) (hN : Blk w bn #[.string name] 9) (hok : poolOk p = true)
    (W : World) (b base : Nat) (hW : Bel w W) (hb1 : w.heap.size ≤ base) (hb2 : base ≤ W.heap.size) (hpv : PV W b base p) :
    Calls Try.prog 111 #[.pointer (some ⟨b, 0, none⟩), .pointer (some ⟨bp, 0, none⟩), .pointer (some ⟨bn, 0, none⟩)] W (Changes (goneF p name) b base W) := by
  have HS := Lib.hid hs
  have HP := Lib.hid h
  have HK := Lib.hid (poolOk_iff.1 hok)
  have HV := Lib.hid hpv
  have HW := Lib.hid hW
  have HB := Lib.hid hB
  have HN := Lib.hid hN
  have q0 := (HB.out.bel HW.out).cell 0
  have q1 := (HB.out.bel HW.out).cell 1
  have q2 := (HN.out.bel HW.out).cell 0
  simp at q0 q1 q2
  clear h hs hok hpv hW hB hN
  have hlv := HS.out.vols.len
  by_cases hn : volIdx p.vols name < 0
  · have HG := Lib.hid (show goneF p name = none by unfold goneF; rw [if_pos hn])
    go_enter Try.func111, Try.ntmps111
    go_wp2_with (go_at_call 103; refine (vol_c _ p.vols A1 c1 name _ (HP.out.bel HW.out).v hlv).mono ?_; rintro e w1 ⟨rfl, hb1⟩)
    go_ret
    rw [HG.out]
    exact ⟨rfl, ⟨p, HV.out.bel hb1, fun q' h => by cases h⟩, hb1.mono hb2⟩
  · obtain ⟨i, v, hi, hv, hvn⟩ := volIdx_yes hn
    have HG := Lib.hid (show goneF p name = some ⟨dropAll p.slots v.blocks, p.vols.eraseIdx i⟩ by unfold goneF; rw [if_neg hn, hi, Int.toNat_natCast]; unfold volAt; rw [Int.toNat_natCast, getD_of hv])
    have HI := Lib.hid hv
    have hil := ltQ hv
    clear hn hvn hv
    have hin : ¬ ((i : Int) < 0) := by omega
    go_enter Try.func111, Try.ntmps111
    go_wp2_with fail
    refine (vol_c _ p.vols A1 c1 name _ (HP.out.bel HW.out).v hlv).mono ?_
    rintro e w1 ⟨rfl, hb1⟩
    rw [hi]
    have hW1 := HW.out.tr hb1
    obtain ⟨ad, A2, n2, rfl, hc0, hc0', hn2, hC⟩ := at_vol HP.out.v HI.out
    have hc := (hW1.cell (World.block_lt_of_cell? w _ hc0)).trans hc0
    have hc' := (hW1.cell (World.block_lt_of_cell? w _ hc0')).trans hc0'
    clear hc0 hc0'
    have hx1 : v.blocks.length ≤ 1048576 := HS.out.vols.blocks v (List.mem_of_getElem? HI.out)
    have HW1 := Lib.hid hW1
    have HB1 := Lib.hid hb1
    have HC := Lib.hid hC
    clear q0 q1 q2 hW1 hb1 hC
    have q1 := (HB.out.bel HW1.out).cell 1
    simp at q1
    go_wp2
    obtain ⟨⟨v0, v1, bvs, hb, ho⟩, hlo⟩ := HV.out.bel HB1.out
    have HO := Lib.hid (And.intro hb ho)
    clear hb ho q1
    go_loopg [20] v.blocks.length (fun g v20 W' => ∃ k : Nat, g + k = v.blocks.length ∧ v20 = .int .i64 k ∧ Blk W' b #[v0, v1] 49 ∧ OwnS W' base v0 (dropAll p.slots (v.blocks.take k)) ∧ OwnV W' base v1 p.vols bvs ∧ Below base w1 W')
    case atStart => exact ⟨0, rfl, rfl, HO.out.1, HO.out.2.s, HO.out.2.v, Below.refl _ _⟩
    case round =>
      obtain ⟨k, hk, rfl, hb, hos, hov, hbel⟩ := hrel
      have hWw : Bel w wr := HW1.out.trans (hbel.mono hb1)
      by_cases hlt : k < v.blocks.length
      · obtain ⟨x, hx⟩ := getQ hlt
        have hxr := (volOk_parts (HK.out.v.v i v HI.out)).1 x (List.mem_of_getElem? hx)
        obtain ⟨ad2, rfl, hcx⟩ := at_int (Kd.C_below HC.out hWw) hx
        have r0 := hb.cell 0
        simp at r0
        have HR := Lib.hid (And.intro (And.intro hb hos) (And.intro hov (And.intro hbel hWw)))
        clear hb hov hbel hWw hc hc'
        by_cases h0 : 0 < x
        · obtain ⟨m, rfl⟩ : ∃ m : Nat, x = (m : Int) + 1 := ⟨(x - 1).toNat, by omega⟩
          obtain ⟨y, hy, hy1, hy2⟩ := drop_at HK.out HI.out hx
          have HT := Lib.hid (show dropAll p.slots (v.blocks.take (k + 1)) = dropS (dropAll p.slots (v.blocks.take k)) m by rw [take_snoc hx, dropAll_snoc, if_pos h0]; congr 1; omega)
          have hdl : (dropAll p.slots (v.blocks.take k)).length ≤ 1048576 := by rw [dropAll_len]; exact HS.out.slots.len
          have HY := Lib.hid hy
          have HD := Lib.hid hdl
          obtain ⟨A3, c3, rfl, hc3, hC3⟩ := hos.reads
          clear hx hy hdl hos hC3 hc3
          go_wp2_with (go_at_call 107; refine (drop_c HR.out.1.2 HY.out HD.out hy1 hy2).mono ?_; rintro e w2 ⟨rfl, ho2, hg2⟩)
          go_roundg (v.blocks.length - (k + 1))
          case rel =>
            obtain ⟨⟨hb, hos⟩, hov, hbel, hWw⟩ := HR.out
            refine ⟨k + 1, by omega, int_eq (by omega), hb.grown hg2 (own_blk_ne hos hb (by decide)), ?_, hov.otherS hos hg2, hbel.grown hg2 (by have := hb.lt; omega) (own_base hos)⟩
            rw [HT.out]
            exact ho2
          case measure => omega
        · have HT := Lib.hid (show dropAll p.slots (v.blocks.take (k + 1)) = dropAll p.slots (v.blocks.take k) by rw [take_snoc hx, dropAll_snoc, if_neg h0])
          clear hx hos
          go_wp2
          go_roundg (v.blocks.length - (k + 1))
          case rel =>
            obtain ⟨⟨hb, hos⟩, hov, hbel, hWw⟩ := HR.out
            exact ⟨k + 1, by omega, int_eq (by omega), hb, by rw [HT.out]; exact hos, hov, hbel⟩
          case measure => omega
      · have hkl : k = v.blocks.length := by omega
        rw [hkl, List.take_length] at hos
        obtain ⟨g, cap, rfl, hg1, hg2, hcap⟩ := own_form hov.row.row (by omega)
        have r1 := hb.cell 1
        have f1 := hb.free 1
        simp at r1
        have HR := Lib.hid (And.intro (And.intro hb hos) (And.intro hov (And.intro hbel hWw)))
        clear hos hov hb hbel hWw
        go_wp2_with fail
        refine (delete_c HR.out.2.1.row HR.out.2.1.one hil).mono ?_
        rintro e w2 ⟨rfl, hr2, hg2⟩
        have hb2' : Blk w2 b #[v0, .slice (some ⟨g, 0, none⟩) p.vols.length cap] 49 := HR.out.1.1.grown hg2 (own_blk_ne HR.out.2.1.row.row HR.out.1.1 (by decide))
        have hos2 : OwnS w2 base v0 (dropAll p.slots v.blocks) := own_other_type HR.out.1.2 HR.out.2.1.row.row (by decide) hg2
        have hov2 := HR.out.2.1.erase hg2 hr2
        have hbel2 : Below base w1 w2 := HR.out.2.2.1.grown hg2 (by have := HR.out.1.1.lt; omega) (fun k hk => by cases hk; exact hg1)
        have r1 := hb2'.cell 1
        have f1 := hb2'.free 1
        simp at r1
        have HQ := Lib.hid (And.intro (And.intro hb2' hos2) (And.intro hov2 hbel2))
        clear hb2' hos2 hov2 hbel2 hr2 hg2
        go_wp2
        go_ret
        rw [HG.out]
        have hb3 := HQ.out.1.1.set 1 (.slice (some ⟨g, 0, none⟩) (p.vols.length - 1) cap) (cs' := #[v0, .slice (some ⟨g, 0, none⟩) (p.vols.length - 1) cap]) rfl
        refine ⟨rfl, ⟨⟨dropAll p.slots v.blocks, p.vols.eraseIdx i⟩, ⟨⟨_, _, _, hb3, HQ.out.1.2.far HQ.out.1.1 (by decide) _ _, HQ.out.2.1.far HQ.out.1.1 (by decide) (by decide) _ _⟩, hlo⟩, fun q' h => by cases h; rfl⟩, ?_⟩
        exact ((HB1.out.mono hb2).trans HQ.out.2.2).setCell hlo _
end Go.Proofs.Ytccllgpaafgjaaa
/- PoolGone, as the program does it. -/

namespace Go.Proofs.Ytccllgpaafgjaaa
open Go.RowKit Go.Proofs.YtccllgpaafgjaaaW.PrintWords Go.Proofs.YtccllgpaafgjaaaW.PrintLast
set_option linter.unusedVariables false
set_option linter.unusedSimpArgs false

theorem Blk.at (w : World) (o : Obj) (cs : Array Value) (t : TypeId) (h : o = .cells cs t (0, 0)) : Blk (w.alloc o) w.heap.size cs t := h ▸ Blk.new w cs t
theorem enters {f : FuncId} {fn : Func} (hf : Try.prog.funcs[f]? = some fn) (hname : (fn.name == "runtime.NumGoroutine") = false) (hb : fn.body.isSome = true) (args : Array Value) (w : World) : (callFunc f args).run Try.prog w = .ok (.enter f args) w := enters_ hf hname hb args w
set_option maxHeartbeats 4000000 in
set_option maxRecDepth 10000 in
theorem implPoolGone_c {w : World} {A0 A1 : Option Addr} {c0 c1 : Nat} {p : Pool} {name : ByteArray} (h : PoolIn w A0 A1 c0 c1 p) (hs : SmallP p) :
    Calls Try.prog 71 #[.agg #[.slice A0 p.slots.length c0, .slice A1 p.vols.length c1], .string name] w (MadePB w (chP p (goneF p name)) (chB p (goneF p name))) := by
  have HS := Lib.hid hs
  have HP := Lib.hid h
  clear h hs
  go_enter Try.func71, Try.ntmps71
  go_wp2_with fail
  have hB : Blk (((w.alloc (.cells #[.slice A0 p.slots.length c0, .slice A1 p.vols.length c1] 49)).alloc (.cells #[.string name] 9)).alloc (.cells #[.slice none 0 0, .slice none 0 0] 49)) w.heap.size #[.slice A0 p.slots.length c0, .slice A1 p.vols.length c1] 49 := ((Blk.new _ _ _).alloc _).alloc _
  have hN : Blk (((w.alloc (.cells #[.slice A0 p.slots.length c0, .slice A1 p.vols.length c1] 49)).alloc (.cells #[.string name] 9)).alloc (.cells #[.slice none 0 0, .slice none 0 0] 49)) (w.heap.size + 1) #[.string name] 9 := (Blk.nw2 _ _ _ _).alloc _
  have hR : Blk (((w.alloc (.cells #[.slice A0 p.slots.length c0, .slice A1 p.vols.length c1] 49)).alloc (.cells #[.string name] 9)).alloc (.cells #[.slice none 0 0, .slice none 0 0] 49)) (w.heap.size + 1 + 1) #[.slice none 0 0, .slice none 0 0] 49 := by
    have := Blk.new ((w.alloc (.cells #[.slice A0 p.slots.length c0, .slice A1 p.vols.length c1] 49)).alloc (.cells #[.string name] 9)) #[.slice none 0 0, .slice none 0 0] 49
    simpa using this
  have hW : Bel w (((w.alloc (.cells #[.slice A0 p.slots.length c0, .slice A1 p.vols.length c1] 49)).alloc (.cells #[.string name] 9)).alloc (.cells #[.slice none 0 0, .slice none 0 0] 49)) := bel_alloc (bel_alloc (bel_alloc (Below.refl _ _) _) _) _
  generalize (((w.alloc (.cells #[.slice A0 p.slots.length c0, .slice A1 p.vols.length c1] 49)).alloc (.cells #[.string name] 9)).alloc (.cells #[.slice none 0 0, .slice none 0 0] 49)) = W0 at hB hN hR hW ⊢
  have HB := Lib.hid hB
  have HN := Lib.hid hN
  have HR := Lib.hid hR
  have HW := Lib.hid hW
  clear hB hN hR hW
  refine (changed_c (HP.out.bel HW.out) HS.out 111 #[.pointer (some ⟨w.heap.size, 0, none⟩), .pointer (some ⟨w.heap.size + 1, 0, none⟩)] (goneF p name) (enters Try.func111 (by kernel_rfl) (by kernel_rfl))
    (fun hok W b base h1 h2 h3 h4 => goneClo_c (HP.out.bel HW.out) HS.out HB.out HN.out hok W b base h1 h2 h3 h4)).mono ?_
  rintro e w1 ⟨v0, v1, bvs, rfl, ho, hb1⟩
  obtain ⟨q, hq⟩ : ∃ q, chP p (goneF p name) = q := ⟨_, rfl⟩
  obtain ⟨ok, hok⟩ : ∃ ok, chB p (goneF p name) = ok := ⟨_, rfl⟩
  rw [hq] at ho
  rw [hok]
  have HQ := Lib.hid hq
  have HK := Lib.hid hok
  clear hq hok
  have HO := Lib.hid ho
  have HB1 := Lib.hid hb1
  have r0 := (HR.out.bel HB1.out).cell 0
  have r1 := (HR.out.bel HB1.out).cell 1
  have f0 := (HR.out.bel HB1.out).free 0
  have f1 := (HR.out.bel HB1.out).free 1
  simp at r0 r1
  clear ho hb1
  obtain ⟨A2, A3, c2, c3, rfl, rfl, hpi⟩ := HO.out.reads
  clear hpi
  go_wp2
  have hR2 := HR.out.bel HB1.out
  have hR3 := hR2.set 0 (.slice A2 q.slots.length c2) (cs' := #[.slice A2 q.slots.length c2, .slice none 0 0]) rfl
  have hR4 := hR3.set 1 (.slice A3 q.vols.length c3) (cs' := #[.slice A2 q.slots.length c2, .slice A3 q.vols.length c3]) rfl
  have hb5 := bel_set (bel_set (HW.out.tr HB1.out) (show w.heap.size ≤ w.heap.size + 1 + 1 by omega) 0 (.slice A2 q.slots.length c2)) (show w.heap.size ≤ w.heap.size + 1 + 1 by omega) 1 (.slice A3 q.vols.length c3)
  have hop4 := (HO.out.far hR2 (by decide) (by decide) (by decide) 0 (.slice A2 q.slots.length c2)).far hR3 (by decide) (by decide) (by decide) 1 (.slice A3 q.vols.length c3)
  refine bodyPost_ret (results_ct rfl _ _ (w.heap.size + 1 + 1) 49 #[.slice A2 q.slots.length c2, .slice A3 q.vols.length c3] (0, 0) _ rfl hR4 Try.underlying49 rfl (by kernel_rfl)) rfl ?_
  rw [HQ.out, HK.out]
  exact ⟨_, _, _, rfl, hop4.lower HW.out.size, hb5⟩
end Go.Proofs.Ytccllgpaafgjaaa
/- A volume done away with: what the reference does. -/

namespace Go.Proofs.Ytccllgpaafgjaaa
open Go.RowKit Go.Proofs.YtccllgpaafgjaaaW.PrintWords Go.Proofs.YtccllgpaafgjaaaW.PrintLast
set_option linter.unusedVariables false
set_option linter.unusedSimpArgs false

theorem slice_eq {A A' : Option Addr} {n n' c c' : Nat} (h : Value.slice A n c = Value.slice A' n' c') : A = A' ∧ n = n' ∧ c = c' := by simpa using h
/-- What is kept while a pool of one's own is turned: what lies below base, and every block that holds no part of a pool. -/
structure Fr (base : Nat) (w W : World) : Prop where
  b : Below base w W
  k : ∀ (g : Nat) (cs : Array Value) (t : TypeId), 99 ≠ t → 90 ≠ t → 3 ≠ t → Blk w g cs t → Blk W g cs t
theorem Fr.bel {base : Nat} {w W W' : World} (h : Fr base w W) (hb : Bel W W') (hbase : base ≤ w.heap.size) : Fr base w W' := ⟨h.b.trans (hb.mono (Nat.le_trans hbase h.b.size)), fun g cs t h1 h2 h3 hB => (h.k g cs t h1 h2 h3 hB).bel hb⟩
theorem Fr.set {base : Nat} {w W : World} (h : Fr base w W) {b : Nat} (hb : w.heap.size ≤ b) (hbase : base ≤ w.heap.size) (i : Nat) (u : Value) : Fr base w (W.setCell ⟨b, i, none⟩ u) :=
  ⟨h.b.setCell (p := ⟨b, i, none⟩) (Nat.le_trans hbase hb) u, fun g cs t h1 h2 h3 hB => (h.k g cs t h1 h2 h3 hB).apart (by have := hB.lt; omega) i u⟩
theorem Fr.drew {base : Nat} {w W : World} (h : Fr base w W) : Fr base w W.drew := ⟨h.b.drew, fun g cs t h1 h2 h3 hB => (h.k g cs t h1 h2 h3 hB).bel (Below.refl _ _).drew⟩
theorem Fr.slots {base : Nat} {w W W' : World} (h : Fr base w W) {v : Value} {s : List Slot} (hos : OwnS W base v s) (hg : W.grownBy W' v.ownBlock) (hbase : base ≤ w.heap.size) : Fr base w W' :=
  ⟨h.b.grown hg (Nat.le_trans hbase h.b.size) (own_base hos), fun g cs t h1 h2 h3 hB => (h.k g cs t h1 h2 h3 hB).grown hg (own_blk_ne hos (h.k g cs t h1 h2 h3 hB) h1)⟩
/-- What a change of a pool of one's own leaves: the pool turned, or as it was. -/
def TurnsP (base : Nat) (p : Pool) (r : Option Pool) (w : World) (e : Ending) (w' : World) : Prop := ∃ v0 v1 bvs, e = .returned (.tuple #[.agg #[v0, v1], .bool r.isSome]) ∧ OwnP w' base v0 v1 (r.getD p) bvs ∧ Fr base w w'

end Go.Proofs.Ytccllgpaafgjaaa
/- PoolGone, as the reference does it. -/

namespace Go.Proofs.Ytccllgpaafgjaaa
open Go.RowKit Go.Proofs.YtccllgpaafgjaaaW.PrintWords Go.Proofs.YtccllgpaafgjaaaW.PrintLast
set_option linter.unusedVariables false
set_option linter.unusedSimpArgs false

end Go.Proofs.Ytccllgpaafgjaaa
/- l11Add of the reference: a volume put where its name stands. -/


namespace Go.Proofs.Ytccllgpaafgjaaa
open Go.RowKit Go.Proofs.YtccllgpaafgjaaaW.PrintWords Go.Proofs.YtccllgpaafgjaaaW.PrintLast
set_option linter.unusedVariables false
set_option linter.unusedSimpArgs false

/-- What has been laid after k rounds. -/
def addP {α : Type} (pos : Nat) (z : α) (Z : List α) (k : Nat) : List α := if k ≤ pos then Z.take k else insAt pos z (Z.take k)
theorem OwnV.added {W : World} {base lo pos : Nat} {v v' : Value} {vs : List Vol} {bvs : List Value} {x : Vol} {b : Value} (h : OwnV W base v vs bvs) (hb : OwnI W base b x.blocks) (hi : pos ≤ vs.length)
    (hap : ∀ (m : Nat) (b' : Value) (k : Nat), bvs[m]? = some b' → b'.ownBlock = some k → b.ownBlock ≠ some k)
    (hr : W.ownsRow lo 90 2 v' (vs.length + 1) ((insAt pos (x, b) (vs.zip bvs)).flatMap encV)) (hlo : base ≤ lo) : OwnV W base v' (insAt pos x vs) (insAt pos b bvs) := by
  refine h.ins hb hi hap (grown_refl _ _) ⟨by rw [insAt_len (by rw [h.row.len]; exact hi), insAt_len hi, h.row.len], ?_⟩
  rw [insAt_len hi, zip_insAt _ _ _ _ _ h.row.len hi]
  exact own_lower hr hlo
/-- What l11Add leaves. -/
def Added (base : Nat) (v0 : Value) (p : Pool) (x : Vol) (b : Value) (bvs : List Value) (w : World) (e : Ending) (w' : World) : Prop :=
  ∃ v1, e = .returned (.agg #[v0, v1]) ∧ OwnP w' base v0 v1 ⟨p.slots, insAt (posOf x.name p.vols) x p.vols⟩ (insAt (posOf x.name p.vols) b bvs) ∧ Bel w w'
end Go.Proofs.Ytccllgpaafgjaaa
/- Plain law: the four changes of a pool keep it valid, and what they keep of its slots. -/

namespace Go.Proofs.Ytccllgpaafgjaaa
open Go.RowKit Go.Proofs.YtccllgpaafgjaaaW.PrintWords
set_option linter.unusedVariables false
set_option linter.unusedSimpArgs false

theorem PoolP.slot {p : Pool} (h : PoolP p) {m : Nat} (hm : m < 8) : ∃ x, p.slots[m]? = some x := getQ (by rw [h.s.len]; exact hm)
theorem PoolP.blk {p : Pool} (h : PoolP p) {i : Nat} {v : Vol} (hv : p.vols[i]? = some v) {k : Nat} {x : Int} (hx : v.blocks[k]? = some x) : 0 ≤ x ∧ x ≤ 8 := (volOk_parts (h.v.v i v hv)).1 x (List.mem_of_getElem? hx)
theorem PoolP.drops {p : Pool} (h : PoolP p) {i : Nat} {v : Vol} (hv : p.vols[i]? = some v) {bs : List Int} (hb : ∀ x ∈ bs, 0 ≤ x ∧ x ≤ 8) (hc : ∀ m : Nat, cnt ((m : Int) + 1) bs ≤ cnt (m + 1) v.blocks) :
    StoreP (dropAll p.slots bs) ∧ ∀ (m : Nat) (x : Slot), p.slots[m]? = some x → ∃ y, (dropAll p.slots bs)[m]? = some y ∧ y.uses = x.uses - cnt (m + 1) bs ∧ (y.text = x.text ∨ y.uses = 0) :=
  dropAll_get h.s hb fun m x hx => by rw [h.uses m x hx]; exact Int.le_trans (hc m) (uses_mem hv)
theorem goneF_some {p q : Pool} {name : ByteArray} (h : goneF p name = some q) : ∃ (i : Nat) (v : Vol), volIdx p.vols name = i ∧ p.vols[i]? = some v ∧ v.name = name ∧ q = ⟨dropAll p.slots v.blocks, p.vols.eraseIdx i⟩ := by
  unfold goneF at h
  by_cases hn : volIdx p.vols name < 0
  · rw [if_pos hn] at h; cases h
  · rw [if_neg hn] at h
    obtain ⟨i, v, hi, hv, hvn⟩ := volIdx_yes hn
    rw [hi, Int.toNat_natCast] at h
    unfold volAt at h
    rw [Int.toNat_natCast, getD_of hv] at h
    exact ⟨i, v, hi, hv, hvn, (Option.some.inj h).symm⟩
theorem slot_back {s t : List Slot} {f : Nat → Slot → Slot → Prop} (hl : t.length = s.length) (h : ∀ (m : Nat) (x : Slot), s[m]? = some x → ∃ y, t[m]? = some y ∧ f m x y) {m : Nat} {y : Slot} (hy : t[m]? = some y) : ∃ x, s[m]? = some x ∧ f m x y := by
  obtain ⟨x, hx⟩ := getQ (show m < s.length by rw [← hl]; exact ltQ hy)
  obtain ⟨z, hz, hf⟩ := h m x hx
  obtain rfl := Option.some.inj (hy.symm.trans hz)
  exact ⟨x, hx, hf⟩
theorem goneF_ok {p q : Pool} {name : ByteArray} (hp : PoolP p) (h : goneF p name = some q) : PoolP q := by
  obtain ⟨i, v, hi, hv, hvn, rfl⟩ := goneF_some h
  obtain ⟨h1, h2⟩ := hp.drops hv (volOk_parts (hp.v.v i v hv)).1 (fun m => Int.le_refl _)
  refine ⟨h1, hp.v.erase i, fun m y hy => ?_⟩
  obtain ⟨x, hx, hu, _⟩ := slot_back (dropAll_len _ _) h2 hy
  rw [hu, uses_erase hv, hp.uses m x hx]
theorem makeF_some {p q : Pool} {name : ByteArray} {size : Int} (h : makeF p name size = some q) : isNm name = true ∧ volIdx p.vols name < 0 ∧ 1 ≤ size ∧ size ≤ 6 ∧ q = ⟨p.slots, insAt (posOf name p.vols) ⟨name, List.replicate size.toNat 0⟩ p.vols⟩ := by
  unfold makeF at h
  split at h
  · rename_i hc
    have := inR_iff.1 hc.2.2
    exact ⟨hc.1, hc.2.1, this.1, this.2, (Option.some.inj h).symm⟩
  · cases h
theorem cnt_rep (p x : Int) (n : Nat) (h : x ≠ p) : cnt p (List.replicate n x) = 0 := by
  induction n with
  | zero => rfl
  | succ n ih => rw [List.replicate_succ]; unfold cnt; rw [if_neg h, ih]; rfl
theorem makeV_ok {name : ByteArray} {size : Int} (hn : isNm name = true) (h1 : 1 ≤ size) (h6 : size ≤ 6) : volOk ⟨name, List.replicate size.toNat 0⟩ = true := by
  unfold volOk
  rw [hn]
  have : inR ((List.replicate size.toNat (0 : Int)).length : Int) 1 6 = true := by rw [inR_iff, List.length_replicate]; omega
  simp only [this, Bool.and_true, List.all_eq_true]
  intro x hx
  obtain ⟨_, rfl⟩ := List.mem_replicate.1 hx
  rfl
theorem makeF_ok {p q : Pool} {name : ByteArray} {size : Int} (hp : PoolP p) (h : makeF p name size = some q) : PoolP q := by
  obtain ⟨hn, hi, h1, h6, rfl⟩ := makeF_some h
  refine ⟨hp.s, hp.v.ins (makeV_ok hn h1 h6) hi, fun m x hx => ?_⟩
  rw [uses_insAt, hp.uses m x hx]
  show _ = _ + cnt _ (List.replicate _ _)
  rw [cnt_rep _ _ _ (by omega)]; omega
theorem cloneF_some {p q : Pool} {fr dst : ByteArray} (h : cloneF p fr dst = some q) : ∃ (i : Nat) (v : Vol), volIdx p.vols fr = i ∧ p.vols[i]? = some v ∧ v.name = fr ∧ isNm dst = true ∧ volIdx p.vols dst < 0 ∧ q = ⟨incAll p.slots v.blocks, insAt (posOf dst p.vols) ⟨dst, v.blocks⟩ p.vols⟩ := by
  unfold cloneF at h
  split at h
  · rename_i hc
    obtain ⟨i, v, hi, hv, hvn⟩ := volIdx_yes (show ¬ volIdx p.vols fr < 0 by omega)
    rw [hi] at h
    unfold volAt at h
    rw [Int.toNat_natCast, getD_of hv] at h
    exact ⟨i, v, hi, hv, hvn, hc.2.1, hc.2.2, (Option.some.inj h).symm⟩
  · cases h
theorem PoolP.incs {p : Pool} (h : PoolP p) {i : Nat} {v : Vol} (hv : p.vols[i]? = some v) :
    StoreP (incAll p.slots v.blocks) ∧ ∀ (m : Nat) (x : Slot), p.slots[m]? = some x → (incAll p.slots v.blocks)[m]? = some ⟨x.text, x.uses + cnt (m + 1) v.blocks⟩ := by
  have hb := volOk_parts (h.v.v i v hv)
  refine incAll_get h.s hb.1 fun m x hx => ?_
  have h1 := h.uses m x hx
  have h2 := uses_mem (p := (m : Int) + 1) hv
  have h3 := h.v.uses_le ((m : Int) + 1)
  have h4 := cnt_le ((m : Int) + 1) v.blocks
  constructor
  · omega
  · omega
theorem volOk_name {v : Vol} {t : ByteArray} (h : volOk v = true) (ht : isNm t = true) : volOk ⟨t, v.blocks⟩ = true := by
  unfold volOk at h ⊢
  simp only [Bool.and_eq_true] at h ⊢
  exact ⟨h.1, ht, h.2.2⟩
theorem cloneF_ok {p q : Pool} {fr dst : ByteArray} (hp : PoolP p) (h : cloneF p fr dst = some q) : PoolP q := by
  obtain ⟨i, v, hi, hv, hvn, hd, hdn, rfl⟩ := cloneF_some h
  obtain ⟨h1, h2⟩ := hp.incs hv
  refine ⟨h1, hp.v.ins (volOk_name (hp.v.v i v hv) hd) hdn, fun m y hy => ?_⟩
  obtain ⟨x, hx⟩ := getQ (show m < p.slots.length by rw [← incAll_len p.slots v.blocks]; exact ltQ hy)
  obtain rfl := Option.some.inj (hy.symm.trans (h2 m x hx))
  rw [uses_insAt, hp.uses m x hx]
/-! writing -/
theorem cnt_one (p x : Int) : cnt p [x] = if x = p then 1 else 0 := by simp [cnt]
theorem cnt_one_le {p x : Int} {bs : List Int} {k : Nat} (h : bs[k]? = some x) : cnt p [x] ≤ cnt p bs := by
  rw [cnt_one]
  split
  · rename_i e; subst e; exact cnt_pos (List.mem_of_getElem? h)
  · exact (cnt_le p bs).1
/-- What a write has in hand: the volume, its block, the slots behind the piece given back. -/
structure Wr (p : Pool) (name : ByteArray) (b : Int) (i : Nat) (v : Vol) (x : Int) : Prop where
  idx : volIdx p.vols name = i
  has : hasBlk p.vols name b = i
  vol : p.vols[i]? = some v
  nm : v.name = name
  b0 : 0 ≤ b
  blk : v.blocks[b.toNat]? = some x
  place : placeAt p.vols name b = x
theorem hasBlk_wr {p : Pool} {name : ByteArray} {b : Int} (h : 0 ≤ hasBlk p.vols name b) : ∃ i v x, Wr p name b i v x := by
  obtain ⟨h1, h2, v, x, hv, hn, _, hb, hx, hp⟩ := hasBlk_yes h
  refine ⟨_, v, x, (Int.toNat_of_nonneg h2).symm, ?_, hv, hn, hb, hx, hp⟩
  rw [h1, Int.toNat_of_nonneg h2]
theorem Wr.back {p : Pool} {name : ByteArray} {b : Int} {i : Nat} {v : Vol} {x : Int} (hp : PoolP p) (h : Wr p name b i v x) :
    StoreP (backS p name b) ∧ ∀ (m : Nat) (y : Slot), p.slots[m]? = some y → ∃ z, (backS p name b)[m]? = some z ∧ z.uses = y.uses - cnt (m + 1) [x] ∧ (z.text = y.text ∨ z.uses = 0) := by
  unfold backS
  rw [h.place]
  refine hp.drops h.vol (fun y hy => ?_) (fun m => cnt_one_le h.blk)
  rw [List.mem_singleton.1 hy]; exact hp.blk h.vol h.blk
theorem Wr.set {p : Pool} {name : ByteArray} {b : Int} {i : Nat} {v : Vol} {x : Int} (h : Wr p name b i v x) (pl : Int) :
    setBlk p.vols (volIdx p.vols name).toNat b.toNat pl = p.vols.set i ⟨name, v.blocks.set b.toNat pl⟩ := by
  unfold setBlk
  rw [h.idx, Int.toNat_natCast, getD_of h.vol, h.nm]
theorem Wr.uses {p : Pool} {name : ByteArray} {b : Int} {i : Nat} {v : Vol} {x : Int} (h : Wr p name b i v x) (pl q : Int) :
    Go.Proofs.Ytccllgpaafgjaaa.uses q (p.vols.set i ⟨name, v.blocks.set b.toNat pl⟩) = Go.Proofs.Ytccllgpaafgjaaa.uses q p.vols - (if x = q then 1 else 0) + (if pl = q then 1 else 0) := by
  rw [uses_set h.vol, cnt_set h.blk]
  omega
theorem volOk_set {v : Vol} {k : Nat} {pl : Int} (h : volOk v = true) (h0 : 0 ≤ pl) (h8 : pl ≤ 8) : volOk ⟨v.name, v.blocks.set k pl⟩ = true := by
  unfold volOk at h ⊢
  simp only [Bool.and_eq_true, List.all_eq_true] at h ⊢
  refine ⟨fun y hy => ?_, h.2.1, ?_⟩
  · rcases List.mem_or_eq_of_mem_set hy with h1 | rfl
    · exact h.1 y h1
    · rw [inR_iff]; omega
  · rw [List.length_set]; exact h.2.2
inductive WriteOut (p : Pool) (name : ByteArray) (b : Int) (text : ByteArray) (i : Nat) (v : Vol) (x : Int) : Pool → Prop where
  | free (h : text = e0) : WriteOut p name b text i v x ⟨backS p name b, p.vols.set i ⟨name, v.blocks.set b.toNat 0⟩⟩
  | put (m : Nat) (z : Slot) (h : text ≠ e0) (ht : tOk text = true) (hz : (backS p name b)[m]? = some z) (hpa : PutAt (backS p name b) text ((m : Int) + 1)) (hz2 : z.text = text ∧ z.uses < 99 ∨ z.uses = 0 ∧ ∀ (j : Nat) (y : Slot), (backS p name b)[j]? = some y → y.text ≠ text) :
      WriteOut p name b text i v x ⟨(backS p name b).set m ⟨text, z.uses + 1⟩, p.vols.set i ⟨name, v.blocks.set b.toNat ((m : Int) + 1)⟩⟩
theorem writeF_some {p q : Pool} {name : ByteArray} {b : Int} {text : ByteArray} (hp : PoolP p) (h : writeF p name b text = some q) : ∃ i v x, Wr p name b i v x ∧ tOk text = true ∧ WriteOut p name b text i v x q := by
  unfold writeF at h
  split at h
  · rename_i hc
    obtain ⟨i, v, x, hw⟩ := hasBlk_wr hc.1
    refine ⟨i, v, x, hw, hc.2, ?_⟩
    rw [hw.set, hw.set] at h
    by_cases he : text = e0
    · rw [if_pos he] at h
      obtain rfl := Option.some.inj h
      exact .free he
    · rw [if_neg he] at h
      by_cases h0 : putAt (backS p name b) text = 0
      · rw [if_pos h0] at h; cases h
      · rw [if_neg h0] at h
        obtain rfl := Option.some.inj h
        have hpa := (putAt_cases (hw.back hp).1 he).1
        have key : ∀ (m : Nat) (z : Slot), putAt (backS p name b) text = (m : Int) + 1 → (backS p name b)[m]? = some z → putS (backS p name b) text = (backS p name b).set m ⟨text, z.uses + 1⟩ := by
          intro m z e hz
          unfold putS moreS
          rw [e, if_neg (by omega), show ((m : Int) + 1 - 1).toNat = m by omega, getD_of hz]
        cases hpa with
        | no h1 => exact absurd h1 h0
        | old m z h1 hz ht hu => rw [key m z h1 hz, h1]; exact .put m z he hc.2 hz (.old m z rfl hz ht hu) (.inl ⟨ht, hu⟩)
        | fresh m z h1 hz hu hn => rw [key m z h1 hz, h1]; exact .put m z he hc.2 hz (.fresh m z rfl hz hu hn) (.inr ⟨hu, hn⟩)
  · cases h
theorem writeF_ok {p q : Pool} {name : ByteArray} {b : Int} {text : ByteArray} (hp : PoolP p) (h : writeF p name b text = some q) : PoolP q := by
  obtain ⟨i, v, x, hw, htk, ho⟩ := writeF_some hp h
  obtain ⟨h1, h2⟩ := hw.back hp
  have hbl : (backS p name b).length = p.slots.length := by rw [h1.len, hp.s.len]
  have hvol : ∀ pl : Int, 0 ≤ pl → pl ≤ 8 → VolsP (p.vols.set i ⟨name, v.blocks.set b.toNat pl⟩) := fun pl h0 h8 => by
    have := volOk_set (k := b.toNat) (hp.v.v i v hw.vol) h0 h8
    rw [hw.nm] at this
    exact hp.v.set hw.vol hw.nm.symm this
  cases ho with
  | free he =>
    refine ⟨h1, hvol 0 (by omega) (by omega), fun m y hy => ?_⟩
    obtain ⟨y0, hy0, hu, _⟩ := slot_back hbl h2 hy
    rw [hw.uses, hu, hp.uses m y0 hy0, cnt_one, if_neg (show ¬ (0 : Int) = (m : Int) + 1 by omega)]; omega
  | put j z he ht hz hpa hz2 =>
    have hj8 : j < 8 := by have := ltQ hz; rw [h1.len] at this; exact this
    have hms : moreS (backS p name b) text ((j : Int) + 1) = (backS p name b).set j ⟨text, z.uses + 1⟩ := by
      unfold moreS
      rw [if_neg (by omega), show ((j : Int) + 1 - 1).toNat = j by omega, getD_of hz]
    refine ⟨?_, hvol _ (by omega) (by omega), fun m y hy => ?_⟩
    · rw [← hms]; exact h1.more he htk hpa
    · rw [hw.uses]
      by_cases e : m = j
      · subst e
        rw [List.getElem?_set_self (ltQ hz)] at hy
        obtain rfl := Option.some.inj hy
        obtain ⟨y0, hy0, hu, _⟩ := slot_back hbl h2 hz
        rw [if_pos rfl]
        show z.uses + 1 = _
        rw [hu, hp.uses m y0 hy0, cnt_one]
      · rw [List.getElem?_set_ne (fun h => e h.symm)] at hy
        obtain ⟨y0, hy0, hu, _⟩ := slot_back hbl h2 hy
        rw [hu, hp.uses m y0 hy0, cnt_one, if_neg (show ¬ ((j : Int) + 1) = (m : Int) + 1 by omega)]; omega
end Go.Proofs.Ytccllgpaafgjaaa
/- PoolMake: what the program's closure does, and the reference. -/



namespace Go.Proofs.Ytccllgpaafgjaaa
open Go.RowKit Go.Proofs.YtccllgpaafgjaaaW.PrintWords Go.Proofs.YtccllgpaafgjaaaW.PrintLast
set_option linter.unusedVariables false
set_option linter.unusedSimpArgs false

theorem makeF_no {p : Pool} {name : ByteArray} {size : Int} (h : isNm name = false ∨ 0 ≤ volIdx p.vols name ∨ inR size 1 6 = false) : makeF p name size = none := by
  unfold makeF
  rw [if_neg]
  rintro ⟨h1, h2, h3⟩
  rcases h with h | h | h
  · rw [h] at h1; cases h1
  · omega
  · rw [h] at h3; cases h3
theorem makeF_yes {p : Pool} {name : ByteArray} {size : Int} (h1 : isNm name = true) (h2 : volIdx p.vols name < 0) (h3 : inR size 1 6 = true) : makeF p name size = some ⟨p.slots, insAt (posOf name p.vols) ⟨name, List.replicate size.toNat 0⟩ p.vols⟩ := by
  unfold makeF
  rw [if_pos ⟨h1, h2, h3⟩]
theorem cmpS_pos {p : Pool} (hp : PoolP p) {t : ByteArray} (ht : isNm t = true) (hn : volIdx p.vols t < 0) (m : Nat) (y : Vol) (hy : p.vols[m]? = some y) : m < posOf t p.vols ↔ cmpS y.name t < 0 :=
  (hp.v.pos ht hn m y hy).trans (nm_cmp (hp.v.nm hy) ht).symm
theorem PV.kept {w w' : World} {b base : Nat} {p : Pool} (h : PV w b base p) (hb : Bel w w') : PV w' b base p := h.bel hb

set_option maxHeartbeats 8000000 in
set_option maxRecDepth 10000 in
theorem makeClo_c {w : World} {A0 A1 : Option Addr} {c0 c1 bp bn bs : Nat} {p : Pool} {name : ByteArray} {size : Int} (h : PoolIn w A0 A1 c0 c1 p) (hs : SmallP p) (hB : Blk w bp #[.slice A0 p.slots.length c0, .slice A1 p.vols.length c1] 49) (hN : Blk w bn #[.string name] 9) (hZ : Blk w bs #[.int .i64 size] 3) (hok : poolOk p = true)
    (W : World) (b base : Nat) (hW : Bel w W) (hb1 : w.heap.size ≤ base) (hb2 : base ≤ W.heap.size) (hpv : PV W b base p) :
    Calls Try.prog 102 #[.pointer (some ⟨b, 0, none⟩), .pointer (some ⟨bn, 0, none⟩), .pointer (some ⟨bp, 0, none⟩), .pointer (some ⟨bs, 0, none⟩)] W (Changes (makeF p name size) b base W) := by
  have HS := Lib.hid hs
  have HP := Lib.hid h
  have HK := Lib.hid (poolOk_iff.1 hok)
  have HV := Lib.hid hpv
  have HW := Lib.hid hW
  have HB := Lib.hid hB
  have HN := Lib.hid hN
  have HZ := Lib.hid hZ
  have q0 := (HB.out.bel HW.out).cell 0
  have q1 := (HB.out.bel HW.out).cell 1
  have q2 := (HN.out.bel HW.out).cell 0
  have q3 := (HZ.out.bel HW.out).cell 0
  simp at q0 q1 q2 q3
  clear h hs hok hpv hW hB hN hZ
  have hlv := HS.out.vols.len
  cases h1 : isNm name with
  | false =>
    have HG := Lib.hid (show makeF p name size = none from makeF_no (.inl h1))
    go_enter Try.func102, Try.ntmps102
    go_wp2_with (go_at_call 100; refine (isName_c name _).mono ?_; rintro e w' ⟨rfl, rfl⟩)
    go_ret
    rw [HG.out]
    exact ⟨rfl, ⟨p, HV.out, fun q' h => by cases h⟩, Below.refl _ _⟩
  | true =>
    have hbd := volIdx_bd p.vols name
    by_cases h2 : 0 ≤ volIdx p.vols name
    · have HG := Lib.hid (show makeF p name size = none from makeF_no (.inr (.inl h2)))
      go_enter Try.func102, Try.ntmps102
      go_wp2_with (first | (go_at_call 100; refine (isName_c name _).mono ?_; rintro e w' ⟨rfl, rfl⟩) | (go_at_call 103; refine (vol_c _ p.vols A1 c1 name _ (HP.out.bel HW.out).v hlv).mono ?_; rintro e w1 ⟨rfl, hb1⟩))
      go_ret
      rw [HG.out]
      exact ⟨rfl, ⟨p, HV.out.bel hb1, fun q' h => by cases h⟩, hb1.mono hb2⟩
    · have h2' : volIdx p.vols name < 0 := by omega
      cases h3 : inR size 1 6 with
      | false =>
        have HG := Lib.hid (show makeF p name size = none from makeF_no (.inr (.inr h3)))
        go_enter Try.func102, Try.ntmps102
        go_wp2_with (first | (go_at_call 100; refine (isName_c name _).mono ?_; rintro e w' ⟨rfl, rfl⟩) | (go_at_call 103; refine (vol_c _ p.vols A1 c1 name _ (HP.out.bel HW.out).v hlv).mono ?_; rintro e w1 ⟨rfl, hb1⟩; have q4 := (HZ.out.bel (HW.out.tr hb1)).cell 0; simp at q4) | (go_at_call 60; refine (within_c size 1 6 _).mono ?_; rintro e w' ⟨rfl, rfl⟩))
        go_ret
        rw [HG.out]
        exact ⟨rfl, ⟨p, HV.out.bel hb1, fun q' h => by cases h⟩, hb1.mono hb2⟩
      | true =>
        have hr := inR_iff.1 h3
        have hs1 : 1 ≤ size := hr.1
        have hs6 : size ≤ 6 := hr.2
        clear hr
        obtain ⟨zs, hzs⟩ : ∃ zs, List.replicate size.toNat (0 : Int) = zs := ⟨_, rfl⟩
        have HG := Lib.hid (show makeF p name size = some ⟨p.slots, insAt (posOf name p.vols) ⟨name, zs⟩ p.vols⟩ from hzs ▸ makeF_yes h1 h2' h3)
        have HZS := Lib.hid hzs
        clear hzs
        have HM := Lib.hid (fun (m : Nat) (y : Vol) (hy : p.vols[m]? = some y) => cmpS_pos HK.out h1 h2' m y hy)
        have hq := posOf_le name p.vols
        go_enter Try.func102, Try.ntmps102
        go_wp2_with (first | (go_at_call 100; refine (isName_c name _).mono ?_; rintro e w' ⟨rfl, rfl⟩) | (go_at_call 103; refine (vol_c _ p.vols A1 c1 name _ (HP.out.bel HW.out).v hlv).mono ?_; rintro e w1 ⟨rfl, hb1⟩; have q4 := (HZ.out.bel (HW.out.tr hb1)).cell 0; simp at q4) | (go_at_call 60; refine (within_c size 1 6 _).mono ?_; rintro e w' ⟨rfl, rfl⟩))
        have q5 := (HN.out.bel (HW.out.tr hb1)).cell 0
        simp at q5
        have HB1 := Lib.hid hb1
        have hpv1 : PV w1.drew b base p := HV.out.bel (Bel.tr hb1 (Below.refl _ _).drew)
        have HV1 := Lib.hid hpv1
        clear hb1 hpv1 q0 q1 q2 q3 h1 h3
        refine start_ (n := 6) (S := fun w' => w'.cell? ⟨bn, 0, none⟩ = some (.string name) ∧ w'.cell? ⟨bs, 0, none⟩ = some (.int .i64 size)) (ds := [5]) #[false, false, false, false, false, false] (by kernel_rfl) rfl rfl ⟨q5, q4⟩ (fun hHeld => ?_)
        refine pure_ (i := 0) (N := some 20) (v := ?_) (a' := ?_) #[true, false, false, false, false, false] rfl rfl (by kernel_rfl) (fun _ _ _ h => h) (Or.inl ⟨by rfl, ?_⟩) ?_ ?_
        rotate_left
        · intro w'
          go_simp
          with_reducible rfl
        rotate_left
        · simp only [Act.put, List.setIfInBounds_toArray, List.set_cons_zero, List.set_cons_succ, i64_w, i32_w]
          rfl
        refine take_ (i := 1) (N := some 21) (v := ?_) (a' := ?_) #[true, true, false, false, false, false] rfl rfl (by kernel_rfl) (fun _ _ _ h => h) (Or.inl ⟨by rfl, ?_⟩) hHeld ?_ ?_
        rotate_left
        · rintro w' ⟨s0, s1⟩
          go_simp
          with_reducible rfl
        rotate_left
        · simp only [Act.put, List.setIfInBounds_toArray, List.set_cons_zero, List.set_cons_succ, i64_w, i32_w]
          rfl
        refine take_ (i := 2) (N := some 22) (v := ?_) (a' := ?_) #[true, true, true, false, false, false] rfl rfl (by kernel_rfl) (fun _ _ _ h => h) (Or.inl ⟨by rfl, ?_⟩) hHeld ?_ ?_
        rotate_left
        · rintro w' ⟨s0, s1⟩
          go_simp
          with_reducible rfl
        rotate_left
        · simp only [Act.put, List.setIfInBounds_toArray, List.set_cons_zero, List.set_cons_succ, i64_w, i32_w]
          rfl
        refine one_ (i := 3) (N := some 23) #[true, true, true, true, false, false] rfl rfl (by kernel_rfl) (by decide) (fun K hK => ?_)
        refine Kd.R_make_step kInt (w0 := w1.drew) w1.drew.heap.size 3 (by rfl) (N := 23) rfl 88 _ _ rfl size rfl rfl Try.underlying88 (.int .i64 0) 8 info_int rfl (by decide) (by omega) 0 (ok := fun _ => True) (okp := fun _ => True) (kInt_mkM _ _ _ 0) (fun _ hk => hk) trivial (by omega) (by omega) (Below.refl _ _) (Nat.le_refl _) ?_
        intro v2 w2 ho hb2' hg_ hnew_
        clear hg_ hnew_
        have ho2 : OwnI w2 w1.drew.heap.size v2 zs := HZS.out ▸ ownI_of_R ho
        have HO2 := Lib.hid ho2
        have hb1' : Bel W w2 := Bel.tr (Bel.tr HB1.out (Below.refl _ _).drew) hb2'
        have HB2 := Lib.hid hb2'
        have HB1' := Lib.hid hb1'
        obtain ⟨A2, c2, rfl, hc2, hC2⟩ := ho2.reads
        have u1 := (HN.out.bel (HW.out.tr hb1')).cell 0
        have u2 := (HZ.out.bel (HW.out.tr hb1')).cell 0
        simp at u1 u2
        clear ho ho2 hb1' hb2' hC2 hc2
        refine hK.out _ _ ⟨u1, u2⟩ (fun hHeld => ?_)
        clear hK K
        refine norm_ (a' := ?_) ?_ ?_
        rotate_left
        · show Act.put _ (some 23) _ = _
          simp only [Act.put, List.setIfInBounds_toArray, List.set_cons_zero, List.set_cons_succ, i64_w, i32_w]
          rfl
        refine pure_ (i := 4) (N := some 24) (v := ?_) (a' := ?_) #[true, true, true, true, true, false] rfl rfl (by kernel_rfl) (fun _ _ _ h => h) (Or.inl ⟨by rfl, ?_⟩) ?_ ?_
        rotate_left
        · intro w'
          go_simp
          with_reducible rfl
        rotate_left
        · simp only [Act.put, List.setIfInBounds_toArray, List.set_cons_zero, List.set_cons_succ, i64_w, i32_w]
          rfl
        refine last_ (i := 5) (N := some 25) #[true, true, true, true, true, true] rfl rfl (by kernel_rfl) (by decide) (fun K hK => ?_)
        refine goes_ Try.func104 (by kernel_rfl) rfl #[.pointer (some ⟨b, 0, none⟩), .agg #[.string name, .slice A2 zs.length c2]] (by rfl) rfl rfl (by simp only [List.map_toArray, List.map_cons, List.map_nil]; rfl) ?_
        with_reducible refine (insert2_c (x := ⟨name, zs⟩) HV1.out HB2.out HO2.out hq hlv HM.out).mono ?_
        rintro e w3 ⟨rfl, hv3, hb3⟩
        have HV3 := Lib.hid hv3
        have HB3 := Lib.hid hb3
        have u3 : True := trivial
        clear hv3 hb3
        refine ⟨_, rfl, ?_⟩
        refine hK.out _ _ ?_
        clear hK K
        refine norm_ (a' := ?_) ?_ ?_
        rotate_left
        · show Act.put _ (some 25) _ = _
          simp only [Act.put, List.setIfInBounds_toArray, List.set_cons_zero, List.set_cons_succ, i64_w, i32_w]
          rfl
        refine done_ (by kernel_rfl) ?_
        clear hHeld
        go_wp2
        go_ret
        rw [HG.out]
        exact ⟨rfl, ⟨_, HV3.out, fun q' h => (Option.some.inj h)⟩, (HB1'.out.mono hb2).trans HB3.out⟩
end Go.Proofs.Ytccllgpaafgjaaa
/- PoolMake, as the reference does it: l11Make. -/

namespace Go.Proofs.Ytccllgpaafgjaaa
open Go.RowKit Go.Proofs.YtccllgpaafgjaaaW.PrintWords Go.Proofs.YtccllgpaafgjaaaW.PrintLast
set_option linter.unusedVariables false
set_option linter.unusedSimpArgs false

theorem Blk.nw4 (w : World) (o o' o'' : Obj) (cs : Array Value) (t : TypeId) : Blk ((((w.alloc o).alloc o').alloc o'').alloc (.cells cs t)) (w.heap.size + 1 + 1 + 1) cs t := by
  have := Blk.nw3 (w.alloc o) o' o'' cs t
  rwa [show (w.alloc o).heap.size = w.heap.size + 1 by simp] at this
theorem Blk.nw5 (w : World) (o o' o'' o3 : Obj) (cs : Array Value) (t : TypeId) : Blk (((((w.alloc o).alloc o').alloc o'').alloc o3).alloc (.cells cs t)) (w.heap.size + 1 + 1 + 1 + 1) cs t := by
  have := Blk.nw4 (w.alloc o) o' o'' o3 cs t
  rwa [show (w.alloc o).heap.size = w.heap.size + 1 by simp] at this
end Go.Proofs.Ytccllgpaafgjaaa
/- PoolClone: what the program's closure does. -/

namespace Go.Proofs.Ytccllgpaafgjaaa
open Go.RowKit Go.Proofs.YtccllgpaafgjaaaW.PrintWords Go.Proofs.YtccllgpaafgjaaaW.PrintLast
set_option linter.unusedVariables false
set_option linter.unusedSimpArgs false

theorem cloneF_no {p : Pool} {fr dst : ByteArray} (h : volIdx p.vols fr < 0 ∨ isNm dst = false ∨ 0 ≤ volIdx p.vols dst) : cloneF p fr dst = none := by
  unfold cloneF
  rw [if_neg]
  rintro ⟨h1, h2, h3⟩
  rcases h with h | h | h
  · omega
  · rw [h] at h2; cases h2
  · omega
theorem cloneF_yes {p : Pool} {fr dst : ByteArray} {i : Nat} {v : Vol} (hi : volIdx p.vols fr = i) (hv : p.vols[i]? = some v) (h1 : isNm dst = true) (h2 : volIdx p.vols dst < 0) :
    cloneF p fr dst = some ⟨incAll p.slots v.blocks, insAt (posOf dst p.vols) ⟨dst, v.blocks⟩ p.vols⟩ := by
  unfold cloneF
  rw [if_pos ⟨by omega, h1, h2⟩, hi]
  unfold volAt
  rw [Int.toNat_natCast, getD_of hv]
theorem cnt_take (q : Int) : ∀ (xs : List Int) (k : Nat), cnt q (xs.take k) ≤ cnt q xs
  | [], k => by simp
  | a :: xs, 0 => by have := cnt_le q (a :: xs); simp [cnt] at this ⊢; exact this.1
  | a :: xs, k + 1 => by have := cnt_take q xs k; simp only [List.take_succ_cons, cnt]; omega
theorem inc_at {p : Pool} (hp : PoolP p) {i : Nat} {v : Vol} (hv : p.vols[i]? = some v) {k m : Nat} (hx : v.blocks[k]? = some ((m : Int) + 1)) : ∃ y, (incAll p.slots (v.blocks.take k))[m]? = some y ∧ 0 ≤ y.uses ∧ y.uses ≤ 98 := by
  have hvo := volOk_parts (hp.v.v i v hv)
  have hr := hvo.1
  obtain ⟨_, h2⟩ := incAll_get (xs := v.blocks.take k) hp.s (fun x hx => hr x (List.mem_of_mem_take hx)) (fun j x hj => by
    have h1 := hp.uses j x hj
    have h2 := uses_mem (p := (j : Int) + 1) hv
    have h3 := hp.v.uses_le ((j : Int) + 1)
    have h4 := cnt_le ((j : Int) + 1) v.blocks
    have h5 := cnt_take ((j : Int) + 1) v.blocks k
    have h6 := cnt_le ((j : Int) + 1) (v.blocks.take k)
    constructor
    · omega
    · omega)
  have hm := hr _ (List.mem_of_getElem? hx)
  obtain ⟨x, hxs⟩ := getQ (show m < p.slots.length by rw [hp.s.len]; omega)
  refine ⟨_, h2 m x hxs, ?_⟩
  have h1 := hp.uses m x hxs
  have h2 := uses_mem (p := (m : Int) + 1) hv
  have h3 := hp.v.uses_le ((m : Int) + 1)
  have h4 := cnt_le ((m : Int) + 1) v.blocks
  have h5 := cnt_take ((m : Int) + 1) v.blocks k
  have h6 := cnt_le ((m : Int) + 1) (v.blocks.take k)
  have h7 := uses_nonneg ((m : Int) + 1) p.vols
  simp only
  omega

set_option maxHeartbeats 8000000 in
set_option maxRecDepth 10000 in
theorem cloneClo_c {w : World} {A0 A1 : Option Addr} {c0 c1 bp bf bd : Nat} {p : Pool} {fr dst : ByteArray} (h : PoolIn w A0 A1 c0 c1 p) (hs : SmallP p) (hB : Blk w bp #[.slice A0 p.slots.length c0, .slice A1 p.vols.length c1] 49) (hF : Blk w bf #[.string fr] 9) (hD : Blk w bd #[.string dst] 9) (hok : poolOk p = true)
    (W : World) (b base : Nat) (hW : Bel w W) (hb1 : w.heap.size ≤ base) (hb2 : base ≤ W.heap.size) (hpv : PV W b base p) :
    Calls Try.prog 109 #[.pointer (some ⟨b, 0, none⟩), .pointer (some ⟨bp, 0, none⟩), .pointer (some ⟨bf, 0, none⟩), .pointer (some ⟨bd, 0, none⟩)] W (Changes (cloneF p fr dst) b base W) := by
  have HS := Lib.hid hs
  have HP := Lib.hid h
  have HK := Lib.hid (poolOk_iff.1 hok)
  have HV := Lib.hid hpv
  have HW := Lib.hid hW
  have HB := Lib.hid hB
  have HF := Lib.hid hF
  have HD := Lib.hid hD
  have q0 := (HB.out.bel HW.out).cell 0
  have q1 := (HB.out.bel HW.out).cell 1
  have q2 := (HF.out.bel HW.out).cell 0
  simp at q0 q1 q2
  clear h hs hok hpv hW hB hF hD
  have hlv := HS.out.vols.len
  go_enter Try.func109, Try.ntmps109
  go_wp2_with fail
  refine (vol_c _ p.vols A1 c1 fr _ (HP.out.bel HW.out).v hlv).mono ?_
  rintro e w1 ⟨rfl, hb1'⟩
  have HW1 := Lib.hid (HW.out.tr hb1')
  have HB1 := Lib.hid hb1'
  clear q0 q1 q2 hb1'
  by_cases hn : volIdx p.vols fr < 0
  · have HG := Lib.hid (show cloneF p fr dst = none from cloneF_no (.inl hn))
    go_wp2
    go_ret
    rw [HG.out]
    exact ⟨rfl, ⟨p, HV.out.bel HB1.out, fun q' h => by cases h⟩, HB1.out.mono hb2⟩
  · obtain ⟨i, v, hi, hv, hvn⟩ := volIdx_yes hn
    have HI := Lib.hid hv
    have HII := Lib.hid hi
    have hil := ltQ hv
    rw [hi]
    clear hn hvn hv hi
    have hin : ¬ ((i : Int) < 0) := by omega
    have q0 := (HB.out.bel HW1.out).cell 0
    have q1 := (HB.out.bel HW1.out).cell 1
    have q3 := (HD.out.bel HW1.out).cell 0
    simp at q0 q1 q3
    cases h1 : isNm dst with
    | false =>
      have HG := Lib.hid (show cloneF p fr dst = none from cloneF_no (.inr (.inl h1)))
      go_wp2_with (go_at_call 100; refine (isName_c dst _).mono ?_; rintro e w' ⟨rfl, rfl⟩)
      go_ret
      rw [HG.out]
      exact ⟨rfl, ⟨p, HV.out.bel HB1.out, fun q' h => by cases h⟩, HB1.out.mono hb2⟩
    | true =>
      have hbd := volIdx_bd p.vols dst
      go_wp2_with (go_at_call 100; refine (isName_c dst _).mono ?_; rintro e w' ⟨rfl, rfl⟩)
      refine (vol_c _ p.vols A1 c1 dst _ (HP.out.bel HW1.out).v hlv).mono ?_
      rintro e w2 ⟨rfl, hb2'⟩
      have HW2 := Lib.hid (HW1.out.tr hb2')
      have HB2 := Lib.hid (HB1.out.tr hb2')
      clear q0 q1 q3 hb2'
      by_cases h2 : 0 ≤ volIdx p.vols dst
      · have HG := Lib.hid (show cloneF p fr dst = none from cloneF_no (.inr (.inr h2)))
        go_wp2
        go_ret
        rw [HG.out]
        exact ⟨rfl, ⟨p, HV.out.bel HB2.out, fun q' h => by cases h⟩, HB2.out.mono hb2⟩
      · have h2' : volIdx p.vols dst < 0 := by omega
        have HG := Lib.hid (show cloneF p fr dst = some ⟨incAll p.slots v.blocks, insAt (posOf dst p.vols) ⟨dst, v.blocks⟩ p.vols⟩ from cloneF_yes HII.out HI.out h1 h2')
        have HM := Lib.hid (fun (m : Nat) (y : Vol) (hy : p.vols[m]? = some y) => cmpS_pos HK.out h1 h2' m y hy)
        have hq := posOf_le dst p.vols
        have hx1 : v.blocks.length ≤ 1048576 := HS.out.vols.blocks v (List.mem_of_getElem? HI.out)
        obtain ⟨ad, A2, n2, rfl, hc0, hc0', hn2, hC⟩ := at_vol HP.out.v HI.out
        have hc := (HW2.out.cell (World.block_lt_of_cell? w _ hc0)).trans hc0
        have hc' := (HW2.out.cell (World.block_lt_of_cell? w _ hc0')).trans hc0'
        have HC := Lib.hid hC
        have HCC := Lib.hid hc0'
        have q0 := (HB.out.bel HW2.out).cell 0
        have q1 := (HB.out.bel HW2.out).cell 1
        simp at q0 q1
        clear hC hc0 hc0' h1
        go_wp2
        obtain ⟨⟨v0, v1, bvs, hb, ho⟩, hlo⟩ := HV.out.bel HB2.out
        have HO := Lib.hid (And.intro hb ho)
        clear hb ho q0 q1 hc hc'
        go_loopg [32] v.blocks.length (fun g v32 W' => ∃ k : Nat, g + k = v.blocks.length ∧ v32 = .int .i64 k ∧ Blk W' b #[v0, v1] 49 ∧ OwnS W' base v0 (incAll p.slots (v.blocks.take k)) ∧ OwnV W' base v1 p.vols bvs ∧ Below base w2 W')
        case atStart => exact ⟨0, rfl, rfl, HO.out.1, HO.out.2.s, HO.out.2.v, Below.refl _ _⟩
        case round =>
          obtain ⟨k, hk, rfl, hb, hos, hov, hbel⟩ := hrel
          have hWw : Bel w wr := HW2.out.trans (hbel.mono hb1)
          by_cases hlt : k < v.blocks.length
          · obtain ⟨x, hx⟩ := getQ hlt
            have hxr := (volOk_parts (HK.out.v.v i v HI.out)).1 x (List.mem_of_getElem? hx)
            obtain ⟨ad2, rfl, hcx⟩ := at_int (Kd.C_below HC.out hWw) hx
            have r0 := hb.cell 0
            simp at r0
            have HR := Lib.hid (And.intro (And.intro hb hos) (And.intro hov (And.intro hbel hWw)))
            clear hb hov hbel hWw
            by_cases h0 : 0 < x
            · obtain ⟨m, rfl⟩ : ∃ m : Nat, x = (m : Int) + 1 := ⟨(x - 1).toNat, by omega⟩
              obtain ⟨y, hy, hy1, hy2⟩ := inc_at HK.out HI.out hx
              have HT := Lib.hid (show incAll p.slots (v.blocks.take (k + 1)) = (incAll p.slots (v.blocks.take k)).set m ⟨y.text, y.uses + 1⟩ by rw [take_snoc hx, incAll_snoc, if_pos h0, show ((m : Int) + 1 - 1).toNat = m by omega, incS_eq hy])
              have hdl : (incAll p.slots (v.blocks.take k)).length = 8 := by rw [incAll_len, HK.out.s.len]
              have hml := ltQ hy
              rw [hdl] at hml
              obtain ⟨g, cap, ev, hg1, hg2, hcap, hcc, hcc', hf, hf'⟩ := OwnS.at hos hy
              rw [hdl] at ev hcap
              subst ev
              have hset := OwnS.setU (hdl ▸ hos) hy (y.uses + 1)
              have H3 := Lib.hid hset
              have hdl2 := Lib.hid hdl
              clear hx hy hos hset hdl
              go_wp2
              go_roundg (v.blocks.length - (k + 1))
              case rel =>
                obtain ⟨⟨hb, hos⟩, hov, hbel, hWw⟩ := HR.out
                refine ⟨k + 1, by omega, int_eq (by omega), hb.grown H3.out.2 (own_blk_ne hos hb (by decide)), ?_, hov.otherS hos H3.out.2, hbel.grown H3.out.2 (by have := hb.lt; omega) (own_base hos)⟩
                rw [HT.out]
                have h5 := H3.out.1
                rw [hdl2.out] at h5
                exact h5
              case measure => omega
            · have HT := Lib.hid (show incAll p.slots (v.blocks.take (k + 1)) = incAll p.slots (v.blocks.take k) by rw [take_snoc hx, incAll_snoc, if_neg h0])
              clear hx hos
              go_wp2
              go_roundg (v.blocks.length - (k + 1))
              case rel =>
                obtain ⟨⟨hb, hos⟩, hov, hbel, hWw⟩ := HR.out
                exact ⟨k + 1, by omega, int_eq (by omega), hb, by rw [HT.out]; exact hos, hov, hbel⟩
              case measure => omega
          · have hkl : k = v.blocks.length := by omega
            rw [hkl, List.take_length] at hos
            have hpv : PV wr.drew b base ⟨incAll p.slots v.blocks, p.vols⟩ := ⟨⟨v0, v1, bvs, hb, ⟨hos.bel (Below.refl _ _).drew, hov.bel (Below.refl _ _).drew⟩⟩, hlo⟩
            have q1 := (HB.out.bel hWw).cell 1
            have q3 := (HD.out.bel hWw).cell 0
            have q4 := (hWw.cell (World.block_lt_of_cell? w _ HCC.out)).trans HCC.out
            simp at q1 q3 q4
            have HPV := Lib.hid hpv
            have HWw := Lib.hid hWw
            have HBE := Lib.hid hbel
            have hbw : base ≤ wr.heap.size := by have := hbel.size; have := HB2.out.size; omega
            clear hb hos hov hbel hWw hpv hkl
            go_wp2
            refine start_ (n := 11) (S := fun w' => w'.cell? ⟨bd, 0, none⟩ = some (.string dst) ∧ w'.cell? ⟨bp, 1, none⟩ = some (.slice (some ad) p.vols.length c1) ∧ w'.cell? ⟨(ad.add (i * 2)).block, (ad.add (i * 2)).off + 1, none⟩ = some (.slice A2 v.blocks.length n2)) (ds := [10]) #[false, false, false, false, false, false, false, false, false, false, false] (by kernel_rfl) rfl rfl ⟨q3, q1, q4⟩ (fun hHeld => ?_)
            refine pure_ (i := 0) (N := some 51) (v := ?_) (a' := ?_) #[true, false, false, false, false, false, false, false, false, false, false] rfl rfl (by kernel_rfl) (fun _ _ _ h => h) (Or.inl ⟨by rfl, ?_⟩) ?_ ?_
            rotate_left
            · intro w'
              go_simp
              with_reducible rfl
            rotate_left
            · simp only [Act.put, List.setIfInBounds_toArray, List.set_cons_zero, List.set_cons_succ, i64_w, i32_w]
              rfl
            refine pure_ (i := 2) (N := some 53) (v := ?_) (a' := ?_) #[true, false, true, false, false, false, false, false, false, false, false] rfl rfl (by kernel_rfl) (fun _ _ _ h => h) (Or.inl ⟨by rfl, ?_⟩) ?_ ?_
            rotate_left
            · intro w'
              go_simp
              with_reducible rfl
            rotate_left
            · simp only [Act.put, List.setIfInBounds_toArray, List.set_cons_zero, List.set_cons_succ, i64_w, i32_w]
              rfl
            refine pure_ (i := 4) (N := some 55) (v := ?_) (a' := ?_) #[true, false, true, false, true, false, false, false, false, false, false] rfl rfl (by kernel_rfl) (fun _ _ _ h => h) (Or.inl ⟨by rfl, ?_⟩) ?_ ?_
            rotate_left
            · intro w'
              go_simp
              with_reducible rfl
            rotate_left
            · simp only [Act.put, List.setIfInBounds_toArray, List.set_cons_zero, List.set_cons_succ, i64_w, i32_w]
              rfl
            refine take_ (i := 1) (N := some 52) (v := ?_) (a' := ?_) #[true, true, true, false, true, false, false, false, false, false, false] rfl rfl (by kernel_rfl) (fun _ _ _ h => h) (Or.inl ⟨by rfl, ?_⟩) hHeld ?_ ?_
            rotate_left
            · rintro w' ⟨s0, s1, s2⟩
              go_simp
              with_reducible rfl
            rotate_left
            · simp only [Act.put, List.setIfInBounds_toArray, List.set_cons_zero, List.set_cons_succ, i64_w, i32_w]
              rfl
            refine take_ (i := 3) (N := some 54) (v := ?_) (a' := ?_) #[true, true, true, true, true, false, false, false, false, false, false] rfl rfl (by kernel_rfl) (fun _ _ _ h => h) (Or.inl ⟨by rfl, ?_⟩) hHeld ?_ ?_
            rotate_left
            · rintro w' ⟨s0, s1, s2⟩
              go_simp
              with_reducible rfl
            rotate_left
            · simp only [Act.put, List.setIfInBounds_toArray, List.set_cons_zero, List.set_cons_succ, i64_w, i32_w]
              rfl
            refine pure_ (i := 5) (N := some 56) (v := ?_) (a' := ?_) #[true, true, true, true, true, true, false, false, false, false, false] rfl rfl (by kernel_rfl) (fun _ _ _ h => h) (Or.inl ⟨by rfl, ?_⟩) ?_ ?_
            rotate_left
            · intro w'
              go_simp
              with_reducible rfl
            rotate_left
            · simp only [Act.put, List.setIfInBounds_toArray, List.set_cons_zero, List.set_cons_succ, i64_w, i32_w]
              rfl
            refine pure_ (i := 6) (N := some 57) (v := ?_) (a' := ?_) #[true, true, true, true, true, true, true, false, false, false, false] rfl rfl (by kernel_rfl) (fun _ _ _ h => h) (Or.inl ⟨by rfl, ?_⟩) ?_ ?_
            rotate_left
            · intro w'
              go_simp
              with_reducible rfl
            rotate_left
            · simp only [Act.put, List.setIfInBounds_toArray, List.set_cons_zero, List.set_cons_succ, i64_w, i32_w]
              rfl
            refine take_ (i := 7) (N := some 58) (v := ?_) (a' := ?_) #[true, true, true, true, true, true, true, true, false, false, false] rfl rfl (by kernel_rfl) (fun _ _ _ h => h) (Or.inl ⟨by rfl, ?_⟩) hHeld ?_ ?_
            rotate_left
            · rintro w' ⟨s0, s1, s2⟩
              go_simp
              with_reducible rfl
            rotate_left
            · simp only [Act.put, List.setIfInBounds_toArray, List.set_cons_zero, List.set_cons_succ, i64_w, i32_w]
              rfl
            refine one_ (i := 8) (N := some 59) #[true, true, true, true, true, true, true, true, true, false, false] rfl rfl (by kernel_rfl) (by decide) (fun K hK => ?_)
            refine goes_ Try.func110 (by kernel_rfl) rfl #[.slice A2 v.blocks.length n2] (by rfl) rfl rfl (by simp only [List.map_toArray, List.map_cons, List.map_nil]; rfl) ?_
            with_reducible refine (cloneI_c (Kd.C_below HC.out HWw.out.drew) hx1).mono ?_
            rintro e w3 ⟨v3, rfl, ho3, hb3⟩
            obtain ⟨A3, c3, rfl, hc3, hC3⟩ := ho3.reads
            have HO3 := Lib.hid ho3
            have HB3 := Lib.hid hb3
            have hw3 : Bel w w3 := Bel.tr (b := wr.drew) HWw.out.drew hb3
            have u1 := (HB.out.bel hw3).cell 1
            have u3 := (HD.out.bel hw3).cell 0
            have u4 := (hw3.cell (World.block_lt_of_cell? w _ HCC.out)).trans HCC.out
            simp at u1 u3 u4
            clear ho3 hb3 hw3 hC3
            refine ⟨_, rfl, ?_⟩
            refine hK.out _ _ ⟨u3, u1, u4⟩ (fun hHeld => ?_)
            clear hK K
            refine norm_ (a' := ?_) ?_ ?_
            rotate_left
            · show Act.put _ (some 59) _ = _
              simp only [Act.put, List.setIfInBounds_toArray, List.set_cons_zero, List.set_cons_succ, i64_w, i32_w]
              rfl
            refine pure_ (i := 9) (N := some 60) (v := ?_) (a' := ?_) #[true, true, true, true, true, true, true, true, true, true, false] rfl rfl (by kernel_rfl) (fun _ _ _ h => h) (Or.inl ⟨by rfl, ?_⟩) ?_ ?_
            rotate_left
            · intro w'
              go_simp
              with_reducible rfl
            rotate_left
            · simp only [Act.put, List.setIfInBounds_toArray, List.set_cons_zero, List.set_cons_succ, i64_w, i32_w]
              rfl
            refine last_ (i := 10) (N := some 61) #[true, true, true, true, true, true, true, true, true, true, true] rfl rfl (by kernel_rfl) (by decide) (fun K hK => ?_)
            refine goes_ Try.func104 (by kernel_rfl) rfl #[.pointer (some ⟨b, 0, none⟩), .agg #[.string dst, .slice A3 v.blocks.length c3]] (by rfl) rfl rfl (by simp only [List.map_toArray, List.map_cons, List.map_nil]; rfl) ?_
            with_reducible refine (insert2_c (x := ⟨dst, v.blocks⟩) HPV.out HB3.out HO3.out hq hlv HM.out).mono ?_
            rintro e w4 ⟨rfl, hv4, hb4⟩
            have HV4 := Lib.hid hv4
            have HB4 := Lib.hid hb4
            clear hv4 hb4
            refine ⟨_, rfl, ?_⟩
            refine hK.out _ _ ?_
            clear hK K
            refine norm_ (a' := ?_) ?_ ?_
            rotate_left
            · show Act.put _ (some 61) _ = _
              simp only [Act.put, List.setIfInBounds_toArray, List.set_cons_zero, List.set_cons_succ, i64_w, i32_w]
              rfl
            refine done_ (by kernel_rfl) ?_
            clear hHeld
            go_wp2
            go_ret
            rw [HG.out]
            exact ⟨rfl, ⟨_, HV4.out, fun q' h => (Option.some.inj h)⟩, ((((HB2.out.mono hb2).trans HBE.out).drew).trans (HB3.out.mono hbw)).trans HB4.out⟩
end Go.Proofs.Ytccllgpaafgjaaa
/- PoolClone, as the reference does it: l11Clone. -/

namespace Go.Proofs.Ytccllgpaafgjaaa
open Go.RowKit Go.Proofs.YtccllgpaafgjaaaW.PrintWords Go.Proofs.YtccllgpaafgjaaaW.PrintLast
set_option linter.unusedVariables false
set_option linter.unusedSimpArgs false

end Go.Proofs.Ytccllgpaafgjaaa
/- PoolClone, as the program does it and as the reference does it. -/

namespace Go.Proofs.Ytccllgpaafgjaaa
open Go.RowKit Go.Proofs.YtccllgpaafgjaaaW.PrintWords Go.Proofs.YtccllgpaafgjaaaW.PrintLast
set_option linter.unusedVariables false
set_option linter.unusedSimpArgs false

set_option maxHeartbeats 4000000 in
set_option maxRecDepth 10000 in
theorem implPoolClone_c {w : World} {A0 A1 : Option Addr} {c0 c1 : Nat} {p : Pool} {fr dst : ByteArray} (h : PoolIn w A0 A1 c0 c1 p) (hs : SmallP p) (hnm : dst.size ≤ 1048576) :
    Calls Try.prog 70 #[.agg #[.slice A0 p.slots.length c0, .slice A1 p.vols.length c1], .string fr, .string dst] w (MadePB w (chP p (cloneF p fr dst)) (chB p (cloneF p fr dst))) := by
  have HS := Lib.hid hs
  have HP := Lib.hid h
  clear h hs
  go_enter Try.func70, Try.ntmps70
  go_wp2_with fail
  have hB : Blk ((((w.alloc (.cells #[.slice A0 p.slots.length c0, .slice A1 p.vols.length c1] 49)).alloc (.cells #[.string fr] 9)).alloc (.cells #[.string dst] 9)).alloc (.cells #[.slice none 0 0, .slice none 0 0] 49)) (w.heap.size) #[.slice A0 p.slots.length c0, .slice A1 p.vols.length c1] 49 := ((((Blk.new _ _ _)).alloc _).alloc _).alloc _
  have hN0 : Blk ((((w.alloc (.cells #[.slice A0 p.slots.length c0, .slice A1 p.vols.length c1] 49)).alloc (.cells #[.string fr] 9)).alloc (.cells #[.string dst] 9)).alloc (.cells #[.slice none 0 0, .slice none 0 0] 49)) (w.heap.size + 1) #[.string fr] 9 := (((Blk.nw2 _ _ _ _)).alloc _).alloc _
  have hN1 : Blk ((((w.alloc (.cells #[.slice A0 p.slots.length c0, .slice A1 p.vols.length c1] 49)).alloc (.cells #[.string fr] 9)).alloc (.cells #[.string dst] 9)).alloc (.cells #[.slice none 0 0, .slice none 0 0] 49)) (w.heap.size + 1 + 1) #[.string dst] 9 := ((Blk.nw3 _ _ _ _ _)).alloc _
  have hR : Blk ((((w.alloc (.cells #[.slice A0 p.slots.length c0, .slice A1 p.vols.length c1] 49)).alloc (.cells #[.string fr] 9)).alloc (.cells #[.string dst] 9)).alloc (.cells #[.slice none 0 0, .slice none 0 0] 49)) (w.heap.size + 1 + 1 + 1) #[.slice none 0 0, .slice none 0 0] 49 := Blk.nw4 _ _ _ _ _ _
  have hW : Bel w ((((w.alloc (.cells #[.slice A0 p.slots.length c0, .slice A1 p.vols.length c1] 49)).alloc (.cells #[.string fr] 9)).alloc (.cells #[.string dst] 9)).alloc (.cells #[.slice none 0 0, .slice none 0 0] 49)) := bel_alloc (bel_alloc (bel_alloc (bel_alloc (Below.refl _ _) _) _) _) _
  generalize ((((w.alloc (.cells #[.slice A0 p.slots.length c0, .slice A1 p.vols.length c1] 49)).alloc (.cells #[.string fr] 9)).alloc (.cells #[.string dst] 9)).alloc (.cells #[.slice none 0 0, .slice none 0 0] 49)) = W0 at hB hN0 hN1 hR hW ⊢
  have HB := Lib.hid hB
  have HN0 := Lib.hid hN0
  have HN1 := Lib.hid hN1
  have HR := Lib.hid hR
  have HW := Lib.hid hW
  clear hB hN0 hN1 hR hW
  refine (changed_c (HP.out.bel HW.out) HS.out 109 #[.pointer (some ⟨w.heap.size, 0, none⟩), .pointer (some ⟨w.heap.size + 1, 0, none⟩), .pointer (some ⟨w.heap.size + 1 + 1, 0, none⟩)] (cloneF p fr dst) (enters Try.func109 (by kernel_rfl) (by kernel_rfl))
    (fun hok W b base h1 h2 h3 h4 => cloneClo_c (HP.out.bel HW.out) HS.out HB.out HN0.out HN1.out hok W b base h1 h2 h3 h4)).mono ?_
  rintro e w1 ⟨v0, v1, bvs, rfl, ho, hb1⟩
  obtain ⟨q, hq⟩ : ∃ q, chP p (cloneF p fr dst) = q := ⟨_, rfl⟩
  obtain ⟨ok, hok⟩ : ∃ ok, chB p (cloneF p fr dst) = ok := ⟨_, rfl⟩
  rw [hq] at ho
  rw [hok]
  have HQ := Lib.hid hq
  have HK := Lib.hid hok
  clear hq hok
  have HO := Lib.hid ho
  have HB1 := Lib.hid hb1
  have r0 := (HR.out.bel HB1.out).cell 0
  have r1 := (HR.out.bel HB1.out).cell 1
  have f0 := (HR.out.bel HB1.out).free 0
  have f1 := (HR.out.bel HB1.out).free 1
  simp at r0 r1
  clear ho hb1
  obtain ⟨A2, A3, c2, c3, rfl, rfl, hpi⟩ := HO.out.reads
  clear hpi
  go_wp2
  have hR2 := HR.out.bel HB1.out
  have hR3 := hR2.set 0 (.slice A2 q.slots.length c2) (cs' := #[.slice A2 q.slots.length c2, .slice none 0 0]) rfl
  have hR4 := hR3.set 1 (.slice A3 q.vols.length c3) (cs' := #[.slice A2 q.slots.length c2, .slice A3 q.vols.length c3]) rfl
  have hb5 := bel_set (bel_set (HW.out.tr HB1.out) (show w.heap.size ≤ w.heap.size + 1 + 1 + 1 by omega) 0 (.slice A2 q.slots.length c2)) (show w.heap.size ≤ w.heap.size + 1 + 1 + 1 by omega) 1 (.slice A3 q.vols.length c3)
  have hop4 := (HO.out.far hR2 (by decide) (by decide) (by decide) 0 (.slice A2 q.slots.length c2)).far hR3 (by decide) (by decide) (by decide) 1 (.slice A3 q.vols.length c3)
  refine bodyPost_ret (results_ct rfl _ _ (w.heap.size + 1 + 1 + 1) 49 #[.slice A2 q.slots.length c2, .slice A3 q.vols.length c3] (0, 0) _ rfl hR4 Try.underlying49 rfl (by kernel_rfl)) rfl ?_
  rw [HQ.out, HK.out]
  exact ⟨_, _, _, rfl, hop4.lower HW.out.size, hb5⟩
end Go.Proofs.Ytccllgpaafgjaaa
/- PoolMake, as the program does it and as the reference does it. -/

namespace Go.Proofs.Ytccllgpaafgjaaa
open Go.RowKit Go.Proofs.YtccllgpaafgjaaaW.PrintWords Go.Proofs.YtccllgpaafgjaaaW.PrintLast
set_option linter.unusedVariables false
set_option linter.unusedSimpArgs false

set_option maxHeartbeats 4000000 in
set_option maxRecDepth 10000 in
theorem implPoolMake_c {w : World} {A0 A1 : Option Addr} {c0 c1 : Nat} {p : Pool} {name : ByteArray} {size : Int} (h : PoolIn w A0 A1 c0 c1 p) (hs : SmallP p) (hnm : name.size ≤ 1048576) :
    Calls Try.prog 68 #[.agg #[.slice A0 p.slots.length c0, .slice A1 p.vols.length c1], .string name, .int .i64 size] w (MadePB w (chP p (makeF p name size)) (chB p (makeF p name size))) := by
  have HS := Lib.hid hs
  have HP := Lib.hid h
  clear h hs
  go_enter Try.func68, Try.ntmps68
  go_wp2_with fail
  have hB : Blk ((((w.alloc (.cells #[.slice A0 p.slots.length c0, .slice A1 p.vols.length c1] 49)).alloc (.cells #[.string name] 9)).alloc (.cells #[.int .i64 size] 3)).alloc (.cells #[.slice none 0 0, .slice none 0 0] 49)) (w.heap.size) #[.slice A0 p.slots.length c0, .slice A1 p.vols.length c1] 49 := ((((Blk.new _ _ _)).alloc _).alloc _).alloc _
  have hN0 : Blk ((((w.alloc (.cells #[.slice A0 p.slots.length c0, .slice A1 p.vols.length c1] 49)).alloc (.cells #[.string name] 9)).alloc (.cells #[.int .i64 size] 3)).alloc (.cells #[.slice none 0 0, .slice none 0 0] 49)) (w.heap.size + 1) #[.string name] 9 := (((Blk.nw2 _ _ _ _)).alloc _).alloc _
  have hN1 : Blk ((((w.alloc (.cells #[.slice A0 p.slots.length c0, .slice A1 p.vols.length c1] 49)).alloc (.cells #[.string name] 9)).alloc (.cells #[.int .i64 size] 3)).alloc (.cells #[.slice none 0 0, .slice none 0 0] 49)) (w.heap.size + 1 + 1) #[.int .i64 size] 3 := ((Blk.nw3 _ _ _ _ _)).alloc _
  have hR : Blk ((((w.alloc (.cells #[.slice A0 p.slots.length c0, .slice A1 p.vols.length c1] 49)).alloc (.cells #[.string name] 9)).alloc (.cells #[.int .i64 size] 3)).alloc (.cells #[.slice none 0 0, .slice none 0 0] 49)) (w.heap.size + 1 + 1 + 1) #[.slice none 0 0, .slice none 0 0] 49 := Blk.nw4 _ _ _ _ _ _
  have hW : Bel w ((((w.alloc (.cells #[.slice A0 p.slots.length c0, .slice A1 p.vols.length c1] 49)).alloc (.cells #[.string name] 9)).alloc (.cells #[.int .i64 size] 3)).alloc (.cells #[.slice none 0 0, .slice none 0 0] 49)) := bel_alloc (bel_alloc (bel_alloc (bel_alloc (Below.refl _ _) _) _) _) _
  generalize ((((w.alloc (.cells #[.slice A0 p.slots.length c0, .slice A1 p.vols.length c1] 49)).alloc (.cells #[.string name] 9)).alloc (.cells #[.int .i64 size] 3)).alloc (.cells #[.slice none 0 0, .slice none 0 0] 49)) = W0 at hB hN0 hN1 hR hW ⊢
  have HB := Lib.hid hB
  have HN0 := Lib.hid hN0
  have HN1 := Lib.hid hN1
  have HR := Lib.hid hR
  have HW := Lib.hid hW
  clear hB hN0 hN1 hR hW
  refine (changed_c (HP.out.bel HW.out) HS.out 102 #[.pointer (some ⟨w.heap.size + 1, 0, none⟩), .pointer (some ⟨w.heap.size, 0, none⟩), .pointer (some ⟨w.heap.size + 1 + 1, 0, none⟩)] (makeF p name size) (enters Try.func102 (by kernel_rfl) (by kernel_rfl))
    (fun hok W b base h1 h2 h3 h4 => makeClo_c (HP.out.bel HW.out) HS.out HB.out HN0.out HN1.out hok W b base h1 h2 h3 h4)).mono ?_
  rintro e w1 ⟨v0, v1, bvs, rfl, ho, hb1⟩
  obtain ⟨q, hq⟩ : ∃ q, chP p (makeF p name size) = q := ⟨_, rfl⟩
  obtain ⟨ok, hok⟩ : ∃ ok, chB p (makeF p name size) = ok := ⟨_, rfl⟩
  rw [hq] at ho
  rw [hok]
  have HQ := Lib.hid hq
  have HK := Lib.hid hok
  clear hq hok
  have HO := Lib.hid ho
  have HB1 := Lib.hid hb1
  have r0 := (HR.out.bel HB1.out).cell 0
  have r1 := (HR.out.bel HB1.out).cell 1
  have f0 := (HR.out.bel HB1.out).free 0
  have f1 := (HR.out.bel HB1.out).free 1
  simp at r0 r1
  clear ho hb1
  obtain ⟨A2, A3, c2, c3, rfl, rfl, hpi⟩ := HO.out.reads
  clear hpi
  go_wp2
  have hR2 := HR.out.bel HB1.out
  have hR3 := hR2.set 0 (.slice A2 q.slots.length c2) (cs' := #[.slice A2 q.slots.length c2, .slice none 0 0]) rfl
  have hR4 := hR3.set 1 (.slice A3 q.vols.length c3) (cs' := #[.slice A2 q.slots.length c2, .slice A3 q.vols.length c3]) rfl
  have hb5 := bel_set (bel_set (HW.out.tr HB1.out) (show w.heap.size ≤ w.heap.size + 1 + 1 + 1 by omega) 0 (.slice A2 q.slots.length c2)) (show w.heap.size ≤ w.heap.size + 1 + 1 + 1 by omega) 1 (.slice A3 q.vols.length c3)
  have hop4 := (HO.out.far hR2 (by decide) (by decide) (by decide) 0 (.slice A2 q.slots.length c2)).far hR3 (by decide) (by decide) (by decide) 1 (.slice A3 q.vols.length c3)
  refine bodyPost_ret (results_ct rfl _ _ (w.heap.size + 1 + 1 + 1) 49 #[.slice A2 q.slots.length c2, .slice A3 q.vols.length c3] (0, 0) _ rfl hR4 Try.underlying49 rfl (by kernel_rfl)) rfl ?_
  rw [HQ.out, HK.out]
  exact ⟨_, _, _, rfl, hop4.lower HW.out.size, hb5⟩
end Go.Proofs.Ytccllgpaafgjaaa
/- PoolWrite: a pool of one's own with one block turned; what the program's closure does. -/

namespace Go.Proofs.Ytccllgpaafgjaaa
open Go.RowKit Go.Proofs.YtccllgpaafgjaaaW.PrintWords Go.Proofs.YtccllgpaafgjaaaW.PrintLast
set_option linter.unusedVariables false
set_option linter.unusedSimpArgs false

/-- A variable that holds a pool of one's own: slots S, the volumes vs, but block bl of volume i (v) is pl; that volume's blocks lie in block gb. -/
structure PW (W : World) (b base : Nat) (v0 v1 : Value) (bvs : List Value) (S : List Slot) (vs : List Vol) (i bl : Nat) (v : Vol) (gb cb : Nat) (pl : Int) : Prop where
  blk : Blk W b #[v0, v1] 49
  s : OwnS W base v0 S
  vv : OwnV W base v1 (vs.set i ⟨v.name, v.blocks.set bl pl⟩) bvs
  hb : bvs[i]? = some (.slice (some ⟨gb, 0, none⟩) v.blocks.length cb)
theorem set_same {α : Type} {xs : List α} {i : Nat} {x : α} (h : xs[i]? = some x) : xs.set i x = xs := by
  obtain ⟨hi, rfl⟩ := List.getElem?_eq_some_iff.1 h
  exact List.set_getElem_self hi
theorem PW.mk0 {W : World} {b base : Nat} {v0 v1 : Value} {bvs : List Value} {p : Pool} {i bl : Nat} {v : Vol} {x : Int} (hB : Blk W b #[v0, v1] 49) (h : OwnP W base v0 v1 p bvs) (hv : p.vols[i]? = some v) (hx : v.blocks[bl]? = some x) :
    ∃ gb cb, PW W b base v0 v1 bvs p.slots p.vols i bl v gb cb x := by
  obtain ⟨g, cap, bv, hbv, _⟩ := h.v.row.at hv
  obtain ⟨gb, cb, rfl, _⟩ := own_form (h.v.inner i v bv hv hbv) (by have := ltQ hx; omega)
  refine ⟨gb, cb, hB, h.s, ?_, hbv⟩
  rw [set_same hx, show (⟨v.name, v.blocks⟩ : Vol) = v from rfl, set_same hv]
  exact h.v
theorem PW.inner {W : World} {b base : Nat} {v0 v1 : Value} {bvs : List Value} {S : List Slot} {vs : List Vol} {i bl : Nat} {v : Vol} {gb cb : Nat} {pl : Int} (h : PW W b base v0 v1 bvs S vs i bl v gb cb pl) (hi : i < vs.length) :
    OwnI W base (.slice (some ⟨gb, 0, none⟩) v.blocks.length cb) (v.blocks.set bl pl) := h.vv.inner i _ _ (List.getElem?_set_self hi) h.hb
theorem PW.cell {W : World} {b base : Nat} {v0 v1 : Value} {bvs : List Value} {S : List Slot} {vs : List Vol} {i bl : Nat} {v : Vol} {gb cb : Nat} {pl : Int} (h : PW W b base v0 v1 bvs S vs i bl v gb cb pl) (hi : i < vs.length) (hbl : bl < v.blocks.length) :
    W.cell? ⟨gb, bl, none⟩ = some (.int .i64 pl) ∧ W.frozen? ⟨gb, bl, none⟩ = false ∧ gb < W.heap.size ∧ base ≤ gb ∧ v.blocks.length ≤ cb := by
  obtain ⟨g, cap, e, h1, h2, h3, h4, h5⟩ := (h.inner hi).at (List.getElem?_set_self hbl)
  have e := slice_eq e
  obtain ⟨e1, _, rfl⟩ := e
  obtain rfl : gb = g := by simpa using e1
  rw [List.length_set] at h3
  exact ⟨h4, h5, h2, h1, h3⟩
theorem PW.row {W : World} {b base : Nat} {v0 v1 : Value} {bvs : List Value} {S : List Slot} {vs : List Vol} {i bl : Nat} {v : Vol} {gb cb : Nat} {pl : Int} (h : PW W b base v0 v1 bvs S vs i bl v gb cb pl) (hi : i < vs.length) :
    ∃ g cap, v1 = .slice (some ⟨g, 0, none⟩) vs.length cap ∧ W.cell? ⟨g, i * 2 + 1, none⟩ = some (.slice (some ⟨gb, 0, none⟩) v.blocks.length cb) ∧ vs.length ≤ cap ∧ g < W.heap.size := by
  obtain ⟨g, cap, bv, hbv, e, h1, h2, h3, h4, h5, _⟩ := h.vv.row.at (List.getElem?_set_self hi)
  obtain rfl := Option.some.inj (h.hb.symm.trans hbv)
  rw [List.length_set] at e h3
  exact ⟨g, cap, e, h5, h3, h2⟩
theorem PW.put {W : World} {b base : Nat} {v0 v1 : Value} {bvs : List Value} {S : List Slot} {vs : List Vol} {i bl : Nat} {v : Vol} {gb cb : Nat} {pl : Int} (h : PW W b base v0 v1 bvs S vs i bl v gb cb pl) (hi : i < vs.length) (hbl : bl < v.blocks.length) (q : Int) :
    PW (W.setCell ⟨gb, bl, none⟩ (.int .i64 q)) b base v0 v1 bvs S vs i bl v gb cb q ∧ W.grownBy (W.setCell ⟨gb, bl, none⟩ (.int .i64 q)) (some gb) := by
  have hin := h.inner hi
  have hin' : OwnI W base (.slice (some ⟨gb, 0, none⟩) (v.blocks.set bl pl).length cb) (v.blocks.set bl pl) := by rw [List.length_set]; exact hin
  obtain ⟨h1, h2⟩ := OwnI.set hin' (List.getElem?_set_self hbl) q
  rw [List.set_set, List.length_set] at h1
  have h3 := h.vv.setI (List.getElem?_set_self hi) h.hb h1 h2
  rw [List.set_set] at h3
  exact ⟨⟨h.blk.grown h2 (own_blk_ne hin h.blk (by decide)), own_other_type h.s hin (by decide) h2, h3, h.hb⟩, h2⟩
theorem PW.slots {W W' : World} {b base : Nat} {v0 v1 : Value} {bvs : List Value} {S S' : List Slot} {vs : List Vol} {i bl : Nat} {v : Vol} {gb cb : Nat} {pl : Int} (h : PW W b base v0 v1 bvs S vs i bl v gb cb pl) (hs : OwnS W' base v0 S') (hg : W.grownBy W' v0.ownBlock) :
    PW W' b base v0 v1 bvs S' vs i bl v gb cb pl := ⟨h.blk.grown hg (own_blk_ne h.s h.blk (by decide)), hs, h.vv.otherS h.s hg, h.hb⟩
theorem PW.bel {W W' : World} {b base : Nat} {v0 v1 : Value} {bvs : List Value} {S : List Slot} {vs : List Vol} {i bl : Nat} {v : Vol} {gb cb : Nat} {pl : Int} (h : PW W b base v0 v1 bvs S vs i bl v gb cb pl) (hb : Bel W W') : PW W' b base v0 v1 bvs S vs i bl v gb cb pl :=
  ⟨h.blk.bel hb, h.s.bel hb, h.vv.bel hb, h.hb⟩
theorem PW.pool {W : World} {b base : Nat} {v0 v1 : Value} {bvs : List Value} {S : List Slot} {vs : List Vol} {i bl : Nat} {v : Vol} {gb cb : Nat} {pl : Int} (h : PW W b base v0 v1 bvs S vs i bl v gb cb pl) : OwnP W base v0 v1 ⟨S, vs.set i ⟨v.name, v.blocks.set bl pl⟩⟩ bvs := ⟨h.s, h.vv⟩

theorem writeF_no {p : Pool} {name : ByteArray} {b : Int} {text : ByteArray} (h : hasBlk p.vols name b < 0 ∨ tOk text = false) : writeF p name b text = none := by
  unfold writeF
  rw [if_neg]
  rintro ⟨h1, h2⟩
  rcases h with h | h
  · omega
  · rw [h] at h2; cases h2
theorem writeF_free {p : Pool} {name : ByteArray} {b : Int} {text : ByteArray} {i : Nat} {v : Vol} {x : Int} (h : Wr p name b i v x) (ht : tOk text = true) (he : text = e0) :
    writeF p name b text = some ⟨backS p name b, p.vols.set i ⟨v.name, v.blocks.set b.toNat 0⟩⟩ := by
  unfold writeF
  rw [if_pos ⟨by rw [h.has]; omega, ht⟩, if_pos he, h.set, h.nm]
theorem writeF_put {p : Pool} {name : ByteArray} {b : Int} {text : ByteArray} {i : Nat} {v : Vol} {x : Int} (h : Wr p name b i v x) (ht : tOk text = true) (he : text ≠ e0) :
    writeF p name b text = if putAt (backS p name b) text = 0 then none else some ⟨putS (backS p name b) text, p.vols.set i ⟨v.name, v.blocks.set b.toNat (putAt (backS p name b) text)⟩⟩ := by
  unfold writeF
  rw [if_pos ⟨by rw [h.has]; omega, ht⟩, if_neg he, h.set, h.nm]
theorem back_no {p : Pool} {name : ByteArray} {b : Int} {i : Nat} {v : Vol} {x : Int} (h : Wr p name b i v x) (hx : ¬ 0 < x) : backS p name b = p.slots := by
  unfold backS
  rw [h.place]
  unfold dropAll
  rw [if_neg hx]
  rfl
theorem back_yes {p : Pool} {name : ByteArray} {b : Int} {i : Nat} {v : Vol} {m : Nat} (h : Wr p name b i v ((m : Int) + 1)) : backS p name b = dropS p.slots m := by
  unfold backS
  rw [h.place]
  unfold dropAll
  rw [if_pos (by omega), show ((m : Int) + 1 - 1).toNat = m by omega]
  rfl
theorem wr_slot {p : Pool} (hp : PoolP p) {name : ByteArray} {b : Int} {i : Nat} {v : Vol} {m : Nat} (h : Wr p name b i v ((m : Int) + 1)) : ∃ y, p.slots[m]? = some y ∧ 1 ≤ y.uses ∧ y.uses ≤ 99 := by
  have h8 := hp.blk h.vol h.blk
  obtain ⟨y, hy⟩ := hp.slot (show m < 8 by omega)
  have h1 := hp.uses m y hy
  have h2 := uses_mem (p := (m : Int) + 1) h.vol
  have h3 := cnt_pos (p := (m : Int) + 1) (List.mem_of_getElem? h.blk)
  exact ⟨y, hy, by omega, (hp.s.ok m y hy).2.2.1⟩
theorem back_uses {p : Pool} (hp : PoolP p) {name : ByteArray} {b : Int} {i : Nat} {v : Vol} {x : Int} (h : Wr p name b i v x) : (backS p name b).length = 8 ∧ ∀ y ∈ backS p name b, 0 ≤ y.uses ∧ y.uses ≤ 99 := by
  obtain ⟨h1, _⟩ := h.back hp
  refine ⟨h1.len, fun y hy => ?_⟩
  obtain ⟨m, hm⟩ := List.getElem?_of_mem hy
  exact ⟨(h1.ok m y hm).2.1, (h1.ok m y hm).2.2.1⟩
theorem putAt_bd {p : Pool} (hp : PoolP p) {name : ByteArray} {b : Int} {i : Nat} {v : Vol} {x : Int} (h : Wr p name b i v x) {t : ByteArray} (ht : t ≠ e0) : 0 ≤ putAt (backS p name b) t ∧ putAt (backS p name b) t ≤ 8 := by
  obtain ⟨h1, _⟩ := h.back hp
  obtain ⟨hq, _⟩ := putAt_cases h1 ht
  cases hq with
  | no h2 => omega
  | old m z h2 hz _ _ => have := ltQ hz; rw [h1.len] at this; omega
  | fresh m z h2 hz _ _ => have := ltQ hz; rw [h1.len] at this; omega

set_option maxHeartbeats 8000000 in
set_option maxRecDepth 10000 in
theorem writeClo_c {w : World} {A0 A1 : Option Addr} {c0 c1 bp bn bs bt : Nat} {p : Pool} {name : ByteArray} {blk : Int} {text : ByteArray} (h : PoolIn w A0 A1 c0 c1 p) (hs : SmallP p) (hB : Blk w bp #[.slice A0 p.slots.length c0, .slice A1 p.vols.length c1] 49) (hN : Blk w bn #[.string name] 9) (hZ : Blk w bs #[.int .i64 blk] 3) (hT : Blk w bt #[.string text] 9) (hnm : text.size ≤ 1048576) (hok : poolOk p = true)
    (W : World) (b base : Nat) (hW : Bel w W) (hb1 : w.heap.size ≤ base) (hb2 : base ≤ W.heap.size) (hpv : PV W b base p) :
    Calls Try.prog 105 #[.pointer (some ⟨b, 0, none⟩), .pointer (some ⟨bp, 0, none⟩), .pointer (some ⟨bn, 0, none⟩), .pointer (some ⟨bs, 0, none⟩), .pointer (some ⟨bt, 0, none⟩)] W (Changes (writeF p name blk text) b base W) := by
  have HS := Lib.hid hs
  have HP := Lib.hid h
  have HK := Lib.hid (poolOk_iff.1 hok)
  have HV := Lib.hid hpv
  have HW := Lib.hid hW
  have HB := Lib.hid hB
  have HN := Lib.hid hN
  have HZ := Lib.hid hZ
  have HT := Lib.hid hT
  have hnx : text.size ≤ maxLen := by unfold maxLen; omega
  have HNX := Lib.hid hnx
  have q0 := (HB.out.bel HW.out).cell 0
  have q1 := (HB.out.bel HW.out).cell 1
  have q2 := (HN.out.bel HW.out).cell 0
  have q3 := (HZ.out.bel HW.out).cell 0
  simp at q0 q1 q2 q3
  clear h hs hok hpv hW hB hN hZ hT hnx
  go_enter Try.func105, Try.ntmps105
  go_wp2_with fail
  refine (hasBlock_c (HP.out.bel HW.out) HS.out name blk).mono ?_
  rintro e w1 ⟨rfl, hb1'⟩
  have HW1 := Lib.hid (HW.out.tr hb1')
  have HB1 := Lib.hid hb1'
  clear q0 q1 q2 q3 hb1'
  by_cases hn : hasBlk p.vols name blk < 0
  · have HG := Lib.hid (show writeF p name blk text = none from writeF_no (.inl hn))
    go_wp2
    go_ret
    rw [HG.out]
    exact ⟨rfl, ⟨p, HV.out.bel HB1.out, fun q' h => by cases h⟩, HB1.out.mono hb2⟩
  · obtain ⟨i, v, x, hwr⟩ := hasBlk_wr (show 0 ≤ hasBlk p.vols name blk by omega)
    have q4 := (HT.out.bel HW1.out).cell 0
    simp at q4
    rw [hwr.has]
    have hin : ¬ ((i : Int) < 0) := by omega
    clear hn
    cases ht : tOk text with
    | false =>
      have HG := Lib.hid (show writeF p name blk text = none from writeF_no (.inr ht))
      go_wp2_with (go_at_call 99; refine (implTextOk_c text _ HNX.out).mono ?_; rintro e w' ⟨rfl, rfl⟩)
      go_ret
      rw [HG.out]
      exact ⟨rfl, ⟨p, HV.out.bel HB1.out, fun q' h => by cases h⟩, HB1.out.mono hb2⟩
    | true =>
      have hb0 := hwr.b0
      obtain ⟨bl, rfl⟩ : ∃ bl : Nat, blk = bl := ⟨blk.toNat, by omega⟩
      have hil := ltQ hwr.vol
      have hbl : bl < v.blocks.length := by have := ltQ hwr.blk; rwa [Int.toNat_natCast] at this
      have hvl : v.blocks.length ≤ 1048576 := HS.out.vols.blocks v (List.mem_of_getElem? hwr.vol)
      have hlv := HS.out.vols.len
      have hxb := HK.out.blk hwr.vol hwr.blk
      have HWR := Lib.hid hwr
      have HTK := Lib.hid ht
      go_wp2_with (go_at_call 99; refine (implTextOk_c text _ HNX.out).mono ?_; rintro e w' ⟨rfl, rfl⟩)
      obtain ⟨⟨v0, v1, bvs, hb, ho⟩, hlo⟩ := HV.out.bel HB1.out
      obtain ⟨gb, cb, hpw⟩ := PW.mk0 (bl := bl) (x := x) hb ho hwr.vol (by have := hwr.blk; rwa [Int.toNat_natCast] at this)
      clear hb ho hwr ht q4 hb0
      obtain ⟨gv, cv, rfl, u1, u2, u3⟩ := hpw.row hil
      obtain ⟨u4, u5, u6, u7, u8⟩ := hpw.cell hil hbl
      have u0 := hpw.blk.cell 1
      have u9 := (HZ.out.bel HW1.out).cell 0
      simp at u0 u9
      have HPW := Lib.hid (hpw.bel (Below.refl _ _).drew)
      clear hpw
      refine start_ (n := 11) (S := fun w' => w'.cell? ⟨b, 1, none⟩ = some (.slice (some ⟨gv, 0, none⟩) p.vols.length cv) ∧ w'.cell? ⟨gv, i * 2 + 1, none⟩ = some (.slice (some ⟨gb, 0, none⟩) v.blocks.length cb) ∧ w'.cell? ⟨bs, 0, none⟩ = some (.int .i64 (bl : Int))) (ds := []) #[false, false, false, false, false, false, false, false, false, false, false] (by kernel_rfl) rfl rfl ⟨u0, u1, u9⟩ (fun hHeld => ?_)
      refine pure_ (i := 0) (N := some 20) (v := ?_) (a' := ?_) #[true, false, false, false, false, false, false, false, false, false, false] rfl rfl (by kernel_rfl) (fun _ _ _ h => h) (Or.inl ⟨by rfl, ?_⟩) ?_ ?_
      rotate_left
      · intro w'
        go_simp
        with_reducible rfl
      rotate_left
      · simp only [Act.put, List.setIfInBounds_toArray, List.set_cons_zero, List.set_cons_succ, i64_w, i32_w]
        rfl
      refine pure_ (i := 1) (N := some 21) (v := ?_) (a' := ?_) #[true, true, false, false, false, false, false, false, false, false, false] rfl rfl (by kernel_rfl) (fun _ _ _ h => h) (Or.inl ⟨by rfl, ?_⟩) ?_ ?_
      rotate_left
      · intro w'
        go_simp
        with_reducible rfl
      rotate_left
      · simp only [Act.put, List.setIfInBounds_toArray, List.set_cons_zero, List.set_cons_succ, i64_w, i32_w]
        rfl
      refine pure_ (i := 2) (N := some 22) (v := ?_) (a' := ?_) #[true, true, true, false, false, false, false, false, false, false, false] rfl rfl (by kernel_rfl) (fun _ _ _ h => h) (Or.inl ⟨by rfl, ?_⟩) ?_ ?_
      rotate_left
      · intro w'
        go_simp
        with_reducible rfl
      rotate_left
      · simp only [Act.put, List.setIfInBounds_toArray, List.set_cons_zero, List.set_cons_succ, i64_w, i32_w]
        rfl
      refine pure_ (i := 4) (N := some 24) (v := ?_) (a' := ?_) #[true, true, true, false, true, false, false, false, false, false, false] rfl rfl (by kernel_rfl) (fun _ _ _ h => h) (Or.inl ⟨by rfl, ?_⟩) ?_ ?_
      rotate_left
      · intro w'
        go_simp
        with_reducible rfl
      rotate_left
      · simp only [Act.put, List.setIfInBounds_toArray, List.set_cons_zero, List.set_cons_succ, i64_w, i32_w]
        rfl
      refine take_ (i := 3) (N := some 23) (v := ?_) (a' := ?_) #[true, true, true, true, true, false, false, false, false, false, false] rfl rfl (by kernel_rfl) (fun _ _ _ h => h) (Or.inl ⟨by rfl, ?_⟩) hHeld ?_ ?_
      rotate_left
      · rintro w' ⟨s0, s1, s2⟩
        go_simp
        with_reducible rfl
      rotate_left
      · simp only [Act.put, List.setIfInBounds_toArray, List.set_cons_zero, List.set_cons_succ, i64_w, i32_w]
        rfl
      refine pure_ (i := 5) (N := some 25) (v := ?_) (a' := ?_) #[true, true, true, true, true, true, false, false, false, false, false] rfl rfl (by kernel_rfl) (fun _ _ _ h => h) (Or.inl ⟨by rfl, ?_⟩) ?_ ?_
      rotate_left
      · intro w'
        go_simp
        with_reducible rfl
      rotate_left
      · simp only [Act.put, List.setIfInBounds_toArray, List.set_cons_zero, List.set_cons_succ, i64_w, i32_w]
        rfl
      refine pure_ (i := 6) (N := some 26) (v := ?_) (a' := ?_) #[true, true, true, true, true, true, true, false, false, false, false] rfl rfl (by kernel_rfl) (fun _ _ _ h => h) (Or.inl ⟨by rfl, ?_⟩) ?_ ?_
      rotate_left
      · intro w'
        go_simp
        with_reducible rfl
      rotate_left
      · simp only [Act.put, List.setIfInBounds_toArray, List.set_cons_zero, List.set_cons_succ, i64_w, i32_w]
        rfl
      refine take_ (i := 7) (N := some 27) (v := ?_) (a' := ?_) #[true, true, true, true, true, true, true, true, false, false, false] rfl rfl (by kernel_rfl) (fun _ _ _ h => h) (Or.inl ⟨by rfl, ?_⟩) hHeld ?_ ?_
      rotate_left
      · rintro w' ⟨s0, s1, s2⟩
        go_simp
        with_reducible rfl
      rotate_left
      · simp only [Act.put, List.setIfInBounds_toArray, List.set_cons_zero, List.set_cons_succ, i64_w, i32_w]
        rfl
      refine take_ (i := 8) (N := some 28) (v := ?_) (a' := ?_) #[true, true, true, true, true, true, true, true, true, false, false] rfl rfl (by kernel_rfl) (fun _ _ _ h => h) (Or.inl ⟨by rfl, ?_⟩) hHeld ?_ ?_
      rotate_left
      · rintro w' ⟨s0, s1, s2⟩
        go_simp
        with_reducible rfl
      rotate_left
      · simp only [Act.put, List.setIfInBounds_toArray, List.set_cons_zero, List.set_cons_succ, i64_w, i32_w]
        rfl
      refine pure_ (i := 9) (N := some 29) (v := ?_) (a' := ?_) #[true, true, true, true, true, true, true, true, true, true, false] rfl rfl (by kernel_rfl) (fun _ _ _ h => h) (Or.inl ⟨by rfl, ?_⟩) ?_ ?_
      rotate_left
      · intro w'
        go_simp
        with_reducible rfl
      rotate_left
      · simp only [Act.put, List.setIfInBounds_toArray, List.set_cons_zero, List.set_cons_succ, i64_w, i32_w]
        rfl
      refine pure_ (i := 10) (N := some 8) (v := ?_) (a' := ?_) #[true, true, true, true, true, true, true, true, true, true, true] rfl rfl (by kernel_rfl) (fun _ _ _ h => h) (Or.inl ⟨by rfl, ?_⟩) ?_ ?_
      rotate_left
      · intro w'
        go_simp
        with_reducible rfl
      rotate_left
      · simp only [Act.put, List.setIfInBounds_toArray, List.set_cons_zero, List.set_cons_succ, i64_w, i32_w]
        rfl
      refine done_ (by kernel_rfl) ?_
      clear hHeld u0 u1 u2 u3 u4 u5 u6 u7 u8 u9
      have HBEL := Lib.hid (show Below base w1 w1.drew from (Below.refl _ _).drew)
      have hbs : base ≤ w1.drew.heap.size := by have h5 : w1.drew.heap.size = w1.heap.size := rfl; have := HB1.out.size; omega
      generalize w1.drew = W2 at HPW HBEL hbs ⊢
      obtain ⟨A6, c6, rfl, hc6, hC6⟩ := HPW.out.s.reads
      clear hC6
      by_cases h0 : 0 < x
      · obtain ⟨m, rfl⟩ : ∃ m : Nat, x = (m : Int) + 1 := ⟨(x - 1).toNat, by omega⟩
        have HBK := Lib.hid (back_yes HWR.out)
        obtain ⟨y, hy, hy1, hy2⟩ := wr_slot HK.out HWR.out
        obtain ⟨u4, u5, u6, u7, u8⟩ := HPW.out.cell hil hbl
        have u0 := HPW.out.blk.cell 0
        simp at u0
        have HY := Lib.hid hy
        have HS6 := Lib.hid (show OwnS W2.drew base (.slice A6 p.slots.length c6) p.slots from HPW.out.s.bel (Below.refl _ _).drew)
        have hsl : p.slots.length ≤ 1048576 := HS.out.slots.len
        clear hy
        go_wp2
        refine start_ (n := 8) (S := fun w' => w'.cell? ⟨b, 0, none⟩ = some (.slice A6 p.slots.length c6) ∧ w'.cell? ⟨gb, bl, none⟩ = some (.int .i64 ((m : Int) + 1))) (ds := []) #[false, false, false, false, false, false, false, false] (by kernel_rfl) rfl rfl ⟨u0, u4⟩ (fun hHeld => ?_)
        refine pure_ (i := 0) (N := some 34) (v := ?_) (a' := ?_) #[true, false, false, false, false, false, false, false] rfl rfl (by kernel_rfl) (fun _ _ _ h => h) (Or.inl ⟨by rfl, ?_⟩) ?_ ?_
        rotate_left
        · intro w'
          go_simp
          with_reducible rfl
        rotate_left
        · simp only [Act.put, List.setIfInBounds_toArray, List.set_cons_zero, List.set_cons_succ, i64_w, i32_w]
          rfl
        refine pure_ (i := 1) (N := some 35) (v := ?_) (a' := ?_) #[true, true, false, false, false, false, false, false] rfl rfl (by kernel_rfl) (fun _ _ _ h => h) (Or.inl ⟨by rfl, ?_⟩) ?_ ?_
        rotate_left
        · intro w'
          go_simp
          with_reducible rfl
        rotate_left
        · simp only [Act.put, List.setIfInBounds_toArray, List.set_cons_zero, List.set_cons_succ, i64_w, i32_w]
          rfl
        refine pure_ (i := 2) (N := some 36) (v := ?_) (a' := ?_) #[true, true, true, false, false, false, false, false] rfl rfl (by kernel_rfl) (fun _ _ _ h => h) (Or.inl ⟨by rfl, ?_⟩) ?_ ?_
        rotate_left
        · intro w'
          go_simp
          with_reducible rfl
        rotate_left
        · simp only [Act.put, List.setIfInBounds_toArray, List.set_cons_zero, List.set_cons_succ, i64_w, i32_w]
          rfl
        refine pure_ (i := 4) (N := some 38) (v := ?_) (a' := ?_) #[true, true, true, false, true, false, false, false] rfl rfl (by kernel_rfl) (fun _ _ _ h => h) (Or.inl ⟨by rfl, ?_⟩) ?_ ?_
        rotate_left
        · intro w'
          go_simp
          with_reducible rfl
        rotate_left
        · simp only [Act.put, List.setIfInBounds_toArray, List.set_cons_zero, List.set_cons_succ, i64_w, i32_w]
          rfl
        refine pure_ (i := 5) (N := some 39) (v := ?_) (a' := ?_) #[true, true, true, false, true, true, false, false] rfl rfl (by kernel_rfl) (fun _ _ _ h => h) (Or.inl ⟨by rfl, ?_⟩) ?_ ?_
        rotate_left
        · intro w'
          go_simp
          with_reducible rfl
        rotate_left
        · simp only [Act.put, List.setIfInBounds_toArray, List.set_cons_zero, List.set_cons_succ, i64_w, i32_w]
          rfl
        refine take_ (i := 3) (N := some 37) (v := ?_) (a' := ?_) #[true, true, true, true, true, true, false, false] rfl rfl (by kernel_rfl) (fun _ _ _ h => h) (Or.inl ⟨by rfl, ?_⟩) hHeld ?_ ?_
        rotate_left
        · rintro w' ⟨s0, s1⟩
          go_simp
          with_reducible rfl
        rotate_left
        · simp only [Act.put, List.setIfInBounds_toArray, List.set_cons_zero, List.set_cons_succ, i64_w, i32_w]
          rfl
        refine take_ (i := 6) (N := some 40) (v := ?_) (a' := ?_) #[true, true, true, true, true, true, true, false] rfl rfl (by kernel_rfl) (fun _ _ _ h => h) (Or.inl ⟨by rfl, ?_⟩) hHeld ?_ ?_
        rotate_left
        · rintro w' ⟨s0, s1⟩
          go_simp
          with_reducible rfl
        rotate_left
        · simp only [Act.put, List.setIfInBounds_toArray, List.set_cons_zero, List.set_cons_succ, i64_w, i32_w]
          rfl
        refine one_ (i := 7) (N := some 41) #[true, true, true, true, true, true, true, true] rfl rfl (by kernel_rfl) (by decide) (fun K hK => ?_)
        refine goes_ Try.func107 (by kernel_rfl) rfl #[.slice A6 p.slots.length c6, .int .i64 ((m : Int) + 1)] (by rfl) rfl rfl (by simp only [List.map_toArray, List.map_cons, List.map_nil]; rfl) ?_
        with_reducible refine (drop_c HS6.out HY.out hsl hy1 hy2).mono ?_
        rintro e w3 ⟨rfl, ho3, hg3⟩
        have HPC := Lib.hid ((HPW.out.bel (Below.refl _ _).drew).slots ho3 hg3)
        have HBELC := Lib.hid ((HBEL.out.drew).grown hg3 (show base ≤ W2.drew.heap.size by have h5 : W2.drew.heap.size = W2.heap.size := rfl; omega) (own_base HS6.out))
        obtain ⟨s4, s5, s6, s7, s8⟩ := HPC.out.cell hil hbl
        have s0 := HPC.out.blk.cell 0
        simp at s0
        clear ho3 hg3
        refine ⟨_, rfl, ?_⟩
        refine hK.out _ _ ⟨s0, s4⟩ (fun hHeld => ?_)
        clear hK K
        refine norm_ (a' := ?_) ?_ ?_
        rotate_left
        · show Act.put _ (some 41) _ = _
          simp only [Act.put, List.setIfInBounds_toArray, List.set_cons_zero, List.set_cons_succ, i64_w, i32_w]
          rfl
        refine done_ (by kernel_rfl) ?_
        clear hHeld s0 s4 s5 s6 s7 s8 u0 u4 u5 u6 u7 u8
        have hbs3 : base ≤ w3.heap.size := by have := HBELC.out.size; have := HB1.out.size; omega
        clear hbs
        have hbs := hbs3
        obtain ⟨t4, t5, t6, t7, t8⟩ := HPC.out.cell hil hbl
        have hput := HPC.out.put hil hbl 0
        have hbel7 := HBELC.out.setCell (p := ⟨gb, bl, none⟩) t7 (.int .i64 0)
        have hbt := HT.out.lt
        have hT7 := (HT.out.bel (HW1.out.trans (hbel7.mono hb1))).cell 0
        simp at hT7
        have HPUT := Lib.hid hput.1
        have HBEL7 := Lib.hid hbel7
        clear hput hbel7
        by_cases he : text = e0
        · have HG := Lib.hid (show writeF p name bl text = some ⟨(dropS p.slots m), p.vols.set i ⟨v.name, v.blocks.set bl 0⟩⟩ by rw [writeF_free HWR.out HTK.out he, HBK.out, Int.toNat_natCast])
          have hz := toList_nil.2 he
          clear he
          go_wp2
          go_ret
          rw [HG.out]
          exact ⟨by first | rfl | simp, ⟨_, ⟨⟨_, _, _, HPUT.out.blk, HPUT.out.pool⟩, hlo⟩, fun q' h => (Option.some.inj h)⟩, (HB1.out.mono hb2).trans HBEL7.out⟩
        · have hz : ¬ text.toList = [] := fun h => he (toList_nil.1 h)
          have hz2 : text.toList.isEmpty = false := by simpa using hz
          have HE := Lib.hid he
          clear he
          go_wp2
          generalize w3.setCell ⟨gb, bl, none⟩ (.int .i64 0) = W7 at HPUT HBEL7 hT7 ⊢
          clear t4 t5 t6
          obtain ⟨t4, t5, t6, -, -⟩ := HPUT.out.cell hil hbl
          have t0 := HPUT.out.blk.cell 0
          simp at t0
          have hbu := back_uses HK.out HWR.out
          rw [HBK.out] at hbu
          have hbd := putAt_bd HK.out HWR.out HE.out
          rw [HBK.out] at hbd
          have HS7 := Lib.hid (show OwnS W7.drew base (.slice A6 p.slots.length c6) (dropS p.slots m) from HPUT.out.s.bel (Below.refl _ _).drew)
          have HBU := Lib.hid hbu
          clear hbu
          refine start_ (n := 9) (S := fun w' => w'.cell? ⟨b, 0, none⟩ = some (.slice A6 p.slots.length c6) ∧ w'.cell? ⟨bt, 0, none⟩ = some (.string text)) (ds := [8]) #[false, false, false, false, false, false, false, false, false] (by kernel_rfl) rfl rfl ⟨t0, hT7⟩ (fun hHeld => ?_)
          refine pure_ (i := 0) (N := some 46) (v := ?_) (a' := ?_) #[true, false, false, false, false, false, false, false, false] rfl rfl (by kernel_rfl) (fun _ _ _ h => h) (Or.inl ⟨by rfl, ?_⟩) ?_ ?_
          rotate_left
          · intro w'
            go_simp
            with_reducible rfl
          rotate_left
          · simp only [Act.put, List.setIfInBounds_toArray, List.set_cons_zero, List.set_cons_succ, i64_w, i32_w]
            rfl
          refine pure_ (i := 1) (N := some 47) (v := ?_) (a' := ?_) #[true, true, false, false, false, false, false, false, false] rfl rfl (by kernel_rfl) (fun _ _ _ h => h) (Or.inl ⟨by rfl, ?_⟩) ?_ ?_
          rotate_left
          · intro w'
            go_simp
            with_reducible rfl
          rotate_left
          · simp only [Act.put, List.setIfInBounds_toArray, List.set_cons_zero, List.set_cons_succ, i64_w, i32_w]
            rfl
          refine pure_ (i := 2) (N := some 48) (v := ?_) (a' := ?_) #[true, true, true, false, false, false, false, false, false] rfl rfl (by kernel_rfl) (fun _ _ _ h => h) (Or.inl ⟨by rfl, ?_⟩) ?_ ?_
          rotate_left
          · intro w'
            go_simp
            with_reducible rfl
          rotate_left
          · simp only [Act.put, List.setIfInBounds_toArray, List.set_cons_zero, List.set_cons_succ, i64_w, i32_w]
            rfl
          refine pure_ (i := 3) (N := some 49) (v := ?_) (a' := ?_) #[true, true, true, true, false, false, false, false, false] rfl rfl (by kernel_rfl) (fun _ _ _ h => h) (Or.inl ⟨by rfl, ?_⟩) ?_ ?_
          rotate_left
          · intro w'
            go_simp
            with_reducible rfl
          rotate_left
          · simp only [Act.put, List.setIfInBounds_toArray, List.set_cons_zero, List.set_cons_succ, i64_w, i32_w]
            rfl
          refine take_ (i := 4) (N := some 50) (v := ?_) (a' := ?_) #[true, true, true, true, true, false, false, false, false] rfl rfl (by kernel_rfl) (fun _ _ _ h => h) (Or.inl ⟨by rfl, ?_⟩) hHeld ?_ ?_
          rotate_left
          · rintro w' ⟨s0, s1⟩
            go_simp
            with_reducible rfl
          rotate_left
          · simp only [Act.put, List.setIfInBounds_toArray, List.set_cons_zero, List.set_cons_succ, i64_w, i32_w]
            rfl
          refine take_ (i := 5) (N := some 51) (v := ?_) (a' := ?_) #[true, true, true, true, true, true, false, false, false] rfl rfl (by kernel_rfl) (fun _ _ _ h => h) (Or.inl ⟨by rfl, ?_⟩) hHeld ?_ ?_
          rotate_left
          · rintro w' ⟨s0, s1⟩
            go_simp
            with_reducible rfl
          rotate_left
          · simp only [Act.put, List.setIfInBounds_toArray, List.set_cons_zero, List.set_cons_succ, i64_w, i32_w]
            rfl
          refine one_ (i := 6) (N := some 52) #[true, true, true, true, true, true, true, false, false] rfl rfl (by kernel_rfl) (by decide) (fun K hK => ?_)
          refine goes_ Try.func108 (by kernel_rfl) rfl #[.slice A6 p.slots.length c6, .string text] (by rfl) rfl rfl (by simp only [List.map_toArray, List.map_cons, List.map_nil]; rfl) ?_
          with_reducible refine (put_c HS7.out HBU.out.1 HBU.out.2 text HTK.out).mono ?_
          rintro e w8 ⟨rfl, ho8, hg8⟩
          have HP8 := Lib.hid ((HPUT.out.bel (Below.refl _ _).drew).slots ho8 hg8)
          have HBEL8 := Lib.hid ((HBEL7.out.drew).grown hg8 (show base ≤ W7.drew.heap.size by have h5 : W7.drew.heap.size = W7.heap.size := rfl; omega) (own_base HS7.out))
          obtain ⟨s4, s5, s6, s7, s8⟩ := HP8.out.cell hil hbl
          have s0 := HP8.out.blk.cell 0
          have s1 := (HT.out.bel (HW1.out.trans (HBEL8.out.mono hb1))).cell 0
          simp at s0 s1
          clear ho8 hg8
          refine ⟨_, rfl, ?_⟩
          refine hK.out _ _ ⟨s0, s1⟩ (fun hHeld => ?_)
          clear hK K
          refine norm_ (a' := ?_) ?_ ?_
          rotate_left
          · show Act.put _ (some 52) _ = _
            simp only [Act.put, List.setIfInBounds_toArray, List.set_cons_zero, List.set_cons_succ, i64_w, i32_w]
            rfl
          refine pure_ (i := 7) (N := some 53) (v := ?_) (a' := ?_) #[true, true, true, true, true, true, true, true, false] rfl rfl (by kernel_rfl) (fun _ _ _ h => h) (Or.inl ⟨by rfl, ?_⟩) ?_ ?_
          rotate_left
          · intro w'
            go_simp
            with_reducible rfl
          rotate_left
          · simp only [Act.put, List.setIfInBounds_toArray, List.set_cons_zero, List.set_cons_succ, i64_w, i32_w]
            rfl
          refine last_ (i := 8) (N := none) #[true, true, true, true, true, true, true, true, true] rfl rfl (by kernel_rfl) (by decide) (fun K hK => ?_)
          refine skip_ (w1 := ?_) (by rfl) rfl ?_ ?_
          rotate_left
          · go_simp
            rfl
          refine hK.out _ _ ?_
          clear hK K
          refine done_ (by kernel_rfl) ?_
          clear hHeld t4 t5 t6 t0 hT7
          have hT9 := (HT.out.bel (HW1.out.trans ((HBEL8.out.setCell (p := ⟨gb, bl, none⟩) t7 (.int .i64 (putAt (dropS p.slots m) text))).mono hb1))).cell 0
          simp at hT9
          have HPUT9 := Lib.hid (HP8.out.put hil hbl (putAt (dropS p.slots m) text)).1
          have HBEL9 := Lib.hid (HBEL8.out.setCell (p := ⟨gb, bl, none⟩) t7 (.int .i64 (putAt (dropS p.slots m) text)))
          by_cases h99 : putAt (dropS p.slots m) text = 0
          · have HG := Lib.hid (show writeF p name bl text = none by rw [writeF_put HWR.out HTK.out HE.out, HBK.out, if_pos h99])
            have hn0 : ¬ 0 < putAt (dropS p.slots m) text := by omega
            clear h99
            go_wp2
            go_ret
            rw [HG.out]
            exact ⟨by first | rfl | (simp [hz]; done) | (simp; exact hz), ⟨_, ⟨⟨_, _, _, HPUT9.out.blk, HPUT9.out.pool⟩, hlo⟩, fun q' h => by cases h⟩, (HB1.out.mono hb2).trans HBEL9.out⟩
          · have HG := Lib.hid (show writeF p name bl text = some ⟨putS (dropS p.slots m) text, p.vols.set i ⟨v.name, v.blocks.set bl (putAt (dropS p.slots m) text)⟩⟩ by rw [writeF_put HWR.out HTK.out HE.out, HBK.out, if_neg h99, Int.toNat_natCast])
            have hn0 : 0 < putAt (dropS p.slots m) text := by omega
            clear h99
            go_wp2
            go_ret
            rw [HG.out]
            exact ⟨by first | rfl | (simp [hz]; done) | (simp; exact hz), ⟨_, ⟨⟨_, _, _, HPUT9.out.blk, HPUT9.out.pool⟩, hlo⟩, fun q' h => (Option.some.inj h)⟩, (HB1.out.mono hb2).trans HBEL9.out⟩
      · have HBK := Lib.hid (back_no HWR.out h0)
        have HPC := HPW
        have HBELC := HBEL
        obtain ⟨t4, t5, t6, t7, t8⟩ := HPC.out.cell hil hbl
        have hput := HPC.out.put hil hbl 0
        have hbel7 := HBELC.out.setCell (p := ⟨gb, bl, none⟩) t7 (.int .i64 0)
        have hbt := HT.out.lt
        have hT7 := (HT.out.bel (HW1.out.trans (hbel7.mono hb1))).cell 0
        simp at hT7
        have HPUT := Lib.hid hput.1
        have HBEL7 := Lib.hid hbel7
        clear hput hbel7
        by_cases he : text = e0
        · have HG := Lib.hid (show writeF p name bl text = some ⟨p.slots, p.vols.set i ⟨v.name, v.blocks.set bl 0⟩⟩ by rw [writeF_free HWR.out HTK.out he, HBK.out, Int.toNat_natCast])
          have hz := toList_nil.2 he
          clear he
          go_wp2
          go_ret
          rw [HG.out]
          exact ⟨by first | rfl | simp, ⟨_, ⟨⟨_, _, _, HPUT.out.blk, HPUT.out.pool⟩, hlo⟩, fun q' h => (Option.some.inj h)⟩, (HB1.out.mono hb2).trans HBEL7.out⟩
        · have hz : ¬ text.toList = [] := fun h => he (toList_nil.1 h)
          have hz2 : text.toList.isEmpty = false := by simpa using hz
          have HE := Lib.hid he
          clear he
          go_wp2
          generalize W2.setCell ⟨gb, bl, none⟩ (.int .i64 0) = W7 at HPUT HBEL7 hT7 ⊢
          clear t4 t5 t6
          obtain ⟨t4, t5, t6, -, -⟩ := HPUT.out.cell hil hbl
          have t0 := HPUT.out.blk.cell 0
          simp at t0
          have hbu := back_uses HK.out HWR.out
          rw [HBK.out] at hbu
          have hbd := putAt_bd HK.out HWR.out HE.out
          rw [HBK.out] at hbd
          have HS7 := Lib.hid (show OwnS W7.drew base (.slice A6 p.slots.length c6) p.slots from HPUT.out.s.bel (Below.refl _ _).drew)
          have HBU := Lib.hid hbu
          clear hbu
          refine start_ (n := 9) (S := fun w' => w'.cell? ⟨b, 0, none⟩ = some (.slice A6 p.slots.length c6) ∧ w'.cell? ⟨bt, 0, none⟩ = some (.string text)) (ds := [8]) #[false, false, false, false, false, false, false, false, false] (by kernel_rfl) rfl rfl ⟨t0, hT7⟩ (fun hHeld => ?_)
          refine pure_ (i := 0) (N := some 46) (v := ?_) (a' := ?_) #[true, false, false, false, false, false, false, false, false] rfl rfl (by kernel_rfl) (fun _ _ _ h => h) (Or.inl ⟨by rfl, ?_⟩) ?_ ?_
          rotate_left
          · intro w'
            go_simp
            with_reducible rfl
          rotate_left
          · simp only [Act.put, List.setIfInBounds_toArray, List.set_cons_zero, List.set_cons_succ, i64_w, i32_w]
            rfl
          refine pure_ (i := 1) (N := some 47) (v := ?_) (a' := ?_) #[true, true, false, false, false, false, false, false, false] rfl rfl (by kernel_rfl) (fun _ _ _ h => h) (Or.inl ⟨by rfl, ?_⟩) ?_ ?_
          rotate_left
          · intro w'
            go_simp
            with_reducible rfl
          rotate_left
          · simp only [Act.put, List.setIfInBounds_toArray, List.set_cons_zero, List.set_cons_succ, i64_w, i32_w]
            rfl
          refine pure_ (i := 2) (N := some 48) (v := ?_) (a' := ?_) #[true, true, true, false, false, false, false, false, false] rfl rfl (by kernel_rfl) (fun _ _ _ h => h) (Or.inl ⟨by rfl, ?_⟩) ?_ ?_
          rotate_left
          · intro w'
            go_simp
            with_reducible rfl
          rotate_left
          · simp only [Act.put, List.setIfInBounds_toArray, List.set_cons_zero, List.set_cons_succ, i64_w, i32_w]
            rfl
          refine pure_ (i := 3) (N := some 49) (v := ?_) (a' := ?_) #[true, true, true, true, false, false, false, false, false] rfl rfl (by kernel_rfl) (fun _ _ _ h => h) (Or.inl ⟨by rfl, ?_⟩) ?_ ?_
          rotate_left
          · intro w'
            go_simp
            with_reducible rfl
          rotate_left
          · simp only [Act.put, List.setIfInBounds_toArray, List.set_cons_zero, List.set_cons_succ, i64_w, i32_w]
            rfl
          refine take_ (i := 4) (N := some 50) (v := ?_) (a' := ?_) #[true, true, true, true, true, false, false, false, false] rfl rfl (by kernel_rfl) (fun _ _ _ h => h) (Or.inl ⟨by rfl, ?_⟩) hHeld ?_ ?_
          rotate_left
          · rintro w' ⟨s0, s1⟩
            go_simp
            with_reducible rfl
          rotate_left
          · simp only [Act.put, List.setIfInBounds_toArray, List.set_cons_zero, List.set_cons_succ, i64_w, i32_w]
            rfl
          refine take_ (i := 5) (N := some 51) (v := ?_) (a' := ?_) #[true, true, true, true, true, true, false, false, false] rfl rfl (by kernel_rfl) (fun _ _ _ h => h) (Or.inl ⟨by rfl, ?_⟩) hHeld ?_ ?_
          rotate_left
          · rintro w' ⟨s0, s1⟩
            go_simp
            with_reducible rfl
          rotate_left
          · simp only [Act.put, List.setIfInBounds_toArray, List.set_cons_zero, List.set_cons_succ, i64_w, i32_w]
            rfl
          refine one_ (i := 6) (N := some 52) #[true, true, true, true, true, true, true, false, false] rfl rfl (by kernel_rfl) (by decide) (fun K hK => ?_)
          refine goes_ Try.func108 (by kernel_rfl) rfl #[.slice A6 p.slots.length c6, .string text] (by rfl) rfl rfl (by simp only [List.map_toArray, List.map_cons, List.map_nil]; rfl) ?_
          with_reducible refine (put_c HS7.out HBU.out.1 HBU.out.2 text HTK.out).mono ?_
          rintro e w8 ⟨rfl, ho8, hg8⟩
          have HP8 := Lib.hid ((HPUT.out.bel (Below.refl _ _).drew).slots ho8 hg8)
          have HBEL8 := Lib.hid ((HBEL7.out.drew).grown hg8 (show base ≤ W7.drew.heap.size by have h5 : W7.drew.heap.size = W7.heap.size := rfl; omega) (own_base HS7.out))
          obtain ⟨s4, s5, s6, s7, s8⟩ := HP8.out.cell hil hbl
          have s0 := HP8.out.blk.cell 0
          have s1 := (HT.out.bel (HW1.out.trans (HBEL8.out.mono hb1))).cell 0
          simp at s0 s1
          clear ho8 hg8
          refine ⟨_, rfl, ?_⟩
          refine hK.out _ _ ⟨s0, s1⟩ (fun hHeld => ?_)
          clear hK K
          refine norm_ (a' := ?_) ?_ ?_
          rotate_left
          · show Act.put _ (some 52) _ = _
            simp only [Act.put, List.setIfInBounds_toArray, List.set_cons_zero, List.set_cons_succ, i64_w, i32_w]
            rfl
          refine pure_ (i := 7) (N := some 53) (v := ?_) (a' := ?_) #[true, true, true, true, true, true, true, true, false] rfl rfl (by kernel_rfl) (fun _ _ _ h => h) (Or.inl ⟨by rfl, ?_⟩) ?_ ?_
          rotate_left
          · intro w'
            go_simp
            with_reducible rfl
          rotate_left
          · simp only [Act.put, List.setIfInBounds_toArray, List.set_cons_zero, List.set_cons_succ, i64_w, i32_w]
            rfl
          refine last_ (i := 8) (N := none) #[true, true, true, true, true, true, true, true, true] rfl rfl (by kernel_rfl) (by decide) (fun K hK => ?_)
          refine skip_ (w1 := ?_) (by rfl) rfl ?_ ?_
          rotate_left
          · go_simp
            rfl
          refine hK.out _ _ ?_
          clear hK K
          refine done_ (by kernel_rfl) ?_
          clear hHeld t4 t5 t6 t0 hT7
          have hT9 := (HT.out.bel (HW1.out.trans ((HBEL8.out.setCell (p := ⟨gb, bl, none⟩) t7 (.int .i64 (putAt p.slots text))).mono hb1))).cell 0
          simp at hT9
          have HPUT9 := Lib.hid (HP8.out.put hil hbl (putAt p.slots text)).1
          have HBEL9 := Lib.hid (HBEL8.out.setCell (p := ⟨gb, bl, none⟩) t7 (.int .i64 (putAt p.slots text)))
          by_cases h99 : putAt p.slots text = 0
          · have HG := Lib.hid (show writeF p name bl text = none by rw [writeF_put HWR.out HTK.out HE.out, HBK.out, if_pos h99])
            have hn0 : ¬ 0 < putAt p.slots text := by omega
            clear h99
            go_wp2
            go_ret
            rw [HG.out]
            exact ⟨by first | rfl | (simp [hz]; done) | (simp; exact hz), ⟨_, ⟨⟨_, _, _, HPUT9.out.blk, HPUT9.out.pool⟩, hlo⟩, fun q' h => by cases h⟩, (HB1.out.mono hb2).trans HBEL9.out⟩
          · have HG := Lib.hid (show writeF p name bl text = some ⟨putS p.slots text, p.vols.set i ⟨v.name, v.blocks.set bl (putAt p.slots text)⟩⟩ by rw [writeF_put HWR.out HTK.out HE.out, HBK.out, if_neg h99, Int.toNat_natCast])
            have hn0 : 0 < putAt p.slots text := by omega
            clear h99
            go_wp2
            go_ret
            rw [HG.out]
            exact ⟨by first | rfl | (simp [hz]; done) | (simp; exact hz), ⟨_, ⟨⟨_, _, _, HPUT9.out.blk, HPUT9.out.pool⟩, hlo⟩, fun q' h => (Option.some.inj h)⟩, (HB1.out.mono hb2).trans HBEL9.out⟩
end Go.Proofs.Ytccllgpaafgjaaa
/- PoolWrite, as the reference does it: l11Write. -/

namespace Go.Proofs.Ytccllgpaafgjaaa
open Go.RowKit Go.Proofs.YtccllgpaafgjaaaW.PrintWords Go.Proofs.YtccllgpaafgjaaaW.PrintLast
set_option linter.unusedVariables false
set_option linter.unusedSimpArgs false

theorem PW.far {W : World} {b base : Nat} {v0 v1 : Value} {bvs : List Value} {S : List Slot} {vs : List Vol} {i bl : Nat} {v : Vol} {gb cb : Nat} {pl : Int} (h : PW W b base v0 v1 bvs S vs i bl v gb cb pl) {b2 : Nat} {cs : Array Value} (hB : Blk W b2 cs 49) (hne : b2 ≠ b) (j : Nat) (u : Value) :
    PW (W.setCell ⟨b2, j, none⟩ u) b base v0 v1 bvs S vs i bl v gb cb pl :=
  ⟨h.blk.apart hne j u, h.s.far hB (by decide) j u, h.vv.far hB (by decide) (by decide) j u, h.hb⟩
end Go.Proofs.Ytccllgpaafgjaaa
/- PoolWrite, as the program does it and as the reference does it. -/

namespace Go.Proofs.Ytccllgpaafgjaaa
open Go.RowKit Go.Proofs.YtccllgpaafgjaaaW.PrintWords Go.Proofs.YtccllgpaafgjaaaW.PrintLast
set_option linter.unusedVariables false
set_option linter.unusedSimpArgs false

set_option maxHeartbeats 4000000 in
set_option maxRecDepth 10000 in
theorem implPoolWrite_c {w : World} {A0 A1 : Option Addr} {c0 c1 : Nat} {p : Pool} {name : ByteArray} {blk : Int} {text : ByteArray} (h : PoolIn w A0 A1 c0 c1 p) (hs : SmallP p) (hnm : text.size ≤ 1048576) :
    Calls Try.prog 69 #[.agg #[.slice A0 p.slots.length c0, .slice A1 p.vols.length c1], .string name, .int .i64 blk, .string text] w (MadePB w (chP p (writeF p name blk text)) (chB p (writeF p name blk text))) := by
  have HS := Lib.hid hs
  have HP := Lib.hid h
  clear h hs
  go_enter Try.func69, Try.ntmps69
  go_wp2_with fail
  have hB : Blk (((((w.alloc (.cells #[.slice A0 p.slots.length c0, .slice A1 p.vols.length c1] 49)).alloc (.cells #[.string name] 9)).alloc (.cells #[.int .i64 blk] 3)).alloc (.cells #[.string text] 9)).alloc (.cells #[.slice none 0 0, .slice none 0 0] 49)) (w.heap.size) #[.slice A0 p.slots.length c0, .slice A1 p.vols.length c1] 49 := (((((Blk.new _ _ _)).alloc _).alloc _).alloc _).alloc _
  have hN0 : Blk (((((w.alloc (.cells #[.slice A0 p.slots.length c0, .slice A1 p.vols.length c1] 49)).alloc (.cells #[.string name] 9)).alloc (.cells #[.int .i64 blk] 3)).alloc (.cells #[.string text] 9)).alloc (.cells #[.slice none 0 0, .slice none 0 0] 49)) (w.heap.size + 1) #[.string name] 9 := ((((Blk.nw2 _ _ _ _)).alloc _).alloc _).alloc _
  have hN1 : Blk (((((w.alloc (.cells #[.slice A0 p.slots.length c0, .slice A1 p.vols.length c1] 49)).alloc (.cells #[.string name] 9)).alloc (.cells #[.int .i64 blk] 3)).alloc (.cells #[.string text] 9)).alloc (.cells #[.slice none 0 0, .slice none 0 0] 49)) (w.heap.size + 1 + 1) #[.int .i64 blk] 3 := (((Blk.nw3 _ _ _ _ _)).alloc _).alloc _
  have hN2 : Blk (((((w.alloc (.cells #[.slice A0 p.slots.length c0, .slice A1 p.vols.length c1] 49)).alloc (.cells #[.string name] 9)).alloc (.cells #[.int .i64 blk] 3)).alloc (.cells #[.string text] 9)).alloc (.cells #[.slice none 0 0, .slice none 0 0] 49)) (w.heap.size + 1 + 1 + 1) #[.string text] 9 := ((Blk.nw4 _ _ _ _ _ _)).alloc _
  have hR : Blk (((((w.alloc (.cells #[.slice A0 p.slots.length c0, .slice A1 p.vols.length c1] 49)).alloc (.cells #[.string name] 9)).alloc (.cells #[.int .i64 blk] 3)).alloc (.cells #[.string text] 9)).alloc (.cells #[.slice none 0 0, .slice none 0 0] 49)) (w.heap.size + 1 + 1 + 1 + 1) #[.slice none 0 0, .slice none 0 0] 49 := Blk.nw5 _ _ _ _ _ _ _
  have hW : Bel w (((((w.alloc (.cells #[.slice A0 p.slots.length c0, .slice A1 p.vols.length c1] 49)).alloc (.cells #[.string name] 9)).alloc (.cells #[.int .i64 blk] 3)).alloc (.cells #[.string text] 9)).alloc (.cells #[.slice none 0 0, .slice none 0 0] 49)) := bel_alloc (bel_alloc (bel_alloc (bel_alloc (bel_alloc (Below.refl _ _) _) _) _) _) _
  generalize (((((w.alloc (.cells #[.slice A0 p.slots.length c0, .slice A1 p.vols.length c1] 49)).alloc (.cells #[.string name] 9)).alloc (.cells #[.int .i64 blk] 3)).alloc (.cells #[.string text] 9)).alloc (.cells #[.slice none 0 0, .slice none 0 0] 49)) = W0 at hB hN0 hN1 hN2 hR hW ⊢
  have HB := Lib.hid hB
  have HN0 := Lib.hid hN0
  have HN1 := Lib.hid hN1
  have HN2 := Lib.hid hN2
  have HR := Lib.hid hR
  have HW := Lib.hid hW
  clear hB hN0 hN1 hN2 hR hW
  refine (changed_c (HP.out.bel HW.out) HS.out 105 #[.pointer (some ⟨w.heap.size, 0, none⟩), .pointer (some ⟨w.heap.size + 1, 0, none⟩), .pointer (some ⟨w.heap.size + 1 + 1, 0, none⟩), .pointer (some ⟨w.heap.size + 1 + 1 + 1, 0, none⟩)] (writeF p name blk text) (enters Try.func105 (by kernel_rfl) (by kernel_rfl))
    (fun hok W b base h1 h2 h3 h4 => writeClo_c (HP.out.bel HW.out) HS.out HB.out HN0.out HN1.out HN2.out hnm hok W b base h1 h2 h3 h4)).mono ?_
  rintro e w1 ⟨v0, v1, bvs, rfl, ho, hb1⟩
  obtain ⟨q, hq⟩ : ∃ q, chP p (writeF p name blk text) = q := ⟨_, rfl⟩
  obtain ⟨ok, hok⟩ : ∃ ok, chB p (writeF p name blk text) = ok := ⟨_, rfl⟩
  rw [hq] at ho
  rw [hok]
  have HQ := Lib.hid hq
  have HK := Lib.hid hok
  clear hq hok
  have HO := Lib.hid ho
  have HB1 := Lib.hid hb1
  have r0 := (HR.out.bel HB1.out).cell 0
  have r1 := (HR.out.bel HB1.out).cell 1
  have f0 := (HR.out.bel HB1.out).free 0
  have f1 := (HR.out.bel HB1.out).free 1
  simp at r0 r1
  clear ho hb1
  obtain ⟨A2, A3, c2, c3, rfl, rfl, hpi⟩ := HO.out.reads
  clear hpi
  go_wp2
  have hR2 := HR.out.bel HB1.out
  have hR3 := hR2.set 0 (.slice A2 q.slots.length c2) (cs' := #[.slice A2 q.slots.length c2, .slice none 0 0]) rfl
  have hR4 := hR3.set 1 (.slice A3 q.vols.length c3) (cs' := #[.slice A2 q.slots.length c2, .slice A3 q.vols.length c3]) rfl
  have hb5 := bel_set (bel_set (HW.out.tr HB1.out) (show w.heap.size ≤ w.heap.size + 1 + 1 + 1 + 1 by omega) 0 (.slice A2 q.slots.length c2)) (show w.heap.size ≤ w.heap.size + 1 + 1 + 1 + 1 by omega) 1 (.slice A3 q.vols.length c3)
  have hop4 := (HO.out.far hR2 (by decide) (by decide) (by decide) 0 (.slice A2 q.slots.length c2)).far hR3 (by decide) (by decide) (by decide) 1 (.slice A3 q.vols.length c3)
  refine bodyPost_ret (results_ct rfl _ _ (w.heap.size + 1 + 1 + 1 + 1) 49 #[.slice A2 q.slots.length c2, .slice A3 q.vols.length c3] (0, 0) _ rfl hR4 Try.underlying49 rfl (by kernel_rfl)) rfl ?_
  rw [HQ.out, HK.out]
  exact ⟨_, _, _, rfl, hop4.lower HW.out.size, hb5⟩
end Go.Proofs.Ytccllgpaafgjaaa
/- OpOk of the program. -/



namespace Go.Proofs.Ytccllgpaafgjaaa
open Go.RowKit Go.Proofs.YtccllgpaafgjaaaW.PrintWords
set_option linter.unusedVariables false
set_option linter.unusedSimpArgs false

set_option maxHeartbeats 4000000 in
theorem implOpOk_c (o : Op) (hs : SmallO o) (w : World) : Calls Try.prog 67 #[.agg #[.int .i64 o.kind, .string o.name, .string o.dest, .int .i64 o.n, .string o.text]] w (Ret (.bool (opOk o)) w) := by
  have ht := max_of hs.text
  obtain ⟨kd, nm, ds, n, tx⟩ := o
  simp only at ht
  have HT := Lib.hid ht
  clear ht hs
  by_cases h1 : kd = 1
  · subst h1
    cases h0 : isNm nm
    all_goals cases hx2 : inR n 1 6
    all_goals
      have HG := Lib.hid (show opOk ⟨1, nm, ds, n, tx⟩ = _ by unfold opOk opRest emp; simp only [if_true, h0, hx2]; rfl)
      go_enter Try.func67, Try.ntmps67
      go_wp2_with (first | (go_at_call 100; refine (isName_c _ _).mono ?_; rintro e w' ⟨rfl, rfl⟩) | (go_at_call 60; refine (within_c _ _ _ _).mono ?_; rintro e w' ⟨rfl, rfl⟩) | (go_at_call 99; refine (implTextOk_c tx _ HT.out).mono ?_; rintro e w' ⟨rfl, rfl⟩))
      all_goals
        go_ret
        exact ⟨ret_bool (by rw [HG.out]; simp_all), bel_alloc (bel_alloc (Below.refl _ _) _) _⟩
  by_cases h2 : kd = 2
  · subst h2
    cases h0 : isNm nm
    all_goals cases hx2 : inR n 0 5
    all_goals cases hx3 : tOk tx
    all_goals
      have HG := Lib.hid (show opOk ⟨2, nm, ds, n, tx⟩ = _ by unfold opOk opRest emp; simp only [show ¬ ((2 : Int) = 1) by decide, if_false, if_true, h0, hx2, hx3]; rfl)
      go_enter Try.func67, Try.ntmps67
      go_wp2
      go_region
      all_goals
        go_wp2_with (first | (go_at_call 100; refine (isName_c _ _).mono ?_; rintro e w' ⟨rfl, rfl⟩) | (go_at_call 60; refine (within_c _ _ _ _).mono ?_; rintro e w' ⟨rfl, rfl⟩) | (go_at_call 99; refine (implTextOk_c tx _ HT.out).mono ?_; rintro e w' ⟨rfl, rfl⟩))
        all_goals
          go_ret
          exact ⟨ret_bool (by rw [HG.out]; simp_all), (bel_alloc (bel_alloc (Below.refl _ _) _) _).drew⟩
  by_cases h3 : kd = 3
  · subst h3
    cases h0 : isNm nm
    all_goals cases hx1 : isNm ds
    all_goals
      have HG := Lib.hid (show opOk ⟨3, nm, ds, n, tx⟩ = _ by unfold opOk opRest emp; simp only [show ¬ ((3 : Int) = 1) by decide, show ¬ ((3 : Int) = 2) by decide, if_false, if_true, h0, hx1]; rfl)
      go_enter Try.func67, Try.ntmps67
      go_wp2_with (first | (go_at_call 100; refine (isName_c _ _).mono ?_; rintro e w' ⟨rfl, rfl⟩) | (go_at_call 60; refine (within_c _ _ _ _).mono ?_; rintro e w' ⟨rfl, rfl⟩) | (go_at_call 99; refine (implTextOk_c tx _ HT.out).mono ?_; rintro e w' ⟨rfl, rfl⟩))
      all_goals
        go_ret
        exact ⟨ret_bool (by rw [HG.out]; simp_all), bel_alloc (bel_alloc (Below.refl _ _) _) _⟩
  by_cases h4 : kd = 4
  · subst h4
    cases h0 : isNm nm
    all_goals
      have HG := Lib.hid (show opOk ⟨4, nm, ds, n, tx⟩ = _ by unfold opOk opRest emp; simp only [show ¬ ((4 : Int) = 1) by decide, show ¬ ((4 : Int) = 2) by decide, show ¬ ((4 : Int) = 3) by decide, if_false, if_true, h0]; rfl)
      go_enter Try.func67, Try.ntmps67
      go_wp2_with (first | (go_at_call 100; refine (isName_c _ _).mono ?_; rintro e w' ⟨rfl, rfl⟩) | (go_at_call 60; refine (within_c _ _ _ _).mono ?_; rintro e w' ⟨rfl, rfl⟩) | (go_at_call 99; refine (implTextOk_c tx _ HT.out).mono ?_; rintro e w' ⟨rfl, rfl⟩))
      all_goals
        go_ret
        exact ⟨ret_bool (by rw [HG.out]; simp_all), bel_alloc (bel_alloc (Below.refl _ _) _) _⟩
  have HG := Lib.hid (show opOk ⟨kd, nm, ds, n, tx⟩ = false by unfold opOk opRest; simp only [h1, h2, h3, h4, if_false, Bool.and_false])
  go_enter Try.func67, Try.ntmps67
  go_wp2_with (first | (go_at_call 100; refine (isName_c _ _).mono ?_; rintro e w' ⟨rfl, rfl⟩) | (go_at_call 60; refine (within_c _ _ _ _).mono ?_; rintro e w' ⟨rfl, rfl⟩) | (go_at_call 99; refine (implTextOk_c tx _ HT.out).mono ?_; rintro e w' ⟨rfl, rfl⟩))
  go_ret
  exact ⟨ret_bool HG.out.symm, bel_alloc (bel_alloc (Below.refl _ _) _) _⟩
end Go.Proofs.Ytccllgpaafgjaaa
/- markPool. -/

namespace Go.Proofs.Ytccllgpaafgjaaa
open Go.RowKit Go.Proofs.YtccllgpaafgjaaaW.PrintWords
set_option linter.unusedVariables false
set_option linter.unusedSimpArgs false

def InP (v0 v1 : Value) (bvs : List Value) (k : Nat) : Prop := v0.ownBlock = some k ∨ InV v1 bvs k
/-- What a marker of pools leaves. -/
def MarkedP (k : Int) (w : World) (base : Nat) (v0 v1 : Value) (p : Pool) (bvs : List Value) (e : Ending) (w' : World) : Prop :=
  e = .returned (.int .i64 (nxP k p)) ∧ (∃ p', p'.slots.length = p.slots.length ∧ p'.vols.map (fun x => x.blocks.length) = p.vols.map (fun x => x.blocks.length) ∧ OwnP w' base v0 v1 p' bvs ∧ MkP k p') ∧ Only w w' (InP v0 v1 bvs)
theorem own_move2 {w w1 : World} {base : Nat} {e : TypeId} {sz n : Nat} {v : Value} {xs : List Value} (h : w.ownsRow base e sz v n xs) (hm : ∀ k, v.ownBlock = some k → w1.heap[k]? = w.heap[k]?) : w1.ownsRow base e sz v n xs := by
  obtain ⟨h1, h2⟩ := h
  refine ⟨h1, ?_⟩
  rcases h2 with h2 | ⟨g, cap, cur, rfl, hg, hh, r⟩
  · exact .inl h2
  · exact .inr ⟨g, cap, cur, rfl, hg, (hm g (by simp [Value.ownBlock])).trans hh, r⟩
end Go.Proofs.Ytccllgpaafgjaaa
/- eqSlot, eqIntS, eqVol, .., eqPool at two values that read the same: true. -/

namespace Go.Proofs.Ytccllgpaafgjaaa
open Go.RowKit Go.Proofs.YtccllgpaafgjaaaW.PrintWords
set_option linter.unusedVariables false
set_option linter.unusedSimpArgs false

end Go.Proofs.Ytccllgpaafgjaaa
/- Pools that lie in an interval of blocks; marks on one leave the others as they were. -/






namespace Go.Proofs.Ytccllgpaafgjaaa
open Go.RowKit Go.Proofs.YtccllgpaafgjaaaW.PrintWords Go.Proofs.YtccllgpaafgjaaaW.PrintLast
set_option linter.unusedVariables false
set_option linter.unusedSimpArgs false

/-- Only blocks from lo up to hi may have changed. -/
def Within (lo hi : Nat) (w w' : World) : Prop := Only w w' (fun k => lo ≤ k ∧ k < hi)
/-- A pool whose blocks lie from lo up to hi. -/
structure At (w : World) (lo hi : Nat) (v0 v1 : Value) (p : Pool) (bvs : List Value) : Prop where
  own : OwnP w lo v0 v1 p bvs
  lt : ∀ k, InP v0 v1 bvs k → k < hi
theorem OwnP.in_ {w : World} {base : Nat} {v0 v1 : Value} {p : Pool} {bvs : List Value} (h : OwnP w base v0 v1 p bvs) {k : Nat} (hk : InP v0 v1 bvs k) : base ≤ k ∧ k < w.heap.size := by
  rcases hk with hk | hk | ⟨b, hb, hk⟩
  · exact ⟨own_block_ge h.s hk, own_block_lt h.s hk⟩
  · exact ⟨own_block_ge h.v.row.row hk, own_block_lt h.v.row.row hk⟩
  · obtain ⟨m, hm⟩ := List.getElem?_of_mem hb
    obtain ⟨x, hx⟩ := getQ (show m < p.vols.length by rw [← h.v.row.len]; exact ltQ hm)
    exact ⟨own_block_ge (h.v.inner m x b hx hm) hk, own_block_lt (h.v.inner m x b hx hm) hk⟩
theorem OwnP.only {w w' : World} {S : Nat → Prop} {base : Nat} {v0 v1 : Value} {p : Pool} {bvs : List Value} (h : OwnP w base v0 v1 p bvs) (ho : Only w w' S) (hS : ∀ k, InP v0 v1 bvs k → ¬ S k) : OwnP w' base v0 v1 p bvs := by
  have mv : ∀ k, InP v0 v1 bvs k → w'.heap[k]? = w.heap[k]? := fun k hk => ho.block k (h.in_ hk).2 (hS k hk)
  refine ⟨own_move2 h.s fun k hk => mv k (.inl hk), ⟨h.v.row.len, own_move2 h.v.row.row fun k hk => mv k (.inr (.inl hk))⟩, fun m x b hx hb => own_move2 (h.v.inner m x b hx hb) fun k hk => mv k (.inr (.inr ⟨b, List.mem_of_getElem? hb, hk⟩)), h.v.apart⟩
theorem OwnP.at {w : World} {lo : Nat} {v0 v1 : Value} {p : Pool} {bvs : List Value} (h : OwnP w lo v0 v1 p bvs) : At w lo w.heap.size v0 v1 p bvs := ⟨h, fun k hk => (h.in_ hk).2⟩
theorem At.bel {w w' : World} {lo hi : Nat} {v0 v1 : Value} {p : Pool} {bvs : List Value} (h : At w lo hi v0 v1 p bvs) (hb : Bel w w') : At w' lo hi v0 v1 p bvs := ⟨h.own.bel hb, h.lt⟩
theorem At.reads {w : World} {lo hi : Nat} {v0 v1 : Value} {p : Pool} {bvs : List Value} (h : At w lo hi v0 v1 p bvs) : ∃ A0 A1 c0 c1, v0 = .slice A0 p.slots.length c0 ∧ v1 = .slice A1 p.vols.length c1 ∧ PoolIn w A0 A1 c0 c1 p := h.own.reads
theorem Within.below {w w' : World} {lo hi b : Nat} (h : Within lo hi w w') (hb : b ≤ w.heap.size) (hl : b ≤ lo) : Below b w w' := Only.below h hb fun k hk => by omega
theorem Within.size {w w' : World} {lo hi : Nat} (h : Within lo hi w w') : w.heap.size ≤ w'.heap.size := Only.size h

/-! ### marks -/
theorem digN_len (d : Nat) : ∀ n : Nat, n < 10 ^ d → (digN n).length ≤ d := by
  induction d with
  | zero =>
    intro n hn
    obtain rfl : n = 0 := by omega
    unfold digN
    simp
  | succ d ih =>
    intro n hn
    unfold digN
    split
    · simp
    · have := ih (n / 10) (by rw [Nat.pow_succ] at hn; omega)
      rw [List.length_append, List.length_singleton]; omega
theorem mkT_size {k : Int} (h : k ≤ 1000000000000000000) : (mkT k).size ≤ 1048576 := by
  have := digN_len 19 k.toNat (by omega)
  unfold mkT ByteArray.size
  simp
  omega
theorem MkP.small {k : Int} {p q : Pool} (h : MkP k q) (hp : SmallP p) (hl : q.slots.length = p.slots.length) (hv : q.vols.map (fun x => x.blocks.length) = p.vols.map (fun x => x.blocks.length)) (h1 : k ≤ 1099511627776) : SmallP q := by
  have hlv : q.vols.length = p.vols.length := by simpa using congrArg List.length hv
  have hb : ∀ x ∈ q.vols, x.blocks.length ≤ 1048576 := by
    intro x hx
    have : x.blocks.length ∈ p.vols.map (fun x => x.blocks.length) := by rw [← hv]; exact List.mem_map.2 ⟨x, hx, rfl⟩
    obtain ⟨y, hy, e⟩ := List.mem_map.1 this
    rw [← e]; exact hp.vols.blocks y hy
  have h3 := hp.slots.len
  have h4 := hp.vols.len
  refine ⟨⟨by rw [hl]; exact hp.slots.len, fun x hx => ?_⟩, ⟨by rw [hlv]; exact hp.vols.len, hb, fun x hx => ?_⟩⟩
  · obtain ⟨i, hi⟩ := List.getElem?_of_mem hx
    rw [(h.s i x hi).1]
    have := ltQ hi
    exact mkT_size (by omega)
  · obtain ⟨i, hi⟩ := List.getElem?_of_mem hx
    rw [(h.v i x hi).1]
    have h5 := ltQ hi
    have h2 := nxV_le (vs := q.vols.take i) (fun v hv => hb v (List.mem_of_mem_take hv)) (k + 2 * q.slots.length)
    have h6 := List.length_take_le i q.vols
    exact mkT_size (by omega)
/-- What a marker leaves of a pool in its interval. -/
def MarkedA (k : Int) (w : World) (lo hi : Nat) (v0 v1 : Value) (p : Pool) (bvs : List Value) (e : Ending) (w' : World) : Prop :=
  e = .returned (.int .i64 (nxP k p)) ∧ (∃ q, SmallP q ∧ q.slots.length = p.slots.length ∧ q.vols.length = p.vols.length ∧ nxP k q = nxP k p ∧ MkP k q ∧ At w' lo hi v0 v1 q bvs) ∧ Within lo hi w w'
/-! ### what is valid is small -/
theorem tOk_size {t : ByteArray} (h : tOk t = true) : t.size ≤ 4 := by
  unfold tOk at h
  simp at h
  exact h.2
theorem PoolP.small {p : Pool} (h : PoolP p) : SmallP p := by
  refine ⟨⟨by have := h.s.len; omega, fun x hx => ?_⟩, ⟨by have := h.v.len; omega, fun v hv => ?_, fun v hv => ?_⟩⟩
  · obtain ⟨i, hi⟩ := List.getElem?_of_mem hx
    have := tOk_size (h.s.ok i x hi).1
    omega
  · obtain ⟨i, hi⟩ := List.getElem?_of_mem hv
    have := (volOk_parts (h.v.v i v hi)).2.2.2
    omega
  · obtain ⟨i, hi⟩ := List.getElem?_of_mem hv
    obtain ⟨b, hb, _⟩ := isNm_one (h.v.nm hi)
    have : v.name.size = 1 := by rw [← size_toList, hb]; rfl
    omega
end Go.Proofs.Ytccllgpaafgjaaa
/- l12Do: a change done. -/







namespace Go.Proofs.Ytccllgpaafgjaaa
open Go.RowKit Go.Proofs.YtccllgpaafgjaaaW.PrintWords Go.Proofs.YtccllgpaafgjaaaW.PrintLast
set_option linter.unusedVariables false
set_option linter.unusedSimpArgs false

def opF (p : Pool) (o : Op) : Option Pool := if o.kind = 1 then makeF p o.name o.n else if o.kind = 2 then writeF p o.name o.n o.text else if o.kind = 3 then cloneF p o.name o.dest else goneF p o.name
theorem opF_ok {p q : Pool} {o : Op} (hp : PoolP p) (h : opF p o = some q) : PoolP q := by
  unfold opF at h
  split at h
  · exact makeF_ok hp h
  · split at h
    · exact writeF_ok hp h
    · split at h
      · exact cloneF_ok hp h
      · exact goneF_ok hp h
theorem OwnP.grown {w w' : World} {base : Nat} {v0 v1 : Value} {p : Pool} {bvs : List Value} (h : OwnP w base v0 v1 p bvs) {r : Nat} {cs : Array Value} {t : TypeId} (hB : Blk w r cs t) (hs : 99 ≠ t) (ht : 90 ≠ t) (ht2 : 3 ≠ t) (hg : w.grownBy w' (some r)) : OwnP w' base v0 v1 p bvs := by
  have key : ∀ {e : TypeId} {size n : Nat} {v : Value} {xs : List Value}, w.ownsRow base e size v n xs → e ≠ t → w'.ownsRow base e size v n xs := fun h' hne =>
    World.ownsRow.kept h' hg (.inr fun e => own_ne h' hB hne e.symm)
  exact ⟨key h.s hs, ⟨⟨h.v.row.len, key h.v.row.row ht⟩, fun m x b hx hb => key (h.v.inner m x b hx hb) ht2, h.v.apart⟩⟩

theorem Fr.tr {base : Nat} {w W W' : World} (h : Fr base w W) (h' : Fr base W W') (hbase : base ≤ w.heap.size) : Fr base w W' := ⟨h.b.trans h'.b, fun g cs t h1 h2 h3 hB => h'.k g cs t h1 h2 h3 (h.k g cs t h1 h2 h3 hB)⟩
end Go.Proofs.Ytccllgpaafgjaaa
/- OpDo of the program and of the reference. -/








namespace Go.Proofs.Ytccllgpaafgjaaa
open Go.RowKit Go.Proofs.YtccllgpaafgjaaaW.PrintWords Go.Proofs.YtccllgpaafgjaaaW.PrintLast
set_option linter.unusedVariables false
set_option linter.unusedSimpArgs false

theorem ch_bad {p : Pool} (h : poolOk p = false) (r : Option Pool) : chP p r = noP ∧ chB p r = false := by unfold chP chB; rw [h]; exact ⟨rfl, rfl⟩
/-- What a change makes of any pool. -/
def chO (p : Pool) (o : Op) : Pool := if opOk o then chP p (opF p o) else noP
def chOB (p : Pool) (o : Op) : Bool := opOk o && chB p (opF p o)
theorem chO_bad {p : Pool} {o : Op} (h : poolOk p = false ∨ opOk o = false) : chO p o = noP ∧ chOB p o = false := by
  unfold chO chOB
  rcases h with h | h
  · have := ch_bad h (opF p o)
    rw [this.1, this.2]
    exact ⟨by split <;> rfl, by rw [Bool.and_false]⟩
  · rw [h]; exact ⟨rfl, rfl⟩
theorem chO_ok {p : Pool} {o : Op} (h : opOk o = true) : chO p o = chP p (opF p o) ∧ chOB p o = chB p (opF p o) := by
  unfold chO chOB
  rw [h]
  exact ⟨rfl, rfl⟩
theorem opOk_kind {o : Op} (h : opOk o = true) : o.kind = 1 ∨ o.kind = 2 ∨ o.kind = 3 ∨ o.kind = 4 := by
  unfold opOk opRest at h
  by_cases h1 : o.kind = 1
  · exact .inl h1
  by_cases h2 : o.kind = 2
  · exact .inr (.inl h2)
  by_cases h3 : o.kind = 3
  · exact .inr (.inr (.inl h3))
  by_cases h4 : o.kind = 4
  · exact .inr (.inr (.inr h4))
  rw [if_neg h1, if_neg h2, if_neg h3, if_neg h4, Bool.and_false] at h
  cases h

set_option maxHeartbeats 8000000 in
set_option maxRecDepth 10000 in
theorem implOpDo_c {w : World} {A0 A1 : Option Addr} {c0 c1 : Nat} {p : Pool} {o : Op} (h : PoolIn w A0 A1 c0 c1 p) (hs : SmallP p) (ho : SmallO o) :
    Calls Try.prog 32 #[.agg #[.slice A0 p.slots.length c0, .slice A1 p.vols.length c1], .agg #[.int .i64 o.kind, .string o.name, .string o.dest, .int .i64 o.n, .string o.text]] w (MadePB w (chO p o) (chOB p o)) := by
  obtain ⟨kd, nm, ds, n, tx⟩ := o
  have HS := Lib.hid hs
  have HP := Lib.hid h
  have HO := Lib.hid ho
  clear h hs ho
  go_enter Try.func32, Try.ntmps32
  go_wp2_with fail
  have hB : Blk (((w.alloc (.cells #[.slice A0 p.slots.length c0, .slice A1 p.vols.length c1] 49)).alloc (.cells #[.int .i64 kd, .string nm, .string ds, .int .i64 n, .string tx] 61)).alloc (.cells #[.slice none 0 0, .slice none 0 0] 49)) w.heap.size #[.slice A0 p.slots.length c0, .slice A1 p.vols.length c1] 49 := ((Blk.new _ _ _).alloc _).alloc _
  have hN : Blk (((w.alloc (.cells #[.slice A0 p.slots.length c0, .slice A1 p.vols.length c1] 49)).alloc (.cells #[.int .i64 kd, .string nm, .string ds, .int .i64 n, .string tx] 61)).alloc (.cells #[.slice none 0 0, .slice none 0 0] 49)) (w.heap.size + 1) #[.int .i64 kd, .string nm, .string ds, .int .i64 n, .string tx] 61 := (Blk.nw2 _ _ _ _).alloc _
  have hR : Blk (((w.alloc (.cells #[.slice A0 p.slots.length c0, .slice A1 p.vols.length c1] 49)).alloc (.cells #[.int .i64 kd, .string nm, .string ds, .int .i64 n, .string tx] 61)).alloc (.cells #[.slice none 0 0, .slice none 0 0] 49)) (w.heap.size + 1 + 1) #[.slice none 0 0, .slice none 0 0] 49 := Blk.nw3 _ _ _ _ _
  have hW : Bel w (((w.alloc (.cells #[.slice A0 p.slots.length c0, .slice A1 p.vols.length c1] 49)).alloc (.cells #[.int .i64 kd, .string nm, .string ds, .int .i64 n, .string tx] 61)).alloc (.cells #[.slice none 0 0, .slice none 0 0] 49)) := bel_alloc (bel_alloc (bel_alloc (Below.refl _ _) _) _) _
  have hl2 : w.heap.size + 3 ≤ (((w.alloc (.cells #[.slice A0 p.slots.length c0, .slice A1 p.vols.length c1] 49)).alloc (.cells #[.int .i64 kd, .string nm, .string ds, .int .i64 n, .string tx] 61)).alloc (.cells #[.slice none 0 0, .slice none 0 0] 49)).heap.size := by simp
  generalize (((w.alloc (.cells #[.slice A0 p.slots.length c0, .slice A1 p.vols.length c1] 49)).alloc (.cells #[.int .i64 kd, .string nm, .string ds, .int .i64 n, .string tx] 61)).alloc (.cells #[.slice none 0 0, .slice none 0 0] 49)) = W0 at hB hN hR hW hl2 ⊢
  have HB := Lib.hid hB
  have HN := Lib.hid hN
  have HR := Lib.hid hR
  have HW := Lib.hid hW
  clear hB hN hR hW
  refine (implPoolOk_in (HP.out.bel HW.out) HS.out).mono ?_
  rintro e w1 ⟨rfl, hb1⟩
  have HB1 := Lib.hid hb1
  clear hb1
  cases hok : poolOk p
  · skip
    have E := Lib.hid (chO_bad (p := p) (o := ⟨kd, nm, ds, n, tx⟩) (.inl hok))
    have r0 := (HR.out.bel HB1.out).cell 0
    have r1 := (HR.out.bel HB1.out).cell 1
    have f0 := (HR.out.bel HB1.out).free 0
    have f1 := (HR.out.bel HB1.out).free 1
    simp at r0 r1
    clear hok
    go_wp2
    have hR3 := (HR.out.bel HB1.out).set 0 (.slice none 0 0) (cs' := #[.slice none 0 0, .slice none 0 0]) rfl
    have hR4 := hR3.set 1 (.slice none 0 0) (cs' := #[.slice none 0 0, .slice none 0 0]) rfl
    have hb4 := bel_set (bel_set (HW.out.tr HB1.out) (show w.heap.size ≤ w.heap.size + 1 + 1 by omega) 0 (.slice none 0 0)) (show w.heap.size ≤ w.heap.size + 1 + 1 by omega) 1 (.slice none 0 0)
    refine bodyPost_ret (results_ct rfl _ _ (w.heap.size + 1 + 1) 49 #[.slice none 0 0, .slice none 0 0] (0, 0) _ rfl hR4 Try.underlying49 rfl (by kernel_rfl)) rfl ?_
    rw [E.out.1, E.out.2]
    exact ⟨_, _, _, rfl, OwnP.none _ _, hb4⟩
  have m0 := (HN.out.bel HB1.out).cell 0
  have m1 := (HN.out.bel HB1.out).cell 1
  have m2 := (HN.out.bel HB1.out).cell 2
  have m3 := (HN.out.bel HB1.out).cell 3
  have m4 := (HN.out.bel HB1.out).cell 4
  simp at m0 m1 m2 m3 m4
  go_wp2_with fail
  clear m0 m1 m2 m3 m4
  refine (implOpOk_c ⟨kd, nm, ds, n, tx⟩ HO.out _).mono ?_
  rintro e w2 ⟨rfl, hb2⟩
  replace HB1 := Lib.hid (HB1.out.tr hb2)
  clear hb2
  have HOK := Lib.hid hok
  clear hok
  cases hok : opOk ⟨kd, nm, ds, n, tx⟩
  · skip
    have E := Lib.hid (chO_bad (p := p) (o := ⟨kd, nm, ds, n, tx⟩) (.inr hok))
    have r0 := (HR.out.bel HB1.out).cell 0
    have r1 := (HR.out.bel HB1.out).cell 1
    have f0 := (HR.out.bel HB1.out).free 0
    have f1 := (HR.out.bel HB1.out).free 1
    simp at r0 r1
    clear hok
    go_wp2
    have hR3 := (HR.out.bel HB1.out).set 0 (.slice none 0 0) (cs' := #[.slice none 0 0, .slice none 0 0]) rfl
    have hR4 := hR3.set 1 (.slice none 0 0) (cs' := #[.slice none 0 0, .slice none 0 0]) rfl
    have hb4 := bel_set (bel_set (HW.out.tr HB1.out) (show w.heap.size ≤ w.heap.size + 1 + 1 by omega) 0 (.slice none 0 0)) (show w.heap.size ≤ w.heap.size + 1 + 1 by omega) 1 (.slice none 0 0)
    refine bodyPost_ret (results_ct rfl _ _ (w.heap.size + 1 + 1) 49 #[.slice none 0 0, .slice none 0 0] (0, 0) _ rfl hR4 Try.underlying49 rfl (by kernel_rfl)) rfl ?_
    rw [E.out.1, E.out.2]
    exact ⟨_, _, _, rfl, OwnP.none _ _, hb4⟩
  have EO := Lib.hid (chO_ok (p := p) hok)
  rcases opOk_kind hok with hk | hk | hk | hk
  · simp only at hk
    subst hk
    clear hok
    have EF : Hid (opF p ⟨1, nm, ds, n, tx⟩ = makeF p nm n) := rfl
    have q0 := (HB.out.bel HB1.out).cell 0
    have q1 := (HB.out.bel HB1.out).cell 1
    have m0 := (HN.out.bel HB1.out).cell 0
    have m1 := (HN.out.bel HB1.out).cell 1
    have m2 := (HN.out.bel HB1.out).cell 2
    have m3 := (HN.out.bel HB1.out).cell 3
    have m4 := (HN.out.bel HB1.out).cell 4
    simp at q0 q1 m0 m1 m2 m3 m4
    go_wp2_with fail
    clear q0 q1 m0 m1 m2 m3 m4
    have hin := HP.out.bel (HW.out.tr HB1.out)
    refine (implPoolMake_c (name := nm) (size := n) hin HS.out HO.out.name).mono ?_
    rintro e w3 ⟨v2, v3, bvs3, rfl, ho3, hb3⟩
    clear hin
    have HO3 := Lib.hid ho3
    have HZ := Lib.hid (HW.out.tr HB1.out).size
    replace HB1 := Lib.hid (HB1.out.tr hb3)
    clear ho3 hb3
    obtain ⟨q, hq⟩ : ∃ q, chP p (makeF p nm n) = q := ⟨_, rfl⟩
    obtain ⟨ok, hok⟩ : ∃ ok, chB p (makeF p nm n) = ok := ⟨_, rfl⟩
    rw [hq] at HO3
    rw [hok]
    have HQ := Lib.hid hq
    have HK2 := Lib.hid hok
    clear hq hok
    obtain ⟨A2, A3, c2, c3, rfl, rfl, hpi⟩ := HO3.out.reads
    clear hpi
    have r0 := (HR.out.bel HB1.out).cell 0
    have r1 := (HR.out.bel HB1.out).cell 1
    have f0 := (HR.out.bel HB1.out).free 0
    have f1 := (HR.out.bel HB1.out).free 1
    simp at r0 r1
    go_wp2
    have hR2 := HR.out.bel HB1.out
    have hR3 := hR2.set 0 (.slice A2 q.slots.length c2) (cs' := #[.slice A2 q.slots.length c2, .slice none 0 0]) rfl
    have hR4 := hR3.set 1 (.slice A3 q.vols.length c3) (cs' := #[.slice A2 q.slots.length c2, .slice A3 q.vols.length c3]) rfl
    have hb5 := bel_set (bel_set (HW.out.tr HB1.out) (show w.heap.size ≤ w.heap.size + 1 + 1 by omega) 0 (.slice A2 q.slots.length c2)) (show w.heap.size ≤ w.heap.size + 1 + 1 by omega) 1 (.slice A3 q.vols.length c3)
    have hop4 := (HO3.out.far hR2 (by decide) (by decide) (by decide) 0 (.slice A2 q.slots.length c2)).far hR3 (by decide) (by decide) (by decide) 1 (.slice A3 q.vols.length c3)
    refine bodyPost_ret (results_ct rfl _ _ (w.heap.size + 1 + 1) 49 #[.slice A2 q.slots.length c2, .slice A3 q.vols.length c3] (0, 0) _ rfl hR4 Try.underlying49 rfl (by kernel_rfl)) rfl ?_
    rw [EO.out.1, EO.out.2, EF.out, HQ.out, HK2.out]
    exact ⟨_, _, _, rfl, hop4.lower HZ.out, hb5⟩
  · simp only at hk
    subst hk
    clear hok
    have EF : Hid (opF p ⟨2, nm, ds, n, tx⟩ = writeF p nm n tx) := rfl
    have q0 := (HB.out.bel HB1.out).cell 0
    have q1 := (HB.out.bel HB1.out).cell 1
    have m0 := (HN.out.bel HB1.out).cell 0
    have m1 := (HN.out.bel HB1.out).cell 1
    have m2 := (HN.out.bel HB1.out).cell 2
    have m3 := (HN.out.bel HB1.out).cell 3
    have m4 := (HN.out.bel HB1.out).cell 4
    simp at q0 q1 m0 m1 m2 m3 m4
    go_wp2_with fail
    clear q0 q1 m0 m1 m2 m3 m4
    have hin := HP.out.bel (HW.out.tr HB1.out)
    refine (implPoolWrite_c (name := nm) (blk := n) (text := tx) hin HS.out HO.out.text).mono ?_
    rintro e w3 ⟨v2, v3, bvs3, rfl, ho3, hb3⟩
    clear hin
    have HO3 := Lib.hid ho3
    have HZ := Lib.hid (HW.out.tr HB1.out).size
    replace HB1 := Lib.hid (HB1.out.tr hb3)
    clear ho3 hb3
    obtain ⟨q, hq⟩ : ∃ q, chP p (writeF p nm n tx) = q := ⟨_, rfl⟩
    obtain ⟨ok, hok⟩ : ∃ ok, chB p (writeF p nm n tx) = ok := ⟨_, rfl⟩
    rw [hq] at HO3
    rw [hok]
    have HQ := Lib.hid hq
    have HK2 := Lib.hid hok
    clear hq hok
    obtain ⟨A2, A3, c2, c3, rfl, rfl, hpi⟩ := HO3.out.reads
    clear hpi
    have r0 := (HR.out.bel HB1.out).cell 0
    have r1 := (HR.out.bel HB1.out).cell 1
    have f0 := (HR.out.bel HB1.out).free 0
    have f1 := (HR.out.bel HB1.out).free 1
    simp at r0 r1
    go_wp2
    have hR2 := HR.out.bel HB1.out
    have hR3 := hR2.set 0 (.slice A2 q.slots.length c2) (cs' := #[.slice A2 q.slots.length c2, .slice none 0 0]) rfl
    have hR4 := hR3.set 1 (.slice A3 q.vols.length c3) (cs' := #[.slice A2 q.slots.length c2, .slice A3 q.vols.length c3]) rfl
    have hb5 := bel_set (bel_set (HW.out.tr HB1.out) (show w.heap.size ≤ w.heap.size + 1 + 1 by omega) 0 (.slice A2 q.slots.length c2)) (show w.heap.size ≤ w.heap.size + 1 + 1 by omega) 1 (.slice A3 q.vols.length c3)
    have hop4 := (HO3.out.far hR2 (by decide) (by decide) (by decide) 0 (.slice A2 q.slots.length c2)).far hR3 (by decide) (by decide) (by decide) 1 (.slice A3 q.vols.length c3)
    refine bodyPost_ret (results_ct rfl _ _ (w.heap.size + 1 + 1) 49 #[.slice A2 q.slots.length c2, .slice A3 q.vols.length c3] (0, 0) _ rfl hR4 Try.underlying49 rfl (by kernel_rfl)) rfl ?_
    rw [EO.out.1, EO.out.2, EF.out, HQ.out, HK2.out]
    exact ⟨_, _, _, rfl, hop4.lower HZ.out, hb5⟩
  · simp only at hk
    subst hk
    clear hok
    have EF : Hid (opF p ⟨3, nm, ds, n, tx⟩ = cloneF p nm ds) := rfl
    have q0 := (HB.out.bel HB1.out).cell 0
    have q1 := (HB.out.bel HB1.out).cell 1
    have m0 := (HN.out.bel HB1.out).cell 0
    have m1 := (HN.out.bel HB1.out).cell 1
    have m2 := (HN.out.bel HB1.out).cell 2
    have m3 := (HN.out.bel HB1.out).cell 3
    have m4 := (HN.out.bel HB1.out).cell 4
    simp at q0 q1 m0 m1 m2 m3 m4
    go_wp2_with fail
    clear q0 q1 m0 m1 m2 m3 m4
    have hin := HP.out.bel (HW.out.tr HB1.out)
    refine (implPoolClone_c (fr := nm) (dst := ds) hin HS.out HO.out.dest).mono ?_
    rintro e w3 ⟨v2, v3, bvs3, rfl, ho3, hb3⟩
    clear hin
    have HO3 := Lib.hid ho3
    have HZ := Lib.hid (HW.out.tr HB1.out).size
    replace HB1 := Lib.hid (HB1.out.tr hb3)
    clear ho3 hb3
    obtain ⟨q, hq⟩ : ∃ q, chP p (cloneF p nm ds) = q := ⟨_, rfl⟩
    obtain ⟨ok, hok⟩ : ∃ ok, chB p (cloneF p nm ds) = ok := ⟨_, rfl⟩
    rw [hq] at HO3
    rw [hok]
    have HQ := Lib.hid hq
    have HK2 := Lib.hid hok
    clear hq hok
    obtain ⟨A2, A3, c2, c3, rfl, rfl, hpi⟩ := HO3.out.reads
    clear hpi
    have r0 := (HR.out.bel HB1.out).cell 0
    have r1 := (HR.out.bel HB1.out).cell 1
    have f0 := (HR.out.bel HB1.out).free 0
    have f1 := (HR.out.bel HB1.out).free 1
    simp at r0 r1
    go_wp2
    have hR2 := HR.out.bel HB1.out
    have hR3 := hR2.set 0 (.slice A2 q.slots.length c2) (cs' := #[.slice A2 q.slots.length c2, .slice none 0 0]) rfl
    have hR4 := hR3.set 1 (.slice A3 q.vols.length c3) (cs' := #[.slice A2 q.slots.length c2, .slice A3 q.vols.length c3]) rfl
    have hb5 := bel_set (bel_set (HW.out.tr HB1.out) (show w.heap.size ≤ w.heap.size + 1 + 1 by omega) 0 (.slice A2 q.slots.length c2)) (show w.heap.size ≤ w.heap.size + 1 + 1 by omega) 1 (.slice A3 q.vols.length c3)
    have hop4 := (HO3.out.far hR2 (by decide) (by decide) (by decide) 0 (.slice A2 q.slots.length c2)).far hR3 (by decide) (by decide) (by decide) 1 (.slice A3 q.vols.length c3)
    refine bodyPost_ret (results_ct rfl _ _ (w.heap.size + 1 + 1) 49 #[.slice A2 q.slots.length c2, .slice A3 q.vols.length c3] (0, 0) _ rfl hR4 Try.underlying49 rfl (by kernel_rfl)) rfl ?_
    rw [EO.out.1, EO.out.2, EF.out, HQ.out, HK2.out]
    exact ⟨_, _, _, rfl, hop4.lower HZ.out, hb5⟩
  · simp only at hk
    subst hk
    clear hok
    have EF : Hid (opF p ⟨4, nm, ds, n, tx⟩ = goneF p nm) := rfl
    have q0 := (HB.out.bel HB1.out).cell 0
    have q1 := (HB.out.bel HB1.out).cell 1
    have m0 := (HN.out.bel HB1.out).cell 0
    have m1 := (HN.out.bel HB1.out).cell 1
    have m2 := (HN.out.bel HB1.out).cell 2
    have m3 := (HN.out.bel HB1.out).cell 3
    have m4 := (HN.out.bel HB1.out).cell 4
    simp at q0 q1 m0 m1 m2 m3 m4
    go_wp2_with fail
    clear q0 q1 m0 m1 m2 m3 m4
    have hin := HP.out.bel (HW.out.tr HB1.out)
    refine (implPoolGone_c (name := nm) hin HS.out).mono ?_
    rintro e w3 ⟨v2, v3, bvs3, rfl, ho3, hb3⟩
    clear hin
    have HO3 := Lib.hid ho3
    have HZ := Lib.hid (HW.out.tr HB1.out).size
    replace HB1 := Lib.hid (HB1.out.tr hb3)
    clear ho3 hb3
    obtain ⟨q, hq⟩ : ∃ q, chP p (goneF p nm) = q := ⟨_, rfl⟩
    obtain ⟨ok, hok⟩ : ∃ ok, chB p (goneF p nm) = ok := ⟨_, rfl⟩
    rw [hq] at HO3
    rw [hok]
    have HQ := Lib.hid hq
    have HK2 := Lib.hid hok
    clear hq hok
    obtain ⟨A2, A3, c2, c3, rfl, rfl, hpi⟩ := HO3.out.reads
    clear hpi
    have r0 := (HR.out.bel HB1.out).cell 0
    have r1 := (HR.out.bel HB1.out).cell 1
    have f0 := (HR.out.bel HB1.out).free 0
    have f1 := (HR.out.bel HB1.out).free 1
    simp at r0 r1
    go_wp2
    have hR2 := HR.out.bel HB1.out
    have hR3 := hR2.set 0 (.slice A2 q.slots.length c2) (cs' := #[.slice A2 q.slots.length c2, .slice none 0 0]) rfl
    have hR4 := hR3.set 1 (.slice A3 q.vols.length c3) (cs' := #[.slice A2 q.slots.length c2, .slice A3 q.vols.length c3]) rfl
    have hb5 := bel_set (bel_set (HW.out.tr HB1.out) (show w.heap.size ≤ w.heap.size + 1 + 1 by omega) 0 (.slice A2 q.slots.length c2)) (show w.heap.size ≤ w.heap.size + 1 + 1 by omega) 1 (.slice A3 q.vols.length c3)
    have hop4 := (HO3.out.far hR2 (by decide) (by decide) (by decide) 0 (.slice A2 q.slots.length c2)).far hR3 (by decide) (by decide) (by decide) 1 (.slice A3 q.vols.length c3)
    refine bodyPost_ret (results_ct rfl _ _ (w.heap.size + 1 + 1) 49 #[.slice A2 q.slots.length c2, .slice A3 q.vols.length c3] (0, 0) _ rfl hR4 Try.underlying49 rfl (by kernel_rfl)) rfl ?_
    rw [EO.out.1, EO.out.2, EF.out, HQ.out, HK2.out]
    exact ⟨_, _, _, rfl, hop4.lower HZ.out, hb5⟩
end Go.Proofs.Ytccllgpaafgjaaa

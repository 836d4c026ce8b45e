/- Taking a volume out of a row. -/
import Derived.Test.YtpobgjkmjlmafaaRw
namespace Go.Proofs.Ytpobgjkmjlmafaa
open Go.RowKit Go.Proofs.YtpobgjkmjlmafaaW.PrintWords Go.Proofs.YtpobgjkmjlmafaaW.PrintLast
set_option linter.unusedVariables false
set_option linter.unusedSimpArgs false

theorem zip_eraseIdx {α β} (xs : List α) (ys : List β) (i : Nat) (h : ys.length = xs.length) : (xs.eraseIdx i).zip (ys.eraseIdx i) = (xs.zip ys).eraseIdx i := by
  induction xs generalizing ys i with
  | nil => simp
  | cons x xs ih =>
    cases ys with
    | nil => simp at h
    | cons y ys =>
      cases i with
      | zero => rfl
      | succ i => simp [ih ys i (by simpa using h)]
theorem flat_erase {α β} {enc : α → List β} {sz : Nat} (hl : ∀ x, (enc x).length = sz) (xs : List α) (i : Nat) : (xs.eraseIdx i).flatMap enc = (xs.flatMap enc).take (i * sz) ++ (xs.flatMap enc).drop ((i + 1) * sz) := by
  rw [List.eraseIdx_eq_take_drop_succ, List.flatMap_append, flat_take hl, flat_drop hl]
theorem one_flatV {zs : List (Vol × Value)} (h : ∀ z ∈ zs, z.2.oneCell' = true) : ∀ u ∈ zs.flatMap encV, u.oneCell' = true := by
  intro u hu
  obtain ⟨z, hz, hu⟩ := List.mem_flatMap.1 hu
  simp [encV] at hu
  rcases hu with rfl | rfl
  · rfl
  · exact h z hz
theorem vol_zero (w : World) : (zeroValue 43).run Try.prog w = .ok (.agg #[.string ⟨#[]⟩, .slice none 0 0]) w := by
  have h := info_vol
  obtain ⟨i, hi, hz⟩ := Option.map_eq_some_iff.1 h
  simp only [Prod.mk.injEq] at hz
  simp [zeroValue, typeInfo, hi, hz.1]
/-- What a row of volumes is behind the deletion of one. -/
def Gone1 (w : World) (base g cap : Nat) (vs : List Vol) (bvs : List Value) (i : Nat) (e : Ending) (w' : World) : Prop :=
  e = .returned (.slice (some ⟨g, 0, none⟩) (vs.length - 1) cap) ∧ VRow w' base (.slice (some ⟨g, 0, none⟩) (vs.length - 1) cap) (vs.eraseIdx i) (bvs.eraseIdx i) ∧ w.grownBy w' (some g)
theorem gone_cells {L rest : List Value} {n i cap : Nat} (hL : L.length = n * 2) (hi : i < n) (hr : rest.length + n * 2 = cap * 2) :
    layL (layL (L ++ rest) (i * 2) (L.drop ((i + 1) * 2))) ((n - 1) * 2) [.string ⟨#[]⟩, .slice none 0 0] = (L.take (i * 2) ++ L.drop ((i + 1) * 2)) ++ (.string ⟨#[]⟩ :: .slice none 0 0 :: rest) := by
  have hd : (L.drop ((i + 1) * 2)).length = (n - 1 - i) * 2 := by rw [List.length_drop, hL]; omega
  apply List.ext_getElem?
  intro k
  rw [layL_get (by rw [layL_len (by rw [List.length_append, hd]; omega)]; simp; omega), layL_get (by rw [List.length_append, hd]; omega), hd]
  have ht : (L.take (i * 2)).length = i * 2 := by rw [List.length_take]; omega
  by_cases h1 : k < i * 2
  · rw [if_pos (by omega), if_pos h1, List.append_assoc, List.getElem?_append_left (by omega), List.getElem?_append_left (by omega), List.getElem?_take, if_pos h1]
  · by_cases h2 : k < (n - 1) * 2
    · rw [if_pos h2, if_neg h1, if_pos (by omega), List.append_assoc, List.getElem?_append_right (by omega), List.getElem?_append_left (by rw [hd]; omega), ht]
    · rw [if_neg h2, List.getElem?_append_right (show (L.take (i * 2) ++ L.drop ((i + 1) * 2)).length ≤ k by rw [List.length_append, ht, hd]; omega), List.length_append, ht, hd]
      by_cases h3 : k < (n - 1) * 2 + 2
      · rw [if_pos (by simpa using h3)]
        rcases (show k = (n - 1) * 2 ∨ k = (n - 1) * 2 + 1 by omega) with rfl | rfl
        · rw [show (n - 1) * 2 - (n - 1) * 2 = 0 by omega, show (n - 1) * 2 - (i * 2 + (n - 1 - i) * 2) = 0 by omega]; rfl
        · rw [show (n - 1) * 2 + 1 - (n - 1) * 2 = 1 by omega, show (n - 1) * 2 + 1 - (i * 2 + (n - 1 - i) * 2) = 1 by omega]; rfl
      · rw [if_neg (by simpa using h3), if_neg h1, if_neg (by omega), List.getElem?_append_right (by omega), show k - (i * 2 + (n - 1 - i) * 2) = (k - n * 2) + 2 by omega, hL]
        rfl

set_option maxHeartbeats 4000000 in
set_option maxRecDepth 100000 in
theorem delete_c {w : World} {base g cap : Nat} {vs : List Vol} {bvs : List Value} {i : Nat} (h : VRow w base (.slice (some ⟨g, 0, none⟩) vs.length cap) vs bvs) (h1 : ∀ b ∈ bvs, b.oneCell' = true) (hi : i < vs.length) :
    Calls Try.prog 71 #[.slice (some ⟨g, 0, none⟩) vs.length cap, .int .i64 i, .int .i64 ((i : Int) + 1)] w (Gone1 w base g cap vs bvs i) := by
  obtain ⟨hbg, hnc, hmax, hL, rest, hrl, hg⟩ := own_open h.row
  have hone : ∀ u ∈ (vs.zip bvs).flatMap encV, u.oneCell' = true := one_flatV fun z hz => h1 z.2 (List.of_mem_zip hz).2
  have hlen := h.len
  generalize hn : vs.length = n at *
  have HL : ((vs.zip bvs).flatMap encV).length = n * 2 := hL
  obtain ⟨L, hLe⟩ : ∃ L, L = (vs.zip bvs).flatMap encV := ⟨_, rfl⟩
  rw [← hLe] at hg hone HL
  have hcur : (L ++ rest).length = cap * 2 := by rw [List.length_append, HL]; omega
  obtain ⟨news, hnews⟩ : ∃ news, news = L.drop ((i + 1) * 2) := ⟨_, rfl⟩
  have hlenN : news.length = (n - (i + 1)) * 2 := by rw [hnews, List.length_drop, HL]; omega
  have hgd : w.drew.heap[g]? = some (.cells (L ++ rest).toArray 43 (0, 0)) := hg
  obtain ⟨A, hA, hsrc⟩ : ∃ A : Addr, (if cap = i + 1 then some (⟨g, 0, none⟩ : Addr) else some ⟨g, (i + 1) * 2, none⟩) = some A ∧ (∀ t u, news[t]? = some u → w.drew.cell? (A.add t) = some u) := by
    by_cases hc : cap = i + 1
    · refine ⟨⟨g, 0, none⟩, by simp [hc], fun t u hu => ?_⟩
      have h0 : news.length = 0 := by rw [hlenN]; omega
      rw [List.length_eq_zero_iff.1 h0] at hu
      simp at hu
    · refine ⟨⟨g, (i + 1) * 2, none⟩, by simp [hc], fun t u hu => ?_⟩
      rw [Addr.add_lit, cell_of_row hgd, List.getElem?_append_left (by have := ltQ hu; omega)]
      rwa [hnews, List.getElem?_drop] at hu
  have s2 : ∀ u ∈ news, u.oneCell' = true := fun u hu => hone u (List.mem_of_mem_drop (hnews ▸ hu))
  have s3 : ∀ t, t < news.length → (w.drew.cell? ⟨g, 0 + i * 2 + t, none⟩).isSome = true ∧ w.drew.frozen? ⟨g, 0 + i * 2 + t, none⟩ = false := fun t ht => by
    refine ⟨?_, free_of_row hgd _⟩
    rw [cell_of_row hgd]
    rw [List.getElem?_eq_getElem (by rw [hcur]; omega)]; rfl
  obtain ⟨W1, hW1⟩ : ∃ W1, W1 = w.drew.setCells g (0 + i * 2) news := ⟨_, rfl⟩
  have hh1 : W1.heap[g]? = some (.cells (layL (L ++ rest) (i * 2) news).toArray 43 (0, 0)) := by
    rw [hW1, Nat.zero_add]; exact setCells_heap news (i * 2) (L ++ rest) w.drew hgd (by rw [hcur, hlenN]; omega)
  have hl1 : (layL (L ++ rest) (i * 2) news).length = cap * 2 := by rw [layL_len (by rw [hcur, hlenN]; omega), hcur]
  have hcl : ∀ ty c, (Builtin.clear_ #[28] ty #[.slice (some ⟨g, (n - 1) * 2, none⟩) 1 c]).run Try.prog W1 = .ok (.tuple #[]) (W1.setCells g ((n - 1) * 2) [.string ⟨#[]⟩, .slice none 0 0]) := fun ty c =>
    run_clear_rows W1 _ 43 ty _ Try.underlying28 vol_zero g ((n - 1) * 2) 1 c [.string ⟨#[]⟩, .slice none 0 0] (by kernel_rfl) (by intro v hv; simp at hv; rcases hv with rfl | rfl <;> rfl) (by omega)
      (fun j hj => by rw [cell_of_row hh1, List.getElem?_eq_getElem (by rw [hl1]; simp at hj; omega)]; rfl) (fun j hj => free_of_row hh1 _)
  have hfin : (W1.setCells g ((n - 1) * 2) [.string ⟨#[]⟩, .slice none 0 0]).heap[g]? = some (.cells ((L.take (i * 2) ++ L.drop ((i + 1) * 2)) ++ (.string ⟨#[]⟩ :: .slice none 0 0 :: rest)).toArray 43 (0, 0)) := by
    rw [← gone_cells HL hi hrl, ← hnews]
    exact setCells_heap _ _ _ _ hh1 (by rw [hl1]; simp; omega)
  have hgr : w.grownBy (W1.setCells g ((n - 1) * 2) [.string ⟨#[]⟩, .slice none 0 0]) (some g) := grown_tr (by rw [hW1]; exact grown_tr (grown_drew w _) (grown_setCells g _ _ _)) (grown_setCells g _ _ _)
  have hgone : VRow (W1.setCells g ((n - 1) * 2) [.string ⟨#[]⟩, .slice none 0 0]) base (.slice (some ⟨g, 0, none⟩) (n - 1) cap) (vs.eraseIdx i) (bvs.eraseIdx i) := by
    have e1 : (vs.eraseIdx i).length = n - 1 := by rw [List.length_eraseIdx_of_lt (by omega), hn]
    refine ⟨by rw [e1, List.length_eraseIdx_of_lt (by omega), hlen], ?_⟩
    rw [e1, zip_eraseIdx _ _ _ (by rw [hlen, hn]), flat_erase encV_len, ← hLe]
    exact own_close hbg (by omega) hmax (by rw [List.length_append, List.length_take, List.length_drop, HL]; omega) (by simp; omega) hfin
  obtain ⟨i0, hi0, hz⟩ := Option.map_eq_some_iff.1 info_vol
  simp only [Prod.mk.injEq] at hz
  have G1 := Lib.hid (And.intro hgone hgr)
  have I0 := Lib.hid hi0
  have I1 := Lib.hid hz.2.1
  have HS := Lib.hid hsrc
  have S1 := Lib.hid hlenN
  have S2 := Lib.hid s2
  have S3 := Lib.hid s3
  have HW := Lib.hid hW1
  have HC := Lib.hid hcl
  clear hcl hW1 s2 s3 hlenN hsrc hi0 hz hgone hgr hfin hl1 hh1 hgd hnews hcur HL hg hone hLe hrl hL h1 h hlen
  go_enter Try.func71, Try.ntmps71
  go_wp2_with fail
  have hic : i ≤ cap := by omega
  have hjc : i + 1 ≤ cap := by omega
  have mixed : Try.prog.follows .mixedOrders = true := by kernel_rfl
  have hi1 : (0 : Int) ≤ (i : Int) + 1 := by omega
  have hi2 : (i : Int) + 1 ≤ (n : Int) := by omega
  have hi3 : ((i : Int) + 1).toNat = i + 1 := by omega
  go_region_law_o (refine step_append_room rfl (.tmp 22) (.tmp 25) 28 rfl 43 i0 2 Try.underlying28 I0.out I1.out g 0 i cap (by simp [Act.eval, Act.put]) A (n - (i + 1)) (cap - (i + 1)) news (by simp [Act.eval, Act.put]) S1.out HS.out S2.out (by omega) S3.out ?_; rw [← HW.out])
  have hq1 : i + (n - (i + 1)) = n - 1 := by omega
  have hq2 : n - (n - 1) = 1 := by omega
  have hq3 : ¬ cap = n - 1 := by omega
  have hq4 : n - 1 ≤ n := by omega
  rw [hq1]
  have hcl := HC.out
  go_wp2
  go_ret
  subst hn
  exact ⟨rfl, G1.out.1, G1.out.2⟩
end Go.Proofs.Ytpobgjkmjlmafaa

/- Rows of volumes of one's own: the array of volumes, and each volume's array of blocks. -/
import Derived.Test.YtpobgjkmjlmafaaOwn
namespace Go.Proofs.Ytpobgjkmjlmafaa
open Go.RowKit Go.Proofs.YtpobgjkmjlmafaaW.PrintWords
set_option linter.unusedVariables false
set_option linter.unusedSimpArgs false

/-- The array of volumes: its cells are the names and the slices bvs. -/
structure VRow (w : World) (base : Nat) (v : Value) (vs : List Vol) (bvs : List Value) : Prop where
  len : bvs.length = vs.length
  row : w.ownsRow base 43 2 v vs.length ((vs.zip bvs).flatMap encV)
theorem zip_get {α β} {xs : List α} {ys : List β} {m : Nat} {x : α} {y : β} (hx : xs[m]? = some x) (hy : ys[m]? = some y) : (xs.zip ys)[m]? = some (x, y) := by
  rw [List.getElem?_zip_eq_some]; exact ⟨hx, hy⟩
theorem zip_setR {α β} {xs : List α} {ys : List β} {m : Nat} {x : α} (hx : xs[m]? = some x) (y : β) : (xs.zip ys).set m (x, y) = xs.zip (ys.set m y) := by
  induction xs generalizing ys m with
  | nil => simp at hx
  | cons a xs ih =>
    cases ys with
    | nil => simp
    | cons b ys =>
      cases m with
      | zero => simp at hx; subst hx; rfl
      | succ m => simp at hx; simp [ih hx]
theorem zip_setL {α β} {xs : List α} {ys : List β} {m : Nat} {y : β} (hy : ys[m]? = some y) (x : α) : (xs.zip ys).set m (x, y) = (xs.set m x).zip ys := by
  induction xs generalizing ys m with
  | nil => simp
  | cons a xs ih =>
    cases ys with
    | nil => simp at hy
    | cons b ys =>
      cases m with
      | zero => simp at hy; subst hy; rfl
      | succ m => simp at hy; simp [ih hy]
theorem VRow.at {w : World} {base : Nat} {v : Value} {vs : List Vol} {bvs : List Value} (h : VRow w base v vs bvs) {m : Nat} {x : Vol} (hx : vs[m]? = some x) :
    ∃ g cap b, bvs[m]? = some b ∧ v = .slice (some ⟨g, 0, none⟩) vs.length cap ∧ base ≤ g ∧ g < w.heap.size ∧ vs.length ≤ cap ∧ w.cell? ⟨g, m * 2, none⟩ = some (.string x.name) ∧ w.cell? ⟨g, m * 2 + 1, none⟩ = some b ∧ w.frozen? ⟨g, m * 2, none⟩ = false ∧ w.frozen? ⟨g, m * 2 + 1, none⟩ = false := by
  have hm := ltQ hx
  obtain ⟨b, hb⟩ := getQ (show m < bvs.length by rw [h.len]; exact hm)
  obtain ⟨g, cap, rfl, hbg, hg, hc⟩ := own_form h.row (by omega)
  refine ⟨g, cap, b, hb, rfl, hbg, hg, hc, ?_, ?_, World.ownsRow.frozenAt h.row _, World.ownsRow.frozenAt h.row _⟩
  · rw [World.ownsRow.cellAt h.row _ (by omega), show m * 2 = m * 2 + 0 from rfl, flat_get encV_len (zip_get hx hb) (by omega)]; rfl
  · rw [World.ownsRow.cellAt h.row _ (by omega), flat_get encV_len (zip_get hx hb) (by omega)]; rfl
theorem VRow.setB {w : World} {base g cap : Nat} {vs : List Vol} {bvs : List Value} (h : VRow w base (.slice (some ⟨g, 0, none⟩) vs.length cap) vs bvs) {m : Nat} {x : Vol} (hx : vs[m]? = some x) (b : Value) :
    VRow (w.setCell ⟨g, m * 2 + 1, none⟩ b) base (.slice (some ⟨g, 0, none⟩) vs.length cap) vs (bvs.set m b) ∧ w.grownBy (w.setCell ⟨g, m * 2 + 1, none⟩ b) (some g) := by
  obtain ⟨b0, hb0⟩ := getQ (show m < bvs.length by rw [h.len]; exact ltQ hx)
  have := World.ownsRow.stored h.row (m * 2 + 1) b
  rw [flat_set encV_len (y := (x, b)) (zip_get hx hb0) (by omega) rfl, zip_setR hx] at this
  exact ⟨⟨by rw [List.length_set]; exact h.len, this.1⟩, this.2⟩
theorem VRow.setN {w : World} {base g cap : Nat} {vs : List Vol} {bvs : List Value} (h : VRow w base (.slice (some ⟨g, 0, none⟩) vs.length cap) vs bvs) {m : Nat} {x : Vol} (hx : vs[m]? = some x) (t : ByteArray) :
    VRow (w.setCell ⟨g, m * 2, none⟩ (.string t)) base (.slice (some ⟨g, 0, none⟩) vs.length cap) (vs.set m ⟨t, x.blocks⟩) bvs ∧ w.grownBy (w.setCell ⟨g, m * 2, none⟩ (.string t)) (some g) := by
  obtain ⟨b0, hb0⟩ := getQ (show m < bvs.length by rw [h.len]; exact ltQ hx)
  have := World.ownsRow.stored h.row (m * 2) (.string t)
  rw [show m * 2 = m * 2 + 0 from rfl, flat_set encV_len (y := ((⟨t, x.blocks⟩ : Vol), b0)) (zip_get hx hb0) (by omega) rfl, zip_setL hb0] at this
  exact ⟨⟨by rw [List.length_set]; exact h.len, by rw [List.length_set]; exact this.1⟩, this.2⟩
theorem VRow.bel {w w' : World} {base : Nat} {v : Value} {vs : List Vol} {bvs : List Value} (h : VRow w base v vs bvs) (hb : Bel w w') : VRow w' base v vs bvs := ⟨h.len, pw_own_below h.row hb⟩
theorem VRow.kept {w w' : World} {base : Nat} {v : Value} {vs : List Vol} {bvs : List Value} {r : Option Nat} (h : VRow w base v vs bvs) (hg : w.grownBy w' r) (hne : v.ownBlock = none ∨ v.ownBlock ≠ r) : VRow w' base v vs bvs := ⟨h.len, World.ownsRow.kept h.row hg hne⟩

/-- Volumes of one's own, their blocks too; no two volumes share an array. -/
structure OwnV (w : World) (base : Nat) (v : Value) (vs : List Vol) (bvs : List Value) : Prop where
  row : VRow w base v vs bvs
  inner : ∀ (m : Nat) (x : Vol) (b : Value), vs[m]? = some x → bvs[m]? = some b → OwnI w base b x.blocks
  apart : ∀ (i j : Nat) (b b' : Value) (k : Nat), i ≠ j → bvs[i]? = some b → bvs[j]? = some b' → b.ownBlock = some k → b'.ownBlock ≠ some k
theorem reads_vrow {w : World} {base : Nat} {v : Value} {vs : List Vol} {bvs : List Value} (h : VRow w base v vs bvs)
    (hi : ∀ (m : Nat) (x : Vol) (b : Value), vs[m]? = some x → bvs[m]? = some b → ∃ A c, b = .slice A x.blocks.length c ∧ x.blocks.length ≤ c ∧ kInt.C w A x.blocks.length x.blocks) :
    ∃ A c, v = .slice A vs.length c ∧ vs.length ≤ c ∧ kVol.C w A vs.length vs := by
  have hR : Reps (kVol.K w) 2 vs ((vs.zip bvs).flatMap encV) := ⟨by rw [flat_len encV_len, List.length_zip, h.len, Nat.min_self], fun j p hp => by
    obtain ⟨b, hb⟩ := getQ (show j < bvs.length by rw [h.len]; exact ltQ hp)
    rw [flat_seg encV_len (zip_get hp hb)]
    obtain ⟨A, c, rfl, hc, hC⟩ := hi j p b hp hb
    exact ⟨[.string p.name], [.slice A p.blocks.length c], rfl, rfl, A, c, rfl, hc, hC⟩⟩
  obtain ⟨A, c, e, hr⟩ := own_reads_row h.row hR rfl
  obtain ⟨A', c', e', hc⟩ := own_cap h.row
  rw [e] at e'
  injection e' with _ _ e3
  exact ⟨A, c, e, e3 ▸ hc, hr⟩
theorem OwnV.reads {w : World} {base : Nat} {v : Value} {vs : List Vol} {bvs : List Value} (h : OwnV w base v vs bvs) : ∃ A c, v = .slice A vs.length c ∧ vs.length ≤ c ∧ kVol.C w A vs.length vs :=
  reads_vrow h.row fun m x b hx hb => (h.inner m x b hx hb).reads
theorem OwnI.bel {w w' : World} {base : Nat} {v : Value} {s : List Int} (h : OwnI w base v s) (hb : Bel w w') : OwnI w' base v s := pw_own_below h hb
theorem OwnI.kept {w w' : World} {base : Nat} {v : Value} {s : List Int} {r : Option Nat} (h : OwnI w base v s) (hg : w.grownBy w' r) (hne : v.ownBlock = none ∨ v.ownBlock ≠ r) : OwnI w' base v s := World.ownsRow.kept h hg hne
theorem OwnV.bel {w w' : World} {base : Nat} {v : Value} {vs : List Vol} {bvs : List Value} (h : OwnV w base v vs bvs) (hb : Bel w w') : OwnV w' base v vs bvs :=
  ⟨h.row.bel hb, fun m x b hx hbb => (h.inner m x b hx hbb).bel hb, h.apart⟩
/-- A block of a row of one's own has the row's element type. -/
theorem own_type {w : World} {base : Nat} {e : TypeId} {sz n k : Nat} {v : Value} {xs : List Value} (h : w.ownsRow base e sz v n xs) (hk : v.ownBlock = some k) : ∃ cs, w.heap[k]? = some (.cells cs e (0, 0)) := by
  rcases h.2 with ⟨rfl, _⟩ | ⟨g, cap, cur, rfl, _, hg, _⟩
  · simp [Value.ownBlock] at hk
  · simp [Value.ownBlock] at hk; subst hk; exact ⟨cur, hg⟩
/-- Rows of different element types lie in different blocks. -/
theorem own_ne_type {w : World} {b1 b2 : Nat} {e1 e2 : TypeId} {s1 s2 n1 n2 : Nat} {v1 v2 : Value} {x1 x2 : List Value} (h1 : w.ownsRow b1 e1 s1 v1 n1 x1) (h2 : w.ownsRow b2 e2 s2 v2 n2 x2) (hne : e1 ≠ e2) : v1.ownBlock = none ∨ v1.ownBlock ≠ v2.ownBlock := by
  cases hk : v1.ownBlock with
  | none => exact .inl rfl
  | some k =>
    refine .inr fun e => ?_
    obtain ⟨c1, hc1⟩ := own_type h1 hk
    obtain ⟨c2, hc2⟩ := own_type h2 e.symm
    rw [hc1] at hc2
    injection hc2 with hc2
    injection hc2 with _ ht
    exact hne ht
/-- A row is kept where another one, of another element type, is written. -/
theorem own_other_type {w w' : World} {b1 b2 : Nat} {e1 e2 : TypeId} {s1 s2 n1 n2 : Nat} {v1 v2 : Value} {x1 x2 : List Value} (h1 : w.ownsRow b1 e1 s1 v1 n1 x1) (h2 : w.ownsRow b2 e2 s2 v2 n2 x2) (hne : e1 ≠ e2) (hg : w.grownBy w' v2.ownBlock) : w'.ownsRow b1 e1 s1 v1 n1 x1 :=
  World.ownsRow.kept h1 hg (own_ne_type h1 h2 hne)
theorem OwnV.otherS {w w' : World} {b2 : Nat} {v2 : Value} {s2 : List Slot} {base : Nat} {v : Value} {vs : List Vol} {bvs : List Value} (h : OwnV w base v vs bvs) (h2 : OwnS w b2 v2 s2) (hg : w.grownBy w' v2.ownBlock) : OwnV w' base v vs bvs :=
  ⟨⟨h.row.len, own_other_type h.row.row h2 (by decide) hg⟩, fun m x b hx hb => own_other_type (h.inner m x b hx hb) h2 (by decide) hg, h.apart⟩
theorem OwnV.nil (w : World) (base : Nat) : OwnV w base (.slice none 0 0) [] [] :=
  ⟨⟨rfl, World.ownsRow_nil _ _ _ _⟩, fun m x b hx _ => by simp at hx, fun i j b b' k _ hb => by simp at hb⟩

/-- A pool of one's own. -/
structure OwnP (w : World) (base : Nat) (v0 v1 : Value) (p : Pool) (bvs : List Value) : Prop where
  s : OwnS w base v0 p.slots
  v : OwnV w base v1 p.vols bvs
theorem OwnP.bel {w w' : World} {base : Nat} {v0 v1 : Value} {p : Pool} {bvs : List Value} (h : OwnP w base v0 v1 p bvs) (hb : Bel w w') : OwnP w' base v0 v1 p bvs := ⟨h.s.bel hb, h.v.bel hb⟩
theorem OwnP.reads {w : World} {base : Nat} {v0 v1 : Value} {p : Pool} {bvs : List Value} (h : OwnP w base v0 v1 p bvs) : ∃ A0 A1 c0 c1, v0 = .slice A0 p.slots.length c0 ∧ v1 = .slice A1 p.vols.length c1 ∧ PoolIn w A0 A1 c0 c1 p := by
  obtain ⟨A0, c0, h0, l0, g0⟩ := h.s.reads
  obtain ⟨A1, c1, h1, l1, g1⟩ := h.v.reads
  exact ⟨A0, A1, c0, c1, h0, h1, g0, l0, g1, l1⟩
theorem own_lower {w : World} {b b' : Nat} {e : TypeId} {sz n : Nat} {v : Value} {xs : List Value} (h : w.ownsRow b e sz v n xs) (hb : b' ≤ b) : w.ownsRow b' e sz v n xs := own_weaken h hb
theorem OwnP.lower {w : World} {b b' : Nat} {v0 v1 : Value} {p : Pool} {bvs : List Value} (h : OwnP w b v0 v1 p bvs) (hb : b' ≤ b) : OwnP w b' v0 v1 p bvs :=
  ⟨own_lower h.s hb, ⟨h.v.row.len, own_lower h.v.row.row hb⟩, fun m x b hx hbb => own_lower (h.v.inner m x b hx hbb) hb, h.v.apart⟩

/-! ### stores into a variable's own block -/
theorem Blk.set {w : World} {b : Nat} {cs cs' : Array Value} {t : TypeId} (h : Blk w b cs t) (i : Nat) (u : Value) (e : cs.setIfInBounds i u = cs') : Blk (w.setCell ⟨b, i, none⟩ u) b cs' t := e ▸ blk_set h i u
theorem bel_set {w w1 : World} (h : Bel w w1) {b : Nat} (hb : w.heap.size ≤ b) (i : Nat) (u : Value) : Bel w (w1.setCell ⟨b, i, none⟩ u) := h.setCell hb u
theorem OwnS.far {w : World} {base : Nat} {v : Value} {s : List Slot} (h : OwnS w base v s) {b : Nat} {cs : Array Value} {t : TypeId} (hB : Blk w b cs t) (ht : 100 ≠ t) (i : Nat) (u : Value) : OwnS (w.setCell ⟨b, i, none⟩ u) base v s :=
  own_setCell (p := ⟨b, i, none⟩) h (own_ne h hB ht) u
theorem OwnI.far {w : World} {base : Nat} {v : Value} {s : List Int} (h : OwnI w base v s) {b : Nat} {cs : Array Value} {t : TypeId} (hB : Blk w b cs t) (ht : 3 ≠ t) (i : Nat) (u : Value) : OwnI (w.setCell ⟨b, i, none⟩ u) base v s :=
  own_setCell (p := ⟨b, i, none⟩) h (own_ne h hB ht) u
theorem VRow.far {w : World} {base : Nat} {v : Value} {vs : List Vol} {bvs : List Value} (h : VRow w base v vs bvs) {b : Nat} {cs : Array Value} {t : TypeId} (hB : Blk w b cs t) (ht : 43 ≠ t) (i : Nat) (u : Value) : VRow (w.setCell ⟨b, i, none⟩ u) base v vs bvs :=
  ⟨h.len, own_setCell (p := ⟨b, i, none⟩) h.row (own_ne h.row hB ht) u⟩
theorem OwnV.far {w : World} {base : Nat} {v : Value} {vs : List Vol} {bvs : List Value} (h : OwnV w base v vs bvs) {b : Nat} {cs : Array Value} {t : TypeId} (hB : Blk w b cs t) (ht : 43 ≠ t) (ht2 : 3 ≠ t) (i : Nat) (u : Value) : OwnV (w.setCell ⟨b, i, none⟩ u) base v vs bvs :=
  ⟨h.row.far hB ht i u, fun m x c hx hc => (h.inner m x c hx hc).far hB ht2 i u, h.apart⟩
theorem OwnP.far {w : World} {base : Nat} {v0 v1 : Value} {p : Pool} {bvs : List Value} (h : OwnP w base v0 v1 p bvs) {b : Nat} {cs : Array Value} {t : TypeId} (hB : Blk w b cs t) (hs : 100 ≠ t) (ht : 43 ≠ t) (ht2 : 3 ≠ t) (i : Nat) (u : Value) : OwnP (w.setCell ⟨b, i, none⟩ u) base v0 v1 p bvs :=
  ⟨h.s.far hB hs i u, h.v.far hB ht ht2 i u⟩
end Go.Proofs.Ytpobgjkmjlmafaa

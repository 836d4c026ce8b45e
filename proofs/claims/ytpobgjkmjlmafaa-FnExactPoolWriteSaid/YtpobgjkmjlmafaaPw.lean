/- Plain Lean: valid pools; what making, writing, cloning, and doing away with a volume make of one. -/
import Derived.Test.YtpobgjkmjlmafaaPv
import Derived.Test.YtpobgjkmjlmafaaWt
namespace Go.Proofs.Ytpobgjkmjlmafaa
open Go.RowKit Go.Proofs.YtpobgjkmjlmafaaW.PrintWords
set_option linter.unusedVariables false
set_option linter.unusedSimpArgs false

/-- Volumes by name. -/
def SortV (vs : List Vol) : Prop := ∀ (i j : Nat) (x y : Vol), i < j → vs[i]? = some x → vs[j]? = some y → nmN x.name < nmN y.name
structure VolsP (vs : List Vol) : Prop where
  v : ∀ (m : Nat) (x : Vol), vs[m]? = some x → volOk x = true
  sort : SortV vs
theorem VolsP.nm {vs : List Vol} (h : VolsP vs) {m : Nat} {x : Vol} (hx : vs[m]? = some x) : isNm x.name = true := (volOk_parts (h.v m x hx)).2.1
theorem VolsP.low {vs : List Vol} (h : VolsP vs) : ∀ (m : Nat) (x : Vol), vs[m]? = some x → 65 + m ≤ nmN x.name := by
  intro m
  induction m with
  | zero => intro x hx; exact (nm_bd (h.nm hx)).1
  | succ m ih =>
    intro x hx
    obtain ⟨y, hy⟩ := getQ (show m < vs.length by have := ltQ hx; omega)
    have h1 := ih y hy
    have h2 := h.sort m (m + 1) y x (by omega) hy hx
    omega
theorem VolsP.len {vs : List Vol} (h : VolsP vs) : vs.length ≤ 4 := by
  by_cases hl : vs.length ≤ 4
  · exact hl
  · obtain ⟨x, hx⟩ := getQ (show 4 < vs.length by omega)
    have h1 := h.low 4 x hx
    have h2 := (nm_bd (h.nm hx)).2
    omega
theorem VolsP.uniq {vs : List Vol} (h : VolsP vs) {i j : Nat} {x y : Vol} (hx : vs[i]? = some x) (hy : vs[j]? = some y) (he : x.name = y.name) : i = j := by
  rcases Nat.lt_trichotomy i j with h1 | h1 | h1
  · have := h.sort i j x y h1 hx hy; rw [he] at this; omega
  · exact h1
  · have := h.sort j i y x h1 hy hx; rw [he] at this; omega
structure PoolP (p : Pool) : Prop where
  s : StoreP p.slots
  v : VolsP p.vols
  uses : ∀ (m : Nat) (x : Slot), p.slots[m]? = some x → x.uses = uses (m + 1) p.vols
theorem volsOk_iff {vs : List Vol} : (allN (volsAt vs) vs.length = true) ↔ VolsP vs := by
  rw [allN_iff]
  have key : ∀ i x, vs[i]? = some x → (volsAt vs i = true ↔ volOk x = true ∧ (0 < i → Op.bytesLess (vs.getD (i - 1) Vol.z).name.toList x.name.toList = true)) := by
    intro i x hx
    unfold volsAt
    rw [getD_of hx]
    simp
    intro _
    by_cases h0 : i = 0
    · subst h0; simp
    · simp [Nat.pos_of_ne_zero h0]
      exact fun h => absurd h h0
  constructor
  · intro h
    have hv : ∀ (m : Nat) (x : Vol), vs[m]? = some x → volOk x = true := fun m x hx => ((key m x hx).1 (h m (ltQ hx))).1
    have hs : ∀ (d i : Nat) (x y : Vol), vs[i]? = some x → vs[i + d + 1]? = some y → nmN x.name < nmN y.name := by
      intro d
      induction d with
      | zero =>
        intro i x y hx hy
        have h1 := ((key _ y hy).1 (h _ (ltQ hy))).2 (by omega)
        rw [show i + 0 + 1 - 1 = i by omega, getD_of hx, nm_lt (volOk_parts (hv _ _ hx)).2.1 (volOk_parts (hv _ _ hy)).2.1] at h1
        simpa using h1
      | succ d ih =>
        intro i x y hx hy
        obtain ⟨z, hz⟩ := getQ (show i + d + 1 < vs.length by have := ltQ hy; omega)
        have h1 := ((key _ y hy).1 (h _ (ltQ hy))).2 (by omega)
        rw [show i + (d + 1) + 1 - 1 = i + d + 1 by omega, getD_of hz, nm_lt (volOk_parts (hv _ _ hz)).2.1 (volOk_parts (hv _ _ hy)).2.1] at h1
        have h2 := ih i x z hx hz
        simp at h1; omega
    exact ⟨hv, fun i j x y hij hx hy => hs (j - i - 1) i x y hx (by rw [show i + (j - i - 1) + 1 = j by omega]; exact hy)⟩
  · intro h i hi
    obtain ⟨x, hx⟩ := getQ hi
    refine (key i x hx).2 ⟨h.v i x hx, fun h0 => ?_⟩
    obtain ⟨y, hy⟩ := getQ (show i - 1 < vs.length by omega)
    rw [getD_of hy, nm_lt (h.nm hy) (h.nm hx)]
    simpa using h.sort (i - 1) i y x (by omega) hy hx
theorem poolOk_iff {p : Pool} : poolOk p = true ↔ PoolP p := by
  unfold poolOk
  rw [Bool.and_eq_true, Bool.and_eq_true, Bool.and_eq_true, storeOk_iff, volsOk_iff, decide_eq_true_eq, allN_iff]
  constructor
  · rintro ⟨⟨⟨h1, h2⟩, h3⟩, h4⟩
    refine ⟨h1, h3, fun m x hx => ?_⟩
    have := h4 m (by have := ltQ hx; rwa [h1.len] at this)
    unfold usesAt at this; rw [getD_of hx] at this
    simpa using this
  · rintro ⟨h1, h2, h3⟩
    refine ⟨⟨⟨h1, h2.len⟩, h2⟩, fun m hm => ?_⟩
    obtain ⟨x, hx⟩ := getQ (show m < p.slots.length by rw [h1.len]; exact hm)
    unfold usesAt; rw [getD_of hx]
    simpa using h3 m x hx

/-! ### counting -/
theorem uses_append (p : Int) (xs ys : List Vol) : uses p (xs ++ ys) = uses p xs + uses p ys := by
  induction xs with
  | nil => simp [uses]
  | cons a xs ih => simp only [List.cons_append, uses, ih]; omega
theorem uses_insAt (p : Int) (vs : List Vol) (x : Vol) (i : Nat) : uses p (insAt i x vs) = uses p vs + cnt p x.blocks := by
  unfold insAt
  rw [uses_append, uses]
  have := uses_append p (vs.take i) (vs.drop i)
  rw [List.take_append_drop] at this
  omega
theorem uses_erase {p : Int} {vs : List Vol} {x : Vol} {i : Nat} (hx : vs[i]? = some x) : uses p (vs.eraseIdx i) = uses p vs - cnt p x.blocks := by
  induction vs generalizing i with
  | nil => simp at hx
  | cons a vs ih =>
    cases i with
    | zero => simp at hx; subst hx; simp [uses]; omega
    | succ i => simp at hx; simp only [List.eraseIdx_cons_succ, uses, ih hx]; omega
theorem uses_set {p : Int} {vs : List Vol} {x y : Vol} {i : Nat} (hx : vs[i]? = some x) : uses p (vs.set i y) = uses p vs - cnt p x.blocks + cnt p y.blocks := by
  induction vs generalizing i with
  | nil => simp at hx
  | cons a vs ih =>
    cases i with
    | zero => simp at hx; subst hx; simp [uses]; omega
    | succ i => simp at hx; simp only [List.set_cons_succ, uses, ih hx]; omega
theorem cnt_set {p : Int} {bs : List Int} {x y : Int} {i : Nat} (hx : bs[i]? = some x) : cnt p (bs.set i y) = cnt p bs - (if x = p then 1 else 0) + (if y = p then 1 else 0) := by
  induction bs generalizing i with
  | nil => simp at hx
  | cons a bs ih =>
    cases i with
    | zero => simp at hx; subst hx; simp [cnt]; omega
    | succ i => simp at hx; simp only [List.set_cons_succ, cnt, ih hx]; omega
theorem uses_nonneg (p : Int) (vs : List Vol) : 0 ≤ uses p vs := by
  induction vs with
  | nil => simp [uses]
  | cons a vs ih => have := cnt_le p a.blocks; simp only [uses]; omega
theorem uses_mem {p : Int} {vs : List Vol} {x : Vol} {i : Nat} (hx : vs[i]? = some x) : cnt p x.blocks ≤ uses p vs := by
  have h1 := uses_erase (p := p) hx
  have h2 := uses_nonneg p (vs.eraseIdx i)
  omega
theorem uses_two {p : Int} {vs : List Vol} {x y : Vol} {i j : Nat} (hx : vs[i]? = some x) (hy : vs[j]? = some y) (hne : i ≠ j) : cnt p x.blocks + cnt p y.blocks ≤ uses p vs := by
  have h1 := uses_set (p := p) (y := (⟨e0, []⟩ : Vol)) hx
  have h2 : (vs.set i ⟨e0, []⟩)[j]? = some y := by rw [List.getElem?_set_ne hne]; exact hy
  have h3 := uses_mem (p := p) h2
  simp [cnt] at h1
  omega
theorem cnt_pos {p : Int} {bs : List Int} (h : p ∈ bs) : 1 ≤ cnt p bs := by
  induction bs with
  | nil => simp at h
  | cons a bs ih =>
    have := cnt_le p bs
    simp only [cnt]
    rcases List.mem_cons.1 h with h | h
    · rw [if_pos h.symm]; omega
    · have := ih h; split <;> omega
theorem uses_bd {p : Int} {vs : List Vol} (h : ∀ x ∈ vs, volOk x = true) : uses p vs ≤ 6 * vs.length := by
  induction vs with
  | nil => simp [uses]
  | cons a vs ih =>
    have h1 := ih (fun x hx => h x (List.mem_cons_of_mem _ hx))
    have h2 := (volOk_parts (h a List.mem_cons_self)).2.2.2
    have h3 := cnt_le p a.blocks
    simp only [uses, List.length_cons]; omega
theorem VolsP.uses_le {vs : List Vol} (h : VolsP vs) (p : Int) : uses p vs ≤ 24 := by
  have h1 := uses_bd (p := p) (vs := vs) (fun x hx => by obtain ⟨m, hm⟩ := List.getElem?_of_mem hx; exact h.v m x hm)
  have h2 := h.len
  omega

/-! ### where a name stands -/
def posOf (t : ByteArray) : List Vol → Nat
  | [] => 0
  | v :: vs => if Op.bytesLess t.toList v.name.toList then 0 else posOf t vs + 1
theorem posOf_le (t : ByteArray) (vs : List Vol) : posOf t vs ≤ vs.length := by
  induction vs with
  | nil => simp [posOf]
  | cons v vs ih => unfold posOf; split <;> simp; omega
theorem posOf_lt {t : ByteArray} {vs : List Vol} {m : Nat} {x : Vol} (hm : m < posOf t vs) (hx : vs[m]? = some x) : Op.bytesLess t.toList x.name.toList = false := by
  induction vs generalizing m with
  | nil => simp at hx
  | cons v vs ih =>
    unfold posOf at hm
    split at hm
    · omega
    · rename_i h
      cases m with
      | zero => simp at hx; subst hx; simpa using h
      | succ m => exact ih (m := m) (by omega) (by simpa using hx)
theorem posOf_at {t : ByteArray} {vs : List Vol} {x : Vol} (hx : vs[posOf t vs]? = some x) : Op.bytesLess t.toList x.name.toList = true := by
  induction vs with
  | nil => simp at hx
  | cons v vs ih =>
    unfold posOf at hx
    split at hx
    · rename_i h; simp at hx; subst hx; exact h
    · exact ih (by simpa using hx)
theorem volIdx_no {vs : List Vol} {t : ByteArray} : volIdx vs t < 0 ↔ ∀ (m : Nat) (x : Vol), vs[m]? = some x → x.name ≠ t := by
  have hb := idx_bd (fun v : Vol => v.name.toList == t.toList) vs
  have hv : volIdx vs t = idx (fun v : Vol => v.name.toList == t.toList) vs := rfl
  rw [hv]
  constructor
  · intro h m x hx he
    have : vs.any (fun v : Vol => v.name.toList == t.toList) = true := by rw [List.any_eq_true]; exact ⟨x, List.mem_of_getElem? hx, textB.2 he⟩
    have := hb.2.2.2 this
    omega
  · intro h
    by_cases h0 : 0 ≤ idx (fun v : Vol => v.name.toList == t.toList) vs
    · obtain ⟨x, hx, hf⟩ := idx_get h0
      exact absurd (textB.1 hf) (h _ x hx)
    · omega
theorem volIdx_yes {vs : List Vol} {t : ByteArray} (h : ¬ volIdx vs t < 0) : ∃ (m : Nat) (x : Vol), volIdx vs t = m ∧ vs[m]? = some x ∧ x.name = t := by
  have h0 : 0 ≤ idx (fun v : Vol => v.name.toList == t.toList) vs := by have : volIdx vs t = idx (fun v : Vol => v.name.toList == t.toList) vs := rfl; omega
  obtain ⟨x, hx, hf⟩ := idx_get h0
  exact ⟨_, x, (Int.toNat_of_nonneg h0).symm, hx, textB.1 hf⟩
theorem VolsP.idx {vs : List Vol} (h : VolsP vs) {m : Nat} {x : Vol} (hx : vs[m]? = some x) : volIdx vs x.name = m := by
  by_cases h0 : volIdx vs x.name < 0
  · exact absurd rfl (volIdx_no.1 h0 m x hx)
  · obtain ⟨k, y, e, hy, hn⟩ := volIdx_yes h0
    rw [e, h.uniq hx hy hn.symm]
/-- In a row by name a new name's place parts the lesser ones from the greater ones. -/
theorem VolsP.pos {vs : List Vol} (h : VolsP vs) {t : ByteArray} (ht : isNm t = true) (hn : volIdx vs t < 0) (m : Nat) (x : Vol) (hx : vs[m]? = some x) : m < posOf t vs ↔ nmN x.name < nmN t := by
  have hne : nmN x.name ≠ nmN t := fun e => volIdx_no.1 hn m x hx ((nm_eq (h.nm hx) ht).2 e)
  constructor
  · intro hm
    have := posOf_lt hm hx
    rw [nm_lt ht (h.nm hx)] at this
    simp at this; omega
  · intro hm
    by_cases h1 : m < posOf t vs
    · exact h1
    · exfalso
      obtain ⟨y, hy⟩ := getQ (show posOf t vs < vs.length by have := ltQ hx; omega)
      have h2 := posOf_at hy
      rw [nm_lt ht (h.nm hy)] at h2
      simp at h2
      by_cases h3 : m = posOf t vs
      · subst h3; obtain rfl := Option.some.inj (hx.symm.trans hy); omega
      · have := h.sort _ m y x (by omega) hy hx; omega
theorem VolsP.ins {vs : List Vol} (h : VolsP vs) {v : Vol} (hv : volOk v = true) (hn : volIdx vs v.name < 0) : VolsP (insAt (posOf v.name vs) v vs) := by
  have hq := posOf_le v.name vs
  have hnm := (volOk_parts hv).2.1
  have hp := h.pos hnm hn
  have get : ∀ (m : Nat) (x : Vol), (insAt (posOf v.name vs) v vs)[m]? = some x → (m < posOf v.name vs ∧ vs[m]? = some x) ∨ (m = posOf v.name vs ∧ x = v) ∨ (posOf v.name vs < m ∧ vs[m - 1]? = some x) := by
    intro m x hx
    rw [insAt_get hq] at hx
    by_cases h1 : m < posOf v.name vs
    · rw [if_pos h1] at hx; exact .inl ⟨h1, hx⟩
    · rw [if_neg h1] at hx
      by_cases h2 : m = posOf v.name vs
      · rw [if_pos h2] at hx; exact .inr (.inl ⟨h2, (Option.some.inj hx).symm⟩)
      · rw [if_neg h2] at hx; exact .inr (.inr ⟨by omega, hx⟩)
  have hgt : ∀ (m : Nat) (x : Vol), posOf v.name vs ≤ m → vs[m]? = some x → nmN v.name < nmN x.name := by
    intro m x hm hx
    have h1 := (hp m x hx).2
    have h2 : nmN x.name ≠ nmN v.name := fun e => volIdx_no.1 hn m x hx ((nm_eq (h.nm hx) hnm).2 e)
    by_cases h3 : nmN x.name < nmN v.name
    · have := h1 h3; omega
    · omega
  refine ⟨fun m x hx => ?_, fun i j x y hij hx hy => ?_⟩
  · rcases get m x hx with ⟨_, hx⟩ | ⟨_, rfl⟩ | ⟨_, hx⟩
    · exact h.v _ _ hx
    · exact hv
    · exact h.v _ _ hx
  · rcases get i x hx with ⟨hi, hx⟩ | ⟨hi, hxv⟩ | ⟨hi, hx⟩ <;> rcases get j y hy with ⟨hj, hy⟩ | ⟨hj, hyv⟩ | ⟨hj, hy⟩
    · exact h.sort i j x y hij hx hy
    · rw [hyv]; exact (hp i x hx).1 hi
    · exact h.sort i (j - 1) x y (by omega) hx hy
    · omega
    · omega
    · rw [hxv]; exact hgt (j - 1) y (by omega) hy
    · omega
    · omega
    · exact h.sort (i - 1) (j - 1) x y (by omega) hx hy
theorem erase_get {α} {xs : List α} {i m : Nat} {x : α} (h : (xs.eraseIdx i)[m]? = some x) : xs[if m < i then m else m + 1]? = some x := by
  rw [List.getElem?_eraseIdx] at h
  split at h
  · rename_i h1; rwa [if_pos h1]
  · rename_i h1; rwa [if_neg h1]
theorem VolsP.erase {vs : List Vol} (h : VolsP vs) (i : Nat) : VolsP (vs.eraseIdx i) :=
  ⟨fun m x hx => h.v _ _ (erase_get hx), fun a b x y hab hx hy => h.sort _ _ x y (by split <;> split <;> omega) (erase_get hx) (erase_get hy)⟩
theorem VolsP.set {vs : List Vol} (h : VolsP vs) {i : Nat} {x y : Vol} (hx : vs[i]? = some x) (hn : y.name = x.name) (hy : volOk y = true) : VolsP (vs.set i y) := by
  have get : ∀ (m : Nat) (z : Vol), (vs.set i y)[m]? = some z → (m = i ∧ z = y) ∨ (m ≠ i ∧ vs[m]? = some z) := by
    intro m z hz
    by_cases e : m = i
    · subst e; rw [List.getElem?_set_self (ltQ hx)] at hz; exact .inl ⟨rfl, (Option.some.inj hz).symm⟩
    · rw [List.getElem?_set_ne (fun h => e h.symm)] at hz; exact .inr ⟨e, hz⟩
  refine ⟨fun m z hz => ?_, fun a b z u hab hz hu => ?_⟩
  · rcases get m z hz with ⟨_, rfl⟩ | ⟨_, hz⟩
    · exact hy
    · exact h.v _ _ hz
  · rcases get a z hz with ⟨ha, hzy⟩ | ⟨ha, hz⟩ <;> rcases get b u hu with ⟨hb, huy⟩ | ⟨hb, hu⟩
    · omega
    · rw [hzy, hn]; exact h.sort i b x u (by omega) hx hu
    · rw [huy, hn]; exact h.sort a i z x (by omega) hz hx
    · exact h.sort a b z u hab hz hu

/-! ### the four changes -/
def goneF (p : Pool) (name : ByteArray) : Option Pool :=
  if volIdx p.vols name < 0 then none else some ⟨dropAll p.slots (volAt p.vols (volIdx p.vols name)).blocks, p.vols.eraseIdx (volIdx p.vols name).toNat⟩
def makeF (p : Pool) (name : ByteArray) (size : Int) : Option Pool :=
  if isNm name = true ∧ volIdx p.vols name < 0 ∧ inR size 1 6 = true then some ⟨p.slots, insAt (posOf name p.vols) ⟨name, List.replicate size.toNat 0⟩ p.vols⟩ else none
def cloneF (p : Pool) (fr dst : ByteArray) : Option Pool :=
  if 0 ≤ volIdx p.vols fr ∧ isNm dst = true ∧ volIdx p.vols dst < 0 then some ⟨incAll p.slots (volAt p.vols (volIdx p.vols fr)).blocks, insAt (posOf dst p.vols) ⟨dst, (volAt p.vols (volIdx p.vols fr)).blocks⟩ p.vols⟩ else none
def setBlk (vs : List Vol) (i : Nat) (b : Nat) (pl : Int) : List Vol := vs.set i ⟨(vs.getD i Vol.z).name, (vs.getD i Vol.z).blocks.set b pl⟩
/-- The slots behind a block's piece given back. -/
def backS (p : Pool) (name : ByteArray) (b : Int) : List Slot := dropAll p.slots [placeAt p.vols name b]
def writeF (p : Pool) (name : ByteArray) (b : Int) (text : ByteArray) : Option Pool :=
  if 0 ≤ hasBlk p.vols name b ∧ tOk text = true then
    (if text = e0 then some ⟨backS p name b, setBlk p.vols (volIdx p.vols name).toNat b.toNat 0⟩
     else if putAt (backS p name b) text = 0 then none else some ⟨putS (backS p name b) text, setBlk p.vols (volIdx p.vols name).toNat b.toNat (putAt (backS p name b) text)⟩)
  else none
end Go.Proofs.Ytpobgjkmjlmafaa

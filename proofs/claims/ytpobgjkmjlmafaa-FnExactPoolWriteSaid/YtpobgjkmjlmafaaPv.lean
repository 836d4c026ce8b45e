/- Plain Lean: valid slots and pools, laid out; a piece less, a piece more. -/
import Derived.Test.YtpobgjkmjlmafaaWk
import Derived.Lib.Bytealg
namespace Go.Proofs.Ytpobgjkmjlmafaa
open Go.RowKit Go.Proofs.YtpobgjkmjlmafaaW.PrintWords
set_option linter.unusedVariables false
set_option linter.unusedSimpArgs false

/-! ### names -/
def nmN (t : ByteArray) : Nat := (t.toList.headD 0).toNat
theorem isNm_one {t : ByteArray} (h : isNm t = true) : ∃ b : UInt8, t.toList = [b] ∧ 65 ≤ b.toNat ∧ b.toNat ≤ 68 := by
  simp [isNm] at h
  rcases h with h | h | h | h <;> exact ⟨_, h, by decide, by decide⟩
theorem nm_bd {a : ByteArray} (h : isNm a = true) : 65 ≤ nmN a ∧ nmN a ≤ 68 := by
  obtain ⟨b, hb, h1, h2⟩ := isNm_one h
  simp [nmN, hb, h1, h2]
theorem nm_lt {a b : ByteArray} (ha : isNm a = true) (hb : isNm b = true) : Op.bytesLess a.toList b.toList = decide (nmN a < nmN b) := by
  obtain ⟨x, hx, _⟩ := isNm_one ha
  obtain ⟨y, hy, _⟩ := isNm_one hb
  simp [nmN, hx, hy, Op.bytesLess, UInt8.lt_iff_toNat_lt]
theorem nm_eq {a b : ByteArray} (ha : isNm a = true) (hb : isNm b = true) : a = b ↔ nmN a = nmN b := by
  obtain ⟨x, hx, _⟩ := isNm_one ha
  obtain ⟨y, hy, _⟩ := isNm_one hb
  constructor
  · rintro rfl; rfl
  · intro h
    refine str_eq ?_
    rw [hx, hy]
    simp [nmN, hx, hy] at h
    rw [UInt8.toNat_inj.1 h]
def cmpN (a b : ByteArray) : Int := Lib.compareBytes a.data.toList b.data.toList
theorem nm_cmp {a b : ByteArray} (ha : isNm a = true) (hb : isNm b = true) : cmpN a b < 0 ↔ nmN a < nmN b := by
  obtain ⟨x, hx, _⟩ := isNm_one ha
  obtain ⟨y, hy, _⟩ := isNm_one hb
  have e1 : a.data.toList = [x] := by rw [← hx, ByteArray.toList_eq]
  have e2 : b.data.toList = [y] := by rw [← hy, ByteArray.toList_eq]
  have h1 := UInt8.lt_iff_toNat_lt (a := x) (b := y)
  have h2 := UInt8.lt_iff_toNat_lt (a := y) (b := x)
  simp only [nmN, hx, hy, cmpN, e1, e2, Lib.compareBytes, List.headD_cons]
  split
  · rename_i h; simp [h1.1 h]
  · rename_i h
    split
    · rename_i h3; have := h2.1 h3; simp; omega
    · simp; rw [h1] at h; omega

/-! ### slots -/
structure StoreP (s : List Slot) : Prop where
  len : s.length = 8
  ok : ∀ (m : Nat) (x : Slot), s[m]? = some x → tOk x.text = true ∧ 0 ≤ x.uses ∧ x.uses ≤ 99 ∧ (x.text = e0 ↔ x.uses = 0)
  uniq : ∀ (i j : Nat) (x y : Slot), s[i]? = some x → s[j]? = some y → x.text = y.text → x.text ≠ e0 → i = j
theorem slotOk_iff {x : Slot} : slotOk x = true ↔ tOk x.text = true ∧ 0 ≤ x.uses ∧ x.uses ≤ 99 ∧ (x.text = e0 ↔ x.uses = 0) := by
  unfold slotOk
  rw [Bool.and_eq_true, Bool.and_eq_true, inR_iff]
  have : ((x.text.toList == []) == (x.uses == 0)) = true ↔ (x.text = e0 ↔ x.uses = 0) := by
    rw [← toList_nil (s := x.text)]
    cases h1 : (x.text.toList == []) <;> cases h2 : (x.uses == 0) <;> simp_all
  rw [this, and_assoc, and_assoc]
theorem dupIn_no {x : Slot} {pre : List Slot} : dupIn x pre = false ↔ (x.text = e0 ∨ ∀ o ∈ pre, o.text ≠ x.text) := by
  unfold dupIn hasText
  rw [← toList_nil (s := x.text)]
  cases h1 : (x.text.toList == [])
  · have hn : x.text.toList ≠ [] := by simpa using h1
    simp only [Bool.not_false, Bool.true_and, hn, false_or, List.any_eq_false]
    exact ⟨fun h o ho e => by simpa [e] using h o ho, fun h o ho => by simpa using fun e => h o ho (str_eq e)⟩
  · have hn : x.text.toList = [] := by simpa using h1
    simp [hn]
theorem storeOk_iff {s : List Slot} : storeOk s = true ↔ StoreP s := by
  unfold storeOk
  rw [Bool.and_eq_true, allN_iff, decide_eq_true_eq]
  have key : ∀ i x, s[i]? = some x → (storeAt s i = true ↔ (tOk x.text = true ∧ 0 ≤ x.uses ∧ x.uses ≤ 99 ∧ (x.text = e0 ↔ x.uses = 0)) ∧ (x.text = e0 ∨ ∀ o ∈ s.take i, o.text ≠ x.text)) := by
    intro i x hx
    rw [storeAt_eq hx, Bool.and_eq_true, slotOk_iff, Bool.not_eq_true', dupIn_no]
  constructor
  · rintro ⟨h, hl⟩
    refine ⟨hl, fun m x hx => ((key m x hx).1 (h m (ltQ hx))).1, ?_⟩
    have aux : ∀ (i j : Nat) (x y : Slot), i < j → s[i]? = some x → s[j]? = some y → x.text = y.text → x.text ≠ e0 → False := by
      intro i j x y hij hx hy he hne
      rcases ((key j y hy).1 (h j (ltQ hy))).2 with h2 | h2
      · exact hne (he.trans h2)
      · refine h2 x ?_ he
        exact List.mem_of_getElem? (show (s.take j)[i]? = some x by rw [List.getElem?_take, if_pos hij]; exact hx)
    intro i j x y hx hy he hne
    rcases Nat.lt_trichotomy i j with h1 | h1 | h1
    · exact (aux i j x y h1 hx hy he hne).elim
    · exact h1
    · exact (aux j i y x h1 hy hx he.symm (he ▸ hne)).elim
  · rintro ⟨hl, h1, h2⟩
    refine ⟨fun i hi => ?_, hl⟩
    obtain ⟨x, hx⟩ := getQ hi
    refine (key i x hx).2 ⟨h1 i x hx, ?_⟩
    by_cases he : x.text = e0
    · exact .inl he
    · refine .inr fun o ho e => ?_
      obtain ⟨j, hj⟩ := List.getElem?_of_mem ho
      have hji : j < i := by have := ltQ hj; rw [List.length_take] at this; omega
      rw [List.getElem?_take, if_pos hji] at hj
      have := h2 j i o x hj hx e (e ▸ he)
      omega
/-- One slot turned. -/
theorem StoreP.set {s : List Slot} (h : StoreP s) {m : Nat} {x y : Slot} (hx : s[m]? = some x) (hy : tOk y.text = true ∧ 0 ≤ y.uses ∧ y.uses ≤ 99 ∧ (y.text = e0 ↔ y.uses = 0))
    (hu : y.text = e0 ∨ y.text = x.text ∨ ∀ (j : Nat) (z : Slot), s[j]? = some z → z.text ≠ y.text) : StoreP (s.set m y) := by
  have hm := ltQ hx
  have get : ∀ (j : Nat) (z : Slot), (s.set m y)[j]? = some z → (j = m ∧ z = y) ∨ (j ≠ m ∧ s[j]? = some z) := by
    intro j z hz
    by_cases e : j = m
    · subst e; rw [List.getElem?_set_self hm] at hz; exact .inl ⟨rfl, (Option.some.inj hz).symm⟩
    · rw [List.getElem?_set_ne (fun h => e h.symm)] at hz; exact .inr ⟨e, hz⟩
  have clash : ∀ (j : Nat) (z : Slot), j ≠ m → s[j]? = some z → z.text = y.text → y.text ≠ e0 → False := by
    intro j z hj hz e hne
    rcases hu with h1 | h1 | h1
    · exact hne h1
    · exact hj (h.uniq j m z x hz hx (e.trans h1) (e ▸ hne))
    · exact h1 j z hz e
  refine ⟨by rw [List.length_set]; exact h.len, ?_, ?_⟩
  · intro j z hz
    rcases get j z hz with ⟨_, rfl⟩ | ⟨_, hz⟩
    · exact hy
    · exact h.ok j z hz
  · intro i j a b ha hb e hne
    rcases get i a ha with ⟨e1, e2⟩ | ⟨hi, ha2⟩ <;> rcases get j b hb with ⟨e3, e4⟩ | ⟨hj, hb2⟩
    · rw [e1, e3]
    · exact (clash j b hj hb2 (by rw [← e, e2]) (by rw [← e2]; exact hne)).elim
    · exact (clash i a hi ha2 (by rw [e, e4]) (by rw [← e4, ← e]; exact hne)).elim
    · exact h.uniq i j a b ha2 hb2 e hne
theorem lessS_uses {x : Slot} (h : 1 ≤ x.uses) : (lessS x).uses = x.uses - 1 := by unfold lessS; split <;> simp <;> omega
theorem lessS_text (x : Slot) : (lessS x).text = x.text ∨ (lessS x).uses = 0 := by unfold lessS; split <;> simp
theorem tOk_e0 : tOk e0 = true := by unfold tOk; rw [toList_nil.2 rfl]; rfl
theorem StoreP.drop {s : List Slot} (h : StoreP s) {m : Nat} {x : Slot} (hx : s[m]? = some x) (h1 : 1 ≤ x.uses) : StoreP (dropS s m) := by
  rw [dropS_eq hx]
  obtain ⟨a, b, c, d⟩ := h.ok m x hx
  refine h.set hx ?_ ?_
  · unfold lessS
    split
    · exact ⟨tOk_e0, by simp, by simp, by simp⟩
    · refine ⟨a, by simp; omega, by simp; omega, ?_⟩
      rw [d]; simp; omega
  · unfold lessS; split <;> simp
/-- A reference more. -/
def incS (s : List Slot) (m : Nat) : List Slot := s.set m ⟨(s.getD m Slot.z).text, (s.getD m Slot.z).uses + 1⟩
theorem incS_eq {s : List Slot} {m : Nat} {x : Slot} (h : s[m]? = some x) : incS s m = s.set m ⟨x.text, x.uses + 1⟩ := by unfold incS; rw [getD_of h]
theorem StoreP.inc {s : List Slot} (h : StoreP s) {m : Nat} {x : Slot} (hx : s[m]? = some x) (h1 : 1 ≤ x.uses) (h2 : x.uses ≤ 98) : StoreP (incS s m) := by
  rw [incS_eq hx]
  obtain ⟨a, b, c, d⟩ := h.ok m x hx
  exact h.set hx ⟨a, by simp; omega, by simp; omega, by rw [d]; simp; omega⟩ (.inr (.inl rfl))

/-! ### all references of a row of blocks: less, more -/
def dropAll (s : List Slot) : List Int → List Slot
  | [] => s
  | x :: xs => dropAll (if 0 < x then dropS s (x - 1).toNat else s) xs
def incAll (s : List Slot) : List Int → List Slot
  | [] => s
  | x :: xs => incAll (if 0 < x then incS s (x - 1).toNat else s) xs
theorem dropAll_snoc (s : List Slot) (xs : List Int) (x : Int) : dropAll s (xs ++ [x]) = if 0 < x then dropS (dropAll s xs) (x - 1).toNat else dropAll s xs := by
  induction xs generalizing s with
  | nil => rfl
  | cons y ys ih => exact ih _
theorem incAll_snoc (s : List Slot) (xs : List Int) (x : Int) : incAll s (xs ++ [x]) = if 0 < x then incS (incAll s xs) (x - 1).toNat else incAll s xs := by
  induction xs generalizing s with
  | nil => rfl
  | cons y ys ih => exact ih _
theorem dropS_len (s : List Slot) (m : Nat) : (dropS s m).length = s.length := by simp [dropS]
theorem incS_len (s : List Slot) (m : Nat) : (incS s m).length = s.length := by simp [incS]
theorem dropAll_len (s : List Slot) (xs : List Int) : (dropAll s xs).length = s.length := by
  induction xs generalizing s with
  | nil => rfl
  | cons y ys ih => simp only [dropAll, ih]; split <;> simp [dropS_len]
theorem incAll_len (s : List Slot) (xs : List Int) : (incAll s xs).length = s.length := by
  induction xs generalizing s with
  | nil => rfl
  | cons y ys ih => simp only [incAll, ih]; split <;> simp [incS_len]
/-- What is dropped is counted. -/
theorem dropAll_get {xs : List Int} : ∀ {s : List Slot}, StoreP s → (∀ x ∈ xs, 0 ≤ x ∧ x ≤ 8) → (∀ (m : Nat) (x : Slot), s[m]? = some x → cnt (m + 1) xs ≤ x.uses) →
    StoreP (dropAll s xs) ∧ ∀ (m : Nat) (x : Slot), s[m]? = some x → ∃ y, (dropAll s xs)[m]? = some y ∧ y.uses = x.uses - cnt (m + 1) xs ∧ (y.text = x.text ∨ y.uses = 0) := by
  induction xs with
  | nil => intro s h _ _; exact ⟨h, fun m x hx => ⟨x, hx, by simp [cnt], .inl rfl⟩⟩
  | cons a xs ih =>
    intro s h hr hc
    have ha := hr a List.mem_cons_self
    have hr' : ∀ x ∈ xs, 0 ≤ x ∧ x ≤ 8 := fun x hx => hr x (List.mem_cons_of_mem _ hx)
    simp only [dropAll]
    by_cases h0 : 0 < a
    · rw [if_pos h0]
      obtain ⟨x0, hx0⟩ := getQ (show (a - 1).toNat < s.length by rw [h.len]; omega)
      have hca := hc _ _ hx0
      simp only [cnt, show (((a - 1).toNat : Nat) : Int) + 1 = a by omega, if_pos] at hca
      have hcn := cnt_le a xs
      have h1 : 1 ≤ x0.uses := by omega
      have hd := h.drop hx0 h1
      have get : ∀ (m : Nat) (x : Slot), s[m]? = some x → ∃ y, (dropS s (a - 1).toNat)[m]? = some y ∧ y.uses = x.uses - (if a = (m : Int) + 1 then 1 else 0) ∧ (y.text = x.text ∨ y.uses = 0) := by
        intro m x hx
        by_cases e : m = (a - 1).toNat
        · subst e
          obtain rfl := Option.some.inj (hx.symm.trans hx0)
          refine ⟨lessS x, by rw [dropS_eq hx, List.getElem?_set_self (ltQ hx)], ?_, lessS_text x⟩
          rw [lessS_uses h1, if_pos (by omega)]
        · refine ⟨x, by unfold dropS; rw [List.getElem?_set_ne (fun h => e h.symm)]; exact hx, ?_, .inl rfl⟩
          rw [if_neg (by omega)]; omega
      obtain ⟨r1, r2⟩ := ih hd hr' (fun m y hy => by
        obtain ⟨x, hx⟩ := getQ (show m < s.length by have := ltQ hy; rwa [dropS_len] at this)
        obtain ⟨y', hy', hu, _⟩ := get m x hx
        obtain rfl := Option.some.inj (hy.symm.trans hy')
        have := hc m x hx
        simp only [cnt] at this
        omega)
      refine ⟨r1, fun m x hx => ?_⟩
      obtain ⟨y, hy, hu, ht⟩ := get m x hx
      obtain ⟨z, hz, hu2, ht2⟩ := r2 m y hy
      refine ⟨z, hz, by simp only [cnt]; omega, ?_⟩
      have hcm := cnt_le ((m : Int) + 1) xs
      have hz0 := ((r1.ok m z hz).2.1)
      rcases ht2 with ht2 | ht2
      · rcases ht with ht | ht
        · exact .inl (ht2.trans ht)
        · exact .inr (by omega)
      · exact .inr ht2
    · rw [if_neg h0]
      obtain ⟨r1, r2⟩ := ih h hr' (fun m x hx => by have := hc m x hx; simp only [cnt] at this; rw [if_neg (by omega)] at this; omega)
      refine ⟨r1, fun m x hx => ?_⟩
      obtain ⟨z, hz, hu2, ht2⟩ := r2 m x hx
      exact ⟨z, hz, by simp only [cnt]; rw [if_neg (by omega)]; omega, ht2⟩
/-- What is added is counted. -/
theorem incAll_get {xs : List Int} : ∀ {s : List Slot}, StoreP s → (∀ x ∈ xs, 0 ≤ x ∧ x ≤ 8) → (∀ (m : Nat) (x : Slot), s[m]? = some x → x.uses + cnt (m + 1) xs ≤ 99 ∧ (0 < cnt (m + 1) xs → 1 ≤ x.uses)) →
    StoreP (incAll s xs) ∧ ∀ (m : Nat) (x : Slot), s[m]? = some x → (incAll s xs)[m]? = some ⟨x.text, x.uses + cnt (m + 1) xs⟩ := by
  induction xs with
  | nil => intro s h _ _; exact ⟨h, fun m x hx => by simpa [cnt, incAll] using hx⟩
  | cons a xs ih =>
    intro s h hr hc
    have ha := hr a List.mem_cons_self
    have hr' : ∀ x ∈ xs, 0 ≤ x ∧ x ≤ 8 := fun x hx => hr x (List.mem_cons_of_mem _ hx)
    simp only [incAll]
    by_cases h0 : 0 < a
    · rw [if_pos h0]
      obtain ⟨x0, hx0⟩ := getQ (show (a - 1).toNat < s.length by rw [h.len]; omega)
      have hca := hc _ _ hx0
      simp only [cnt, show (((a - 1).toNat : Nat) : Int) + 1 = a by omega, if_pos] at hca
      have hcn := cnt_le a xs
      have h1 : 1 ≤ x0.uses := hca.2 (by omega)
      have h2 : x0.uses ≤ 98 := by have := hca.1; omega
      have hd := h.inc hx0 h1 h2
      have get : ∀ (m : Nat) (x : Slot), s[m]? = some x → (incS s (a - 1).toNat)[m]? = some ⟨x.text, x.uses + (if a = (m : Int) + 1 then 1 else 0)⟩ := by
        intro m x hx
        by_cases e : m = (a - 1).toNat
        · subst e
          rw [incS_eq hx, List.getElem?_set_self (ltQ hx), if_pos (by omega)]
        · unfold incS; rw [List.getElem?_set_ne (fun h => e h.symm), hx, if_neg (by omega)]; simp
      obtain ⟨r1, r2⟩ := ih hd hr' (fun m y hy => by
        obtain ⟨x, hx⟩ := getQ (show m < s.length by have := ltQ hy; rwa [incS_len] at this)
        obtain rfl := Option.some.inj (hy.symm.trans (get m x hx))
        have := hc m x hx
        simp only [cnt] at this
        have h3 := h.ok m x hx
        have h4 := cnt_le ((m : Int) + 1) xs
        refine ⟨by simp only; omega, fun h5 => ?_⟩
        simp only
        have := this.2 (by omega)
        split <;> omega)
      refine ⟨r1, fun m x hx => ?_⟩
      rw [r2 m _ (get m x hx)]
      simp only [cnt]
      congr 2; omega
    · rw [if_neg h0]
      obtain ⟨r1, r2⟩ := ih h hr' (fun m x hx => by have := hc m x hx; simp only [cnt] at this; rw [if_neg (by omega)] at this; simpa using this)
      refine ⟨r1, fun m x hx => ?_⟩
      rw [r2 m x hx]
      simp only [cnt]
      rw [if_neg (by omega)]
      congr 2; omega

/-! ### where a piece is put -/
theorem e0_iff {t : ByteArray} : t.toList = [] ↔ t = e0 := toList_nil
theorem textB {a b : ByteArray} : (a.toList == b.toList) = true ↔ a = b := ⟨fun h => str_eq (by simpa using h), fun h => by simp [h]⟩
def goRound (d : Nat) (p : Int) : Int := (p - 1 + d) % 8 + 1
theorem goRound_bd {d : Nat} {p : Int} : 1 ≤ goRound d p ∧ goRound d p ≤ 8 := by unfold goRound; omega
theorem goRound_succ {d : Nat} {p : Int} : goRound d (p % 8 + 1) = goRound (d + 1) p := by unfold goRound; omega
theorem scan_hit {s : List Slot} {t : ByteArray} {m : Nat} {x : Slot} (hx : s[m]? = some x) (ht : x.text = t) (hu : ∀ (j : Nat) (y : Slot), s[j]? = some y → y.text = t → j = m) (hl : s.length = 8) :
    ∀ (n d : Nat) (p free : Int), 1 ≤ p → p ≤ 8 → d < n → goRound d p = (m : Int) + 1 → scan s t n p free = ((m : Int) + 1, true) := by
  intro n
  induction n with
  | zero => intro d p free h1 h8 hd; omega
  | succ n ih =>
    intro d p free h1 h8 hd hg
    obtain ⟨y, hy⟩ := getQ (show (p - 1).toNat < s.length by rw [hl]; omega)
    unfold scan
    rw [getD_of hy]
    cases hb : (y.text.toList == t.toList)
    · simp only [Bool.false_eq_true, if_false]
      cases d with
      | zero =>
        exfalso
        unfold goRound at hg
        have : (p - 1).toNat = m := by omega
        rw [this] at hy
        obtain rfl := Option.some.inj (hy.symm.trans hx)
        rw [ht] at hb
        simp at hb
      | succ d => exact ih d _ _ (by omega) (by omega) (by omega) (by rw [goRound_succ]; exact hg)
    · simp only [if_true]
      have := hu _ y hy (textB.1 hb)
      rw [show p = (m : Int) + 1 by omega]
theorem probe_free {s : List Slot} (hl : s.length = 8) : ∀ (n : Nat) (p : Int), 1 ≤ p → p ≤ 8 → probe s n p ≠ 0 → ∃ (m : Nat) (x : Slot), probe s n p = (m : Int) + 1 ∧ s[m]? = some x ∧ x.uses = 0 := by
  intro n
  induction n with
  | zero => intro p _ _ h; exact absurd rfl h
  | succ n ih =>
    intro p h1 h8 h
    obtain ⟨y, hy⟩ := getQ (show (p - 1).toNat < s.length by rw [hl]; omega)
    unfold probe at h ⊢
    rw [getD_of hy] at h ⊢
    by_cases h0 : y.uses = 0
    · rw [if_pos h0]; exact ⟨(p - 1).toNat, y, by omega, hy, h0⟩
    · rw [if_neg h0] at h ⊢; exact ih _ (by omega) (by omega) h
theorem scan_miss {s : List Slot} {t : ByteArray} (hn : ∀ (j : Nat) (y : Slot), s[j]? = some y → y.text ≠ t) (hl : s.length = 8) :
    ∀ (n : Nat) (p free : Int), 1 ≤ p → p ≤ 8 → scan s t n p free = (if free = 0 then probe s n p else free, false) := by
  intro n
  induction n with
  | zero => intro p free _ _; unfold scan probe; split <;> simp_all
  | succ n ih =>
    intro p free h1 h8
    obtain ⟨y, hy⟩ := getQ (show (p - 1).toNat < s.length by rw [hl]; omega)
    have hb : (y.text.toList == t.toList) = false := by
      cases hb : (y.text.toList == t.toList)
      · rfl
      · exact absurd (textB.1 hb) (hn _ y hy)
    unfold scan probe
    rw [getD_of hy, hb]
    simp only [Bool.false_eq_true, if_false]
    rw [ih _ _ (by omega) (by omega)]
    by_cases h0 : y.uses = 0
    · by_cases hf : free = 0
      · rw [if_pos (show y.uses = 0 ∧ free = 0 from ⟨h0, hf⟩), if_neg (by omega), if_pos hf, if_pos h0]
      · rw [if_neg (show ¬ (y.uses = 0 ∧ free = 0) from fun h => hf h.2), if_neg hf, if_neg hf]
    · rw [if_neg (show ¬ (y.uses = 0 ∧ free = 0) from fun h => h0 h.1), if_neg h0]
/-- Where a piece is put, and what is there. -/
inductive PutAt (s : List Slot) (t : ByteArray) (r : Int) : Prop where
  | no (h : r = 0)
  | old (m : Nat) (x : Slot) (h : r = (m : Int) + 1) (hx : s[m]? = some x) (ht : x.text = t) (hu : x.uses < 99)
  | fresh (m : Nat) (x : Slot) (h : r = (m : Int) + 1) (hx : s[m]? = some x) (hu : x.uses = 0) (hn : ∀ (j : Nat) (y : Slot), s[j]? = some y → y.text ≠ t)
theorem find_cases (s : List Slot) (t : ByteArray) : (idx (fun o : Slot => o.text.toList == t.toList) s = -1 ∧ ∀ (j : Nat) (y : Slot), s[j]? = some y → y.text ≠ t) ∨
    ∃ (m : Nat) (x : Slot), idx (fun o : Slot => o.text.toList == t.toList) s = m ∧ s[m]? = some x ∧ x.text = t := by
  have hb := idx_bd (fun o : Slot => o.text.toList == t.toList) s
  by_cases h : 0 ≤ idx (fun o : Slot => o.text.toList == t.toList) s
  · obtain ⟨x, hx, ht⟩ := idx_get h
    exact .inr ⟨_, x, by omega, hx, textB.1 ht⟩
  · refine .inl ⟨by omega, fun j y hy he => h (hb.2.2.2 ?_)⟩
    rw [List.any_eq_true]
    exact ⟨y, List.mem_of_getElem? hy, textB.2 he⟩
theorem putAt_cases {s : List Slot} (h : StoreP s) {t : ByteArray} (ht : t ≠ e0) : PutAt s t (putAt s t) ∧ putAt2 s t = putAt s t := by
  rcases find_cases s t with ⟨hi, hn⟩ | ⟨m, x, hi, hx, he⟩
  · have e1 : putAt s t = probe s 8 (placeOf t) := by unfold putAt; rw [if_pos hi]
    have e2 : scanS s t = (probe s 8 (placeOf t), false) := by unfold scanS; rw [scan_miss hn h.len 8 _ 0 placeOf_bd.1 placeOf_bd.2]; simp
    by_cases h0 : probe s 8 (placeOf t) = 0
    · refine ⟨.no (by rw [e1, h0]), ?_⟩
      unfold putAt2; rw [e2]; simp [h0, e1]
    · obtain ⟨m, x, e3, hx, hu⟩ := probe_free h.len 8 _ placeOf_bd.1 placeOf_bd.2 h0
      refine ⟨.fresh m x (by rw [e1, e3]) hx hu hn, ?_⟩
      unfold putAt2
      rw [e2, e1, e3]
      simp only [show ((m : Int) + 1 - 1).toNat = m by omega, getD_of hx, hu]
      rw [if_neg (by omega)]
  · have hok := h.ok m x hx
    have e2 : scanS s t = ((m : Int) + 1, true) := by
      unfold scanS
      have hm : m < 8 := by have := ltQ hx; rw [h.len] at this; exact this
      have hp := placeOf_bd (s := t)
      refine scan_hit hx he (fun j y hy hyt => h.uniq j m y x hy hx (hyt.trans he.symm) (hyt ▸ ht)) h.len 8 (((m : Int) + 1 - placeOf t) % 8).toNat _ 0 hp.1 hp.2 (by omega) ?_
      unfold goRound; omega
    have e1 : putAt s t = if x.uses = 99 then 0 else (m : Int) + 1 := by
      unfold putAt; rw [if_neg (by omega), hi, Int.toNat_natCast, getD_of hx]
    have e3 : putAt2 s t = if x.uses = 99 then 0 else (m : Int) + 1 := by
      unfold putAt2
      rw [e2]
      simp only [show ((m : Int) + 1 - 1).toNat = m by omega, getD_of hx]
      by_cases h9 : x.uses = 99
      · rw [if_pos (by omega), if_pos h9]
      · rw [if_neg (by omega), if_neg h9]
    refine ⟨?_, e3.trans e1.symm⟩
    by_cases h9 : x.uses = 99
    · exact .no (by rw [e1, if_pos h9])
    · exact .old m x (by rw [e1, if_neg h9]) hx he (by omega)
theorem StoreP.more {s : List Slot} (h : StoreP s) {t : ByteArray} (ht : t ≠ e0) (hk : tOk t = true) {r : Int} (hr : PutAt s t r) : StoreP (moreS s t r) := by
  unfold moreS
  cases hr with
  | no h0 => rw [if_pos h0]; exact h
  | old m x e hx he hu =>
    have hok := h.ok m x hx
    rw [if_neg (by omega), e, show ((m : Int) + 1 - 1).toNat = m by omega, getD_of hx]
    refine h.set hx ⟨hk, by simp; omega, by simp; omega, ?_⟩ (.inr (.inl he.symm))
    constructor
    · intro h5; exact absurd h5 ht
    · intro h5; simp at h5; omega
  | fresh m x e hx hu hn =>
    rw [if_neg (by omega), e, show ((m : Int) + 1 - 1).toNat = m by omega, getD_of hx, hu]
    refine h.set hx ⟨hk, by simp, by simp, ?_⟩ (.inr (.inr hn))
    constructor
    · intro h5; exact absurd h5 ht
    · intro h5; simp at h5
end Go.Proofs.Ytpobgjkmjlmafaa

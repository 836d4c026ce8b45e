/- Plain Lean: what the pool functions compute, on lists; no memory and no program in sight. -/
import Derived.Test.YtpobgjkmjlmafaaBase
namespace Go.Proofs.Ytpobgjkmjlmafaa
open Go.RowKit Go.Proofs.YtpobgjkmjlmafaaW.PrintWords
set_option linter.unusedVariables false
set_option linter.unusedSimpArgs false

def inR (a b c : Int) : Bool := decide (b ≤ a) && decide (a ≤ c)
theorem inR_iff {a b c : Int} : inR a b c = true ↔ b ≤ a ∧ a ≤ c := by simp [inR]
theorem inR_no {a b c : Int} : inR a b c = false ↔ ¬ (b ≤ a ∧ a ≤ c) := by rw [← inR_iff]; simp

theorem str_eq {a b : ByteArray} (h : a.toList = b.toList) : a = b := by
  rw [ByteArray.toList_eq, ByteArray.toList_eq] at h
  cases a; cases b; simp at h; rw [h]
def eqS (a b : ByteArray) : Bool := a.toList == b.toList
theorem eqS_iff {a b : ByteArray} : eqS a b = true ↔ a = b := by
  constructor
  · intro h; exact str_eq (by simpa [eqS] using h)
  · rintro rfl; simp [eqS]
theorem eqS_no {a b : ByteArray} : eqS a b = false ↔ a ≠ b := by rw [Ne, ← eqS_iff]; simp

def e0 : ByteArray := ⟨#[]⟩
theorem size_toList (s : ByteArray) : s.toList.length = s.size := by rw [ByteArray.toList_eq, Array.length_toList]; rfl
theorem toList_nil {s : ByteArray} : s.toList = [] ↔ s = e0 := by
  constructor
  · intro h; exact str_eq (by rw [h, ByteArray.toList_eq]; rfl)
  · rintro rfl; rw [ByteArray.toList_eq]; rfl

/-! ### pieces -/
def ltr (b : UInt8) : Bool := inR (b.toNat : Int) 97 100
def tOk (s : ByteArray) : Bool := s.toList.all ltr && decide (s.size ≤ 4)
theorem all_snoc {α} {xs : List α} {x : α} {k : Nat} (h : xs[k]? = some x) (f : α → Bool) : (xs.take (k + 1)).all f = ((xs.take k).all f && f x) := by
  rw [List.take_add_one, h]; simp
theorem all_no {α} {xs : List α} {x : α} {k : Nat} (h : xs[k]? = some x) (f : α → Bool) (hf : f x = false) : xs.all f = false := by
  rw [List.all_eq_false]
  exact ⟨x, List.mem_of_getElem? h, by simp [hf]⟩
theorem byte_at {s : ByteArray} {k : Nat} (h : k < s.size) : s.toList[k]? = some s[k] := by
  rw [ByteArray.toList_eq, Array.getElem?_toList, Array.getElem?_eq_getElem h]; rfl

/-! ### names -/
def isNm (s : ByteArray) : Bool := s.toList == [65] || (s.toList == [66] || (s.toList == [67] || s.toList == [68]))
theorem isNm_eq {s : ByteArray} : isNm s = (decide (s.size = 1) && (s.toList.all fun b => inR (b.toNat : Int) 65 68)) := by
  rw [← size_toList]
  unfold isNm
  generalize s.toList = l
  match l with
  | [] => simp
  | [b] =>
    have : ∀ b : UInt8, ([b] == [65] || ([b] == [66] || ([b] == [67] || [b] == [68]))) = inR (b.toNat : Int) 65 68 := by
      intro b
      rw [Bool.eq_iff_iff, inR_iff]
      have hb : ∀ c : UInt8, b = c ↔ b.toNat = c.toNat := fun c => UInt8.toNat_inj.symm
      simp [hb]
      omega
    have h := this b
    simp only [List.length_singleton, List.all_cons, List.all_nil, Bool.and_true, decide_true, Bool.true_and]
    exact h
  | a :: b :: l => simp

/-! ### all below a number -/
def allN (f : Nat → Bool) (n : Nat) : Bool := (List.range n).all f
theorem allN_zero (f : Nat → Bool) : allN f 0 = true := rfl
theorem allN_succ (f : Nat → Bool) (n : Nat) : allN f (n + 1) = (allN f n && f n) := by
  unfold allN; rw [List.range_succ, List.all_append]; simp
theorem allN_iff {f : Nat → Bool} {n : Nat} : allN f n = true ↔ ∀ i < n, f i = true := by
  unfold allN; simp
theorem allN_no {f : Nat → Bool} {n k : Nat} (h : k < n) (hf : f k = false) : allN f n = false := by
  cases hh : allN f n
  · rfl
  · rw [allN_iff.1 hh k h] at hf; cases hf

/-! ### the slot store -/
def slotOk (x : Slot) : Bool := tOk x.text && inR x.uses 0 99 && ((x.text.toList == []) == (x.uses == 0))
def hasText (t : ByteArray) (s : List Slot) : Bool := s.any fun o => o.text.toList == t.toList
def dupIn (x : Slot) (pre : List Slot) : Bool := !(x.text.toList == []) && hasText x.text pre
def storeAt (s : List Slot) (i : Nat) : Bool := slotOk (s.getD i Slot.z) && !dupIn (s.getD i Slot.z) (s.take i)
def storeOk (s : List Slot) : Bool := allN (storeAt s) s.length && decide (s.length = 8)
theorem getD_of {α} {xs : List α} {k : Nat} {x d : α} (h : xs[k]? = some x) : xs.getD k d = x := by rw [List.getD_eq_getElem?_getD, h]; rfl
theorem storeAt_eq {s : List Slot} {i : Nat} {x : Slot} (h : s[i]? = some x) : storeAt s i = (slotOk x && !dupIn x (s.take i)) := by
  unfold storeAt; rw [getD_of h]
theorem storeOk_len {s : List Slot} (h : storeOk s = true) : s.length = 8 := by
  simp [storeOk] at h; exact h.2
theorem hasText_snoc {t : ByteArray} {s : List Slot} {x : Slot} {k : Nat} (h : s[k]? = some x) : hasText t (s.take (k + 1)) = (hasText t (s.take k) || x.text.toList == t.toList) := by
  unfold hasText; rw [take_snoc h]; simp

/-! ### volumes -/
def volOk (v : Vol) : Bool := v.blocks.all (fun p => inR p 0 8) && (isNm v.name && inR (v.blocks.length : Int) 1 6)
def cnt (p : Int) : List Int → Int
  | [] => 0
  | x :: xs => (if x = p then 1 else 0) + cnt p xs
theorem cnt_snoc (p x : Int) (xs : List Int) : cnt p (xs ++ [x]) = cnt p xs + if x = p then 1 else 0 := by
  induction xs with
  | nil => simp [cnt]
  | cons y ys ih => simp only [List.cons_append, cnt, ih]; omega
theorem cnt_le (p : Int) (xs : List Int) : 0 ≤ cnt p xs ∧ cnt p xs ≤ xs.length := by
  induction xs with
  | nil => simp [cnt]
  | cons y ys ih => simp only [cnt, List.length_cons]; split <;> omega
def uses (p : Int) : List Vol → Int
  | [] => 0
  | x :: xs => cnt p x.blocks + uses p xs
theorem uses_snoc (p : Int) (x : Vol) (xs : List Vol) : uses p (xs ++ [x]) = uses p xs + cnt p x.blocks := by
  induction xs with
  | nil => simp [uses]
  | cons y ys ih => simp only [List.cons_append, uses, ih]; omega
/-- Bounds that keep all counters from wrapping. -/
structure SmallV (vs : List Vol) : Prop where
  len : vs.length ≤ 1048576
  blocks : ∀ v ∈ vs, v.blocks.length ≤ 1048576
  name : ∀ v ∈ vs, v.name.size ≤ 1048576
theorem SmallV.take {vs : List Vol} (h : SmallV vs) (k : Nat) : SmallV (vs.take k) := ⟨Nat.le_trans (List.length_take_le' _ _) h.len, fun v hv => h.blocks v (List.mem_of_mem_take hv), fun v hv => h.name v (List.mem_of_mem_take hv)⟩
theorem uses_le {p : Int} {vs : List Vol} (h : SmallV vs) : 0 ≤ uses p vs ∧ uses p vs ≤ vs.length * 1048576 := by
  replace h := h.blocks
  induction vs with
  | nil => simp [uses]
  | cons y ys ih =>
    have := ih (fun v hv => h v (List.mem_cons_of_mem _ hv))
    have := h y List.mem_cons_self
    have := cnt_le p y.blocks
    simp only [uses, List.length_cons]
    omega
structure SmallS (s : List Slot) : Prop where
  len : s.length ≤ 1048576
  text : ∀ x ∈ s, x.text.size ≤ 1048576

/-! ### pools -/
def volsAt (vs : List Vol) (k : Nat) : Bool := volOk (vs.getD k Vol.z) && !(decide (0 < k) && !Op.bytesLess (vs.getD (k - 1) Vol.z).name.toList (vs.getD k Vol.z).name.toList)
def usesAt (p : Pool) (k : Nat) : Bool := (p.slots.getD k Slot.z).uses == uses (k + 1) p.vols
def poolOk (p : Pool) : Bool := storeOk p.slots && decide (p.vols.length ≤ 4) && allN (volsAt p.vols) p.vols.length && allN (usesAt p) 8
structure SmallP (p : Pool) : Prop where
  slots : SmallS p.slots
  vols : SmallV p.vols
structure PoolIn (w : World) (A0 A1 : Option Addr) (c0 c1 : Nat) (p : Pool) : Prop where
  s : kSlot.C w A0 p.slots.length p.slots
  sc : p.slots.length ≤ c0
  v : kVol.C w A1 p.vols.length p.vols
  vc : p.vols.length ≤ c1
theorem PoolIn.bel {w w' : World} {A0 A1 : Option Addr} {c0 c1 : Nat} {p : Pool} (h : PoolIn w A0 A1 c0 c1 p) (hb : Below w.heap.size w w') : PoolIn w' A0 A1 c0 c1 p :=
  ⟨Kd.C_below h.s hb, h.sc, Kd.C_below h.v hb, h.vc⟩
theorem PoolIn.alloc {w : World} {A0 A1 : Option Addr} {c0 c1 : Nat} {p : Pool} (h : PoolIn w A0 A1 c0 c1 p) (o : Obj) : PoolIn (w.alloc o) A0 A1 c0 c1 p := h.bel (bel_alloc (Below.refl _ _) o)

/-! ### the first that .. -/
def idx {α} (f : α → Bool) (xs : List α) : Int := match xs.findIdx? f with | some i => i | none => -1
theorem any_snoc {α} {xs : List α} {x : α} {k : Nat} (h : xs[k]? = some x) (f : α → Bool) : (xs.take (k + 1)).any f = ((xs.take k).any f || f x) := by
  rw [take_snoc h, List.any_append]; simp
theorem idx_hit {α} {xs : List α} {x : α} {k : Nat} {f : α → Bool} (h : xs[k]? = some x) (hn : (xs.take k).any f = false) (hf : f x = true) : idx f xs = k := by
  have h2 : xs.findIdx? f = some k := by
    rw [List.findIdx?_eq_some_iff_getElem]
    obtain ⟨hk, rfl⟩ := List.getElem?_eq_some_iff.1 h
    refine ⟨hk, hf, fun j hj => ?_⟩
    rw [List.any_eq_false] at hn
    exact hn _ (by rw [List.mem_take_iff_getElem]; exact ⟨j, by omega, rfl⟩)
  unfold idx; rw [h2]
theorem idx_none {α} {xs : List α} {f : α → Bool} (h : xs.any f = false) : idx f xs = -1 := by
  have h2 : xs.findIdx? f = none := by
    rw [List.findIdx?_eq_none_iff]; rw [List.any_eq_false] at h; intro x hx; simpa using h x hx
  unfold idx; rw [h2]
theorem idx_bd {α} (f : α → Bool) (xs : List α) : -1 ≤ idx f xs ∧ idx f xs < xs.length ∧ (0 ≤ idx f xs ↔ xs.any f = true) := by
  cases h : xs.any f
  · rw [idx_none h]; simp; omega
  · unfold idx
    cases h2 : xs.findIdx? f with
    | none => rw [List.findIdx?_eq_none_iff] at h2; rw [List.any_eq_true] at h; obtain ⟨x, hx, hf⟩ := h; rw [h2 x hx] at hf; cases hf
    | some i => rw [List.findIdx?_eq_some_iff_getElem] at h2; obtain ⟨hi, _⟩ := h2; simp; omega
theorem idx_get {α} {f : α → Bool} {xs : List α} (h : 0 ≤ idx f xs) : ∃ x, xs[(idx f xs).toNat]? = some x ∧ f x = true := by
  unfold idx at *
  cases h2 : xs.findIdx? f with
  | none => rw [h2] at h; simp at h
  | some i => rw [List.findIdx?_eq_some_iff_getElem] at h2; obtain ⟨hi, hf, _⟩ := h2; exact ⟨_, by simp only [Int.toNat_natCast]; exact List.getElem?_eq_getElem hi, hf⟩

/-! ### reading a pool -/
def volIdx (vs : List Vol) (name : ByteArray) : Int := idx (fun v => v.name.toList == name.toList) vs
def volAt (vs : List Vol) (i : Int) : Vol := vs.getD i.toNat Vol.z
def hasBlk (vs : List Vol) (name : ByteArray) (b : Int) : Int :=
  if volIdx vs name < 0 then -1 else if inR b 0 ((volAt vs (volIdx vs name)).blocks.length - 1) then volIdx vs name else -1
def lgBlks (vs : List Vol) (name : ByteArray) : Int := if volIdx vs name < 0 then 0 else (volAt vs (volIdx vs name)).blocks.length
def placeAt (vs : List Vol) (name : ByteArray) (b : Int) : Int := (volAt vs (volIdx vs name)).blocks.getD b.toNat 0
def slotText (s : List Slot) (place : Int) : ByteArray := (s.getD (place - 1).toNat Slot.z).text
def readOf (p : Pool) (name : ByteArray) (b : Int) : ByteArray := if 0 < placeAt p.vols name b then slotText p.slots (placeAt p.vols name b) else e0
def readOk (p : Pool) (name : ByteArray) (b : Int) : Bool := decide (0 ≤ hasBlk p.vols name b) && poolOk p
def freeN : List Slot → Int
  | [] => 0
  | x :: xs => (if x.uses = 0 then 1 else 0) + freeN xs
theorem freeN_snoc (x : Slot) (xs : List Slot) : freeN (xs ++ [x]) = freeN xs + if x.uses = 0 then 1 else 0 := by
  induction xs with
  | nil => simp [freeN]
  | cons y ys ih => simp only [List.cons_append, freeN, ih]; omega
theorem freeN_le (xs : List Slot) : 0 ≤ freeN xs ∧ freeN xs ≤ xs.length := by
  induction xs with
  | nil => simp [freeN]
  | cons y ys ih => simp only [freeN, List.length_cons]; split <;> omega
def storeFree (s : List Slot) : Int := if storeOk s then freeN s else -1

/-! ### what a valid pool is like -/
theorem poolOk_parts {p : Pool} (h : poolOk p = true) : storeOk p.slots = true ∧ p.vols.length ≤ 4 ∧ allN (volsAt p.vols) p.vols.length = true ∧ allN (usesAt p) 8 = true := by
  simp [poolOk] at h; exact ⟨h.1.1.1, h.1.1.2, h.1.2, h.2⟩
theorem poolOk_vol {p : Pool} (h : poolOk p = true) {i : Nat} {x : Vol} (hx : p.vols[i]? = some x) : volOk x = true := by
  have h1 := allN_iff.1 (poolOk_parts h).2.2.1 i (ltQ hx)
  unfold volsAt at h1; rw [getD_of hx] at h1; simp at h1; exact h1.1
theorem volOk_parts {v : Vol} (h : volOk v = true) : (∀ x ∈ v.blocks, 0 ≤ x ∧ x ≤ 8) ∧ isNm v.name = true ∧ 1 ≤ v.blocks.length ∧ v.blocks.length ≤ 6 := by
  simp [volOk, inR] at h; exact ⟨h.1, h.2.1, by omega, by omega⟩
theorem hasBlk_yes {vs : List Vol} {name : ByteArray} {b : Int} (h : 0 ≤ hasBlk vs name b) : hasBlk vs name b = volIdx vs name ∧ 0 ≤ volIdx vs name ∧ ∃ v x, vs[(volIdx vs name).toNat]? = some v ∧ v.name = name ∧ volAt vs (volIdx vs name) = v ∧ 0 ≤ b ∧ v.blocks[b.toNat]? = some x ∧ placeAt vs name b = x := by
  unfold hasBlk at *
  by_cases h1 : volIdx vs name < 0
  · rw [if_pos h1] at h; omega
  · rw [if_neg h1] at h ⊢
    cases h2 : inR b 0 ((volAt vs (volIdx vs name)).blocks.length - 1)
    · rw [h2] at h; simp at h
    · rw [if_pos rfl]
      obtain ⟨v, hv, hn⟩ := idx_get (f := fun v : Vol => v.name.toList == name.toList) (xs := vs) (show 0 ≤ volIdx vs name by omega)
      have hva : volAt vs (volIdx vs name) = v := getD_of hv
      rw [hva] at h2
      rw [inR_iff] at h2
      obtain ⟨x, hx⟩ := getQ (show b.toNat < v.blocks.length by omega)
      exact ⟨rfl, by omega, v, x, hv, str_eq (by simpa using hn), hva, by omega, hx, by unfold placeAt; rw [hva]; exact getD_of hx⟩
end Go.Proofs.Ytpobgjkmjlmafaa

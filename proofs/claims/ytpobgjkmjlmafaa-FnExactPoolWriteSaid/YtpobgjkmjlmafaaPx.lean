/- Plain law: the four changes of a pool keep it valid, and what they keep of its slots. -/
import Derived.Test.YtpobgjkmjlmafaaPw
namespace Go.Proofs.Ytpobgjkmjlmafaa
open Go.RowKit Go.Proofs.YtpobgjkmjlmafaaW.PrintWords
set_option linter.unusedVariables false
set_option linter.unusedSimpArgs false

theorem PoolP.slot {p : Pool} (h : PoolP p) {m : Nat} (hm : m < 8) : ∃ x, p.slots[m]? = some x := getQ (by rw [h.s.len]; exact hm)
theorem PoolP.blk {p : Pool} (h : PoolP p) {i : Nat} {v : Vol} (hv : p.vols[i]? = some v) {k : Nat} {x : Int} (hx : v.blocks[k]? = some x) : 0 ≤ x ∧ x ≤ 8 := (volOk_parts (h.v.v i v hv)).1 x (List.mem_of_getElem? hx)
theorem PoolP.drops {p : Pool} (h : PoolP p) {i : Nat} {v : Vol} (hv : p.vols[i]? = some v) {bs : List Int} (hb : ∀ x ∈ bs, 0 ≤ x ∧ x ≤ 8) (hc : ∀ m : Nat, cnt ((m : Int) + 1) bs ≤ cnt (m + 1) v.blocks) :
    StoreP (dropAll p.slots bs) ∧ ∀ (m : Nat) (x : Slot), p.slots[m]? = some x → ∃ y, (dropAll p.slots bs)[m]? = some y ∧ y.uses = x.uses - cnt (m + 1) bs ∧ (y.text = x.text ∨ y.uses = 0) :=
  dropAll_get h.s hb fun m x hx => by rw [h.uses m x hx]; exact Int.le_trans (hc m) (uses_mem hv)
theorem goneF_some {p q : Pool} {name : ByteArray} (h : goneF p name = some q) : ∃ (i : Nat) (v : Vol), volIdx p.vols name = i ∧ p.vols[i]? = some v ∧ v.name = name ∧ q = ⟨dropAll p.slots v.blocks, p.vols.eraseIdx i⟩ := by
  unfold goneF at h
  by_cases hn : volIdx p.vols name < 0
  · rw [if_pos hn] at h; cases h
  · rw [if_neg hn] at h
    obtain ⟨i, v, hi, hv, hvn⟩ := volIdx_yes hn
    rw [hi, Int.toNat_natCast] at h
    unfold volAt at h
    rw [Int.toNat_natCast, getD_of hv] at h
    exact ⟨i, v, hi, hv, hvn, (Option.some.inj h).symm⟩
theorem slot_back {s t : List Slot} {f : Nat → Slot → Slot → Prop} (hl : t.length = s.length) (h : ∀ (m : Nat) (x : Slot), s[m]? = some x → ∃ y, t[m]? = some y ∧ f m x y) {m : Nat} {y : Slot} (hy : t[m]? = some y) : ∃ x, s[m]? = some x ∧ f m x y := by
  obtain ⟨x, hx⟩ := getQ (show m < s.length by rw [← hl]; exact ltQ hy)
  obtain ⟨z, hz, hf⟩ := h m x hx
  obtain rfl := Option.some.inj (hy.symm.trans hz)
  exact ⟨x, hx, hf⟩
theorem goneF_ok {p q : Pool} {name : ByteArray} (hp : PoolP p) (h : goneF p name = some q) : PoolP q := by
  obtain ⟨i, v, hi, hv, hvn, rfl⟩ := goneF_some h
  obtain ⟨h1, h2⟩ := hp.drops hv (volOk_parts (hp.v.v i v hv)).1 (fun m => Int.le_refl _)
  refine ⟨h1, hp.v.erase i, fun m y hy => ?_⟩
  obtain ⟨x, hx, hu, _⟩ := slot_back (dropAll_len _ _) h2 hy
  rw [hu, uses_erase hv, hp.uses m x hx]
theorem makeF_some {p q : Pool} {name : ByteArray} {size : Int} (h : makeF p name size = some q) : isNm name = true ∧ volIdx p.vols name < 0 ∧ 1 ≤ size ∧ size ≤ 6 ∧ q = ⟨p.slots, insAt (posOf name p.vols) ⟨name, List.replicate size.toNat 0⟩ p.vols⟩ := by
  unfold makeF at h
  split at h
  · rename_i hc
    have := inR_iff.1 hc.2.2
    exact ⟨hc.1, hc.2.1, this.1, this.2, (Option.some.inj h).symm⟩
  · cases h
theorem cnt_rep (p x : Int) (n : Nat) (h : x ≠ p) : cnt p (List.replicate n x) = 0 := by
  induction n with
  | zero => rfl
  | succ n ih => rw [List.replicate_succ]; unfold cnt; rw [if_neg h, ih]; rfl
theorem makeV_ok {name : ByteArray} {size : Int} (hn : isNm name = true) (h1 : 1 ≤ size) (h6 : size ≤ 6) : volOk ⟨name, List.replicate size.toNat 0⟩ = true := by
  unfold volOk
  rw [hn]
  have : inR ((List.replicate size.toNat (0 : Int)).length : Int) 1 6 = true := by rw [inR_iff, List.length_replicate]; omega
  simp only [this, Bool.and_true, List.all_eq_true]
  intro x hx
  obtain ⟨_, rfl⟩ := List.mem_replicate.1 hx
  rfl
theorem makeF_ok {p q : Pool} {name : ByteArray} {size : Int} (hp : PoolP p) (h : makeF p name size = some q) : PoolP q := by
  obtain ⟨hn, hi, h1, h6, rfl⟩ := makeF_some h
  refine ⟨hp.s, hp.v.ins (makeV_ok hn h1 h6) hi, fun m x hx => ?_⟩
  rw [uses_insAt, hp.uses m x hx]
  show _ = _ + cnt _ (List.replicate _ _)
  rw [cnt_rep _ _ _ (by omega)]; omega
theorem cloneF_some {p q : Pool} {fr dst : ByteArray} (h : cloneF p fr dst = some q) : ∃ (i : Nat) (v : Vol), volIdx p.vols fr = i ∧ p.vols[i]? = some v ∧ v.name = fr ∧ isNm dst = true ∧ volIdx p.vols dst < 0 ∧ q = ⟨incAll p.slots v.blocks, insAt (posOf dst p.vols) ⟨dst, v.blocks⟩ p.vols⟩ := by
  unfold cloneF at h
  split at h
  · rename_i hc
    obtain ⟨i, v, hi, hv, hvn⟩ := volIdx_yes (show ¬ volIdx p.vols fr < 0 by omega)
    rw [hi] at h
    unfold volAt at h
    rw [Int.toNat_natCast, getD_of hv] at h
    exact ⟨i, v, hi, hv, hvn, hc.2.1, hc.2.2, (Option.some.inj h).symm⟩
  · cases h
theorem PoolP.incs {p : Pool} (h : PoolP p) {i : Nat} {v : Vol} (hv : p.vols[i]? = some v) :
    StoreP (incAll p.slots v.blocks) ∧ ∀ (m : Nat) (x : Slot), p.slots[m]? = some x → (incAll p.slots v.blocks)[m]? = some ⟨x.text, x.uses + cnt (m + 1) v.blocks⟩ := by
  have hb := volOk_parts (h.v.v i v hv)
  refine incAll_get h.s hb.1 fun m x hx => ?_
  have h1 := h.uses m x hx
  have h2 := uses_mem (p := (m : Int) + 1) hv
  have h3 := h.v.uses_le ((m : Int) + 1)
  have h4 := cnt_le ((m : Int) + 1) v.blocks
  constructor
  · omega
  · omega
theorem volOk_name {v : Vol} {t : ByteArray} (h : volOk v = true) (ht : isNm t = true) : volOk ⟨t, v.blocks⟩ = true := by
  unfold volOk at h ⊢
  simp only [Bool.and_eq_true] at h ⊢
  exact ⟨h.1, ht, h.2.2⟩
theorem cloneF_ok {p q : Pool} {fr dst : ByteArray} (hp : PoolP p) (h : cloneF p fr dst = some q) : PoolP q := by
  obtain ⟨i, v, hi, hv, hvn, hd, hdn, rfl⟩ := cloneF_some h
  obtain ⟨h1, h2⟩ := hp.incs hv
  refine ⟨h1, hp.v.ins (volOk_name (hp.v.v i v hv) hd) hdn, fun m y hy => ?_⟩
  obtain ⟨x, hx⟩ := getQ (show m < p.slots.length by rw [← incAll_len p.slots v.blocks]; exact ltQ hy)
  obtain rfl := Option.some.inj (hy.symm.trans (h2 m x hx))
  rw [uses_insAt, hp.uses m x hx]
/-! writing -/
theorem cnt_one (p x : Int) : cnt p [x] = if x = p then 1 else 0 := by simp [cnt]
theorem cnt_one_le {p x : Int} {bs : List Int} {k : Nat} (h : bs[k]? = some x) : cnt p [x] ≤ cnt p bs := by
  rw [cnt_one]
  split
  · rename_i e; subst e; exact cnt_pos (List.mem_of_getElem? h)
  · exact (cnt_le p bs).1
/-- What a write has in hand: the volume, its block, the slots behind the piece given back. -/
structure Wr (p : Pool) (name : ByteArray) (b : Int) (i : Nat) (v : Vol) (x : Int) : Prop where
  idx : volIdx p.vols name = i
  has : hasBlk p.vols name b = i
  vol : p.vols[i]? = some v
  nm : v.name = name
  b0 : 0 ≤ b
  blk : v.blocks[b.toNat]? = some x
  place : placeAt p.vols name b = x
theorem hasBlk_wr {p : Pool} {name : ByteArray} {b : Int} (h : 0 ≤ hasBlk p.vols name b) : ∃ i v x, Wr p name b i v x := by
  obtain ⟨h1, h2, v, x, hv, hn, _, hb, hx, hp⟩ := hasBlk_yes h
  refine ⟨_, v, x, (Int.toNat_of_nonneg h2).symm, ?_, hv, hn, hb, hx, hp⟩
  rw [h1, Int.toNat_of_nonneg h2]
theorem Wr.back {p : Pool} {name : ByteArray} {b : Int} {i : Nat} {v : Vol} {x : Int} (hp : PoolP p) (h : Wr p name b i v x) :
    StoreP (backS p name b) ∧ ∀ (m : Nat) (y : Slot), p.slots[m]? = some y → ∃ z, (backS p name b)[m]? = some z ∧ z.uses = y.uses - cnt (m + 1) [x] ∧ (z.text = y.text ∨ z.uses = 0) := by
  unfold backS
  rw [h.place]
  refine hp.drops h.vol (fun y hy => ?_) (fun m => cnt_one_le h.blk)
  rw [List.mem_singleton.1 hy]; exact hp.blk h.vol h.blk
theorem Wr.set {p : Pool} {name : ByteArray} {b : Int} {i : Nat} {v : Vol} {x : Int} (h : Wr p name b i v x) (pl : Int) :
    setBlk p.vols (volIdx p.vols name).toNat b.toNat pl = p.vols.set i ⟨name, v.blocks.set b.toNat pl⟩ := by
  unfold setBlk
  rw [h.idx, Int.toNat_natCast, getD_of h.vol, h.nm]
theorem Wr.uses {p : Pool} {name : ByteArray} {b : Int} {i : Nat} {v : Vol} {x : Int} (h : Wr p name b i v x) (pl q : Int) :
    Go.Proofs.Ytpobgjkmjlmafaa.uses q (p.vols.set i ⟨name, v.blocks.set b.toNat pl⟩) = Go.Proofs.Ytpobgjkmjlmafaa.uses q p.vols - (if x = q then 1 else 0) + (if pl = q then 1 else 0) := by
  rw [uses_set h.vol, cnt_set h.blk]
  omega
theorem volOk_set {v : Vol} {k : Nat} {pl : Int} (h : volOk v = true) (h0 : 0 ≤ pl) (h8 : pl ≤ 8) : volOk ⟨v.name, v.blocks.set k pl⟩ = true := by
  unfold volOk at h ⊢
  simp only [Bool.and_eq_true, List.all_eq_true] at h ⊢
  refine ⟨fun y hy => ?_, h.2.1, ?_⟩
  · rcases List.mem_or_eq_of_mem_set hy with h1 | rfl
    · exact h.1 y h1
    · rw [inR_iff]; omega
  · rw [List.length_set]; exact h.2.2
inductive WriteOut (p : Pool) (name : ByteArray) (b : Int) (text : ByteArray) (i : Nat) (v : Vol) (x : Int) : Pool → Prop where
  | free (h : text = e0) : WriteOut p name b text i v x ⟨backS p name b, p.vols.set i ⟨name, v.blocks.set b.toNat 0⟩⟩
  | put (m : Nat) (z : Slot) (h : text ≠ e0) (ht : tOk text = true) (hz : (backS p name b)[m]? = some z) (hpa : PutAt (backS p name b) text ((m : Int) + 1)) (hz2 : z.text = text ∧ z.uses < 99 ∨ z.uses = 0 ∧ ∀ (j : Nat) (y : Slot), (backS p name b)[j]? = some y → y.text ≠ text) :
      WriteOut p name b text i v x ⟨(backS p name b).set m ⟨text, z.uses + 1⟩, p.vols.set i ⟨name, v.blocks.set b.toNat ((m : Int) + 1)⟩⟩
theorem writeF_some {p q : Pool} {name : ByteArray} {b : Int} {text : ByteArray} (hp : PoolP p) (h : writeF p name b text = some q) : ∃ i v x, Wr p name b i v x ∧ tOk text = true ∧ WriteOut p name b text i v x q := by
  unfold writeF at h
  split at h
  · rename_i hc
    obtain ⟨i, v, x, hw⟩ := hasBlk_wr hc.1
    refine ⟨i, v, x, hw, hc.2, ?_⟩
    rw [hw.set, hw.set] at h
    by_cases he : text = e0
    · rw [if_pos he] at h
      obtain rfl := Option.some.inj h
      exact .free he
    · rw [if_neg he] at h
      by_cases h0 : putAt (backS p name b) text = 0
      · rw [if_pos h0] at h; cases h
      · rw [if_neg h0] at h
        obtain rfl := Option.some.inj h
        have hpa := (putAt_cases (hw.back hp).1 he).1
        have key : ∀ (m : Nat) (z : Slot), putAt (backS p name b) text = (m : Int) + 1 → (backS p name b)[m]? = some z → putS (backS p name b) text = (backS p name b).set m ⟨text, z.uses + 1⟩ := by
          intro m z e hz
          unfold putS moreS
          rw [e, if_neg (by omega), show ((m : Int) + 1 - 1).toNat = m by omega, getD_of hz]
        cases hpa with
        | no h1 => exact absurd h1 h0
        | old m z h1 hz ht hu => rw [key m z h1 hz, h1]; exact .put m z he hc.2 hz (.old m z rfl hz ht hu) (.inl ⟨ht, hu⟩)
        | fresh m z h1 hz hu hn => rw [key m z h1 hz, h1]; exact .put m z he hc.2 hz (.fresh m z rfl hz hu hn) (.inr ⟨hu, hn⟩)
  · cases h
theorem writeF_ok {p q : Pool} {name : ByteArray} {b : Int} {text : ByteArray} (hp : PoolP p) (h : writeF p name b text = some q) : PoolP q := by
  obtain ⟨i, v, x, hw, htk, ho⟩ := writeF_some hp h
  obtain ⟨h1, h2⟩ := hw.back hp
  have hbl : (backS p name b).length = p.slots.length := by rw [h1.len, hp.s.len]
  have hvol : ∀ pl : Int, 0 ≤ pl → pl ≤ 8 → VolsP (p.vols.set i ⟨name, v.blocks.set b.toNat pl⟩) := fun pl h0 h8 => by
    have := volOk_set (k := b.toNat) (hp.v.v i v hw.vol) h0 h8
    rw [hw.nm] at this
    exact hp.v.set hw.vol hw.nm.symm this
  cases ho with
  | free he =>
    refine ⟨h1, hvol 0 (by omega) (by omega), fun m y hy => ?_⟩
    obtain ⟨y0, hy0, hu, _⟩ := slot_back hbl h2 hy
    rw [hw.uses, hu, hp.uses m y0 hy0, cnt_one, if_neg (show ¬ (0 : Int) = (m : Int) + 1 by omega)]; omega
  | put j z he ht hz hpa hz2 =>
    have hj8 : j < 8 := by have := ltQ hz; rw [h1.len] at this; exact this
    have hms : moreS (backS p name b) text ((j : Int) + 1) = (backS p name b).set j ⟨text, z.uses + 1⟩ := by
      unfold moreS
      rw [if_neg (by omega), show ((j : Int) + 1 - 1).toNat = j by omega, getD_of hz]
    refine ⟨?_, hvol _ (by omega) (by omega), fun m y hy => ?_⟩
    · rw [← hms]; exact h1.more he htk hpa
    · rw [hw.uses]
      by_cases e : m = j
      · subst e
        rw [List.getElem?_set_self (ltQ hz)] at hy
        obtain rfl := Option.some.inj hy
        obtain ⟨y0, hy0, hu, _⟩ := slot_back hbl h2 hz
        rw [if_pos rfl]
        show z.uses + 1 = _
        rw [hu, hp.uses m y0 hy0, cnt_one]
      · rw [List.getElem?_set_ne (fun h => e h.symm)] at hy
        obtain ⟨y0, hy0, hu, _⟩ := slot_back hbl h2 hy
        rw [hu, hp.uses m y0 hy0, cnt_one, if_neg (show ¬ ((j : Int) + 1) = (m : Int) + 1 by omega)]; omega
end Go.Proofs.Ytpobgjkmjlmafaa

/- Pools that lie in an interval of blocks; marks on one leave the others as they were. -/
import Derived.Test.YtpobgjkmjlmafaaMf
import Derived.Test.YtpobgjkmjlmafaaMg
import Derived.Test.YtpobgjkmjlmafaaMh
import Derived.Test.YtpobgjkmjlmafaaMa
import Derived.Test.YtpobgjkmjlmafaaWy
import Derived.Test.YtpobgjkmjlmafaaPx
namespace Go.Proofs.Ytpobgjkmjlmafaa
open Go.RowKit Go.Proofs.YtpobgjkmjlmafaaW.PrintWords Go.Proofs.YtpobgjkmjlmafaaW.PrintLast
set_option linter.unusedVariables false
set_option linter.unusedSimpArgs false

/-- Only blocks from lo up to hi may have changed. -/
def Within (lo hi : Nat) (w w' : World) : Prop := Only w w' (fun k => lo ≤ k ∧ k < hi)
/-- A pool whose blocks lie from lo up to hi. -/
structure At (w : World) (lo hi : Nat) (v0 v1 : Value) (p : Pool) (bvs : List Value) : Prop where
  own : OwnP w lo v0 v1 p bvs
  lt : ∀ k, InP v0 v1 bvs k → k < hi
theorem OwnP.in_ {w : World} {base : Nat} {v0 v1 : Value} {p : Pool} {bvs : List Value} (h : OwnP w base v0 v1 p bvs) {k : Nat} (hk : InP v0 v1 bvs k) : base ≤ k ∧ k < w.heap.size := by
  rcases hk with hk | hk | ⟨b, hb, hk⟩
  · exact ⟨own_block_ge h.s hk, own_block_lt h.s hk⟩
  · exact ⟨own_block_ge h.v.row.row hk, own_block_lt h.v.row.row hk⟩
  · obtain ⟨m, hm⟩ := List.getElem?_of_mem hb
    obtain ⟨x, hx⟩ := getQ (show m < p.vols.length by rw [← h.v.row.len]; exact ltQ hm)
    exact ⟨own_block_ge (h.v.inner m x b hx hm) hk, own_block_lt (h.v.inner m x b hx hm) hk⟩
theorem OwnP.only {w w' : World} {S : Nat → Prop} {base : Nat} {v0 v1 : Value} {p : Pool} {bvs : List Value} (h : OwnP w base v0 v1 p bvs) (ho : Only w w' S) (hS : ∀ k, InP v0 v1 bvs k → ¬ S k) : OwnP w' base v0 v1 p bvs := by
  have mv : ∀ k, InP v0 v1 bvs k → w'.heap[k]? = w.heap[k]? := fun k hk => ho.block k (h.in_ hk).2 (hS k hk)
  refine ⟨own_move2 h.s fun k hk => mv k (.inl hk), ⟨h.v.row.len, own_move2 h.v.row.row fun k hk => mv k (.inr (.inl hk))⟩, fun m x b hx hb => own_move2 (h.v.inner m x b hx hb) fun k hk => mv k (.inr (.inr ⟨b, List.mem_of_getElem? hb, hk⟩)), h.v.apart⟩
theorem OwnP.at {w : World} {lo : Nat} {v0 v1 : Value} {p : Pool} {bvs : List Value} (h : OwnP w lo v0 v1 p bvs) : At w lo w.heap.size v0 v1 p bvs := ⟨h, fun k hk => (h.in_ hk).2⟩
theorem At.bel {w w' : World} {lo hi : Nat} {v0 v1 : Value} {p : Pool} {bvs : List Value} (h : At w lo hi v0 v1 p bvs) (hb : Bel w w') : At w' lo hi v0 v1 p bvs := ⟨h.own.bel hb, h.lt⟩
theorem At.hi_le {w : World} {lo hi : Nat} {v0 v1 : Value} {p : Pool} {bvs : List Value} (h : At w lo hi v0 v1 p bvs) {hi' : Nat} (hh : hi ≤ hi') : At w lo hi' v0 v1 p bvs := ⟨h.own, fun k hk => Nat.lt_of_lt_of_le (h.lt k hk) hh⟩
theorem At.within {w w' : World} {lo hi lo2 hi2 : Nat} {v0 v1 : Value} {p : Pool} {bvs : List Value} (h : At w lo hi v0 v1 p bvs) (ho : Within lo2 hi2 w w') (hd : hi ≤ lo2 ∨ hi2 ≤ lo) : At w' lo hi v0 v1 p bvs :=
  ⟨h.own.only ho fun k hk ⟨h1, h2⟩ => by have := h.lt k hk; have := (h.own.in_ hk).1; omega, h.lt⟩
theorem At.reads {w : World} {lo hi : Nat} {v0 v1 : Value} {p : Pool} {bvs : List Value} (h : At w lo hi v0 v1 p bvs) : ∃ A0 A1 c0 c1, v0 = .slice A0 p.slots.length c0 ∧ v1 = .slice A1 p.vols.length c1 ∧ PoolIn w A0 A1 c0 c1 p := h.own.reads
theorem Blk.within {w w' : World} {lo hi b : Nat} {cs : Array Value} {t : TypeId} (h : Blk w b cs t) (ho : Within lo hi w w') (hd : b < lo ∨ hi ≤ b) : Blk w' b cs t := (ho.block b h.lt (by omega)).trans h
theorem Within.below {w w' : World} {lo hi b : Nat} (h : Within lo hi w w') (hb : b ≤ w.heap.size) (hl : b ≤ lo) : Below b w w' := Only.below h hb fun k hk => by omega
theorem Within.size {w w' : World} {lo hi : Nat} (h : Within lo hi w w') : w.heap.size ≤ w'.heap.size := Only.size h

/-! ### marks -/
theorem digN_len (d : Nat) : ∀ n : Nat, n < 10 ^ d → (digN n).length ≤ d := by
  induction d with
  | zero =>
    intro n hn
    obtain rfl : n = 0 := by omega
    unfold digN
    simp
  | succ d ih =>
    intro n hn
    unfold digN
    split
    · simp
    · have := ih (n / 10) (by rw [Nat.pow_succ] at hn; omega)
      rw [List.length_append, List.length_singleton]; omega
theorem mkT_size {k : Int} (h : k ≤ 1000000000000000000) : (mkT k).size ≤ 1048576 := by
  have := digN_len 19 k.toNat (by omega)
  unfold mkT ByteArray.size
  simp
  omega
theorem MkP.small {k : Int} {p q : Pool} (h : MkP k q) (hp : SmallP p) (hl : q.slots.length = p.slots.length) (hv : q.vols.map (fun x => x.blocks.length) = p.vols.map (fun x => x.blocks.length)) (h1 : k ≤ 1099511627776) : SmallP q := by
  have hlv : q.vols.length = p.vols.length := by simpa using congrArg List.length hv
  have hb : ∀ x ∈ q.vols, x.blocks.length ≤ 1048576 := by
    intro x hx
    have : x.blocks.length ∈ p.vols.map (fun x => x.blocks.length) := by rw [← hv]; exact List.mem_map.2 ⟨x, hx, rfl⟩
    obtain ⟨y, hy, e⟩ := List.mem_map.1 this
    rw [← e]; exact hp.vols.blocks y hy
  have h3 := hp.slots.len
  have h4 := hp.vols.len
  refine ⟨⟨by rw [hl]; exact hp.slots.len, fun x hx => ?_⟩, ⟨by rw [hlv]; exact hp.vols.len, hb, fun x hx => ?_⟩⟩
  · obtain ⟨i, hi⟩ := List.getElem?_of_mem hx
    rw [(h.s i x hi).1]
    have := ltQ hi
    exact mkT_size (by omega)
  · obtain ⟨i, hi⟩ := List.getElem?_of_mem hx
    rw [(h.v i x hi).1]
    have h5 := ltQ hi
    have h2 := nxV_le (vs := q.vols.take i) (fun v hv => hb v (List.mem_of_mem_take hv)) (k + 2 * q.slots.length)
    have h6 := List.length_take_le i q.vols
    exact mkT_size (by omega)
theorem nxP_len {k : Int} {p q : Pool} (hl : q.slots.length = p.slots.length) (hv : q.vols.map (fun x => x.blocks.length) = p.vols.map (fun x => x.blocks.length)) : nxP k q = nxP k p := by
  unfold nxP
  rw [hl, nxV_len hv]
theorem nxP_bd {p : Pool} (hp : SmallP p) {k : Int} (h0 : 0 < k) (h1 : k ≤ 1099511627776) : 0 < nxP k p ∧ nxP k p ≤ 1152921504606846976 := by
  have h3 := hp.slots.len
  have h4 := hp.vols.len
  have h2 := nxV_le (vs := p.vols) hp.vols.blocks (k + 2 * p.slots.length)
  unfold nxP
  omega
/-- What a marker leaves of a pool in its interval. -/
def MarkedA (k : Int) (w : World) (lo hi : Nat) (v0 v1 : Value) (p : Pool) (bvs : List Value) (e : Ending) (w' : World) : Prop :=
  e = .returned (.int .i64 (nxP k p)) ∧ (∃ q, SmallP q ∧ q.slots.length = p.slots.length ∧ q.vols.length = p.vols.length ∧ nxP k q = nxP k p ∧ MkP k q ∧ At w' lo hi v0 v1 q bvs) ∧ Within lo hi w w'
theorem markA_c {w : World} {lo hi : Nat} {v0 v1 : Value} {p : Pool} {bvs : List Value} {k : Int} (h : At w lo hi v0 v1 p bvs) (hs : SmallP p) (h0 : 0 < k) (h1 : k ≤ 1099511627776) :
    Calls Try.prog 29 #[.agg #[v0, v1], .int .i64 k] w (MarkedA k w lo hi v0 v1 p bvs) := by
  refine (markPool_c h.own hs h0 h1).mono ?_
  rintro e w' ⟨he, ⟨q, hl, hv, ho, hm⟩, hon⟩
  exact ⟨he, ⟨q, hm.small hs hl hv h1, hl, by simpa using congrArg List.length hv, nxP_len hl hv, hm, ho, h.lt⟩, hon.mono fun k hk => ⟨(h.own.in_ hk).1, h.lt k hk⟩⟩
/-! ### what is valid is small -/
theorem tOk_size {t : ByteArray} (h : tOk t = true) : t.size ≤ 4 := by
  unfold tOk at h
  simp at h
  exact h.2
theorem PoolP.small {p : Pool} (h : PoolP p) : SmallP p := by
  refine ⟨⟨by have := h.s.len; omega, fun x hx => ?_⟩, ⟨by have := h.v.len; omega, fun v hv => ?_, fun v hv => ?_⟩⟩
  · obtain ⟨i, hi⟩ := List.getElem?_of_mem hx
    have := tOk_size (h.s.ok i x hi).1
    omega
  · obtain ⟨i, hi⟩ := List.getElem?_of_mem hv
    have := (volOk_parts (h.v.v i v hi)).2.2.2
    omega
  · obtain ⟨i, hi⟩ := List.getElem?_of_mem hv
    obtain ⟨b, hb, _⟩ := isNm_one (h.v.nm hi)
    have : v.name.size = 1 := by rw [← size_toList, hb]; rfl
    omega
theorem noP_small : SmallP noP := ⟨⟨by simp [noP], fun x hx => by simp [noP] at hx⟩, ⟨by simp [noP], fun x hx => by simp [noP] at hx, fun x hx => by simp [noP] at hx⟩⟩
theorem chP_small {p : Pool} {r : Option Pool} (hp : SmallP p) (hr : ∀ q, poolOk p = true → r = some q → SmallP q) : SmallP (chP p r) := by
  unfold chP
  split
  · rename_i hk
    cases r with
    | none => exact hp
    | some q => exact hr q hk rfl
  · exact noP_small
end Go.Proofs.Ytpobgjkmjlmafaa

/- Contracts of the program's and the reference's functions, and the plain laws behind them: part 5 of 13. -/
import Derived.Test.YtljfoglilggkjaaGreatM1
import Derived.Test.YtljfoglilggkjaaGreatM2
import Derived.Test.YtljfoglilggkjaaGreatM3
import Derived.Test.YtljfoglilggkjaaGreatM4
import Derived.ArgAppend
import Derived.Deep.Slices
import Derived.Deep.Fields
import Derived.ChangeSame
import Derived.ChangeArms
import Derived.Lib.SmallJoins
import Derived.WideShapes
import Derived.OpenShut
set_option linter.unusedVariables false
set_option linter.unusedSimpArgs false
set_option maxHeartbeats 64000000
set_option maxRecDepth 10000
namespace Go.Proofs.YtljfoglilggkjaaGreat
open Go.RowKit Go.Proofs.YtljfoglilggkjaaGreatW.PrintWords
def InP (v0 v1 : Value) (bvs : List Value) (k : Nat) : Prop := v0.ownBlock = some k ∨ InV v1 bvs k
def MarkedP (k : Int) (w : World) (base : Nat) (v0 v1 : Value) (p : Pool) (bvs : List Value) (e : Ending) (w' : World) : Prop :=
 e = .returned (.int .i64 (nxP k p)) ∧ (∃ p', p'.slots.length = p.slots.length ∧ p'.vols.map (fun x => x.blocks.length) = p.vols.map (fun x => x.blocks.length) ∧ OwnP w' base v0 v1 p' bvs ∧ MkP k p') ∧ Only w w' (InP v0 v1 bvs)
theorem own_move2 {w w1 : World} {base : Nat} {e : TypeId} {sz n : Nat} {v : Value} {xs : List Value} (h : w.ownsRow base e sz v n xs) (hm : ∀ k, v.ownBlock = some k → w1.heap[k]? = w.heap[k]?) : w1.ownsRow base e sz v n xs := by
 obtain ⟨h1, h2⟩ := h
 refine ⟨h1, ?_⟩
 rcases h2 with h2 | ⟨g, cap, cur, rfl, hg, hh, r⟩
 ·exact .inl h2
 ·exact .inr ⟨g, cap, cur, rfl, hg, (hm g (by simp [Value.ownBlock])).trans hh, r⟩
end Go.Proofs.YtljfoglilggkjaaGreat
namespace Go.Proofs.YtljfoglilggkjaaGreat
open Go.RowKit Go.Proofs.YtljfoglilggkjaaGreatW.PrintWords Go.Proofs.YtljfoglilggkjaaGreatW.PrintLast
def Within (lo hi : Nat) (w w' : World) : Prop := Only w w' (fun k => lo ≤ k ∧ k < hi)
structure At (w : World) (lo hi : Nat) (v0 v1 : Value) (p : Pool) (bvs : List Value) : Prop where
  own : OwnP w lo v0 v1 p bvs
  lt : ∀ k, InP v0 v1 bvs k → k < hi
theorem OwnP.in_ {w : World} {base : Nat} {v0 v1 : Value} {p : Pool} {bvs : List Value} (h : OwnP w base v0 v1 p bvs) {k : Nat} (hk : InP v0 v1 bvs k) : base ≤ k ∧ k < w.heap.size := by
 rcases hk with hk | hk | ⟨b, hb, hk⟩
 ·exact ⟨own_block_ge h.s hk, own_block_lt h.s hk⟩
 ·exact ⟨own_block_ge h.v.row.row hk, own_block_lt h.v.row.row hk⟩
 ·obtain ⟨m, hm⟩ := List.getElem?_of_mem hb
  obtain ⟨x, hx⟩ := getQ (show m < p.vols.length by rw [← h.v.row.len]; exact ltQ hm)
  exact ⟨own_block_ge (h.v.inner m x b hx hm) hk, own_block_lt (h.v.inner m x b hx hm) hk⟩
theorem OwnP.only {w w' : World} {S : Nat → Prop} {base : Nat} {v0 v1 : Value} {p : Pool} {bvs : List Value} (h : OwnP w base v0 v1 p bvs) (ho : Only w w' S) (hS : ∀ k, InP v0 v1 bvs k → ¬ S k) : OwnP w' base v0 v1 p bvs := by
 have mv : ∀ k, InP v0 v1 bvs k → w'.heap[k]? = w.heap[k]? := fun k hk => ho.block k (h.in_ hk).2 (hS k hk)
 refine ⟨own_move2 h.s fun k hk => mv k (.inl hk), ⟨h.v.row.len, own_move2 h.v.row.row fun k hk => mv k (.inr (.inl hk))⟩, fun m x b hx hb => own_move2 (h.v.inner m x b hx hb) fun k hk => mv k (.inr (.inr ⟨b, List.mem_of_getElem? hb, hk⟩)), h.v.apart⟩
theorem OwnP.at {w : World} {lo : Nat} {v0 v1 : Value} {p : Pool} {bvs : List Value} (h : OwnP w lo v0 v1 p bvs) : At w lo w.heap.size v0 v1 p bvs := ⟨h, fun k hk => (h.in_ hk).2⟩
theorem At.bel {w w' : World} {lo hi : Nat} {v0 v1 : Value} {p : Pool} {bvs : List Value} (h : At w lo hi v0 v1 p bvs) (hb : Bel w w') : At w' lo hi v0 v1 p bvs := ⟨h.own.bel hb, h.lt⟩
theorem At.reads {w : World} {lo hi : Nat} {v0 v1 : Value} {p : Pool} {bvs : List Value} (h : At w lo hi v0 v1 p bvs) : ∃ A0 A1 c0 c1, v0 = .slice A0 p.slots.length c0 ∧ v1 = .slice A1 p.vols.length c1 ∧ PoolIn w A0 A1 c0 c1 p := h.own.reads
theorem Within.below {w w' : World} {lo hi b : Nat} (h : Within lo hi w w') (hb : b ≤ w.heap.size) (hl : b ≤ lo) : Below b w w' := Only.below h hb fun k hk => by omega
theorem Within.size {w w' : World} {lo hi : Nat} (h : Within lo hi w w') : w.heap.size ≤ w'.heap.size := Only.size h
theorem digN_len (d : Nat) : ∀ n : Nat, n < 10 ^ d → (digN n).length ≤ d := by
 induction d with
 | zero =>
  intro n hn
  obtain rfl : n = 0 := by omega
  unfold digN
  simp
 | succ d ih =>
  intro n hn
  unfold digN
  split
  ·simp
  ·have := ih (n / 10) (by rw [Nat.pow_succ] at hn; omega)
   rw [List.length_append, List.length_singleton]; omega
theorem mkT_size {k : Int} (h : k ≤ 1000000000000000000) : (mkT k).size ≤ 1048576 := by
 have := digN_len 19 k.toNat (by omega)
 unfold mkT ByteArray.size
 simp
 omega
theorem MkP.small {k : Int} {p q : Pool} (h : MkP k q) (hp : SmallP p) (hl : q.slots.length = p.slots.length) (hv : q.vols.map (fun x => x.blocks.length) = p.vols.map (fun x => x.blocks.length)) (h1 : k ≤ 1099511627776) : SmallP q := by
 have hlv : q.vols.length = p.vols.length := by simpa using congrArg List.length hv
 have hb : ∀ x ∈ q.vols, x.blocks.length ≤ 1048576 := by
  intro x hx
  have : x.blocks.length ∈ p.vols.map (fun x => x.blocks.length) := by rw [← hv]; exact List.mem_map.2 ⟨x, hx, rfl⟩
  obtain ⟨y, hy, e⟩ := List.mem_map.1 this
  rw [← e]; exact hp.vols.blocks y hy
 have h3 := hp.slots.len
 have h4 := hp.vols.len
 refine ⟨⟨by rw [hl]; exact hp.slots.len, fun x hx => ?_⟩, ⟨by rw [hlv]; exact hp.vols.len, hb, fun x hx => ?_⟩⟩
 ·obtain ⟨i, hi⟩ := List.getElem?_of_mem hx
  rw [(h.s i x hi).1]
  have := ltQ hi
  exact mkT_size (by omega)
 ·obtain ⟨i, hi⟩ := List.getElem?_of_mem hx
  rw [(h.v i x hi).1]
  have h5 := ltQ hi
  have h2 := nxV_le (vs := q.vols.take i) (fun v hv => hb v (List.mem_of_mem_take hv)) (k + 2 * q.slots.length)
  have h6 := List.length_take_le i q.vols
  exact mkT_size (by omega)
def MarkedA (k : Int) (w : World) (lo hi : Nat) (v0 v1 : Value) (p : Pool) (bvs : List Value) (e : Ending) (w' : World) : Prop :=
 e = .returned (.int .i64 (nxP k p)) ∧ (∃ q, SmallP q ∧ q.slots.length = p.slots.length ∧ q.vols.length = p.vols.length ∧ nxP k q = nxP k p ∧ MkP k q ∧ At w' lo hi v0 v1 q bvs) ∧ Within lo hi w w'
theorem tOk_size {t : ByteArray} (h : tOk t = true) : t.size ≤ 4 := by
 unfold tOk at h
 simp at h
 exact h.2
theorem PoolP.small {p : Pool} (h : PoolP p) : SmallP p := by
 refine ⟨⟨by have := h.s.len; omega, fun x hx => ?_⟩, ⟨by have := h.v.len; omega, fun v hv => ?_, fun v hv => ?_⟩⟩
 ·obtain ⟨i, hi⟩ := List.getElem?_of_mem hx
  have := tOk_size (h.s.ok i x hi).1
  omega
 ·obtain ⟨i, hi⟩ := List.getElem?_of_mem hv
  have := (volOk_parts (h.v.v i v hi)).2.2.2
  omega
 ·obtain ⟨i, hi⟩ := List.getElem?_of_mem hv
  obtain ⟨b, hb, _⟩ := isNm_one (h.v.nm hi)
  have : v.name.size = 1 := by rw [← size_toList, hb]; rfl
  omega
theorem noP_small : SmallP noP := ⟨⟨by simp [noP], fun x hx => by simp [noP] at hx⟩, ⟨by simp [noP], fun x hx => by simp [noP] at hx, fun x hx => by simp [noP] at hx⟩⟩
def opF (p : Pool) (o : Op) : Option Pool := if o.kind = 1 then makeF p o.name o.n else if o.kind = 2 then writeF p o.name o.n o.text else if o.kind = 3 then cloneF p o.name o.dest else goneF p o.name
theorem opF_ok {p q : Pool} {o : Op} (hp : PoolP p) (h : opF p o = some q) : PoolP q := by
 unfold opF at h
 split at h
 ·exact makeF_ok hp h
 ·split at h
  ·exact writeF_ok hp h
  ·split at h
   ·exact cloneF_ok hp h
   ·exact goneF_ok hp h
theorem OwnP.grown {w w' : World} {base : Nat} {v0 v1 : Value} {p : Pool} {bvs : List Value} (h : OwnP w base v0 v1 p bvs) {r : Nat} {cs : Array Value} {t : TypeId} (hB : Blk w r cs t) (hs : 90 ≠ t) (ht : 84 ≠ t) (ht2 : 3 ≠ t) (hg : w.grownBy w' (some r)) : OwnP w' base v0 v1 p bvs := by
 have key : ∀ {e : TypeId} {size n : Nat} {v : Value} {xs : List Value}, w.ownsRow base e size v n xs → e ≠ t → w'.ownsRow base e size v n xs := fun h' hne =>
  World.ownsRow.kept h' hg (.inr fun e => own_ne h' hB hne e.symm)
 exact ⟨key h.s hs, ⟨⟨h.v.row.len, key h.v.row.row ht⟩, fun m x b hx hb => key (h.v.inner m x b hx hb) ht2, h.v.apart⟩⟩
theorem Fr.tr {base : Nat} {w W W' : World} (h : Fr base w W) (h' : Fr base W W') (hbase : base ≤ w.heap.size) : Fr base w W' := ⟨h.b.trans h'.b, fun g cs t h1 h2 h3 hB => h'.k g cs t h1 h2 h3 (h.k g cs t h1 h2 h3 hB)⟩
theorem l12Do_c {w : World} {base : Nat} {v0 v1 : Value} {bvs : List Value} {p : Pool} {o : Op} (h : OwnP w base v0 v1 p bvs) (hp : PoolP p) (hbase : base ≤ w.heap.size) (ho : SmallO o) :
  Calls Tryz.prog 86 #[.agg #[v0, v1], .agg #[.int .i64 o.kind, .string o.name, .string o.dest, .int .i64 o.n, .string o.text]] w (TurnsP base p (opF p o) w) := by
 have HS := Lib.hid hp.small
 have HK := Lib.hid hp
 obtain ⟨A0, A1, c0, c1, rfl, rfl, hpi⟩ := h.reads
 have HP := Lib.hid h
 have HNM := Lib.hid ho
 obtain ⟨F, hF⟩ : ∃ F, opF p o = F := ⟨_, rfl⟩
 obtain ⟨kd, nm, ds, n, tx⟩ := o
 simp only at HNM ⊢
 rw [hF]
 clear h hp hpi ho
 by_cases h1 : kd = 1
 ·subst h1
  have HF := Lib.hid (show makeF p nm n = F from hF ▸ by unfold opF; rfl)
  clear hF
  go_enter Tryz.func86, Tryz.ntmps86
  go_wp2_with fail
  have hR : Blk (((w.alloc (.cells #[.slice A0 p.slots.length c0, .slice A1 p.vols.length c1] 44)).alloc (.cells #[.int .i64 1, .string nm, .string ds, .int .i64 n, .string tx] 27)).alloc (.cells #[.slice none 0 0, .slice none 0 0] 44)) (w.heap.size + 1 + 1) #[.slice none 0 0, .slice none 0 0] 44 := Blk.nw3 _ _ _ _ _
  have hW : Bel w (((w.alloc (.cells #[.slice A0 p.slots.length c0, .slice A1 p.vols.length c1] 44)).alloc (.cells #[.int .i64 1, .string nm, .string ds, .int .i64 n, .string tx] 27)).alloc (.cells #[.slice none 0 0, .slice none 0 0] 44)) := bel_alloc (bel_alloc (bel_alloc (Below.refl _ _) _) _) _
  generalize (((w.alloc (.cells #[.slice A0 p.slots.length c0, .slice A1 p.vols.length c1] 44)).alloc (.cells #[.int .i64 1, .string nm, .string ds, .int .i64 n, .string tx] 27)).alloc (.cells #[.slice none 0 0, .slice none 0 0] 44)) = W0 at hR hW ⊢
  refine (l11Make_c (HP.out.bel hW) HS.out HK.out (Nat.le_trans hbase hW.size) HNM.out.name).mono ?_
  rintro e w3 ⟨v2, v3, bvs3, rfl, ho3, hb3⟩
  rw [HF.out] at ho3 ⊢
  have hb := (Fr.ofBel hW hbase).tr hb3 hbase
  have hR1 : Blk w3 (w.heap.size + 1 + 1) #[.slice none 0 0, .slice none 0 0] 44 := hb3.k _ _ _ (by decide) (by decide) (by decide) hR
  obtain ⟨q, hq⟩ : ∃ q, F.getD p = q := ⟨_, rfl⟩
  obtain ⟨ok, hok⟩ : ∃ ok, F.isSome = ok := ⟨_, rfl⟩
  rw [hq] at ho3
  rw [hok]
  have HQ := Lib.hid (And.intro hq hok)
  have HO3 := Lib.hid ho3
  have HR := Lib.hid hR1
  have HB := Lib.hid hb
  clear hq hok hR hW
  obtain ⟨A2, A3, c2, c3, rfl, rfl, hpi⟩ := ho3.reads
  obtain ⟨r0, r1, f0, f1, -⟩ := k2f HR.out
  clear hpi ho3 hb3 hR1 hb
  go_wp2
  have hR2 := HR.out
  have hR3 := hR2.set 0 (.slice A2 q.slots.length c2) (cs' := #[.slice A2 q.slots.length c2, .slice none 0 0]) rfl
  have hR4 := hR3.set 1 (.slice A3 q.vols.length c3) (cs' := #[.slice A2 q.slots.length c2, .slice A3 q.vols.length c3]) rfl
  have hop4 := (HO3.out.far hR2 (by decide) (by decide) (by decide) 0 (.slice A2 q.slots.length c2)).far hR3 (by decide) (by decide) (by decide) 1 (.slice A3 q.vols.length c3)
  have hb5 := (HB.out.set (b := w.heap.size + 1 + 1) (by omega) hbase 0 (.slice A2 q.slots.length c2)).set (b := w.heap.size + 1 + 1) (by omega) hbase 1 (.slice A3 q.vols.length c3)
  refine bodyPost_ret (results_ct rfl _ _ (w.heap.size + 1 + 1) 44 #[.slice A2 q.slots.length c2, .slice A3 q.vols.length c3] (0, 0) _ rfl hR4 Tryz.underlying44 rfl (by kernel_rfl)) rfl ?_
  refine ⟨.slice A2 q.slots.length c2, .slice A3 q.vols.length c3, bvs3, ?_, ?_, hb5⟩
  ·rw [HQ.out.2]; rfl
  ·rw [HQ.out.1]; exact hop4
 by_cases h2 : kd = 2
 ·subst h2
  have HF := Lib.hid (show writeF p nm n tx = F from hF ▸ by unfold opF; rfl)
  clear hF
  go_enter Tryz.func86, Tryz.ntmps86
  go_wp2_with fail
  have hR : Blk (((w.alloc (.cells #[.slice A0 p.slots.length c0, .slice A1 p.vols.length c1] 44)).alloc (.cells #[.int .i64 2, .string nm, .string ds, .int .i64 n, .string tx] 27)).alloc (.cells #[.slice none 0 0, .slice none 0 0] 44)) (w.heap.size + 1 + 1) #[.slice none 0 0, .slice none 0 0] 44 := Blk.nw3 _ _ _ _ _
  have hW : Bel w (((w.alloc (.cells #[.slice A0 p.slots.length c0, .slice A1 p.vols.length c1] 44)).alloc (.cells #[.int .i64 2, .string nm, .string ds, .int .i64 n, .string tx] 27)).alloc (.cells #[.slice none 0 0, .slice none 0 0] 44)) := bel_alloc (bel_alloc (bel_alloc (Below.refl _ _) _) _) _
  generalize (((w.alloc (.cells #[.slice A0 p.slots.length c0, .slice A1 p.vols.length c1] 44)).alloc (.cells #[.int .i64 2, .string nm, .string ds, .int .i64 n, .string tx] 27)).alloc (.cells #[.slice none 0 0, .slice none 0 0] 44)) = W0 at hR hW ⊢
  refine (l11Write_c (HP.out.bel hW) HS.out HK.out (Nat.le_trans hbase hW.size) HNM.out.text).mono ?_
  rintro e w3 ⟨v2, v3, bvs3, rfl, ho3, hb3⟩
  rw [HF.out] at ho3 ⊢
  have hb := (Fr.ofBel hW hbase).tr hb3 hbase
  have hR1 : Blk w3 (w.heap.size + 1 + 1) #[.slice none 0 0, .slice none 0 0] 44 := hb3.k _ _ _ (by decide) (by decide) (by decide) hR
  obtain ⟨q, hq⟩ : ∃ q, F.getD p = q := ⟨_, rfl⟩
  obtain ⟨ok, hok⟩ : ∃ ok, F.isSome = ok := ⟨_, rfl⟩
  rw [hq] at ho3
  rw [hok]
  have HQ := Lib.hid (And.intro hq hok)
  have HO3 := Lib.hid ho3
  have HR := Lib.hid hR1
  have HB := Lib.hid hb
  clear hq hok hR hW
  obtain ⟨A2, A3, c2, c3, rfl, rfl, hpi⟩ := ho3.reads
  obtain ⟨r0, r1, f0, f1, -⟩ := k2f HR.out
  clear hpi ho3 hb3 hR1 hb
  go_wp2
  have hR2 := HR.out
  have hR3 := hR2.set 0 (.slice A2 q.slots.length c2) (cs' := #[.slice A2 q.slots.length c2, .slice none 0 0]) rfl
  have hR4 := hR3.set 1 (.slice A3 q.vols.length c3) (cs' := #[.slice A2 q.slots.length c2, .slice A3 q.vols.length c3]) rfl
  have hop4 := (HO3.out.far hR2 (by decide) (by decide) (by decide) 0 (.slice A2 q.slots.length c2)).far hR3 (by decide) (by decide) (by decide) 1 (.slice A3 q.vols.length c3)
  have hb5 := (HB.out.set (b := w.heap.size + 1 + 1) (by omega) hbase 0 (.slice A2 q.slots.length c2)).set (b := w.heap.size + 1 + 1) (by omega) hbase 1 (.slice A3 q.vols.length c3)
  refine bodyPost_ret (results_ct rfl _ _ (w.heap.size + 1 + 1) 44 #[.slice A2 q.slots.length c2, .slice A3 q.vols.length c3] (0, 0) _ rfl hR4 Tryz.underlying44 rfl (by kernel_rfl)) rfl ?_
  refine ⟨.slice A2 q.slots.length c2, .slice A3 q.vols.length c3, bvs3, ?_, ?_, hb5⟩
  ·rw [HQ.out.2]; rfl
  ·rw [HQ.out.1]; exact hop4
 by_cases h3 : kd = 3
 ·subst h3
  have HF := Lib.hid (show cloneF p nm ds = F from hF ▸ by unfold opF; rfl)
  clear hF
  go_enter Tryz.func86, Tryz.ntmps86
  go_wp2_with fail
  have hR : Blk (((w.alloc (.cells #[.slice A0 p.slots.length c0, .slice A1 p.vols.length c1] 44)).alloc (.cells #[.int .i64 3, .string nm, .string ds, .int .i64 n, .string tx] 27)).alloc (.cells #[.slice none 0 0, .slice none 0 0] 44)) (w.heap.size + 1 + 1) #[.slice none 0 0, .slice none 0 0] 44 := Blk.nw3 _ _ _ _ _
  have hW : Bel w (((w.alloc (.cells #[.slice A0 p.slots.length c0, .slice A1 p.vols.length c1] 44)).alloc (.cells #[.int .i64 3, .string nm, .string ds, .int .i64 n, .string tx] 27)).alloc (.cells #[.slice none 0 0, .slice none 0 0] 44)) := bel_alloc (bel_alloc (bel_alloc (Below.refl _ _) _) _) _
  generalize (((w.alloc (.cells #[.slice A0 p.slots.length c0, .slice A1 p.vols.length c1] 44)).alloc (.cells #[.int .i64 3, .string nm, .string ds, .int .i64 n, .string tx] 27)).alloc (.cells #[.slice none 0 0, .slice none 0 0] 44)) = W0 at hR hW ⊢
  refine (l11Clone_c (HP.out.bel hW) HS.out HK.out (Nat.le_trans hbase hW.size) HNM.out.dest).mono ?_
  rintro e w3 ⟨v2, v3, bvs3, rfl, ho3, hb3⟩
  rw [HF.out] at ho3 ⊢
  have hb := (Fr.ofBel hW hbase).tr hb3 hbase
  have hR1 : Blk w3 (w.heap.size + 1 + 1) #[.slice none 0 0, .slice none 0 0] 44 := hb3.k _ _ _ (by decide) (by decide) (by decide) hR
  obtain ⟨q, hq⟩ : ∃ q, F.getD p = q := ⟨_, rfl⟩
  obtain ⟨ok, hok⟩ : ∃ ok, F.isSome = ok := ⟨_, rfl⟩
  rw [hq] at ho3
  rw [hok]
  have HQ := Lib.hid (And.intro hq hok)
  have HO3 := Lib.hid ho3
  have HR := Lib.hid hR1
  have HB := Lib.hid hb
  clear hq hok hR hW
  obtain ⟨A2, A3, c2, c3, rfl, rfl, hpi⟩ := ho3.reads
  obtain ⟨r0, r1, f0, f1, -⟩ := k2f HR.out
  clear hpi ho3 hb3 hR1 hb
  go_wp2
  have hR2 := HR.out
  have hR3 := hR2.set 0 (.slice A2 q.slots.length c2) (cs' := #[.slice A2 q.slots.length c2, .slice none 0 0]) rfl
  have hR4 := hR3.set 1 (.slice A3 q.vols.length c3) (cs' := #[.slice A2 q.slots.length c2, .slice A3 q.vols.length c3]) rfl
  have hop4 := (HO3.out.far hR2 (by decide) (by decide) (by decide) 0 (.slice A2 q.slots.length c2)).far hR3 (by decide) (by decide) (by decide) 1 (.slice A3 q.vols.length c3)
  have hb5 := (HB.out.set (b := w.heap.size + 1 + 1) (by omega) hbase 0 (.slice A2 q.slots.length c2)).set (b := w.heap.size + 1 + 1) (by omega) hbase 1 (.slice A3 q.vols.length c3)
  refine bodyPost_ret (results_ct rfl _ _ (w.heap.size + 1 + 1) 44 #[.slice A2 q.slots.length c2, .slice A3 q.vols.length c3] (0, 0) _ rfl hR4 Tryz.underlying44 rfl (by kernel_rfl)) rfl ?_
  refine ⟨.slice A2 q.slots.length c2, .slice A3 q.vols.length c3, bvs3, ?_, ?_, hb5⟩
  ·rw [HQ.out.2]; rfl
  ·rw [HQ.out.1]; exact hop4
 have HF := Lib.hid (show goneF p nm = F from hF ▸ by unfold opF; simp only [h1, h2, h3, if_false])
 clear hF
 go_enter Tryz.func86, Tryz.ntmps86
 go_wp2_with fail
 have hR : Blk (((w.alloc (.cells #[.slice A0 p.slots.length c0, .slice A1 p.vols.length c1] 44)).alloc (.cells #[.int .i64 kd, .string nm, .string ds, .int .i64 n, .string tx] 27)).alloc (.cells #[.slice none 0 0, .slice none 0 0] 44)) (w.heap.size + 1 + 1) #[.slice none 0 0, .slice none 0 0] 44 := Blk.nw3 _ _ _ _ _
 have hW : Bel w (((w.alloc (.cells #[.slice A0 p.slots.length c0, .slice A1 p.vols.length c1] 44)).alloc (.cells #[.int .i64 kd, .string nm, .string ds, .int .i64 n, .string tx] 27)).alloc (.cells #[.slice none 0 0, .slice none 0 0] 44)) := bel_alloc (bel_alloc (bel_alloc (Below.refl _ _) _) _) _
 generalize (((w.alloc (.cells #[.slice A0 p.slots.length c0, .slice A1 p.vols.length c1] 44)).alloc (.cells #[.int .i64 kd, .string nm, .string ds, .int .i64 n, .string tx] 27)).alloc (.cells #[.slice none 0 0, .slice none 0 0] 44)) = W0 at hR hW ⊢
 refine (l11Gone_c (HP.out.bel hW) HS.out HK.out (Nat.le_trans hbase hW.size)).mono ?_
 rintro e w3 ⟨v2, v3, bvs3, rfl, ho3, hb3⟩
 rw [HF.out] at ho3 ⊢
 have hb := (Fr.ofBel hW hbase).tr hb3 hbase
 have hR1 : Blk w3 (w.heap.size + 1 + 1) #[.slice none 0 0, .slice none 0 0] 44 := hb3.k _ _ _ (by decide) (by decide) (by decide) hR
 obtain ⟨q, hq⟩ : ∃ q, F.getD p = q := ⟨_, rfl⟩
 obtain ⟨ok, hok⟩ : ∃ ok, F.isSome = ok := ⟨_, rfl⟩
 rw [hq] at ho3
 rw [hok]
 have HQ := Lib.hid (And.intro hq hok)
 have HO3 := Lib.hid ho3
 have HR := Lib.hid hR1
 have HB := Lib.hid hb
 clear hq hok hR hW
 obtain ⟨A2, A3, c2, c3, rfl, rfl, hpi⟩ := ho3.reads
 obtain ⟨r0, r1, f0, f1, -⟩ := k2f HR.out
 clear hpi ho3 hb3 hR1 hb
 go_wp2
 have hR2 := HR.out
 have hR3 := hR2.set 0 (.slice A2 q.slots.length c2) (cs' := #[.slice A2 q.slots.length c2, .slice none 0 0]) rfl
 have hR4 := hR3.set 1 (.slice A3 q.vols.length c3) (cs' := #[.slice A2 q.slots.length c2, .slice A3 q.vols.length c3]) rfl
 have hop4 := (HO3.out.far hR2 (by decide) (by decide) (by decide) 0 (.slice A2 q.slots.length c2)).far hR3 (by decide) (by decide) (by decide) 1 (.slice A3 q.vols.length c3)
 have hb5 := (HB.out.set (b := w.heap.size + 1 + 1) (by omega) hbase 0 (.slice A2 q.slots.length c2)).set (b := w.heap.size + 1 + 1) (by omega) hbase 1 (.slice A3 q.vols.length c3)
 refine bodyPost_ret (results_ct rfl _ _ (w.heap.size + 1 + 1) 44 #[.slice A2 q.slots.length c2, .slice A3 q.vols.length c3] (0, 0) _ rfl hR4 Tryz.underlying44 rfl (by kernel_rfl)) rfl ?_
 refine ⟨.slice A2 q.slots.length c2, .slice A3 q.vols.length c3, bvs3, ?_, ?_, hb5⟩
 ·rw [HQ.out.2]; rfl
 ·rw [HQ.out.1]; exact hop4
theorem ch_bad {p : Pool} (h : poolOk p = false) (r : Option Pool) : chP p r = noP ∧ chB p r = false := by unfold chP chB; rw [h]; exact ⟨rfl, rfl⟩
def chO (p : Pool) (o : Op) : Pool := if opOk o then chP p (opF p o) else noP
def chOB (p : Pool) (o : Op) : Bool := opOk o && chB p (opF p o)
theorem chO_bad {p : Pool} {o : Op} (h : poolOk p = false ∨ opOk o = false) : chO p o = noP ∧ chOB p o = false := by
 unfold chO chOB
 rcases h with h | h
 ·have := ch_bad h (opF p o)
  rw [this.1, this.2]
  exact ⟨by split <;> rfl, by rw [Bool.and_false]⟩
 ·rw [h]; exact ⟨rfl, rfl⟩
theorem chO_ok {p : Pool} {o : Op} (h : opOk o = true) : chO p o = chP p (opF p o) ∧ chOB p o = chB p (opF p o) := by
 unfold chO chOB
 rw [h]
 exact ⟨rfl, rfl⟩
theorem opOk_kind {o : Op} (h : opOk o = true) : o.kind = 1 ∨ o.kind = 2 ∨ o.kind = 3 ∨ o.kind = 4 := by
 unfold opOk opRest at h
 by_cases h1 : o.kind = 1
 ·exact .inl h1
 by_cases h2 : o.kind = 2
 ·exact .inr (.inl h2)
 by_cases h3 : o.kind = 3
 ·exact .inr (.inr (.inl h3))
 by_cases h4 : o.kind = 4
 ·exact .inr (.inr (.inr h4))
 rw [if_neg h1, if_neg h2, if_neg h3, if_neg h4, Bool.and_false] at h
 cases h
theorem implOpDo_c {w : World} {A0 A1 : Option Addr} {c0 c1 : Nat} {p : Pool} {o : Op} (h : PoolIn w A0 A1 c0 c1 p) (hs : SmallP p) (ho : SmallO o) :
  Calls Tryz.prog 112 #[.agg #[.slice A0 p.slots.length c0, .slice A1 p.vols.length c1], .agg #[.int .i64 o.kind, .string o.name, .string o.dest, .int .i64 o.n, .string o.text]] w (MadePB w (chO p o) (chOB p o)) := by
 obtain ⟨kd, nm, ds, n, tx⟩ := o
 have HS := Lib.hid hs
 have HP := Lib.hid h
 have HO := Lib.hid ho
 clear h hs ho
 go_enter Tryz.func112, Tryz.ntmps112
 go_wp2_with fail
 have hB : Blk (((w.alloc (.cells #[.slice A0 p.slots.length c0, .slice A1 p.vols.length c1] 44)).alloc (.cells #[.int .i64 kd, .string nm, .string ds, .int .i64 n, .string tx] 27)).alloc (.cells #[.slice none 0 0, .slice none 0 0] 44)) w.heap.size #[.slice A0 p.slots.length c0, .slice A1 p.vols.length c1] 44 := ((Blk.new _ _ _).alloc _).alloc _
 have hN : Blk (((w.alloc (.cells #[.slice A0 p.slots.length c0, .slice A1 p.vols.length c1] 44)).alloc (.cells #[.int .i64 kd, .string nm, .string ds, .int .i64 n, .string tx] 27)).alloc (.cells #[.slice none 0 0, .slice none 0 0] 44)) (w.heap.size + 1) #[.int .i64 kd, .string nm, .string ds, .int .i64 n, .string tx] 27 := (Blk.nw2 _ _ _ _).alloc _
 have hR : Blk (((w.alloc (.cells #[.slice A0 p.slots.length c0, .slice A1 p.vols.length c1] 44)).alloc (.cells #[.int .i64 kd, .string nm, .string ds, .int .i64 n, .string tx] 27)).alloc (.cells #[.slice none 0 0, .slice none 0 0] 44)) (w.heap.size + 1 + 1) #[.slice none 0 0, .slice none 0 0] 44 := Blk.nw3 _ _ _ _ _
 have hW : Bel w (((w.alloc (.cells #[.slice A0 p.slots.length c0, .slice A1 p.vols.length c1] 44)).alloc (.cells #[.int .i64 kd, .string nm, .string ds, .int .i64 n, .string tx] 27)).alloc (.cells #[.slice none 0 0, .slice none 0 0] 44)) := bel_alloc (bel_alloc (bel_alloc (Below.refl _ _) _) _) _
 have hl2 : w.heap.size + 3 ≤ (((w.alloc (.cells #[.slice A0 p.slots.length c0, .slice A1 p.vols.length c1] 44)).alloc (.cells #[.int .i64 kd, .string nm, .string ds, .int .i64 n, .string tx] 27)).alloc (.cells #[.slice none 0 0, .slice none 0 0] 44)).heap.size := by simp
 generalize (((w.alloc (.cells #[.slice A0 p.slots.length c0, .slice A1 p.vols.length c1] 44)).alloc (.cells #[.int .i64 kd, .string nm, .string ds, .int .i64 n, .string tx] 27)).alloc (.cells #[.slice none 0 0, .slice none 0 0] 44)) = W0 at hB hN hR hW hl2 ⊢
 have HB := Lib.hid hB
 have HN := Lib.hid hN
 have HR := Lib.hid hR
 have HW := Lib.hid hW
 clear hB hN hR hW
 refine (implPoolOk_in (HP.out.bel HW.out) HS.out).mono ?_
 rintro e w1 ⟨rfl, hb1⟩
 have HB1 := Lib.hid hb1
 clear hb1
 cases hok : poolOk p
 ·skip
  have E := Lib.hid (chO_bad (p := p) (o := ⟨kd, nm, ds, n, tx⟩) (.inl hok))
  have r0 := (HR.out.bel HB1.out).cell 0
  have r1 := (HR.out.bel HB1.out).cell 1
  have f0 := (HR.out.bel HB1.out).free 0
  have f1 := (HR.out.bel HB1.out).free 1
  simp at r0 r1
  clear hok
  go_wp2
  have hR3 := (HR.out.bel HB1.out).set 0 (.slice none 0 0) (cs' := #[.slice none 0 0, .slice none 0 0]) rfl
  have hR4 := hR3.set 1 (.slice none 0 0) (cs' := #[.slice none 0 0, .slice none 0 0]) rfl
  have hb4 := bel_set (bel_set (HW.out.tr HB1.out) (show w.heap.size ≤ w.heap.size + 1 + 1 by omega) 0 (.slice none 0 0)) (show w.heap.size ≤ w.heap.size + 1 + 1 by omega) 1 (.slice none 0 0)
  refine bodyPost_ret (results_ct rfl _ _ (w.heap.size + 1 + 1) 44 #[.slice none 0 0, .slice none 0 0] (0, 0) _ rfl hR4 Tryz.underlying44 rfl (by kernel_rfl)) rfl ?_
  rw [E.out.1, E.out.2]
  exact ⟨_, _, _, rfl, OwnP.none _ _, hb4⟩
 have m0 := (HN.out.bel HB1.out).cell 0
 have m1 := (HN.out.bel HB1.out).cell 1
 have m2 := (HN.out.bel HB1.out).cell 2
 have m3 := (HN.out.bel HB1.out).cell 3
 have m4 := (HN.out.bel HB1.out).cell 4
 simp at m0 m1 m2 m3 m4
 go_wp2_with fail
 clear m0 m1 m2 m3 m4
 refine (implOpOk_c ⟨kd, nm, ds, n, tx⟩ HO.out _).mono ?_
 rintro e w2 ⟨rfl, hb2⟩
 replace HB1 := Lib.hid (HB1.out.tr hb2)
 clear hb2
 have HOK := Lib.hid hok
 clear hok
 cases hok : opOk ⟨kd, nm, ds, n, tx⟩
 ·skip
  have E := Lib.hid (chO_bad (p := p) (o := ⟨kd, nm, ds, n, tx⟩) (.inr hok))
  have r0 := (HR.out.bel HB1.out).cell 0
  have r1 := (HR.out.bel HB1.out).cell 1
  have f0 := (HR.out.bel HB1.out).free 0
  have f1 := (HR.out.bel HB1.out).free 1
  simp at r0 r1
  clear hok
  go_wp2
  have hR3 := (HR.out.bel HB1.out).set 0 (.slice none 0 0) (cs' := #[.slice none 0 0, .slice none 0 0]) rfl
  have hR4 := hR3.set 1 (.slice none 0 0) (cs' := #[.slice none 0 0, .slice none 0 0]) rfl
  have hb4 := bel_set (bel_set (HW.out.tr HB1.out) (show w.heap.size ≤ w.heap.size + 1 + 1 by omega) 0 (.slice none 0 0)) (show w.heap.size ≤ w.heap.size + 1 + 1 by omega) 1 (.slice none 0 0)
  refine bodyPost_ret (results_ct rfl _ _ (w.heap.size + 1 + 1) 44 #[.slice none 0 0, .slice none 0 0] (0, 0) _ rfl hR4 Tryz.underlying44 rfl (by kernel_rfl)) rfl ?_
  rw [E.out.1, E.out.2]
  exact ⟨_, _, _, rfl, OwnP.none _ _, hb4⟩
 have EO := Lib.hid (chO_ok (p := p) hok)
 rcases opOk_kind hok with hk | hk | hk | hk
 ·simp only at hk
  subst hk
  clear hok
  have EF : Hid (opF p ⟨1, nm, ds, n, tx⟩ = makeF p nm n) := rfl
  have q0 := (HB.out.bel HB1.out).cell 0
  have q1 := (HB.out.bel HB1.out).cell 1
  have m0 := (HN.out.bel HB1.out).cell 0
  have m1 := (HN.out.bel HB1.out).cell 1
  have m2 := (HN.out.bel HB1.out).cell 2
  have m3 := (HN.out.bel HB1.out).cell 3
  have m4 := (HN.out.bel HB1.out).cell 4
  simp at q0 q1 m0 m1 m2 m3 m4
  go_wp2_with fail
  clear q0 q1 m0 m1 m2 m3 m4
  have hin := HP.out.bel (HW.out.tr HB1.out)
  refine (implPoolMake_c (name := nm) (size := n) hin HS.out HO.out.name).mono ?_
  rintro e w3 ⟨v2, v3, bvs3, rfl, ho3, hb3⟩
  clear hin
  have HO3 := Lib.hid ho3
  have HZ := Lib.hid (HW.out.tr HB1.out).size
  replace HB1 := Lib.hid (HB1.out.tr hb3)
  clear ho3 hb3
  obtain ⟨q, hq⟩ : ∃ q, chP p (makeF p nm n) = q := ⟨_, rfl⟩
  obtain ⟨ok, hok⟩ : ∃ ok, chB p (makeF p nm n) = ok := ⟨_, rfl⟩
  rw [hq] at HO3
  rw [hok]
  have HQ := Lib.hid hq
  have HK2 := Lib.hid hok
  clear hq hok
  obtain ⟨A2, A3, c2, c3, rfl, rfl, hpi⟩ := HO3.out.reads
  clear hpi
  have r0 := (HR.out.bel HB1.out).cell 0
  have r1 := (HR.out.bel HB1.out).cell 1
  have f0 := (HR.out.bel HB1.out).free 0
  have f1 := (HR.out.bel HB1.out).free 1
  simp at r0 r1
  go_wp2
  have hR2 := HR.out.bel HB1.out
  have hR3 := hR2.set 0 (.slice A2 q.slots.length c2) (cs' := #[.slice A2 q.slots.length c2, .slice none 0 0]) rfl
  have hR4 := hR3.set 1 (.slice A3 q.vols.length c3) (cs' := #[.slice A2 q.slots.length c2, .slice A3 q.vols.length c3]) rfl
  have hb5 := bel_set (bel_set (HW.out.tr HB1.out) (show w.heap.size ≤ w.heap.size + 1 + 1 by omega) 0 (.slice A2 q.slots.length c2)) (show w.heap.size ≤ w.heap.size + 1 + 1 by omega) 1 (.slice A3 q.vols.length c3)
  have hop4 := (HO3.out.far hR2 (by decide) (by decide) (by decide) 0 (.slice A2 q.slots.length c2)).far hR3 (by decide) (by decide) (by decide) 1 (.slice A3 q.vols.length c3)
  refine bodyPost_ret (results_ct rfl _ _ (w.heap.size + 1 + 1) 44 #[.slice A2 q.slots.length c2, .slice A3 q.vols.length c3] (0, 0) _ rfl hR4 Tryz.underlying44 rfl (by kernel_rfl)) rfl ?_
  rw [EO.out.1, EO.out.2, EF.out, HQ.out, HK2.out]
  exact ⟨_, _, _, rfl, hop4.lower HZ.out, hb5⟩
 ·simp only at hk
  subst hk
  clear hok
  have EF : Hid (opF p ⟨2, nm, ds, n, tx⟩ = writeF p nm n tx) := rfl
  have q0 := (HB.out.bel HB1.out).cell 0
  have q1 := (HB.out.bel HB1.out).cell 1
  have m0 := (HN.out.bel HB1.out).cell 0
  have m1 := (HN.out.bel HB1.out).cell 1
  have m2 := (HN.out.bel HB1.out).cell 2
  have m3 := (HN.out.bel HB1.out).cell 3
  have m4 := (HN.out.bel HB1.out).cell 4
  simp at q0 q1 m0 m1 m2 m3 m4
  go_wp2_with fail
  clear q0 q1 m0 m1 m2 m3 m4
  have hin := HP.out.bel (HW.out.tr HB1.out)
  refine (implPoolWrite_c (name := nm) (blk := n) (text := tx) hin HS.out HO.out.text).mono ?_
  rintro e w3 ⟨v2, v3, bvs3, rfl, ho3, hb3⟩
  clear hin
  have HO3 := Lib.hid ho3
  have HZ := Lib.hid (HW.out.tr HB1.out).size
  replace HB1 := Lib.hid (HB1.out.tr hb3)
  clear ho3 hb3
  obtain ⟨q, hq⟩ : ∃ q, chP p (writeF p nm n tx) = q := ⟨_, rfl⟩
  obtain ⟨ok, hok⟩ : ∃ ok, chB p (writeF p nm n tx) = ok := ⟨_, rfl⟩
  rw [hq] at HO3
  rw [hok]
  have HQ := Lib.hid hq
  have HK2 := Lib.hid hok
  clear hq hok
  obtain ⟨A2, A3, c2, c3, rfl, rfl, hpi⟩ := HO3.out.reads
  clear hpi
  have r0 := (HR.out.bel HB1.out).cell 0
  have r1 := (HR.out.bel HB1.out).cell 1
  have f0 := (HR.out.bel HB1.out).free 0
  have f1 := (HR.out.bel HB1.out).free 1
  simp at r0 r1
  go_wp2
  have hR2 := HR.out.bel HB1.out
  have hR3 := hR2.set 0 (.slice A2 q.slots.length c2) (cs' := #[.slice A2 q.slots.length c2, .slice none 0 0]) rfl
  have hR4 := hR3.set 1 (.slice A3 q.vols.length c3) (cs' := #[.slice A2 q.slots.length c2, .slice A3 q.vols.length c3]) rfl
  have hb5 := bel_set (bel_set (HW.out.tr HB1.out) (show w.heap.size ≤ w.heap.size + 1 + 1 by omega) 0 (.slice A2 q.slots.length c2)) (show w.heap.size ≤ w.heap.size + 1 + 1 by omega) 1 (.slice A3 q.vols.length c3)
  have hop4 := (HO3.out.far hR2 (by decide) (by decide) (by decide) 0 (.slice A2 q.slots.length c2)).far hR3 (by decide) (by decide) (by decide) 1 (.slice A3 q.vols.length c3)
  refine bodyPost_ret (results_ct rfl _ _ (w.heap.size + 1 + 1) 44 #[.slice A2 q.slots.length c2, .slice A3 q.vols.length c3] (0, 0) _ rfl hR4 Tryz.underlying44 rfl (by kernel_rfl)) rfl ?_
  rw [EO.out.1, EO.out.2, EF.out, HQ.out, HK2.out]
  exact ⟨_, _, _, rfl, hop4.lower HZ.out, hb5⟩
 ·simp only at hk
  subst hk
  clear hok
  have EF : Hid (opF p ⟨3, nm, ds, n, tx⟩ = cloneF p nm ds) := rfl
  have q0 := (HB.out.bel HB1.out).cell 0
  have q1 := (HB.out.bel HB1.out).cell 1
  have m0 := (HN.out.bel HB1.out).cell 0
  have m1 := (HN.out.bel HB1.out).cell 1
  have m2 := (HN.out.bel HB1.out).cell 2
  have m3 := (HN.out.bel HB1.out).cell 3
  have m4 := (HN.out.bel HB1.out).cell 4
  simp at q0 q1 m0 m1 m2 m3 m4
  go_wp2_with fail
  clear q0 q1 m0 m1 m2 m3 m4
  have hin := HP.out.bel (HW.out.tr HB1.out)
  refine (implPoolClone_c (fr := nm) (dst := ds) hin HS.out HO.out.dest).mono ?_
  rintro e w3 ⟨v2, v3, bvs3, rfl, ho3, hb3⟩
  clear hin
  have HO3 := Lib.hid ho3
  have HZ := Lib.hid (HW.out.tr HB1.out).size
  replace HB1 := Lib.hid (HB1.out.tr hb3)
  clear ho3 hb3
  obtain ⟨q, hq⟩ : ∃ q, chP p (cloneF p nm ds) = q := ⟨_, rfl⟩
  obtain ⟨ok, hok⟩ : ∃ ok, chB p (cloneF p nm ds) = ok := ⟨_, rfl⟩
  rw [hq] at HO3
  rw [hok]
  have HQ := Lib.hid hq
  have HK2 := Lib.hid hok
  clear hq hok
  obtain ⟨A2, A3, c2, c3, rfl, rfl, hpi⟩ := HO3.out.reads
  clear hpi
  have r0 := (HR.out.bel HB1.out).cell 0
  have r1 := (HR.out.bel HB1.out).cell 1
  have f0 := (HR.out.bel HB1.out).free 0
  have f1 := (HR.out.bel HB1.out).free 1
  simp at r0 r1
  go_wp2
  have hR2 := HR.out.bel HB1.out
  have hR3 := hR2.set 0 (.slice A2 q.slots.length c2) (cs' := #[.slice A2 q.slots.length c2, .slice none 0 0]) rfl
  have hR4 := hR3.set 1 (.slice A3 q.vols.length c3) (cs' := #[.slice A2 q.slots.length c2, .slice A3 q.vols.length c3]) rfl
  have hb5 := bel_set (bel_set (HW.out.tr HB1.out) (show w.heap.size ≤ w.heap.size + 1 + 1 by omega) 0 (.slice A2 q.slots.length c2)) (show w.heap.size ≤ w.heap.size + 1 + 1 by omega) 1 (.slice A3 q.vols.length c3)
  have hop4 := (HO3.out.far hR2 (by decide) (by decide) (by decide) 0 (.slice A2 q.slots.length c2)).far hR3 (by decide) (by decide) (by decide) 1 (.slice A3 q.vols.length c3)
  refine bodyPost_ret (results_ct rfl _ _ (w.heap.size + 1 + 1) 44 #[.slice A2 q.slots.length c2, .slice A3 q.vols.length c3] (0, 0) _ rfl hR4 Tryz.underlying44 rfl (by kernel_rfl)) rfl ?_
  rw [EO.out.1, EO.out.2, EF.out, HQ.out, HK2.out]
  exact ⟨_, _, _, rfl, hop4.lower HZ.out, hb5⟩
 ·simp only at hk
  subst hk
  clear hok
  have EF : Hid (opF p ⟨4, nm, ds, n, tx⟩ = goneF p nm) := rfl
  have q0 := (HB.out.bel HB1.out).cell 0
  have q1 := (HB.out.bel HB1.out).cell 1
  have m0 := (HN.out.bel HB1.out).cell 0
  have m1 := (HN.out.bel HB1.out).cell 1
  have m2 := (HN.out.bel HB1.out).cell 2
  have m3 := (HN.out.bel HB1.out).cell 3
  have m4 := (HN.out.bel HB1.out).cell 4
  simp at q0 q1 m0 m1 m2 m3 m4
  go_wp2_with fail
  clear q0 q1 m0 m1 m2 m3 m4
  have hin := HP.out.bel (HW.out.tr HB1.out)
  refine (implPoolGone_c (name := nm) hin HS.out).mono ?_
  rintro e w3 ⟨v2, v3, bvs3, rfl, ho3, hb3⟩
  clear hin
  have HO3 := Lib.hid ho3
  have HZ := Lib.hid (HW.out.tr HB1.out).size
  replace HB1 := Lib.hid (HB1.out.tr hb3)
  clear ho3 hb3
  obtain ⟨q, hq⟩ : ∃ q, chP p (goneF p nm) = q := ⟨_, rfl⟩
  obtain ⟨ok, hok⟩ : ∃ ok, chB p (goneF p nm) = ok := ⟨_, rfl⟩
  rw [hq] at HO3
  rw [hok]
  have HQ := Lib.hid hq
  have HK2 := Lib.hid hok
  clear hq hok
  obtain ⟨A2, A3, c2, c3, rfl, rfl, hpi⟩ := HO3.out.reads
  clear hpi
  have r0 := (HR.out.bel HB1.out).cell 0
  have r1 := (HR.out.bel HB1.out).cell 1
  have f0 := (HR.out.bel HB1.out).free 0
  have f1 := (HR.out.bel HB1.out).free 1
  simp at r0 r1
  go_wp2
  have hR2 := HR.out.bel HB1.out
  have hR3 := hR2.set 0 (.slice A2 q.slots.length c2) (cs' := #[.slice A2 q.slots.length c2, .slice none 0 0]) rfl
  have hR4 := hR3.set 1 (.slice A3 q.vols.length c3) (cs' := #[.slice A2 q.slots.length c2, .slice A3 q.vols.length c3]) rfl
  have hb5 := bel_set (bel_set (HW.out.tr HB1.out) (show w.heap.size ≤ w.heap.size + 1 + 1 by omega) 0 (.slice A2 q.slots.length c2)) (show w.heap.size ≤ w.heap.size + 1 + 1 by omega) 1 (.slice A3 q.vols.length c3)
  have hop4 := (HO3.out.far hR2 (by decide) (by decide) (by decide) 0 (.slice A2 q.slots.length c2)).far hR3 (by decide) (by decide) (by decide) 1 (.slice A3 q.vols.length c3)
  refine bodyPost_ret (results_ct rfl _ _ (w.heap.size + 1 + 1) 44 #[.slice A2 q.slots.length c2, .slice A3 q.vols.length c3] (0, 0) _ rfl hR4 Tryz.underlying44 rfl (by kernel_rfl)) rfl ?_
  rw [EO.out.1, EO.out.2, EF.out, HQ.out, HK2.out]
  exact ⟨_, _, _, rfl, hop4.lower HZ.out, hb5⟩
open Go.RowKit Go.Proofs.YtljfoglilggkjaaGreatW.PrintWords
def opR (p : Pool) (o : Op) : Option Pool := if opOk o then opF p o else none
def runP : Pool → List Op → Option Pool
 | p, [] => some p
 | p, o :: os => (opR p o).bind fun q => runP q os
theorem opR_ok {p q : Pool} {o : Op} (hp : PoolP p) (h : opR p o = some q) : PoolP q := by
 unfold opR at h
 split at h
 ·exact opF_ok hp h
 ·cases h
theorem runP_ok : ∀ (os : List Op) {p q : Pool}, PoolP p → runP p os = some q → PoolP q
 | [], p, q, hp, h => by cases h; exact hp
 | o :: os, p, q, hp, h => by
  obtain ⟨x, hx, hq⟩ := Option.bind_eq_some_iff.1 h
  exact runP_ok os (opR_ok hp hx) hq
theorem runP_append : ∀ (xs bs : List Op) (p : Pool), runP p (xs ++ bs) = (runP p xs).bind fun q => runP q bs
 | [], bs, p => rfl
 | a :: xs, bs, p => by
  show (opR p a).bind _ = ((opR p a).bind _).bind _
  cases opR p a with
  | none => rfl
  | some x => exact runP_append xs bs x
theorem runP_snoc (p : Pool) (os : List Op) (o : Op) : runP p (os ++ [o]) = (runP p os).bind fun q => opR q o := by
 rw [runP_append]
 congr
 funext q
 show (opR q o).bind _ = _
 cases opR q o <;> rfl
theorem runP_step {p q : Pool} {os : List Op} {k : Nat} {o : Op} (hk : os[k]? = some o) (h : runP p (os.take k) = some q) : runP p (os.take (k + 1)) = opR q o := by
 rw [take_snoc hk, runP_snoc, h]; rfl
theorem runP_stop {p : Pool} {os : List Op} {k : Nat} (h : runP p (os.take k) = none) : runP p os = none := by
 rw [← List.take_append_drop k os, runP_append, h]; rfl
theorem runP_part {p : Pool} {os : List Op} (h : (runP p os).isSome = true) (k : Nat) : (runP p (os.take k)).isSome = true := by
 cases h1 : runP p (os.take k) with
 | none => rw [runP_stop h1] at h; cases h
 | some q => rfl
theorem chO_opR {p : Pool} (hp : PoolP p) (o : Op) : chOB p o = (opR p o).isSome ∧ ∀ q, opR p o = some q → chO p o = q := by
 unfold chOB chO opR chB chP
 rw [poolOk_iff.2 hp]
 cases opOk o with
 | false => exact ⟨rfl, fun q h => by cases h⟩
 | true =>
  refine ⟨by simp, fun q h => ?_⟩
  have h : opF p o = some q := by simpa using h
  rw [h]
  rfl
def runB (p : Pool) (os : List Op) : Bool := poolOk p && (runP p os).isSome
def runV (p : Pool) (os : List Op) : Pool := if poolOk p then (runP p os).getD noP else noP
theorem runV_ok {p q : Pool} {os : List Op} (hp : PoolP p) (h : runP p os = some q) : runV p os = q ∧ runB p os = true := by
 unfold runV runB
 rw [poolOk_iff.2 hp, h]
 exact ⟨rfl, rfl⟩
theorem runV_no {p : Pool} {os : List Op} (hp : PoolP p) (h : runP p os = none) : runV p os = noP ∧ runB p os = false := by
 unfold runV runB
 rw [poolOk_iff.2 hp, h]
 exact ⟨rfl, rfl⟩
theorem runV_bad {p : Pool} (os : List Op) (h : poolOk p = false) : runV p os = noP ∧ runB p os = false := by
 unfold runV runB
 rw [h]
 exact ⟨rfl, rfl⟩
theorem runV_small {p : Pool} {os : List Op} : SmallP (runV p os) := by
 unfold runV
 split
 case isTrue h =>
  cases h1 : runP p os with
  | none => exact noP_small
  | some q => exact (runP_ok os (poolOk_iff.1 h) h1).small
 ·exact noP_small
structure Log where
  base : Pool
  ops : List Op
  safe : Int
def noL : Log := ⟨noP, [], 0⟩
def logOk (l : Log) : Bool := runB l.base l.ops && (decide (l.ops.length ≤ 20) && inR l.safe 0 l.ops.length)
structure SmallL (l : Log) : Prop where
  base : SmallP l.base
  ops : SmallOs l.ops
structure LogP (l : Log) (q : Pool) : Prop where
  base : PoolP l.base
  run : runP l.base l.ops = some q
  len : l.ops.length ≤ 20
  s0 : 0 ≤ l.safe
  s1 : l.safe ≤ l.ops.length
theorem logOk_iff {l : Log} : logOk l = true ↔ ∃ q, LogP l q := by
 unfold logOk runB
 constructor
 ·intro h
  simp only [Bool.and_eq_true, decide_eq_true_eq, inR_iff] at h
  obtain ⟨q, hq⟩ := Option.isSome_iff_exists.1 h.1.2
  exact ⟨q, poolOk_iff.1 h.1.1, hq, h.2.1, h.2.2.1, h.2.2.2⟩
 ·rintro ⟨q, h⟩
  rw [poolOk_iff.2 h.base, h.run]
  simp only [Option.isSome_some, Bool.and_eq_true, decide_eq_true_eq, inR_iff]
  exact ⟨⟨trivial, trivial⟩, h.len, h.s0, h.s1⟩
def nodeOk (n : Node) : Bool := inR n.term 0 99 && ((n.leads || !n.alone) && (runB newP n.ops && decide (n.ops.length ≤ 20)))
structure NodeP (n : Node) (q : Pool) : Prop where
  t0 : 0 ≤ n.term
  t1 : n.term ≤ 99
  al : n.alone = true → n.leads = true
  run : runP newP n.ops = some q
  len : n.ops.length ≤ 20
theorem nodeOk_iff {n : Node} (hn : PoolP newP) : nodeOk n = true ↔ ∃ q, NodeP n q := by
 unfold nodeOk runB
 rw [poolOk_iff.2 hn]
 constructor
 ·intro h
  simp only [Bool.and_eq_true, decide_eq_true_eq, inR_iff, Bool.or_eq_true, Bool.not_eq_true'] at h
  obtain ⟨q, hq⟩ := Option.isSome_iff_exists.1 h.2.2.1.2
  refine ⟨q, h.1.1, h.1.2, fun e => ?_, hq, h.2.2.2⟩
  rcases h.2.1 with h | h
  ·exact h
  ·rw [h] at e; cases e
 ·rintro ⟨q, h⟩
  rw [h.run]
  simp only [Option.isSome_some, Bool.and_eq_true, decide_eq_true_eq, inR_iff, Bool.or_eq_true, Bool.not_eq_true']
  refine ⟨⟨h.t0, h.t1⟩, ?_, ⟨trivial, trivial⟩, h.len⟩
  cases ha : n.alone with
  | false => exact .inr rfl
  | true => exact .inl (h.al ha)
def poolF (l : Log) : Pool := if logOk l then runV l.base l.ops else noP
def keepF (l : Log) : Log := if logOk l then ⟨l.base, l.ops, l.ops.length⟩ else noL
def cutL (l : Log) (left : Int) : Nat := (max l.safe (min left l.ops.length)).toNat
def fallF (l : Log) (left : Int) : Log := if logOk l && decide (0 ≤ left) then ⟨l.base, l.ops.take (cutL l left), l.safe⟩ else noL
def packF (l : Log) : Log := if logOk l then ⟨runV l.base (l.ops.take l.safe.toNat), l.ops.drop l.safe.toNat, 0⟩ else noL
def addB (l : Log) (o : Op) : Bool := logOk l && opOk o && ((opR (runV l.base l.ops) o).isSome && decide (l.ops.length < 20))
def addF (l : Log) (o : Op) : Log := if logOk l && opOk o then (if addB l o then ⟨l.base, l.ops ++ [o], l.safe⟩ else l) else noL
theorem LogP.ok {l : Log} {q : Pool} (h : LogP l q) : logOk l = true := logOk_iff.2 ⟨q, h⟩
theorem LogP.out {l : Log} {q : Pool} (h : LogP l q) : PoolP q := runP_ok _ h.base h.run
theorem LogP.runE {l : Log} {q : Pool} (h : LogP l q) : runV l.base l.ops = q := (runV_ok h.base h.run).1
theorem LogP.poolE {l : Log} {q : Pool} (h : LogP l q) : poolF l = q := by unfold poolF; rw [if_pos h.ok, h.runE]
theorem LogP.keepE {l : Log} {q : Pool} (h : LogP l q) : keepF l = ⟨l.base, l.ops, l.ops.length⟩ := by unfold keepF; rw [if_pos h.ok]
theorem LogP.keep {l : Log} {q : Pool} (h : LogP l q) : LogP (keepF l) q := by
 rw [h.keepE]
 exact ⟨h.base, h.run, h.len, by show (0 : Int) ≤ (l.ops.length : Int); omega, Int.le_refl _⟩
theorem LogP.part {l : Log} {q : Pool} (h : LogP l q) (k : Nat) : ∃ r, runP l.base (l.ops.take k) = some r ∧ PoolP r ∧ runP r (l.ops.drop k) = some q := by
 have hs : (runP l.base l.ops).isSome = true := by rw [h.run]; rfl
 obtain ⟨r, hr⟩ := Option.isSome_iff_exists.1 (runP_part hs k)
 refine ⟨r, hr, runP_ok _ h.base hr, ?_⟩
 have h1 := h.run
 rw [← List.take_append_drop k l.ops, runP_append, hr] at h1
 exact h1
theorem LogP.cut {l : Log} {q : Pool} (h : LogP l q) {left : Int} (hl : 0 ≤ left) : l.safe ≤ cutL l left ∧ cutL l left ≤ l.ops.length ∧ (cutL l left : Int) = max l.safe (min left l.ops.length) := by
 have h0 := h.s0
 have h1 := h.s1
 unfold cutL
 omega
structure LogIn (w : World) (A B C : Option Addr) (a b c : Nat) (l : Log) : Prop where
  p : PoolIn w A B a b l.base
  o : kOp.C w C l.ops.length l.ops
  oc : l.ops.length ≤ c
section
variable {w w' : World} {A B C : Option Addr} {a b c bk : Nat} {l : Log}
theorem LogIn.bel (h : LogIn w A B C a b c l) (hb : Bel w w') : LogIn w' A B C a b c l := ⟨h.p.bel hb, Kd.C_below h.o hb, h.oc⟩
theorem LogIn.alloc (h : LogIn w A B C a b c l) (o : Obj) : LogIn (w.alloc o) A B C a b c l := h.bel (bel_alloc (Below.refl _ _) o)
structure LVar (w : World) (bk : Nat) (A B C : Option Addr) (a b c : Nat) (l : Log) : Prop where
  blk : Blk w bk #[.slice A l.base.slots.length a, .slice B l.base.vols.length b, .slice C l.ops.length c, .int .i64 l.safe] 50
  inn : LogIn w A B C a b c l
theorem LVar.bel (h : LVar w bk A B C a b c l) (hb : Bel w w') : LVar w' bk A B C a b c l := ⟨h.blk.bel hb, h.inn.bel hb⟩
theorem LVar.new (h : LogIn w A B C a b c l) : LVar (w.alloc (.cells #[.slice A l.base.slots.length a, .slice B l.base.vols.length b, .slice C l.ops.length c, .int .i64 l.safe] 50)) w.heap.size A B C a b c l := ⟨Blk.new _ _ _, h.alloc _⟩
theorem LVar.c0 (h : LVar w bk A B C a b c l) : w.cell? ⟨bk, 0, none⟩ = some (.slice A l.base.slots.length a) := by have := h.blk.cell 0; simpa using this
theorem LVar.c1 (h : LVar w bk A B C a b c l) : w.cell? ⟨bk, 1, none⟩ = some (.slice B l.base.vols.length b) := by have := h.blk.cell 1; simpa using this
theorem LVar.c2 (h : LVar w bk A B C a b c l) : w.cell? ⟨bk, 2, none⟩ = some (.slice C l.ops.length c) := by have := h.blk.cell 2; simpa using this
theorem LVar.c3 (h : LVar w bk A B C a b c l) : w.cell? ⟨bk, 3, none⟩ = some (.int .i64 l.safe) := by have := h.blk.cell 3; simpa using this
theorem LVar.lt (h : LVar w bk A B C a b c l) : bk < w.heap.size := h.blk.lt
end
def NewL (w : World) (l : Log) (e : Ending) (w' : World) : Prop := ∃ (A B C : Option Addr) (a b c : Nat), e = .returned (.agg #[.slice A l.base.slots.length a, .slice B l.base.vols.length b, .slice C l.ops.length c, .int .i64 l.safe]) ∧ LogIn w' A B C a b c l ∧ Bel w w'
def NewLB (w : World) (l : Log) (ok : Bool) (e : Ending) (w' : World) : Prop := ∃ (A B C : Option Addr) (a b c : Nat), e = .returned (.tuple #[.agg #[.slice A l.base.slots.length a, .slice B l.base.vols.length b, .slice C l.ops.length c, .int .i64 l.safe], .bool ok]) ∧ LogIn w' A B C a b c l ∧ Bel w w'
def NewP1 (w : World) (q : Pool) (e : Ending) (w' : World) : Prop := ∃ (A0 A1 : Option Addr) (c0 c1 : Nat), e = .returned (.agg #[.slice A0 q.slots.length c0, .slice A1 q.vols.length c1]) ∧ PoolIn w' A0 A1 c0 c1 q ∧ Bel w w'
theorem OwnO.inn {w : World} {base : Nat} {v : Value} {s : List Op} (h : OwnO w base v s) : ∃ A c, v = .slice A s.length c ∧ s.length ≤ c ∧ kOp.C w A s.length s := h.reads
theorem MadeP.new1 {w : World} {q : Pool} {e : Ending} {w' : World} (h : MadeP w q e w') : NewP1 w q e w' := by
 obtain ⟨v0, v1, bvs, rfl, ho, hb⟩ := h
 obtain ⟨A0, A1, c0, c1, rfl, rfl, hi⟩ := ho.reads
 exact ⟨A0, A1, c0, c1, rfl, hi, hb⟩
def OwnT (w : World) (base : Nat) (v : Value) (os : List Op) : Prop :=
 (os = [] ∧ ∃ A : Option Addr, v = .slice A 0 0 ∧ ∀ a, A = some a → base ≤ a.block ∧ a.block < w.heap.size ∧ ∃ cs, w.heap[a.block]? = some (.cells cs 27 (0, 0))) ∨
 ∃ (g cap : Nat) (pre : List Op), v = .slice (some ⟨g, pre.length * 5, none⟩) os.length (cap - pre.length) ∧ pre.length ≤ 1048576 ∧ OwnO w base (.slice (some ⟨g, 0, none⟩) (pre.length + os.length) cap) (pre ++ os)
theorem OwnO.tail {w : World} {base : Nat} {v : Value} {os : List Op} (h : OwnO w base v os) : OwnT w base v os := by
 rcases h.2 with ⟨rfl, h0⟩ | ⟨g, cap, cur, rfl, _⟩
 ·exact .inl ⟨List.length_eq_zero_iff.1 h0, none, rfl, fun a e => by cases e⟩
 ·refine .inr ⟨g, cap, [], rfl, by simp, ?_⟩
  simpa using h
theorem OwnO.len {w : World} {base : Nat} {A : Option Addr} {n c : Nat} {os : List Op} (h : OwnO w base (.slice A n c) os) : n = os.length := by
 obtain ⟨A', c', e, _⟩ := own_cap h
 injection e
theorem OwnO.full {w : World} {base g n cap : Nat} {os : List Op} (h : OwnO w base (.slice (some ⟨g, 0, none⟩) n cap) os) :
  base ≤ g ∧ g < w.heap.size ∧ n ≤ cap ∧ (∀ j, j < cap * 5 → (w.cell? ⟨g, j, none⟩).isSome = true) ∧ ∀ j, w.frozen? ⟨g, j, none⟩ = false := by
 rcases h.2 with ⟨e, _⟩ | ⟨g', cap', cur, e, hb, hg, hc, _, hs, _⟩
 ·cases e
 ·have hn := h.len
  obtain ⟨rfl, rfl, rfl⟩ : g = g' ∧ n = os.length ∧ cap = cap' := by simpa using e
  refine ⟨hb, (Array.getElem?_eq_some_iff.1 hg).1, hc, fun j hj => ?_, fun j => World.ownsRow.frozenAt h j⟩
  have : w.cell? ⟨g, j, none⟩ = cur[j]? := by simp [World.cell?, hg]
  rw [this, Array.getElem?_eq_getElem (by rw [hs]; exact hj)]
  rfl
theorem OwnT.reads {w : World} {base : Nat} {v : Value} {os : List Op} (h : OwnT w base v os) : ∃ A c, v = .slice A os.length c ∧ os.length ≤ c ∧ kOp.C w A os.length os := by
 rcases h with ⟨rfl, A, rfl, _⟩ | ⟨g, cap, pre, rfl, hpl, ho⟩
 ·exact ⟨A, 0, rfl, Nat.le_refl _, ⟨rfl, by simp, fun h => absurd h (Nat.lt_irrefl 0)⟩⟩
 ·have hf := ho.full
  refine ⟨_, _, rfl, by omega, ?_⟩
  have hc : kOp.C w (some ⟨g, 0, none⟩) (pre ++ os).length (pre ++ os) := by
   obtain ⟨A', c', e, _, hr⟩ := OwnO.reads ho
   obtain ⟨rfl, -, -⟩ := by simpa using e
   exact hr
  cases os with
  | nil => exact ⟨rfl, by simp, fun h => absurd h (Nat.lt_irrefl 0)⟩
  | cons o os =>
   have hd := Kd.C_drop (c := cap) hc (m := pre.length) (by simp) (by rw [List.length_append]; exact hf.2.2.1)
   rw [if_neg (by have := hf.2.2.1; simp only [List.length_cons] at this; omega), List.drop_left] at hd
   have e : (some (⟨g, 0, none⟩ : Addr)).map (·.add (pre.length * kOp.sz)) = some ⟨g, pre.length * 5, none⟩ := by
    show some ((⟨g, 0, none⟩ : Addr).add (pre.length * 5)) = _
    rw [Addr.add_lit, Nat.zero_add]
   rw [e] at hd
   exact hd
theorem OwnT.bel {w w' : World} {base : Nat} {v : Value} {os : List Op} (h : OwnT w base v os) (hb : Bel w w') : OwnT w' base v os := by
 rcases h with ⟨rfl, A, rfl, ha⟩ | ⟨g, cap, pre, rfl, hpl, ho⟩
 ·refine .inl ⟨rfl, A, rfl, fun a e => ?_⟩
  obtain ⟨h1, h2, cs, h3⟩ := ha a e
  exact ⟨h1, Nat.lt_of_lt_of_le h2 hb.size, cs, (hb.block _ h2).trans h3⟩
 ·exact .inr ⟨g, cap, pre, rfl, hpl, ho.bel hb⟩
theorem OwnT.base {w : World} {base : Nat} {v : Value} {os : List Op} (h : OwnT w base v os) : ∀ k, v.ownBlock = some k → base ≤ k ∧ k < w.heap.size ∧ ∃ cs, w.heap[k]? = some (.cells cs 27 (0, 0)) := by
 rcases h with ⟨rfl, A, rfl, ha⟩ | ⟨g, cap, pre, rfl, hpl, ho⟩
 ·intro k hk
  cases A with
  | none => cases hk
  | some a => cases hk; exact ha a rfl
 ·intro k hk
  cases hk
  rcases ho.2 with ⟨e, _⟩ | ⟨g', cap', cur, e, hb, hg, hc, _, hs, _⟩
  ·cases e
  ·obtain ⟨rfl, -, -⟩ := by simpa using e
   exact ⟨hb, (Array.getElem?_eq_some_iff.1 hg).1, cur, hg⟩
theorem OwnT.kept {w w' : World} {base : Nat} {v : Value} {os : List Op} {r : Option Nat} (h : OwnT w base v os) (hg : w.grownBy w' r) (hne : ∀ k, v.ownBlock = some k → r ≠ some k) : OwnT w' base v os := by
 rcases h with ⟨rfl, A, rfl, ha⟩ | ⟨g, cap, pre, rfl, hpl, ho⟩
 ·refine .inl ⟨rfl, A, rfl, fun a e => ?_⟩
  obtain ⟨h1, h2, cs, h3⟩ := ha a e
  refine ⟨h1, Nat.lt_of_lt_of_le h2 hg.size, cs, (hg.block _ h2 ?_).trans h3⟩
  subst e
  exact fun e => hne _ rfl e.symm
 ·exact .inr ⟨g, cap, pre, rfl, hpl, ho.kept hg (.inr fun e => hne g rfl e.symm)⟩
theorem OwnT.cut {w : World} {base : Nat} {A : Option Addr} {c : Nat} {os : List Op} (h : OwnO w base (.slice A os.length c) os) (hl : os.length ≤ 1048576) {m : Nat} (hm : m ≤ os.length) :
  OwnT w base (.slice (if c = m then A else A.map (·.add (m * 5))) (os.length - m) (c - m)) (os.drop m) := by
 rcases h.2 with ⟨e, h0⟩ | ⟨g, cap, cur, e, hb, hg, hc, _⟩
 ·obtain ⟨rfl, h1, rfl⟩ := by simpa using e
  have : m = 0 := by omega
  subst this
  rw [if_pos rfl]
  have : os = [] := List.length_eq_zero_iff.1 h0
  subst this
  exact .inl ⟨rfl, none, rfl, fun a e => by cases e⟩
 ·obtain ⟨rfl, rfl⟩ : A = some ⟨g, 0, none⟩ ∧ c = cap := by simpa using e
  by_cases hcm : c = m
  ·have ht : m = os.length := by omega
   rw [if_pos hcm]
   subst ht
   rw [List.drop_length, Nat.sub_self, hcm, Nat.sub_self]
   exact .inl ⟨rfl, _, rfl, fun a e => by cases e; exact ⟨hb, (Array.getElem?_eq_some_iff.1 hg).1, cur, hg⟩⟩
  ·rw [if_neg hcm]
   have ht : (os.take m).length = m := by rw [List.length_take]; omega
   refine .inr ⟨g, c, os.take m, ?_, by omega, ?_⟩
   ·rw [ht, List.length_drop]
    show Value.slice (some ((⟨g, 0, none⟩ : Addr).add (m * 5))) _ _ = _
    rw [Addr.add_lit, Nat.zero_add]
   ·rw [List.take_append_drop, ht, List.length_drop, show m + (os.length - m) = os.length by omega]
    exact h
theorem ok_inj {P : Program} {w : World} {s : Sem Value} {v v' : Value} {w1 w2 : World} (h : s.run P w = .ok v w1) (h' : s.run P w = .ok v' w2) : v = v' ∧ w1 = w2 := by
 rw [h] at h'
 injection h' with h1 h2
 exact ⟨h1, h2⟩
theorem run_append_tail {w : World} {base : Nat} {v : Value} {os : List Op} (h : OwnT w base v os) (ty : TypeId) (x : Op) (a : Addr) (c : Nat) (hx : ∀ j u, (encO x)[j]? = some u → w.cell? (a.add j) = some u) (hl : os.length ≤ 1048576) (hbase : base ≤ w.heap.size) :
  ∃ v' w', (Builtin.append_ #[23, 23] ty #[v, .slice (some a) 1 c]).run Tryz.prog w = .ok v' w' ∧ OwnT w' base v' (os ++ [x]) ∧ w.grownBy w' v.ownBlock ∧ (v'.ownBlock = v.ownBlock ∨ ∃ b, v'.ownBlock = some b ∧ w.heap.size ≤ b) := by
 obtain ⟨i, hi, hzz⟩ := Option.map_eq_some_iff.1 info_opR
 simp only [Prod.mk.injEq] at hzz
 obtain ⟨hz0, hz1, hz2⟩ := hzz
 have h1 : ∀ u ∈ encO x, u.oneCell' = true := by intro u hu; simp [encO] at hu; rcases hu with rfl | rfl | rfl | rfl | rfl <;> rfl
 have hnew : ∀ {v' : Value} {w' : World} {xs : List Op}, w'.ownsRow w.heap.size 27 5 v' (xs.length + 1) (xs.flatMap encO ++ encO x) → OwnT w' base v' (xs ++ [x]) := fun {v' w' xs} ho => by
  refine OwnO.tail (show OwnO w' base v' (xs ++ [x]) from ?_)
  unfold OwnO
  rw [List.length_append, List.flatMap_append]
  simpa using own_lower ho hbase
 rcases h with ⟨rfl, A, rfl, ha⟩ | ⟨g, cap, pre, rfl, hpl, ho⟩
 ·cases A with
  | none =>
   obtain ⟨v1, w1, hr, h2, hg, _, hat⟩ := run_append_own_at (P := Tryz.prog) w base 23 ty 27 i _ 5 64 Tryz.underlying23 hi hz0 hz1 hz2 rfl (by decide) (.slice none 0 0) 0 [] (World.ownsRow_nil _ _ _ _) a 1 c (encO x) rfl hx h1 (by simp [maxLen]) (by omega) hbase
   refine ⟨v1, w1, hr, OwnO.tail (show OwnO w1 base v1 [x] by unfold OwnO; simpa using h2), hg, ?_⟩
   rcases hat with hat | hat
   ·exact .inl hat
   ·exact .inr ⟨_, hat, Nat.le_refl _⟩
  | some b =>
   obtain ⟨v1, w1, hr, h2, hg⟩ := run_append_arg_grows (P := Tryz.prog) w 23 ty 27 i _ 5 64 Tryz.underlying23 hi hz0 hz1 hz2 rfl (by decide) b 0 0 [] rfl (fun j u hj => by simp at hj) a 1 c (encO x) rfl hx (by omega) (by simp [maxLen]) (by omega)
   have h3 := hnew (xs := []) (by simpa using h2)
   refine ⟨v1, w1, hr, h3, ⟨hg.os, hg.tape, hg.output, hg.size, fun k hk _ => hg.block k hk (by simp)⟩, ?_⟩
   cases hv : v1.ownBlock with
   | none =>
    rcases h2.2 with ⟨e, h0⟩ | ⟨g, cap, cur, e, _⟩
    ·omega
    ·rw [e] at hv; cases hv
   | some k => exact .inr ⟨k, rfl, own_base h2 k hv⟩
 ·have hf := ho.full
  have hN : (pre ++ os).length = pre.length + os.length := List.length_append
  by_cases hroom : os.length + 1 ≤ cap - pre.length
  ·have hcell : ∀ j, j < (encO x).length → (w.cell? ⟨g, pre.length * 5 + os.length * i.size + j, none⟩).isSome = true := fun j hj => hf.2.2.2.1 _ (by rw [hz1]; rw [encO_len] at hj; omega)
   have hcell' : ∀ j, j < (encO x).length → (w.cell? ⟨g, 0 + (pre.length + os.length) * i.size + j, none⟩).isSome = true := fun j hj => hf.2.2.2.1 _ (by rw [hz1]; rw [encO_len] at hj; omega)
   have hT := run_append_room_cells (P := Tryz.prog) w 23 ty 27 i Tryz.underlying23 hi g (pre.length * 5) os.length (cap - pre.length) a 1 c (encO x) (by rw [hz1]; rfl) hx h1 hroom hcell (fun j _ => hf.2.2.2.2 _)
   have hF := run_append_room_cells (P := Tryz.prog) w 23 ty 27 i Tryz.underlying23 hi g 0 (pre.length + os.length) cap a 1 c (encO x) (by rw [hz1]; rfl) hx h1 (by omega) hcell' (fun j _ => hf.2.2.2.2 _)
   have ho' : w.ownsRow base 27 5 (.slice (some ⟨g, 0, none⟩) (pre.length + os.length) cap) (pre.length + os.length) ((pre ++ os).flatMap encO) := by rw [← hN]; rw [← hN] at ho; exact ho
   obtain ⟨v1, w1, hr, h2, hg, _, hat⟩ := run_append_own_at (P := Tryz.prog) w base 23 ty 27 i _ 5 64 Tryz.underlying23 hi hz0 hz1 hz2 rfl (by decide) _ _ _ ho' a 1 c (encO x) rfl hx h1 (by simp only [maxLen]; omega) (by omega) hbase
   obtain ⟨rfl, rfl⟩ := ok_inj hr hF
   refine ⟨_, _, hT, .inr ⟨g, cap, pre, ?_, hpl, ?_⟩, ?_, .inl rfl⟩
   ·rw [List.length_append]; rfl
   ·have e : pre.length * 5 + os.length * i.size = 0 + (pre.length + os.length) * i.size := by rw [hz1]; omega
    have e2 : pre ++ (os ++ [x]) = (pre ++ os) ++ [x] := (List.append_assoc _ _ _).symm
    have e3 : pre.length + (os ++ [x]).length = pre.length + os.length + 1 := by rw [List.length_append]; rfl
    have e4 : ((pre ++ os) ++ [x]).length = pre.length + os.length + 1 := by rw [List.length_append, hN]; rfl
    have e5 : ((pre ++ os) ++ [x]).flatMap encO = (pre ++ os).flatMap encO ++ encO x := by rw [List.flatMap_append]; simp
    unfold OwnO
    rw [e2, e3, e4, e5, e]
    exact h2
   ·have e : pre.length * 5 + os.length * i.size = 0 + (pre.length + os.length) * i.size := by rw [hz1]; omega
    rw [e]
    exact hg
  ·obtain ⟨v1, w1, hr, h2, hg⟩ := run_append_arg_grows (P := Tryz.prog) w 23 ty 27 i _ 5 64 Tryz.underlying23 hi hz0 hz1 hz2 rfl (by decide) ⟨g, pre.length * 5, none⟩ os.length (cap - pre.length) (os.flatMap encO) (flat_len encO_len os)
    (fun j u hj => by
     have hc := World.ownsRow.cells ho (g := g) rfl (pre.length * 5 + j) u (by rw [List.flatMap_append, List.getElem?_append_right (by rw [flat_len encO_len]; omega), flat_len encO_len, Nat.add_sub_cancel_left]; exact hj)
     rw [Addr.add_lit] at hc ⊢
     simpa using hc) a 1 c (encO x) rfl hx (by omega) (by simp only [maxLen]; omega) (by omega)
   refine ⟨v1, w1, hr, hnew h2, ⟨hg.os, hg.tape, hg.output, hg.size, fun k hk _ => hg.block k hk (by simp)⟩, ?_⟩
   cases hv : v1.ownBlock with
   | none =>
    rcases h2.2 with ⟨e, h0⟩ | ⟨g, cap, cur, e, _⟩
    ·omega
    ·rw [e] at hv; cases hv
   | some k => exact .inr ⟨k, rfl, own_base h2 k hv⟩
open Go.RowKit Go.Proofs.YtljfoglilggkjaaGreatW.PrintWords Go.Proofs.YtljfoglilggkjaaGreatW.PrintLast
theorem OwnP.inn {w : World} {base : Nat} {A B : Option Addr} {c d : Nat} {p : Pool} {bvs : List Value} (h : OwnP w base (.slice A p.slots.length c) (.slice B p.vols.length d) p bvs) : PoolIn w A B c d p := by
 obtain ⟨a0, a1, k0, k1, e0, e1, hh⟩ := h.reads
 have e0 := slice_eq e0
 have e1 := slice_eq e1
 obtain ⟨rfl, -, rfl⟩ := e0
 obtain ⟨rfl, -, rfl⟩ := e1
 exact hh
theorem implOk_in {b : Bool} {p : Pool} {A0 A1 : Option Addr} {c0 c1 : Nat} {w : World} (h : PoolIn w A0 A1 c0 c1 p) (hs : SmallP p) (he : poolOk p = b) :
  Calls Tryz.prog 28 #[.agg #[.slice A0 p.slots.length c0, .slice A1 p.vols.length c1]] w (Ret (.bool b) w) := he ▸ implPoolOk_in h hs
structure DoSt (w W : World) (p : Pool) (v0 v1 : Value) (bvs : List Value) : Prop where
  pool : Blk W w.heap.size #[v0, v1] 44
  res : Blk W (w.heap.size + 1) #[.slice none 0 0, .slice none 0 0] 44
  own : OwnP W w.heap.size v0 v1 p bvs
  b : Bel w W
theorem DoSt.bel {w W W' : World} {p : Pool} {v0 v1 : Value} {bvs : List Value} (h : DoSt w W p v0 v1 bvs) (hb : Bel W W') : DoSt w W' p v0 v1 bvs := ⟨h.pool.bel hb, h.res.bel hb, h.own.bel hb, h.b.tr hb⟩
theorem DoSt.of {w W : World} {p : Pool} {v0 v1 x0 x1 : Value} {bvs : List Value} (hB : Blk W w.heap.size #[x0, x1] 44) (hR : Blk W (w.heap.size + 1) #[.slice none 0 0, .slice none 0 0] 44) (ho : OwnP W w.heap.size v0 v1 p bvs) (hb : Bel w W) :
  DoSt w ((W.setCell ⟨w.heap.size, 0, none⟩ v0).setCell ⟨w.heap.size, 1, none⟩ v1) p v0 v1 bvs := by
 have h1 := hB.set 0 v0 (cs' := #[v0, x1]) rfl
 exact ⟨h1.set 1 v1 rfl, (hR.apart (by omega) 0 v0).apart (by omega) 1 v1, (ho.far hB (by decide) (by decide) (by decide) 0 v0).far h1 (by decide) (by decide) (by decide) 1 v1, bel_set (bel_set hb (Nat.le_refl _) 0 v0) (Nat.le_refl _) 1 v1⟩
theorem doAll_c {w : World} {A0 A1 A2 : Option Addr} {c0 c1 c2 : Nat} {p : Pool} {os : List Op} (h : PoolIn w A0 A1 c0 c1 p) (hs : SmallP p) (hC : kOp.C w A2 os.length os) (ho : SmallOs os) :
  Calls Tryz.prog 85 #[.agg #[.slice A0 p.slots.length c0, .slice A1 p.vols.length c1], .slice A2 os.length c2] w (MadePB w (runV p os) (runB p os)) := by
 have HP := Lib.hid h
 have HS := Lib.hid hs
 have HC := Lib.hid hC
 have HO := Lib.hid ho
 have hl := ho.len
 clear h hs hC ho
 go_enter Tryz.func85, Tryz.ntmps85
 go_wp2_with fail
 have hB : Blk ((w.alloc (.cells #[.slice A0 p.slots.length c0, .slice A1 p.vols.length c1] 44)).alloc (.cells #[.slice none 0 0, .slice none 0 0] 44)) w.heap.size #[.slice A0 p.slots.length c0, .slice A1 p.vols.length c1] 44 := (Blk.new _ _ _).alloc _
 have hR : Blk ((w.alloc (.cells #[.slice A0 p.slots.length c0, .slice A1 p.vols.length c1] 44)).alloc (.cells #[.slice none 0 0, .slice none 0 0] 44)) (w.heap.size + 1) #[.slice none 0 0, .slice none 0 0] 44 := Blk.nw2 _ _ _ _
 have hW : Bel w ((w.alloc (.cells #[.slice A0 p.slots.length c0, .slice A1 p.vols.length c1] 44)).alloc (.cells #[.slice none 0 0, .slice none 0 0] 44)) := bel_alloc (bel_alloc (Below.refl _ _) _) _
 generalize ((w.alloc (.cells #[.slice A0 p.slots.length c0, .slice A1 p.vols.length c1] 44)).alloc (.cells #[.slice none 0 0, .slice none 0 0] 44)) = W0 at hB hR hW ⊢
 cases hok : poolOk p with
 | false =>
  refine (implOk_in (HP.out.bel hW) HS.out hok).mono ?_
  rintro e w1 ⟨rfl, hb1⟩
  have hR1 := hR.bel hb1
  obtain ⟨q0, q1, f0, f1, y⟩ := k2f hR1
  have HK := Lib.hid hok
  clear hok
  go_wp2
  have hR2 := (hR1.set 0 (.slice none 0 0) (cs' := #[.slice none 0 0, .slice none 0 0]) rfl).set 1 (.slice none 0 0) (cs' := #[.slice none 0 0, .slice none 0 0]) rfl
  refine bodyPost_ret (results_ct rfl _ _ (w.heap.size + 1) 44 #[.slice none 0 0, .slice none 0 0] (0, 0) _ rfl hR2 Tryz.underlying44 rfl (by kernel_rfl)) rfl ?_
  rw [(runV_bad os HK.out).1, (runV_bad os HK.out).2]
  exact ⟨_, _, [], rfl, OwnP.none _ _, bel_set (bel_set (hW.tr hb1) (Nat.le_succ _) 0 (.slice none 0 0)) (Nat.le_succ _) 1 (.slice none 0 0)⟩
 | true =>
  have HV := Lib.hid (poolOk_iff.1 hok)
  refine (implOk_in (HP.out.bel hW) HS.out hok).mono ?_
  rintro e w1 ⟨rfl, hb1⟩
  clear hok
  have HB := Lib.hid (hB.bel hb1)
  have HR := Lib.hid (hR.bel hb1)
  have HW := Lib.hid (hW.tr hb1)
  clear hB hR hW hb1
  have q0 := HB.out.cell 0
  have q1 := HB.out.cell 1
  simp at q0 q1
  go_wp2_with fail
  refine (poolClone_c (HP.out.bel HW.out) HS.out).mono ?_
  rintro e w2 ⟨v0, v1, bvs, rfl, hoP, hb2⟩
  clear q0 q1
  obtain ⟨B0, B1, d0, d1, rfl, rfl, hpi⟩ := hoP.reads
  clear hpi
  have hsz := Below.size HW.out
  have HD := Lib.hid (DoSt.of (HB.out.bel hb2) (HR.out.bel hb2) (hoP.lower hsz) (HW.out.tr hb2))
  have q0 := (HB.out.bel hb2).cell 0
  have q1 := (HB.out.bel hb2).cell 1
  have f0 := (HB.out.bel hb2).free 0
  have f1 := (HB.out.bel hb2).free 1
  have y := (HB.out.bel hb2).lt
  simp at q0 q1
  clear hoP hb2 HB HR HW hsz
  go_wp2
  clear q0 q1 f0 f1 y
  generalize ((w2.setCell ⟨w.heap.size, 0, none⟩ (.slice B0 p.slots.length d0)).setCell ⟨w.heap.size, 1, none⟩ (.slice B1 p.vols.length d1)) = W3 at HD ⊢
  go_loopg [18] os.length (fun g v18 W => ∃ (j : Nat) (q : Pool) (B0 B1 : Option Addr) (d0 d1 : Nat) (bvs : List Value), g + j = os.length ∧ v18 = .int .i64 j ∧ Hid (runP p (os.take j) = some q) ∧ Hid (DoSt w W q (.slice B0 q.slots.length d0) (.slice B1 q.vols.length d1) bvs))
  case atStart => exact ⟨0, p, B0, B1, d0, d1, bvs, rfl, rfl, rfl, HD.out⟩
  case round =>
   clear HD bvs
   obtain ⟨j, q, B0, B1, d0, d1, bvs, hj, rfl, HR, HD⟩ := hrel
   have HQ := Lib.hid (runP_ok _ HV.out HR.out)
   by_cases hlt : j < os.length
   ·obtain ⟨o, hx⟩ := getQ hlt
    obtain ⟨ad, rfl, a0, a1, a2, a3, a4⟩ := at_op (Kd.C_below HC.out HD.out.b) hx
    have HX := Lib.hid hx
    have hso := Lib.hid (HO.out.op o (List.mem_of_getElem? hx))
    obtain ⟨q0, q1, y⟩ := k2c HD.out.pool
    clear hx
    go_wp2_with fail
    have hb : Bel wr (wr.alloc (.cells (oC o) 27)) := bel_alloc (Below.refl _ _) _
    generalize wr.alloc (.cells (oC o) 27) = W5 at hb ⊢
    clear q0 q1 y a0 a1 a2 a3 a4
    replace HD := Lib.hid (HD.out.bel hb)
    clear hb
    cases hr : opR q o with
    | none =>
     have hf : chOB q o = false := by rw [(chO_opR HQ.out o).1, hr]; rfl
     have HN := Lib.hid (show runP p os = none from runP_stop (k := j + 1) (by rw [runP_step HX.out HR.out, hr]))
     refine (implOpDo_c (o := o) HD.out.own.inn HQ.out.small hso.out).mono ?_
     rw [hf]
     generalize chO q o = qq
     rintro e w6 ⟨u0, u1, bu, rfl, hu, hb⟩
     obtain ⟨E0, E1, k0, k1, rfl, rfl, hpi⟩ := hu.reads
     clear hf hr hu hpi
     replace HD := Lib.hid (HD.out.bel hb)
     clear hb
     obtain ⟨q0, q1, f0, f1, y⟩ := k2f HD.out.res
     go_wp2
     have hR2 := ((HD.out.res.set 0 (.slice none 0 0) (cs' := #[.slice none 0 0, .slice none 0 0]) rfl).set 1 (.slice none 0 0) (cs' := #[.slice none 0 0, .slice none 0 0]) rfl).alloc (.cells #[.slice E0 qq.slots.length k0, .slice E1 qq.vols.length k1] 44)
     refine bodyPost_ret (results_ct rfl _ _ (w.heap.size + 1) 44 #[.slice none 0 0, .slice none 0 0] (0, 0) _ rfl hR2 Tryz.underlying44 rfl (by kernel_rfl)) rfl ?_
     rw [(runV_no HV.out HN.out).1, (runV_no HV.out HN.out).2]
     exact ⟨_, _, [], rfl, OwnP.none _ _, bel_alloc (bel_set (bel_set HD.out.b (Nat.le_succ _) 0 (.slice none 0 0)) (Nat.le_succ _) 1 (.slice none 0 0)) _⟩
    | some q2 =>
     have hf : chOB q o = true := by rw [(chO_opR HQ.out o).1, hr]; rfl
     have hv := (chO_opR HQ.out o).2 _ hr
     have HN := Lib.hid (show runP p (os.take (j + 1)) = some q2 by rw [runP_step HX.out HR.out, hr])
     refine (implOpDo_c (o := o) HD.out.own.inn HQ.out.small hso.out).mono ?_
     rw [hf, hv]
     rintro e w6 ⟨u0, u1, bu, rfl, hu, hb⟩
     clear hf hr hv
     obtain ⟨E0, E1, k0, k1, rfl, rfl, hpi⟩ := hu.reads
     clear hpi
     have hsz := Below.size HD.out.b
     have hD2 := (DoSt.of (HD.out.pool.bel hb) (HD.out.res.bel hb) (hu.lower hsz) (HD.out.b.tr hb)).bel (bel_alloc (Below.refl _ _) (.cells #[.slice E0 q2.slots.length k0, .slice E1 q2.vols.length k1] 44))
     replace HD := Lib.hid (HD.out.bel hb)
     have HD2 := Lib.hid hD2
     clear hb hu hsz hD2
     obtain ⟨q0, q1, f0, f1, y⟩ := k2f HD.out.pool
     go_wp2
     go_roundg (os.length - (j + 1))
     case measure => omega
     case rel => exact ⟨j + 1, q2, E0, E1, k0, k1, bu, by omega, by go_num, HN.out, HD2.out⟩
   ·have HE := Lib.hid (show runP p os = some q by have := HR.out; rwa [List.take_of_length_le (by omega)] at this)
    have q0 := HD.out.pool.cell 0
    have q1 := HD.out.pool.cell 1
    obtain ⟨r0, r1, f0, f1, y⟩ := k2f HD.out.res
    simp at q0 q1
    go_wp2
    have hR1 := HD.out.res.set 0 (.slice B0 q.slots.length d0) (cs' := #[.slice B0 q.slots.length d0, .slice none 0 0]) rfl
    have hR2 := hR1.set 1 (.slice B1 q.vols.length d1) (cs' := #[.slice B0 q.slots.length d0, .slice B1 q.vols.length d1]) rfl
    refine bodyPost_ret (results_ct rfl _ _ (w.heap.size + 1) 44 #[.slice B0 q.slots.length d0, .slice B1 q.vols.length d1] (0, 0) _ rfl hR2 Tryz.underlying44 rfl (by kernel_rfl)) rfl ?_
    rw [(runV_ok HV.out HE.out).1, (runV_ok HV.out HE.out).2]
    exact ⟨_, _, bvs, rfl, (HD.out.own.far HD.out.res (by decide) (by decide) (by decide) 0 (.slice B0 q.slots.length d0)).far hR1 (by decide) (by decide) (by decide) 1 (.slice B1 q.vols.length d1), bel_set (bel_set HD.out.b (Nat.le_succ _) 0 (.slice B0 q.slots.length d0)) (Nat.le_succ _) 1 (.slice B1 q.vols.length d1)⟩
open Go.RowKit Go.Proofs.YtljfoglilggkjaaGreatW.PrintWords Go.Joins Go.ChangeShapes Go.WideShapes Go.Deep
theorem list_of {α : Type} {Q : Nat → α → Prop} : ∀ n : Nat, (∀ i, i < n → ∃ x, Q i x) → ∃ xs : List α, xs.length = n ∧ ∀ i x, xs[i]? = some x → Q i x
 | 0, _ => ⟨[], rfl, fun i x h => by simp at h⟩
 | n + 1, h => by
  obtain ⟨xs, hl, hx⟩ := list_of n fun i hi => h i (by omega)
  obtain ⟨x, hq⟩ := h n (by omega)
  refine ⟨xs ++ [x], by simp [hl], fun i y hy => ?_⟩
  by_cases hi : i < n
  ·rw [List.getElem?_append_left (by omega)] at hy; exact hx i y hy
  ·rw [List.getElem?_append_right (by omega), hl] at hy
   obtain rfl : i = n := by have := ltQ hy; simp at this; omega
   rw [Nat.sub_self] at hy
   obtain rfl := Option.some.inj hy
   exact hq
section
variable {H : Type} {enc : TypeId × Value → H} {P : Program} {w : World} {base : Nat} {spare : Nat → Bool} {held : Bool}
theorem open_row {α : Type} (d : Kd α) {Q : α → Prop} {t e : TypeId} {fuel : Nat} {cs : List Value} {x : DataW H × List MemPlace} (ht : P.underlying t = some (.slice e)) (hC : P.cellsOf e = d.sz)
  (hel : ∀ (n : Nat) (c : List Value) (y : DataW H × List MemPlace), c.length = d.sz → DataW.trod enc P w base spare held n e c = some y → ∃ z : α, d.K w z c ∧ Q z) (h : DataW.trod enc P w base spare held fuel t cs = some x) :
  ∃ A c, ∃ xs : List α, cs = [.slice A xs.length c] ∧ xs.length ≤ c ∧ d.C w A xs.length xs ∧ (∀ z ∈ xs, Q z) ∧ xs.length ≤ maxLen := by
 rcases open_slice ht h with ⟨rfl, _⟩ | ⟨a, len, cap, m, n, D, Pl, rfl, hb, hl, hm, hmm, _, hi⟩
 ·exact ⟨none, 0, [], rfl, Nat.le_refl _, ⟨rfl, by simp, fun h => by simp at h⟩, fun z hz => by simp at hz, by simp⟩
 ·have hlm : len ≤ m := by rw [hmm]; split <;> omega
  obtain ⟨xs, hxl, hx⟩ := list_of (Q := fun i z => (∃ c, c.length = d.sz ∧ d.K w z c ∧ ∀ j u, c[j]? = some u → w.cell? (a.add (i * d.sz + j)) = some u) ∧ Q z) len fun i hi' => by
   obtain ⟨c, hc, hy⟩ := hi i (by omega)
   rw [hC] at hc
   obtain ⟨_, hcl, hat⟩ := World.cells?_some hc
   obtain ⟨z, hz, hq⟩ := hel n c _ hcl hy
   refine ⟨z, ⟨c, hcl, hz, fun j u hu => ?_⟩, hq⟩
   rw [← Go.Deep.add_add, hat j (by rw [← hcl]; exact ltQ hu), hu]
  have hmx : (maxLen : Nat) ≤ 9223372036854775807 := by simp [maxLen]
  refine ⟨some a, cap, xs, by rw [hxl], by omega, ⟨rfl, by omega, fun _ => ⟨a, rfl, fun j p hp => ?_⟩⟩, fun z hz => ?_, by omega⟩
  ·obtain ⟨c, h1, h2, h3⟩ := (hx j p hp).1
   exact ⟨c, h1, h2, h3⟩
  ·obtain ⟨j, hj⟩ := List.getElem?_of_mem hz
   exact (hx j z hj).2
end
section
variable {H : Type} {enc : TypeId × Value → H} {w : World} {base : Nat} {spare : Nat → Bool} {held : Bool}
theorem big_max : (maxLen : Nat) ≤ 9223372036854775807 := by simp [maxLen]
end
section
variable {H : Type} {enc : TypeId × Value → H} {P : Program} {w : World} {base : Nat} {spare : Nat → Bool} {held : Bool}
end
section
variable {H : Type} {enc : TypeId × Value → H} {w : World} {base : Nat} {spare : Nat → Bool} {held : Bool}
structure RawO (o : Op) : Prop where
  name : o.name.size ≤ 9223372036854775807
  dest : o.dest.size ≤ 9223372036854775807
  text : o.text.size ≤ 9223372036854775807
  k0 : -9223372036854775808 ≤ o.kind
  k1 : o.kind ≤ 9223372036854775807
  n0 : -9223372036854775808 ≤ o.n
  n1 : o.n ≤ 9223372036854775807
end
open Go.RowKit Go.Proofs.YtljfoglilggkjaaGreatW.PrintWords
def mkO (k : Int) : Op := ⟨k, mkT (k + 1), mkT (k + 1 + 1), k + 1 + 1 + 1, mkT (k + 1 + 1 + 1 + 1)⟩
def MkO (k : Int) (s : List Op) : Prop := ∀ (i : Nat) (x : Op), s[i]? = some x → x = mkO (k + 5 * i)
theorem OwnO.put {w : World} {base g cap n : Nat} {s : List Op} (h : OwnO w base (.slice (some ⟨g, 0, none⟩) n cap) s) (hn : s.length = n) {m : Nat} (j : Nat) {x y : Op} {u : Value} (hx : s[m]? = some x) (hj : j < 5) (he : encO y = (encO x).set j u) :
  OwnO (w.setCell ⟨g, m * 5 + j, none⟩ u) base (.slice (some ⟨g, 0, none⟩) n cap) (s.set m y) ∧ w.grownBy (w.setCell ⟨g, m * 5 + j, none⟩ u) (some g) := by
 subst hn
 exact OwnO.set h hx hj he
theorem OwnO.cells {w : World} {base g cap n : Nat} {s : List Op} (h : OwnO w base (.slice (some ⟨g, 0, none⟩) n cap) s) {m : Nat} {x : Op} (hx : s[m]? = some x) :
  (w.cell? ⟨g, m * 5, none⟩ = some (.int .i64 x.kind) ∧ w.cell? ⟨g, m * 5 + 1, none⟩ = some (.string x.name) ∧ w.cell? ⟨g, m * 5 + 2, none⟩ = some (.string x.dest) ∧ w.cell? ⟨g, m * 5 + 3, none⟩ = some (.int .i64 x.n) ∧ w.cell? ⟨g, m * 5 + 4, none⟩ = some (.string x.text)) ∧ ∀ j, w.frozen? ⟨g, j, none⟩ = false := by
 obtain ⟨g', cap', e, _, _, _, hc, hf⟩ := h.at hx
 obtain ⟨rfl, -, rfl⟩ := by simpa using e
 exact ⟨⟨hc 0 (by omega), hc 1 (by omega), hc 2 (by omega), hc 3 (by omega), hc 4 (by omega)⟩, hf⟩
theorem getSet {α} {s : List α} {m : Nat} {x y : α} (hx : s[m]? = some x) : (s.set m y)[m]? = some y := List.getElem?_set_self (ltQ hx)
def MarkedO (k : Int) (w : World) (base : Nat) (v : Value) (n : Nat) (e : Ending) (w' : World) : Prop := e = .returned (.int .i64 (k + 5 * n)) ∧ (∃ s, s.length = n ∧ OwnO w' base v s ∧ MkO k s) ∧ w.grownBy w' v.ownBlock
structure RawOs (s : List Op) : Prop where
  len : s.length ≤ 9223372036854775807
  op : ∀ x ∈ s, RawO x
theorem kOp_mkM (w : World) (base : Nat) (ok : Nat → Prop) (x : Op) : kOp.M w base ok x (encO x) := ⟨[.int .i64 x.kind], _, rfl, rfl, ⟨[.string x.name], _, rfl, rfl, ⟨[.string x.dest], _, rfl, rfl, ⟨[.int .i64 x.n], [.string x.text], rfl, rfl, rfl⟩⟩⟩⟩
theorem OwnO.putAll {w : World} {base g cap n : Nat} {s : List Op} (h : OwnO w base (.slice (some ⟨g, 0, none⟩) n cap) s) (hn : s.length = n) {m : Nat} {x : Op} (hx : s[m]? = some x) (y : Op) :
  OwnO (((((w.setCell ⟨g, m * 5, none⟩ (.int .i64 y.kind)).setCell ⟨g, m * 5 + 1, none⟩ (.string y.name)).setCell ⟨g, m * 5 + 2, none⟩ (.string y.dest)).setCell ⟨g, m * 5 + 3, none⟩ (.int .i64 y.n)).setCell ⟨g, m * 5 + 4, none⟩ (.string y.text)) base (.slice (some ⟨g, 0, none⟩) n cap) (s.set m y) := by
 have h1 := (OwnO.put h hn 0 (y := ⟨y.kind, x.name, x.dest, x.n, x.text⟩) (u := .int .i64 y.kind) hx (by omega) rfl).1
 have h2 := (OwnO.put h1 (by rw [List.length_set]; exact hn) 1 (y := ⟨y.kind, y.name, x.dest, x.n, x.text⟩) (u := .string y.name) (getSet hx) (by omega) rfl).1
 rw [List.set_set] at h2
 have h3 := (OwnO.put h2 (by rw [List.length_set]; exact hn) 2 (y := ⟨y.kind, y.name, y.dest, x.n, x.text⟩) (u := .string y.dest) (getSet hx) (by omega) rfl).1
 rw [List.set_set] at h3
 have h4 := (OwnO.put h3 (by rw [List.length_set]; exact hn) 3 (y := ⟨y.kind, y.name, y.dest, y.n, x.text⟩) (u := .int .i64 y.n) (getSet hx) (by omega) rfl).1
 rw [List.set_set] at h4
 have h5 := (OwnO.put h4 (by rw [List.length_set]; exact hn) 4 (y := y) (u := .string y.text) (getSet hx) (by omega) rfl).1
 rw [List.set_set] at h5
 exact h5
def SpecN (up : Bool) (term : Int) (leads alone ok : Bool) (w : World) (e : Ending) (w' : World) : Prop := ∃ A c, e = .returned (.tuple #[.agg #[.bool up, .int .i64 term, .bool leads, .bool alone, .slice A 0 c], .bool ok]) ∧ Bel w w'
end Go.Proofs.YtljfoglilggkjaaGreat

/- Contracts of the program's and the reference's functions, and the plain laws behind them: part 4 of 4. -/
import Derived.Test.YtpobgjkmjlmafaaGreatZ3
import Derived.Deep.Slices
import Derived.Deep.Fields
import Derived.ChangeSame
import Derived.ChangeArms
import Derived.Lib.SmallJoins
import Derived.WideShapes
import Derived.OpenShut
import Derived.Test.YtpobgjkmjlmafaaGreatRows
import Derived.JoinedOf
import Derived.KernelRfl
/- l12Do: a change done. -/







namespace Go.Proofs.YtpobgjkmjlmafaaGreat
open Go.RowKit Go.Proofs.YtpobgjkmjlmafaaGreatW.PrintWords Go.Proofs.YtpobgjkmjlmafaaGreatW.PrintLast
set_option linter.unusedVariables false
set_option linter.unusedSimpArgs false

def opF (p : Pool) (o : Op) : Option Pool := if o.kind = 1 then makeF p o.name o.n else if o.kind = 2 then writeF p o.name o.n o.text else if o.kind = 3 then cloneF p o.name o.dest else goneF p o.name
theorem opF_ok {p q : Pool} {o : Op} (hp : PoolP p) (h : opF p o = some q) : PoolP q := by
  unfold opF at h
  split at h
  · exact makeF_ok hp h
  · split at h
    · exact writeF_ok hp h
    · split at h
      · exact cloneF_ok hp h
      · exact goneF_ok hp h
theorem OwnP.grown {w w' : World} {base : Nat} {v0 v1 : Value} {p : Pool} {bvs : List Value} (h : OwnP w base v0 v1 p bvs) {r : Nat} {cs : Array Value} {t : TypeId} (hB : Blk w r cs t) (hs : 67 ≠ t) (ht : 66 ≠ t) (ht2 : 3 ≠ t) (hg : w.grownBy w' (some r)) : OwnP w' base v0 v1 p bvs := by
  have key : ∀ {e : TypeId} {size n : Nat} {v : Value} {xs : List Value}, w.ownsRow base e size v n xs → e ≠ t → w'.ownsRow base e size v n xs := fun h' hne =>
    World.ownsRow.kept h' hg (.inr fun e => own_ne h' hB hne e.symm)
  exact ⟨key h.s hs, ⟨⟨h.v.row.len, key h.v.row.row ht⟩, fun m x b hx hb => key (h.v.inner m x b hx hb) ht2, h.v.apart⟩⟩

theorem Fr.tr {base : Nat} {w W W' : World} (h : Fr base w W) (h' : Fr base W W') (hbase : base ≤ w.heap.size) : Fr base w W' := ⟨h.b.trans h'.b, fun g cs t h1 h2 h3 hB => h'.k g cs t h1 h2 h3 (h.k g cs t h1 h2 h3 hB)⟩
set_option maxHeartbeats 8000000 in
set_option maxRecDepth 10000 in
theorem l12Do_c {w : World} {base : Nat} {v0 v1 : Value} {bvs : List Value} {p : Pool} {o : Op} (h : OwnP w base v0 v1 p bvs) (hp : PoolP p) (hbase : base ≤ w.heap.size) (ho : SmallO o) :
    Calls Tryz.prog 17 #[.agg #[v0, v1], .agg #[.int .i64 o.kind, .string o.name, .string o.dest, .int .i64 o.n, .string o.text]] w (TurnsP base p (opF p o) w) := by
  have HS := Lib.hid hp.small
  have HK := Lib.hid hp
  obtain ⟨A0, A1, c0, c1, rfl, rfl, hpi⟩ := h.reads
  have HP := Lib.hid h
  have HNM := Lib.hid ho
  obtain ⟨F, hF⟩ : ∃ F, opF p o = F := ⟨_, rfl⟩
  obtain ⟨kd, nm, ds, n, tx⟩ := o
  simp only at HNM ⊢
  rw [hF]
  clear h hp hpi ho
  by_cases h1 : kd = 1
  · subst h1
    have HF := Lib.hid (show makeF p nm n = F from hF ▸ by unfold opF; rfl)
    clear hF
    go_enter Tryz.func17, Tryz.ntmps17
    go_wp2_with fail
    have hR : Blk (((w.alloc (.cells #[.slice A0 p.slots.length c0, .slice A1 p.vols.length c1] 33)).alloc (.cells #[.int .i64 1, .string nm, .string ds, .int .i64 n, .string tx] 37)).alloc (.cells #[.slice none 0 0, .slice none 0 0] 33)) (w.heap.size + 1 + 1) #[.slice none 0 0, .slice none 0 0] 33 := Blk.nw3 _ _ _ _ _
    have hW : Bel w (((w.alloc (.cells #[.slice A0 p.slots.length c0, .slice A1 p.vols.length c1] 33)).alloc (.cells #[.int .i64 1, .string nm, .string ds, .int .i64 n, .string tx] 37)).alloc (.cells #[.slice none 0 0, .slice none 0 0] 33)) := bel_alloc (bel_alloc (bel_alloc (Below.refl _ _) _) _) _
    generalize (((w.alloc (.cells #[.slice A0 p.slots.length c0, .slice A1 p.vols.length c1] 33)).alloc (.cells #[.int .i64 1, .string nm, .string ds, .int .i64 n, .string tx] 37)).alloc (.cells #[.slice none 0 0, .slice none 0 0] 33)) = W0 at hR hW ⊢
    refine (l11Make_c (HP.out.bel hW) HS.out HK.out (Nat.le_trans hbase hW.size) HNM.out.name).mono ?_
    rintro e w3 ⟨v2, v3, bvs3, rfl, ho3, hb3⟩
    rw [HF.out] at ho3 ⊢
    have hb := (Fr.ofBel hW hbase).tr hb3 hbase
    have hR1 : Blk w3 (w.heap.size + 1 + 1) #[.slice none 0 0, .slice none 0 0] 33 := hb3.k _ _ _ (by decide) (by decide) (by decide) hR
    obtain ⟨q, hq⟩ : ∃ q, F.getD p = q := ⟨_, rfl⟩
    obtain ⟨ok, hok⟩ : ∃ ok, F.isSome = ok := ⟨_, rfl⟩
    rw [hq] at ho3
    rw [hok]
    have HQ := Lib.hid (And.intro hq hok)
    have HO3 := Lib.hid ho3
    have HR := Lib.hid hR1
    have HB := Lib.hid hb
    clear hq hok hR hW
    obtain ⟨A2, A3, c2, c3, rfl, rfl, hpi⟩ := ho3.reads
    have r0 := HR.out.cell 0
    have r1 := HR.out.cell 1
    have f0 := HR.out.free 0
    have f1 := HR.out.free 1
    simp at r0 r1
    clear hpi ho3 hb3 hR1 hb
    go_wp2
    have hR2 := HR.out
    have hR3 := hR2.set 0 (.slice A2 q.slots.length c2) (cs' := #[.slice A2 q.slots.length c2, .slice none 0 0]) rfl
    have hR4 := hR3.set 1 (.slice A3 q.vols.length c3) (cs' := #[.slice A2 q.slots.length c2, .slice A3 q.vols.length c3]) rfl
    have hop4 := (HO3.out.far hR2 (by decide) (by decide) (by decide) 0 (.slice A2 q.slots.length c2)).far hR3 (by decide) (by decide) (by decide) 1 (.slice A3 q.vols.length c3)
    have hb5 := (HB.out.set (b := w.heap.size + 1 + 1) (by omega) hbase 0 (.slice A2 q.slots.length c2)).set (b := w.heap.size + 1 + 1) (by omega) hbase 1 (.slice A3 q.vols.length c3)
    refine bodyPost_ret (results_ct rfl _ _ (w.heap.size + 1 + 1) 33 #[.slice A2 q.slots.length c2, .slice A3 q.vols.length c3] (0, 0) _ rfl hR4 Tryz.underlying33 rfl (by kernel_rfl)) rfl ?_
    refine ⟨.slice A2 q.slots.length c2, .slice A3 q.vols.length c3, bvs3, ?_, ?_, hb5⟩
    · rw [HQ.out.2]; rfl
    · rw [HQ.out.1]; exact hop4
  by_cases h2 : kd = 2
  · subst h2
    have HF := Lib.hid (show writeF p nm n tx = F from hF ▸ by unfold opF; rfl)
    clear hF
    go_enter Tryz.func17, Tryz.ntmps17
    go_wp2_with fail
    have hR : Blk (((w.alloc (.cells #[.slice A0 p.slots.length c0, .slice A1 p.vols.length c1] 33)).alloc (.cells #[.int .i64 2, .string nm, .string ds, .int .i64 n, .string tx] 37)).alloc (.cells #[.slice none 0 0, .slice none 0 0] 33)) (w.heap.size + 1 + 1) #[.slice none 0 0, .slice none 0 0] 33 := Blk.nw3 _ _ _ _ _
    have hW : Bel w (((w.alloc (.cells #[.slice A0 p.slots.length c0, .slice A1 p.vols.length c1] 33)).alloc (.cells #[.int .i64 2, .string nm, .string ds, .int .i64 n, .string tx] 37)).alloc (.cells #[.slice none 0 0, .slice none 0 0] 33)) := bel_alloc (bel_alloc (bel_alloc (Below.refl _ _) _) _) _
    generalize (((w.alloc (.cells #[.slice A0 p.slots.length c0, .slice A1 p.vols.length c1] 33)).alloc (.cells #[.int .i64 2, .string nm, .string ds, .int .i64 n, .string tx] 37)).alloc (.cells #[.slice none 0 0, .slice none 0 0] 33)) = W0 at hR hW ⊢
    refine (l11Write_c (HP.out.bel hW) HS.out HK.out (Nat.le_trans hbase hW.size) HNM.out.text).mono ?_
    rintro e w3 ⟨v2, v3, bvs3, rfl, ho3, hb3⟩
    rw [HF.out] at ho3 ⊢
    have hb := (Fr.ofBel hW hbase).tr hb3 hbase
    have hR1 : Blk w3 (w.heap.size + 1 + 1) #[.slice none 0 0, .slice none 0 0] 33 := hb3.k _ _ _ (by decide) (by decide) (by decide) hR
    obtain ⟨q, hq⟩ : ∃ q, F.getD p = q := ⟨_, rfl⟩
    obtain ⟨ok, hok⟩ : ∃ ok, F.isSome = ok := ⟨_, rfl⟩
    rw [hq] at ho3
    rw [hok]
    have HQ := Lib.hid (And.intro hq hok)
    have HO3 := Lib.hid ho3
    have HR := Lib.hid hR1
    have HB := Lib.hid hb
    clear hq hok hR hW
    obtain ⟨A2, A3, c2, c3, rfl, rfl, hpi⟩ := ho3.reads
    have r0 := HR.out.cell 0
    have r1 := HR.out.cell 1
    have f0 := HR.out.free 0
    have f1 := HR.out.free 1
    simp at r0 r1
    clear hpi ho3 hb3 hR1 hb
    go_wp2
    have hR2 := HR.out
    have hR3 := hR2.set 0 (.slice A2 q.slots.length c2) (cs' := #[.slice A2 q.slots.length c2, .slice none 0 0]) rfl
    have hR4 := hR3.set 1 (.slice A3 q.vols.length c3) (cs' := #[.slice A2 q.slots.length c2, .slice A3 q.vols.length c3]) rfl
    have hop4 := (HO3.out.far hR2 (by decide) (by decide) (by decide) 0 (.slice A2 q.slots.length c2)).far hR3 (by decide) (by decide) (by decide) 1 (.slice A3 q.vols.length c3)
    have hb5 := (HB.out.set (b := w.heap.size + 1 + 1) (by omega) hbase 0 (.slice A2 q.slots.length c2)).set (b := w.heap.size + 1 + 1) (by omega) hbase 1 (.slice A3 q.vols.length c3)
    refine bodyPost_ret (results_ct rfl _ _ (w.heap.size + 1 + 1) 33 #[.slice A2 q.slots.length c2, .slice A3 q.vols.length c3] (0, 0) _ rfl hR4 Tryz.underlying33 rfl (by kernel_rfl)) rfl ?_
    refine ⟨.slice A2 q.slots.length c2, .slice A3 q.vols.length c3, bvs3, ?_, ?_, hb5⟩
    · rw [HQ.out.2]; rfl
    · rw [HQ.out.1]; exact hop4
  by_cases h3 : kd = 3
  · subst h3
    have HF := Lib.hid (show cloneF p nm ds = F from hF ▸ by unfold opF; rfl)
    clear hF
    go_enter Tryz.func17, Tryz.ntmps17
    go_wp2_with fail
    have hR : Blk (((w.alloc (.cells #[.slice A0 p.slots.length c0, .slice A1 p.vols.length c1] 33)).alloc (.cells #[.int .i64 3, .string nm, .string ds, .int .i64 n, .string tx] 37)).alloc (.cells #[.slice none 0 0, .slice none 0 0] 33)) (w.heap.size + 1 + 1) #[.slice none 0 0, .slice none 0 0] 33 := Blk.nw3 _ _ _ _ _
    have hW : Bel w (((w.alloc (.cells #[.slice A0 p.slots.length c0, .slice A1 p.vols.length c1] 33)).alloc (.cells #[.int .i64 3, .string nm, .string ds, .int .i64 n, .string tx] 37)).alloc (.cells #[.slice none 0 0, .slice none 0 0] 33)) := bel_alloc (bel_alloc (bel_alloc (Below.refl _ _) _) _) _
    generalize (((w.alloc (.cells #[.slice A0 p.slots.length c0, .slice A1 p.vols.length c1] 33)).alloc (.cells #[.int .i64 3, .string nm, .string ds, .int .i64 n, .string tx] 37)).alloc (.cells #[.slice none 0 0, .slice none 0 0] 33)) = W0 at hR hW ⊢
    refine (l11Clone_c (HP.out.bel hW) HS.out HK.out (Nat.le_trans hbase hW.size) HNM.out.dest).mono ?_
    rintro e w3 ⟨v2, v3, bvs3, rfl, ho3, hb3⟩
    rw [HF.out] at ho3 ⊢
    have hb := (Fr.ofBel hW hbase).tr hb3 hbase
    have hR1 : Blk w3 (w.heap.size + 1 + 1) #[.slice none 0 0, .slice none 0 0] 33 := hb3.k _ _ _ (by decide) (by decide) (by decide) hR
    obtain ⟨q, hq⟩ : ∃ q, F.getD p = q := ⟨_, rfl⟩
    obtain ⟨ok, hok⟩ : ∃ ok, F.isSome = ok := ⟨_, rfl⟩
    rw [hq] at ho3
    rw [hok]
    have HQ := Lib.hid (And.intro hq hok)
    have HO3 := Lib.hid ho3
    have HR := Lib.hid hR1
    have HB := Lib.hid hb
    clear hq hok hR hW
    obtain ⟨A2, A3, c2, c3, rfl, rfl, hpi⟩ := ho3.reads
    have r0 := HR.out.cell 0
    have r1 := HR.out.cell 1
    have f0 := HR.out.free 0
    have f1 := HR.out.free 1
    simp at r0 r1
    clear hpi ho3 hb3 hR1 hb
    go_wp2
    have hR2 := HR.out
    have hR3 := hR2.set 0 (.slice A2 q.slots.length c2) (cs' := #[.slice A2 q.slots.length c2, .slice none 0 0]) rfl
    have hR4 := hR3.set 1 (.slice A3 q.vols.length c3) (cs' := #[.slice A2 q.slots.length c2, .slice A3 q.vols.length c3]) rfl
    have hop4 := (HO3.out.far hR2 (by decide) (by decide) (by decide) 0 (.slice A2 q.slots.length c2)).far hR3 (by decide) (by decide) (by decide) 1 (.slice A3 q.vols.length c3)
    have hb5 := (HB.out.set (b := w.heap.size + 1 + 1) (by omega) hbase 0 (.slice A2 q.slots.length c2)).set (b := w.heap.size + 1 + 1) (by omega) hbase 1 (.slice A3 q.vols.length c3)
    refine bodyPost_ret (results_ct rfl _ _ (w.heap.size + 1 + 1) 33 #[.slice A2 q.slots.length c2, .slice A3 q.vols.length c3] (0, 0) _ rfl hR4 Tryz.underlying33 rfl (by kernel_rfl)) rfl ?_
    refine ⟨.slice A2 q.slots.length c2, .slice A3 q.vols.length c3, bvs3, ?_, ?_, hb5⟩
    · rw [HQ.out.2]; rfl
    · rw [HQ.out.1]; exact hop4
  have HF := Lib.hid (show goneF p nm = F from hF ▸ by unfold opF; simp only [h1, h2, h3, if_false])
  clear hF
  go_enter Tryz.func17, Tryz.ntmps17
  go_wp2_with fail
  have hR : Blk (((w.alloc (.cells #[.slice A0 p.slots.length c0, .slice A1 p.vols.length c1] 33)).alloc (.cells #[.int .i64 kd, .string nm, .string ds, .int .i64 n, .string tx] 37)).alloc (.cells #[.slice none 0 0, .slice none 0 0] 33)) (w.heap.size + 1 + 1) #[.slice none 0 0, .slice none 0 0] 33 := Blk.nw3 _ _ _ _ _
  have hW : Bel w (((w.alloc (.cells #[.slice A0 p.slots.length c0, .slice A1 p.vols.length c1] 33)).alloc (.cells #[.int .i64 kd, .string nm, .string ds, .int .i64 n, .string tx] 37)).alloc (.cells #[.slice none 0 0, .slice none 0 0] 33)) := bel_alloc (bel_alloc (bel_alloc (Below.refl _ _) _) _) _
  generalize (((w.alloc (.cells #[.slice A0 p.slots.length c0, .slice A1 p.vols.length c1] 33)).alloc (.cells #[.int .i64 kd, .string nm, .string ds, .int .i64 n, .string tx] 37)).alloc (.cells #[.slice none 0 0, .slice none 0 0] 33)) = W0 at hR hW ⊢
  refine (l11Gone_c (HP.out.bel hW) HS.out HK.out (Nat.le_trans hbase hW.size)).mono ?_
  rintro e w3 ⟨v2, v3, bvs3, rfl, ho3, hb3⟩
  rw [HF.out] at ho3 ⊢
  have hb := (Fr.ofBel hW hbase).tr hb3 hbase
  have hR1 : Blk w3 (w.heap.size + 1 + 1) #[.slice none 0 0, .slice none 0 0] 33 := hb3.k _ _ _ (by decide) (by decide) (by decide) hR
  obtain ⟨q, hq⟩ : ∃ q, F.getD p = q := ⟨_, rfl⟩
  obtain ⟨ok, hok⟩ : ∃ ok, F.isSome = ok := ⟨_, rfl⟩
  rw [hq] at ho3
  rw [hok]
  have HQ := Lib.hid (And.intro hq hok)
  have HO3 := Lib.hid ho3
  have HR := Lib.hid hR1
  have HB := Lib.hid hb
  clear hq hok hR hW
  obtain ⟨A2, A3, c2, c3, rfl, rfl, hpi⟩ := ho3.reads
  have r0 := HR.out.cell 0
  have r1 := HR.out.cell 1
  have f0 := HR.out.free 0
  have f1 := HR.out.free 1
  simp at r0 r1
  clear hpi ho3 hb3 hR1 hb
  go_wp2
  have hR2 := HR.out
  have hR3 := hR2.set 0 (.slice A2 q.slots.length c2) (cs' := #[.slice A2 q.slots.length c2, .slice none 0 0]) rfl
  have hR4 := hR3.set 1 (.slice A3 q.vols.length c3) (cs' := #[.slice A2 q.slots.length c2, .slice A3 q.vols.length c3]) rfl
  have hop4 := (HO3.out.far hR2 (by decide) (by decide) (by decide) 0 (.slice A2 q.slots.length c2)).far hR3 (by decide) (by decide) (by decide) 1 (.slice A3 q.vols.length c3)
  have hb5 := (HB.out.set (b := w.heap.size + 1 + 1) (by omega) hbase 0 (.slice A2 q.slots.length c2)).set (b := w.heap.size + 1 + 1) (by omega) hbase 1 (.slice A3 q.vols.length c3)
  refine bodyPost_ret (results_ct rfl _ _ (w.heap.size + 1 + 1) 33 #[.slice A2 q.slots.length c2, .slice A3 q.vols.length c3] (0, 0) _ rfl hR4 Tryz.underlying33 rfl (by kernel_rfl)) rfl ?_
  refine ⟨.slice A2 q.slots.length c2, .slice A3 q.vols.length c3, bvs3, ?_, ?_, hb5⟩
  · rw [HQ.out.2]; rfl
  · rw [HQ.out.1]; exact hop4
end Go.Proofs.YtpobgjkmjlmafaaGreat
/- OpDo of the program and of the reference. -/








namespace Go.Proofs.YtpobgjkmjlmafaaGreat
open Go.RowKit Go.Proofs.YtpobgjkmjlmafaaGreatW.PrintWords Go.Proofs.YtpobgjkmjlmafaaGreatW.PrintLast
set_option linter.unusedVariables false
set_option linter.unusedSimpArgs false

theorem ch_bad {p : Pool} (h : poolOk p = false) (r : Option Pool) : chP p r = noP ∧ chB p r = false := by unfold chP chB; rw [h]; exact ⟨rfl, rfl⟩
/-- What a change makes of any pool. -/
def chO (p : Pool) (o : Op) : Pool := if opOk o then chP p (opF p o) else noP
def chOB (p : Pool) (o : Op) : Bool := opOk o && chB p (opF p o)
theorem chO_bad {p : Pool} {o : Op} (h : poolOk p = false ∨ opOk o = false) : chO p o = noP ∧ chOB p o = false := by
  unfold chO chOB
  rcases h with h | h
  · have := ch_bad h (opF p o)
    rw [this.1, this.2]
    exact ⟨by split <;> rfl, by rw [Bool.and_false]⟩
  · rw [h]; exact ⟨rfl, rfl⟩
theorem chO_ok {p : Pool} {o : Op} (h : opOk o = true) : chO p o = chP p (opF p o) ∧ chOB p o = chB p (opF p o) := by
  unfold chO chOB
  rw [h]
  exact ⟨rfl, rfl⟩
theorem chO_small {p : Pool} {o : Op} (hp : SmallP p) : SmallP (chO p o) := by
  unfold chO
  split
  · exact chP_small hp fun q hk hq => (opF_ok (poolOk_iff.1 hk) hq).small
  · exact noP_small
theorem opOk_kind {o : Op} (h : opOk o = true) : o.kind = 1 ∨ o.kind = 2 ∨ o.kind = 3 ∨ o.kind = 4 := by
  unfold opOk opRest at h
  by_cases h1 : o.kind = 1
  · exact .inl h1
  by_cases h2 : o.kind = 2
  · exact .inr (.inl h2)
  by_cases h3 : o.kind = 3
  · exact .inr (.inr (.inl h3))
  by_cases h4 : o.kind = 4
  · exact .inr (.inr (.inr h4))
  rw [if_neg h1, if_neg h2, if_neg h3, if_neg h4, Bool.and_false] at h
  cases h

set_option maxHeartbeats 8000000 in
set_option maxRecDepth 10000 in
theorem implOpDo_c {w : World} {A0 A1 : Option Addr} {c0 c1 : Nat} {p : Pool} {o : Op} (h : PoolIn w A0 A1 c0 c1 p) (hs : SmallP p) (ho : SmallO o) :
    Calls Tryz.prog 9 #[.agg #[.slice A0 p.slots.length c0, .slice A1 p.vols.length c1], .agg #[.int .i64 o.kind, .string o.name, .string o.dest, .int .i64 o.n, .string o.text]] w (MadePB w (chO p o) (chOB p o)) := by
  obtain ⟨kd, nm, ds, n, tx⟩ := o
  have HS := Lib.hid hs
  have HP := Lib.hid h
  have HO := Lib.hid ho
  clear h hs ho
  go_enter Tryz.func9, Tryz.ntmps9
  go_wp2_with fail
  have hB : Blk (((w.alloc (.cells #[.slice A0 p.slots.length c0, .slice A1 p.vols.length c1] 33)).alloc (.cells #[.int .i64 kd, .string nm, .string ds, .int .i64 n, .string tx] 37)).alloc (.cells #[.slice none 0 0, .slice none 0 0] 33)) w.heap.size #[.slice A0 p.slots.length c0, .slice A1 p.vols.length c1] 33 := ((Blk.new _ _ _).alloc _).alloc _
  have hN : Blk (((w.alloc (.cells #[.slice A0 p.slots.length c0, .slice A1 p.vols.length c1] 33)).alloc (.cells #[.int .i64 kd, .string nm, .string ds, .int .i64 n, .string tx] 37)).alloc (.cells #[.slice none 0 0, .slice none 0 0] 33)) (w.heap.size + 1) #[.int .i64 kd, .string nm, .string ds, .int .i64 n, .string tx] 37 := (Blk.nw2 _ _ _ _).alloc _
  have hR : Blk (((w.alloc (.cells #[.slice A0 p.slots.length c0, .slice A1 p.vols.length c1] 33)).alloc (.cells #[.int .i64 kd, .string nm, .string ds, .int .i64 n, .string tx] 37)).alloc (.cells #[.slice none 0 0, .slice none 0 0] 33)) (w.heap.size + 1 + 1) #[.slice none 0 0, .slice none 0 0] 33 := Blk.nw3 _ _ _ _ _
  have hW : Bel w (((w.alloc (.cells #[.slice A0 p.slots.length c0, .slice A1 p.vols.length c1] 33)).alloc (.cells #[.int .i64 kd, .string nm, .string ds, .int .i64 n, .string tx] 37)).alloc (.cells #[.slice none 0 0, .slice none 0 0] 33)) := bel_alloc (bel_alloc (bel_alloc (Below.refl _ _) _) _) _
  have hl2 : w.heap.size + 3 ≤ (((w.alloc (.cells #[.slice A0 p.slots.length c0, .slice A1 p.vols.length c1] 33)).alloc (.cells #[.int .i64 kd, .string nm, .string ds, .int .i64 n, .string tx] 37)).alloc (.cells #[.slice none 0 0, .slice none 0 0] 33)).heap.size := by simp
  generalize (((w.alloc (.cells #[.slice A0 p.slots.length c0, .slice A1 p.vols.length c1] 33)).alloc (.cells #[.int .i64 kd, .string nm, .string ds, .int .i64 n, .string tx] 37)).alloc (.cells #[.slice none 0 0, .slice none 0 0] 33)) = W0 at hB hN hR hW hl2 ⊢
  have HB := Lib.hid hB
  have HN := Lib.hid hN
  have HR := Lib.hid hR
  have HW := Lib.hid hW
  clear hB hN hR hW
  refine (implPoolOk_in (HP.out.bel HW.out) HS.out).mono ?_
  rintro e w1 ⟨rfl, hb1⟩
  have HB1 := Lib.hid hb1
  clear hb1
  cases hok : poolOk p
  · skip
    have E := Lib.hid (chO_bad (p := p) (o := ⟨kd, nm, ds, n, tx⟩) (.inl hok))
    have r0 := (HR.out.bel HB1.out).cell 0
    have r1 := (HR.out.bel HB1.out).cell 1
    have f0 := (HR.out.bel HB1.out).free 0
    have f1 := (HR.out.bel HB1.out).free 1
    simp at r0 r1
    clear hok
    go_wp2
    have hR3 := (HR.out.bel HB1.out).set 0 (.slice none 0 0) (cs' := #[.slice none 0 0, .slice none 0 0]) rfl
    have hR4 := hR3.set 1 (.slice none 0 0) (cs' := #[.slice none 0 0, .slice none 0 0]) rfl
    have hb4 := bel_set (bel_set (HW.out.tr HB1.out) (show w.heap.size ≤ w.heap.size + 1 + 1 by omega) 0 (.slice none 0 0)) (show w.heap.size ≤ w.heap.size + 1 + 1 by omega) 1 (.slice none 0 0)
    refine bodyPost_ret (results_ct rfl _ _ (w.heap.size + 1 + 1) 33 #[.slice none 0 0, .slice none 0 0] (0, 0) _ rfl hR4 Tryz.underlying33 rfl (by kernel_rfl)) rfl ?_
    rw [E.out.1, E.out.2]
    exact ⟨_, _, _, rfl, OwnP.none _ _, hb4⟩
  have m0 := (HN.out.bel HB1.out).cell 0
  have m1 := (HN.out.bel HB1.out).cell 1
  have m2 := (HN.out.bel HB1.out).cell 2
  have m3 := (HN.out.bel HB1.out).cell 3
  have m4 := (HN.out.bel HB1.out).cell 4
  simp at m0 m1 m2 m3 m4
  go_wp2_with fail
  clear m0 m1 m2 m3 m4
  refine (implOpOk_c ⟨kd, nm, ds, n, tx⟩ HO.out _).mono ?_
  rintro e w2 ⟨rfl, hb2⟩
  replace HB1 := Lib.hid (HB1.out.tr hb2)
  clear hb2
  have HOK := Lib.hid hok
  clear hok
  cases hok : opOk ⟨kd, nm, ds, n, tx⟩
  · skip
    have E := Lib.hid (chO_bad (p := p) (o := ⟨kd, nm, ds, n, tx⟩) (.inr hok))
    have r0 := (HR.out.bel HB1.out).cell 0
    have r1 := (HR.out.bel HB1.out).cell 1
    have f0 := (HR.out.bel HB1.out).free 0
    have f1 := (HR.out.bel HB1.out).free 1
    simp at r0 r1
    clear hok
    go_wp2
    have hR3 := (HR.out.bel HB1.out).set 0 (.slice none 0 0) (cs' := #[.slice none 0 0, .slice none 0 0]) rfl
    have hR4 := hR3.set 1 (.slice none 0 0) (cs' := #[.slice none 0 0, .slice none 0 0]) rfl
    have hb4 := bel_set (bel_set (HW.out.tr HB1.out) (show w.heap.size ≤ w.heap.size + 1 + 1 by omega) 0 (.slice none 0 0)) (show w.heap.size ≤ w.heap.size + 1 + 1 by omega) 1 (.slice none 0 0)
    refine bodyPost_ret (results_ct rfl _ _ (w.heap.size + 1 + 1) 33 #[.slice none 0 0, .slice none 0 0] (0, 0) _ rfl hR4 Tryz.underlying33 rfl (by kernel_rfl)) rfl ?_
    rw [E.out.1, E.out.2]
    exact ⟨_, _, _, rfl, OwnP.none _ _, hb4⟩
  have EO := Lib.hid (chO_ok (p := p) hok)
  rcases opOk_kind hok with hk | hk | hk | hk
  · simp only at hk
    subst hk
    clear hok
    have EF : Hid (opF p ⟨1, nm, ds, n, tx⟩ = makeF p nm n) := rfl
    have q0 := (HB.out.bel HB1.out).cell 0
    have q1 := (HB.out.bel HB1.out).cell 1
    have m0 := (HN.out.bel HB1.out).cell 0
    have m1 := (HN.out.bel HB1.out).cell 1
    have m2 := (HN.out.bel HB1.out).cell 2
    have m3 := (HN.out.bel HB1.out).cell 3
    have m4 := (HN.out.bel HB1.out).cell 4
    simp at q0 q1 m0 m1 m2 m3 m4
    go_wp2_with fail
    clear q0 q1 m0 m1 m2 m3 m4
    have hin := HP.out.bel (HW.out.tr HB1.out)
    refine (implPoolMake_c (name := nm) (size := n) hin HS.out HO.out.name).mono ?_
    rintro e w3 ⟨v2, v3, bvs3, rfl, ho3, hb3⟩
    clear hin
    have HO3 := Lib.hid ho3
    have HZ := Lib.hid (HW.out.tr HB1.out).size
    replace HB1 := Lib.hid (HB1.out.tr hb3)
    clear ho3 hb3
    obtain ⟨q, hq⟩ : ∃ q, chP p (makeF p nm n) = q := ⟨_, rfl⟩
    obtain ⟨ok, hok⟩ : ∃ ok, chB p (makeF p nm n) = ok := ⟨_, rfl⟩
    rw [hq] at HO3
    rw [hok]
    have HQ := Lib.hid hq
    have HK2 := Lib.hid hok
    clear hq hok
    obtain ⟨A2, A3, c2, c3, rfl, rfl, hpi⟩ := HO3.out.reads
    clear hpi
    have r0 := (HR.out.bel HB1.out).cell 0
    have r1 := (HR.out.bel HB1.out).cell 1
    have f0 := (HR.out.bel HB1.out).free 0
    have f1 := (HR.out.bel HB1.out).free 1
    simp at r0 r1
    go_wp2
    have hR2 := HR.out.bel HB1.out
    have hR3 := hR2.set 0 (.slice A2 q.slots.length c2) (cs' := #[.slice A2 q.slots.length c2, .slice none 0 0]) rfl
    have hR4 := hR3.set 1 (.slice A3 q.vols.length c3) (cs' := #[.slice A2 q.slots.length c2, .slice A3 q.vols.length c3]) rfl
    have hb5 := bel_set (bel_set (HW.out.tr HB1.out) (show w.heap.size ≤ w.heap.size + 1 + 1 by omega) 0 (.slice A2 q.slots.length c2)) (show w.heap.size ≤ w.heap.size + 1 + 1 by omega) 1 (.slice A3 q.vols.length c3)
    have hop4 := (HO3.out.far hR2 (by decide) (by decide) (by decide) 0 (.slice A2 q.slots.length c2)).far hR3 (by decide) (by decide) (by decide) 1 (.slice A3 q.vols.length c3)
    refine bodyPost_ret (results_ct rfl _ _ (w.heap.size + 1 + 1) 33 #[.slice A2 q.slots.length c2, .slice A3 q.vols.length c3] (0, 0) _ rfl hR4 Tryz.underlying33 rfl (by kernel_rfl)) rfl ?_
    rw [EO.out.1, EO.out.2, EF.out, HQ.out, HK2.out]
    exact ⟨_, _, _, rfl, hop4.lower HZ.out, hb5⟩
  · simp only at hk
    subst hk
    clear hok
    have EF : Hid (opF p ⟨2, nm, ds, n, tx⟩ = writeF p nm n tx) := rfl
    have q0 := (HB.out.bel HB1.out).cell 0
    have q1 := (HB.out.bel HB1.out).cell 1
    have m0 := (HN.out.bel HB1.out).cell 0
    have m1 := (HN.out.bel HB1.out).cell 1
    have m2 := (HN.out.bel HB1.out).cell 2
    have m3 := (HN.out.bel HB1.out).cell 3
    have m4 := (HN.out.bel HB1.out).cell 4
    simp at q0 q1 m0 m1 m2 m3 m4
    go_wp2_with fail
    clear q0 q1 m0 m1 m2 m3 m4
    have hin := HP.out.bel (HW.out.tr HB1.out)
    refine (implPoolWrite_c (name := nm) (blk := n) (text := tx) hin HS.out HO.out.text).mono ?_
    rintro e w3 ⟨v2, v3, bvs3, rfl, ho3, hb3⟩
    clear hin
    have HO3 := Lib.hid ho3
    have HZ := Lib.hid (HW.out.tr HB1.out).size
    replace HB1 := Lib.hid (HB1.out.tr hb3)
    clear ho3 hb3
    obtain ⟨q, hq⟩ : ∃ q, chP p (writeF p nm n tx) = q := ⟨_, rfl⟩
    obtain ⟨ok, hok⟩ : ∃ ok, chB p (writeF p nm n tx) = ok := ⟨_, rfl⟩
    rw [hq] at HO3
    rw [hok]
    have HQ := Lib.hid hq
    have HK2 := Lib.hid hok
    clear hq hok
    obtain ⟨A2, A3, c2, c3, rfl, rfl, hpi⟩ := HO3.out.reads
    clear hpi
    have r0 := (HR.out.bel HB1.out).cell 0
    have r1 := (HR.out.bel HB1.out).cell 1
    have f0 := (HR.out.bel HB1.out).free 0
    have f1 := (HR.out.bel HB1.out).free 1
    simp at r0 r1
    go_wp2
    have hR2 := HR.out.bel HB1.out
    have hR3 := hR2.set 0 (.slice A2 q.slots.length c2) (cs' := #[.slice A2 q.slots.length c2, .slice none 0 0]) rfl
    have hR4 := hR3.set 1 (.slice A3 q.vols.length c3) (cs' := #[.slice A2 q.slots.length c2, .slice A3 q.vols.length c3]) rfl
    have hb5 := bel_set (bel_set (HW.out.tr HB1.out) (show w.heap.size ≤ w.heap.size + 1 + 1 by omega) 0 (.slice A2 q.slots.length c2)) (show w.heap.size ≤ w.heap.size + 1 + 1 by omega) 1 (.slice A3 q.vols.length c3)
    have hop4 := (HO3.out.far hR2 (by decide) (by decide) (by decide) 0 (.slice A2 q.slots.length c2)).far hR3 (by decide) (by decide) (by decide) 1 (.slice A3 q.vols.length c3)
    refine bodyPost_ret (results_ct rfl _ _ (w.heap.size + 1 + 1) 33 #[.slice A2 q.slots.length c2, .slice A3 q.vols.length c3] (0, 0) _ rfl hR4 Tryz.underlying33 rfl (by kernel_rfl)) rfl ?_
    rw [EO.out.1, EO.out.2, EF.out, HQ.out, HK2.out]
    exact ⟨_, _, _, rfl, hop4.lower HZ.out, hb5⟩
  · simp only at hk
    subst hk
    clear hok
    have EF : Hid (opF p ⟨3, nm, ds, n, tx⟩ = cloneF p nm ds) := rfl
    have q0 := (HB.out.bel HB1.out).cell 0
    have q1 := (HB.out.bel HB1.out).cell 1
    have m0 := (HN.out.bel HB1.out).cell 0
    have m1 := (HN.out.bel HB1.out).cell 1
    have m2 := (HN.out.bel HB1.out).cell 2
    have m3 := (HN.out.bel HB1.out).cell 3
    have m4 := (HN.out.bel HB1.out).cell 4
    simp at q0 q1 m0 m1 m2 m3 m4
    go_wp2_with fail
    clear q0 q1 m0 m1 m2 m3 m4
    have hin := HP.out.bel (HW.out.tr HB1.out)
    refine (implPoolClone_c (fr := nm) (dst := ds) hin HS.out HO.out.dest).mono ?_
    rintro e w3 ⟨v2, v3, bvs3, rfl, ho3, hb3⟩
    clear hin
    have HO3 := Lib.hid ho3
    have HZ := Lib.hid (HW.out.tr HB1.out).size
    replace HB1 := Lib.hid (HB1.out.tr hb3)
    clear ho3 hb3
    obtain ⟨q, hq⟩ : ∃ q, chP p (cloneF p nm ds) = q := ⟨_, rfl⟩
    obtain ⟨ok, hok⟩ : ∃ ok, chB p (cloneF p nm ds) = ok := ⟨_, rfl⟩
    rw [hq] at HO3
    rw [hok]
    have HQ := Lib.hid hq
    have HK2 := Lib.hid hok
    clear hq hok
    obtain ⟨A2, A3, c2, c3, rfl, rfl, hpi⟩ := HO3.out.reads
    clear hpi
    have r0 := (HR.out.bel HB1.out).cell 0
    have r1 := (HR.out.bel HB1.out).cell 1
    have f0 := (HR.out.bel HB1.out).free 0
    have f1 := (HR.out.bel HB1.out).free 1
    simp at r0 r1
    go_wp2
    have hR2 := HR.out.bel HB1.out
    have hR3 := hR2.set 0 (.slice A2 q.slots.length c2) (cs' := #[.slice A2 q.slots.length c2, .slice none 0 0]) rfl
    have hR4 := hR3.set 1 (.slice A3 q.vols.length c3) (cs' := #[.slice A2 q.slots.length c2, .slice A3 q.vols.length c3]) rfl
    have hb5 := bel_set (bel_set (HW.out.tr HB1.out) (show w.heap.size ≤ w.heap.size + 1 + 1 by omega) 0 (.slice A2 q.slots.length c2)) (show w.heap.size ≤ w.heap.size + 1 + 1 by omega) 1 (.slice A3 q.vols.length c3)
    have hop4 := (HO3.out.far hR2 (by decide) (by decide) (by decide) 0 (.slice A2 q.slots.length c2)).far hR3 (by decide) (by decide) (by decide) 1 (.slice A3 q.vols.length c3)
    refine bodyPost_ret (results_ct rfl _ _ (w.heap.size + 1 + 1) 33 #[.slice A2 q.slots.length c2, .slice A3 q.vols.length c3] (0, 0) _ rfl hR4 Tryz.underlying33 rfl (by kernel_rfl)) rfl ?_
    rw [EO.out.1, EO.out.2, EF.out, HQ.out, HK2.out]
    exact ⟨_, _, _, rfl, hop4.lower HZ.out, hb5⟩
  · simp only at hk
    subst hk
    clear hok
    have EF : Hid (opF p ⟨4, nm, ds, n, tx⟩ = goneF p nm) := rfl
    have q0 := (HB.out.bel HB1.out).cell 0
    have q1 := (HB.out.bel HB1.out).cell 1
    have m0 := (HN.out.bel HB1.out).cell 0
    have m1 := (HN.out.bel HB1.out).cell 1
    have m2 := (HN.out.bel HB1.out).cell 2
    have m3 := (HN.out.bel HB1.out).cell 3
    have m4 := (HN.out.bel HB1.out).cell 4
    simp at q0 q1 m0 m1 m2 m3 m4
    go_wp2_with fail
    clear q0 q1 m0 m1 m2 m3 m4
    have hin := HP.out.bel (HW.out.tr HB1.out)
    refine (implPoolGone_c (name := nm) hin HS.out).mono ?_
    rintro e w3 ⟨v2, v3, bvs3, rfl, ho3, hb3⟩
    clear hin
    have HO3 := Lib.hid ho3
    have HZ := Lib.hid (HW.out.tr HB1.out).size
    replace HB1 := Lib.hid (HB1.out.tr hb3)
    clear ho3 hb3
    obtain ⟨q, hq⟩ : ∃ q, chP p (goneF p nm) = q := ⟨_, rfl⟩
    obtain ⟨ok, hok⟩ : ∃ ok, chB p (goneF p nm) = ok := ⟨_, rfl⟩
    rw [hq] at HO3
    rw [hok]
    have HQ := Lib.hid hq
    have HK2 := Lib.hid hok
    clear hq hok
    obtain ⟨A2, A3, c2, c3, rfl, rfl, hpi⟩ := HO3.out.reads
    clear hpi
    have r0 := (HR.out.bel HB1.out).cell 0
    have r1 := (HR.out.bel HB1.out).cell 1
    have f0 := (HR.out.bel HB1.out).free 0
    have f1 := (HR.out.bel HB1.out).free 1
    simp at r0 r1
    go_wp2
    have hR2 := HR.out.bel HB1.out
    have hR3 := hR2.set 0 (.slice A2 q.slots.length c2) (cs' := #[.slice A2 q.slots.length c2, .slice none 0 0]) rfl
    have hR4 := hR3.set 1 (.slice A3 q.vols.length c3) (cs' := #[.slice A2 q.slots.length c2, .slice A3 q.vols.length c3]) rfl
    have hb5 := bel_set (bel_set (HW.out.tr HB1.out) (show w.heap.size ≤ w.heap.size + 1 + 1 by omega) 0 (.slice A2 q.slots.length c2)) (show w.heap.size ≤ w.heap.size + 1 + 1 by omega) 1 (.slice A3 q.vols.length c3)
    have hop4 := (HO3.out.far hR2 (by decide) (by decide) (by decide) 0 (.slice A2 q.slots.length c2)).far hR3 (by decide) (by decide) (by decide) 1 (.slice A3 q.vols.length c3)
    refine bodyPost_ret (results_ct rfl _ _ (w.heap.size + 1 + 1) 33 #[.slice A2 q.slots.length c2, .slice A3 q.vols.length c3] (0, 0) _ rfl hR4 Tryz.underlying33 rfl (by kernel_rfl)) rfl ?_
    rw [EO.out.1, EO.out.2, EF.out, HQ.out, HK2.out]
    exact ⟨_, _, _, rfl, hop4.lower HZ.out, hb5⟩
set_option maxHeartbeats 8000000 in
set_option maxRecDepth 10000 in
theorem specOpDo_c {w : World} {A0 A1 : Option Addr} {c0 c1 : Nat} {p : Pool} {o : Op} (h : PoolIn w A0 A1 c0 c1 p) (hs : SmallP p) (ho : SmallO o) :
    Calls Tryz.prog 6 #[.agg #[.slice A0 p.slots.length c0, .slice A1 p.vols.length c1], .agg #[.int .i64 o.kind, .string o.name, .string o.dest, .int .i64 o.n, .string o.text]] w (MadePB w (chO p o) (chOB p o)) := by
  obtain ⟨kd, nm, ds, n, tx⟩ := o
  have HS := Lib.hid hs
  have HP := Lib.hid h
  have HO := Lib.hid ho
  clear h hs ho
  go_enter Tryz.func6, Tryz.ntmps6
  go_wp2_with fail
  have hB : Blk (((w.alloc (.cells #[.slice A0 p.slots.length c0, .slice A1 p.vols.length c1] 33)).alloc (.cells #[.int .i64 kd, .string nm, .string ds, .int .i64 n, .string tx] 37)).alloc (.cells #[.slice none 0 0, .slice none 0 0] 33)) w.heap.size #[.slice A0 p.slots.length c0, .slice A1 p.vols.length c1] 33 := ((Blk.new _ _ _).alloc _).alloc _
  have hN : Blk (((w.alloc (.cells #[.slice A0 p.slots.length c0, .slice A1 p.vols.length c1] 33)).alloc (.cells #[.int .i64 kd, .string nm, .string ds, .int .i64 n, .string tx] 37)).alloc (.cells #[.slice none 0 0, .slice none 0 0] 33)) (w.heap.size + 1) #[.int .i64 kd, .string nm, .string ds, .int .i64 n, .string tx] 37 := (Blk.nw2 _ _ _ _).alloc _
  have hR : Blk (((w.alloc (.cells #[.slice A0 p.slots.length c0, .slice A1 p.vols.length c1] 33)).alloc (.cells #[.int .i64 kd, .string nm, .string ds, .int .i64 n, .string tx] 37)).alloc (.cells #[.slice none 0 0, .slice none 0 0] 33)) (w.heap.size + 1 + 1) #[.slice none 0 0, .slice none 0 0] 33 := Blk.nw3 _ _ _ _ _
  have hW : Bel w (((w.alloc (.cells #[.slice A0 p.slots.length c0, .slice A1 p.vols.length c1] 33)).alloc (.cells #[.int .i64 kd, .string nm, .string ds, .int .i64 n, .string tx] 37)).alloc (.cells #[.slice none 0 0, .slice none 0 0] 33)) := bel_alloc (bel_alloc (bel_alloc (Below.refl _ _) _) _) _
  have hl2 : w.heap.size + 3 ≤ (((w.alloc (.cells #[.slice A0 p.slots.length c0, .slice A1 p.vols.length c1] 33)).alloc (.cells #[.int .i64 kd, .string nm, .string ds, .int .i64 n, .string tx] 37)).alloc (.cells #[.slice none 0 0, .slice none 0 0] 33)).heap.size := by simp
  generalize (((w.alloc (.cells #[.slice A0 p.slots.length c0, .slice A1 p.vols.length c1] 33)).alloc (.cells #[.int .i64 kd, .string nm, .string ds, .int .i64 n, .string tx] 37)).alloc (.cells #[.slice none 0 0, .slice none 0 0] 33)) = W0 at hB hN hR hW hl2 ⊢
  have HB := Lib.hid hB
  have HN := Lib.hid hN
  have HR := Lib.hid hR
  have HW := Lib.hid hW
  clear hB hN hR hW
  refine (specPoolOk_in (HP.out.bel HW.out) HS.out).mono ?_
  rintro e w1 ⟨rfl, hb1⟩
  have HB1 := Lib.hid hb1
  clear hb1
  cases hok : poolOk p
  · skip
    have E := Lib.hid (chO_bad (p := p) (o := ⟨kd, nm, ds, n, tx⟩) (.inl hok))
    have r0 := (HR.out.bel HB1.out).cell 0
    have r1 := (HR.out.bel HB1.out).cell 1
    have f0 := (HR.out.bel HB1.out).free 0
    have f1 := (HR.out.bel HB1.out).free 1
    simp at r0 r1
    clear hok
    go_wp2
    have hR3 := (HR.out.bel HB1.out).set 0 (.slice none 0 0) (cs' := #[.slice none 0 0, .slice none 0 0]) rfl
    have hR4 := hR3.set 1 (.slice none 0 0) (cs' := #[.slice none 0 0, .slice none 0 0]) rfl
    have hb4 := bel_set (bel_set (HW.out.tr HB1.out) (show w.heap.size ≤ w.heap.size + 1 + 1 by omega) 0 (.slice none 0 0)) (show w.heap.size ≤ w.heap.size + 1 + 1 by omega) 1 (.slice none 0 0)
    refine bodyPost_ret (results_ct rfl _ _ (w.heap.size + 1 + 1) 33 #[.slice none 0 0, .slice none 0 0] (0, 0) _ rfl hR4 Tryz.underlying33 rfl (by kernel_rfl)) rfl ?_
    rw [E.out.1, E.out.2]
    exact ⟨_, _, _, rfl, OwnP.none _ _, hb4⟩
  have m0 := (HN.out.bel HB1.out).cell 0
  have m1 := (HN.out.bel HB1.out).cell 1
  have m2 := (HN.out.bel HB1.out).cell 2
  have m3 := (HN.out.bel HB1.out).cell 3
  have m4 := (HN.out.bel HB1.out).cell 4
  simp at m0 m1 m2 m3 m4
  go_wp2_with fail
  clear m0 m1 m2 m3 m4
  refine (specOpOk_c ⟨kd, nm, ds, n, tx⟩ HO.out _).mono ?_
  rintro e w2 ⟨rfl, hb2⟩
  replace HB1 := Lib.hid (HB1.out.tr hb2)
  clear hb2
  have HOK := Lib.hid hok
  clear hok
  cases hok : opOk ⟨kd, nm, ds, n, tx⟩
  · skip
    have E := Lib.hid (chO_bad (p := p) (o := ⟨kd, nm, ds, n, tx⟩) (.inr hok))
    have r0 := (HR.out.bel HB1.out).cell 0
    have r1 := (HR.out.bel HB1.out).cell 1
    have f0 := (HR.out.bel HB1.out).free 0
    have f1 := (HR.out.bel HB1.out).free 1
    simp at r0 r1
    clear hok
    go_wp2
    have hR3 := (HR.out.bel HB1.out).set 0 (.slice none 0 0) (cs' := #[.slice none 0 0, .slice none 0 0]) rfl
    have hR4 := hR3.set 1 (.slice none 0 0) (cs' := #[.slice none 0 0, .slice none 0 0]) rfl
    have hb4 := bel_set (bel_set (HW.out.tr HB1.out) (show w.heap.size ≤ w.heap.size + 1 + 1 by omega) 0 (.slice none 0 0)) (show w.heap.size ≤ w.heap.size + 1 + 1 by omega) 1 (.slice none 0 0)
    refine bodyPost_ret (results_ct rfl _ _ (w.heap.size + 1 + 1) 33 #[.slice none 0 0, .slice none 0 0] (0, 0) _ rfl hR4 Tryz.underlying33 rfl (by kernel_rfl)) rfl ?_
    rw [E.out.1, E.out.2]
    exact ⟨_, _, _, rfl, OwnP.none _ _, hb4⟩
  have EO := Lib.hid (chO_ok (p := p) hok)
  have HK := Lib.hid (poolOk_iff.1 HOK.out)
  clear hok
  have q0 := (HB.out.bel HB1.out).cell 0
  have q1 := (HB.out.bel HB1.out).cell 1
  have m0 := (HN.out.bel HB1.out).cell 0
  have m1 := (HN.out.bel HB1.out).cell 1
  have m2 := (HN.out.bel HB1.out).cell 2
  have m3 := (HN.out.bel HB1.out).cell 3
  have m4 := (HN.out.bel HB1.out).cell 4
  simp at q0 q1 m0 m1 m2 m3 m4
  go_wp2
  have HLC := Lib.hid (l11Copy_c (HP.out.bel (HW.out.tr (Bel.tr HB1.out (Below.refl _ _).drew))) HS.out)
  have HX := Lib.hid (fun (W : World) (hb : Bel w2 W) => (HN.out.bel (HB1.out.tr hb)))
  refine start_ (n := 8) (S := fun w' => w'.cell? ⟨w.heap.size, 0, none⟩ = some (.slice A0 p.slots.length c0) ∧ w'.cell? ⟨w.heap.size, 1, none⟩ = some (.slice A1 p.vols.length c1) ∧ w'.cell? ⟨w.heap.size + 1, 0, none⟩ = some (.int .i64 kd) ∧ w'.cell? ⟨w.heap.size + 1, 1, none⟩ = some (.string nm) ∧ w'.cell? ⟨w.heap.size + 1, 2, none⟩ = some (.string ds) ∧ w'.cell? ⟨w.heap.size + 1, 3, none⟩ = some (.int .i64 n) ∧ w'.cell? ⟨w.heap.size + 1, 4, none⟩ = some (.string tx)) (ds := [6]) #[false, false, false, false, false, false, false, false] (by kernel_rfl) rfl rfl ⟨q0, q1, m0, m1, m2, m3, m4⟩ (fun hHeld => ?_)
  refine take_ (i := 0) (N := some 15) (v := ?_) (a' := ?_) #[true, false, false, false, false, false, false, false] rfl rfl (by kernel_rfl) (fun _ _ _ h => h) (Or.inl ⟨by rfl, ?_⟩) hHeld ?_ ?_
  rotate_left
  · rintro w' ⟨s0, s1, s2, s3, s4, s5, s6⟩
    go_simp
    with_reducible rfl
  rotate_left
  · simp only [Act.put, List.setIfInBounds_toArray, List.set_cons_zero, List.set_cons_succ, i64_w, i32_w]
    rfl
  refine take_ (i := 2) (N := some 17) (v := ?_) (a' := ?_) #[true, false, true, false, false, false, false, false] rfl rfl (by kernel_rfl) (fun _ _ _ h => h) (Or.inl ⟨by rfl, ?_⟩) hHeld ?_ ?_
  rotate_left
  · rintro w' ⟨s0, s1, s2, s3, s4, s5, s6⟩
    go_simp
    with_reducible rfl
  rotate_left
  · simp only [Act.put, List.setIfInBounds_toArray, List.set_cons_zero, List.set_cons_succ, i64_w, i32_w]
    rfl
  refine one_ (i := 1) (N := some 16) #[true, true, true, false, false, false, false, false] rfl rfl (by kernel_rfl) (by decide) (fun K hK => ?_)
  refine goes_ Tryz.func18 (by kernel_rfl) rfl #[.agg #[.slice A0 p.slots.length c0, .slice A1 p.vols.length c1]] (by rfl) rfl rfl (by simp only [List.map_toArray, List.map_cons, List.map_nil]; rfl) ?_
  with_reducible refine (HLC.out).mono ?_
  rintro e w3 ⟨v0, v1, bvs, rfl, ho, hb⟩
  have HO2 := Lib.hid ho
  have hb23 : Bel w2 w3 := Bel.tr (b := w2.drew) (Below.refl _ _).drew hb
  have HB2 := Lib.hid hb23
  have HBS := Lib.hid hb.size
  clear ho hb
  have u0 := (HB.out.bel (HB1.out.tr hb23)).cell 0
  have u1 := (HB.out.bel (HB1.out.tr hb23)).cell 1
  have n0 := (HX.out w3 hb23).cell 0
  have n1 := (HX.out w3 hb23).cell 1
  have n2 := (HX.out w3 hb23).cell 2
  have n3 := (HX.out w3 hb23).cell 3
  have n4 := (HX.out w3 hb23).cell 4
  simp at u0 u1 n0 n1 n2 n3 n4
  clear hb23
  refine ⟨_, rfl, ?_⟩
  refine hK.out _ _ ⟨u0, u1, n0, n1, n2, n3, n4⟩ (fun hHeld => ?_)
  clear hK K
  refine norm_ (a' := ?_) ?_ ?_
  rotate_left
  · show Act.put _ (some 16) _ = _
    simp only [Act.put, List.setIfInBounds_toArray, List.set_cons_zero, List.set_cons_succ, i64_w, i32_w]
    rfl
  refine one_ (i := 3) (N := some 18) #[true, true, true, true, false, false, false, false] rfl rfl (by kernel_rfl) (by decide) (fun K hK => ?_)
  refine goes_ Tryz.func17 (by kernel_rfl) rfl #[.agg #[v0, v1], .agg #[.int .i64 kd, .string nm, .string ds, .int .i64 n, .string tx]] (by rfl) rfl rfl (by simp only [List.map_toArray, List.map_cons, List.map_nil]; rfl) ?_
  with_reducible refine (l12Do_c (o := ⟨kd, nm, ds, n, tx⟩) HO2.out HK.out HBS.out HO.out).mono ?_
  rintro e w4 ⟨v2, v3, bvs3, rfl, ho3, hb3⟩
  have hb24 : Bel w2 w4 := HB2.out.trans hb3.b
  have HO3 := Lib.hid ho3
  have HB3 := Lib.hid (HB1.out.tr hb24)
  clear ho3 hb3
  obtain ⟨q, hq⟩ : ∃ q, (opF p ⟨kd, nm, ds, n, tx⟩).getD p = q := ⟨_, rfl⟩
  obtain ⟨ok, hok⟩ : ∃ ok, (opF p ⟨kd, nm, ds, n, tx⟩).isSome = ok := ⟨_, rfl⟩
  rw [hq] at HO3
  rw [hok]
  have HQ := Lib.hid hq
  have HK2 := Lib.hid hok
  clear hq hok
  obtain ⟨A2, A3, c2, c3, rfl, rfl, hpi⟩ := HO3.out.reads
  clear hpi
  have r0 := (HR.out.bel HB3.out).cell 0
  have r1 := (HR.out.bel HB3.out).cell 1
  have f0 := (HR.out.bel HB3.out).free 0
  have f1 := (HR.out.bel HB3.out).free 1
  have zr := (HR.out.bel HB3.out).lt
  simp at r0 r1
  have u0 := (HB.out.bel HB3.out).cell 0
  have u1 := (HB.out.bel HB3.out).cell 1
  have n0 := (HX.out w4 hb24).cell 0
  have n1 := (HX.out w4 hb24).cell 1
  have n2 := (HX.out w4 hb24).cell 2
  have n3 := (HX.out w4 hb24).cell 3
  have n4 := (HX.out w4 hb24).cell 4
  simp at u0 u1 n0 n1 n2 n3 n4
  clear hb24
  refine ⟨_, rfl, ?_⟩
  refine hK.out _ _ ⟨u0, u1, n0, n1, n2, n3, n4⟩ (fun hHeld => ?_)
  clear hK K
  refine norm_ (a' := ?_) ?_ ?_
  rotate_left
  · show Act.put _ (some 18) _ = _
    simp only [Act.put, List.setIfInBounds_toArray, List.set_cons_zero, List.set_cons_succ, i64_w, i32_w]
    rfl
  refine pure_ (i := 4) (N := some 19) (v := ?_) (a' := ?_) #[true, true, true, true, true, false, false, false] rfl rfl (by kernel_rfl) (fun _ _ _ h => h) (Or.inl ⟨by rfl, ?_⟩) ?_ ?_
  rotate_left
  · intro w'
    go_simp
    with_reducible rfl
  rotate_left
  · simp only [Act.put, List.setIfInBounds_toArray, List.set_cons_zero, List.set_cons_succ, i64_w, i32_w]
    rfl
  refine pure_ (i := 5) (N := some 20) (v := ?_) (a' := ?_) #[true, true, true, true, true, true, false, false] rfl rfl (by kernel_rfl) (fun _ _ _ h => h) (Or.inl ⟨by rfl, ?_⟩) ?_ ?_
  rotate_left
  · intro w'
    go_simp
    with_reducible rfl
  rotate_left
  · simp only [Act.put, List.setIfInBounds_toArray, List.set_cons_zero, List.set_cons_succ, i64_w, i32_w]
    rfl
  refine last_ (i := 6) (N := none) #[true, true, true, true, true, true, true, false] rfl rfl (by kernel_rfl) (by decide) (fun K hK => ?_)
  refine skip_ (w1 := ?_) (by rfl) rfl ?_ ?_
  rotate_left
  · go_simp
    rfl
  refine hK.out _ _ ?_
  clear hK K
  refine pure_ (i := 7) (N := some 5) (v := ?_) (a' := ?_) #[true, true, true, true, true, true, true, true] rfl rfl (by kernel_rfl) (fun _ _ _ h => h) (Or.inl ⟨by rfl, ?_⟩) ?_ ?_
  rotate_left
  · intro w'
    go_simp
    with_reducible rfl
  rotate_left
  · simp only [Act.put, List.setIfInBounds_toArray, List.set_cons_zero, List.set_cons_succ, i64_w, i32_w]
    rfl
  refine done_ (by kernel_rfl) ?_
  clear q0 q1 m0 m1 m2 m3 m4 u0 u1 n0 n1 n2 n3 n4 hHeld
  go_wp2
  have hR2 := HR.out.bel HB3.out
  have hR3 := hR2.set 0 (.slice A2 q.slots.length c2) (cs' := #[.slice A2 q.slots.length c2, .slice none 0 0]) rfl
  have hR4 := hR3.set 1 (.slice A3 q.vols.length c3) (cs' := #[.slice A2 q.slots.length c2, .slice A3 q.vols.length c3]) rfl
  have hb5 := bel_set (bel_set (HW.out.tr HB3.out) (show w.heap.size ≤ w.heap.size + 1 + 1 by omega) 0 (.slice A2 q.slots.length c2)) (show w.heap.size ≤ w.heap.size + 1 + 1 by omega) 1 (.slice A3 q.vols.length c3)
  have hop4 := (HO3.out.far hR2 (by decide) (by decide) (by decide) 0 (.slice A2 q.slots.length c2)).far hR3 (by decide) (by decide) (by decide) 1 (.slice A3 q.vols.length c3)
  refine bodyPost_ret (results_ct rfl _ _ (w.heap.size + 1 + 1) 33 #[.slice A2 q.slots.length c2, .slice A3 q.vols.length c3] (0, 0) _ rfl hR4 Tryz.underlying33 rfl (by kernel_rfl)) rfl ?_
  have E1 : chP p (opF p ⟨kd, nm, ds, n, tx⟩) = (opF p ⟨kd, nm, ds, n, tx⟩).getD p := by unfold chP; rw [if_pos HOK.out]
  have E2 : chB p (opF p ⟨kd, nm, ds, n, tx⟩) = (opF p ⟨kd, nm, ds, n, tx⟩).isSome := by unfold chB; rw [HOK.out]; rfl
  rw [EO.out.1, EO.out.2, E1, E2, HQ.out, HK2.out]
  exact ⟨_, _, _, rfl, hop4.lower (HW.out.tr HB1.out).size, hb5⟩
end Go.Proofs.YtpobgjkmjlmafaaGreat
/- Arguments opened: a pool that came in, as lists. -/








namespace Go.Proofs.YtpobgjkmjlmafaaGreat
open Go.RowKit Go.Proofs.YtpobgjkmjlmafaaGreatW.PrintWords Go.Joins Go.ChangeShapes Go.WideShapes Go.Deep
set_option linter.unusedVariables false
set_option linter.unusedSimpArgs false

theorem list_of {α : Type} {Q : Nat → α → Prop} : ∀ n : Nat, (∀ i, i < n → ∃ x, Q i x) → ∃ xs : List α, xs.length = n ∧ ∀ i x, xs[i]? = some x → Q i x
  | 0, _ => ⟨[], rfl, fun i x h => by simp at h⟩
  | n + 1, h => by
    obtain ⟨xs, hl, hx⟩ := list_of n fun i hi => h i (by omega)
    obtain ⟨x, hq⟩ := h n (by omega)
    refine ⟨xs ++ [x], by simp [hl], fun i y hy => ?_⟩
    by_cases hi : i < n
    · rw [List.getElem?_append_left (by omega)] at hy; exact hx i y hy
    · rw [List.getElem?_append_right (by omega), hl] at hy
      obtain rfl : i = n := by have := ltQ hy; simp at this; omega
      rw [Nat.sub_self] at hy
      obtain rfl := Option.some.inj hy
      exact hq
section
variable {H : Type} {enc : TypeId × Value → H} {P : Program} {w : World} {base : Nat} {spare : Nat → Bool} {held : Bool}
/-- A slice that came in, as a row of elements that can be read. -/
theorem open_row {α : Type} (d : Kd α) {Q : α → Prop} {t e : TypeId} {fuel : Nat} {cs : List Value} {x : DataW H × List MemPlace} (ht : P.underlying t = some (.slice e)) (hC : P.cellsOf e = d.sz)
    (hel : ∀ (n : Nat) (c : List Value) (y : DataW H × List MemPlace), c.length = d.sz → DataW.trod enc P w base spare held n e c = some y → ∃ z : α, d.K w z c ∧ Q z) (h : DataW.trod enc P w base spare held fuel t cs = some x) :
    ∃ A c, ∃ xs : List α, cs = [.slice A xs.length c] ∧ xs.length ≤ c ∧ d.C w A xs.length xs ∧ (∀ z ∈ xs, Q z) ∧ xs.length ≤ maxLen := by
  rcases open_slice ht h with ⟨rfl, _⟩ | ⟨a, len, cap, m, n, D, Pl, rfl, hb, hl, hm, hmm, _, hi⟩
  · exact ⟨none, 0, [], rfl, Nat.le_refl _, ⟨rfl, by simp, fun h => by simp at h⟩, fun z hz => by simp at hz, by simp⟩
  · have hlm : len ≤ m := by rw [hmm]; split <;> omega
    obtain ⟨xs, hxl, hx⟩ := list_of (Q := fun i z => (∃ c, c.length = d.sz ∧ d.K w z c ∧ ∀ j u, c[j]? = some u → w.cell? (a.add (i * d.sz + j)) = some u) ∧ Q z) len fun i hi' => by
      obtain ⟨c, hc, hy⟩ := hi i (by omega)
      rw [hC] at hc
      obtain ⟨_, hcl, hat⟩ := World.cells?_some hc
      obtain ⟨z, hz, hq⟩ := hel n c _ hcl hy
      refine ⟨z, ⟨c, hcl, hz, fun j u hu => ?_⟩, hq⟩
      rw [← Go.Deep.add_add, hat j (by rw [← hcl]; exact ltQ hu), hu]
    have hmx : (maxLen : Nat) ≤ 9223372036854775807 := by simp [maxLen]
    refine ⟨some a, cap, xs, by rw [hxl], by omega, ⟨rfl, by omega, fun _ => ⟨a, rfl, fun j p hp => ?_⟩⟩, fun z hz => ?_, by omega⟩
    · obtain ⟨c, h1, h2, h3⟩ := (hx j p hp).1
      exact ⟨c, h1, h2, h3⟩
    · obtain ⟨j, hj⟩ := List.getElem?_of_mem hz
      exact (hx j z hj).2
end
section
variable {H : Type} {enc : TypeId × Value → H} {w : World} {base : Nat} {spare : Nat → Bool} {held : Bool}
theorem two_cells {c : List Value} (h : c.length = 2) : ∃ a b, c = [a, b] := by
  match c, h with
  | [a, b], _ => exact ⟨a, b, rfl⟩
theorem open_intE {n : Nat} {c : List Value} {y : DataW H × List MemPlace} (h : DataW.trod enc Tryz.prog w base spare held n 3 c = some y) : ∃ z : Int, kInt.K w z c ∧ -9223372036854775808 ≤ z ∧ z ≤ 9223372036854775807 := by
  obtain ⟨z, rfl, _, hw⟩ := DataW.trod_int Tryz.underlying3 h
  have hb := bounds_i64 hw
  exact ⟨z, rfl, hb.1, hb.2⟩
theorem cells_str : Tryz.prog.cellsOf 9 = 1 := by kernel_rfl
theorem cells_int : Tryz.prog.cellsOf 3 = 1 := by kernel_rfl
theorem cells_ints : Tryz.prog.cellsOf 61 = 1 := by kernel_rfl
theorem big_max : (maxLen : Nat) ≤ 9223372036854775807 := by simp [maxLen]
theorem open_slotE {n : Nat} {c : List Value} {y : DataW H × List MemPlace} (hl : c.length = 2) (h : DataW.trod enc Tryz.prog w base spare held n 59 c = some y) : ∃ z : Slot, kSlot.K w z c ∧ z.text.size ≤ 9223372036854775807 := by
  obtain ⟨a, b, rfl⟩ := two_cells hl
  obtain ⟨y0, y1, m, _, _, h0, h1⟩ := trod_struct2 Tryz.underlying59 h
  simp only [cells_str, cells_int, List.drop_zero, List.drop_succ_cons, List.take_succ_cons, List.take_zero] at h0 h1
  obtain ⟨s, e0, _, hs⟩ := DataW.trod_string Tryz.underlying9 h0
  obtain ⟨u, e1, _, _⟩ := DataW.trod_int Tryz.underlying3 h1
  simp only [List.cons.injEq, and_true] at e0 e1
  have := big_max
  exact ⟨⟨s, u⟩, ⟨[a], [b], rfl, by rw [e0]; rfl, by rw [e1]; rfl⟩, by show s.size ≤ _; omega⟩
theorem open_volE {n : Nat} {c : List Value} {y : DataW H × List MemPlace} (hl : c.length = 2) (h : DataW.trod enc Tryz.prog w base spare held n 63 c = some y) : ∃ z : Vol, kVol.K w z c ∧ (z.name.size ≤ 9223372036854775807 ∧ z.blocks.length ≤ 9223372036854775807) := by
  obtain ⟨a, b, rfl⟩ := two_cells hl
  obtain ⟨y0, y1, m, _, _, h0, h1⟩ := trod_struct2 Tryz.underlying63 h
  simp only [cells_str, cells_ints, List.drop_zero, List.drop_succ_cons, List.take_succ_cons, List.take_zero] at h0 h1
  obtain ⟨s, e0, _, hs⟩ := DataW.trod_string Tryz.underlying9 h0
  obtain ⟨A, cc, xs, e1, hcc, hC, _, hx⟩ := open_row kInt (Q := fun _ => True) Tryz.underlying61 cells_int (fun n c y hl h => by
    obtain ⟨z, hz, _⟩ := open_intE h
    exact ⟨z, hz, trivial⟩) h1
  simp only [List.cons.injEq, and_true] at e0 e1
  have := big_max
  exact ⟨⟨s, xs⟩, ⟨[a], [b], rfl, by rw [e0]; rfl, A, cc, by rw [e1], hcc, hC⟩, by show s.size ≤ _; omega, by show xs.length ≤ _; omega⟩
set_option maxRecDepth 100000 in
theorem open_pool {r : Reach} {b0 : Nat} {v : Value} {d : DataW H} {p : List MemPlace} (hv : Value.okWide Tryz.prog w r b0 25 v) (h : DataW.Trod enc Tryz.prog w base spare held 25 v d p) :
    ∃ A0 A1 c0 c1, ∃ q : Pool, v = .agg #[.slice A0 q.slots.length c0, .slice A1 q.vols.length c1] ∧ PoolIn w A0 A1 c0 c1 q ∧ RawS q.slots ∧ RawV q.vols := by
  obtain ⟨v0, v1, y0, y1, n, rfl, _, _, h0, h1⟩ := open_agg2 Tryz.underlying25 (by kernel_rfl) (by kernel_rfl) hv h
  obtain ⟨A0, c0, ss, e0, l0, C0, Q0, m0⟩ := open_row kSlot (Q := fun z => z.text.size ≤ 9223372036854775807) Tryz.underlying22 (show Tryz.prog.cellsOf 59 = 2 by kernel_rfl) (fun n c y hl h => open_slotE hl h) h0
  obtain ⟨A1, c1, vs, e1, l1, C1, Q1, m1⟩ := open_row kVol (Q := fun z => z.name.size ≤ 9223372036854775807 ∧ z.blocks.length ≤ 9223372036854775807) Tryz.underlying23 (show Tryz.prog.cellsOf 63 = 2 by kernel_rfl) (fun n c y hl h => open_volE hl h) h1
  simp only [List.cons.injEq, and_true] at e0 e1
  have := big_max
  exact ⟨A0, A1, c0, c1, ⟨ss, vs⟩, by rw [e0, e1], ⟨C0, l0, C1, l1⟩, ⟨by show ss.length ≤ _; omega, Q0⟩, ⟨by show vs.length ≤ _; omega, fun x hx => (Q1 x hx).1, fun x hx => (Q1 x hx).2⟩⟩
end
end Go.Proofs.YtpobgjkmjlmafaaGreat
/- A change as an argument: opened, measured, made anew. -/



namespace Go.Proofs.YtpobgjkmjlmafaaGreat
open Go.RowKit Go.Proofs.YtpobgjkmjlmafaaGreatW.PrintWords Go.Joins Go.ChangeShapes Go.WideShapes Go.Deep
set_option linter.unusedVariables false
set_option linter.unusedSimpArgs false

theorem array5 {α : Type} {cs : Array α} (h : cs.size = 5) : ∃ c0 c1 c2 c3 c4, cs = #[c0, c1, c2, c3, c4] := by
  obtain ⟨l⟩ := cs
  match l, h with
  | [c0, c1, c2, c3, c4], _ => exact ⟨c0, c1, c2, c3, c4, rfl⟩
section
variable {H : Type} {enc : TypeId × Value → H} {P : Program} {w : World} {base : Nat} {spare : Nat → Bool} {held : Bool}
theorem trod_struct5 {t : TypeId} {f0 f1 f2 f3 f4 : Field} {fuel : Nat} {cs : List Value} {x : DataW H × List MemPlace} (ht : P.underlying t = some (.struct #[f0, f1, f2, f3, f4])) (h : DataW.trod enc P w base spare held fuel t cs = some x) :
    ∃ y0 y1 y2 y3 y4 n, cs.length = P.cellsOf t ∧ DataW.trod enc P w base spare held n f0.type ((cs.drop f0.offset).take (P.cellsOf f0.type)) = some y0 ∧
      DataW.trod enc P w base spare held n f1.type ((cs.drop f1.offset).take (P.cellsOf f1.type)) = some y1 ∧ DataW.trod enc P w base spare held n f2.type ((cs.drop f2.offset).take (P.cellsOf f2.type)) = some y2 ∧
      DataW.trod enc P w base spare held n f3.type ((cs.drop f3.offset).take (P.cellsOf f3.type)) = some y3 ∧ DataW.trod enc P w base spare held n f4.type ((cs.drop f4.offset).take (P.cellsOf f4.type)) = some y4 := by
  obtain ⟨xs, n, _, rfl, hl, hlen, hf⟩ := DataW.trod_struct ht h
  match xs, hlen with
  | [y0, y1, y2, y3, y4], _ => exact ⟨y0, y1, y2, y3, y4, n, hl, by simpa using hf 0 f0 rfl, by simpa using hf 1 f1 rfl, by simpa using hf 2 f2 rfl, by simpa using hf 3 f3 rfl, by simpa using hf 4 f4 rfl⟩
end
section
variable {H : Type} {enc : TypeId × Value → H} {w : World} {base : Nat} {spare : Nat → Bool} {held : Bool}
theorem five_cells {c : List Value} (h : c.length = 5) : ∃ a b d e f, c = [a, b, d, e, f] := by
  match c, h with
  | [a, b, d, e, f], _ => exact ⟨a, b, d, e, f, rfl⟩
/-- Lengths that a memory can bear. -/
structure RawO (o : Op) : Prop where
  name : o.name.size ≤ 9223372036854775807
  dest : o.dest.size ≤ 9223372036854775807
  text : o.text.size ≤ 9223372036854775807
  k0 : -9223372036854775808 ≤ o.kind
  k1 : o.kind ≤ 9223372036854775807
  n0 : -9223372036854775808 ≤ o.n
  n1 : o.n ≤ 9223372036854775807
theorem open_opE {n : Nat} {c : List Value} {y : DataW H × List MemPlace} (hl : c.length = 5) (h : DataW.trod enc Tryz.prog w base spare held n 27 c = some y) : ∃ o : Op, c = [.int .i64 o.kind, .string o.name, .string o.dest, .int .i64 o.n, .string o.text] ∧ RawO o := by
  obtain ⟨a, b, d, e, f, rfl⟩ := five_cells hl
  obtain ⟨y0, y1, y2, y3, y4, m, _, h0, h1, h2, h3, h4⟩ := trod_struct5 Tryz.underlying27 h
  simp only [cells_str, cells_int, List.drop_zero, List.drop_succ_cons, List.take_succ_cons, List.take_zero] at h0 h1 h2 h3 h4
  obtain ⟨k, e0, _, hk⟩ := DataW.trod_int Tryz.underlying3 h0
  obtain ⟨s1, e1, _, hs1⟩ := DataW.trod_string Tryz.underlying9 h1
  obtain ⟨s2, e2, _, hs2⟩ := DataW.trod_string Tryz.underlying9 h2
  obtain ⟨z, e3, _, hz⟩ := DataW.trod_int Tryz.underlying3 h3
  obtain ⟨s4, e4, _, hs4⟩ := DataW.trod_string Tryz.underlying9 h4
  simp only [List.cons.injEq, and_true] at e0 e1 e2 e3 e4
  have := big_max
  have hk' := bounds_i64 hk
  have hz' := bounds_i64 hz
  exact ⟨⟨k, s1, s2, z, s4⟩, by rw [e0, e1, e2, e3, e4], ⟨by show s1.size ≤ _; omega, by show s2.size ≤ _; omega, by show s4.size ≤ _; omega, hk'.1, hk'.2, hz'.1, hz'.2⟩⟩
set_option maxRecDepth 100000 in
theorem open_op {r : Reach} {b0 : Nat} {v : Value} {d : DataW H} {p : List MemPlace} (hv : Value.okWide Tryz.prog w r b0 27 v) (h : DataW.Trod enc Tryz.prog w base spare held 27 v d p) :
    ∃ o : Op, v = .agg #[.int .i64 o.kind, .string o.name, .string o.dest, .int .i64 o.n, .string o.text] ∧ RawO o := by
  obtain ⟨cs, rfl, hsz⟩ := okWide_struct Tryz.underlying27 hv
  obtain ⟨c0, c1, c2, c3, c4, rfl⟩ := array5 (hsz.trans (show Tryz.prog.cellsOf 27 = 5 by kernel_rfl))
  obtain ⟨fuel, hf⟩ := h
  obtain ⟨o, e, hr⟩ := open_opE (by simp [Value.cells]) hf
  simp [Value.cells] at e
  obtain ⟨rfl, rfl, rfl, rfl, rfl⟩ := e
  exact ⟨o, rfl, hr⟩
end
set_option maxHeartbeats 2000000 in
theorem szOp_c (o : Op) (left : Int) (w : World) (h0 : 0 ≤ left) (h1 : left ≤ 1048576) (hr : RawO o) :
    Calls Tryz.prog 5 #[.agg #[.int .i64 o.kind, .string o.name, .string o.dest, .int .i64 o.n, .string o.text], .int .i64 left] w (Left (SmallO o) left w) := by
  have a1 := hr.name
  have a2 := hr.dest
  have a3 := hr.text
  clear hr
  go_enter Tryz.func5, Tryz.ntmps5
  by_cases c1 : left - (o.name.size : Int) < 0
  · go_wp2
    go_ret
    exact ⟨-1, rfl, bel_alloc (Below.refl _ _) _, by omega, by omega⟩
  by_cases c2 : left - (o.name.size : Int) - (o.dest.size : Int) < 0
  · have b1 : 0 ≤ left - (o.name.size : Int) := by omega
    go_wp2
    go_ret
    exact ⟨-1, rfl, bel_alloc (Below.refl _ _) _, by omega, by omega⟩
  by_cases c3 : left - (o.name.size : Int) - (o.dest.size : Int) - (o.text.size : Int) < 0
  · have b1 : 0 ≤ left - (o.name.size : Int) := by omega
    have b2 : 0 ≤ left - (o.name.size : Int) - (o.dest.size : Int) := by omega
    go_wp2
    go_ret
    exact ⟨-1, rfl, bel_alloc (Below.refl _ _) _, by omega, by omega⟩
  have b1 : 0 ≤ left - (o.name.size : Int) := by omega
  have b2 : 0 ≤ left - (o.name.size : Int) - (o.dest.size : Int) := by omega
  go_wp2
  go_ret
  exact ⟨_, rfl, bel_alloc (Below.refl _ _) _, fun _ => ⟨⟨by omega, by omega, by omega⟩, by omega⟩, by omega⟩
set_option maxHeartbeats 2000000 in
theorem toOp_c (o : Op) (w : World) : Calls Tryz.prog 8 #[.agg #[.int .i64 o.kind, .string o.name, .string o.dest, .int .i64 o.n, .string o.text]] w (Ret (.agg #[.int .i64 o.kind, .string o.name, .string o.dest, .int .i64 o.n, .string o.text]) w) := by
  go_enter Tryz.func8, Tryz.ntmps8
  go_wp2
  have hR : Blk (((w.alloc (.cells #[.int .i64 o.kind, .string o.name, .string o.dest, .int .i64 o.n, .string o.text] 27)).alloc (.cells #[.int .i64 o.kind, .string o.name, .string o.dest, .int .i64 o.n, .string o.text] 37)).alloc (.cells #[.int .i64 o.kind, .string o.name, .string o.dest, .int .i64 o.n, .string o.text] 37)) (w.heap.size + 1) #[.int .i64 o.kind, .string o.name, .string o.dest, .int .i64 o.n, .string o.text] 37 := (Blk.nw2 _ _ _ _).alloc _
  refine bodyPost_ret (results_cell_row rfl _ _ (w.heap.size + 1) 37 #[.int .i64 o.kind, .string o.name, .string o.dest, .int .i64 o.n, .string o.text] (0, 0) _ rfl hR Tryz.underlying37 rfl (by kernel_rfl)) rfl ?_
  exact ⟨rfl, bel_alloc (bel_alloc (bel_alloc (Below.refl _ _) _) _) _⟩
end Go.Proofs.YtpobgjkmjlmafaaGreat
/- The closed facts of the rows that do not depend on the law, and how a row's facts are put together one by one. -/



namespace Go.Proofs.YtpobgjkmjlmafaaGreat
open Go.ChangeShapes Go.WideShapes
set_option linter.unusedVariables false
theorem joined_of {P : Program} {f : FuncId} {fn : Func} {s : ChangeSpec} {c : OpenClaim}
    (h0 : (c.wf (OpenSpec.ofChange s)) = true)
    (h1 : (laidOutB P) = true)
    (h2 : (mapsRowed P) = true)
    (h3 : (fn.params.all (P.readableRec ·)) = true)
    (h4 : (namedTie P c.named s.vars) = true)
    (h5 : (c.stops == []) = true)
    (h6 : (P.stops == []) = true)
    (h7 : (c.knobs == []) = true)
    (h8 : (P.stopKnobs == []) = true)
    (h9 : (c.inPlace == P.inPlace f) = true)
    (h10 : (c.unfollowed == P.unfollowed f) = true)
    (h11 : (c.recurses == P.recurses f) = true)
    (h12 : (c.named == P.varsNamed f) = true)
    (h13 : (c.maps == (fn.params.toList ++ s.plain.varTypes P).any (P.mapsRec ·)) = true)
    (h14 : (c.ifaces == (fn.params.toList ++ s.plain.varTypes P).any (P.ifacesRec ·)) = true)
    (h15 : (c.mapsOut == P.mapsAmong fn.resultTypes.toList) = true)
    (h16 : (c.loops == (fn.params.toList ++ s.plain.varTypes P).any (P.loopsFrom ·)) = true)
    (h17 : (c.wideKeys == (fn.params.toList ++ s.plain.varTypes P ++ fn.resultTypes.toList).any (P.wideKeysFrom ·)) = true)
    (h18 : (s.vars.all (P.varReadable ·)) = true)
    (h19 : (fn.resultTypes.all (fun t => P.readableRec t && decide (t < P.types.size))) = true)
    (h20 : (c.ifacesOut == fn.resultTypes.toList.any (P.ifacesRec ·)) = true)
    (h21 : (c.loopsOut == fn.resultTypes.toList.any (P.loopsFrom ·)) = true)
    (h22 : (c.plainKeys == P.plainKeys) = true)
    (h23 : (c.shortTexts.isNone) = true)
    (h24 : (P.stopsHeard) = true)
    (h25 : (P.mayEnter) = true)
    (h26 : (c.lifted == P.liftsFinal) = true)
    (h27 : (P.make == some c.make) = true)
    (h28 : (c.kinds == (if c.domain.isEmpty then [] else fn.params.toList.map fun t => match P.underlying t with | some (.int k) => some k | _ => none)) = true)
    (h29 : (c.pinned == c.pinnedBy) = true)
    (h30 : (c.veiled == (fn.params.toList ++ s.plain.varTypes P ++ fn.resultTypes.toList).any (P.veiledRec ·)) = true)
    (h31 : (c.veiledFits P fn.params.toList (fn.params.toList ++ s.plain.varTypes P ++ fn.resultTypes.toList)) = true) : joinedFacts P f fn s c = true := by
  unfold joinedFacts
  simp only [Bool.and_eq_true]
  exact ⟨⟨⟨⟨⟨⟨⟨⟨⟨⟨⟨⟨⟨⟨⟨⟨⟨⟨⟨⟨⟨⟨⟨⟨⟨⟨⟨⟨⟨⟨⟨h0, h1⟩, h2⟩, h3⟩, h4⟩, h5⟩, h6⟩, h7⟩, h8⟩, h9⟩, h10⟩, h11⟩, h12⟩, h13⟩, h14⟩, h15⟩, h16⟩, h17⟩, h18⟩, h19⟩, h20⟩, h21⟩, h22⟩, h23⟩, h24⟩, h25⟩, h26⟩, h27⟩, h28⟩, h29⟩, h30⟩, h31⟩
def ordN : List Nat := [104, 97, 114, 110, 101, 115, 115, 32, 98, 100, 53, 56, 54, 97, 52, 97, 55, 53, 50, 97, 49, 98, 55, 54, 102, 102, 99, 100, 49, 55, 57, 51, 57, 102, 53, 56, 54, 100, 100, 57,
  56, 55, 98, 56, 99, 56, 53, 100, 99, 50, 52, 53, 55, 53, 101, 98, 50, 98, 55, 57, 55, 56, 49, 54, 54, 99, 50, 56, 57, 97, 56, 48, 32, 99, 117, 116, 32, 97, 116, 32,
  108, 111, 111, 112, 46, 101, 120, 97, 109, 112, 108, 101, 47, 103, 97, 114, 110, 101, 114, 47, 108, 97, 119, 115, 46, 70, 110, 69, 120, 97, 99, 116, 79, 112, 68, 111]
theorem ord_eq : Tryz.prog.initOrder = String.ofList (ordN.map Char.ofNat) := by kernel_rfl
theorem ord_list : Tryz.prog.initOrder.toList = ordN.map Char.ofNat := by rw [ord_eq, String.toList_ofList]
theorem jo_laid : laidOutB Tryz.prog = true := by kernel_rfl
theorem jo_maps : mapsRowed Tryz.prog = true := by kernel_rfl
theorem jo_stops : (Tryz.prog.stops == []) = true := by kernel_rfl
theorem jo_knobs : (Tryz.prog.stopKnobs == []) = true := by kernel_rfl
theorem jo_keys : (true == Tryz.prog.plainKeys) = true := by kernel_rfl
theorem jo_heard : Tryz.prog.stopsHeard = true := by kernel_rfl
theorem ord_words : behindMainWord (wordsSigns (ordN.map Char.ofNat)) = "cut".toList :: (behindMainWord (wordsSigns (ordN.map Char.ofNat))).tail := by kernel_rfl
theorem strip_cut (W : List (List Char)) : stripLifts liftWords ("cut".toList :: W) = ([], "cut".toList :: W) := by kernel_rfl
theorem jo_later : Tryz.prog.laysLater = false := by kernel_rfl
theorem jo_reflect : Tryz.prog.bearsReflect = false := by kernel_rfl
theorem jo_door : Tryz.prog.doorFits [] = true := by kernel_rfl
theorem cut_gc : ("cut".toList == "gc".toList) = false := by kernel_rfl
theorem cut_spec : ("cut".toList == "spec".toList) = false := by kernel_rfl
theorem cut_carried : ("cut".toList == "carried".toList) = false := by kernel_rfl
theorem cut_cut : ("cut".toList == "cut".toList) = true := by kernel_rfl
theorem some_cut : (some "cut".toList == some "cut".toList) = true := by kernel_rfl
theorem jo_enter : Tryz.prog.mayEnter = true := by
  rw [Program.mayEnter, ord_list, ord_words]
  generalize (behindMainWord (wordsSigns (ordN.map Char.ofNat))).tail = W
  simp only [strip_cut, cut_gc, cut_spec, cut_carried, List.head?_cons, some_cut, jo_later, jo_reflect, jo_door, Bool.or_self, Bool.false_and, Bool.not_false, Bool.or_true, Bool.and_self, List.contains_nil]
theorem jo_lifts : Tryz.prog.headLifts = [] := by
  unfold Program.headLifts
  rw [ord_list, ord_words]
  generalize (behindMainWord (wordsSigns (ordN.map Char.ofNat))).tail = W
  simp only [strip_cut, List.head?_cons, some_cut, if_true]
theorem jo_final : (false == Tryz.prog.liftsFinal) = true := by
  unfold Program.liftsFinal
  rw [jo_lifts, ord_list, ord_words]
  generalize (behindMainWord (wordsSigns (ordN.map Char.ofNat))).tail = W
  kernel_rfl
theorem jo_make : (Tryz.prog.make == some .cut) = true := by
  rw [Program.make, ord_list, ord_words]
  generalize (behindMainWord (wordsSigns (ordN.map Char.ofNat))).tail = W
  simp only [cut_gc, cut_spec, cut_cut, Bool.or_self, Bool.true_or, if_true, Bool.false_eq_true, if_false]
  kernel_rfl
end Go.Proofs.YtpobgjkmjlmafaaGreat

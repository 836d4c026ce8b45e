/- FnExactOpDo: the program's OpDo and the reference's return the same, leave their arguments, share no memory: the law returns true. -/
import Derived.Test.YtpobgjkmjlmafaaGreatZ4
namespace Go.Proofs.YtpobgjkmjlmafaaGreat
open Go.RowKit Go.Proofs.YtpobgjkmjlmafaaGreatW.PrintWords Go.Proofs.YtpobgjkmjlmafaaGreatW.PrintLast
set_option linter.unusedVariables false
set_option linter.unusedSimpArgs false

theorem OwnP.notIn {w : World} {base : Nat} {v0 v1 : Value} {p : Pool} {bvs : List Value} (h : OwnP w base v0 v1 p bvs) {b : Nat} {cs : Array Value} {t : TypeId} (hB : Blk w b cs t) (hs : 67 ≠ t) (hv : 66 ≠ t) (hi : 3 ≠ t) : ¬ InP v0 v1 bvs b := by
  rintro (hk | hk | ⟨c, hc, hk⟩)
  · exact own_ne h.s hB hs hk.symm
  · exact own_ne h.v.row.row hB hv hk.symm
  · obtain ⟨m, hm⟩ := List.getElem?_of_mem hc
    obtain ⟨x, hx⟩ := getQ (show m < p.vols.length by rw [← h.v.row.len]; exact ltQ hm)
    exact own_ne (h.v.inner m x c hx hm) hB hi hk.symm
theorem OwnP.inn {w : World} {base : Nat} {A B : Option Addr} {c d : Nat} {p : Pool} {bvs : List Value} (h : OwnP w base (.slice A p.slots.length c) (.slice B p.vols.length d) p bvs) : PoolIn w A B c d p := by
  obtain ⟨a0, a1, k0, k1, e0, e1, hh⟩ := h.reads
  have e0 := slice_eq e0
  have e1 := slice_eq e1
  obtain ⟨rfl, -, rfl⟩ := e0
  obtain ⟨rfl, -, rfl⟩ := e1
  exact hh
theorem Blk.only {w w' : World} {S : Nat → Prop} {b : Nat} {cs : Array Value} {t : TypeId} (h : Blk w b cs t) (ho : Only w w' S) (hS : ¬ S b) : Blk w' b cs t := (ho.block b h.lt hS).trans h
/-- What a marker leaves of a pool in its interval; just the pool's own blocks may have changed. -/
def MarkedB (k : Int) (w : World) (lo hi : Nat) (v0 v1 : Value) (p : Pool) (bvs : List Value) (e : Ending) (w' : World) : Prop :=
  e = .returned (.int .i64 (nxP k p)) ∧ (∃ q, SmallP q ∧ q.slots.length = p.slots.length ∧ q.vols.length = p.vols.length ∧ nxP k q = nxP k p ∧ MkP k q ∧ At w' lo hi v0 v1 q bvs) ∧ Within lo hi w w' ∧ Only w w' (InP v0 v1 bvs)
theorem markB_c {w : World} {lo hi : Nat} {v0 v1 : Value} {p : Pool} {bvs : List Value} {k : Int} (h : At w lo hi v0 v1 p bvs) (hs : SmallP p) (h0 : 0 < k) (h1 : k ≤ 1099511627776) :
    Calls Tryz.prog 11 #[.agg #[v0, v1], .int .i64 k] w (MarkedB k w lo hi v0 v1 p bvs) := by
  refine (markPool_c h.own hs h0 h1).mono ?_
  rintro e w' ⟨he, ⟨q, hl, hv, ho, hm⟩, hon⟩
  exact ⟨he, ⟨q, hm.small hs hl hv h1, hl, by simpa using congrArg List.length hv, nxP_len hl hv, hm, ho, h.lt⟩, hon.mono fun k hk => ⟨(h.own.in_ hk).1, h.lt k hk⟩, hon⟩
set_option maxHeartbeats 16000000 in
set_option maxRecDepth 10000 in
theorem lawFnExactOpDo_c {w : World} {A0 A1 : Option Addr} {c0 c1 : Nat} {p : Pool} {o : Op} (h : PoolIn w A0 A1 c0 c1 p) (hr : RawS p.slots) (hv : RawV p.vols) (hro : RawO o) :
    Calls Tryz.prog 3 #[.agg #[.slice A0 p.slots.length c0, .slice A1 p.vols.length c1], .agg #[.int .i64 o.kind, .string o.name, .string o.dest, .int .i64 o.n, .string o.text]] w (Ret (.bool true) w) := by
  have HP := Lib.hid h
  have HRS := Lib.hid hr
  have HRV := Lib.hid hv
  have HRO := Lib.hid hro
  clear h hr hv hro
  go_enter Tryz.func3, Tryz.ntmps3
  go_wp2_with fail
  have hB : Blk ((w.alloc (.cells #[.slice A0 p.slots.length c0, .slice A1 p.vols.length c1] 25)).alloc (.cells #[.int .i64 o.kind, .string o.name, .string o.dest, .int .i64 o.n, .string o.text] 27)) w.heap.size #[.slice A0 p.slots.length c0, .slice A1 p.vols.length c1] 25 := (Blk.new _ _ _).alloc _
  have hBO : Blk ((w.alloc (.cells #[.slice A0 p.slots.length c0, .slice A1 p.vols.length c1] 25)).alloc (.cells #[.int .i64 o.kind, .string o.name, .string o.dest, .int .i64 o.n, .string o.text] 27)) (w.heap.size + 1) #[.int .i64 o.kind, .string o.name, .string o.dest, .int .i64 o.n, .string o.text] 27 := Blk.nw2 _ _ _ _
  have hW : Bel w ((w.alloc (.cells #[.slice A0 p.slots.length c0, .slice A1 p.vols.length c1] 25)).alloc (.cells #[.int .i64 o.kind, .string o.name, .string o.dest, .int .i64 o.n, .string o.text] 27)) := bel_alloc (bel_alloc (Below.refl _ _) _) _
  have hsz0 : ((w.alloc (.cells #[.slice A0 p.slots.length c0, .slice A1 p.vols.length c1] 25)).alloc (.cells #[.int .i64 o.kind, .string o.name, .string o.dest, .int .i64 o.n, .string o.text] 27)).heap.size = w.heap.size + 2 := by simp
  generalize ((w.alloc (.cells #[.slice A0 p.slots.length c0, .slice A1 p.vols.length c1] 25)).alloc (.cells #[.int .i64 o.kind, .string o.name, .string o.dest, .int .i64 o.n, .string o.text] 27)) = W0 at hB hBO hW hsz0 ⊢
  have HB := Lib.hid hB
  have HBO := Lib.hid hBO
  have HW := Lib.hid hW
  have HZ0 := Lib.hid hsz0
  clear hB hBO hW hsz0
  refine (szPool_c (HP.out.bel HW.out) HRS.out HRV.out (by omega) (by omega)).mono ?_
  rintro e w1 ⟨r, rfl, hb1, hr, hr1⟩
  have HB1 := Lib.hid hb1
  have HR := Lib.hid hr
  clear hb1 hr
  by_cases hrn : r < 0
  · go_wp2
    go_ret
    exact ⟨rfl, HW.out.tr HB1.out⟩
  have HS := Lib.hid (HR.out (by omega)).1
  have hr2 : r ≤ 1048576 := (HR.out (by omega)).2
  have KB := Lib.hid (HB.out.bel HB1.out)
  have KO := Lib.hid (HBO.out.bel HB1.out)
  have KP := Lib.hid (HP.out.bel (HW.out.tr HB1.out))
  have KW := Lib.hid (HW.out.tr HB1.out)
  have KZ := Lib.hid (show w.heap.size + 1 < w1.heap.size by have := HB1.out.size; have := HZ0.out; omega)
  have q0 := KO.out.cell 0
  have q1 := KO.out.cell 1
  have q2 := KO.out.cell 2
  have q3 := KO.out.cell 3
  have q4 := KO.out.cell 4
  have y5 := KO.out.lt
  simp at q0 q1 q2 q3 q4
  go_wp2_with fail
  clear q0 q1 q2 q3 q4 y5
  refine (szOp_c o r _ (by omega) hr2 HRO.out).mono ?_
  rintro e w2 ⟨r', rfl, hb, hr', hr1'⟩
  have HR' := Lib.hid hr'
  clear hr'
  replace KB := Lib.hid (KB.out.bel hb)
  replace KO := Lib.hid (KO.out.bel hb)
  replace KP := Lib.hid (KP.out.bel hb)
  replace KW := Lib.hid (KW.out.trans (Below.mono hb (Below.size KW.out)))
  replace KZ := Lib.hid (show w.heap.size + 1 < w2.heap.size from Nat.lt_of_lt_of_le KZ.out hb.size)
  clear hb
  by_cases hrn' : r' < 0
  · go_wp2
    go_ret
    exact ⟨rfl, KW.out⟩
  have HSO := Lib.hid (HR'.out (by omega)).1
  clear hr2 hr1 hr1' 
  have hOO : ∃ q ok, chO p o = q ∧ chOB p o = ok ∧ SmallP q := ⟨_, _, rfl, rfl, chO_small HS.out⟩
  obtain ⟨q, ok, hq, hok, hqs⟩ := hOO
  have KQS := Lib.hid hqs
  have HQE := Lib.hid (And.intro hq hok)
  clear hq hok hqs
  have q0 := KB.out.cell 0
  have q1 := KB.out.cell 1
  have y2 := KB.out.lt
  have q2 := KO.out.cell 0
  have q3 := KO.out.cell 1
  have q4 := KO.out.cell 2
  have q5 := KO.out.cell 3
  have q6 := KO.out.cell 4
  have y7 := KO.out.lt
  simp at q0 q1 q2 q3 q4 q5 q6
  go_wp2
  clear q0 q1 y2 q2 q3 q4 q5 q6 y7
  have HTP := Lib.hid (fun (W : World) (hb : Bel w2.drew W) => toPool_c ((KP.out.bel (Below.refl _ _).drew).bel hb) HS.out)
  have HOD := Lib.hid (fun (W : World) (A B : Option Addr) (c d : Nat) (h : PoolIn W A B c d p) => (by have := specOpDo_c (o := o) h HS.out HSO.out; rw [HQE.out.1, HQE.out.2] at this; exact this : Calls Tryz.prog 6 #[.agg #[.slice A p.slots.length c, .slice B p.vols.length d], .agg #[.int .i64 o.kind, .string o.name, .string o.dest, .int .i64 o.n, .string o.text]] W (MadePB W q ok)))
  have KZ0 := Lib.hid (show w.heap.size + 1 < w2.drew.heap.size from KZ.out)
  have HL8 := Lib.hid (show w2.heap.size ≤ w2.drew.heap.size from Nat.le_refl _)
  have ZKB := Lib.hid (KB.out.bel (Below.refl _ _).drew)
  have ZKO := Lib.hid (KO.out.bel (Below.refl _ _).drew)
  have ZKP := Lib.hid (KP.out.bel (Below.refl _ _).drew)
  have ZKW := Lib.hid (KW.out.trans (Below.mono (Below.refl _ _).drew (Below.size KW.out)))
  have D0 := Lib.hid (show Bel w2.drew w2.drew from Below.refl _ _)
  have HX := Lib.hid (fun (W : World) (hb : Bel w2.drew W) => And.intro (ZKB.out.bel hb) (And.intro (ZKO.out.bel hb) trivial))
  have s0_ := ZKB.out.cell 0
  have s1_ := ZKB.out.cell 1
  have s2_ := ZKO.out.cell 0
  have s3_ := ZKO.out.cell 1
  have s4_ := ZKO.out.cell 2
  have s5_ := ZKO.out.cell 3
  have s6_ := ZKO.out.cell 4
  simp at s0_ s1_ s2_ s3_ s4_ s5_ s6_
  refine start_ (n := 11) (S := fun w' => w'.cell? ⟨w.heap.size, 0, none⟩ = some (.slice A0 p.slots.length c0) ∧ w'.cell? ⟨w.heap.size, 1, none⟩ = some (.slice A1 p.vols.length c1) ∧ w'.cell? ⟨w.heap.size + 1, 0, none⟩ = some (.int .i64 o.kind) ∧ w'.cell? ⟨w.heap.size + 1, 1, none⟩ = some (.string o.name) ∧ w'.cell? ⟨w.heap.size + 1, 2, none⟩ = some (.string o.dest) ∧ w'.cell? ⟨w.heap.size + 1, 3, none⟩ = some (.int .i64 o.n) ∧ w'.cell? ⟨w.heap.size + 1, 4, none⟩ = some (.string o.text)) (ds := [9]) #[false, false, false, false, false, false, false, false, false, false, false] (by kernel_rfl) rfl rfl ⟨s0_, s1_, s2_, s3_, s4_, s5_, s6_⟩ (fun hHeld => ?_)
  refine take_ (i := 0) (N := some 27) (v := ?_) (a' := ?_) #[true, false, false, false, false, false, false, false, false, false, false] rfl rfl (by kernel_rfl) (fun _ _ _ h => h) (Or.inl ⟨by rfl, ?_⟩) hHeld ?_ ?_
  rotate_left
  · rintro w' ⟨s0, s1, s2, s3, s4, s5, s6⟩
    go_simp
    with_reducible rfl
  rotate_left
  · simp only [Act.put, List.setIfInBounds_toArray, List.set_cons_zero, List.set_cons_succ, i64_w, i32_w]
    rfl
  refine take_ (i := 2) (N := some 29) (v := ?_) (a' := ?_) #[true, false, true, false, false, false, false, false, false, false, false] rfl rfl (by kernel_rfl) (fun _ _ _ h => h) (Or.inl ⟨by rfl, ?_⟩) hHeld ?_ ?_
  rotate_left
  · rintro w' ⟨s0, s1, s2, s3, s4, s5, s6⟩
    go_simp
    with_reducible rfl
  rotate_left
  · simp only [Act.put, List.setIfInBounds_toArray, List.set_cons_zero, List.set_cons_succ, i64_w, i32_w]
    rfl
  refine join_ (σ := Value × Option Addr × Nat × Option Addr × Nat × List Value × Nat) 2 #[true, true, true, true, true, true, true, true, true, false, false] (fun s => [(28, s.1), (30, .agg #[.int .i64 o.kind, .string o.name, .string o.dest, .int .i64 o.n, .string o.text]), (31, .tuple #[.agg #[.slice s.2.1 q.slots.length s.2.2.1, .slice s.2.2.2.1 q.vols.length s.2.2.2.2.1], .bool ok]), (26, .tuple #[.agg #[.slice s.2.1 q.slots.length s.2.2.1, .slice s.2.2.2.1 q.vols.length s.2.2.2.2.1], .bool ok]), (32, .agg #[.slice s.2.1 q.slots.length s.2.2.1, .slice s.2.2.2.1 q.vols.length s.2.2.2.2.1]), (33, .bool ok), (6, .pointer (some ⟨s.2.2.2.2.2.2, 0, none⟩))]) (fun s w' => (w'.cell? ⟨w.heap.size, 0, none⟩ = some (.slice A0 p.slots.length c0) ∧ w'.cell? ⟨w.heap.size, 1, none⟩ = some (.slice A1 p.vols.length c1) ∧ w'.cell? ⟨w.heap.size + 1, 0, none⟩ = some (.int .i64 o.kind) ∧ w'.cell? ⟨w.heap.size + 1, 1, none⟩ = some (.string o.name) ∧ w'.cell? ⟨w.heap.size + 1, 2, none⟩ = some (.string o.dest) ∧ w'.cell? ⟨w.heap.size + 1, 3, none⟩ = some (.int .i64 o.n) ∧ w'.cell? ⟨w.heap.size + 1, 4, none⟩ = some (.string o.text)) ∧ OwnP w' w2.drew.heap.size (.slice s.2.1 q.slots.length s.2.2.1) (.slice s.2.2.2.1 q.vols.length s.2.2.2.2.1) q s.2.2.2.2.2.1 ∧ Blk w' s.2.2.2.2.2.2 #[.slice none 0 0, .slice none 0 0] 33 ∧ w2.drew.heap.size ≤ s.2.2.2.2.2.2 ∧ Bel w2.drew w') ?_ ?_
  rotate_left
  · intro hCont
    refine two_ (i := 1) (j := 8) (Ni := some 28) (Nj := some 6) #[true, true, true, false, false, false, false, false, false, false, false] #[true, false, true, false, false, false, false, false, true, false, false] rfl rfl rfl rfl (by kernel_rfl) (by decide) (by decide) (fun K hK => ?_) (fun K hK => ?_)
    · skip
      refine goes_ Tryz.func7 (by kernel_rfl) rfl #[.agg #[.slice A0 p.slots.length c0, .slice A1 p.vols.length c1]] (by rfl) rfl rfl (by simp only [List.map_toArray, List.map_cons, List.map_nil]; rfl) ?_
      with_reducible refine (HTP.out _ D0.out).mono ?_
      rintro e w1_ ⟨va, vb, bva, rfl, ho, X1⟩
      have D1 := Lib.hid (Bel.tr D0.out X1)
      have P1 : Hid (OwnP w1_ w2.drew.heap.size va vb p bva) := Lib.hid (ho.lower D0.out.size)
      obtain ⟨AP, BP, kp, lp, rfl, rfl, hpi⟩ := ho.reads
      clear ho hpi
      have t0_1 := (HX.out _ D1.out).1.cell 0
      have t1_1 := (HX.out _ D1.out).1.cell 1
      have t2_1 := (HX.out _ D1.out).2.1.cell 0
      have t3_1 := (HX.out _ D1.out).2.1.cell 1
      have t4_1 := (HX.out _ D1.out).2.1.cell 2
      have t5_1 := (HX.out _ D1.out).2.1.cell 3
      have t6_1 := (HX.out _ D1.out).2.1.cell 4
      simp at t0_1 t1_1 t2_1 t3_1 t4_1 t5_1 t6_1
      refine ⟨_, rfl, ?_⟩
      refine hK.out _ _ ⟨t0_1, t1_1, t2_1, t3_1, t4_1, t5_1, t6_1⟩ (fun hHeld => ?_)
      clear hK K
      refine norm_ (a' := ?_) ?_ ?_
      rotate_left
      · show Act.put _ (some 28) _ = _
        simp only [Act.put, List.setIfInBounds_toArray, List.set_cons_zero, List.set_cons_succ, i64_w, i32_w]
        rfl
      refine two_ (i := 3) (j := 8) (Ni := some 30) (Nj := some 6) #[true, true, true, true, false, false, false, false, false, false, false] #[true, true, true, false, false, false, false, false, true, false, false] rfl rfl rfl rfl (by kernel_rfl) (by decide) (by decide) (fun K hK => ?_) (fun K hK => ?_)
      · skip
        refine goes_ Tryz.func8 (by kernel_rfl) rfl #[.agg #[.int .i64 o.kind, .string o.name, .string o.dest, .int .i64 o.n, .string o.text]] (by rfl) rfl rfl (by simp only [List.map_toArray, List.map_cons, List.map_nil]; rfl) ?_
        with_reducible refine (toOp_c o _).mono ?_
        rintro e w2_ ⟨rfl, X2⟩
        have D2 := Lib.hid (Bel.tr D1.out X2)
        have P2 := Lib.hid (OwnP.bel P1.out X2)
        have t0_2 := (HX.out _ D2.out).1.cell 0
        have t1_2 := (HX.out _ D2.out).1.cell 1
        have t2_2 := (HX.out _ D2.out).2.1.cell 0
        have t3_2 := (HX.out _ D2.out).2.1.cell 1
        have t4_2 := (HX.out _ D2.out).2.1.cell 2
        have t5_2 := (HX.out _ D2.out).2.1.cell 3
        have t6_2 := (HX.out _ D2.out).2.1.cell 4
        simp at t0_2 t1_2 t2_2 t3_2 t4_2 t5_2 t6_2
        refine ⟨_, rfl, ?_⟩
        refine hK.out _ _ ⟨t0_2, t1_2, t2_2, t3_2, t4_2, t5_2, t6_2⟩ (fun hHeld => ?_)
        clear hK K
        refine norm_ (a' := ?_) ?_ ?_
        rotate_left
        · show Act.put _ (some 30) _ = _
          simp only [Act.put, List.setIfInBounds_toArray, List.set_cons_zero, List.set_cons_succ, i64_w, i32_w]
          rfl
        refine two_ (i := 4) (j := 8) (Ni := some 31) (Nj := some 6) #[true, true, true, true, true, false, false, false, false, false, false] #[true, true, true, true, false, false, false, false, true, false, false] rfl rfl rfl rfl (by kernel_rfl) (by decide) (by decide) (fun K hK => ?_) (fun K hK => ?_)
        · skip
          refine goes_ Tryz.func6 (by kernel_rfl) rfl #[.agg #[.slice AP p.slots.length kp, .slice BP p.vols.length lp], .agg #[.int .i64 o.kind, .string o.name, .string o.dest, .int .i64 o.n, .string o.text]] (by rfl) rfl rfl (by simp only [List.map_toArray, List.map_cons, List.map_nil]; rfl) ?_
          with_reducible refine (HOD.out _ AP BP kp lp (OwnP.inn P2.out)).mono ?_
          rintro e w3_ ⟨vc, vd, bvc, rfl, ho, X3⟩
          have D3 := Lib.hid (Bel.tr D2.out X3)
          have Q3 : Hid (OwnP w3_ w2.drew.heap.size vc vd q bvc) := Lib.hid (ho.lower D2.out.size)
          obtain ⟨A2, A3, k2, k3, rfl, rfl, hpi⟩ := ho.reads
          clear ho hpi
          have t0_3 := (HX.out _ D3.out).1.cell 0
          have t1_3 := (HX.out _ D3.out).1.cell 1
          have t2_3 := (HX.out _ D3.out).2.1.cell 0
          have t3_3 := (HX.out _ D3.out).2.1.cell 1
          have t4_3 := (HX.out _ D3.out).2.1.cell 2
          have t5_3 := (HX.out _ D3.out).2.1.cell 3
          have t6_3 := (HX.out _ D3.out).2.1.cell 4
          simp at t0_3 t1_3 t2_3 t3_3 t4_3 t5_3 t6_3
          refine ⟨_, rfl, ?_⟩
          refine hK.out _ _ ⟨t0_3, t1_3, t2_3, t3_3, t4_3, t5_3, t6_3⟩ (fun hHeld => ?_)
          clear hK K
          refine norm_ (a' := ?_) ?_ ?_
          rotate_left
          · show Act.put _ (some 31) _ = _
            simp only [Act.put, List.setIfInBounds_toArray, List.set_cons_zero, List.set_cons_succ, i64_w, i32_w]
            rfl
          refine pure_ (i := 5) (N := some 26) (v := ?_) (a' := ?_) #[true, true, true, true, true, true, false, false, false, false, false] rfl rfl (by kernel_rfl) (fun _ _ _ h => h) (Or.inl ⟨by rfl, ?_⟩) ?_ ?_
          rotate_left
          · intro w'
            go_simp
            with_reducible rfl
          rotate_left
          · simp only [Act.put, List.setIfInBounds_toArray, List.set_cons_zero, List.set_cons_succ, i64_w, i32_w]
            rfl
          refine pure_ (i := 6) (N := some 32) (v := ?_) (a' := ?_) #[true, true, true, true, true, true, true, false, false, false, false] rfl rfl (by kernel_rfl) (fun _ _ _ h => h) (Or.inl ⟨by rfl, ?_⟩) ?_ ?_
          rotate_left
          · intro w'
            go_simp
            with_reducible rfl
          rotate_left
          · simp only [Act.put, List.setIfInBounds_toArray, List.set_cons_zero, List.set_cons_succ, i64_w, i32_w]
            rfl
          refine pure_ (i := 7) (N := some 33) (v := ?_) (a' := ?_) #[true, true, true, true, true, true, true, true, false, false, false] rfl rfl (by kernel_rfl) (fun _ _ _ h => h) (Or.inl ⟨by rfl, ?_⟩) ?_ ?_
          rotate_left
          · intro w'
            go_simp
            with_reducible rfl
          rotate_left
          · simp only [Act.put, List.setIfInBounds_toArray, List.set_cons_zero, List.set_cons_succ, i64_w, i32_w]
            rfl
          refine one_ (i := 8) (N := some 6) #[true, true, true, true, true, true, true, true, true, false, false] rfl rfl (by kernel_rfl) (by decide) (fun K hK => ?_)
          refine value_ (w1 := ?_) (v := ?_) (by rfl) rfl ?_ ?_
          rotate_left 2
          · go_simp
            constructor
            · rfl
            · rfl
          have D4 : Hid (Bel w2.drew (w3_.alloc (.cells #[.slice none 0 0, .slice none 0 0] 33))) := Lib.hid (bel_alloc D3.out (.cells #[.slice none 0 0, .slice none 0 0] 33))
          have Q4 := Lib.hid (OwnP.bel Q3.out (bel_alloc (Below.refl _ _) (.cells #[.slice none 0 0, .slice none 0 0] 33)))
          have O4 : Hid (Blk (w3_.alloc (.cells #[.slice none 0 0, .slice none 0 0] 33)) w3_.heap.size #[.slice none 0 0, .slice none 0 0] 33) := Lib.hid (Blk.new w3_ #[.slice none 0 0, .slice none 0 0] 33)
          have L4 := D3.out.size
          have t0_4 := (HX.out _ D4.out).1.cell 0
          have t1_4 := (HX.out _ D4.out).1.cell 1
          have t2_4 := (HX.out _ D4.out).2.1.cell 0
          have t3_4 := (HX.out _ D4.out).2.1.cell 1
          have t4_4 := (HX.out _ D4.out).2.1.cell 2
          have t5_4 := (HX.out _ D4.out).2.1.cell 3
          have t6_4 := (HX.out _ D4.out).2.1.cell 4
          simp at t0_4 t1_4 t2_4 t3_4 t4_4 t5_4 t6_4
          refine hK.out _ _ ⟨t0_4, t1_4, t2_4, t3_4, t4_4, t5_4, t6_4⟩ (fun hHeld => ?_)
          clear hK K
          refine norm_ (a' := ?_) ?_ ?_
          rotate_left
          · show Act.put _ (some 6) _ = _
            simp only [Act.put, List.setIfInBounds_toArray, List.set_cons_zero, List.set_cons_succ, i64_w, i32_w]
            rfl
          exact norm_ (by simp only [putAll, Act.put, List.setIfInBounds_toArray, List.set_cons_zero, List.set_cons_succ]) (hCont (.agg #[.slice AP p.slots.length kp, .slice BP p.vols.length lp], A2, k2, A3, k3, bvc, w3_.heap.size) _ ⟨hHeld, Q4.out, O4.out, L4, D4.out⟩)
        · skip
          refine value_ (w1 := ?_) (v := ?_) (by rfl) rfl ?_ ?_
          rotate_left 2
          · go_simp
            constructor
            · rfl
            · rfl
          have D3 : Hid (Bel w2.drew (w2_.alloc (.cells #[.slice none 0 0, .slice none 0 0] 33))) := Lib.hid (bel_alloc D2.out (.cells #[.slice none 0 0, .slice none 0 0] 33))
          have P3 := Lib.hid (OwnP.bel P2.out (bel_alloc (Below.refl _ _) (.cells #[.slice none 0 0, .slice none 0 0] 33)))
          have O3 : Hid (Blk (w2_.alloc (.cells #[.slice none 0 0, .slice none 0 0] 33)) w2_.heap.size #[.slice none 0 0, .slice none 0 0] 33) := Lib.hid (Blk.new w2_ #[.slice none 0 0, .slice none 0 0] 33)
          have L3 := D2.out.size
          have t0_3 := (HX.out _ D3.out).1.cell 0
          have t1_3 := (HX.out _ D3.out).1.cell 1
          have t2_3 := (HX.out _ D3.out).2.1.cell 0
          have t3_3 := (HX.out _ D3.out).2.1.cell 1
          have t4_3 := (HX.out _ D3.out).2.1.cell 2
          have t5_3 := (HX.out _ D3.out).2.1.cell 3
          have t6_3 := (HX.out _ D3.out).2.1.cell 4
          simp at t0_3 t1_3 t2_3 t3_3 t4_3 t5_3 t6_3
          refine hK.out _ _ ⟨t0_3, t1_3, t2_3, t3_3, t4_3, t5_3, t6_3⟩ (fun hHeld => ?_)
          clear hK K
          refine norm_ (a' := ?_) ?_ ?_
          rotate_left
          · show Act.put _ (some 6) _ = _
            simp only [Act.put, List.setIfInBounds_toArray, List.set_cons_zero, List.set_cons_succ, i64_w, i32_w]
            rfl
          refine one_ (i := 4) (N := some 31) #[true, true, true, true, true, false, false, false, true, false, false] rfl rfl (by kernel_rfl) (by decide) (fun K hK => ?_)
          refine goes_ Tryz.func6 (by kernel_rfl) rfl #[.agg #[.slice AP p.slots.length kp, .slice BP p.vols.length lp], .agg #[.int .i64 o.kind, .string o.name, .string o.dest, .int .i64 o.n, .string o.text]] (by rfl) rfl rfl (by simp only [List.map_toArray, List.map_cons, List.map_nil]; rfl) ?_
          with_reducible refine (HOD.out _ AP BP kp lp (OwnP.inn P3.out)).mono ?_
          rintro e w4_ ⟨vc, vd, bvc, rfl, ho, X4⟩
          have D4 := Lib.hid (Bel.tr D3.out X4)
          have O4 := Lib.hid (Blk.bel O3.out X4)
          have Q4 : Hid (OwnP w4_ w2.drew.heap.size vc vd q bvc) := Lib.hid (ho.lower D3.out.size)
          obtain ⟨A2, A3, k2, k3, rfl, rfl, hpi⟩ := ho.reads
          clear ho hpi
          have t0_4 := (HX.out _ D4.out).1.cell 0
          have t1_4 := (HX.out _ D4.out).1.cell 1
          have t2_4 := (HX.out _ D4.out).2.1.cell 0
          have t3_4 := (HX.out _ D4.out).2.1.cell 1
          have t4_4 := (HX.out _ D4.out).2.1.cell 2
          have t5_4 := (HX.out _ D4.out).2.1.cell 3
          have t6_4 := (HX.out _ D4.out).2.1.cell 4
          simp at t0_4 t1_4 t2_4 t3_4 t4_4 t5_4 t6_4
          refine ⟨_, rfl, ?_⟩
          refine hK.out _ _ ⟨t0_4, t1_4, t2_4, t3_4, t4_4, t5_4, t6_4⟩ (fun hHeld => ?_)
          clear hK K
          refine norm_ (a' := ?_) ?_ ?_
          rotate_left
          · show Act.put _ (some 31) _ = _
            simp only [Act.put, List.setIfInBounds_toArray, List.set_cons_zero, List.set_cons_succ, i64_w, i32_w]
            rfl
          refine pure_ (i := 5) (N := some 26) (v := ?_) (a' := ?_) #[true, true, true, true, true, true, false, false, true, false, false] rfl rfl (by kernel_rfl) (fun _ _ _ h => h) (Or.inl ⟨by rfl, ?_⟩) ?_ ?_
          rotate_left
          · intro w'
            go_simp
            with_reducible rfl
          rotate_left
          · simp only [Act.put, List.setIfInBounds_toArray, List.set_cons_zero, List.set_cons_succ, i64_w, i32_w]
            rfl
          refine pure_ (i := 6) (N := some 32) (v := ?_) (a' := ?_) #[true, true, true, true, true, true, true, false, true, false, false] rfl rfl (by kernel_rfl) (fun _ _ _ h => h) (Or.inl ⟨by rfl, ?_⟩) ?_ ?_
          rotate_left
          · intro w'
            go_simp
            with_reducible rfl
          rotate_left
          · simp only [Act.put, List.setIfInBounds_toArray, List.set_cons_zero, List.set_cons_succ, i64_w, i32_w]
            rfl
          refine pure_ (i := 7) (N := some 33) (v := ?_) (a' := ?_) #[true, true, true, true, true, true, true, true, true, false, false] rfl rfl (by kernel_rfl) (fun _ _ _ h => h) (Or.inl ⟨by rfl, ?_⟩) ?_ ?_
          rotate_left
          · intro w'
            go_simp
            with_reducible rfl
          rotate_left
          · simp only [Act.put, List.setIfInBounds_toArray, List.set_cons_zero, List.set_cons_succ, i64_w, i32_w]
            rfl
          exact norm_ (by simp only [putAll, Act.put, List.setIfInBounds_toArray, List.set_cons_zero, List.set_cons_succ]) (hCont (.agg #[.slice AP p.slots.length kp, .slice BP p.vols.length lp], A2, k2, A3, k3, bvc, w2_.heap.size) _ ⟨hHeld, Q4.out, O4.out, L3, D4.out⟩)
      · skip
        refine value_ (w1 := ?_) (v := ?_) (by rfl) rfl ?_ ?_
        rotate_left 2
        · go_simp
          constructor
          · rfl
          · rfl
        have D2 : Hid (Bel w2.drew (w1_.alloc (.cells #[.slice none 0 0, .slice none 0 0] 33))) := Lib.hid (bel_alloc D1.out (.cells #[.slice none 0 0, .slice none 0 0] 33))
        have P2 := Lib.hid (OwnP.bel P1.out (bel_alloc (Below.refl _ _) (.cells #[.slice none 0 0, .slice none 0 0] 33)))
        have O2 : Hid (Blk (w1_.alloc (.cells #[.slice none 0 0, .slice none 0 0] 33)) w1_.heap.size #[.slice none 0 0, .slice none 0 0] 33) := Lib.hid (Blk.new w1_ #[.slice none 0 0, .slice none 0 0] 33)
        have L2 := D1.out.size
        have t0_2 := (HX.out _ D2.out).1.cell 0
        have t1_2 := (HX.out _ D2.out).1.cell 1
        have t2_2 := (HX.out _ D2.out).2.1.cell 0
        have t3_2 := (HX.out _ D2.out).2.1.cell 1
        have t4_2 := (HX.out _ D2.out).2.1.cell 2
        have t5_2 := (HX.out _ D2.out).2.1.cell 3
        have t6_2 := (HX.out _ D2.out).2.1.cell 4
        simp at t0_2 t1_2 t2_2 t3_2 t4_2 t5_2 t6_2
        refine hK.out _ _ ⟨t0_2, t1_2, t2_2, t3_2, t4_2, t5_2, t6_2⟩ (fun hHeld => ?_)
        clear hK K
        refine norm_ (a' := ?_) ?_ ?_
        rotate_left
        · show Act.put _ (some 6) _ = _
          simp only [Act.put, List.setIfInBounds_toArray, List.set_cons_zero, List.set_cons_succ, i64_w, i32_w]
          rfl
        refine one_ (i := 3) (N := some 30) #[true, true, true, true, false, false, false, false, true, false, false] rfl rfl (by kernel_rfl) (by decide) (fun K hK => ?_)
        refine goes_ Tryz.func8 (by kernel_rfl) rfl #[.agg #[.int .i64 o.kind, .string o.name, .string o.dest, .int .i64 o.n, .string o.text]] (by rfl) rfl rfl (by simp only [List.map_toArray, List.map_cons, List.map_nil]; rfl) ?_
        with_reducible refine (toOp_c o _).mono ?_
        rintro e w3_ ⟨rfl, X3⟩
        have D3 := Lib.hid (Bel.tr D2.out X3)
        have O3 := Lib.hid (Blk.bel O2.out X3)
        have P3 := Lib.hid (OwnP.bel P2.out X3)
        have t0_3 := (HX.out _ D3.out).1.cell 0
        have t1_3 := (HX.out _ D3.out).1.cell 1
        have t2_3 := (HX.out _ D3.out).2.1.cell 0
        have t3_3 := (HX.out _ D3.out).2.1.cell 1
        have t4_3 := (HX.out _ D3.out).2.1.cell 2
        have t5_3 := (HX.out _ D3.out).2.1.cell 3
        have t6_3 := (HX.out _ D3.out).2.1.cell 4
        simp at t0_3 t1_3 t2_3 t3_3 t4_3 t5_3 t6_3
        refine ⟨_, rfl, ?_⟩
        refine hK.out _ _ ⟨t0_3, t1_3, t2_3, t3_3, t4_3, t5_3, t6_3⟩ (fun hHeld => ?_)
        clear hK K
        refine norm_ (a' := ?_) ?_ ?_
        rotate_left
        · show Act.put _ (some 30) _ = _
          simp only [Act.put, List.setIfInBounds_toArray, List.set_cons_zero, List.set_cons_succ, i64_w, i32_w]
          rfl
        refine one_ (i := 4) (N := some 31) #[true, true, true, true, true, false, false, false, true, false, false] rfl rfl (by kernel_rfl) (by decide) (fun K hK => ?_)
        refine goes_ Tryz.func6 (by kernel_rfl) rfl #[.agg #[.slice AP p.slots.length kp, .slice BP p.vols.length lp], .agg #[.int .i64 o.kind, .string o.name, .string o.dest, .int .i64 o.n, .string o.text]] (by rfl) rfl rfl (by simp only [List.map_toArray, List.map_cons, List.map_nil]; rfl) ?_
        with_reducible refine (HOD.out _ AP BP kp lp (OwnP.inn P3.out)).mono ?_
        rintro e w4_ ⟨vc, vd, bvc, rfl, ho, X4⟩
        have D4 := Lib.hid (Bel.tr D3.out X4)
        have O4 := Lib.hid (Blk.bel O3.out X4)
        have Q4 : Hid (OwnP w4_ w2.drew.heap.size vc vd q bvc) := Lib.hid (ho.lower D3.out.size)
        obtain ⟨A2, A3, k2, k3, rfl, rfl, hpi⟩ := ho.reads
        clear ho hpi
        have t0_4 := (HX.out _ D4.out).1.cell 0
        have t1_4 := (HX.out _ D4.out).1.cell 1
        have t2_4 := (HX.out _ D4.out).2.1.cell 0
        have t3_4 := (HX.out _ D4.out).2.1.cell 1
        have t4_4 := (HX.out _ D4.out).2.1.cell 2
        have t5_4 := (HX.out _ D4.out).2.1.cell 3
        have t6_4 := (HX.out _ D4.out).2.1.cell 4
        simp at t0_4 t1_4 t2_4 t3_4 t4_4 t5_4 t6_4
        refine ⟨_, rfl, ?_⟩
        refine hK.out _ _ ⟨t0_4, t1_4, t2_4, t3_4, t4_4, t5_4, t6_4⟩ (fun hHeld => ?_)
        clear hK K
        refine norm_ (a' := ?_) ?_ ?_
        rotate_left
        · show Act.put _ (some 31) _ = _
          simp only [Act.put, List.setIfInBounds_toArray, List.set_cons_zero, List.set_cons_succ, i64_w, i32_w]
          rfl
        refine pure_ (i := 5) (N := some 26) (v := ?_) (a' := ?_) #[true, true, true, true, true, true, false, false, true, false, false] rfl rfl (by kernel_rfl) (fun _ _ _ h => h) (Or.inl ⟨by rfl, ?_⟩) ?_ ?_
        rotate_left
        · intro w'
          go_simp
          with_reducible rfl
        rotate_left
        · simp only [Act.put, List.setIfInBounds_toArray, List.set_cons_zero, List.set_cons_succ, i64_w, i32_w]
          rfl
        refine pure_ (i := 6) (N := some 32) (v := ?_) (a' := ?_) #[true, true, true, true, true, true, true, false, true, false, false] rfl rfl (by kernel_rfl) (fun _ _ _ h => h) (Or.inl ⟨by rfl, ?_⟩) ?_ ?_
        rotate_left
        · intro w'
          go_simp
          with_reducible rfl
        rotate_left
        · simp only [Act.put, List.setIfInBounds_toArray, List.set_cons_zero, List.set_cons_succ, i64_w, i32_w]
          rfl
        refine pure_ (i := 7) (N := some 33) (v := ?_) (a' := ?_) #[true, true, true, true, true, true, true, true, true, false, false] rfl rfl (by kernel_rfl) (fun _ _ _ h => h) (Or.inl ⟨by rfl, ?_⟩) ?_ ?_
        rotate_left
        · intro w'
          go_simp
          with_reducible rfl
        rotate_left
        · simp only [Act.put, List.setIfInBounds_toArray, List.set_cons_zero, List.set_cons_succ, i64_w, i32_w]
          rfl
        exact norm_ (by simp only [putAll, Act.put, List.setIfInBounds_toArray, List.set_cons_zero, List.set_cons_succ]) (hCont (.agg #[.slice AP p.slots.length kp, .slice BP p.vols.length lp], A2, k2, A3, k3, bvc, w1_.heap.size) _ ⟨hHeld, Q4.out, O4.out, L2, D4.out⟩)
    · skip
      refine value_ (w1 := ?_) (v := ?_) (by rfl) rfl ?_ ?_
      rotate_left 2
      · go_simp
        constructor
        · rfl
        · rfl
      have D1 : Hid (Bel w2.drew (w2.alloc (.cells #[.slice none 0 0, .slice none 0 0] 33)).drew) := Lib.hid (bel_alloc D0.out (.cells #[.slice none 0 0, .slice none 0 0] 33))
      have O1 : Hid (Blk (w2.alloc (.cells #[.slice none 0 0, .slice none 0 0] 33)).drew w2.heap.size #[.slice none 0 0, .slice none 0 0] 33) := Lib.hid (Blk.new w2 #[.slice none 0 0, .slice none 0 0] 33)
      have L1 := D0.out.size
      have t0_1 := (HX.out _ D1.out).1.cell 0
      have t1_1 := (HX.out _ D1.out).1.cell 1
      have t2_1 := (HX.out _ D1.out).2.1.cell 0
      have t3_1 := (HX.out _ D1.out).2.1.cell 1
      have t4_1 := (HX.out _ D1.out).2.1.cell 2
      have t5_1 := (HX.out _ D1.out).2.1.cell 3
      have t6_1 := (HX.out _ D1.out).2.1.cell 4
      simp at t0_1 t1_1 t2_1 t3_1 t4_1 t5_1 t6_1
      refine hK.out _ _ ⟨t0_1, t1_1, t2_1, t3_1, t4_1, t5_1, t6_1⟩ (fun hHeld => ?_)
      clear hK K
      refine norm_ (a' := ?_) ?_ ?_
      rotate_left
      · show Act.put _ (some 6) _ = _
        simp only [Act.put, List.setIfInBounds_toArray, List.set_cons_zero, List.set_cons_succ, i64_w, i32_w]
        rfl
      refine one_ (i := 1) (N := some 28) #[true, true, true, false, false, false, false, false, true, false, false] rfl rfl (by kernel_rfl) (by decide) (fun K hK => ?_)
      refine goes_ Tryz.func7 (by kernel_rfl) rfl #[.agg #[.slice A0 p.slots.length c0, .slice A1 p.vols.length c1]] (by rfl) rfl rfl (by simp only [List.map_toArray, List.map_cons, List.map_nil]; rfl) ?_
      with_reducible refine (HTP.out _ D1.out).mono ?_
      rintro e w2_ ⟨va, vb, bva, rfl, ho, X2⟩
      have D2 := Lib.hid (Bel.tr D1.out X2)
      have O2 := Lib.hid (Blk.bel O1.out X2)
      have P2 : Hid (OwnP w2_ w2.drew.heap.size va vb p bva) := Lib.hid (ho.lower D1.out.size)
      obtain ⟨AP, BP, kp, lp, rfl, rfl, hpi⟩ := ho.reads
      clear ho hpi
      have t0_2 := (HX.out _ D2.out).1.cell 0
      have t1_2 := (HX.out _ D2.out).1.cell 1
      have t2_2 := (HX.out _ D2.out).2.1.cell 0
      have t3_2 := (HX.out _ D2.out).2.1.cell 1
      have t4_2 := (HX.out _ D2.out).2.1.cell 2
      have t5_2 := (HX.out _ D2.out).2.1.cell 3
      have t6_2 := (HX.out _ D2.out).2.1.cell 4
      simp at t0_2 t1_2 t2_2 t3_2 t4_2 t5_2 t6_2
      refine ⟨_, rfl, ?_⟩
      refine hK.out _ _ ⟨t0_2, t1_2, t2_2, t3_2, t4_2, t5_2, t6_2⟩ (fun hHeld => ?_)
      clear hK K
      refine norm_ (a' := ?_) ?_ ?_
      rotate_left
      · show Act.put _ (some 28) _ = _
        simp only [Act.put, List.setIfInBounds_toArray, List.set_cons_zero, List.set_cons_succ, i64_w, i32_w]
        rfl
      refine one_ (i := 3) (N := some 30) #[true, true, true, true, false, false, false, false, true, false, false] rfl rfl (by kernel_rfl) (by decide) (fun K hK => ?_)
      refine goes_ Tryz.func8 (by kernel_rfl) rfl #[.agg #[.int .i64 o.kind, .string o.name, .string o.dest, .int .i64 o.n, .string o.text]] (by rfl) rfl rfl (by simp only [List.map_toArray, List.map_cons, List.map_nil]; rfl) ?_
      with_reducible refine (toOp_c o _).mono ?_
      rintro e w3_ ⟨rfl, X3⟩
      have D3 := Lib.hid (Bel.tr D2.out X3)
      have O3 := Lib.hid (Blk.bel O2.out X3)
      have P3 := Lib.hid (OwnP.bel P2.out X3)
      have t0_3 := (HX.out _ D3.out).1.cell 0
      have t1_3 := (HX.out _ D3.out).1.cell 1
      have t2_3 := (HX.out _ D3.out).2.1.cell 0
      have t3_3 := (HX.out _ D3.out).2.1.cell 1
      have t4_3 := (HX.out _ D3.out).2.1.cell 2
      have t5_3 := (HX.out _ D3.out).2.1.cell 3
      have t6_3 := (HX.out _ D3.out).2.1.cell 4
      simp at t0_3 t1_3 t2_3 t3_3 t4_3 t5_3 t6_3
      refine ⟨_, rfl, ?_⟩
      refine hK.out _ _ ⟨t0_3, t1_3, t2_3, t3_3, t4_3, t5_3, t6_3⟩ (fun hHeld => ?_)
      clear hK K
      refine norm_ (a' := ?_) ?_ ?_
      rotate_left
      · show Act.put _ (some 30) _ = _
        simp only [Act.put, List.setIfInBounds_toArray, List.set_cons_zero, List.set_cons_succ, i64_w, i32_w]
        rfl
      refine one_ (i := 4) (N := some 31) #[true, true, true, true, true, false, false, false, true, false, false] rfl rfl (by kernel_rfl) (by decide) (fun K hK => ?_)
      refine goes_ Tryz.func6 (by kernel_rfl) rfl #[.agg #[.slice AP p.slots.length kp, .slice BP p.vols.length lp], .agg #[.int .i64 o.kind, .string o.name, .string o.dest, .int .i64 o.n, .string o.text]] (by rfl) rfl rfl (by simp only [List.map_toArray, List.map_cons, List.map_nil]; rfl) ?_
      with_reducible refine (HOD.out _ AP BP kp lp (OwnP.inn P3.out)).mono ?_
      rintro e w4_ ⟨vc, vd, bvc, rfl, ho, X4⟩
      have D4 := Lib.hid (Bel.tr D3.out X4)
      have O4 := Lib.hid (Blk.bel O3.out X4)
      have Q4 : Hid (OwnP w4_ w2.drew.heap.size vc vd q bvc) := Lib.hid (ho.lower D3.out.size)
      obtain ⟨A2, A3, k2, k3, rfl, rfl, hpi⟩ := ho.reads
      clear ho hpi
      have t0_4 := (HX.out _ D4.out).1.cell 0
      have t1_4 := (HX.out _ D4.out).1.cell 1
      have t2_4 := (HX.out _ D4.out).2.1.cell 0
      have t3_4 := (HX.out _ D4.out).2.1.cell 1
      have t4_4 := (HX.out _ D4.out).2.1.cell 2
      have t5_4 := (HX.out _ D4.out).2.1.cell 3
      have t6_4 := (HX.out _ D4.out).2.1.cell 4
      simp at t0_4 t1_4 t2_4 t3_4 t4_4 t5_4 t6_4
      refine ⟨_, rfl, ?_⟩
      refine hK.out _ _ ⟨t0_4, t1_4, t2_4, t3_4, t4_4, t5_4, t6_4⟩ (fun hHeld => ?_)
      clear hK K
      refine norm_ (a' := ?_) ?_ ?_
      rotate_left
      · show Act.put _ (some 31) _ = _
        simp only [Act.put, List.setIfInBounds_toArray, List.set_cons_zero, List.set_cons_succ, i64_w, i32_w]
        rfl
      refine pure_ (i := 5) (N := some 26) (v := ?_) (a' := ?_) #[true, true, true, true, true, true, false, false, true, false, false] rfl rfl (by kernel_rfl) (fun _ _ _ h => h) (Or.inl ⟨by rfl, ?_⟩) ?_ ?_
      rotate_left
      · intro w'
        go_simp
        with_reducible rfl
      rotate_left
      · simp only [Act.put, List.setIfInBounds_toArray, List.set_cons_zero, List.set_cons_succ, i64_w, i32_w]
        rfl
      refine pure_ (i := 6) (N := some 32) (v := ?_) (a' := ?_) #[true, true, true, true, true, true, true, false, true, false, false] rfl rfl (by kernel_rfl) (fun _ _ _ h => h) (Or.inl ⟨by rfl, ?_⟩) ?_ ?_
      rotate_left
      · intro w'
        go_simp
        with_reducible rfl
      rotate_left
      · simp only [Act.put, List.setIfInBounds_toArray, List.set_cons_zero, List.set_cons_succ, i64_w, i32_w]
        rfl
      refine pure_ (i := 7) (N := some 33) (v := ?_) (a' := ?_) #[true, true, true, true, true, true, true, true, true, false, false] rfl rfl (by kernel_rfl) (fun _ _ _ h => h) (Or.inl ⟨by rfl, ?_⟩) ?_ ?_
      rotate_left
      · intro w'
        go_simp
        with_reducible rfl
      rotate_left
      · simp only [Act.put, List.setIfInBounds_toArray, List.set_cons_zero, List.set_cons_succ, i64_w, i32_w]
        rfl
      exact norm_ (by simp only [putAll, Act.put, List.setIfInBounds_toArray, List.set_cons_zero, List.set_cons_succ]) (hCont (.agg #[.slice AP p.slots.length kp, .slice BP p.vols.length lp], A2, k2, A3, k3, bvc, w2.heap.size) _ ⟨hHeld, Q4.out, O4.out, L1, D4.out⟩)
  rintro ⟨va_, A2, k2, A3, k3, bvc, nb⟩ w4_ ⟨hHeld, hQ, hO, hL, hD⟩
  dsimp only at hQ hO hL
  have r0 := hO.cell 0
  have r1 := hO.cell 1
  have f0 := hO.free 0
  have f1 := hO.free 1
  simp at r0 r1
  refine norm_ (a' := ?_) ?_ ?_
  rotate_left
  · simp only [putAll, Act.put, List.setIfInBounds_toArray, List.set_cons_zero, List.set_cons_succ]
    rfl
  refine last_ (i := 9) (N := none) #[true, true, true, true, true, true, true, true, true, true, false] rfl rfl (by kernel_rfl) (by decide) (fun K hK => ?_)
  refine skip_ (w1 := ?_) (by rfl) rfl ?_ ?_
  rotate_left
  · go_simp
    rfl
  refine hK.out _ _ ?_
  clear hK K
  refine pure_ (i := 10) (N := some 7) (v := ?_) (a' := ?_) #[true, true, true, true, true, true, true, true, true, true, true] rfl rfl (by kernel_rfl) (fun _ _ _ h => h) (Or.inl ⟨by rfl, ?_⟩) ?_ ?_
  rotate_left
  · intro w'
    go_simp
    with_reducible rfl
  rotate_left
  · simp only [Act.put, List.setIfInBounds_toArray, List.set_cons_zero, List.set_cons_succ, i64_w, i32_w]
    rfl
  refine done_ (by kernel_rfl) ?_
  have hO4 := hO.set 0 (.slice A2 q.slots.length k2) (cs' := #[.slice A2 q.slots.length k2, .slice none 0 0]) rfl
  have hO5 := hO4.set 1 (.slice A3 q.vols.length k3) (cs' := #[.slice A2 q.slots.length k2, .slice A3 q.vols.length k3]) rfl
  have hQ5 := (hQ.far hO (by decide) (by decide) (by decide) 0 (.slice A2 q.slots.length k2)).far hO4 (by decide) (by decide) (by decide) 1 (.slice A3 q.vols.length k3)
  have hb5 : Bel w2.drew ((w4_.setCell ⟨nb, 0, none⟩ (.slice A2 q.slots.length k2)).setCell ⟨nb, 1, none⟩ (.slice A3 q.vols.length k3)) := bel_set (bel_set hD hL 0 (.slice A2 q.slots.length k2)) hL 1 (.slice A3 q.vols.length k3)
  clear hQ hO hO4 hD f0 f1 r0 r1 hHeld D0 HX s0_ s1_ s2_ s3_ s4_ s5_ s6_
  generalize ((w4_.setCell ⟨nb, 0, none⟩ (.slice A2 q.slots.length k2)).setCell ⟨nb, 1, none⟩ (.slice A3 q.vols.length k3)) = W3 at hO5 hQ5 hb5 ⊢
  replace KB := Lib.hid (ZKB.out.bel hb5)
  replace KO := Lib.hid (ZKO.out.bel hb5)
  replace KP := Lib.hid (ZKP.out.bel hb5)
  replace KW := Lib.hid (ZKW.out.trans (Below.mono hb5 (Below.size ZKW.out)))
  replace KZ := Lib.hid (show w.heap.size + 1 < W3.heap.size from Nat.lt_of_lt_of_le KZ.out hb5.size)
  clear ZKW ZKB ZKO ZKP
  obtain ⟨A4, rfl⟩ : ∃ x, x = A2 := ⟨_, rfl⟩
  obtain ⟨A5, rfl⟩ : ∃ x, x = A3 := ⟨_, rfl⟩
  obtain ⟨c4, rfl⟩ : ∃ x, x = k2 := ⟨_, rfl⟩
  obtain ⟨c5, rfl⟩ : ∃ x, x = k3 := ⟨_, rfl⟩
  obtain ⟨b6, rfl⟩ : ∃ x, x = nb := ⟨_, rfl⟩
  have K6 := Lib.hid hO5
  have KQ := Lib.hid (OwnP.at hQ5)
  have K6Z := Lib.hid (And.intro hL hO5.lt)
  clear hO5 hQ5 hb5 hL HTP HOD
  have q0 := KB.out.cell 0
  have q1 := KB.out.cell 1
  have y2 := KB.out.lt
  simp at q0 q1
  go_wp2_with fail
  clear q0 q1 y2
  refine (toPool_c KP.out HS.out).mono ?_
  rintro e w5 ⟨v6, v7, bvsX, rfl, hoX, hb⟩
  replace KB := Lib.hid (KB.out.bel hb)
  replace KO := Lib.hid (KO.out.bel hb)
  replace KP := Lib.hid (KP.out.bel hb)
  replace K6 := Lib.hid (K6.out.bel hb)
  replace KQ := Lib.hid (KQ.out.bel hb)
  replace KW := Lib.hid (KW.out.trans (Below.mono hb (Below.size KW.out)))
  replace KZ := Lib.hid (show w.heap.size + 1 < w5.heap.size from Nat.lt_of_lt_of_le KZ.out hb.size)
  have KXZ := Lib.hid (show W3.heap.size ≤ w5.heap.size from hb.size)
  have KX := Lib.hid (OwnP.at hoX)
  clear hoX hb
  obtain ⟨A6, A7, c6, c7, rfl, rfl, hpi⟩ := KX.out.reads
  clear hpi
  have q0 := KO.out.cell 0
  have q1 := KO.out.cell 1
  have q2 := KO.out.cell 2
  have q3 := KO.out.cell 3
  have q4 := KO.out.cell 4
  have y5 := KO.out.lt
  simp at q0 q1 q2 q3 q4
  go_wp2
  clear q0 q1 q2 q3 q4 y5
  have hnew : Blk (w5.alloc (.cells #[.slice A6 p.slots.length c6, .slice A7 p.vols.length c7] 33)) w5.heap.size #[.slice A6 p.slots.length c6, .slice A7 p.vols.length c7] 33 := Blk.new _ _ _
  have hb : Bel w5 (w5.alloc (.cells #[.slice A6 p.slots.length c6, .slice A7 p.vols.length c7] 33)) := bel_alloc (Below.refl _ _) _
  have hsz : (w5.alloc (.cells #[.slice A6 p.slots.length c6, .slice A7 p.vols.length c7] 33)).heap.size = w5.heap.size + 1 := by simp
  generalize w5.alloc (.cells #[.slice A6 p.slots.length c6, .slice A7 p.vols.length c7] 33) = W6 at hnew hb hsz ⊢
  replace KB := Lib.hid (KB.out.bel hb)
  replace KO := Lib.hid (KO.out.bel hb)
  replace KP := Lib.hid (KP.out.bel hb)
  replace K6 := Lib.hid (K6.out.bel hb)
  replace KQ := Lib.hid (KQ.out.bel hb)
  replace KX := Lib.hid (KX.out.bel hb)
  replace KW := Lib.hid (KW.out.trans (Below.mono hb (Below.size KW.out)))
  replace KZ := Lib.hid (show w.heap.size + 1 < W6.heap.size from Nat.lt_of_lt_of_le KZ.out hb.size)
  obtain ⟨b8, hbn⟩ : ∃ b, w5.heap.size = b := ⟨_, rfl⟩
  rw [hbn] at hnew hsz ⊢
  have K8 := Lib.hid hnew
  have K8Z := Lib.hid (And.intro hbn hsz)
  clear hnew hb hsz hbn
  have HOD := Lib.hid (fun (W : World) (A B : Option Addr) (c d : Nat) (h : PoolIn W A B c d p) => (by have := implOpDo_c (o := o) h HS.out HSO.out; rw [HQE.out.1, HQE.out.2] at this; exact this : Calls Tryz.prog 9 #[.agg #[.slice A p.slots.length c, .slice B p.vols.length d], .agg #[.int .i64 o.kind, .string o.name, .string o.dest, .int .i64 o.n, .string o.text]] W (MadePB W q ok)))
  have hpiKX : PoolIn W6 A6 A7 c6 c7 p := by obtain ⟨B6, B7, d6, d7, e6, e7, h⟩ := KX.out.reads; have e6 := slice_eq e6; have e7 := slice_eq e7; obtain ⟨rfl, -, rfl⟩ := e6; obtain ⟨rfl, -, rfl⟩ := e7; exact h
  have ZPI := Lib.hid (hpiKX.bel (Below.refl _ _).drew)
  clear hpiKX
  have ZKB := Lib.hid (KB.out.bel (Below.refl _ _).drew)
  have ZKO := Lib.hid (KO.out.bel (Below.refl _ _).drew)
  have ZKP := Lib.hid (KP.out.bel (Below.refl _ _).drew)
  have ZK6 := Lib.hid (K6.out.bel (Below.refl _ _).drew)
  have ZKQ := Lib.hid (KQ.out.bel (Below.refl _ _).drew)
  have ZKX := Lib.hid (KX.out.bel (Below.refl _ _).drew)
  have ZK8 := Lib.hid (K8.out.bel (Below.refl _ _).drew)
  have ZKW := Lib.hid (KW.out.trans (Below.mono (Below.refl _ _).drew (Below.size KW.out)))
  have D0 := Lib.hid (show Bel W6.drew W6.drew from Below.refl _ _)
  have HX := Lib.hid (fun (W : World) (hb : Bel W6.drew W) => And.intro (ZKB.out.bel hb) (And.intro (ZKO.out.bel hb) (ZK8.out.bel hb)))
  have s0_ := ZK8.out.cell 0
  have s1_ := ZK8.out.cell 1
  have s2_ := ZKO.out.cell 0
  have s3_ := ZKO.out.cell 1
  have s4_ := ZKO.out.cell 2
  have s5_ := ZKO.out.cell 3
  have s6_ := ZKO.out.cell 4
  simp at s0_ s1_ s2_ s3_ s4_ s5_ s6_
  refine start_ (n := 10) (S := fun w' => w'.cell? ⟨b8, 0, none⟩ = some (.slice A6 p.slots.length c6) ∧ w'.cell? ⟨b8, 1, none⟩ = some (.slice A7 p.vols.length c7) ∧ w'.cell? ⟨w.heap.size + 1, 0, none⟩ = some (.int .i64 o.kind) ∧ w'.cell? ⟨w.heap.size + 1, 1, none⟩ = some (.string o.name) ∧ w'.cell? ⟨w.heap.size + 1, 2, none⟩ = some (.string o.dest) ∧ w'.cell? ⟨w.heap.size + 1, 3, none⟩ = some (.int .i64 o.n) ∧ w'.cell? ⟨w.heap.size + 1, 4, none⟩ = some (.string o.text)) (ds := [8]) #[false, false, false, false, false, false, false, false, false, false] (by kernel_rfl) rfl rfl ⟨s0_, s1_, s2_, s3_, s4_, s5_, s6_⟩ (fun hHeld => ?_)
  refine take_ (i := 0) (N := some 37) (v := ?_) (a' := ?_) #[true, false, false, false, false, false, false, false, false, false] rfl rfl (by kernel_rfl) (fun _ _ _ h => h) (Or.inl ⟨by rfl, ?_⟩) hHeld ?_ ?_
  rotate_left
  · rintro w' ⟨s0, s1, s2, s3, s4, s5, s6⟩
    go_simp
    with_reducible rfl
  rotate_left
  · simp only [Act.put, List.setIfInBounds_toArray, List.set_cons_zero, List.set_cons_succ, i64_w, i32_w]
    rfl
  refine take_ (i := 1) (N := some 38) (v := ?_) (a' := ?_) #[true, true, false, false, false, false, false, false, false, false] rfl rfl (by kernel_rfl) (fun _ _ _ h => h) (Or.inl ⟨by rfl, ?_⟩) hHeld ?_ ?_
  rotate_left
  · rintro w' ⟨s0, s1, s2, s3, s4, s5, s6⟩
    go_simp
    with_reducible rfl
  rotate_left
  · simp only [Act.put, List.setIfInBounds_toArray, List.set_cons_zero, List.set_cons_succ, i64_w, i32_w]
    rfl
  refine join_ (σ := Option Addr × Nat × Option Addr × Nat × List Value × Nat) 2 #[true, true, true, true, true, true, true, true, false, false] (fun s => [(39, .agg #[.int .i64 o.kind, .string o.name, .string o.dest, .int .i64 o.n, .string o.text]), (40, .tuple #[.agg #[.slice s.1 q.slots.length s.2.1, .slice s.2.2.1 q.vols.length s.2.2.2.1], .bool ok]), (36, .tuple #[.agg #[.slice s.1 q.slots.length s.2.1, .slice s.2.2.1 q.vols.length s.2.2.2.1], .bool ok]), (41, .agg #[.slice s.1 q.slots.length s.2.1, .slice s.2.2.1 q.vols.length s.2.2.2.1]), (42, .bool ok), (9, .pointer (some ⟨s.2.2.2.2.2, 0, none⟩))]) (fun s w' => (w'.cell? ⟨b8, 0, none⟩ = some (.slice A6 p.slots.length c6) ∧ w'.cell? ⟨b8, 1, none⟩ = some (.slice A7 p.vols.length c7) ∧ w'.cell? ⟨w.heap.size + 1, 0, none⟩ = some (.int .i64 o.kind) ∧ w'.cell? ⟨w.heap.size + 1, 1, none⟩ = some (.string o.name) ∧ w'.cell? ⟨w.heap.size + 1, 2, none⟩ = some (.string o.dest) ∧ w'.cell? ⟨w.heap.size + 1, 3, none⟩ = some (.int .i64 o.n) ∧ w'.cell? ⟨w.heap.size + 1, 4, none⟩ = some (.string o.text)) ∧ OwnP w' W6.drew.heap.size (.slice s.1 q.slots.length s.2.1) (.slice s.2.2.1 q.vols.length s.2.2.2.1) q s.2.2.2.2.1 ∧ Blk w' s.2.2.2.2.2 #[.slice none 0 0, .slice none 0 0] 33 ∧ W6.drew.heap.size ≤ s.2.2.2.2.2 ∧ Bel W6.drew w') ?_ ?_
  rotate_left
  · intro hCont
    refine two_ (i := 2) (j := 7) (Ni := some 39) (Nj := some 9) #[true, true, true, false, false, false, false, false, false, false] #[true, true, false, false, false, false, false, true, false, false] rfl rfl rfl rfl (by kernel_rfl) (by decide) (by decide) (fun K hK => ?_) (fun K hK => ?_)
    · skip
      refine goes_ Tryz.func8 (by kernel_rfl) rfl #[.agg #[.int .i64 o.kind, .string o.name, .string o.dest, .int .i64 o.n, .string o.text]] (by rfl) rfl rfl (by simp only [List.map_toArray, List.map_cons, List.map_nil]; rfl) ?_
      with_reducible refine (toOp_c o _).mono ?_
      rintro e w1_ ⟨rfl, X1⟩
      have D1 := Lib.hid (Bel.tr D0.out X1)
      have t0_1 := (HX.out _ D1.out).2.2.cell 0
      have t1_1 := (HX.out _ D1.out).2.2.cell 1
      have t2_1 := (HX.out _ D1.out).2.1.cell 0
      have t3_1 := (HX.out _ D1.out).2.1.cell 1
      have t4_1 := (HX.out _ D1.out).2.1.cell 2
      have t5_1 := (HX.out _ D1.out).2.1.cell 3
      have t6_1 := (HX.out _ D1.out).2.1.cell 4
      simp at t0_1 t1_1 t2_1 t3_1 t4_1 t5_1 t6_1
      refine ⟨_, rfl, ?_⟩
      refine hK.out _ _ ⟨t0_1, t1_1, t2_1, t3_1, t4_1, t5_1, t6_1⟩ (fun hHeld => ?_)
      clear hK K
      refine norm_ (a' := ?_) ?_ ?_
      rotate_left
      · show Act.put _ (some 39) _ = _
        simp only [Act.put, List.setIfInBounds_toArray, List.set_cons_zero, List.set_cons_succ, i64_w, i32_w]
        rfl
      refine two_ (i := 3) (j := 7) (Ni := some 40) (Nj := some 9) #[true, true, true, true, false, false, false, false, false, false] #[true, true, true, false, false, false, false, true, false, false] rfl rfl rfl rfl (by kernel_rfl) (by decide) (by decide) (fun K hK => ?_) (fun K hK => ?_)
      · skip
        refine goes_ Tryz.func9 (by kernel_rfl) rfl #[.agg #[.slice A6 p.slots.length c6, .slice A7 p.vols.length c7], .agg #[.int .i64 o.kind, .string o.name, .string o.dest, .int .i64 o.n, .string o.text]] (by rfl) rfl rfl (by simp only [List.map_toArray, List.map_cons, List.map_nil]; rfl) ?_
        with_reducible refine (HOD.out _ A6 A7 c6 c7 (ZPI.out.bel D1.out)).mono ?_
        rintro e w2_ ⟨vc, vd, bvc, rfl, ho, X2⟩
        have D2 := Lib.hid (Bel.tr D1.out X2)
        have Q2 : Hid (OwnP w2_ W6.drew.heap.size vc vd q bvc) := Lib.hid (ho.lower D1.out.size)
        obtain ⟨A2, A3, k2, k3, rfl, rfl, hpi⟩ := ho.reads
        clear ho hpi
        have t0_2 := (HX.out _ D2.out).2.2.cell 0
        have t1_2 := (HX.out _ D2.out).2.2.cell 1
        have t2_2 := (HX.out _ D2.out).2.1.cell 0
        have t3_2 := (HX.out _ D2.out).2.1.cell 1
        have t4_2 := (HX.out _ D2.out).2.1.cell 2
        have t5_2 := (HX.out _ D2.out).2.1.cell 3
        have t6_2 := (HX.out _ D2.out).2.1.cell 4
        simp at t0_2 t1_2 t2_2 t3_2 t4_2 t5_2 t6_2
        refine ⟨_, rfl, ?_⟩
        refine hK.out _ _ ⟨t0_2, t1_2, t2_2, t3_2, t4_2, t5_2, t6_2⟩ (fun hHeld => ?_)
        clear hK K
        refine norm_ (a' := ?_) ?_ ?_
        rotate_left
        · show Act.put _ (some 40) _ = _
          simp only [Act.put, List.setIfInBounds_toArray, List.set_cons_zero, List.set_cons_succ, i64_w, i32_w]
          rfl
        refine pure_ (i := 4) (N := some 36) (v := ?_) (a' := ?_) #[true, true, true, true, true, false, false, false, false, false] rfl rfl (by kernel_rfl) (fun _ _ _ h => h) (Or.inl ⟨by rfl, ?_⟩) ?_ ?_
        rotate_left
        · intro w'
          go_simp
          with_reducible rfl
        rotate_left
        · simp only [Act.put, List.setIfInBounds_toArray, List.set_cons_zero, List.set_cons_succ, i64_w, i32_w]
          rfl
        refine pure_ (i := 5) (N := some 41) (v := ?_) (a' := ?_) #[true, true, true, true, true, true, false, false, false, false] rfl rfl (by kernel_rfl) (fun _ _ _ h => h) (Or.inl ⟨by rfl, ?_⟩) ?_ ?_
        rotate_left
        · intro w'
          go_simp
          with_reducible rfl
        rotate_left
        · simp only [Act.put, List.setIfInBounds_toArray, List.set_cons_zero, List.set_cons_succ, i64_w, i32_w]
          rfl
        refine pure_ (i := 6) (N := some 42) (v := ?_) (a' := ?_) #[true, true, true, true, true, true, true, false, false, false] rfl rfl (by kernel_rfl) (fun _ _ _ h => h) (Or.inl ⟨by rfl, ?_⟩) ?_ ?_
        rotate_left
        · intro w'
          go_simp
          with_reducible rfl
        rotate_left
        · simp only [Act.put, List.setIfInBounds_toArray, List.set_cons_zero, List.set_cons_succ, i64_w, i32_w]
          rfl
        refine one_ (i := 7) (N := some 9) #[true, true, true, true, true, true, true, true, false, false] rfl rfl (by kernel_rfl) (by decide) (fun K hK => ?_)
        refine value_ (w1 := ?_) (v := ?_) (by rfl) rfl ?_ ?_
        rotate_left 2
        · go_simp
          constructor
          · rfl
          · rfl
        have D3 : Hid (Bel W6.drew (w2_.alloc (.cells #[.slice none 0 0, .slice none 0 0] 33))) := Lib.hid (bel_alloc D2.out (.cells #[.slice none 0 0, .slice none 0 0] 33))
        have Q3 := Lib.hid (OwnP.bel Q2.out (bel_alloc (Below.refl _ _) (.cells #[.slice none 0 0, .slice none 0 0] 33)))
        have O3 : Hid (Blk (w2_.alloc (.cells #[.slice none 0 0, .slice none 0 0] 33)) w2_.heap.size #[.slice none 0 0, .slice none 0 0] 33) := Lib.hid (Blk.new w2_ #[.slice none 0 0, .slice none 0 0] 33)
        have L3 := D2.out.size
        have t0_3 := (HX.out _ D3.out).2.2.cell 0
        have t1_3 := (HX.out _ D3.out).2.2.cell 1
        have t2_3 := (HX.out _ D3.out).2.1.cell 0
        have t3_3 := (HX.out _ D3.out).2.1.cell 1
        have t4_3 := (HX.out _ D3.out).2.1.cell 2
        have t5_3 := (HX.out _ D3.out).2.1.cell 3
        have t6_3 := (HX.out _ D3.out).2.1.cell 4
        simp at t0_3 t1_3 t2_3 t3_3 t4_3 t5_3 t6_3
        refine hK.out _ _ ⟨t0_3, t1_3, t2_3, t3_3, t4_3, t5_3, t6_3⟩ (fun hHeld => ?_)
        clear hK K
        refine norm_ (a' := ?_) ?_ ?_
        rotate_left
        · show Act.put _ (some 9) _ = _
          simp only [Act.put, List.setIfInBounds_toArray, List.set_cons_zero, List.set_cons_succ, i64_w, i32_w]
          rfl
        exact norm_ (by simp only [putAll, Act.put, List.setIfInBounds_toArray, List.set_cons_zero, List.set_cons_succ]) (hCont (A2, k2, A3, k3, bvc, w2_.heap.size) _ ⟨hHeld, Q3.out, O3.out, L3, D3.out⟩)
      · skip
        refine value_ (w1 := ?_) (v := ?_) (by rfl) rfl ?_ ?_
        rotate_left 2
        · go_simp
          constructor
          · rfl
          · rfl
        have D2 : Hid (Bel W6.drew (w1_.alloc (.cells #[.slice none 0 0, .slice none 0 0] 33))) := Lib.hid (bel_alloc D1.out (.cells #[.slice none 0 0, .slice none 0 0] 33))
        have O2 : Hid (Blk (w1_.alloc (.cells #[.slice none 0 0, .slice none 0 0] 33)) w1_.heap.size #[.slice none 0 0, .slice none 0 0] 33) := Lib.hid (Blk.new w1_ #[.slice none 0 0, .slice none 0 0] 33)
        have L2 := D1.out.size
        have t0_2 := (HX.out _ D2.out).2.2.cell 0
        have t1_2 := (HX.out _ D2.out).2.2.cell 1
        have t2_2 := (HX.out _ D2.out).2.1.cell 0
        have t3_2 := (HX.out _ D2.out).2.1.cell 1
        have t4_2 := (HX.out _ D2.out).2.1.cell 2
        have t5_2 := (HX.out _ D2.out).2.1.cell 3
        have t6_2 := (HX.out _ D2.out).2.1.cell 4
        simp at t0_2 t1_2 t2_2 t3_2 t4_2 t5_2 t6_2
        refine hK.out _ _ ⟨t0_2, t1_2, t2_2, t3_2, t4_2, t5_2, t6_2⟩ (fun hHeld => ?_)
        clear hK K
        refine norm_ (a' := ?_) ?_ ?_
        rotate_left
        · show Act.put _ (some 9) _ = _
          simp only [Act.put, List.setIfInBounds_toArray, List.set_cons_zero, List.set_cons_succ, i64_w, i32_w]
          rfl
        refine one_ (i := 3) (N := some 40) #[true, true, true, true, false, false, false, true, false, false] rfl rfl (by kernel_rfl) (by decide) (fun K hK => ?_)
        refine goes_ Tryz.func9 (by kernel_rfl) rfl #[.agg #[.slice A6 p.slots.length c6, .slice A7 p.vols.length c7], .agg #[.int .i64 o.kind, .string o.name, .string o.dest, .int .i64 o.n, .string o.text]] (by rfl) rfl rfl (by simp only [List.map_toArray, List.map_cons, List.map_nil]; rfl) ?_
        with_reducible refine (HOD.out _ A6 A7 c6 c7 (ZPI.out.bel D2.out)).mono ?_
        rintro e w3_ ⟨vc, vd, bvc, rfl, ho, X3⟩
        have D3 := Lib.hid (Bel.tr D2.out X3)
        have O3 := Lib.hid (Blk.bel O2.out X3)
        have Q3 : Hid (OwnP w3_ W6.drew.heap.size vc vd q bvc) := Lib.hid (ho.lower D2.out.size)
        obtain ⟨A2, A3, k2, k3, rfl, rfl, hpi⟩ := ho.reads
        clear ho hpi
        have t0_3 := (HX.out _ D3.out).2.2.cell 0
        have t1_3 := (HX.out _ D3.out).2.2.cell 1
        have t2_3 := (HX.out _ D3.out).2.1.cell 0
        have t3_3 := (HX.out _ D3.out).2.1.cell 1
        have t4_3 := (HX.out _ D3.out).2.1.cell 2
        have t5_3 := (HX.out _ D3.out).2.1.cell 3
        have t6_3 := (HX.out _ D3.out).2.1.cell 4
        simp at t0_3 t1_3 t2_3 t3_3 t4_3 t5_3 t6_3
        refine ⟨_, rfl, ?_⟩
        refine hK.out _ _ ⟨t0_3, t1_3, t2_3, t3_3, t4_3, t5_3, t6_3⟩ (fun hHeld => ?_)
        clear hK K
        refine norm_ (a' := ?_) ?_ ?_
        rotate_left
        · show Act.put _ (some 40) _ = _
          simp only [Act.put, List.setIfInBounds_toArray, List.set_cons_zero, List.set_cons_succ, i64_w, i32_w]
          rfl
        refine pure_ (i := 4) (N := some 36) (v := ?_) (a' := ?_) #[true, true, true, true, true, false, false, true, false, false] rfl rfl (by kernel_rfl) (fun _ _ _ h => h) (Or.inl ⟨by rfl, ?_⟩) ?_ ?_
        rotate_left
        · intro w'
          go_simp
          with_reducible rfl
        rotate_left
        · simp only [Act.put, List.setIfInBounds_toArray, List.set_cons_zero, List.set_cons_succ, i64_w, i32_w]
          rfl
        refine pure_ (i := 5) (N := some 41) (v := ?_) (a' := ?_) #[true, true, true, true, true, true, false, true, false, false] rfl rfl (by kernel_rfl) (fun _ _ _ h => h) (Or.inl ⟨by rfl, ?_⟩) ?_ ?_
        rotate_left
        · intro w'
          go_simp
          with_reducible rfl
        rotate_left
        · simp only [Act.put, List.setIfInBounds_toArray, List.set_cons_zero, List.set_cons_succ, i64_w, i32_w]
          rfl
        refine pure_ (i := 6) (N := some 42) (v := ?_) (a' := ?_) #[true, true, true, true, true, true, true, true, false, false] rfl rfl (by kernel_rfl) (fun _ _ _ h => h) (Or.inl ⟨by rfl, ?_⟩) ?_ ?_
        rotate_left
        · intro w'
          go_simp
          with_reducible rfl
        rotate_left
        · simp only [Act.put, List.setIfInBounds_toArray, List.set_cons_zero, List.set_cons_succ, i64_w, i32_w]
          rfl
        exact norm_ (by simp only [putAll, Act.put, List.setIfInBounds_toArray, List.set_cons_zero, List.set_cons_succ]) (hCont (A2, k2, A3, k3, bvc, w1_.heap.size) _ ⟨hHeld, Q3.out, O3.out, L2, D3.out⟩)
    · skip
      refine value_ (w1 := ?_) (v := ?_) (by rfl) rfl ?_ ?_
      rotate_left 2
      · go_simp
        constructor
        · rfl
        · rfl
      have D1 : Hid (Bel W6.drew (W6.alloc (.cells #[.slice none 0 0, .slice none 0 0] 33)).drew) := Lib.hid (bel_alloc D0.out (.cells #[.slice none 0 0, .slice none 0 0] 33))
      have O1 : Hid (Blk (W6.alloc (.cells #[.slice none 0 0, .slice none 0 0] 33)).drew W6.heap.size #[.slice none 0 0, .slice none 0 0] 33) := Lib.hid (Blk.new W6 #[.slice none 0 0, .slice none 0 0] 33)
      have L1 := D0.out.size
      have t0_1 := (HX.out _ D1.out).2.2.cell 0
      have t1_1 := (HX.out _ D1.out).2.2.cell 1
      have t2_1 := (HX.out _ D1.out).2.1.cell 0
      have t3_1 := (HX.out _ D1.out).2.1.cell 1
      have t4_1 := (HX.out _ D1.out).2.1.cell 2
      have t5_1 := (HX.out _ D1.out).2.1.cell 3
      have t6_1 := (HX.out _ D1.out).2.1.cell 4
      simp at t0_1 t1_1 t2_1 t3_1 t4_1 t5_1 t6_1
      refine hK.out _ _ ⟨t0_1, t1_1, t2_1, t3_1, t4_1, t5_1, t6_1⟩ (fun hHeld => ?_)
      clear hK K
      refine norm_ (a' := ?_) ?_ ?_
      rotate_left
      · show Act.put _ (some 9) _ = _
        simp only [Act.put, List.setIfInBounds_toArray, List.set_cons_zero, List.set_cons_succ, i64_w, i32_w]
        rfl
      refine one_ (i := 2) (N := some 39) #[true, true, true, false, false, false, false, true, false, false] rfl rfl (by kernel_rfl) (by decide) (fun K hK => ?_)
      refine goes_ Tryz.func8 (by kernel_rfl) rfl #[.agg #[.int .i64 o.kind, .string o.name, .string o.dest, .int .i64 o.n, .string o.text]] (by rfl) rfl rfl (by simp only [List.map_toArray, List.map_cons, List.map_nil]; rfl) ?_
      with_reducible refine (toOp_c o _).mono ?_
      rintro e w2_ ⟨rfl, X2⟩
      have D2 := Lib.hid (Bel.tr D1.out X2)
      have O2 := Lib.hid (Blk.bel O1.out X2)
      have t0_2 := (HX.out _ D2.out).2.2.cell 0
      have t1_2 := (HX.out _ D2.out).2.2.cell 1
      have t2_2 := (HX.out _ D2.out).2.1.cell 0
      have t3_2 := (HX.out _ D2.out).2.1.cell 1
      have t4_2 := (HX.out _ D2.out).2.1.cell 2
      have t5_2 := (HX.out _ D2.out).2.1.cell 3
      have t6_2 := (HX.out _ D2.out).2.1.cell 4
      simp at t0_2 t1_2 t2_2 t3_2 t4_2 t5_2 t6_2
      refine ⟨_, rfl, ?_⟩
      refine hK.out _ _ ⟨t0_2, t1_2, t2_2, t3_2, t4_2, t5_2, t6_2⟩ (fun hHeld => ?_)
      clear hK K
      refine norm_ (a' := ?_) ?_ ?_
      rotate_left
      · show Act.put _ (some 39) _ = _
        simp only [Act.put, List.setIfInBounds_toArray, List.set_cons_zero, List.set_cons_succ, i64_w, i32_w]
        rfl
      refine one_ (i := 3) (N := some 40) #[true, true, true, true, false, false, false, true, false, false] rfl rfl (by kernel_rfl) (by decide) (fun K hK => ?_)
      refine goes_ Tryz.func9 (by kernel_rfl) rfl #[.agg #[.slice A6 p.slots.length c6, .slice A7 p.vols.length c7], .agg #[.int .i64 o.kind, .string o.name, .string o.dest, .int .i64 o.n, .string o.text]] (by rfl) rfl rfl (by simp only [List.map_toArray, List.map_cons, List.map_nil]; rfl) ?_
      with_reducible refine (HOD.out _ A6 A7 c6 c7 (ZPI.out.bel D2.out)).mono ?_
      rintro e w3_ ⟨vc, vd, bvc, rfl, ho, X3⟩
      have D3 := Lib.hid (Bel.tr D2.out X3)
      have O3 := Lib.hid (Blk.bel O2.out X3)
      have Q3 : Hid (OwnP w3_ W6.drew.heap.size vc vd q bvc) := Lib.hid (ho.lower D2.out.size)
      obtain ⟨A2, A3, k2, k3, rfl, rfl, hpi⟩ := ho.reads
      clear ho hpi
      have t0_3 := (HX.out _ D3.out).2.2.cell 0
      have t1_3 := (HX.out _ D3.out).2.2.cell 1
      have t2_3 := (HX.out _ D3.out).2.1.cell 0
      have t3_3 := (HX.out _ D3.out).2.1.cell 1
      have t4_3 := (HX.out _ D3.out).2.1.cell 2
      have t5_3 := (HX.out _ D3.out).2.1.cell 3
      have t6_3 := (HX.out _ D3.out).2.1.cell 4
      simp at t0_3 t1_3 t2_3 t3_3 t4_3 t5_3 t6_3
      refine ⟨_, rfl, ?_⟩
      refine hK.out _ _ ⟨t0_3, t1_3, t2_3, t3_3, t4_3, t5_3, t6_3⟩ (fun hHeld => ?_)
      clear hK K
      refine norm_ (a' := ?_) ?_ ?_
      rotate_left
      · show Act.put _ (some 40) _ = _
        simp only [Act.put, List.setIfInBounds_toArray, List.set_cons_zero, List.set_cons_succ, i64_w, i32_w]
        rfl
      refine pure_ (i := 4) (N := some 36) (v := ?_) (a' := ?_) #[true, true, true, true, true, false, false, true, false, false] rfl rfl (by kernel_rfl) (fun _ _ _ h => h) (Or.inl ⟨by rfl, ?_⟩) ?_ ?_
      rotate_left
      · intro w'
        go_simp
        with_reducible rfl
      rotate_left
      · simp only [Act.put, List.setIfInBounds_toArray, List.set_cons_zero, List.set_cons_succ, i64_w, i32_w]
        rfl
      refine pure_ (i := 5) (N := some 41) (v := ?_) (a' := ?_) #[true, true, true, true, true, true, false, true, false, false] rfl rfl (by kernel_rfl) (fun _ _ _ h => h) (Or.inl ⟨by rfl, ?_⟩) ?_ ?_
      rotate_left
      · intro w'
        go_simp
        with_reducible rfl
      rotate_left
      · simp only [Act.put, List.setIfInBounds_toArray, List.set_cons_zero, List.set_cons_succ, i64_w, i32_w]
        rfl
      refine pure_ (i := 6) (N := some 42) (v := ?_) (a' := ?_) #[true, true, true, true, true, true, true, true, false, false] rfl rfl (by kernel_rfl) (fun _ _ _ h => h) (Or.inl ⟨by rfl, ?_⟩) ?_ ?_
      rotate_left
      · intro w'
        go_simp
        with_reducible rfl
      rotate_left
      · simp only [Act.put, List.setIfInBounds_toArray, List.set_cons_zero, List.set_cons_succ, i64_w, i32_w]
        rfl
      exact norm_ (by simp only [putAll, Act.put, List.setIfInBounds_toArray, List.set_cons_zero, List.set_cons_succ]) (hCont (A2, k2, A3, k3, bvc, W6.heap.size) _ ⟨hHeld, Q3.out, O3.out, L1, D3.out⟩)
  rintro ⟨A2, k2, A3, k3, bvc, nb⟩ w4_ ⟨hHeld, hQ, hO, hL, hD⟩
  dsimp only at hQ hO hL
  have r0 := hO.cell 0
  have r1 := hO.cell 1
  have f0 := hO.free 0
  have f1 := hO.free 1
  simp at r0 r1
  refine norm_ (a' := ?_) ?_ ?_
  rotate_left
  · simp only [putAll, Act.put, List.setIfInBounds_toArray, List.set_cons_zero, List.set_cons_succ]
    rfl
  refine last_ (i := 8) (N := none) #[true, true, true, true, true, true, true, true, true, false] rfl rfl (by kernel_rfl) (by decide) (fun K hK => ?_)
  refine skip_ (w1 := ?_) (by rfl) rfl ?_ ?_
  rotate_left
  · go_simp
    rfl
  refine hK.out _ _ ?_
  clear hK K
  refine pure_ (i := 9) (N := some 10) (v := ?_) (a' := ?_) #[true, true, true, true, true, true, true, true, true, true] rfl rfl (by kernel_rfl) (fun _ _ _ h => h) (Or.inl ⟨by rfl, ?_⟩) ?_ ?_
  rotate_left
  · intro w'
    go_simp
    with_reducible rfl
  rotate_left
  · simp only [Act.put, List.setIfInBounds_toArray, List.set_cons_zero, List.set_cons_succ, i64_w, i32_w]
    rfl
  refine done_ (by kernel_rfl) ?_
  have hO4 := hO.set 0 (.slice A2 q.slots.length k2) (cs' := #[.slice A2 q.slots.length k2, .slice none 0 0]) rfl
  have hO5 := hO4.set 1 (.slice A3 q.vols.length k3) (cs' := #[.slice A2 q.slots.length k2, .slice A3 q.vols.length k3]) rfl
  have hQ5 := (hQ.far hO (by decide) (by decide) (by decide) 0 (.slice A2 q.slots.length k2)).far hO4 (by decide) (by decide) (by decide) 1 (.slice A3 q.vols.length k3)
  have hb5 : Bel W6.drew ((w4_.setCell ⟨nb, 0, none⟩ (.slice A2 q.slots.length k2)).setCell ⟨nb, 1, none⟩ (.slice A3 q.vols.length k3)) := bel_set (bel_set hD hL 0 (.slice A2 q.slots.length k2)) hL 1 (.slice A3 q.vols.length k3)
  clear hQ hO hO4 hD f0 f1 r0 r1 hHeld D0 HX s0_ s1_ s2_ s3_ s4_ s5_ s6_
  generalize ((w4_.setCell ⟨nb, 0, none⟩ (.slice A2 q.slots.length k2)).setCell ⟨nb, 1, none⟩ (.slice A3 q.vols.length k3)) = W8 at hO5 hQ5 hb5 ⊢
  replace KB := Lib.hid (ZKB.out.bel hb5)
  replace KO := Lib.hid (ZKO.out.bel hb5)
  replace KP := Lib.hid (ZKP.out.bel hb5)
  replace K6 := Lib.hid (ZK6.out.bel hb5)
  replace KQ := Lib.hid (ZKQ.out.bel hb5)
  replace KX := Lib.hid (ZKX.out.bel hb5)
  replace K8 := Lib.hid (ZK8.out.bel hb5)
  replace KW := Lib.hid (ZKW.out.trans (Below.mono hb5 (Below.size ZKW.out)))
  replace KZ := Lib.hid (show w.heap.size + 1 < W8.heap.size from Nat.lt_of_lt_of_le KZ.out hb5.size)
  clear ZKW ZKB ZKO ZKP ZK6 ZKQ ZKX ZK8
  obtain ⟨A8, rfl⟩ : ∃ x, x = A2 := ⟨_, rfl⟩
  obtain ⟨A9, rfl⟩ : ∃ x, x = A3 := ⟨_, rfl⟩
  obtain ⟨c8, rfl⟩ : ∃ x, x = k2 := ⟨_, rfl⟩
  obtain ⟨c9, rfl⟩ : ∃ x, x = k3 := ⟨_, rfl⟩
  obtain ⟨b9, rfl⟩ : ∃ x, x = nb := ⟨_, rfl⟩
  have K9 := Lib.hid hO5
  have KG := Lib.hid (OwnP.at hQ5)
  have K9Z := Lib.hid (And.intro hL hO5.lt)
  have KGZ := Lib.hid hb5.size
  clear hO5 hQ5 hb5 hL HOD ZPI
  have KZ2 := Lib.hid (show w.heap.size + 1 < w2.drew.heap.size from KZ0.out)
  cases ok
  · skip
    have q0 := K9.out.cell 0
    have q1 := K9.out.cell 1
    have y2 := K9.out.lt
    have q2 := K6.out.cell 0
    have q3 := K6.out.cell 1
    have y4 := K6.out.lt
    simp at q0 q1 q2 q3
    go_wp2_with fail
    clear q0 q1 y2 q2 q3 y4
    have hpiKG : PoolIn W8 A8 A9 c8 c9 q := by obtain ⟨B6, B7, d6, d7, e6, e7, h⟩ := KG.out.reads; have e6 := slice_eq e6; have e7 := slice_eq e7; obtain ⟨rfl, -, rfl⟩ := e6; obtain ⟨rfl, -, rfl⟩ := e7; exact h
    have hpiKQ : PoolIn W8 A4 A5 c4 c5 q := by obtain ⟨B6, B7, d6, d7, e6, e7, h⟩ := KQ.out.reads; have e6 := slice_eq e6; have e7 := slice_eq e7; obtain ⟨rfl, -, rfl⟩ := e6; obtain ⟨rfl, -, rfl⟩ := e7; exact h
    refine (eqPool_c hpiKG hpiKQ KQS.out).mono ?_
    rintro e w9 ⟨rfl, hb⟩
    clear hpiKG hpiKQ
    replace KB := Lib.hid (KB.out.bel hb)
    replace KO := Lib.hid (KO.out.bel hb)
    replace KP := Lib.hid (KP.out.bel hb)
    replace K6 := Lib.hid (K6.out.bel hb)
    replace KQ := Lib.hid (KQ.out.bel hb)
    replace KX := Lib.hid (KX.out.bel hb)
    replace K8 := Lib.hid (K8.out.bel hb)
    replace K9 := Lib.hid (K9.out.bel hb)
    replace KG := Lib.hid (KG.out.bel hb)
    replace KW := Lib.hid (KW.out.trans (Below.mono hb (Below.size KW.out)))
    replace KZ := Lib.hid (show w.heap.size + 1 < w9.heap.size from Nat.lt_of_lt_of_le KZ.out hb.size)
    clear hb
    have q0 := K8.out.cell 0
    have q1 := K8.out.cell 1
    have y2 := K8.out.lt
    have q2 := KB.out.cell 0
    have q3 := KB.out.cell 1
    have y4 := KB.out.lt
    simp at q0 q1 q2 q3
    go_wp2
    have hpiKX : PoolIn w9 A6 A7 c6 c7 p := by obtain ⟨B6, B7, d6, d7, e6, e7, h⟩ := KX.out.reads; have e6 := slice_eq e6; have e7 := slice_eq e7; obtain ⟨rfl, -, rfl⟩ := e6; obtain ⟨rfl, -, rfl⟩ := e7; exact h
    have KXI := Lib.hid hpiKX
    clear hpiKX
    have HT := Lib.hid (toPool_c (KP.out.bel (Below.refl _ _).drew) HS.out)
    refine start_ (n := 5) (S := fun w' => w'.cell? ⟨b8, 0, none⟩ = some (.slice A6 p.slots.length c6) ∧ w'.cell? ⟨b8, 1, none⟩ = some (.slice A7 p.vols.length c7) ∧ w'.cell? ⟨w.heap.size, 0, none⟩ = some (.slice A0 p.slots.length c0) ∧ w'.cell? ⟨w.heap.size, 1, none⟩ = some (.slice A1 p.vols.length c1)) (ds := []) #[false, false, false, false, false] (by kernel_rfl) rfl rfl ⟨q0, q1, q2, q3⟩ (fun hHeld => ?_)
    refine take_ (i := 0) (N := some 52) (v := ?_) (a' := ?_) #[true, false, false, false, false] rfl rfl (by kernel_rfl) (fun _ _ _ h => h) (Or.inl ⟨by rfl, ?_⟩) hHeld ?_ ?_
    rotate_left
    · rintro w' ⟨s0, s1, s2, s3⟩
      go_simp
      with_reducible rfl
    rotate_left
    · simp only [Act.put, List.setIfInBounds_toArray, List.set_cons_zero, List.set_cons_succ, i64_w, i32_w]
      rfl
    refine take_ (i := 1) (N := some 53) (v := ?_) (a' := ?_) #[true, true, false, false, false] rfl rfl (by kernel_rfl) (fun _ _ _ h => h) (Or.inl ⟨by rfl, ?_⟩) hHeld ?_ ?_
    rotate_left
    · rintro w' ⟨s0, s1, s2, s3⟩
      go_simp
      with_reducible rfl
    rotate_left
    · simp only [Act.put, List.setIfInBounds_toArray, List.set_cons_zero, List.set_cons_succ, i64_w, i32_w]
      rfl
    refine one_ (i := 2) (N := some 54) #[true, true, true, false, false] rfl rfl (by kernel_rfl) (by decide) (fun K hK => ?_)
    refine goes_ Tryz.func7 (by kernel_rfl) rfl #[.agg #[.slice A0 p.slots.length c0, .slice A1 p.vols.length c1]] (by rfl) rfl rfl (by simp only [List.map_toArray, List.map_cons, List.map_nil]; rfl) ?_
    with_reducible refine (HT.out).mono ?_
    rintro e w10 ⟨v10, v11, bvsT, rfl, hoT, hbT⟩
    obtain ⟨AT, AU, cT, cU, rfl, rfl, hpiT⟩ := hoT.reads
    have KT := Lib.hid hpiT
    clear hpiT hoT
    have hbT' : Bel w9 w10 := Bel.tr (b := w9.drew) (Below.refl _ _).drew hbT
    have u0 := (K8.out.bel hbT').cell 0
    have u1 := (K8.out.bel hbT').cell 1
    have u2 := (KB.out.bel hbT').cell 0
    have u3 := (KB.out.bel hbT').cell 1
    simp at u0 u1 u2 u3
    clear hbT
    refine ⟨_, rfl, ?_⟩
    refine hK.out _ _ ⟨u0, u1, u2, u3⟩ (fun hHeld => ?_)
    clear hK K
    refine norm_ (a' := ?_) ?_ ?_
    rotate_left
    · show Act.put _ (some 54) _ = _
      simp only [Act.put, List.setIfInBounds_toArray, List.set_cons_zero, List.set_cons_succ, i64_w, i32_w]
      rfl
    refine one_ (i := 3) (N := some 55) #[true, true, true, true, false] rfl rfl (by kernel_rfl) (by decide) (fun K hK => ?_)
    refine goes_ Tryz.func10 (by kernel_rfl) rfl #[.agg #[.slice A6 p.slots.length c6, .slice A7 p.vols.length c7], .agg #[.slice AT p.slots.length cT, .slice AU p.vols.length cU]] (by rfl) rfl rfl (by simp only [List.map_toArray, List.map_cons, List.map_nil]; rfl) ?_
    with_reducible refine (eqPool_c (KXI.out.bel hbT') KT.out HS.out).mono ?_
    rintro e w11 ⟨rfl, hbE⟩
    have u4 := (K8.out.bel (hbT'.tr hbE)).cell 0
    have u5 := (K8.out.bel (hbT'.tr hbE)).cell 1
    have u6 := (KB.out.bel (hbT'.tr hbE)).cell 0
    have u7 := (KB.out.bel (hbT'.tr hbE)).cell 1
    simp at u4 u5 u6 u7
    refine ⟨_, rfl, ?_⟩
    refine hK.out _ _ ⟨u4, u5, u6, u7⟩ (fun hHeld => ?_)
    clear hK K
    refine norm_ (a' := ?_) ?_ ?_
    rotate_left
    · show Act.put _ (some 55) _ = _
      simp only [Act.put, List.setIfInBounds_toArray, List.set_cons_zero, List.set_cons_succ, i64_w, i32_w]
      rfl
    refine pure_ (i := 4) (N := some 56) (v := ?_) (a' := ?_) #[true, true, true, true, true] rfl rfl (by kernel_rfl) (fun _ _ _ h => h) (Or.inl ⟨by rfl, ?_⟩) ?_ ?_
    rotate_left
    · intro w'
      go_simp
      with_reducible rfl
    rotate_left
    · simp only [Act.put, List.setIfInBounds_toArray, List.set_cons_zero, List.set_cons_succ, i64_w, i32_w]
      rfl
    refine done_ (by kernel_rfl) ?_
    have hb : Bel w9 w11 := hbT'.tr hbE
    clear u0 u1 u2 u3 u4 u5 u6 u7 hHeld q0 q1 y2 q2 q3 y4 hbT' hbE KXI HT
    replace KB := Lib.hid (KB.out.bel hb)
    replace KO := Lib.hid (KO.out.bel hb)
    replace KP := Lib.hid (KP.out.bel hb)
    replace K6 := Lib.hid (K6.out.bel hb)
    replace KQ := Lib.hid (KQ.out.bel hb)
    replace KX := Lib.hid (KX.out.bel hb)
    replace K8 := Lib.hid (K8.out.bel hb)
    replace K9 := Lib.hid (K9.out.bel hb)
    replace KG := Lib.hid (KG.out.bel hb)
    replace KW := Lib.hid (KW.out.trans (Below.mono hb (Below.size KW.out)))
    replace KZ := Lib.hid (show w.heap.size + 1 < w11.heap.size from Nat.lt_of_lt_of_le KZ.out hb.size)
    clear hb
    have q0 := K8.out.cell 0
    have q1 := K8.out.cell 1
    have y2 := K8.out.lt
    simp at q0 q1
    go_wp2_with fail
    clear q0 q1 y2
    have HOX := Lib.hid KX.out.own
    refine (markB_c KX.out HS.out (by omega) (by omega)).mono ?_
    rintro e w12 ⟨rfl, ⟨px, hx1, hx2, hx3, hx4, hx5, hx6⟩, hwi, hon⟩
    have z6 := K6Z.out
    have z8 := K8Z.out
    have z9 := K9Z.out
    have zx := KXZ.out
    have zg := KGZ.out
    have zl := HL8.out
    have z8d : W6.drew.heap.size = W6.heap.size := rfl
    have zw : w.heap.size + 1 < w2.drew.heap.size := KZ2.out
    replace KB := Lib.hid (KB.out.only hon (HOX.out.notIn KB.out (by decide) (by decide) (by decide)))
    replace KO := Lib.hid (KO.out.only hon (HOX.out.notIn KO.out (by decide) (by decide) (by decide)))
    replace KP := Lib.hid (HP.out.bel (KW.out.trans (Within.below hwi (Below.size KW.out) (by omega))))
    replace K6 := Lib.hid (K6.out.only hon (HOX.out.notIn K6.out (by decide) (by decide) (by decide)))
    replace KQ := Lib.hid (KQ.out.within hwi (by omega))
    replace K8 := Lib.hid (K8.out.only hon (HOX.out.notIn K8.out (by decide) (by decide) (by decide)))
    replace K9 := Lib.hid (K9.out.only hon (HOX.out.notIn K9.out (by decide) (by decide) (by decide)))
    replace KG := Lib.hid (KG.out.within hwi (by omega))
    replace KW := Lib.hid (KW.out.trans (Within.below hwi (Below.size KW.out) (by omega)))
    replace KZ := Lib.hid (show w.heap.size + 1 < w12.heap.size from Nat.lt_of_lt_of_le KZ.out (Within.size hwi))
    clear KX hx1 hx2 hx3 hx4 hx5 hx6 hwi hon HOX
    clear z6 z8 z9 zx zg zl z8d zw
    have KN := Lib.hid (nxP_bd HS.out (k := 1) (by omega) (by omega))
    have hneg : ¬ (nxP 1 p < 0) := by have := KN.out; omega
    have q0 := K9.out.cell 0
    have q1 := K9.out.cell 1
    have y2 := K9.out.lt
    have q2 := K6.out.cell 0
    have q3 := K6.out.cell 1
    have y4 := K6.out.lt
    simp at q0 q1 q2 q3
    go_wp2_with fail
    clear q0 q1 y2 q2 q3 y4
    have hpiKG : PoolIn w12 A8 A9 c8 c9 q := by obtain ⟨B6, B7, d6, d7, e6, e7, h⟩ := KG.out.reads; have e6 := slice_eq e6; have e7 := slice_eq e7; obtain ⟨rfl, -, rfl⟩ := e6; obtain ⟨rfl, -, rfl⟩ := e7; exact h
    have hpiKQ : PoolIn w12 A4 A5 c4 c5 q := by obtain ⟨B6, B7, d6, d7, e6, e7, h⟩ := KQ.out.reads; have e6 := slice_eq e6; have e7 := slice_eq e7; obtain ⟨rfl, -, rfl⟩ := e6; obtain ⟨rfl, -, rfl⟩ := e7; exact h
    refine (eqPool_c hpiKG hpiKQ KQS.out).mono ?_
    rintro e w13 ⟨rfl, hb⟩
    clear hpiKG hpiKQ
    replace KB := Lib.hid (KB.out.bel hb)
    replace KO := Lib.hid (KO.out.bel hb)
    replace KP := Lib.hid (KP.out.bel hb)
    replace K6 := Lib.hid (K6.out.bel hb)
    replace KQ := Lib.hid (KQ.out.bel hb)
    replace K8 := Lib.hid (K8.out.bel hb)
    replace K9 := Lib.hid (K9.out.bel hb)
    replace KG := Lib.hid (KG.out.bel hb)
    replace KW := Lib.hid (KW.out.trans (Below.mono hb (Below.size KW.out)))
    replace KZ := Lib.hid (show w.heap.size + 1 < w13.heap.size from Nat.lt_of_lt_of_le KZ.out hb.size)
    clear hb
    have q0 := K9.out.cell 0
    have q1 := K9.out.cell 1
    have y2 := K9.out.lt
    simp at q0 q1
    go_wp2_with fail
    clear q0 q1 y2
    have HOG := Lib.hid KG.out.own
    refine (markB_c KG.out KQS.out (by omega) (by omega)).mono ?_
    rintro e w14 ⟨rfl, ⟨qg, hg1, hg2, hg2v, hg3, hg4, hg5⟩, hwi, hon⟩
    have z6 := K6Z.out
    have z8 := K8Z.out
    have z9 := K9Z.out
    have zx := KXZ.out
    have zg := KGZ.out
    have zl := HL8.out
    have z8d : W6.drew.heap.size = W6.heap.size := rfl
    have zw : w.heap.size + 1 < w2.drew.heap.size := KZ2.out
    replace KB := Lib.hid (KB.out.only hon (HOG.out.notIn KB.out (by decide) (by decide) (by decide)))
    replace KO := Lib.hid (KO.out.only hon (HOG.out.notIn KO.out (by decide) (by decide) (by decide)))
    replace KP := Lib.hid (HP.out.bel (KW.out.trans (Within.below hwi (Below.size KW.out) (by omega))))
    replace K6 := Lib.hid (K6.out.only hon (HOG.out.notIn K6.out (by decide) (by decide) (by decide)))
    replace KQ := Lib.hid (KQ.out.within hwi (by omega))
    replace K8 := Lib.hid (K8.out.only hon (HOG.out.notIn K8.out (by decide) (by decide) (by decide)))
    replace K9 := Lib.hid (K9.out.only hon (HOG.out.notIn K9.out (by decide) (by decide) (by decide)))
    replace KW := Lib.hid (KW.out.trans (Within.below hwi (Below.size KW.out) (by omega)))
    replace KZ := Lib.hid (show w.heap.size + 1 < w14.heap.size from Nat.lt_of_lt_of_le KZ.out (Within.size hwi))
    replace KG := Lib.hid hg5
    have KGM := Lib.hid (And.intro hg1 (And.intro hg3 hg4))
    have KGL := Lib.hid (And.intro hg2 hg2v)
    clear hg1 hg2 hg2v hg3 hg4 hg5 hwi hon HOG hneg KN
    clear z6 z8 z9 zx zg zl z8d zw
    have KN := Lib.hid (nxP_bd KQS.out (k := 1) (by omega) (by omega))
    have hneg : ¬ (nxP 1 q < 0) := by have := KN.out; omega
    have q0 := K9.out.cell 0
    have q1 := K9.out.cell 1
    have y2 := K9.out.lt
    simp at q0 q1
    go_wp2_with fail
    clear q0 q1 y2
    have hpiG : PoolIn w14 A8 A9 c8 c9 qg := by obtain ⟨B6, B7, d6, d7, e6, e7, h⟩ := KG.out.reads; have e6 := slice_eq e6; have e7 := slice_eq e7; obtain ⟨rfl, -, rfl⟩ := e6; obtain ⟨rfl, -, rfl⟩ := e7; exact h
    have hheld := heldPool_c hpiG KGM.out.2.2 KGM.out.1 (by omega) (by omega)
    rw [KGM.out.2.1, KGL.out.1, KGL.out.2] at hheld
    refine hheld.mono ?_
    rintro e w15 ⟨rfl, hb⟩
    clear hpiG hheld
    replace KB := Lib.hid (KB.out.bel hb)
    replace KO := Lib.hid (KO.out.bel hb)
    replace KP := Lib.hid (KP.out.bel hb)
    replace K6 := Lib.hid (K6.out.bel hb)
    replace KQ := Lib.hid (KQ.out.bel hb)
    replace K8 := Lib.hid (K8.out.bel hb)
    replace K9 := Lib.hid (K9.out.bel hb)
    replace KG := Lib.hid (KG.out.bel hb)
    replace KW := Lib.hid (KW.out.trans (Below.mono hb (Below.size KW.out)))
    replace KZ := Lib.hid (show w.heap.size + 1 < w15.heap.size from Nat.lt_of_lt_of_le KZ.out hb.size)
    clear hb
    have q0 := KB.out.cell 0
    have q1 := KB.out.cell 1
    have y2 := KB.out.lt
    have q2 := KO.out.cell 0
    have q3 := KO.out.cell 1
    have q4 := KO.out.cell 2
    have q5 := KO.out.cell 3
    have q6 := KO.out.cell 4
    have y7 := KO.out.lt
    simp at q0 q1 q2 q3 q4 q5 q6
    go_wp2
    clear q0 q1 y2 q2 q3 q4 q5 q6 y7
    have HTP := Lib.hid (fun (W : World) (hb : Bel w15.drew W) => toPool_c ((KP.out.bel (Below.refl _ _).drew).bel hb) HS.out)
    have HOD := Lib.hid (fun (W : World) (A B : Option Addr) (c d : Nat) (h : PoolIn W A B c d p) => (by have := implOpDo_c (o := o) h HS.out HSO.out; rw [HQE.out.1, HQE.out.2] at this; exact this : Calls Tryz.prog 9 #[.agg #[.slice A p.slots.length c, .slice B p.vols.length d], .agg #[.int .i64 o.kind, .string o.name, .string o.dest, .int .i64 o.n, .string o.text]] W (MadePB W q false)))
    have ZKB := Lib.hid (KB.out.bel (Below.refl _ _).drew)
    have ZKO := Lib.hid (KO.out.bel (Below.refl _ _).drew)
    have ZKP := Lib.hid (KP.out.bel (Below.refl _ _).drew)
    have ZK6 := Lib.hid (K6.out.bel (Below.refl _ _).drew)
    have ZKQ := Lib.hid (KQ.out.bel (Below.refl _ _).drew)
    have ZK8 := Lib.hid (K8.out.bel (Below.refl _ _).drew)
    have ZK9 := Lib.hid (K9.out.bel (Below.refl _ _).drew)
    have ZKG := Lib.hid (KG.out.bel (Below.refl _ _).drew)
    have ZKW := Lib.hid (KW.out.trans (Below.mono (Below.refl _ _).drew (Below.size KW.out)))
    have D0 := Lib.hid (show Bel w15.drew w15.drew from Below.refl _ _)
    have HX := Lib.hid (fun (W : World) (hb : Bel w15.drew W) => And.intro (ZKB.out.bel hb) (And.intro (ZKO.out.bel hb) trivial))
    have s0_ := ZKB.out.cell 0
    have s1_ := ZKB.out.cell 1
    have s2_ := ZKO.out.cell 0
    have s3_ := ZKO.out.cell 1
    have s4_ := ZKO.out.cell 2
    have s5_ := ZKO.out.cell 3
    have s6_ := ZKO.out.cell 4
    simp at s0_ s1_ s2_ s3_ s4_ s5_ s6_
    refine start_ (n := 11) (S := fun w' => w'.cell? ⟨w.heap.size, 0, none⟩ = some (.slice A0 p.slots.length c0) ∧ w'.cell? ⟨w.heap.size, 1, none⟩ = some (.slice A1 p.vols.length c1) ∧ w'.cell? ⟨w.heap.size + 1, 0, none⟩ = some (.int .i64 o.kind) ∧ w'.cell? ⟨w.heap.size + 1, 1, none⟩ = some (.string o.name) ∧ w'.cell? ⟨w.heap.size + 1, 2, none⟩ = some (.string o.dest) ∧ w'.cell? ⟨w.heap.size + 1, 3, none⟩ = some (.int .i64 o.n) ∧ w'.cell? ⟨w.heap.size + 1, 4, none⟩ = some (.string o.text)) (ds := [9]) #[false, false, false, false, false, false, false, false, false, false, false] (by kernel_rfl) rfl rfl ⟨s0_, s1_, s2_, s3_, s4_, s5_, s6_⟩ (fun hHeld => ?_)
    refine take_ (i := 0) (N := some 85) (v := ?_) (a' := ?_) #[true, false, false, false, false, false, false, false, false, false, false] rfl rfl (by kernel_rfl) (fun _ _ _ h => h) (Or.inl ⟨by rfl, ?_⟩) hHeld ?_ ?_
    rotate_left
    · rintro w' ⟨s0, s1, s2, s3, s4, s5, s6⟩
      go_simp
      with_reducible rfl
    rotate_left
    · simp only [Act.put, List.setIfInBounds_toArray, List.set_cons_zero, List.set_cons_succ, i64_w, i32_w]
      rfl
    refine take_ (i := 2) (N := some 87) (v := ?_) (a' := ?_) #[true, false, true, false, false, false, false, false, false, false, false] rfl rfl (by kernel_rfl) (fun _ _ _ h => h) (Or.inl ⟨by rfl, ?_⟩) hHeld ?_ ?_
    rotate_left
    · rintro w' ⟨s0, s1, s2, s3, s4, s5, s6⟩
      go_simp
      with_reducible rfl
    rotate_left
    · simp only [Act.put, List.setIfInBounds_toArray, List.set_cons_zero, List.set_cons_succ, i64_w, i32_w]
      rfl
    refine join_ (σ := Value × Option Addr × Nat × Option Addr × Nat × List Value × Nat) 2 #[true, true, true, true, true, true, true, true, true, false, false] (fun s => [(86, s.1), (88, .agg #[.int .i64 o.kind, .string o.name, .string o.dest, .int .i64 o.n, .string o.text]), (89, .tuple #[.agg #[.slice s.2.1 q.slots.length s.2.2.1, .slice s.2.2.2.1 q.vols.length s.2.2.2.2.1], .bool false]), (84, .tuple #[.agg #[.slice s.2.1 q.slots.length s.2.2.1, .slice s.2.2.2.1 q.vols.length s.2.2.2.2.1], .bool false]), (90, .agg #[.slice s.2.1 q.slots.length s.2.2.1, .slice s.2.2.2.1 q.vols.length s.2.2.2.2.1]), (91, .bool false), (14, .pointer (some ⟨s.2.2.2.2.2.2, 0, none⟩))]) (fun s w' => (w'.cell? ⟨w.heap.size, 0, none⟩ = some (.slice A0 p.slots.length c0) ∧ w'.cell? ⟨w.heap.size, 1, none⟩ = some (.slice A1 p.vols.length c1) ∧ w'.cell? ⟨w.heap.size + 1, 0, none⟩ = some (.int .i64 o.kind) ∧ w'.cell? ⟨w.heap.size + 1, 1, none⟩ = some (.string o.name) ∧ w'.cell? ⟨w.heap.size + 1, 2, none⟩ = some (.string o.dest) ∧ w'.cell? ⟨w.heap.size + 1, 3, none⟩ = some (.int .i64 o.n) ∧ w'.cell? ⟨w.heap.size + 1, 4, none⟩ = some (.string o.text)) ∧ OwnP w' w15.drew.heap.size (.slice s.2.1 q.slots.length s.2.2.1) (.slice s.2.2.2.1 q.vols.length s.2.2.2.2.1) q s.2.2.2.2.2.1 ∧ Blk w' s.2.2.2.2.2.2 #[.slice none 0 0, .slice none 0 0] 33 ∧ w15.drew.heap.size ≤ s.2.2.2.2.2.2 ∧ Bel w15.drew w') ?_ ?_
    rotate_left
    · intro hCont
      refine two_ (i := 1) (j := 8) (Ni := some 86) (Nj := some 14) #[true, true, true, false, false, false, false, false, false, false, false] #[true, false, true, false, false, false, false, false, true, false, false] rfl rfl rfl rfl (by kernel_rfl) (by decide) (by decide) (fun K hK => ?_) (fun K hK => ?_)
      · skip
        refine goes_ Tryz.func7 (by kernel_rfl) rfl #[.agg #[.slice A0 p.slots.length c0, .slice A1 p.vols.length c1]] (by rfl) rfl rfl (by simp only [List.map_toArray, List.map_cons, List.map_nil]; rfl) ?_
        with_reducible refine (HTP.out _ D0.out).mono ?_
        rintro e w1_ ⟨va, vb, bva, rfl, ho, X1⟩
        have D1 := Lib.hid (Bel.tr D0.out X1)
        have P1 : Hid (OwnP w1_ w15.drew.heap.size va vb p bva) := Lib.hid (ho.lower D0.out.size)
        obtain ⟨AP, BP, kp, lp, rfl, rfl, hpi⟩ := ho.reads
        clear ho hpi
        have t0_1 := (HX.out _ D1.out).1.cell 0
        have t1_1 := (HX.out _ D1.out).1.cell 1
        have t2_1 := (HX.out _ D1.out).2.1.cell 0
        have t3_1 := (HX.out _ D1.out).2.1.cell 1
        have t4_1 := (HX.out _ D1.out).2.1.cell 2
        have t5_1 := (HX.out _ D1.out).2.1.cell 3
        have t6_1 := (HX.out _ D1.out).2.1.cell 4
        simp at t0_1 t1_1 t2_1 t3_1 t4_1 t5_1 t6_1
        refine ⟨_, rfl, ?_⟩
        refine hK.out _ _ ⟨t0_1, t1_1, t2_1, t3_1, t4_1, t5_1, t6_1⟩ (fun hHeld => ?_)
        clear hK K
        refine norm_ (a' := ?_) ?_ ?_
        rotate_left
        · show Act.put _ (some 86) _ = _
          simp only [Act.put, List.setIfInBounds_toArray, List.set_cons_zero, List.set_cons_succ, i64_w, i32_w]
          rfl
        refine two_ (i := 3) (j := 8) (Ni := some 88) (Nj := some 14) #[true, true, true, true, false, false, false, false, false, false, false] #[true, true, true, false, false, false, false, false, true, false, false] rfl rfl rfl rfl (by kernel_rfl) (by decide) (by decide) (fun K hK => ?_) (fun K hK => ?_)
        · skip
          refine goes_ Tryz.func8 (by kernel_rfl) rfl #[.agg #[.int .i64 o.kind, .string o.name, .string o.dest, .int .i64 o.n, .string o.text]] (by rfl) rfl rfl (by simp only [List.map_toArray, List.map_cons, List.map_nil]; rfl) ?_
          with_reducible refine (toOp_c o _).mono ?_
          rintro e w2_ ⟨rfl, X2⟩
          have D2 := Lib.hid (Bel.tr D1.out X2)
          have P2 := Lib.hid (OwnP.bel P1.out X2)
          have t0_2 := (HX.out _ D2.out).1.cell 0
          have t1_2 := (HX.out _ D2.out).1.cell 1
          have t2_2 := (HX.out _ D2.out).2.1.cell 0
          have t3_2 := (HX.out _ D2.out).2.1.cell 1
          have t4_2 := (HX.out _ D2.out).2.1.cell 2
          have t5_2 := (HX.out _ D2.out).2.1.cell 3
          have t6_2 := (HX.out _ D2.out).2.1.cell 4
          simp at t0_2 t1_2 t2_2 t3_2 t4_2 t5_2 t6_2
          refine ⟨_, rfl, ?_⟩
          refine hK.out _ _ ⟨t0_2, t1_2, t2_2, t3_2, t4_2, t5_2, t6_2⟩ (fun hHeld => ?_)
          clear hK K
          refine norm_ (a' := ?_) ?_ ?_
          rotate_left
          · show Act.put _ (some 88) _ = _
            simp only [Act.put, List.setIfInBounds_toArray, List.set_cons_zero, List.set_cons_succ, i64_w, i32_w]
            rfl
          refine two_ (i := 4) (j := 8) (Ni := some 89) (Nj := some 14) #[true, true, true, true, true, false, false, false, false, false, false] #[true, true, true, true, false, false, false, false, true, false, false] rfl rfl rfl rfl (by kernel_rfl) (by decide) (by decide) (fun K hK => ?_) (fun K hK => ?_)
          · skip
            refine goes_ Tryz.func9 (by kernel_rfl) rfl #[.agg #[.slice AP p.slots.length kp, .slice BP p.vols.length lp], .agg #[.int .i64 o.kind, .string o.name, .string o.dest, .int .i64 o.n, .string o.text]] (by rfl) rfl rfl (by simp only [List.map_toArray, List.map_cons, List.map_nil]; rfl) ?_
            with_reducible refine (HOD.out _ AP BP kp lp (OwnP.inn P2.out)).mono ?_
            rintro e w3_ ⟨vc, vd, bvc, rfl, ho, X3⟩
            have D3 := Lib.hid (Bel.tr D2.out X3)
            have Q3 : Hid (OwnP w3_ w15.drew.heap.size vc vd q bvc) := Lib.hid (ho.lower D2.out.size)
            obtain ⟨A2, A3, k2, k3, rfl, rfl, hpi⟩ := ho.reads
            clear ho hpi
            have t0_3 := (HX.out _ D3.out).1.cell 0
            have t1_3 := (HX.out _ D3.out).1.cell 1
            have t2_3 := (HX.out _ D3.out).2.1.cell 0
            have t3_3 := (HX.out _ D3.out).2.1.cell 1
            have t4_3 := (HX.out _ D3.out).2.1.cell 2
            have t5_3 := (HX.out _ D3.out).2.1.cell 3
            have t6_3 := (HX.out _ D3.out).2.1.cell 4
            simp at t0_3 t1_3 t2_3 t3_3 t4_3 t5_3 t6_3
            refine ⟨_, rfl, ?_⟩
            refine hK.out _ _ ⟨t0_3, t1_3, t2_3, t3_3, t4_3, t5_3, t6_3⟩ (fun hHeld => ?_)
            clear hK K
            refine norm_ (a' := ?_) ?_ ?_
            rotate_left
            · show Act.put _ (some 89) _ = _
              simp only [Act.put, List.setIfInBounds_toArray, List.set_cons_zero, List.set_cons_succ, i64_w, i32_w]
              rfl
            refine pure_ (i := 5) (N := some 84) (v := ?_) (a' := ?_) #[true, true, true, true, true, true, false, false, false, false, false] rfl rfl (by kernel_rfl) (fun _ _ _ h => h) (Or.inl ⟨by rfl, ?_⟩) ?_ ?_
            rotate_left
            · intro w'
              go_simp
              with_reducible rfl
            rotate_left
            · simp only [Act.put, List.setIfInBounds_toArray, List.set_cons_zero, List.set_cons_succ, i64_w, i32_w]
              rfl
            refine pure_ (i := 6) (N := some 90) (v := ?_) (a' := ?_) #[true, true, true, true, true, true, true, false, false, false, false] rfl rfl (by kernel_rfl) (fun _ _ _ h => h) (Or.inl ⟨by rfl, ?_⟩) ?_ ?_
            rotate_left
            · intro w'
              go_simp
              with_reducible rfl
            rotate_left
            · simp only [Act.put, List.setIfInBounds_toArray, List.set_cons_zero, List.set_cons_succ, i64_w, i32_w]
              rfl
            refine pure_ (i := 7) (N := some 91) (v := ?_) (a' := ?_) #[true, true, true, true, true, true, true, true, false, false, false] rfl rfl (by kernel_rfl) (fun _ _ _ h => h) (Or.inl ⟨by rfl, ?_⟩) ?_ ?_
            rotate_left
            · intro w'
              go_simp
              with_reducible rfl
            rotate_left
            · simp only [Act.put, List.setIfInBounds_toArray, List.set_cons_zero, List.set_cons_succ, i64_w, i32_w]
              rfl
            refine one_ (i := 8) (N := some 14) #[true, true, true, true, true, true, true, true, true, false, false] rfl rfl (by kernel_rfl) (by decide) (fun K hK => ?_)
            refine value_ (w1 := ?_) (v := ?_) (by rfl) rfl ?_ ?_
            rotate_left 2
            · go_simp
              constructor
              · rfl
              · rfl
            have D4 : Hid (Bel w15.drew (w3_.alloc (.cells #[.slice none 0 0, .slice none 0 0] 33))) := Lib.hid (bel_alloc D3.out (.cells #[.slice none 0 0, .slice none 0 0] 33))
            have Q4 := Lib.hid (OwnP.bel Q3.out (bel_alloc (Below.refl _ _) (.cells #[.slice none 0 0, .slice none 0 0] 33)))
            have O4 : Hid (Blk (w3_.alloc (.cells #[.slice none 0 0, .slice none 0 0] 33)) w3_.heap.size #[.slice none 0 0, .slice none 0 0] 33) := Lib.hid (Blk.new w3_ #[.slice none 0 0, .slice none 0 0] 33)
            have L4 := D3.out.size
            have t0_4 := (HX.out _ D4.out).1.cell 0
            have t1_4 := (HX.out _ D4.out).1.cell 1
            have t2_4 := (HX.out _ D4.out).2.1.cell 0
            have t3_4 := (HX.out _ D4.out).2.1.cell 1
            have t4_4 := (HX.out _ D4.out).2.1.cell 2
            have t5_4 := (HX.out _ D4.out).2.1.cell 3
            have t6_4 := (HX.out _ D4.out).2.1.cell 4
            simp at t0_4 t1_4 t2_4 t3_4 t4_4 t5_4 t6_4
            refine hK.out _ _ ⟨t0_4, t1_4, t2_4, t3_4, t4_4, t5_4, t6_4⟩ (fun hHeld => ?_)
            clear hK K
            refine norm_ (a' := ?_) ?_ ?_
            rotate_left
            · show Act.put _ (some 14) _ = _
              simp only [Act.put, List.setIfInBounds_toArray, List.set_cons_zero, List.set_cons_succ, i64_w, i32_w]
              rfl
            exact norm_ (by simp only [putAll, Act.put, List.setIfInBounds_toArray, List.set_cons_zero, List.set_cons_succ]) (hCont (.agg #[.slice AP p.slots.length kp, .slice BP p.vols.length lp], A2, k2, A3, k3, bvc, w3_.heap.size) _ ⟨hHeld, Q4.out, O4.out, L4, D4.out⟩)
          · skip
            refine value_ (w1 := ?_) (v := ?_) (by rfl) rfl ?_ ?_
            rotate_left 2
            · go_simp
              constructor
              · rfl
              · rfl
            have D3 : Hid (Bel w15.drew (w2_.alloc (.cells #[.slice none 0 0, .slice none 0 0] 33))) := Lib.hid (bel_alloc D2.out (.cells #[.slice none 0 0, .slice none 0 0] 33))
            have P3 := Lib.hid (OwnP.bel P2.out (bel_alloc (Below.refl _ _) (.cells #[.slice none 0 0, .slice none 0 0] 33)))
            have O3 : Hid (Blk (w2_.alloc (.cells #[.slice none 0 0, .slice none 0 0] 33)) w2_.heap.size #[.slice none 0 0, .slice none 0 0] 33) := Lib.hid (Blk.new w2_ #[.slice none 0 0, .slice none 0 0] 33)
            have L3 := D2.out.size
            have t0_3 := (HX.out _ D3.out).1.cell 0
            have t1_3 := (HX.out _ D3.out).1.cell 1
            have t2_3 := (HX.out _ D3.out).2.1.cell 0
            have t3_3 := (HX.out _ D3.out).2.1.cell 1
            have t4_3 := (HX.out _ D3.out).2.1.cell 2
            have t5_3 := (HX.out _ D3.out).2.1.cell 3
            have t6_3 := (HX.out _ D3.out).2.1.cell 4
            simp at t0_3 t1_3 t2_3 t3_3 t4_3 t5_3 t6_3
            refine hK.out _ _ ⟨t0_3, t1_3, t2_3, t3_3, t4_3, t5_3, t6_3⟩ (fun hHeld => ?_)
            clear hK K
            refine norm_ (a' := ?_) ?_ ?_
            rotate_left
            · show Act.put _ (some 14) _ = _
              simp only [Act.put, List.setIfInBounds_toArray, List.set_cons_zero, List.set_cons_succ, i64_w, i32_w]
              rfl
            refine one_ (i := 4) (N := some 89) #[true, true, true, true, true, false, false, false, true, false, false] rfl rfl (by kernel_rfl) (by decide) (fun K hK => ?_)
            refine goes_ Tryz.func9 (by kernel_rfl) rfl #[.agg #[.slice AP p.slots.length kp, .slice BP p.vols.length lp], .agg #[.int .i64 o.kind, .string o.name, .string o.dest, .int .i64 o.n, .string o.text]] (by rfl) rfl rfl (by simp only [List.map_toArray, List.map_cons, List.map_nil]; rfl) ?_
            with_reducible refine (HOD.out _ AP BP kp lp (OwnP.inn P3.out)).mono ?_
            rintro e w4_ ⟨vc, vd, bvc, rfl, ho, X4⟩
            have D4 := Lib.hid (Bel.tr D3.out X4)
            have O4 := Lib.hid (Blk.bel O3.out X4)
            have Q4 : Hid (OwnP w4_ w15.drew.heap.size vc vd q bvc) := Lib.hid (ho.lower D3.out.size)
            obtain ⟨A2, A3, k2, k3, rfl, rfl, hpi⟩ := ho.reads
            clear ho hpi
            have t0_4 := (HX.out _ D4.out).1.cell 0
            have t1_4 := (HX.out _ D4.out).1.cell 1
            have t2_4 := (HX.out _ D4.out).2.1.cell 0
            have t3_4 := (HX.out _ D4.out).2.1.cell 1
            have t4_4 := (HX.out _ D4.out).2.1.cell 2
            have t5_4 := (HX.out _ D4.out).2.1.cell 3
            have t6_4 := (HX.out _ D4.out).2.1.cell 4
            simp at t0_4 t1_4 t2_4 t3_4 t4_4 t5_4 t6_4
            refine ⟨_, rfl, ?_⟩
            refine hK.out _ _ ⟨t0_4, t1_4, t2_4, t3_4, t4_4, t5_4, t6_4⟩ (fun hHeld => ?_)
            clear hK K
            refine norm_ (a' := ?_) ?_ ?_
            rotate_left
            · show Act.put _ (some 89) _ = _
              simp only [Act.put, List.setIfInBounds_toArray, List.set_cons_zero, List.set_cons_succ, i64_w, i32_w]
              rfl
            refine pure_ (i := 5) (N := some 84) (v := ?_) (a' := ?_) #[true, true, true, true, true, true, false, false, true, false, false] rfl rfl (by kernel_rfl) (fun _ _ _ h => h) (Or.inl ⟨by rfl, ?_⟩) ?_ ?_
            rotate_left
            · intro w'
              go_simp
              with_reducible rfl
            rotate_left
            · simp only [Act.put, List.setIfInBounds_toArray, List.set_cons_zero, List.set_cons_succ, i64_w, i32_w]
              rfl
            refine pure_ (i := 6) (N := some 90) (v := ?_) (a' := ?_) #[true, true, true, true, true, true, true, false, true, false, false] rfl rfl (by kernel_rfl) (fun _ _ _ h => h) (Or.inl ⟨by rfl, ?_⟩) ?_ ?_
            rotate_left
            · intro w'
              go_simp
              with_reducible rfl
            rotate_left
            · simp only [Act.put, List.setIfInBounds_toArray, List.set_cons_zero, List.set_cons_succ, i64_w, i32_w]
              rfl
            refine pure_ (i := 7) (N := some 91) (v := ?_) (a' := ?_) #[true, true, true, true, true, true, true, true, true, false, false] rfl rfl (by kernel_rfl) (fun _ _ _ h => h) (Or.inl ⟨by rfl, ?_⟩) ?_ ?_
            rotate_left
            · intro w'
              go_simp
              with_reducible rfl
            rotate_left
            · simp only [Act.put, List.setIfInBounds_toArray, List.set_cons_zero, List.set_cons_succ, i64_w, i32_w]
              rfl
            exact norm_ (by simp only [putAll, Act.put, List.setIfInBounds_toArray, List.set_cons_zero, List.set_cons_succ]) (hCont (.agg #[.slice AP p.slots.length kp, .slice BP p.vols.length lp], A2, k2, A3, k3, bvc, w2_.heap.size) _ ⟨hHeld, Q4.out, O4.out, L3, D4.out⟩)
        · skip
          refine value_ (w1 := ?_) (v := ?_) (by rfl) rfl ?_ ?_
          rotate_left 2
          · go_simp
            constructor
            · rfl
            · rfl
          have D2 : Hid (Bel w15.drew (w1_.alloc (.cells #[.slice none 0 0, .slice none 0 0] 33))) := Lib.hid (bel_alloc D1.out (.cells #[.slice none 0 0, .slice none 0 0] 33))
          have P2 := Lib.hid (OwnP.bel P1.out (bel_alloc (Below.refl _ _) (.cells #[.slice none 0 0, .slice none 0 0] 33)))
          have O2 : Hid (Blk (w1_.alloc (.cells #[.slice none 0 0, .slice none 0 0] 33)) w1_.heap.size #[.slice none 0 0, .slice none 0 0] 33) := Lib.hid (Blk.new w1_ #[.slice none 0 0, .slice none 0 0] 33)
          have L2 := D1.out.size
          have t0_2 := (HX.out _ D2.out).1.cell 0
          have t1_2 := (HX.out _ D2.out).1.cell 1
          have t2_2 := (HX.out _ D2.out).2.1.cell 0
          have t3_2 := (HX.out _ D2.out).2.1.cell 1
          have t4_2 := (HX.out _ D2.out).2.1.cell 2
          have t5_2 := (HX.out _ D2.out).2.1.cell 3
          have t6_2 := (HX.out _ D2.out).2.1.cell 4
          simp at t0_2 t1_2 t2_2 t3_2 t4_2 t5_2 t6_2
          refine hK.out _ _ ⟨t0_2, t1_2, t2_2, t3_2, t4_2, t5_2, t6_2⟩ (fun hHeld => ?_)
          clear hK K
          refine norm_ (a' := ?_) ?_ ?_
          rotate_left
          · show Act.put _ (some 14) _ = _
            simp only [Act.put, List.setIfInBounds_toArray, List.set_cons_zero, List.set_cons_succ, i64_w, i32_w]
            rfl
          refine one_ (i := 3) (N := some 88) #[true, true, true, true, false, false, false, false, true, false, false] rfl rfl (by kernel_rfl) (by decide) (fun K hK => ?_)
          refine goes_ Tryz.func8 (by kernel_rfl) rfl #[.agg #[.int .i64 o.kind, .string o.name, .string o.dest, .int .i64 o.n, .string o.text]] (by rfl) rfl rfl (by simp only [List.map_toArray, List.map_cons, List.map_nil]; rfl) ?_
          with_reducible refine (toOp_c o _).mono ?_
          rintro e w3_ ⟨rfl, X3⟩
          have D3 := Lib.hid (Bel.tr D2.out X3)
          have O3 := Lib.hid (Blk.bel O2.out X3)
          have P3 := Lib.hid (OwnP.bel P2.out X3)
          have t0_3 := (HX.out _ D3.out).1.cell 0
          have t1_3 := (HX.out _ D3.out).1.cell 1
          have t2_3 := (HX.out _ D3.out).2.1.cell 0
          have t3_3 := (HX.out _ D3.out).2.1.cell 1
          have t4_3 := (HX.out _ D3.out).2.1.cell 2
          have t5_3 := (HX.out _ D3.out).2.1.cell 3
          have t6_3 := (HX.out _ D3.out).2.1.cell 4
          simp at t0_3 t1_3 t2_3 t3_3 t4_3 t5_3 t6_3
          refine ⟨_, rfl, ?_⟩
          refine hK.out _ _ ⟨t0_3, t1_3, t2_3, t3_3, t4_3, t5_3, t6_3⟩ (fun hHeld => ?_)
          clear hK K
          refine norm_ (a' := ?_) ?_ ?_
          rotate_left
          · show Act.put _ (some 88) _ = _
            simp only [Act.put, List.setIfInBounds_toArray, List.set_cons_zero, List.set_cons_succ, i64_w, i32_w]
            rfl
          refine one_ (i := 4) (N := some 89) #[true, true, true, true, true, false, false, false, true, false, false] rfl rfl (by kernel_rfl) (by decide) (fun K hK => ?_)
          refine goes_ Tryz.func9 (by kernel_rfl) rfl #[.agg #[.slice AP p.slots.length kp, .slice BP p.vols.length lp], .agg #[.int .i64 o.kind, .string o.name, .string o.dest, .int .i64 o.n, .string o.text]] (by rfl) rfl rfl (by simp only [List.map_toArray, List.map_cons, List.map_nil]; rfl) ?_
          with_reducible refine (HOD.out _ AP BP kp lp (OwnP.inn P3.out)).mono ?_
          rintro e w4_ ⟨vc, vd, bvc, rfl, ho, X4⟩
          have D4 := Lib.hid (Bel.tr D3.out X4)
          have O4 := Lib.hid (Blk.bel O3.out X4)
          have Q4 : Hid (OwnP w4_ w15.drew.heap.size vc vd q bvc) := Lib.hid (ho.lower D3.out.size)
          obtain ⟨A2, A3, k2, k3, rfl, rfl, hpi⟩ := ho.reads
          clear ho hpi
          have t0_4 := (HX.out _ D4.out).1.cell 0
          have t1_4 := (HX.out _ D4.out).1.cell 1
          have t2_4 := (HX.out _ D4.out).2.1.cell 0
          have t3_4 := (HX.out _ D4.out).2.1.cell 1
          have t4_4 := (HX.out _ D4.out).2.1.cell 2
          have t5_4 := (HX.out _ D4.out).2.1.cell 3
          have t6_4 := (HX.out _ D4.out).2.1.cell 4
          simp at t0_4 t1_4 t2_4 t3_4 t4_4 t5_4 t6_4
          refine ⟨_, rfl, ?_⟩
          refine hK.out _ _ ⟨t0_4, t1_4, t2_4, t3_4, t4_4, t5_4, t6_4⟩ (fun hHeld => ?_)
          clear hK K
          refine norm_ (a' := ?_) ?_ ?_
          rotate_left
          · show Act.put _ (some 89) _ = _
            simp only [Act.put, List.setIfInBounds_toArray, List.set_cons_zero, List.set_cons_succ, i64_w, i32_w]
            rfl
          refine pure_ (i := 5) (N := some 84) (v := ?_) (a' := ?_) #[true, true, true, true, true, true, false, false, true, false, false] rfl rfl (by kernel_rfl) (fun _ _ _ h => h) (Or.inl ⟨by rfl, ?_⟩) ?_ ?_
          rotate_left
          · intro w'
            go_simp
            with_reducible rfl
          rotate_left
          · simp only [Act.put, List.setIfInBounds_toArray, List.set_cons_zero, List.set_cons_succ, i64_w, i32_w]
            rfl
          refine pure_ (i := 6) (N := some 90) (v := ?_) (a' := ?_) #[true, true, true, true, true, true, true, false, true, false, false] rfl rfl (by kernel_rfl) (fun _ _ _ h => h) (Or.inl ⟨by rfl, ?_⟩) ?_ ?_
          rotate_left
          · intro w'
            go_simp
            with_reducible rfl
          rotate_left
          · simp only [Act.put, List.setIfInBounds_toArray, List.set_cons_zero, List.set_cons_succ, i64_w, i32_w]
            rfl
          refine pure_ (i := 7) (N := some 91) (v := ?_) (a' := ?_) #[true, true, true, true, true, true, true, true, true, false, false] rfl rfl (by kernel_rfl) (fun _ _ _ h => h) (Or.inl ⟨by rfl, ?_⟩) ?_ ?_
          rotate_left
          · intro w'
            go_simp
            with_reducible rfl
          rotate_left
          · simp only [Act.put, List.setIfInBounds_toArray, List.set_cons_zero, List.set_cons_succ, i64_w, i32_w]
            rfl
          exact norm_ (by simp only [putAll, Act.put, List.setIfInBounds_toArray, List.set_cons_zero, List.set_cons_succ]) (hCont (.agg #[.slice AP p.slots.length kp, .slice BP p.vols.length lp], A2, k2, A3, k3, bvc, w1_.heap.size) _ ⟨hHeld, Q4.out, O4.out, L2, D4.out⟩)
      · skip
        refine value_ (w1 := ?_) (v := ?_) (by rfl) rfl ?_ ?_
        rotate_left 2
        · go_simp
          constructor
          · rfl
          · rfl
        have D1 : Hid (Bel w15.drew (w15.alloc (.cells #[.slice none 0 0, .slice none 0 0] 33)).drew) := Lib.hid (bel_alloc D0.out (.cells #[.slice none 0 0, .slice none 0 0] 33))
        have O1 : Hid (Blk (w15.alloc (.cells #[.slice none 0 0, .slice none 0 0] 33)).drew w15.heap.size #[.slice none 0 0, .slice none 0 0] 33) := Lib.hid (Blk.new w15 #[.slice none 0 0, .slice none 0 0] 33)
        have L1 := D0.out.size
        have t0_1 := (HX.out _ D1.out).1.cell 0
        have t1_1 := (HX.out _ D1.out).1.cell 1
        have t2_1 := (HX.out _ D1.out).2.1.cell 0
        have t3_1 := (HX.out _ D1.out).2.1.cell 1
        have t4_1 := (HX.out _ D1.out).2.1.cell 2
        have t5_1 := (HX.out _ D1.out).2.1.cell 3
        have t6_1 := (HX.out _ D1.out).2.1.cell 4
        simp at t0_1 t1_1 t2_1 t3_1 t4_1 t5_1 t6_1
        refine hK.out _ _ ⟨t0_1, t1_1, t2_1, t3_1, t4_1, t5_1, t6_1⟩ (fun hHeld => ?_)
        clear hK K
        refine norm_ (a' := ?_) ?_ ?_
        rotate_left
        · show Act.put _ (some 14) _ = _
          simp only [Act.put, List.setIfInBounds_toArray, List.set_cons_zero, List.set_cons_succ, i64_w, i32_w]
          rfl
        refine one_ (i := 1) (N := some 86) #[true, true, true, false, false, false, false, false, true, false, false] rfl rfl (by kernel_rfl) (by decide) (fun K hK => ?_)
        refine goes_ Tryz.func7 (by kernel_rfl) rfl #[.agg #[.slice A0 p.slots.length c0, .slice A1 p.vols.length c1]] (by rfl) rfl rfl (by simp only [List.map_toArray, List.map_cons, List.map_nil]; rfl) ?_
        with_reducible refine (HTP.out _ D1.out).mono ?_
        rintro e w2_ ⟨va, vb, bva, rfl, ho, X2⟩
        have D2 := Lib.hid (Bel.tr D1.out X2)
        have O2 := Lib.hid (Blk.bel O1.out X2)
        have P2 : Hid (OwnP w2_ w15.drew.heap.size va vb p bva) := Lib.hid (ho.lower D1.out.size)
        obtain ⟨AP, BP, kp, lp, rfl, rfl, hpi⟩ := ho.reads
        clear ho hpi
        have t0_2 := (HX.out _ D2.out).1.cell 0
        have t1_2 := (HX.out _ D2.out).1.cell 1
        have t2_2 := (HX.out _ D2.out).2.1.cell 0
        have t3_2 := (HX.out _ D2.out).2.1.cell 1
        have t4_2 := (HX.out _ D2.out).2.1.cell 2
        have t5_2 := (HX.out _ D2.out).2.1.cell 3
        have t6_2 := (HX.out _ D2.out).2.1.cell 4
        simp at t0_2 t1_2 t2_2 t3_2 t4_2 t5_2 t6_2
        refine ⟨_, rfl, ?_⟩
        refine hK.out _ _ ⟨t0_2, t1_2, t2_2, t3_2, t4_2, t5_2, t6_2⟩ (fun hHeld => ?_)
        clear hK K
        refine norm_ (a' := ?_) ?_ ?_
        rotate_left
        · show Act.put _ (some 86) _ = _
          simp only [Act.put, List.setIfInBounds_toArray, List.set_cons_zero, List.set_cons_succ, i64_w, i32_w]
          rfl
        refine one_ (i := 3) (N := some 88) #[true, true, true, true, false, false, false, false, true, false, false] rfl rfl (by kernel_rfl) (by decide) (fun K hK => ?_)
        refine goes_ Tryz.func8 (by kernel_rfl) rfl #[.agg #[.int .i64 o.kind, .string o.name, .string o.dest, .int .i64 o.n, .string o.text]] (by rfl) rfl rfl (by simp only [List.map_toArray, List.map_cons, List.map_nil]; rfl) ?_
        with_reducible refine (toOp_c o _).mono ?_
        rintro e w3_ ⟨rfl, X3⟩
        have D3 := Lib.hid (Bel.tr D2.out X3)
        have O3 := Lib.hid (Blk.bel O2.out X3)
        have P3 := Lib.hid (OwnP.bel P2.out X3)
        have t0_3 := (HX.out _ D3.out).1.cell 0
        have t1_3 := (HX.out _ D3.out).1.cell 1
        have t2_3 := (HX.out _ D3.out).2.1.cell 0
        have t3_3 := (HX.out _ D3.out).2.1.cell 1
        have t4_3 := (HX.out _ D3.out).2.1.cell 2
        have t5_3 := (HX.out _ D3.out).2.1.cell 3
        have t6_3 := (HX.out _ D3.out).2.1.cell 4
        simp at t0_3 t1_3 t2_3 t3_3 t4_3 t5_3 t6_3
        refine ⟨_, rfl, ?_⟩
        refine hK.out _ _ ⟨t0_3, t1_3, t2_3, t3_3, t4_3, t5_3, t6_3⟩ (fun hHeld => ?_)
        clear hK K
        refine norm_ (a' := ?_) ?_ ?_
        rotate_left
        · show Act.put _ (some 88) _ = _
          simp only [Act.put, List.setIfInBounds_toArray, List.set_cons_zero, List.set_cons_succ, i64_w, i32_w]
          rfl
        refine one_ (i := 4) (N := some 89) #[true, true, true, true, true, false, false, false, true, false, false] rfl rfl (by kernel_rfl) (by decide) (fun K hK => ?_)
        refine goes_ Tryz.func9 (by kernel_rfl) rfl #[.agg #[.slice AP p.slots.length kp, .slice BP p.vols.length lp], .agg #[.int .i64 o.kind, .string o.name, .string o.dest, .int .i64 o.n, .string o.text]] (by rfl) rfl rfl (by simp only [List.map_toArray, List.map_cons, List.map_nil]; rfl) ?_
        with_reducible refine (HOD.out _ AP BP kp lp (OwnP.inn P3.out)).mono ?_
        rintro e w4_ ⟨vc, vd, bvc, rfl, ho, X4⟩
        have D4 := Lib.hid (Bel.tr D3.out X4)
        have O4 := Lib.hid (Blk.bel O3.out X4)
        have Q4 : Hid (OwnP w4_ w15.drew.heap.size vc vd q bvc) := Lib.hid (ho.lower D3.out.size)
        obtain ⟨A2, A3, k2, k3, rfl, rfl, hpi⟩ := ho.reads
        clear ho hpi
        have t0_4 := (HX.out _ D4.out).1.cell 0
        have t1_4 := (HX.out _ D4.out).1.cell 1
        have t2_4 := (HX.out _ D4.out).2.1.cell 0
        have t3_4 := (HX.out _ D4.out).2.1.cell 1
        have t4_4 := (HX.out _ D4.out).2.1.cell 2
        have t5_4 := (HX.out _ D4.out).2.1.cell 3
        have t6_4 := (HX.out _ D4.out).2.1.cell 4
        simp at t0_4 t1_4 t2_4 t3_4 t4_4 t5_4 t6_4
        refine ⟨_, rfl, ?_⟩
        refine hK.out _ _ ⟨t0_4, t1_4, t2_4, t3_4, t4_4, t5_4, t6_4⟩ (fun hHeld => ?_)
        clear hK K
        refine norm_ (a' := ?_) ?_ ?_
        rotate_left
        · show Act.put _ (some 89) _ = _
          simp only [Act.put, List.setIfInBounds_toArray, List.set_cons_zero, List.set_cons_succ, i64_w, i32_w]
          rfl
        refine pure_ (i := 5) (N := some 84) (v := ?_) (a' := ?_) #[true, true, true, true, true, true, false, false, true, false, false] rfl rfl (by kernel_rfl) (fun _ _ _ h => h) (Or.inl ⟨by rfl, ?_⟩) ?_ ?_
        rotate_left
        · intro w'
          go_simp
          with_reducible rfl
        rotate_left
        · simp only [Act.put, List.setIfInBounds_toArray, List.set_cons_zero, List.set_cons_succ, i64_w, i32_w]
          rfl
        refine pure_ (i := 6) (N := some 90) (v := ?_) (a' := ?_) #[true, true, true, true, true, true, true, false, true, false, false] rfl rfl (by kernel_rfl) (fun _ _ _ h => h) (Or.inl ⟨by rfl, ?_⟩) ?_ ?_
        rotate_left
        · intro w'
          go_simp
          with_reducible rfl
        rotate_left
        · simp only [Act.put, List.setIfInBounds_toArray, List.set_cons_zero, List.set_cons_succ, i64_w, i32_w]
          rfl
        refine pure_ (i := 7) (N := some 91) (v := ?_) (a' := ?_) #[true, true, true, true, true, true, true, true, true, false, false] rfl rfl (by kernel_rfl) (fun _ _ _ h => h) (Or.inl ⟨by rfl, ?_⟩) ?_ ?_
        rotate_left
        · intro w'
          go_simp
          with_reducible rfl
        rotate_left
        · simp only [Act.put, List.setIfInBounds_toArray, List.set_cons_zero, List.set_cons_succ, i64_w, i32_w]
          rfl
        exact norm_ (by simp only [putAll, Act.put, List.setIfInBounds_toArray, List.set_cons_zero, List.set_cons_succ]) (hCont (.agg #[.slice AP p.slots.length kp, .slice BP p.vols.length lp], A2, k2, A3, k3, bvc, w15.heap.size) _ ⟨hHeld, Q4.out, O4.out, L1, D4.out⟩)
    rintro ⟨va_, A2, k2, A3, k3, bvc, nb⟩ w4_ ⟨hHeld, hQ, hO, hL, hD⟩
    dsimp only at hQ hO hL
    have r0 := hO.cell 0
    have r1 := hO.cell 1
    have f0 := hO.free 0
    have f1 := hO.free 1
    simp at r0 r1
    refine norm_ (a' := ?_) ?_ ?_
    rotate_left
    · simp only [putAll, Act.put, List.setIfInBounds_toArray, List.set_cons_zero, List.set_cons_succ]
      rfl
    refine last_ (i := 9) (N := none) #[true, true, true, true, true, true, true, true, true, true, false] rfl rfl (by kernel_rfl) (by decide) (fun K hK => ?_)
    refine skip_ (w1 := ?_) (by rfl) rfl ?_ ?_
    rotate_left
    · go_simp
      rfl
    refine hK.out _ _ ?_
    clear hK K
    refine pure_ (i := 10) (N := some 15) (v := ?_) (a' := ?_) #[true, true, true, true, true, true, true, true, true, true, true] rfl rfl (by kernel_rfl) (fun _ _ _ h => h) (Or.inl ⟨by rfl, ?_⟩) ?_ ?_
    rotate_left
    · intro w'
      go_simp
      with_reducible rfl
    rotate_left
    · simp only [Act.put, List.setIfInBounds_toArray, List.set_cons_zero, List.set_cons_succ, i64_w, i32_w]
      rfl
    refine done_ (by kernel_rfl) ?_
    have hO4 := hO.set 0 (.slice A2 q.slots.length k2) (cs' := #[.slice A2 q.slots.length k2, .slice none 0 0]) rfl
    have hO5 := hO4.set 1 (.slice A3 q.vols.length k3) (cs' := #[.slice A2 q.slots.length k2, .slice A3 q.vols.length k3]) rfl
    have hQ5 := (hQ.far hO (by decide) (by decide) (by decide) 0 (.slice A2 q.slots.length k2)).far hO4 (by decide) (by decide) (by decide) 1 (.slice A3 q.vols.length k3)
    have hb5 : Bel w15.drew ((w4_.setCell ⟨nb, 0, none⟩ (.slice A2 q.slots.length k2)).setCell ⟨nb, 1, none⟩ (.slice A3 q.vols.length k3)) := bel_set (bel_set hD hL 0 (.slice A2 q.slots.length k2)) hL 1 (.slice A3 q.vols.length k3)
    clear hQ hO hO4 hD f0 f1 r0 r1 hHeld D0 HX s0_ s1_ s2_ s3_ s4_ s5_ s6_
    generalize ((w4_.setCell ⟨nb, 0, none⟩ (.slice A2 q.slots.length k2)).setCell ⟨nb, 1, none⟩ (.slice A3 q.vols.length k3)) = W18 at hO5 hQ5 hb5 ⊢
    replace KB := Lib.hid (ZKB.out.bel hb5)
    replace KO := Lib.hid (ZKO.out.bel hb5)
    replace KP := Lib.hid (ZKP.out.bel hb5)
    replace K6 := Lib.hid (ZK6.out.bel hb5)
    replace KQ := Lib.hid (ZKQ.out.bel hb5)
    replace K8 := Lib.hid (ZK8.out.bel hb5)
    replace K9 := Lib.hid (ZK9.out.bel hb5)
    replace KG := Lib.hid (ZKG.out.bel hb5)
    replace KW := Lib.hid (ZKW.out.trans (Below.mono hb5 (Below.size ZKW.out)))
    replace KZ := Lib.hid (show w.heap.size + 1 < W18.heap.size from Nat.lt_of_lt_of_le KZ.out hb5.size)
    clear ZKW ZKB ZKO ZKP ZK6 ZKQ ZK8 ZK9 ZKG
    obtain ⟨AH, rfl⟩ : ∃ x, x = A2 := ⟨_, rfl⟩
    obtain ⟨BH, rfl⟩ : ∃ x, x = A3 := ⟨_, rfl⟩
    obtain ⟨cH, rfl⟩ : ∃ x, x = k2 := ⟨_, rfl⟩
    obtain ⟨dH, rfl⟩ : ∃ x, x = k3 := ⟨_, rfl⟩
    obtain ⟨b14, rfl⟩ : ∃ x, x = nb := ⟨_, rfl⟩
    have K14 := Lib.hid hO5
    have KH := Lib.hid (OwnP.at hQ5)
    clear hO5 hQ5 hb5 hL HTP HOD
    have q0 := K14.out.cell 0
    have q1 := K14.out.cell 1
    have y2 := K14.out.lt
    have q2 := K6.out.cell 0
    have q3 := K6.out.cell 1
    have y4 := K6.out.lt
    simp at q0 q1 q2 q3
    go_wp2_with fail
    clear q0 q1 y2 q2 q3 y4
    have hpiKH : PoolIn W18 AH BH cH dH q := by obtain ⟨B6, B7, d6, d7, e6, e7, h⟩ := KH.out.reads; have e6 := slice_eq e6; have e7 := slice_eq e7; obtain ⟨rfl, -, rfl⟩ := e6; obtain ⟨rfl, -, rfl⟩ := e7; exact h
    have hpiKQ : PoolIn W18 A4 A5 c4 c5 q := by obtain ⟨B6, B7, d6, d7, e6, e7, h⟩ := KQ.out.reads; have e6 := slice_eq e6; have e7 := slice_eq e7; obtain ⟨rfl, -, rfl⟩ := e6; obtain ⟨rfl, -, rfl⟩ := e7; exact h
    refine (eqPool_c hpiKH hpiKQ KQS.out).mono ?_
    rintro e w19 ⟨rfl, hb⟩
    clear hpiKH hpiKQ
    replace KB := Lib.hid (KB.out.bel hb)
    replace KO := Lib.hid (KO.out.bel hb)
    replace KP := Lib.hid (KP.out.bel hb)
    replace K6 := Lib.hid (K6.out.bel hb)
    replace KQ := Lib.hid (KQ.out.bel hb)
    replace K8 := Lib.hid (K8.out.bel hb)
    replace K9 := Lib.hid (K9.out.bel hb)
    replace KG := Lib.hid (KG.out.bel hb)
    replace K14 := Lib.hid (K14.out.bel hb)
    replace KH := Lib.hid (KH.out.bel hb)
    replace KW := Lib.hid (KW.out.trans (Below.mono hb (Below.size KW.out)))
    replace KZ := Lib.hid (show w.heap.size + 1 < w19.heap.size from Nat.lt_of_lt_of_le KZ.out hb.size)
    clear hb
    have q0 := K9.out.cell 0
    have q1 := K9.out.cell 1
    have y2 := K9.out.lt
    simp at q0 q1
    go_wp2_with fail
    clear q0 q1 y2
    have hpiG : PoolIn w19 A8 A9 c8 c9 qg := by obtain ⟨B6, B7, d6, d7, e6, e7, h⟩ := KG.out.reads; have e6 := slice_eq e6; have e7 := slice_eq e7; obtain ⟨rfl, -, rfl⟩ := e6; obtain ⟨rfl, -, rfl⟩ := e7; exact h
    have hheld := heldPool_c hpiG KGM.out.2.2 KGM.out.1 (by omega) (by omega)
    rw [KGM.out.2.1, KGL.out.1, KGL.out.2] at hheld
    refine hheld.mono ?_
    rintro e w20 ⟨rfl, hb⟩
    clear hpiG hheld
    replace KB := Lib.hid (KB.out.bel hb)
    replace KO := Lib.hid (KO.out.bel hb)
    replace KP := Lib.hid (KP.out.bel hb)
    replace K6 := Lib.hid (K6.out.bel hb)
    replace KQ := Lib.hid (KQ.out.bel hb)
    replace K8 := Lib.hid (K8.out.bel hb)
    replace K9 := Lib.hid (K9.out.bel hb)
    replace KG := Lib.hid (KG.out.bel hb)
    replace K14 := Lib.hid (K14.out.bel hb)
    replace KH := Lib.hid (KH.out.bel hb)
    replace KW := Lib.hid (KW.out.trans (Below.mono hb (Below.size KW.out)))
    replace KZ := Lib.hid (show w.heap.size + 1 < w20.heap.size from Nat.lt_of_lt_of_le KZ.out hb.size)
    clear hb
    go_wp2
    go_ret
    exact ⟨rfl, KW.out⟩
  · skip
    have q0 := K9.out.cell 0
    have q1 := K9.out.cell 1
    have y2 := K9.out.lt
    have q2 := K6.out.cell 0
    have q3 := K6.out.cell 1
    have y4 := K6.out.lt
    simp at q0 q1 q2 q3
    go_wp2_with fail
    clear q0 q1 y2 q2 q3 y4
    have hpiKG : PoolIn W8 A8 A9 c8 c9 q := by obtain ⟨B6, B7, d6, d7, e6, e7, h⟩ := KG.out.reads; have e6 := slice_eq e6; have e7 := slice_eq e7; obtain ⟨rfl, -, rfl⟩ := e6; obtain ⟨rfl, -, rfl⟩ := e7; exact h
    have hpiKQ : PoolIn W8 A4 A5 c4 c5 q := by obtain ⟨B6, B7, d6, d7, e6, e7, h⟩ := KQ.out.reads; have e6 := slice_eq e6; have e7 := slice_eq e7; obtain ⟨rfl, -, rfl⟩ := e6; obtain ⟨rfl, -, rfl⟩ := e7; exact h
    refine (eqPool_c hpiKG hpiKQ KQS.out).mono ?_
    rintro e w9 ⟨rfl, hb⟩
    clear hpiKG hpiKQ
    replace KB := Lib.hid (KB.out.bel hb)
    replace KO := Lib.hid (KO.out.bel hb)
    replace KP := Lib.hid (KP.out.bel hb)
    replace K6 := Lib.hid (K6.out.bel hb)
    replace KQ := Lib.hid (KQ.out.bel hb)
    replace KX := Lib.hid (KX.out.bel hb)
    replace K8 := Lib.hid (K8.out.bel hb)
    replace K9 := Lib.hid (K9.out.bel hb)
    replace KG := Lib.hid (KG.out.bel hb)
    replace KW := Lib.hid (KW.out.trans (Below.mono hb (Below.size KW.out)))
    replace KZ := Lib.hid (show w.heap.size + 1 < w9.heap.size from Nat.lt_of_lt_of_le KZ.out hb.size)
    clear hb
    have q0 := K8.out.cell 0
    have q1 := K8.out.cell 1
    have y2 := K8.out.lt
    have q2 := KB.out.cell 0
    have q3 := KB.out.cell 1
    have y4 := KB.out.lt
    simp at q0 q1 q2 q3
    go_wp2
    have hpiKX : PoolIn w9 A6 A7 c6 c7 p := by obtain ⟨B6, B7, d6, d7, e6, e7, h⟩ := KX.out.reads; have e6 := slice_eq e6; have e7 := slice_eq e7; obtain ⟨rfl, -, rfl⟩ := e6; obtain ⟨rfl, -, rfl⟩ := e7; exact h
    have KXI := Lib.hid hpiKX
    clear hpiKX
    have HT := Lib.hid (toPool_c (KP.out.bel (Below.refl _ _).drew) HS.out)
    refine start_ (n := 5) (S := fun w' => w'.cell? ⟨b8, 0, none⟩ = some (.slice A6 p.slots.length c6) ∧ w'.cell? ⟨b8, 1, none⟩ = some (.slice A7 p.vols.length c7) ∧ w'.cell? ⟨w.heap.size, 0, none⟩ = some (.slice A0 p.slots.length c0) ∧ w'.cell? ⟨w.heap.size, 1, none⟩ = some (.slice A1 p.vols.length c1)) (ds := []) #[false, false, false, false, false] (by kernel_rfl) rfl rfl ⟨q0, q1, q2, q3⟩ (fun hHeld => ?_)
    refine take_ (i := 0) (N := some 52) (v := ?_) (a' := ?_) #[true, false, false, false, false] rfl rfl (by kernel_rfl) (fun _ _ _ h => h) (Or.inl ⟨by rfl, ?_⟩) hHeld ?_ ?_
    rotate_left
    · rintro w' ⟨s0, s1, s2, s3⟩
      go_simp
      with_reducible rfl
    rotate_left
    · simp only [Act.put, List.setIfInBounds_toArray, List.set_cons_zero, List.set_cons_succ, i64_w, i32_w]
      rfl
    refine take_ (i := 1) (N := some 53) (v := ?_) (a' := ?_) #[true, true, false, false, false] rfl rfl (by kernel_rfl) (fun _ _ _ h => h) (Or.inl ⟨by rfl, ?_⟩) hHeld ?_ ?_
    rotate_left
    · rintro w' ⟨s0, s1, s2, s3⟩
      go_simp
      with_reducible rfl
    rotate_left
    · simp only [Act.put, List.setIfInBounds_toArray, List.set_cons_zero, List.set_cons_succ, i64_w, i32_w]
      rfl
    refine one_ (i := 2) (N := some 54) #[true, true, true, false, false] rfl rfl (by kernel_rfl) (by decide) (fun K hK => ?_)
    refine goes_ Tryz.func7 (by kernel_rfl) rfl #[.agg #[.slice A0 p.slots.length c0, .slice A1 p.vols.length c1]] (by rfl) rfl rfl (by simp only [List.map_toArray, List.map_cons, List.map_nil]; rfl) ?_
    with_reducible refine (HT.out).mono ?_
    rintro e w10 ⟨v10, v11, bvsT, rfl, hoT, hbT⟩
    obtain ⟨AT, AU, cT, cU, rfl, rfl, hpiT⟩ := hoT.reads
    have KT := Lib.hid hpiT
    clear hpiT hoT
    have hbT' : Bel w9 w10 := Bel.tr (b := w9.drew) (Below.refl _ _).drew hbT
    have u0 := (K8.out.bel hbT').cell 0
    have u1 := (K8.out.bel hbT').cell 1
    have u2 := (KB.out.bel hbT').cell 0
    have u3 := (KB.out.bel hbT').cell 1
    simp at u0 u1 u2 u3
    clear hbT
    refine ⟨_, rfl, ?_⟩
    refine hK.out _ _ ⟨u0, u1, u2, u3⟩ (fun hHeld => ?_)
    clear hK K
    refine norm_ (a' := ?_) ?_ ?_
    rotate_left
    · show Act.put _ (some 54) _ = _
      simp only [Act.put, List.setIfInBounds_toArray, List.set_cons_zero, List.set_cons_succ, i64_w, i32_w]
      rfl
    refine one_ (i := 3) (N := some 55) #[true, true, true, true, false] rfl rfl (by kernel_rfl) (by decide) (fun K hK => ?_)
    refine goes_ Tryz.func10 (by kernel_rfl) rfl #[.agg #[.slice A6 p.slots.length c6, .slice A7 p.vols.length c7], .agg #[.slice AT p.slots.length cT, .slice AU p.vols.length cU]] (by rfl) rfl rfl (by simp only [List.map_toArray, List.map_cons, List.map_nil]; rfl) ?_
    with_reducible refine (eqPool_c (KXI.out.bel hbT') KT.out HS.out).mono ?_
    rintro e w11 ⟨rfl, hbE⟩
    have u4 := (K8.out.bel (hbT'.tr hbE)).cell 0
    have u5 := (K8.out.bel (hbT'.tr hbE)).cell 1
    have u6 := (KB.out.bel (hbT'.tr hbE)).cell 0
    have u7 := (KB.out.bel (hbT'.tr hbE)).cell 1
    simp at u4 u5 u6 u7
    refine ⟨_, rfl, ?_⟩
    refine hK.out _ _ ⟨u4, u5, u6, u7⟩ (fun hHeld => ?_)
    clear hK K
    refine norm_ (a' := ?_) ?_ ?_
    rotate_left
    · show Act.put _ (some 55) _ = _
      simp only [Act.put, List.setIfInBounds_toArray, List.set_cons_zero, List.set_cons_succ, i64_w, i32_w]
      rfl
    refine pure_ (i := 4) (N := some 56) (v := ?_) (a' := ?_) #[true, true, true, true, true] rfl rfl (by kernel_rfl) (fun _ _ _ h => h) (Or.inl ⟨by rfl, ?_⟩) ?_ ?_
    rotate_left
    · intro w'
      go_simp
      with_reducible rfl
    rotate_left
    · simp only [Act.put, List.setIfInBounds_toArray, List.set_cons_zero, List.set_cons_succ, i64_w, i32_w]
      rfl
    refine done_ (by kernel_rfl) ?_
    have hb : Bel w9 w11 := hbT'.tr hbE
    clear u0 u1 u2 u3 u4 u5 u6 u7 hHeld q0 q1 y2 q2 q3 y4 hbT' hbE KXI HT
    replace KB := Lib.hid (KB.out.bel hb)
    replace KO := Lib.hid (KO.out.bel hb)
    replace KP := Lib.hid (KP.out.bel hb)
    replace K6 := Lib.hid (K6.out.bel hb)
    replace KQ := Lib.hid (KQ.out.bel hb)
    replace KX := Lib.hid (KX.out.bel hb)
    replace K8 := Lib.hid (K8.out.bel hb)
    replace K9 := Lib.hid (K9.out.bel hb)
    replace KG := Lib.hid (KG.out.bel hb)
    replace KW := Lib.hid (KW.out.trans (Below.mono hb (Below.size KW.out)))
    replace KZ := Lib.hid (show w.heap.size + 1 < w11.heap.size from Nat.lt_of_lt_of_le KZ.out hb.size)
    clear hb
    have q0 := K8.out.cell 0
    have q1 := K8.out.cell 1
    have y2 := K8.out.lt
    simp at q0 q1
    go_wp2_with fail
    clear q0 q1 y2
    have HOX := Lib.hid KX.out.own
    refine (markB_c KX.out HS.out (by omega) (by omega)).mono ?_
    rintro e w12 ⟨rfl, ⟨px, hx1, hx2, hx3, hx4, hx5, hx6⟩, hwi, hon⟩
    have z6 := K6Z.out
    have z8 := K8Z.out
    have z9 := K9Z.out
    have zx := KXZ.out
    have zg := KGZ.out
    have zl := HL8.out
    have z8d : W6.drew.heap.size = W6.heap.size := rfl
    have zw : w.heap.size + 1 < w2.drew.heap.size := KZ2.out
    replace KB := Lib.hid (KB.out.only hon (HOX.out.notIn KB.out (by decide) (by decide) (by decide)))
    replace KO := Lib.hid (KO.out.only hon (HOX.out.notIn KO.out (by decide) (by decide) (by decide)))
    replace KP := Lib.hid (HP.out.bel (KW.out.trans (Within.below hwi (Below.size KW.out) (by omega))))
    replace K6 := Lib.hid (K6.out.only hon (HOX.out.notIn K6.out (by decide) (by decide) (by decide)))
    replace KQ := Lib.hid (KQ.out.within hwi (by omega))
    replace K8 := Lib.hid (K8.out.only hon (HOX.out.notIn K8.out (by decide) (by decide) (by decide)))
    replace K9 := Lib.hid (K9.out.only hon (HOX.out.notIn K9.out (by decide) (by decide) (by decide)))
    replace KG := Lib.hid (KG.out.within hwi (by omega))
    replace KW := Lib.hid (KW.out.trans (Within.below hwi (Below.size KW.out) (by omega)))
    replace KZ := Lib.hid (show w.heap.size + 1 < w12.heap.size from Nat.lt_of_lt_of_le KZ.out (Within.size hwi))
    clear KX hx1 hx2 hx3 hx4 hx5 hx6 hwi hon HOX
    clear z6 z8 z9 zx zg zl z8d zw
    have KN := Lib.hid (nxP_bd HS.out (k := 1) (by omega) (by omega))
    have hneg : ¬ (nxP 1 p < 0) := by have := KN.out; omega
    have q0 := K9.out.cell 0
    have q1 := K9.out.cell 1
    have y2 := K9.out.lt
    have q2 := K6.out.cell 0
    have q3 := K6.out.cell 1
    have y4 := K6.out.lt
    simp at q0 q1 q2 q3
    go_wp2_with fail
    clear q0 q1 y2 q2 q3 y4
    have hpiKG : PoolIn w12 A8 A9 c8 c9 q := by obtain ⟨B6, B7, d6, d7, e6, e7, h⟩ := KG.out.reads; have e6 := slice_eq e6; have e7 := slice_eq e7; obtain ⟨rfl, -, rfl⟩ := e6; obtain ⟨rfl, -, rfl⟩ := e7; exact h
    have hpiKQ : PoolIn w12 A4 A5 c4 c5 q := by obtain ⟨B6, B7, d6, d7, e6, e7, h⟩ := KQ.out.reads; have e6 := slice_eq e6; have e7 := slice_eq e7; obtain ⟨rfl, -, rfl⟩ := e6; obtain ⟨rfl, -, rfl⟩ := e7; exact h
    refine (eqPool_c hpiKG hpiKQ KQS.out).mono ?_
    rintro e w13 ⟨rfl, hb⟩
    clear hpiKG hpiKQ
    replace KB := Lib.hid (KB.out.bel hb)
    replace KO := Lib.hid (KO.out.bel hb)
    replace KP := Lib.hid (KP.out.bel hb)
    replace K6 := Lib.hid (K6.out.bel hb)
    replace KQ := Lib.hid (KQ.out.bel hb)
    replace K8 := Lib.hid (K8.out.bel hb)
    replace K9 := Lib.hid (K9.out.bel hb)
    replace KG := Lib.hid (KG.out.bel hb)
    replace KW := Lib.hid (KW.out.trans (Below.mono hb (Below.size KW.out)))
    replace KZ := Lib.hid (show w.heap.size + 1 < w13.heap.size from Nat.lt_of_lt_of_le KZ.out hb.size)
    clear hb
    have q0 := K9.out.cell 0
    have q1 := K9.out.cell 1
    have y2 := K9.out.lt
    simp at q0 q1
    go_wp2_with fail
    clear q0 q1 y2
    have HOG := Lib.hid KG.out.own
    refine (markB_c KG.out KQS.out (by omega) (by omega)).mono ?_
    rintro e w14 ⟨rfl, ⟨qg, hg1, hg2, hg2v, hg3, hg4, hg5⟩, hwi, hon⟩
    have z6 := K6Z.out
    have z8 := K8Z.out
    have z9 := K9Z.out
    have zx := KXZ.out
    have zg := KGZ.out
    have zl := HL8.out
    have z8d : W6.drew.heap.size = W6.heap.size := rfl
    have zw : w.heap.size + 1 < w2.drew.heap.size := KZ2.out
    replace KB := Lib.hid (KB.out.only hon (HOG.out.notIn KB.out (by decide) (by decide) (by decide)))
    replace KO := Lib.hid (KO.out.only hon (HOG.out.notIn KO.out (by decide) (by decide) (by decide)))
    replace KP := Lib.hid (HP.out.bel (KW.out.trans (Within.below hwi (Below.size KW.out) (by omega))))
    replace K6 := Lib.hid (K6.out.only hon (HOG.out.notIn K6.out (by decide) (by decide) (by decide)))
    replace KQ := Lib.hid (KQ.out.within hwi (by omega))
    replace K8 := Lib.hid (K8.out.only hon (HOG.out.notIn K8.out (by decide) (by decide) (by decide)))
    replace K9 := Lib.hid (K9.out.only hon (HOG.out.notIn K9.out (by decide) (by decide) (by decide)))
    replace KW := Lib.hid (KW.out.trans (Within.below hwi (Below.size KW.out) (by omega)))
    replace KZ := Lib.hid (show w.heap.size + 1 < w14.heap.size from Nat.lt_of_lt_of_le KZ.out (Within.size hwi))
    replace KG := Lib.hid hg5
    have KGM := Lib.hid (And.intro hg1 (And.intro hg3 hg4))
    have KGL := Lib.hid (And.intro hg2 hg2v)
    clear hg1 hg2 hg2v hg3 hg4 hg5 hwi hon HOG hneg KN
    clear z6 z8 z9 zx zg zl z8d zw
    have KN := Lib.hid (nxP_bd KQS.out (k := 1) (by omega) (by omega))
    have hneg : ¬ (nxP 1 q < 0) := by have := KN.out; omega
    have q0 := K9.out.cell 0
    have q1 := K9.out.cell 1
    have y2 := K9.out.lt
    simp at q0 q1
    go_wp2_with fail
    clear q0 q1 y2
    have hpiG : PoolIn w14 A8 A9 c8 c9 qg := by obtain ⟨B6, B7, d6, d7, e6, e7, h⟩ := KG.out.reads; have e6 := slice_eq e6; have e7 := slice_eq e7; obtain ⟨rfl, -, rfl⟩ := e6; obtain ⟨rfl, -, rfl⟩ := e7; exact h
    have hheld := heldPool_c hpiG KGM.out.2.2 KGM.out.1 (by omega) (by omega)
    rw [KGM.out.2.1, KGL.out.1, KGL.out.2] at hheld
    refine hheld.mono ?_
    rintro e w15 ⟨rfl, hb⟩
    clear hpiG hheld
    replace KB := Lib.hid (KB.out.bel hb)
    replace KO := Lib.hid (KO.out.bel hb)
    replace KP := Lib.hid (KP.out.bel hb)
    replace K6 := Lib.hid (K6.out.bel hb)
    replace KQ := Lib.hid (KQ.out.bel hb)
    replace K8 := Lib.hid (K8.out.bel hb)
    replace K9 := Lib.hid (K9.out.bel hb)
    replace KG := Lib.hid (KG.out.bel hb)
    replace KW := Lib.hid (KW.out.trans (Below.mono hb (Below.size KW.out)))
    replace KZ := Lib.hid (show w.heap.size + 1 < w15.heap.size from Nat.lt_of_lt_of_le KZ.out hb.size)
    clear hb
    have q0 := KB.out.cell 0
    have q1 := KB.out.cell 1
    have y2 := KB.out.lt
    have q2 := KO.out.cell 0
    have q3 := KO.out.cell 1
    have q4 := KO.out.cell 2
    have q5 := KO.out.cell 3
    have q6 := KO.out.cell 4
    have y7 := KO.out.lt
    simp at q0 q1 q2 q3 q4 q5 q6
    go_wp2
    clear q0 q1 y2 q2 q3 q4 q5 q6 y7
    have HTP := Lib.hid (fun (W : World) (hb : Bel w15.drew W) => toPool_c ((KP.out.bel (Below.refl _ _).drew).bel hb) HS.out)
    have HOD := Lib.hid (fun (W : World) (A B : Option Addr) (c d : Nat) (h : PoolIn W A B c d p) => (by have := implOpDo_c (o := o) h HS.out HSO.out; rw [HQE.out.1, HQE.out.2] at this; exact this : Calls Tryz.prog 9 #[.agg #[.slice A p.slots.length c, .slice B p.vols.length d], .agg #[.int .i64 o.kind, .string o.name, .string o.dest, .int .i64 o.n, .string o.text]] W (MadePB W q true)))
    have ZKB := Lib.hid (KB.out.bel (Below.refl _ _).drew)
    have ZKO := Lib.hid (KO.out.bel (Below.refl _ _).drew)
    have ZKP := Lib.hid (KP.out.bel (Below.refl _ _).drew)
    have ZK6 := Lib.hid (K6.out.bel (Below.refl _ _).drew)
    have ZKQ := Lib.hid (KQ.out.bel (Below.refl _ _).drew)
    have ZK8 := Lib.hid (K8.out.bel (Below.refl _ _).drew)
    have ZK9 := Lib.hid (K9.out.bel (Below.refl _ _).drew)
    have ZKG := Lib.hid (KG.out.bel (Below.refl _ _).drew)
    have ZKW := Lib.hid (KW.out.trans (Below.mono (Below.refl _ _).drew (Below.size KW.out)))
    have D0 := Lib.hid (show Bel w15.drew w15.drew from Below.refl _ _)
    have HX := Lib.hid (fun (W : World) (hb : Bel w15.drew W) => And.intro (ZKB.out.bel hb) (And.intro (ZKO.out.bel hb) trivial))
    have s0_ := ZKB.out.cell 0
    have s1_ := ZKB.out.cell 1
    have s2_ := ZKO.out.cell 0
    have s3_ := ZKO.out.cell 1
    have s4_ := ZKO.out.cell 2
    have s5_ := ZKO.out.cell 3
    have s6_ := ZKO.out.cell 4
    simp at s0_ s1_ s2_ s3_ s4_ s5_ s6_
    refine start_ (n := 11) (S := fun w' => w'.cell? ⟨w.heap.size, 0, none⟩ = some (.slice A0 p.slots.length c0) ∧ w'.cell? ⟨w.heap.size, 1, none⟩ = some (.slice A1 p.vols.length c1) ∧ w'.cell? ⟨w.heap.size + 1, 0, none⟩ = some (.int .i64 o.kind) ∧ w'.cell? ⟨w.heap.size + 1, 1, none⟩ = some (.string o.name) ∧ w'.cell? ⟨w.heap.size + 1, 2, none⟩ = some (.string o.dest) ∧ w'.cell? ⟨w.heap.size + 1, 3, none⟩ = some (.int .i64 o.n) ∧ w'.cell? ⟨w.heap.size + 1, 4, none⟩ = some (.string o.text)) (ds := [9]) #[false, false, false, false, false, false, false, false, false, false, false] (by kernel_rfl) rfl rfl ⟨s0_, s1_, s2_, s3_, s4_, s5_, s6_⟩ (fun hHeld => ?_)
    refine take_ (i := 0) (N := some 85) (v := ?_) (a' := ?_) #[true, false, false, false, false, false, false, false, false, false, false] rfl rfl (by kernel_rfl) (fun _ _ _ h => h) (Or.inl ⟨by rfl, ?_⟩) hHeld ?_ ?_
    rotate_left
    · rintro w' ⟨s0, s1, s2, s3, s4, s5, s6⟩
      go_simp
      with_reducible rfl
    rotate_left
    · simp only [Act.put, List.setIfInBounds_toArray, List.set_cons_zero, List.set_cons_succ, i64_w, i32_w]
      rfl
    refine take_ (i := 2) (N := some 87) (v := ?_) (a' := ?_) #[true, false, true, false, false, false, false, false, false, false, false] rfl rfl (by kernel_rfl) (fun _ _ _ h => h) (Or.inl ⟨by rfl, ?_⟩) hHeld ?_ ?_
    rotate_left
    · rintro w' ⟨s0, s1, s2, s3, s4, s5, s6⟩
      go_simp
      with_reducible rfl
    rotate_left
    · simp only [Act.put, List.setIfInBounds_toArray, List.set_cons_zero, List.set_cons_succ, i64_w, i32_w]
      rfl
    refine join_ (σ := Value × Option Addr × Nat × Option Addr × Nat × List Value × Nat) 2 #[true, true, true, true, true, true, true, true, true, false, false] (fun s => [(86, s.1), (88, .agg #[.int .i64 o.kind, .string o.name, .string o.dest, .int .i64 o.n, .string o.text]), (89, .tuple #[.agg #[.slice s.2.1 q.slots.length s.2.2.1, .slice s.2.2.2.1 q.vols.length s.2.2.2.2.1], .bool true]), (84, .tuple #[.agg #[.slice s.2.1 q.slots.length s.2.2.1, .slice s.2.2.2.1 q.vols.length s.2.2.2.2.1], .bool true]), (90, .agg #[.slice s.2.1 q.slots.length s.2.2.1, .slice s.2.2.2.1 q.vols.length s.2.2.2.2.1]), (91, .bool true), (14, .pointer (some ⟨s.2.2.2.2.2.2, 0, none⟩))]) (fun s w' => (w'.cell? ⟨w.heap.size, 0, none⟩ = some (.slice A0 p.slots.length c0) ∧ w'.cell? ⟨w.heap.size, 1, none⟩ = some (.slice A1 p.vols.length c1) ∧ w'.cell? ⟨w.heap.size + 1, 0, none⟩ = some (.int .i64 o.kind) ∧ w'.cell? ⟨w.heap.size + 1, 1, none⟩ = some (.string o.name) ∧ w'.cell? ⟨w.heap.size + 1, 2, none⟩ = some (.string o.dest) ∧ w'.cell? ⟨w.heap.size + 1, 3, none⟩ = some (.int .i64 o.n) ∧ w'.cell? ⟨w.heap.size + 1, 4, none⟩ = some (.string o.text)) ∧ OwnP w' w15.drew.heap.size (.slice s.2.1 q.slots.length s.2.2.1) (.slice s.2.2.2.1 q.vols.length s.2.2.2.2.1) q s.2.2.2.2.2.1 ∧ Blk w' s.2.2.2.2.2.2 #[.slice none 0 0, .slice none 0 0] 33 ∧ w15.drew.heap.size ≤ s.2.2.2.2.2.2 ∧ Bel w15.drew w') ?_ ?_
    rotate_left
    · intro hCont
      refine two_ (i := 1) (j := 8) (Ni := some 86) (Nj := some 14) #[true, true, true, false, false, false, false, false, false, false, false] #[true, false, true, false, false, false, false, false, true, false, false] rfl rfl rfl rfl (by kernel_rfl) (by decide) (by decide) (fun K hK => ?_) (fun K hK => ?_)
      · skip
        refine goes_ Tryz.func7 (by kernel_rfl) rfl #[.agg #[.slice A0 p.slots.length c0, .slice A1 p.vols.length c1]] (by rfl) rfl rfl (by simp only [List.map_toArray, List.map_cons, List.map_nil]; rfl) ?_
        with_reducible refine (HTP.out _ D0.out).mono ?_
        rintro e w1_ ⟨va, vb, bva, rfl, ho, X1⟩
        have D1 := Lib.hid (Bel.tr D0.out X1)
        have P1 : Hid (OwnP w1_ w15.drew.heap.size va vb p bva) := Lib.hid (ho.lower D0.out.size)
        obtain ⟨AP, BP, kp, lp, rfl, rfl, hpi⟩ := ho.reads
        clear ho hpi
        have t0_1 := (HX.out _ D1.out).1.cell 0
        have t1_1 := (HX.out _ D1.out).1.cell 1
        have t2_1 := (HX.out _ D1.out).2.1.cell 0
        have t3_1 := (HX.out _ D1.out).2.1.cell 1
        have t4_1 := (HX.out _ D1.out).2.1.cell 2
        have t5_1 := (HX.out _ D1.out).2.1.cell 3
        have t6_1 := (HX.out _ D1.out).2.1.cell 4
        simp at t0_1 t1_1 t2_1 t3_1 t4_1 t5_1 t6_1
        refine ⟨_, rfl, ?_⟩
        refine hK.out _ _ ⟨t0_1, t1_1, t2_1, t3_1, t4_1, t5_1, t6_1⟩ (fun hHeld => ?_)
        clear hK K
        refine norm_ (a' := ?_) ?_ ?_
        rotate_left
        · show Act.put _ (some 86) _ = _
          simp only [Act.put, List.setIfInBounds_toArray, List.set_cons_zero, List.set_cons_succ, i64_w, i32_w]
          rfl
        refine two_ (i := 3) (j := 8) (Ni := some 88) (Nj := some 14) #[true, true, true, true, false, false, false, false, false, false, false] #[true, true, true, false, false, false, false, false, true, false, false] rfl rfl rfl rfl (by kernel_rfl) (by decide) (by decide) (fun K hK => ?_) (fun K hK => ?_)
        · skip
          refine goes_ Tryz.func8 (by kernel_rfl) rfl #[.agg #[.int .i64 o.kind, .string o.name, .string o.dest, .int .i64 o.n, .string o.text]] (by rfl) rfl rfl (by simp only [List.map_toArray, List.map_cons, List.map_nil]; rfl) ?_
          with_reducible refine (toOp_c o _).mono ?_
          rintro e w2_ ⟨rfl, X2⟩
          have D2 := Lib.hid (Bel.tr D1.out X2)
          have P2 := Lib.hid (OwnP.bel P1.out X2)
          have t0_2 := (HX.out _ D2.out).1.cell 0
          have t1_2 := (HX.out _ D2.out).1.cell 1
          have t2_2 := (HX.out _ D2.out).2.1.cell 0
          have t3_2 := (HX.out _ D2.out).2.1.cell 1
          have t4_2 := (HX.out _ D2.out).2.1.cell 2
          have t5_2 := (HX.out _ D2.out).2.1.cell 3
          have t6_2 := (HX.out _ D2.out).2.1.cell 4
          simp at t0_2 t1_2 t2_2 t3_2 t4_2 t5_2 t6_2
          refine ⟨_, rfl, ?_⟩
          refine hK.out _ _ ⟨t0_2, t1_2, t2_2, t3_2, t4_2, t5_2, t6_2⟩ (fun hHeld => ?_)
          clear hK K
          refine norm_ (a' := ?_) ?_ ?_
          rotate_left
          · show Act.put _ (some 88) _ = _
            simp only [Act.put, List.setIfInBounds_toArray, List.set_cons_zero, List.set_cons_succ, i64_w, i32_w]
            rfl
          refine two_ (i := 4) (j := 8) (Ni := some 89) (Nj := some 14) #[true, true, true, true, true, false, false, false, false, false, false] #[true, true, true, true, false, false, false, false, true, false, false] rfl rfl rfl rfl (by kernel_rfl) (by decide) (by decide) (fun K hK => ?_) (fun K hK => ?_)
          · skip
            refine goes_ Tryz.func9 (by kernel_rfl) rfl #[.agg #[.slice AP p.slots.length kp, .slice BP p.vols.length lp], .agg #[.int .i64 o.kind, .string o.name, .string o.dest, .int .i64 o.n, .string o.text]] (by rfl) rfl rfl (by simp only [List.map_toArray, List.map_cons, List.map_nil]; rfl) ?_
            with_reducible refine (HOD.out _ AP BP kp lp (OwnP.inn P2.out)).mono ?_
            rintro e w3_ ⟨vc, vd, bvc, rfl, ho, X3⟩
            have D3 := Lib.hid (Bel.tr D2.out X3)
            have Q3 : Hid (OwnP w3_ w15.drew.heap.size vc vd q bvc) := Lib.hid (ho.lower D2.out.size)
            obtain ⟨A2, A3, k2, k3, rfl, rfl, hpi⟩ := ho.reads
            clear ho hpi
            have t0_3 := (HX.out _ D3.out).1.cell 0
            have t1_3 := (HX.out _ D3.out).1.cell 1
            have t2_3 := (HX.out _ D3.out).2.1.cell 0
            have t3_3 := (HX.out _ D3.out).2.1.cell 1
            have t4_3 := (HX.out _ D3.out).2.1.cell 2
            have t5_3 := (HX.out _ D3.out).2.1.cell 3
            have t6_3 := (HX.out _ D3.out).2.1.cell 4
            simp at t0_3 t1_3 t2_3 t3_3 t4_3 t5_3 t6_3
            refine ⟨_, rfl, ?_⟩
            refine hK.out _ _ ⟨t0_3, t1_3, t2_3, t3_3, t4_3, t5_3, t6_3⟩ (fun hHeld => ?_)
            clear hK K
            refine norm_ (a' := ?_) ?_ ?_
            rotate_left
            · show Act.put _ (some 89) _ = _
              simp only [Act.put, List.setIfInBounds_toArray, List.set_cons_zero, List.set_cons_succ, i64_w, i32_w]
              rfl
            refine pure_ (i := 5) (N := some 84) (v := ?_) (a' := ?_) #[true, true, true, true, true, true, false, false, false, false, false] rfl rfl (by kernel_rfl) (fun _ _ _ h => h) (Or.inl ⟨by rfl, ?_⟩) ?_ ?_
            rotate_left
            · intro w'
              go_simp
              with_reducible rfl
            rotate_left
            · simp only [Act.put, List.setIfInBounds_toArray, List.set_cons_zero, List.set_cons_succ, i64_w, i32_w]
              rfl
            refine pure_ (i := 6) (N := some 90) (v := ?_) (a' := ?_) #[true, true, true, true, true, true, true, false, false, false, false] rfl rfl (by kernel_rfl) (fun _ _ _ h => h) (Or.inl ⟨by rfl, ?_⟩) ?_ ?_
            rotate_left
            · intro w'
              go_simp
              with_reducible rfl
            rotate_left
            · simp only [Act.put, List.setIfInBounds_toArray, List.set_cons_zero, List.set_cons_succ, i64_w, i32_w]
              rfl
            refine pure_ (i := 7) (N := some 91) (v := ?_) (a' := ?_) #[true, true, true, true, true, true, true, true, false, false, false] rfl rfl (by kernel_rfl) (fun _ _ _ h => h) (Or.inl ⟨by rfl, ?_⟩) ?_ ?_
            rotate_left
            · intro w'
              go_simp
              with_reducible rfl
            rotate_left
            · simp only [Act.put, List.setIfInBounds_toArray, List.set_cons_zero, List.set_cons_succ, i64_w, i32_w]
              rfl
            refine one_ (i := 8) (N := some 14) #[true, true, true, true, true, true, true, true, true, false, false] rfl rfl (by kernel_rfl) (by decide) (fun K hK => ?_)
            refine value_ (w1 := ?_) (v := ?_) (by rfl) rfl ?_ ?_
            rotate_left 2
            · go_simp
              constructor
              · rfl
              · rfl
            have D4 : Hid (Bel w15.drew (w3_.alloc (.cells #[.slice none 0 0, .slice none 0 0] 33))) := Lib.hid (bel_alloc D3.out (.cells #[.slice none 0 0, .slice none 0 0] 33))
            have Q4 := Lib.hid (OwnP.bel Q3.out (bel_alloc (Below.refl _ _) (.cells #[.slice none 0 0, .slice none 0 0] 33)))
            have O4 : Hid (Blk (w3_.alloc (.cells #[.slice none 0 0, .slice none 0 0] 33)) w3_.heap.size #[.slice none 0 0, .slice none 0 0] 33) := Lib.hid (Blk.new w3_ #[.slice none 0 0, .slice none 0 0] 33)
            have L4 := D3.out.size
            have t0_4 := (HX.out _ D4.out).1.cell 0
            have t1_4 := (HX.out _ D4.out).1.cell 1
            have t2_4 := (HX.out _ D4.out).2.1.cell 0
            have t3_4 := (HX.out _ D4.out).2.1.cell 1
            have t4_4 := (HX.out _ D4.out).2.1.cell 2
            have t5_4 := (HX.out _ D4.out).2.1.cell 3
            have t6_4 := (HX.out _ D4.out).2.1.cell 4
            simp at t0_4 t1_4 t2_4 t3_4 t4_4 t5_4 t6_4
            refine hK.out _ _ ⟨t0_4, t1_4, t2_4, t3_4, t4_4, t5_4, t6_4⟩ (fun hHeld => ?_)
            clear hK K
            refine norm_ (a' := ?_) ?_ ?_
            rotate_left
            · show Act.put _ (some 14) _ = _
              simp only [Act.put, List.setIfInBounds_toArray, List.set_cons_zero, List.set_cons_succ, i64_w, i32_w]
              rfl
            exact norm_ (by simp only [putAll, Act.put, List.setIfInBounds_toArray, List.set_cons_zero, List.set_cons_succ]) (hCont (.agg #[.slice AP p.slots.length kp, .slice BP p.vols.length lp], A2, k2, A3, k3, bvc, w3_.heap.size) _ ⟨hHeld, Q4.out, O4.out, L4, D4.out⟩)
          · skip
            refine value_ (w1 := ?_) (v := ?_) (by rfl) rfl ?_ ?_
            rotate_left 2
            · go_simp
              constructor
              · rfl
              · rfl
            have D3 : Hid (Bel w15.drew (w2_.alloc (.cells #[.slice none 0 0, .slice none 0 0] 33))) := Lib.hid (bel_alloc D2.out (.cells #[.slice none 0 0, .slice none 0 0] 33))
            have P3 := Lib.hid (OwnP.bel P2.out (bel_alloc (Below.refl _ _) (.cells #[.slice none 0 0, .slice none 0 0] 33)))
            have O3 : Hid (Blk (w2_.alloc (.cells #[.slice none 0 0, .slice none 0 0] 33)) w2_.heap.size #[.slice none 0 0, .slice none 0 0] 33) := Lib.hid (Blk.new w2_ #[.slice none 0 0, .slice none 0 0] 33)
            have L3 := D2.out.size
            have t0_3 := (HX.out _ D3.out).1.cell 0
            have t1_3 := (HX.out _ D3.out).1.cell 1
            have t2_3 := (HX.out _ D3.out).2.1.cell 0
            have t3_3 := (HX.out _ D3.out).2.1.cell 1
            have t4_3 := (HX.out _ D3.out).2.1.cell 2
            have t5_3 := (HX.out _ D3.out).2.1.cell 3
            have t6_3 := (HX.out _ D3.out).2.1.cell 4
            simp at t0_3 t1_3 t2_3 t3_3 t4_3 t5_3 t6_3
            refine hK.out _ _ ⟨t0_3, t1_3, t2_3, t3_3, t4_3, t5_3, t6_3⟩ (fun hHeld => ?_)
            clear hK K
            refine norm_ (a' := ?_) ?_ ?_
            rotate_left
            · show Act.put _ (some 14) _ = _
              simp only [Act.put, List.setIfInBounds_toArray, List.set_cons_zero, List.set_cons_succ, i64_w, i32_w]
              rfl
            refine one_ (i := 4) (N := some 89) #[true, true, true, true, true, false, false, false, true, false, false] rfl rfl (by kernel_rfl) (by decide) (fun K hK => ?_)
            refine goes_ Tryz.func9 (by kernel_rfl) rfl #[.agg #[.slice AP p.slots.length kp, .slice BP p.vols.length lp], .agg #[.int .i64 o.kind, .string o.name, .string o.dest, .int .i64 o.n, .string o.text]] (by rfl) rfl rfl (by simp only [List.map_toArray, List.map_cons, List.map_nil]; rfl) ?_
            with_reducible refine (HOD.out _ AP BP kp lp (OwnP.inn P3.out)).mono ?_
            rintro e w4_ ⟨vc, vd, bvc, rfl, ho, X4⟩
            have D4 := Lib.hid (Bel.tr D3.out X4)
            have O4 := Lib.hid (Blk.bel O3.out X4)
            have Q4 : Hid (OwnP w4_ w15.drew.heap.size vc vd q bvc) := Lib.hid (ho.lower D3.out.size)
            obtain ⟨A2, A3, k2, k3, rfl, rfl, hpi⟩ := ho.reads
            clear ho hpi
            have t0_4 := (HX.out _ D4.out).1.cell 0
            have t1_4 := (HX.out _ D4.out).1.cell 1
            have t2_4 := (HX.out _ D4.out).2.1.cell 0
            have t3_4 := (HX.out _ D4.out).2.1.cell 1
            have t4_4 := (HX.out _ D4.out).2.1.cell 2
            have t5_4 := (HX.out _ D4.out).2.1.cell 3
            have t6_4 := (HX.out _ D4.out).2.1.cell 4
            simp at t0_4 t1_4 t2_4 t3_4 t4_4 t5_4 t6_4
            refine ⟨_, rfl, ?_⟩
            refine hK.out _ _ ⟨t0_4, t1_4, t2_4, t3_4, t4_4, t5_4, t6_4⟩ (fun hHeld => ?_)
            clear hK K
            refine norm_ (a' := ?_) ?_ ?_
            rotate_left
            · show Act.put _ (some 89) _ = _
              simp only [Act.put, List.setIfInBounds_toArray, List.set_cons_zero, List.set_cons_succ, i64_w, i32_w]
              rfl
            refine pure_ (i := 5) (N := some 84) (v := ?_) (a' := ?_) #[true, true, true, true, true, true, false, false, true, false, false] rfl rfl (by kernel_rfl) (fun _ _ _ h => h) (Or.inl ⟨by rfl, ?_⟩) ?_ ?_
            rotate_left
            · intro w'
              go_simp
              with_reducible rfl
            rotate_left
            · simp only [Act.put, List.setIfInBounds_toArray, List.set_cons_zero, List.set_cons_succ, i64_w, i32_w]
              rfl
            refine pure_ (i := 6) (N := some 90) (v := ?_) (a' := ?_) #[true, true, true, true, true, true, true, false, true, false, false] rfl rfl (by kernel_rfl) (fun _ _ _ h => h) (Or.inl ⟨by rfl, ?_⟩) ?_ ?_
            rotate_left
            · intro w'
              go_simp
              with_reducible rfl
            rotate_left
            · simp only [Act.put, List.setIfInBounds_toArray, List.set_cons_zero, List.set_cons_succ, i64_w, i32_w]
              rfl
            refine pure_ (i := 7) (N := some 91) (v := ?_) (a' := ?_) #[true, true, true, true, true, true, true, true, true, false, false] rfl rfl (by kernel_rfl) (fun _ _ _ h => h) (Or.inl ⟨by rfl, ?_⟩) ?_ ?_
            rotate_left
            · intro w'
              go_simp
              with_reducible rfl
            rotate_left
            · simp only [Act.put, List.setIfInBounds_toArray, List.set_cons_zero, List.set_cons_succ, i64_w, i32_w]
              rfl
            exact norm_ (by simp only [putAll, Act.put, List.setIfInBounds_toArray, List.set_cons_zero, List.set_cons_succ]) (hCont (.agg #[.slice AP p.slots.length kp, .slice BP p.vols.length lp], A2, k2, A3, k3, bvc, w2_.heap.size) _ ⟨hHeld, Q4.out, O4.out, L3, D4.out⟩)
        · skip
          refine value_ (w1 := ?_) (v := ?_) (by rfl) rfl ?_ ?_
          rotate_left 2
          · go_simp
            constructor
            · rfl
            · rfl
          have D2 : Hid (Bel w15.drew (w1_.alloc (.cells #[.slice none 0 0, .slice none 0 0] 33))) := Lib.hid (bel_alloc D1.out (.cells #[.slice none 0 0, .slice none 0 0] 33))
          have P2 := Lib.hid (OwnP.bel P1.out (bel_alloc (Below.refl _ _) (.cells #[.slice none 0 0, .slice none 0 0] 33)))
          have O2 : Hid (Blk (w1_.alloc (.cells #[.slice none 0 0, .slice none 0 0] 33)) w1_.heap.size #[.slice none 0 0, .slice none 0 0] 33) := Lib.hid (Blk.new w1_ #[.slice none 0 0, .slice none 0 0] 33)
          have L2 := D1.out.size
          have t0_2 := (HX.out _ D2.out).1.cell 0
          have t1_2 := (HX.out _ D2.out).1.cell 1
          have t2_2 := (HX.out _ D2.out).2.1.cell 0
          have t3_2 := (HX.out _ D2.out).2.1.cell 1
          have t4_2 := (HX.out _ D2.out).2.1.cell 2
          have t5_2 := (HX.out _ D2.out).2.1.cell 3
          have t6_2 := (HX.out _ D2.out).2.1.cell 4
          simp at t0_2 t1_2 t2_2 t3_2 t4_2 t5_2 t6_2
          refine hK.out _ _ ⟨t0_2, t1_2, t2_2, t3_2, t4_2, t5_2, t6_2⟩ (fun hHeld => ?_)
          clear hK K
          refine norm_ (a' := ?_) ?_ ?_
          rotate_left
          · show Act.put _ (some 14) _ = _
            simp only [Act.put, List.setIfInBounds_toArray, List.set_cons_zero, List.set_cons_succ, i64_w, i32_w]
            rfl
          refine one_ (i := 3) (N := some 88) #[true, true, true, true, false, false, false, false, true, false, false] rfl rfl (by kernel_rfl) (by decide) (fun K hK => ?_)
          refine goes_ Tryz.func8 (by kernel_rfl) rfl #[.agg #[.int .i64 o.kind, .string o.name, .string o.dest, .int .i64 o.n, .string o.text]] (by rfl) rfl rfl (by simp only [List.map_toArray, List.map_cons, List.map_nil]; rfl) ?_
          with_reducible refine (toOp_c o _).mono ?_
          rintro e w3_ ⟨rfl, X3⟩
          have D3 := Lib.hid (Bel.tr D2.out X3)
          have O3 := Lib.hid (Blk.bel O2.out X3)
          have P3 := Lib.hid (OwnP.bel P2.out X3)
          have t0_3 := (HX.out _ D3.out).1.cell 0
          have t1_3 := (HX.out _ D3.out).1.cell 1
          have t2_3 := (HX.out _ D3.out).2.1.cell 0
          have t3_3 := (HX.out _ D3.out).2.1.cell 1
          have t4_3 := (HX.out _ D3.out).2.1.cell 2
          have t5_3 := (HX.out _ D3.out).2.1.cell 3
          have t6_3 := (HX.out _ D3.out).2.1.cell 4
          simp at t0_3 t1_3 t2_3 t3_3 t4_3 t5_3 t6_3
          refine ⟨_, rfl, ?_⟩
          refine hK.out _ _ ⟨t0_3, t1_3, t2_3, t3_3, t4_3, t5_3, t6_3⟩ (fun hHeld => ?_)
          clear hK K
          refine norm_ (a' := ?_) ?_ ?_
          rotate_left
          · show Act.put _ (some 88) _ = _
            simp only [Act.put, List.setIfInBounds_toArray, List.set_cons_zero, List.set_cons_succ, i64_w, i32_w]
            rfl
          refine one_ (i := 4) (N := some 89) #[true, true, true, true, true, false, false, false, true, false, false] rfl rfl (by kernel_rfl) (by decide) (fun K hK => ?_)
          refine goes_ Tryz.func9 (by kernel_rfl) rfl #[.agg #[.slice AP p.slots.length kp, .slice BP p.vols.length lp], .agg #[.int .i64 o.kind, .string o.name, .string o.dest, .int .i64 o.n, .string o.text]] (by rfl) rfl rfl (by simp only [List.map_toArray, List.map_cons, List.map_nil]; rfl) ?_
          with_reducible refine (HOD.out _ AP BP kp lp (OwnP.inn P3.out)).mono ?_
          rintro e w4_ ⟨vc, vd, bvc, rfl, ho, X4⟩
          have D4 := Lib.hid (Bel.tr D3.out X4)
          have O4 := Lib.hid (Blk.bel O3.out X4)
          have Q4 : Hid (OwnP w4_ w15.drew.heap.size vc vd q bvc) := Lib.hid (ho.lower D3.out.size)
          obtain ⟨A2, A3, k2, k3, rfl, rfl, hpi⟩ := ho.reads
          clear ho hpi
          have t0_4 := (HX.out _ D4.out).1.cell 0
          have t1_4 := (HX.out _ D4.out).1.cell 1
          have t2_4 := (HX.out _ D4.out).2.1.cell 0
          have t3_4 := (HX.out _ D4.out).2.1.cell 1
          have t4_4 := (HX.out _ D4.out).2.1.cell 2
          have t5_4 := (HX.out _ D4.out).2.1.cell 3
          have t6_4 := (HX.out _ D4.out).2.1.cell 4
          simp at t0_4 t1_4 t2_4 t3_4 t4_4 t5_4 t6_4
          refine ⟨_, rfl, ?_⟩
          refine hK.out _ _ ⟨t0_4, t1_4, t2_4, t3_4, t4_4, t5_4, t6_4⟩ (fun hHeld => ?_)
          clear hK K
          refine norm_ (a' := ?_) ?_ ?_
          rotate_left
          · show Act.put _ (some 89) _ = _
            simp only [Act.put, List.setIfInBounds_toArray, List.set_cons_zero, List.set_cons_succ, i64_w, i32_w]
            rfl
          refine pure_ (i := 5) (N := some 84) (v := ?_) (a' := ?_) #[true, true, true, true, true, true, false, false, true, false, false] rfl rfl (by kernel_rfl) (fun _ _ _ h => h) (Or.inl ⟨by rfl, ?_⟩) ?_ ?_
          rotate_left
          · intro w'
            go_simp
            with_reducible rfl
          rotate_left
          · simp only [Act.put, List.setIfInBounds_toArray, List.set_cons_zero, List.set_cons_succ, i64_w, i32_w]
            rfl
          refine pure_ (i := 6) (N := some 90) (v := ?_) (a' := ?_) #[true, true, true, true, true, true, true, false, true, false, false] rfl rfl (by kernel_rfl) (fun _ _ _ h => h) (Or.inl ⟨by rfl, ?_⟩) ?_ ?_
          rotate_left
          · intro w'
            go_simp
            with_reducible rfl
          rotate_left
          · simp only [Act.put, List.setIfInBounds_toArray, List.set_cons_zero, List.set_cons_succ, i64_w, i32_w]
            rfl
          refine pure_ (i := 7) (N := some 91) (v := ?_) (a' := ?_) #[true, true, true, true, true, true, true, true, true, false, false] rfl rfl (by kernel_rfl) (fun _ _ _ h => h) (Or.inl ⟨by rfl, ?_⟩) ?_ ?_
          rotate_left
          · intro w'
            go_simp
            with_reducible rfl
          rotate_left
          · simp only [Act.put, List.setIfInBounds_toArray, List.set_cons_zero, List.set_cons_succ, i64_w, i32_w]
            rfl
          exact norm_ (by simp only [putAll, Act.put, List.setIfInBounds_toArray, List.set_cons_zero, List.set_cons_succ]) (hCont (.agg #[.slice AP p.slots.length kp, .slice BP p.vols.length lp], A2, k2, A3, k3, bvc, w1_.heap.size) _ ⟨hHeld, Q4.out, O4.out, L2, D4.out⟩)
      · skip
        refine value_ (w1 := ?_) (v := ?_) (by rfl) rfl ?_ ?_
        rotate_left 2
        · go_simp
          constructor
          · rfl
          · rfl
        have D1 : Hid (Bel w15.drew (w15.alloc (.cells #[.slice none 0 0, .slice none 0 0] 33)).drew) := Lib.hid (bel_alloc D0.out (.cells #[.slice none 0 0, .slice none 0 0] 33))
        have O1 : Hid (Blk (w15.alloc (.cells #[.slice none 0 0, .slice none 0 0] 33)).drew w15.heap.size #[.slice none 0 0, .slice none 0 0] 33) := Lib.hid (Blk.new w15 #[.slice none 0 0, .slice none 0 0] 33)
        have L1 := D0.out.size
        have t0_1 := (HX.out _ D1.out).1.cell 0
        have t1_1 := (HX.out _ D1.out).1.cell 1
        have t2_1 := (HX.out _ D1.out).2.1.cell 0
        have t3_1 := (HX.out _ D1.out).2.1.cell 1
        have t4_1 := (HX.out _ D1.out).2.1.cell 2
        have t5_1 := (HX.out _ D1.out).2.1.cell 3
        have t6_1 := (HX.out _ D1.out).2.1.cell 4
        simp at t0_1 t1_1 t2_1 t3_1 t4_1 t5_1 t6_1
        refine hK.out _ _ ⟨t0_1, t1_1, t2_1, t3_1, t4_1, t5_1, t6_1⟩ (fun hHeld => ?_)
        clear hK K
        refine norm_ (a' := ?_) ?_ ?_
        rotate_left
        · show Act.put _ (some 14) _ = _
          simp only [Act.put, List.setIfInBounds_toArray, List.set_cons_zero, List.set_cons_succ, i64_w, i32_w]
          rfl
        refine one_ (i := 1) (N := some 86) #[true, true, true, false, false, false, false, false, true, false, false] rfl rfl (by kernel_rfl) (by decide) (fun K hK => ?_)
        refine goes_ Tryz.func7 (by kernel_rfl) rfl #[.agg #[.slice A0 p.slots.length c0, .slice A1 p.vols.length c1]] (by rfl) rfl rfl (by simp only [List.map_toArray, List.map_cons, List.map_nil]; rfl) ?_
        with_reducible refine (HTP.out _ D1.out).mono ?_
        rintro e w2_ ⟨va, vb, bva, rfl, ho, X2⟩
        have D2 := Lib.hid (Bel.tr D1.out X2)
        have O2 := Lib.hid (Blk.bel O1.out X2)
        have P2 : Hid (OwnP w2_ w15.drew.heap.size va vb p bva) := Lib.hid (ho.lower D1.out.size)
        obtain ⟨AP, BP, kp, lp, rfl, rfl, hpi⟩ := ho.reads
        clear ho hpi
        have t0_2 := (HX.out _ D2.out).1.cell 0
        have t1_2 := (HX.out _ D2.out).1.cell 1
        have t2_2 := (HX.out _ D2.out).2.1.cell 0
        have t3_2 := (HX.out _ D2.out).2.1.cell 1
        have t4_2 := (HX.out _ D2.out).2.1.cell 2
        have t5_2 := (HX.out _ D2.out).2.1.cell 3
        have t6_2 := (HX.out _ D2.out).2.1.cell 4
        simp at t0_2 t1_2 t2_2 t3_2 t4_2 t5_2 t6_2
        refine ⟨_, rfl, ?_⟩
        refine hK.out _ _ ⟨t0_2, t1_2, t2_2, t3_2, t4_2, t5_2, t6_2⟩ (fun hHeld => ?_)
        clear hK K
        refine norm_ (a' := ?_) ?_ ?_
        rotate_left
        · show Act.put _ (some 86) _ = _
          simp only [Act.put, List.setIfInBounds_toArray, List.set_cons_zero, List.set_cons_succ, i64_w, i32_w]
          rfl
        refine one_ (i := 3) (N := some 88) #[true, true, true, true, false, false, false, false, true, false, false] rfl rfl (by kernel_rfl) (by decide) (fun K hK => ?_)
        refine goes_ Tryz.func8 (by kernel_rfl) rfl #[.agg #[.int .i64 o.kind, .string o.name, .string o.dest, .int .i64 o.n, .string o.text]] (by rfl) rfl rfl (by simp only [List.map_toArray, List.map_cons, List.map_nil]; rfl) ?_
        with_reducible refine (toOp_c o _).mono ?_
        rintro e w3_ ⟨rfl, X3⟩
        have D3 := Lib.hid (Bel.tr D2.out X3)
        have O3 := Lib.hid (Blk.bel O2.out X3)
        have P3 := Lib.hid (OwnP.bel P2.out X3)
        have t0_3 := (HX.out _ D3.out).1.cell 0
        have t1_3 := (HX.out _ D3.out).1.cell 1
        have t2_3 := (HX.out _ D3.out).2.1.cell 0
        have t3_3 := (HX.out _ D3.out).2.1.cell 1
        have t4_3 := (HX.out _ D3.out).2.1.cell 2
        have t5_3 := (HX.out _ D3.out).2.1.cell 3
        have t6_3 := (HX.out _ D3.out).2.1.cell 4
        simp at t0_3 t1_3 t2_3 t3_3 t4_3 t5_3 t6_3
        refine ⟨_, rfl, ?_⟩
        refine hK.out _ _ ⟨t0_3, t1_3, t2_3, t3_3, t4_3, t5_3, t6_3⟩ (fun hHeld => ?_)
        clear hK K
        refine norm_ (a' := ?_) ?_ ?_
        rotate_left
        · show Act.put _ (some 88) _ = _
          simp only [Act.put, List.setIfInBounds_toArray, List.set_cons_zero, List.set_cons_succ, i64_w, i32_w]
          rfl
        refine one_ (i := 4) (N := some 89) #[true, true, true, true, true, false, false, false, true, false, false] rfl rfl (by kernel_rfl) (by decide) (fun K hK => ?_)
        refine goes_ Tryz.func9 (by kernel_rfl) rfl #[.agg #[.slice AP p.slots.length kp, .slice BP p.vols.length lp], .agg #[.int .i64 o.kind, .string o.name, .string o.dest, .int .i64 o.n, .string o.text]] (by rfl) rfl rfl (by simp only [List.map_toArray, List.map_cons, List.map_nil]; rfl) ?_
        with_reducible refine (HOD.out _ AP BP kp lp (OwnP.inn P3.out)).mono ?_
        rintro e w4_ ⟨vc, vd, bvc, rfl, ho, X4⟩
        have D4 := Lib.hid (Bel.tr D3.out X4)
        have O4 := Lib.hid (Blk.bel O3.out X4)
        have Q4 : Hid (OwnP w4_ w15.drew.heap.size vc vd q bvc) := Lib.hid (ho.lower D3.out.size)
        obtain ⟨A2, A3, k2, k3, rfl, rfl, hpi⟩ := ho.reads
        clear ho hpi
        have t0_4 := (HX.out _ D4.out).1.cell 0
        have t1_4 := (HX.out _ D4.out).1.cell 1
        have t2_4 := (HX.out _ D4.out).2.1.cell 0
        have t3_4 := (HX.out _ D4.out).2.1.cell 1
        have t4_4 := (HX.out _ D4.out).2.1.cell 2
        have t5_4 := (HX.out _ D4.out).2.1.cell 3
        have t6_4 := (HX.out _ D4.out).2.1.cell 4
        simp at t0_4 t1_4 t2_4 t3_4 t4_4 t5_4 t6_4
        refine ⟨_, rfl, ?_⟩
        refine hK.out _ _ ⟨t0_4, t1_4, t2_4, t3_4, t4_4, t5_4, t6_4⟩ (fun hHeld => ?_)
        clear hK K
        refine norm_ (a' := ?_) ?_ ?_
        rotate_left
        · show Act.put _ (some 89) _ = _
          simp only [Act.put, List.setIfInBounds_toArray, List.set_cons_zero, List.set_cons_succ, i64_w, i32_w]
          rfl
        refine pure_ (i := 5) (N := some 84) (v := ?_) (a' := ?_) #[true, true, true, true, true, true, false, false, true, false, false] rfl rfl (by kernel_rfl) (fun _ _ _ h => h) (Or.inl ⟨by rfl, ?_⟩) ?_ ?_
        rotate_left
        · intro w'
          go_simp
          with_reducible rfl
        rotate_left
        · simp only [Act.put, List.setIfInBounds_toArray, List.set_cons_zero, List.set_cons_succ, i64_w, i32_w]
          rfl
        refine pure_ (i := 6) (N := some 90) (v := ?_) (a' := ?_) #[true, true, true, true, true, true, true, false, true, false, false] rfl rfl (by kernel_rfl) (fun _ _ _ h => h) (Or.inl ⟨by rfl, ?_⟩) ?_ ?_
        rotate_left
        · intro w'
          go_simp
          with_reducible rfl
        rotate_left
        · simp only [Act.put, List.setIfInBounds_toArray, List.set_cons_zero, List.set_cons_succ, i64_w, i32_w]
          rfl
        refine pure_ (i := 7) (N := some 91) (v := ?_) (a' := ?_) #[true, true, true, true, true, true, true, true, true, false, false] rfl rfl (by kernel_rfl) (fun _ _ _ h => h) (Or.inl ⟨by rfl, ?_⟩) ?_ ?_
        rotate_left
        · intro w'
          go_simp
          with_reducible rfl
        rotate_left
        · simp only [Act.put, List.setIfInBounds_toArray, List.set_cons_zero, List.set_cons_succ, i64_w, i32_w]
          rfl
        exact norm_ (by simp only [putAll, Act.put, List.setIfInBounds_toArray, List.set_cons_zero, List.set_cons_succ]) (hCont (.agg #[.slice AP p.slots.length kp, .slice BP p.vols.length lp], A2, k2, A3, k3, bvc, w15.heap.size) _ ⟨hHeld, Q4.out, O4.out, L1, D4.out⟩)
    rintro ⟨va_, A2, k2, A3, k3, bvc, nb⟩ w4_ ⟨hHeld, hQ, hO, hL, hD⟩
    dsimp only at hQ hO hL
    have r0 := hO.cell 0
    have r1 := hO.cell 1
    have f0 := hO.free 0
    have f1 := hO.free 1
    simp at r0 r1
    refine norm_ (a' := ?_) ?_ ?_
    rotate_left
    · simp only [putAll, Act.put, List.setIfInBounds_toArray, List.set_cons_zero, List.set_cons_succ]
      rfl
    refine last_ (i := 9) (N := none) #[true, true, true, true, true, true, true, true, true, true, false] rfl rfl (by kernel_rfl) (by decide) (fun K hK => ?_)
    refine skip_ (w1 := ?_) (by rfl) rfl ?_ ?_
    rotate_left
    · go_simp
      rfl
    refine hK.out _ _ ?_
    clear hK K
    refine pure_ (i := 10) (N := some 15) (v := ?_) (a' := ?_) #[true, true, true, true, true, true, true, true, true, true, true] rfl rfl (by kernel_rfl) (fun _ _ _ h => h) (Or.inl ⟨by rfl, ?_⟩) ?_ ?_
    rotate_left
    · intro w'
      go_simp
      with_reducible rfl
    rotate_left
    · simp only [Act.put, List.setIfInBounds_toArray, List.set_cons_zero, List.set_cons_succ, i64_w, i32_w]
      rfl
    refine done_ (by kernel_rfl) ?_
    have hO4 := hO.set 0 (.slice A2 q.slots.length k2) (cs' := #[.slice A2 q.slots.length k2, .slice none 0 0]) rfl
    have hO5 := hO4.set 1 (.slice A3 q.vols.length k3) (cs' := #[.slice A2 q.slots.length k2, .slice A3 q.vols.length k3]) rfl
    have hQ5 := (hQ.far hO (by decide) (by decide) (by decide) 0 (.slice A2 q.slots.length k2)).far hO4 (by decide) (by decide) (by decide) 1 (.slice A3 q.vols.length k3)
    have hb5 : Bel w15.drew ((w4_.setCell ⟨nb, 0, none⟩ (.slice A2 q.slots.length k2)).setCell ⟨nb, 1, none⟩ (.slice A3 q.vols.length k3)) := bel_set (bel_set hD hL 0 (.slice A2 q.slots.length k2)) hL 1 (.slice A3 q.vols.length k3)
    clear hQ hO hO4 hD f0 f1 r0 r1 hHeld D0 HX s0_ s1_ s2_ s3_ s4_ s5_ s6_
    generalize ((w4_.setCell ⟨nb, 0, none⟩ (.slice A2 q.slots.length k2)).setCell ⟨nb, 1, none⟩ (.slice A3 q.vols.length k3)) = W18 at hO5 hQ5 hb5 ⊢
    replace KB := Lib.hid (ZKB.out.bel hb5)
    replace KO := Lib.hid (ZKO.out.bel hb5)
    replace KP := Lib.hid (ZKP.out.bel hb5)
    replace K6 := Lib.hid (ZK6.out.bel hb5)
    replace KQ := Lib.hid (ZKQ.out.bel hb5)
    replace K8 := Lib.hid (ZK8.out.bel hb5)
    replace K9 := Lib.hid (ZK9.out.bel hb5)
    replace KG := Lib.hid (ZKG.out.bel hb5)
    replace KW := Lib.hid (ZKW.out.trans (Below.mono hb5 (Below.size ZKW.out)))
    replace KZ := Lib.hid (show w.heap.size + 1 < W18.heap.size from Nat.lt_of_lt_of_le KZ.out hb5.size)
    clear ZKW ZKB ZKO ZKP ZK6 ZKQ ZK8 ZK9 ZKG
    obtain ⟨AH, rfl⟩ : ∃ x, x = A2 := ⟨_, rfl⟩
    obtain ⟨BH, rfl⟩ : ∃ x, x = A3 := ⟨_, rfl⟩
    obtain ⟨cH, rfl⟩ : ∃ x, x = k2 := ⟨_, rfl⟩
    obtain ⟨dH, rfl⟩ : ∃ x, x = k3 := ⟨_, rfl⟩
    obtain ⟨b14, rfl⟩ : ∃ x, x = nb := ⟨_, rfl⟩
    have K14 := Lib.hid hO5
    have KH := Lib.hid (OwnP.at hQ5)
    clear hO5 hQ5 hb5 hL HTP HOD
    have q0 := K14.out.cell 0
    have q1 := K14.out.cell 1
    have y2 := K14.out.lt
    have q2 := K6.out.cell 0
    have q3 := K6.out.cell 1
    have y4 := K6.out.lt
    simp at q0 q1 q2 q3
    go_wp2_with fail
    clear q0 q1 y2 q2 q3 y4
    have hpiKH : PoolIn W18 AH BH cH dH q := by obtain ⟨B6, B7, d6, d7, e6, e7, h⟩ := KH.out.reads; have e6 := slice_eq e6; have e7 := slice_eq e7; obtain ⟨rfl, -, rfl⟩ := e6; obtain ⟨rfl, -, rfl⟩ := e7; exact h
    have hpiKQ : PoolIn W18 A4 A5 c4 c5 q := by obtain ⟨B6, B7, d6, d7, e6, e7, h⟩ := KQ.out.reads; have e6 := slice_eq e6; have e7 := slice_eq e7; obtain ⟨rfl, -, rfl⟩ := e6; obtain ⟨rfl, -, rfl⟩ := e7; exact h
    refine (eqPool_c hpiKH hpiKQ KQS.out).mono ?_
    rintro e w19 ⟨rfl, hb⟩
    clear hpiKH hpiKQ
    replace KB := Lib.hid (KB.out.bel hb)
    replace KO := Lib.hid (KO.out.bel hb)
    replace KP := Lib.hid (KP.out.bel hb)
    replace K6 := Lib.hid (K6.out.bel hb)
    replace KQ := Lib.hid (KQ.out.bel hb)
    replace K8 := Lib.hid (K8.out.bel hb)
    replace K9 := Lib.hid (K9.out.bel hb)
    replace KG := Lib.hid (KG.out.bel hb)
    replace K14 := Lib.hid (K14.out.bel hb)
    replace KH := Lib.hid (KH.out.bel hb)
    replace KW := Lib.hid (KW.out.trans (Below.mono hb (Below.size KW.out)))
    replace KZ := Lib.hid (show w.heap.size + 1 < w19.heap.size from Nat.lt_of_lt_of_le KZ.out hb.size)
    clear hb
    have q0 := K9.out.cell 0
    have q1 := K9.out.cell 1
    have y2 := K9.out.lt
    simp at q0 q1
    go_wp2_with fail
    clear q0 q1 y2
    have hpiG : PoolIn w19 A8 A9 c8 c9 qg := by obtain ⟨B6, B7, d6, d7, e6, e7, h⟩ := KG.out.reads; have e6 := slice_eq e6; have e7 := slice_eq e7; obtain ⟨rfl, -, rfl⟩ := e6; obtain ⟨rfl, -, rfl⟩ := e7; exact h
    have hheld := heldPool_c hpiG KGM.out.2.2 KGM.out.1 (by omega) (by omega)
    rw [KGM.out.2.1, KGL.out.1, KGL.out.2] at hheld
    refine hheld.mono ?_
    rintro e w20 ⟨rfl, hb⟩
    clear hpiG hheld
    replace KB := Lib.hid (KB.out.bel hb)
    replace KO := Lib.hid (KO.out.bel hb)
    replace KP := Lib.hid (KP.out.bel hb)
    replace K6 := Lib.hid (K6.out.bel hb)
    replace KQ := Lib.hid (KQ.out.bel hb)
    replace K8 := Lib.hid (K8.out.bel hb)
    replace K9 := Lib.hid (K9.out.bel hb)
    replace KG := Lib.hid (KG.out.bel hb)
    replace K14 := Lib.hid (K14.out.bel hb)
    replace KH := Lib.hid (KH.out.bel hb)
    replace KW := Lib.hid (KW.out.trans (Below.mono hb (Below.size KW.out)))
    replace KZ := Lib.hid (show w.heap.size + 1 < w20.heap.size from Nat.lt_of_lt_of_le KZ.out hb.size)
    clear hb
    go_wp2
    go_ret
    exact ⟨rfl, KW.out⟩
end Go.Proofs.YtpobgjkmjlmafaaGreat

/- A volume done away with: what the reference does. -/
import Derived.Test.YtpobgjkmjlmafaaWw
namespace Go.Proofs.Ytpobgjkmjlmafaa
open Go.RowKit Go.Proofs.YtpobgjkmjlmafaaW.PrintWords Go.Proofs.YtpobgjkmjlmafaaW.PrintLast
set_option linter.unusedVariables false
set_option linter.unusedSimpArgs false

theorem step_append_own {P : Program} {ops : Array Oper} {o : Oper} {a : Act} {Q : Exit → Act → World → Prop} {Kc : Act → World → Prop} {W : World} (base : Nat) (hw : Region.wanted o (yielded ops a.tmps) = true) (s x : Operand) (t e : TypeId) (z : Value) (size bytes : Nat)
    (ho : o.op = .call { callee := .builtin .append, args := #[s, x], argTypes := #[t, t] })
    (ht : P.underlying t = some (.slice e)) (hinfo : (P.info? e).map (fun i => (i.zero, i.size, i.bytes)) = some (some z, size, bytes)) (hz : z.cells.size = size) (hs0 : 0 < size) (hb0 : 0 < bytes)
    (v : Value) (n : Nat) (xs : List Value) (A : Option Addr) (m c : Nat) (news : List Value) (hs : a.eval s = v) (hx : a.eval x = .slice A m c) (hm : news.length = m * size)
    (hsrc : 0 < m → ∃ ad, A = some ad ∧ ∀ j u, news[j]? = some u → W.cell? (ad.add j) = some u) (h1 : ∀ u ∈ news, u.oneCell' = true)
    (HO : W.ownsRow base e size v n xs) (hbase : base ≤ W.heap.size) (hl : (n + m) * bytes ≤ 140737488355328)
    (h : ∀ v1 w1, w1.ownsRow base e size v1 (n + m) (xs ++ news) → W.grownBy w1 v.ownBlock → (v1.ownBlock = v.ownBlock ∨ ∃ b, v1.ownBlock = some b ∧ W.heap.size ≤ b) → Kc (a.put o.dst v1) w1) :
    if Region.wanted o (yielded ops a.tmps) = true then Oper.wp P o a W Kc Q else Kc (a.put o.dst undef) W := by
  obtain ⟨i0, hi, hzz⟩ := Option.map_eq_some_iff.1 hinfo
  simp only [Prod.mk.injEq] at hzz
  obtain ⟨hz0, hz1, hz2⟩ := hzz
  have hlen : n + m ≤ 140737488355328 := Nat.le_trans (Nat.le_mul_of_pos_right _ hb0) hl
  have hrun : ∃ v1 w1, (Builtin.append_ #[t, t] o.type #[v, .slice A m c]).run P W = .ok v1 w1 ∧ w1.ownsRow base e size v1 (n + m) (xs ++ news) ∧ W.grownBy w1 v.ownBlock ∧ (v1.ownBlock = v.ownBlock ∨ ∃ b, v1.ownBlock = some b ∧ W.heap.size ≤ b) := by
    rcases A with _ | ad
    · have h0 : m = 0 := by
        rcases Nat.eq_zero_or_pos m with h0 | h0
        · exact h0
        · obtain ⟨ad, h, _⟩ := hsrc h0
          cases h
      subst h0
      obtain rfl : news = [] := List.eq_nil_of_length_eq_zero (by simpa using hm)
      refine ⟨v, W, ?_, by rw [List.append_nil]; exact HO, World.grownBy.refl W _, .inl rfl⟩
      rcases HO.2 with ⟨rfl, hn⟩ | ⟨g, cap, cur, rfl, _, _, hnc, _⟩
      · simp [Builtin.append_, run_underlying ht, sizeOf, typeInfo, hi, Builtin.lenOf, Builtin.firstCells]
      · simp [Builtin.append_, run_underlying ht, sizeOf, typeInfo, hi, Builtin.lenOf, Builtin.firstCells, hnc, storeCells]
    · have hnc : ∀ j u, news[j]? = some u → W.cell? (ad.add j) = some u := by
        intro j u hu
        have hj := ltQ hu
        rcases Nat.eq_zero_or_pos m with h0 | h0
        · rw [hm, h0] at hj; omega
        · obtain ⟨ad', e, h⟩ := hsrc h0
          cases e
          exact h j u hu
      obtain ⟨v1, w1, hrun, h2, hg, _, hat⟩ := run_append_own_at (P := P) W base t o.type e i0 z size bytes ht hi hz0 hz1 hz2 hz hs0 v n xs HO ad m c news hm hnc h1 (by simp only [maxLen]; omega) hl hbase
      refine ⟨v1, w1, hrun, h2, hg, ?_⟩
      rcases hat with hat | hat
      · exact .inl hat
      · exact .inr ⟨_, hat, Nat.le_refl _⟩
  obtain ⟨v1, w1, hr1, h2, hg, hat⟩ := hrun
  rw [if_pos hw]
  unfold Oper.wp execOp
  simp only [ho, resolve, invoke, builtin, Sem.run_bind, Sem.run_pure, Result.andThen_ok, List.map_toArray, List.map_cons, List.map_nil, hs, hx, hr1]
  exact h v1 w1 h2 hg hat

theorem own_slice_eq {g g' n n' c c' : Nat} (h : Value.slice (some ⟨g, 0, none⟩) n c = Value.slice (some ⟨g', 0, none⟩) n' c') : g = g' ∧ n = n' ∧ c = c' := by simpa using h
theorem slice_eq {A A' : Option Addr} {n n' c c' : Nat} (h : Value.slice A n c = Value.slice A' n' c') : A = A' ∧ n = n' ∧ c = c' := by simpa using h
theorem ar_gone {i n : Nat} (h : i < n) : 0 + i + (n - (i + 1)) = n - 1 := by omega
theorem ar_if {i a c : Nat} (h : a ≠ c) : (if a < i then a else a + 1) ≠ (if c < i then c else c + 1) := by split <;> split <;> omega
/-- What a change of a pool of one's own leaves: the pool turned, or as it was. -/
def TurnsP (base : Nat) (p : Pool) (r : Option Pool) (w : World) (e : Ending) (w' : World) : Prop := ∃ v0 v1 bvs, e = .returned (.tuple #[.agg #[v0, v1], .bool r.isSome]) ∧ OwnP w' base v0 v1 (r.getD p) bvs ∧ Below base w w'

set_option maxHeartbeats 4000000 in
set_option maxRecDepth 10000 in
theorem l11Gone_c {w : World} {base : Nat} {v0 v1 : Value} {bvs : List Value} {p : Pool} {name : ByteArray} (h : OwnP w base v0 v1 p bvs) (hs : SmallP p) (hp : PoolP p) (hbase : base ≤ w.heap.size) :
    Calls Try.prog 63 #[.agg #[v0, v1], .string name] w (TurnsP base p (goneF p name) w) := by
  have HS := Lib.hid hs
  have HK := Lib.hid hp
  obtain ⟨A0, A1, c0, c1, rfl, rfl, hpi⟩ := h.reads
  have HP := Lib.hid h
  have HI := Lib.hid hpi
  have hlv := HS.out.vols.len
  clear h hs hp hpi
  go_enter Try.func63, Try.ntmps63
  go_wp2_with fail
  have hB : Blk ((w.alloc (.cells #[.slice A0 p.slots.length c0, .slice A1 p.vols.length c1] 30)).alloc (.cells #[.slice none 0 0, .slice none 0 0] 30)) w.heap.size #[.slice A0 p.slots.length c0, .slice A1 p.vols.length c1] 30 := (Blk.new _ _ _).alloc _
  have hR : Blk ((w.alloc (.cells #[.slice A0 p.slots.length c0, .slice A1 p.vols.length c1] 30)).alloc (.cells #[.slice none 0 0, .slice none 0 0] 30)) (w.heap.size + 1) #[.slice none 0 0, .slice none 0 0] 30 := Blk.nw2 _ _ _ _
  have hW : Bel w ((w.alloc (.cells #[.slice A0 p.slots.length c0, .slice A1 p.vols.length c1] 30)).alloc (.cells #[.slice none 0 0, .slice none 0 0] 30)) := bel_alloc (bel_alloc (Below.refl _ _) _) _
  generalize ((w.alloc (.cells #[.slice A0 p.slots.length c0, .slice A1 p.vols.length c1] 30)).alloc (.cells #[.slice none 0 0, .slice none 0 0] 30)) = W0 at hB hR hW ⊢
  refine (l11At_c _ p.vols A1 c1 name _ (HI.out.bel hW).v hlv).mono ?_
  rintro e w1 ⟨rfl, hb1⟩
  have HB := Lib.hid (hB.bel hb1)
  have HR := Lib.hid (hR.bel hb1)
  have HW := Lib.hid (hW.tr hb1)
  have HO := Lib.hid (HP.out.bel (hW.tr hb1))
  have q0 := HB.out.cell 0
  have q1 := HB.out.cell 1
  have r0 := HR.out.cell 0
  have r1 := HR.out.cell 1
  have f0 := HR.out.free 0
  have f1 := HR.out.free 1
  simp at q0 q1 r0 r1
  clear hB hR hW hb1
  by_cases hn : volIdx p.vols name < 0
  · have HG := Lib.hid (show goneF p name = none by unfold goneF; rw [if_pos hn])
    go_wp2
    have hR3 := HR.out.set 0 (.slice A0 p.slots.length c0) (cs' := #[.slice A0 p.slots.length c0, .slice none 0 0]) rfl
    have hR4 := hR3.set 1 (.slice A1 p.vols.length c1) (cs' := #[.slice A0 p.slots.length c0, .slice A1 p.vols.length c1]) rfl
    have hb5 := bel_set (bel_set HW.out (Nat.le_succ _) 0 (.slice A0 p.slots.length c0)) (Nat.le_succ _) 1 (.slice A1 p.vols.length c1)
    have hop4 := (HO.out.far HR.out (by decide) (by decide) (by decide) 0 (.slice A0 p.slots.length c0)).far hR3 (by decide) (by decide) (by decide) 1 (.slice A1 p.vols.length c1)
    refine bodyPost_ret (results_ct rfl _ _ (w.heap.size + 1) 30 #[.slice A0 p.slots.length c0, .slice A1 p.vols.length c1] (0, 0) _ rfl hR4 Try.underlying30 rfl (by kernel_rfl)) rfl ?_
    rw [HG.out]
    exact ⟨_, _, _, rfl, hop4, hb5.mono hbase⟩
  · obtain ⟨i, v, hi, hv, hvn⟩ := volIdx_yes hn
    have HG := Lib.hid (show goneF p name = some ⟨dropAll p.slots v.blocks, p.vols.eraseIdx i⟩ by unfold goneF; rw [if_neg hn, hi, Int.toNat_natCast]; unfold volAt; rw [Int.toNat_natCast, getD_of hv])
    have HV := Lib.hid hv
    have hil := ltQ hv
    have hx1 : v.blocks.length ≤ 1048576 := HS.out.vols.blocks v (List.mem_of_getElem? HV.out)
    clear hn hvn hv
    have hin : ¬ ((i : Int) < 0) := by omega
    rw [hi]
    have hbw : base ≤ w.heap.size := hbase
    clear q0 q1 r0 r1 f0 f1
    go_wp2
    go_loopg [7] v.blocks.length (fun g v7 W => ∃ k : Nat, g + k = v.blocks.length ∧ v7 = .int .i64 k ∧ Blk W w.heap.size #[.slice A0 p.slots.length c0, .slice A1 p.vols.length c1] 30 ∧ Blk W (w.heap.size + 1) #[.slice none 0 0, .slice none 0 0] 30 ∧ OwnS W base (.slice A0 p.slots.length c0) (dropAll p.slots (v.blocks.take k)) ∧ OwnV W base (.slice A1 p.vols.length c1) p.vols bvs ∧ Below base w W)
    case atStart => exact ⟨0, rfl, rfl, HB.out, HR.out, HO.out.s, HO.out.v, HW.out.mono hbase⟩
    case round =>
      obtain ⟨k, hk, rfl, hB, hR, hos, hov, hbel⟩ := hrel
      obtain ⟨g, cap, bv, hbv, ev, hg1, hg2, hcap, hc, hc', hf, hf'⟩ := hov.row.at HV.out
      obtain ⟨rfl, -, rfl⟩ := by simpa using ev
      obtain ⟨Ab, cb, rfl, hcb, hCb⟩ := (hov.inner i v bv HV.out hbv).reads
      have q0 := hB.cell 0
      have q1 := hB.cell 1
      have fq0 := hB.free 0
      have fq1 := hB.free 1
      simp at q0 q1
      by_cases hlt : k < v.blocks.length
      · obtain ⟨x, hx⟩ := getQ hlt
        have hxr := (volOk_parts (HK.out.v.v i v HV.out)).1 x (List.mem_of_getElem? hx)
        obtain ⟨ad2, rfl, hcx⟩ := at_int hCb hx
        have HQ := Lib.hid (And.intro (And.intro hB hR) (And.intro hos (And.intro hov hbel)))
        have HBV := Lib.hid hbv
        clear hB hR hov hbel hCb ev hbv
        by_cases h0 : 0 < x
        · obtain ⟨m, rfl⟩ : ∃ m : Nat, x = (m : Int) + 1 := ⟨(x - 1).toNat, by omega⟩
          obtain ⟨y, hy, hy1, hy2⟩ := drop_at HK.out HV.out hx
          have HT := Lib.hid (show dropAll p.slots (v.blocks.take (k + 1)) = dropS (dropAll p.slots (v.blocks.take k)) m by rw [take_snoc hx, dropAll_snoc, if_pos h0]; congr 1; omega)
          have hdl : (dropAll p.slots (v.blocks.take k)).length ≤ 1048576 := by rw [dropAll_len]; exact HS.out.slots.len
          have HY := Lib.hid hy
          have HX := Lib.hid hx
          have HD := Lib.hid hdl
          have HOS := Lib.hid (show OwnS wr.drew base (.slice A0 p.slots.length c0) (dropAll p.slots (v.blocks.take k)) from hos)
          clear hx hy hdl hos
          go_wp2
          refine start_ (n := 14) (S := fun w' => w'.cell? ⟨w.heap.size, 0, none⟩ = some (.slice A0 p.slots.length c0) ∧ w'.cell? ⟨w.heap.size, 1, none⟩ = some (.slice (some ⟨g, 0, none⟩) p.vols.length c1) ∧ w'.cell? ⟨g, i * 2 + 1, none⟩ = some (.slice (some ad2) v.blocks.length cb) ∧ w'.cell? (ad2.add k) = some (.int .i64 ((m : Int) + 1))) (ds := [13]) #[false, false, false, false, false, false, false, false, false, false, false, false, false, false] (by kernel_rfl) rfl rfl ⟨q0, q1, hc', hcx⟩ (fun hHeld => ?_)
          refine pure_ (i := 0) (N := some 35) (v := ?_) (a' := ?_) #[true, false, false, false, false, false, false, false, false, false, false, false, false, false] rfl rfl (by kernel_rfl) (fun _ _ _ h => h) (Or.inl ⟨by rfl, ?_⟩) ?_ ?_
          rotate_left
          · intro w'
            go_simp
            with_reducible rfl
          rotate_left
          · simp only [Act.put, List.setIfInBounds_toArray, List.set_cons_zero, List.set_cons_succ, i64_w, i32_w]
            rfl
          refine pure_ (i := 2) (N := some 37) (v := ?_) (a' := ?_) #[true, false, true, false, false, false, false, false, false, false, false, false, false, false] rfl rfl (by kernel_rfl) (fun _ _ _ h => h) (Or.inl ⟨by rfl, ?_⟩) ?_ ?_
          rotate_left
          · intro w'
            go_simp
            with_reducible rfl
          rotate_left
          · simp only [Act.put, List.setIfInBounds_toArray, List.set_cons_zero, List.set_cons_succ, i64_w, i32_w]
            rfl
          refine pure_ (i := 4) (N := some 39) (v := ?_) (a' := ?_) #[true, false, true, false, true, false, false, false, false, false, false, false, false, false] rfl rfl (by kernel_rfl) (fun _ _ _ h => h) (Or.inl ⟨by rfl, ?_⟩) ?_ ?_
          rotate_left
          · intro w'
            go_simp
            with_reducible rfl
          rotate_left
          · simp only [Act.put, List.setIfInBounds_toArray, List.set_cons_zero, List.set_cons_succ, i64_w, i32_w]
            rfl
          refine pure_ (i := 8) (N := some 43) (v := ?_) (a' := ?_) #[true, false, true, false, true, false, false, false, true, false, false, false, false, false] rfl rfl (by kernel_rfl) (fun _ _ _ h => h) (Or.inl ⟨by rfl, ?_⟩) ?_ ?_
          rotate_left
          · intro w'
            go_simp
            with_reducible rfl
          rotate_left
          · simp only [Act.put, List.setIfInBounds_toArray, List.set_cons_zero, List.set_cons_succ, i64_w, i32_w]
            rfl
          refine take_ (i := 1) (N := some 36) (v := ?_) (a' := ?_) #[true, true, true, false, true, false, false, false, true, false, false, false, false, false] rfl rfl (by kernel_rfl) (fun _ _ _ h => h) (Or.inl ⟨by rfl, ?_⟩) hHeld ?_ ?_
          rotate_left
          · rintro w' ⟨s0, s1, s2, s3⟩
            go_simp
            with_reducible rfl
          rotate_left
          · simp only [Act.put, List.setIfInBounds_toArray, List.set_cons_zero, List.set_cons_succ, i64_w, i32_w]
            rfl
          refine take_ (i := 3) (N := some 38) (v := ?_) (a' := ?_) #[true, true, true, true, true, false, false, false, true, false, false, false, false, false] rfl rfl (by kernel_rfl) (fun _ _ _ h => h) (Or.inl ⟨by rfl, ?_⟩) hHeld ?_ ?_
          rotate_left
          · rintro w' ⟨s0, s1, s2, s3⟩
            go_simp
            with_reducible rfl
          rotate_left
          · simp only [Act.put, List.setIfInBounds_toArray, List.set_cons_zero, List.set_cons_succ, i64_w, i32_w]
            rfl
          refine pure_ (i := 5) (N := some 40) (v := ?_) (a' := ?_) #[true, true, true, true, true, true, false, false, true, false, false, false, false, false] rfl rfl (by kernel_rfl) (fun _ _ _ h => h) (Or.inl ⟨by rfl, ?_⟩) ?_ ?_
          rotate_left
          · intro w'
            go_simp
            with_reducible rfl
          rotate_left
          · simp only [Act.put, List.setIfInBounds_toArray, List.set_cons_zero, List.set_cons_succ, i64_w, i32_w]
            rfl
          refine pure_ (i := 6) (N := some 41) (v := ?_) (a' := ?_) #[true, true, true, true, true, true, true, false, true, false, false, false, false, false] rfl rfl (by kernel_rfl) (fun _ _ _ h => h) (Or.inl ⟨by rfl, ?_⟩) ?_ ?_
          rotate_left
          · intro w'
            go_simp
            with_reducible rfl
          rotate_left
          · simp only [Act.put, List.setIfInBounds_toArray, List.set_cons_zero, List.set_cons_succ, i64_w, i32_w]
            rfl
          refine take_ (i := 7) (N := some 42) (v := ?_) (a' := ?_) #[true, true, true, true, true, true, true, true, true, false, false, false, false, false] rfl rfl (by kernel_rfl) (fun _ _ _ h => h) (Or.inl ⟨by rfl, ?_⟩) hHeld ?_ ?_
          rotate_left
          · rintro w' ⟨s0, s1, s2, s3⟩
            go_simp
            with_reducible rfl
          rotate_left
          · simp only [Act.put, List.setIfInBounds_toArray, List.set_cons_zero, List.set_cons_succ, i64_w, i32_w]
            rfl
          refine pure_ (i := 9) (N := some 44) (v := ?_) (a' := ?_) #[true, true, true, true, true, true, true, true, true, true, false, false, false, false] rfl rfl (by kernel_rfl) (fun _ _ _ h => h) (Or.inl ⟨by rfl, ?_⟩) ?_ ?_
          rotate_left
          · intro w'
            go_simp
            with_reducible rfl
          rotate_left
          · simp only [Act.put, List.setIfInBounds_toArray, List.set_cons_zero, List.set_cons_succ, i64_w, i32_w]
            rfl
          refine take_ (i := 10) (N := some 45) (v := ?_) (a' := ?_) #[true, true, true, true, true, true, true, true, true, true, true, false, false, false] rfl rfl (by kernel_rfl) (fun _ _ _ h => h) (Or.inl ⟨by rfl, ?_⟩) hHeld ?_ ?_
          rotate_left
          · rintro w' ⟨s0, s1, s2, s3⟩
            go_simp
            with_reducible rfl
          rotate_left
          · simp only [Act.put, List.setIfInBounds_toArray, List.set_cons_zero, List.set_cons_succ, i64_w, i32_w]
            rfl
          refine one_ (i := 11) (N := some 46) #[true, true, true, true, true, true, true, true, true, true, true, true, false, false] rfl rfl (by kernel_rfl) (by decide) (fun K hK => ?_)
          refine goes_ Try.func118 (by kernel_rfl) rfl #[.slice A0 p.slots.length c0, .int .i64 ((m : Int) + 1)] (by rfl) rfl rfl (by simp only [List.map_toArray, List.map_cons, List.map_nil]; rfl) ?_
          with_reducible refine (l2Drop_c HOS.out HY.out HD.out hy1 hy2).mono ?_
          rintro e w2 ⟨rfl, ho2, hg2⟩
          obtain ⟨⟨hB, hR⟩, hos, hov, hbel⟩ := HQ.out
          have hB2 := Blk.grown (w := wr.drew) hB hg2 (own_blk_ne hos hB (by decide))
          have hR2 := Blk.grown (w := wr.drew) hR hg2 (own_blk_ne hos hR (by decide))
          have hov2 := OwnV.otherS (w := wr.drew) (hov.bel (Below.refl _ _).drew) hos hg2
          have hbel2 := hbel.drew.grown hg2 (by have h5 := hB.lt; have h6 : wr.drew.heap.size = wr.heap.size := rfl; omega) (own_base hos)
          have q0' := hB2.cell 0
          have q1' := hB2.cell 1
          have fq0' := hB2.free 0
          have fq1' := hB2.free 1
          have d1 : w2.cell? ⟨g, i * 2 + 1, none⟩ = some (.slice (some ad2) v.blocks.length cb) := by obtain ⟨g', cap', bv', e1, e2, _, _, _, _, e3, _⟩ := hov2.row.at HV.out; have e2 := own_slice_eq e2; obtain ⟨rfl, -, rfl⟩ := e2; obtain rfl := Option.some.inj (HBV.out.symm.trans e1); exact e3
          have d2 : w2.cell? (ad2.add k) = some (.int .i64 ((m : Int) + 1)) := by obtain ⟨A', c', e1, _, hC'⟩ := (hov2.inner i v _ HV.out HBV.out).reads; have e1 := slice_eq e1; obtain ⟨rfl, -⟩ := e1; obtain ⟨ad', e2, e3⟩ := at_int hC' HX.out; obtain rfl := Option.some.inj e2; exact e3
          simp at q0' q1'
          have HQ2 := Lib.hid (And.intro (And.intro hB2 hR2) (And.intro ho2 (And.intro hov2 hbel2)))
          clear hB hR hos hov hbel hB2 hR2 hov2 hbel2 ho2 hg2
          refine ⟨_, rfl, ?_⟩
          refine hK.out _ _ ⟨q0', q1', d1, d2⟩ (fun hHeld => ?_)
          clear hK K
          refine norm_ (a' := ?_) ?_ ?_
          rotate_left
          · show Act.put _ (some 46) _ = _
            simp only [Act.put, List.setIfInBounds_toArray, List.set_cons_zero, List.set_cons_succ, i64_w, i32_w]
            rfl
          refine pure_ (i := 12) (N := some 47) (v := ?_) (a' := ?_) #[true, true, true, true, true, true, true, true, true, true, true, true, true, false] rfl rfl (by kernel_rfl) (fun _ _ _ h => h) (Or.inl ⟨by rfl, ?_⟩) ?_ ?_
          rotate_left
          · intro w'
            go_simp
            with_reducible rfl
          rotate_left
          · simp only [Act.put, List.setIfInBounds_toArray, List.set_cons_zero, List.set_cons_succ, i64_w, i32_w]
            rfl
          refine last_ (i := 13) (N := none) #[true, true, true, true, true, true, true, true, true, true, true, true, true, true] rfl rfl (by kernel_rfl) (by decide) (fun K hK => ?_)
          refine skip_ (w1 := ?_) (by rfl) rfl ?_ ?_
          rotate_left
          · go_simp
            rfl
          refine hK.out _ _ ?_
          clear hK K
          refine done_ (by kernel_rfl) ?_
          have H3 := Lib.hid (And.intro (HQ2.out.1.1.set 0 (.slice A0 p.slots.length c0) (cs' := #[.slice A0 p.slots.length c0, .slice (some ⟨g, 0, none⟩) p.vols.length c1]) rfl) (And.intro (HQ2.out.1.2.apart (show w.heap.size ≠ w.heap.size + 1 by omega) 0 (.slice A0 p.slots.length c0))
            (And.intro (OwnS.far HQ2.out.2.1 HQ2.out.1.1 (by decide) 0 (.slice A0 p.slots.length c0)) (And.intro (HQ2.out.2.2.1.far HQ2.out.1.1 (by decide) (by decide) 0 (.slice A0 p.slots.length c0)) (HQ2.out.2.2.2.setCell (p := ⟨w.heap.size, 0, none⟩) hbase (.slice A0 p.slots.length c0))))))
          clear d1 d2 q0' q1' fq0' fq1' q0 q1 fq0 fq1 hc hc' hf hf' hcx hHeld
          go_wp2
          go_roundg (v.blocks.length - (k + 1))
          case rel =>
            refine ⟨k + 1, by omega, int_eq (by omega), H3.out.1, H3.out.2.1, ?_, H3.out.2.2.2.1, H3.out.2.2.2.2⟩
            rw [HT.out]
            have h5 := H3.out.2.2.1
            unfold OwnS at h5 ⊢
            exact h5
          case measure => omega
        · have HT := Lib.hid (show dropAll p.slots (v.blocks.take (k + 1)) = dropAll p.slots (v.blocks.take k) by rw [take_snoc hx, dropAll_snoc, if_neg h0])
          have HOS := Lib.hid hos
          clear hx hos
          go_wp2
          go_roundg (v.blocks.length - (k + 1))
          case rel =>
            obtain ⟨⟨hB, hR⟩, _, hov, hbel⟩ := HQ.out
            exact ⟨k + 1, by omega, int_eq (by omega), hB, hR, by rw [HT.out]; exact HOS.out, hov, hbel⟩
          case measure => omega
      · have hkl : k = v.blocks.length := by omega
        rw [hkl, List.take_length] at hos
        have hone := one_flatV (zs := p.vols.zip bvs) fun z hz => hov.one z.2 (List.of_mem_zip hz).2
        obtain ⟨_, hnc, hmax, hL, rest, hrl, hg⟩ := own_open hov.row.row
        have hlen := hov.row.len
        obtain ⟨L, hLe⟩ : ∃ L, L = (p.vols.zip bvs).flatMap encV := ⟨_, rfl⟩
        rw [← hLe] at hg hone hL
        have hz : (p.vols.eraseIdx i).length = p.vols.length - 1 := List.length_eraseIdx_of_lt hil
        have hzb : (bvs.eraseIdx i).length = p.vols.length - 1 := by rw [List.length_eraseIdx_of_lt (by omega), hlen]
        have HF := Lib.hid (show ((p.vols.eraseIdx i).zip (bvs.eraseIdx i)).flatMap encV = L.take (i * 2) ++ L.drop ((i + 1) * 2) by rw [zip_eraseIdx _ _ _ hlen, flat_erase encV_len, hLe])
        have hgd : wr.drew.heap[g]? = some (.cells (L ++ rest).toArray 43 (0, 0)) := hg
        obtain ⟨Ad, hA, hsrc⟩ : ∃ A : Addr, (if c1 = i + 1 then some (⟨g, 0, none⟩ : Addr) else some ⟨g, (i + 1) * 2, none⟩) = some A ∧ (∀ w' : World, w'.heap[g]? = some (.cells (L ++ rest).toArray 43 (0, 0)) → ∀ t u, (L.drop ((i + 1) * 2))[t]? = some u → w'.cell? (A.add t) = some u) := by
          by_cases hc : c1 = i + 1
          · refine ⟨⟨g, 0, none⟩, by simp [hc], fun w' hw' t u hu => ?_⟩
            have h0 := ltQ hu
            rw [List.length_drop, hL] at h0
            omega
          · refine ⟨⟨g, (i + 1) * 2, none⟩, by simp [hc], fun w' hw' t u hu => ?_⟩
            rw [Addr.add_lit, cell_of_row hw']
            have h0 := ltQ hu
            rw [List.length_drop] at h0
            rw [List.getElem?_append_left (by omega)]
            rwa [List.getElem?_drop] at hu
        have hq := hgd
        have HQ := Lib.hid (And.intro (And.intro hB hR) (And.intro hos (And.intro hov hbel)))
        have HG2 := Lib.hid hg
        have HSR := Lib.hid hsrc
        have HO1 := Lib.hid hone
        have HL := Lib.hid hL
        have HZ := Lib.hid (And.intro hz hzb)
        have n1 := Lib.hid (show (L.take (i * 2)).length = i * 2 by rw [List.length_take, hL]; omega)
        have n2 := Lib.hid (show (L.drop ((i + 1) * 2)).length = (p.vols.length - (i + 1)) * 2 by rw [List.length_drop, hL]; omega)
        have n3 := Lib.hid (show (0 + i) * 40 ≤ 140737488355328 by omega)
        have n4 := Lib.hid (show (0 + i + (p.vols.length - (i + 1))) * 40 ≤ 140737488355328 by omega)
        have n5 : Hid (∀ t u, (L.take (i * 2))[t]? = some u → (L ++ rest)[t]? = some u) := fun t u hu => by
          have h9 := ltQ hu
          rw [List.length_take] at h9
          rw [List.getElem?_append_left (by omega)]
          rwa [List.getElem?_take, if_pos (by omega)] at hu
        have hmin := hbel.size
        clear hB hR hos hov hbel hCb ev hbv hone hg hgd hq hsrc hL hLe hz hzb hrl hlen hc hf hf'
        have hic : i ≤ c1 := by omega
        have hjc : i + 1 ≤ c1 := by omega
        have hi1 : (0 : Int) ≤ (i : Int) + 1 := by omega
        have hi2 : (i : Int) + 1 ≤ (p.vols.length : Int) := by omega
        have hi3 : ((i : Int) + 1).toNat = i + 1 := by omega
        have hw64 : wrap64 ((i : Int) + 1) = (i : Int) + 1 := by unfold wrap64; omega
        go_wp2
        refine start_ (n := 14) (S := fun w' => w'.cell? ⟨w.heap.size, 1, none⟩ = some (.slice (some ⟨g, 0, none⟩) p.vols.length c1)) (ds := [13]) #[false, false, false, false, false, false, false, false, false, false, false, false, false, false] (by kernel_rfl) rfl rfl (q1) (fun hHeld => ?_)
        refine pure_ (i := 1) (N := some 49) (v := ?_) (a' := ?_) #[false, true, false, false, false, false, false, false, false, false, false, false, false, false] rfl rfl (by kernel_rfl) (fun _ _ _ h => h) (Or.inl ⟨by rfl, ?_⟩) ?_ ?_
        rotate_left
        · intro w'
          go_simp
          with_reducible rfl
        rotate_left
        · simp only [Act.put, List.setIfInBounds_toArray, List.set_cons_zero, List.set_cons_succ, i64_w, i32_w]
          rfl
        refine pure_ (i := 3) (N := some 51) (v := ?_) (a' := ?_) #[false, true, false, true, false, false, false, false, false, false, false, false, false, false] rfl rfl (by kernel_rfl) (fun _ _ _ h => h) (Or.inl ⟨by rfl, ?_⟩) ?_ ?_
        rotate_left
        · intro w'
          go_simp
          with_reducible rfl
        rotate_left
        · simp only [Act.put, List.setIfInBounds_toArray, List.set_cons_zero, List.set_cons_succ, i64_w, i32_w]
          rfl
        refine pure_ (i := 6) (N := some 54) (v := ?_) (a' := ?_) #[false, true, false, true, false, false, true, false, false, false, false, false, false, false] rfl rfl (by kernel_rfl) (fun _ _ _ h => h) (Or.inl ⟨by rfl, ?_⟩) ?_ ?_
        rotate_left
        · intro w'
          go_simp
          with_reducible rfl
        rotate_left
        · simp only [Act.put, List.setIfInBounds_toArray, List.set_cons_zero, List.set_cons_succ, i64_w, i32_w]
          rfl
        refine pure_ (i := 8) (N := some 56) (v := ?_) (a' := ?_) #[false, true, false, true, false, false, true, false, true, false, false, false, false, false] rfl rfl (by kernel_rfl) (fun _ _ _ h => h) (Or.inl ⟨by rfl, ?_⟩) ?_ ?_
        rotate_left
        · intro w'
          go_simp
          with_reducible rfl
        rotate_left
        · simp only [Act.put, List.setIfInBounds_toArray, List.set_cons_zero, List.set_cons_succ, i64_w, i32_w]
          rfl
        refine pure_ (i := 9) (N := some 57) (v := ?_) (a' := ?_) #[false, true, false, true, false, false, true, false, true, true, false, false, false, false] rfl rfl (by kernel_rfl) (fun _ _ _ h => h) (Or.inl ⟨by rfl, ?_⟩) ?_ ?_
        rotate_left
        · intro w'
          go_simp
          with_reducible rfl
        rotate_left
        · simp only [Act.put, List.setIfInBounds_toArray, List.set_cons_zero, List.set_cons_succ, i64_w, i32_w]
          rfl
        refine take_ (i := 2) (N := some 50) (v := ?_) (a' := ?_) #[false, true, true, true, false, false, true, false, true, true, false, false, false, false] rfl rfl (by kernel_rfl) (fun _ _ _ h => h) (Or.inl ⟨by rfl, ?_⟩) hHeld ?_ ?_
        rotate_left
        · intro w' s0
          go_simp
          with_reducible rfl
        rotate_left
        · simp only [Act.put, List.setIfInBounds_toArray, List.set_cons_zero, List.set_cons_succ, i64_w, i32_w]
          rfl
        refine pure_ (i := 4) (N := some 52) (v := ?_) (a' := ?_) #[false, true, true, true, true, false, true, false, true, true, false, false, false, false] rfl rfl (by kernel_rfl) (fun _ _ _ h => h) (Or.inl ⟨by rfl, ?_⟩) ?_ ?_
        rotate_left
        · intro w'
          go_simp
          with_reducible rfl
        rotate_left
        · simp only [Act.put, List.setIfInBounds_toArray, List.set_cons_zero, List.set_cons_succ, i64_w, i32_w]
          rfl
        refine take_ (i := 7) (N := some 55) (v := ?_) (a' := ?_) #[false, true, true, true, true, false, true, true, true, true, false, false, false, false] rfl rfl (by kernel_rfl) (fun _ _ _ h => h) (Or.inl ⟨by rfl, ?_⟩) hHeld ?_ ?_
        rotate_left
        · intro w' s0
          go_simp
          with_reducible rfl
        rotate_left
        · simp only [Act.put, List.setIfInBounds_toArray, List.set_cons_zero, List.set_cons_succ, i64_w, i32_w]
          rfl
        refine pure_ (i := 10) (N := some 58) (v := ?_) (a' := ?_) #[false, true, true, true, true, false, true, true, true, true, true, false, false, false] rfl rfl (by kernel_rfl) (fun _ _ _ h => h) (Or.inl ⟨by rfl, ?_⟩) ?_ ?_
        rotate_left
        · intro w'
          go_simp
          with_reducible rfl
        rotate_left
        · simp only [Act.put, List.setIfInBounds_toArray, List.set_cons_zero, List.set_cons_succ, i64_w, i32_w]
          rfl
        refine one_ (i := 0) (N := some 48) #[true, true, true, true, true, false, true, true, true, true, true, false, false, false] rfl rfl (by kernel_rfl) (by decide) (fun K hK => ?_)
        refine value_ (w1 := ?_) (v := ?_) (by rfl) rfl ?_ ?_
        rotate_left 2
        · go_simp
          constructor
          · rfl
          · rfl
        have x0 : Bel wr ((wr.alloc (.cells #[] 43)).drew) := (bel_alloc (Below.refl _ _) _ : Bel wr (wr.alloc (.cells #[] 43))).drew
        have b0 := (HQ.out.1.1.bel x0).cell 1
        have X0 := Lib.hid x0
        clear x0
        refine hK.out _ _ (b0) (fun hHeld => ?_)
        clear hK K
        refine norm_ (a' := ?_) ?_ ?_
        rotate_left
        · show Act.put _ (some 48) _ = _
          simp only [Act.put, List.setIfInBounds_toArray, List.set_cons_zero, List.set_cons_succ, i64_w, i32_w]
          rfl
        refine one_ (i := 5) (N := some 53) #[true, true, true, true, true, true, true, true, true, true, true, false, false, false] rfl rfl (by kernel_rfl) (by decide) (fun K hK => ?_)
        refine step_append_own (W := (wr.alloc (.cells #[] 43)).drew) wr.heap.size (by rfl) (.tmp 48) (.tmp 52) 28 43 (.agg #[.string ⟨#[]⟩, .slice none 0 0]) 2 40 rfl Try.underlying28 info_vol rfl (by decide) (by decide) _ 0 [] (some ⟨g, 0, none⟩) i c1 (L.take (i * 2)) rfl rfl n1.out (fun _ => ⟨_, rfl, fun t u hu => ?a1⟩) (fun u hu => HO1.out u (List.mem_of_mem_take hu)) (own_empty wr wr.heap.size _ _ (Nat.le_refl _)) X0.out.size n3.out ?_
        case a1 => rw [Addr.add_lit, Nat.zero_add, cell_of_row ((X0.out.block g hg2).trans HG2.out)]; exact n5.out t u hu
        intro v2 w2 ho2 hgr2 hat2
        have x2 : Bel wr w2 := X0.out.grown hgr2 X0.out.size (fun k hk => by cases hk; exact Nat.le_refl _)
        obtain ⟨A2, c2, rfl, hc2⟩ := own_cap ho2
        have b2 := (HQ.out.1.1.bel x2).cell 1
        have X2 := Lib.hid x2
        have O2 := Lib.hid ho2
        clear x2 ho2 hgr2 hat2
        refine hK.out _ _ (b2) (fun hHeld => ?_)
        clear hK K
        refine norm_ (a' := ?_) ?_ ?_
        rotate_left
        · show Act.put _ (some 53) _ = _
          simp only [Act.put, List.setIfInBounds_toArray, List.set_cons_zero, List.set_cons_succ, i64_w, i32_w]
          rfl
        refine one_ (i := 11) (N := some 59) #[true, true, true, true, true, true, true, true, true, true, true, true, false, false] rfl rfl (by kernel_rfl) (by decide) (fun K hK => ?_)
        refine step_append_own (W := w2) wr.heap.size (by rfl) (.tmp 53) (.tmp 58) 28 43 (.agg #[.string ⟨#[]⟩, .slice none 0 0]) 2 40 rfl Try.underlying28 info_vol rfl (by decide) (by decide) _ (0 + i) ([] ++ L.take (i * 2)) (some Ad) (p.vols.length - (i + 1)) (c1 - (i + 1)) (L.drop ((i + 1) * 2)) rfl rfl n2.out (fun _ => ⟨_, rfl, HSR.out w2 ((X2.out.block g hg2).trans HG2.out)⟩) (fun u hu => HO1.out u (List.mem_of_mem_drop hu)) O2.out X2.out.size n4.out ?_
        intro v3 w3 ho3 hgr3 hat3
        have x3 : Bel wr w3 := X2.out.grown hgr3 X2.out.size (own_base O2.out)
        obtain ⟨A3, c3, rfl, hc3⟩ := own_cap ho3
        have hB3 := HQ.out.1.1.bel x3
        have b3 := hB3.cell 1
        have b30 := hB3.cell 0
        have f3 := hB3.free 1
        have b4 := (HQ.out.1.2.bel x3).cell 0
        have b5 := (HQ.out.1.2.bel x3).cell 1
        have f4 := (HQ.out.1.2.bel x3).free 0
        have f5 := (HQ.out.1.2.bel x3).free 1
        simp at b3 b30 b4 b5
        have X3 := Lib.hid x3
        have O3 := Lib.hid ho3
        clear x3 ho3 hgr3 hat3 hB3
        refine hK.out _ _ (b3) (fun hHeld => ?_)
        clear hK K
        refine norm_ (a' := ?_) ?_ ?_
        rotate_left
        · show Act.put _ (some 59) _ = _
          simp only [Act.put, List.setIfInBounds_toArray, List.set_cons_zero, List.set_cons_succ, i64_w, i32_w]
          rfl
        refine pure_ (i := 12) (N := some 60) (v := ?_) (a' := ?_) #[true, true, true, true, true, true, true, true, true, true, true, true, true, false] rfl rfl (by kernel_rfl) (fun _ _ _ h => h) (Or.inl ⟨by rfl, ?_⟩) ?_ ?_
        rotate_left
        · intro w'
          go_simp
          with_reducible rfl
        rotate_left
        · simp only [Act.put, List.setIfInBounds_toArray, List.set_cons_zero, List.set_cons_succ, i64_w, i32_w]
          rfl
        refine last_ (i := 13) (N := none) #[true, true, true, true, true, true, true, true, true, true, true, true, true, true] rfl rfl (by kernel_rfl) (by decide) (fun K hK => ?_)
        refine skip_ (w1 := ?_) (by rfl) rfl ?_ ?_
        rotate_left
        · go_simp
          rfl
        refine hK.out _ _ ?_
        clear hK K
        refine done_ (by kernel_rfl) ?_
        have hB3 := HQ.out.1.1.bel X3.out
        have hR3 := HQ.out.1.2.bel X3.out
        have hv3 : VRow w3 wr.heap.size (.slice A3 (0 + i + (p.vols.length - (i + 1))) c3) (p.vols.eraseIdx i) (bvs.eraseIdx i) := by
          refine ⟨HZ.out.2.trans HZ.out.1.symm, ?_⟩
          have h5 := O3.out
          rw [List.nil_append, ← HF.out] at h5
          rw [HZ.out.1]
          have e5 : 0 + i + (p.vols.length - (i + 1)) = p.vols.length - 1 := ar_gone hil
          rw [e5] at h5 ⊢
          exact h5
        have hov3 : OwnV w3 base (.slice A3 (0 + i + (p.vols.length - (i + 1))) c3) (p.vols.eraseIdx i) (bvs.eraseIdx i) :=
          ⟨⟨hv3.len, own_lower hv3.row (Nat.le_trans hbase hmin)⟩, fun m x b hx hb => (HQ.out.2.2.1.inner _ x b (erase_get hx) (erase_get hb)).bel X3.out, fun a c b b' k hne hb hb' => HQ.out.2.2.1.apart _ _ b b' k (ar_if hne) (erase_get hb) (erase_get hb')⟩
        have hos3 := HQ.out.2.1.bel X3.out
        have hbel3 : Below base w w3 := HQ.out.2.2.2.trans (X3.out.mono (Nat.le_trans hbase hmin))
        have hB4 := hB3.set 1 (.slice A3 (0 + i + (p.vols.length - (i + 1))) c3) (cs' := #[.slice A0 p.slots.length c0, .slice A3 (0 + i + (p.vols.length - (i + 1))) c3]) rfl
        have hR4 := hR3.apart (show w.heap.size ≠ w.heap.size + 1 by omega) 1 (.slice A3 (0 + i + (p.vols.length - (i + 1))) c3)
        have hos4 := hos3.far hB3 (by decide) 1 (.slice A3 (0 + i + (p.vols.length - (i + 1))) c3)
        have hov4 := hov3.far hB3 (by decide) (by decide) 1 (.slice A3 (0 + i + (p.vols.length - (i + 1))) c3)
        have hbel4 := hbel3.setCell (p := ⟨w.heap.size, 1, none⟩) hbase (.slice A3 (0 + i + (p.vols.length - (i + 1))) c3)
        have HF4 := Lib.hid (And.intro (And.intro hB4 hR4) (And.intro (And.intro hos4 hov4) hbel4))
        clear hB3 hR3 hv3 hov3 hos3 hbel3 hB4 hR4 hos4 hov4 hbel4
        rw [show 0 + i = i from Nat.zero_add i] at HF4
        go_wp2
        have hR5 := HF4.out.1.2.set 0 (.slice A0 p.slots.length c0) (cs' := #[.slice A0 p.slots.length c0, .slice none 0 0]) rfl
        have hR6 := hR5.set 1 (.slice A3 (i + (p.vols.length - (i + 1))) c3) (cs' := #[.slice A0 p.slots.length c0, .slice A3 (i + (p.vols.length - (i + 1))) c3]) rfl
        have hop6 : OwnP _ base _ _ ⟨dropAll p.slots v.blocks, p.vols.eraseIdx i⟩ (bvs.eraseIdx i) := ⟨(HF4.out.2.1.1.far HF4.out.1.2 (by decide) 0 (.slice A0 p.slots.length c0)).far hR5 (by decide) 1 (.slice A3 (i + (p.vols.length - (i + 1))) c3), (HF4.out.2.1.2.far HF4.out.1.2 (by decide) (by decide) 0 (.slice A0 p.slots.length c0)).far hR5 (by decide) (by decide) 1 (.slice A3 (i + (p.vols.length - (i + 1))) c3)⟩
        have hb6 := (HF4.out.2.2.setCell (p := ⟨w.heap.size + 1, 0, none⟩) (Nat.le_succ_of_le hbase) (.slice A0 p.slots.length c0)).setCell (p := ⟨w.heap.size + 1, 1, none⟩) (Nat.le_succ_of_le hbase) (.slice A3 (i + (p.vols.length - (i + 1))) c3)
        refine bodyPost_ret (results_ct rfl _ _ (w.heap.size + 1) 30 #[.slice A0 p.slots.length c0, .slice A3 (i + (p.vols.length - (i + 1))) c3] (0, 0) _ rfl hR6 Try.underlying30 rfl (by kernel_rfl)) rfl ?_
        rw [HG.out]
        exact ⟨_, _, _, rfl, hop6, hb6⟩
end Go.Proofs.Ytpobgjkmjlmafaa

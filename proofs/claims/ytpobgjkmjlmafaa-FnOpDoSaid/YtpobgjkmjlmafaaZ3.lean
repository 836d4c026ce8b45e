/- Contracts of the program's and the reference's functions, and the plain laws behind them: part 3 of 5. -/
import Derived.Test.YtpobgjkmjlmafaaZ2
/- PoolGone, as the program does it. -/

namespace Go.Proofs.Ytpobgjkmjlmafaa
open Go.RowKit Go.Proofs.YtpobgjkmjlmafaaW.PrintWords Go.Proofs.YtpobgjkmjlmafaaW.PrintLast
set_option linter.unusedVariables false
set_option linter.unusedSimpArgs false

theorem Blk.at (w : World) (o : Obj) (cs : Array Value) (t : TypeId) (h : o = .cells cs t (0, 0)) : Blk (w.alloc o) w.heap.size cs t := h ▸ Blk.new w cs t
theorem enters {f : FuncId} {fn : Func} (hf : Try.prog.funcs[f]? = some fn) (hname : (fn.name == "runtime.NumGoroutine") = false) (hb : fn.body.isSome = true) (args : Array Value) (w : World) : (callFunc f args).run Try.prog w = .ok (.enter f args) w := enters_ hf hname hb args w
set_option maxHeartbeats 4000000 in
set_option maxRecDepth 10000 in
theorem implPoolGone_c {w : World} {A0 A1 : Option Addr} {c0 c1 : Nat} {p : Pool} {name : ByteArray} (h : PoolIn w A0 A1 c0 c1 p) (hs : SmallP p) :
    Calls Try.prog 27 #[.agg #[.slice A0 p.slots.length c0, .slice A1 p.vols.length c1], .string name] w (MadePB w (chP p (goneF p name)) (chB p (goneF p name))) := by
  have HS := Lib.hid hs
  have HP := Lib.hid h
  clear h hs
  go_enter Try.func27, Try.ntmps27
  go_wp2_with fail
  have hB : Blk (((w.alloc (.cells #[.slice A0 p.slots.length c0, .slice A1 p.vols.length c1] 30)).alloc (.cells #[.string name] 9)).alloc (.cells #[.slice none 0 0, .slice none 0 0] 30)) w.heap.size #[.slice A0 p.slots.length c0, .slice A1 p.vols.length c1] 30 := ((Blk.new _ _ _).alloc _).alloc _
  have hN : Blk (((w.alloc (.cells #[.slice A0 p.slots.length c0, .slice A1 p.vols.length c1] 30)).alloc (.cells #[.string name] 9)).alloc (.cells #[.slice none 0 0, .slice none 0 0] 30)) (w.heap.size + 1) #[.string name] 9 := (Blk.nw2 _ _ _ _).alloc _
  have hR : Blk (((w.alloc (.cells #[.slice A0 p.slots.length c0, .slice A1 p.vols.length c1] 30)).alloc (.cells #[.string name] 9)).alloc (.cells #[.slice none 0 0, .slice none 0 0] 30)) (w.heap.size + 1 + 1) #[.slice none 0 0, .slice none 0 0] 30 := by
    have := Blk.new ((w.alloc (.cells #[.slice A0 p.slots.length c0, .slice A1 p.vols.length c1] 30)).alloc (.cells #[.string name] 9)) #[.slice none 0 0, .slice none 0 0] 30
    simpa using this
  have hW : Bel w (((w.alloc (.cells #[.slice A0 p.slots.length c0, .slice A1 p.vols.length c1] 30)).alloc (.cells #[.string name] 9)).alloc (.cells #[.slice none 0 0, .slice none 0 0] 30)) := bel_alloc (bel_alloc (bel_alloc (Below.refl _ _) _) _) _
  generalize (((w.alloc (.cells #[.slice A0 p.slots.length c0, .slice A1 p.vols.length c1] 30)).alloc (.cells #[.string name] 9)).alloc (.cells #[.slice none 0 0, .slice none 0 0] 30)) = W0 at hB hN hR hW ⊢
  have HB := Lib.hid hB
  have HN := Lib.hid hN
  have HR := Lib.hid hR
  have HW := Lib.hid hW
  clear hB hN hR hW
  refine (changed_c (HP.out.bel HW.out) HS.out 68 #[.pointer (some ⟨w.heap.size, 0, none⟩), .pointer (some ⟨w.heap.size + 1, 0, none⟩)] (goneF p name) (enters Try.func68 (by kernel_rfl) (by kernel_rfl))
    (fun hok W b base h1 h2 h3 h4 => goneClo_c (HP.out.bel HW.out) HS.out HB.out HN.out hok W b base h1 h2 h3 h4)).mono ?_
  rintro e w1 ⟨v0, v1, bvs, rfl, ho, hb1⟩
  obtain ⟨q, hq⟩ : ∃ q, chP p (goneF p name) = q := ⟨_, rfl⟩
  obtain ⟨ok, hok⟩ : ∃ ok, chB p (goneF p name) = ok := ⟨_, rfl⟩
  rw [hq] at ho
  rw [hok]
  have HQ := Lib.hid hq
  have HK := Lib.hid hok
  clear hq hok
  have HO := Lib.hid ho
  have HB1 := Lib.hid hb1
  have r0 := (HR.out.bel HB1.out).cell 0
  have r1 := (HR.out.bel HB1.out).cell 1
  have f0 := (HR.out.bel HB1.out).free 0
  have f1 := (HR.out.bel HB1.out).free 1
  simp at r0 r1
  clear ho hb1
  obtain ⟨A2, A3, c2, c3, rfl, rfl, hpi⟩ := HO.out.reads
  clear hpi
  go_wp2
  have hR2 := HR.out.bel HB1.out
  have hR3 := hR2.set 0 (.slice A2 q.slots.length c2) (cs' := #[.slice A2 q.slots.length c2, .slice none 0 0]) rfl
  have hR4 := hR3.set 1 (.slice A3 q.vols.length c3) (cs' := #[.slice A2 q.slots.length c2, .slice A3 q.vols.length c3]) rfl
  have hb5 := bel_set (bel_set (HW.out.tr HB1.out) (show w.heap.size ≤ w.heap.size + 1 + 1 by omega) 0 (.slice A2 q.slots.length c2)) (show w.heap.size ≤ w.heap.size + 1 + 1 by omega) 1 (.slice A3 q.vols.length c3)
  have hop4 := (HO.out.far hR2 (by decide) (by decide) (by decide) 0 (.slice A2 q.slots.length c2)).far hR3 (by decide) (by decide) (by decide) 1 (.slice A3 q.vols.length c3)
  refine bodyPost_ret (results_ct rfl _ _ (w.heap.size + 1 + 1) 30 #[.slice A2 q.slots.length c2, .slice A3 q.vols.length c3] (0, 0) _ rfl hR4 Try.underlying30 rfl (by kernel_rfl)) rfl ?_
  rw [HQ.out, HK.out]
  exact ⟨_, _, _, rfl, hop4.lower HW.out.size, hb5⟩
end Go.Proofs.Ytpobgjkmjlmafaa
/- A volume done away with: what the reference does. -/

namespace Go.Proofs.Ytpobgjkmjlmafaa
open Go.RowKit Go.Proofs.YtpobgjkmjlmafaaW.PrintWords Go.Proofs.YtpobgjkmjlmafaaW.PrintLast
set_option linter.unusedVariables false
set_option linter.unusedSimpArgs false

theorem step_append_own {P : Program} {ops : Array Oper} {o : Oper} {a : Act} {Q : Exit → Act → World → Prop} {Kc : Act → World → Prop} {W : World} (base : Nat) (hw : Region.wanted o (yielded ops a.tmps) = true) (s x : Operand) (t e : TypeId) (z : Value) (size bytes : Nat)
    (ho : o.op = .call { callee := .builtin .append, args := #[s, x], argTypes := #[t, t] })
    (ht : P.underlying t = some (.slice e)) (hinfo : (P.info? e).map (fun i => (i.zero, i.size, i.bytes)) = some (some z, size, bytes)) (hz : z.cells.size = size) (hs0 : 0 < size) (hb0 : 0 < bytes)
    (v : Value) (n : Nat) (xs : List Value) (A : Option Addr) (m c : Nat) (news : List Value) (hs : a.eval s = v) (hx : a.eval x = .slice A m c) (hm : news.length = m * size)
    (hsrc : 0 < m → ∃ ad, A = some ad ∧ ∀ j u, news[j]? = some u → W.cell? (ad.add j) = some u) (h1 : ∀ u ∈ news, u.oneCell' = true)
    (HO : W.ownsRow base e size v n xs) (hbase : base ≤ W.heap.size) (hl : (n + m) * bytes ≤ 140737488355328)
    (h : ∀ v1 w1, w1.ownsRow base e size v1 (n + m) (xs ++ news) → W.grownBy w1 v.ownBlock → (v1.ownBlock = v.ownBlock ∨ ∃ b, v1.ownBlock = some b ∧ W.heap.size ≤ b) → Kc (a.put o.dst v1) w1) :
    if Region.wanted o (yielded ops a.tmps) = true then Oper.wp P o a W Kc Q else Kc (a.put o.dst undef) W := by
  obtain ⟨i0, hi, hzz⟩ := Option.map_eq_some_iff.1 hinfo
  simp only [Prod.mk.injEq] at hzz
  obtain ⟨hz0, hz1, hz2⟩ := hzz
  have hlen : n + m ≤ 140737488355328 := Nat.le_trans (Nat.le_mul_of_pos_right _ hb0) hl
  have hrun : ∃ v1 w1, (Builtin.append_ #[t, t] o.type #[v, .slice A m c]).run P W = .ok v1 w1 ∧ w1.ownsRow base e size v1 (n + m) (xs ++ news) ∧ W.grownBy w1 v.ownBlock ∧ (v1.ownBlock = v.ownBlock ∨ ∃ b, v1.ownBlock = some b ∧ W.heap.size ≤ b) := by
    rcases A with _ | ad
    · have h0 : m = 0 := by
        rcases Nat.eq_zero_or_pos m with h0 | h0
        · exact h0
        · obtain ⟨ad, h, _⟩ := hsrc h0
          cases h
      subst h0
      obtain rfl : news = [] := List.eq_nil_of_length_eq_zero (by simpa using hm)
      refine ⟨v, W, ?_, by rw [List.append_nil]; exact HO, World.grownBy.refl W _, .inl rfl⟩
      rcases HO.2 with ⟨rfl, hn⟩ | ⟨g, cap, cur, rfl, _, _, hnc, _⟩
      · simp [Builtin.append_, run_underlying ht, sizeOf, typeInfo, hi, Builtin.lenOf, Builtin.firstCells]
      · simp [Builtin.append_, run_underlying ht, sizeOf, typeInfo, hi, Builtin.lenOf, Builtin.firstCells, hnc, storeCells]
    · have hnc : ∀ j u, news[j]? = some u → W.cell? (ad.add j) = some u := by
        intro j u hu
        have hj := ltQ hu
        rcases Nat.eq_zero_or_pos m with h0 | h0
        · rw [hm, h0] at hj; omega
        · obtain ⟨ad', e, h⟩ := hsrc h0
          cases e
          exact h j u hu
      obtain ⟨v1, w1, hrun, h2, hg, _, hat⟩ := run_append_own_at (P := P) W base t o.type e i0 z size bytes ht hi hz0 hz1 hz2 hz hs0 v n xs HO ad m c news hm hnc h1 (by simp only [maxLen]; omega) hl hbase
      refine ⟨v1, w1, hrun, h2, hg, ?_⟩
      rcases hat with hat | hat
      · exact .inl hat
      · exact .inr ⟨_, hat, Nat.le_refl _⟩
  obtain ⟨v1, w1, hr1, h2, hg, hat⟩ := hrun
  rw [if_pos hw]
  unfold Oper.wp execOp
  simp only [ho, resolve, invoke, builtin, Sem.run_bind, Sem.run_pure, Result.andThen_ok, List.map_toArray, List.map_cons, List.map_nil, hs, hx, hr1]
  exact h v1 w1 h2 hg hat

theorem own_slice_eq {g g' n n' c c' : Nat} (h : Value.slice (some ⟨g, 0, none⟩) n c = Value.slice (some ⟨g', 0, none⟩) n' c') : g = g' ∧ n = n' ∧ c = c' := by simpa using h
theorem slice_eq {A A' : Option Addr} {n n' c c' : Nat} (h : Value.slice A n c = Value.slice A' n' c') : A = A' ∧ n = n' ∧ c = c' := by simpa using h
theorem ar_gone {i n : Nat} (h : i < n) : 0 + i + (n - (i + 1)) = n - 1 := by omega
theorem ar_if {i a c : Nat} (h : a ≠ c) : (if a < i then a else a + 1) ≠ (if c < i then c else c + 1) := by split <;> split <;> omega
/-- What is kept while a pool of one's own is turned: what lies below base, and every block that holds no part of a pool. -/
structure Fr (base : Nat) (w W : World) : Prop where
  b : Below base w W
  k : ∀ (g : Nat) (cs : Array Value) (t : TypeId), 100 ≠ t → 43 ≠ t → 3 ≠ t → Blk w g cs t → Blk W g cs t
theorem Fr.ofBel {base : Nat} {w W : World} (h : Bel w W) (hb : base ≤ w.heap.size) : Fr base w W := ⟨h.mono hb, fun g cs t _ _ _ hB => hB.bel h⟩
theorem Fr.bel {base : Nat} {w W W' : World} (h : Fr base w W) (hb : Bel W W') (hbase : base ≤ w.heap.size) : Fr base w W' := ⟨h.b.trans (hb.mono (Nat.le_trans hbase h.b.size)), fun g cs t h1 h2 h3 hB => (h.k g cs t h1 h2 h3 hB).bel hb⟩
theorem Fr.set {base : Nat} {w W : World} (h : Fr base w W) {b : Nat} (hb : w.heap.size ≤ b) (hbase : base ≤ w.heap.size) (i : Nat) (u : Value) : Fr base w (W.setCell ⟨b, i, none⟩ u) :=
  ⟨h.b.setCell (p := ⟨b, i, none⟩) (Nat.le_trans hbase hb) u, fun g cs t h1 h2 h3 hB => (h.k g cs t h1 h2 h3 hB).apart (by have := hB.lt; omega) i u⟩
theorem Fr.drew {base : Nat} {w W : World} (h : Fr base w W) : Fr base w W.drew := ⟨h.b.drew, fun g cs t h1 h2 h3 hB => (h.k g cs t h1 h2 h3 hB).bel (Below.refl _ _).drew⟩
theorem Fr.slots {base : Nat} {w W W' : World} (h : Fr base w W) {v : Value} {s : List Slot} (hos : OwnS W base v s) (hg : W.grownBy W' v.ownBlock) (hbase : base ≤ w.heap.size) : Fr base w W' :=
  ⟨h.b.grown hg (Nat.le_trans hbase h.b.size) (own_base hos), fun g cs t h1 h2 h3 hB => (h.k g cs t h1 h2 h3 hB).grown hg (own_blk_ne hos (h.k g cs t h1 h2 h3 hB) h1)⟩
/-- What a change of a pool of one's own leaves: the pool turned, or as it was. -/
def TurnsP (base : Nat) (p : Pool) (r : Option Pool) (w : World) (e : Ending) (w' : World) : Prop := ∃ v0 v1 bvs, e = .returned (.tuple #[.agg #[v0, v1], .bool r.isSome]) ∧ OwnP w' base v0 v1 (r.getD p) bvs ∧ Fr base w w'

set_option maxHeartbeats 4000000 in
set_option maxRecDepth 10000 in
theorem l11Gone_c {w : World} {base : Nat} {v0 v1 : Value} {bvs : List Value} {p : Pool} {name : ByteArray} (h : OwnP w base v0 v1 p bvs) (hs : SmallP p) (hp : PoolP p) (hbase : base ≤ w.heap.size) :
    Calls Try.prog 63 #[.agg #[v0, v1], .string name] w (TurnsP base p (goneF p name) w) := by
  have HS := Lib.hid hs
  have HK := Lib.hid hp
  obtain ⟨A0, A1, c0, c1, rfl, rfl, hpi⟩ := h.reads
  have HP := Lib.hid h
  have HI := Lib.hid hpi
  have hlv := HS.out.vols.len
  clear h hs hp hpi
  go_enter Try.func63, Try.ntmps63
  go_wp2_with fail
  have hB : Blk ((w.alloc (.cells #[.slice A0 p.slots.length c0, .slice A1 p.vols.length c1] 30)).alloc (.cells #[.slice none 0 0, .slice none 0 0] 30)) w.heap.size #[.slice A0 p.slots.length c0, .slice A1 p.vols.length c1] 30 := (Blk.new _ _ _).alloc _
  have hR : Blk ((w.alloc (.cells #[.slice A0 p.slots.length c0, .slice A1 p.vols.length c1] 30)).alloc (.cells #[.slice none 0 0, .slice none 0 0] 30)) (w.heap.size + 1) #[.slice none 0 0, .slice none 0 0] 30 := Blk.nw2 _ _ _ _
  have hW : Bel w ((w.alloc (.cells #[.slice A0 p.slots.length c0, .slice A1 p.vols.length c1] 30)).alloc (.cells #[.slice none 0 0, .slice none 0 0] 30)) := bel_alloc (bel_alloc (Below.refl _ _) _) _
  generalize ((w.alloc (.cells #[.slice A0 p.slots.length c0, .slice A1 p.vols.length c1] 30)).alloc (.cells #[.slice none 0 0, .slice none 0 0] 30)) = W0 at hB hR hW ⊢
  refine (l11At_c _ p.vols A1 c1 name _ (HI.out.bel hW).v hlv).mono ?_
  rintro e w1 ⟨rfl, hb1⟩
  have HB := Lib.hid (hB.bel hb1)
  have HR := Lib.hid (hR.bel hb1)
  have HW := Lib.hid (hW.tr hb1)
  have HO := Lib.hid (HP.out.bel (hW.tr hb1))
  have q0 := HB.out.cell 0
  have q1 := HB.out.cell 1
  have r0 := HR.out.cell 0
  have r1 := HR.out.cell 1
  have f0 := HR.out.free 0
  have f1 := HR.out.free 1
  simp at q0 q1 r0 r1
  clear hB hR hW hb1
  by_cases hn : volIdx p.vols name < 0
  · have HG := Lib.hid (show goneF p name = none by unfold goneF; rw [if_pos hn])
    go_wp2
    have hR3 := HR.out.set 0 (.slice A0 p.slots.length c0) (cs' := #[.slice A0 p.slots.length c0, .slice none 0 0]) rfl
    have hR4 := hR3.set 1 (.slice A1 p.vols.length c1) (cs' := #[.slice A0 p.slots.length c0, .slice A1 p.vols.length c1]) rfl
    have hb5 := bel_set (bel_set HW.out (Nat.le_succ _) 0 (.slice A0 p.slots.length c0)) (Nat.le_succ _) 1 (.slice A1 p.vols.length c1)
    have hop4 := (HO.out.far HR.out (by decide) (by decide) (by decide) 0 (.slice A0 p.slots.length c0)).far hR3 (by decide) (by decide) (by decide) 1 (.slice A1 p.vols.length c1)
    refine bodyPost_ret (results_ct rfl _ _ (w.heap.size + 1) 30 #[.slice A0 p.slots.length c0, .slice A1 p.vols.length c1] (0, 0) _ rfl hR4 Try.underlying30 rfl (by kernel_rfl)) rfl ?_
    rw [HG.out]
    exact ⟨_, _, _, rfl, hop4, Fr.ofBel hb5 hbase⟩
  · obtain ⟨i, v, hi, hv, hvn⟩ := volIdx_yes hn
    have HG := Lib.hid (show goneF p name = some ⟨dropAll p.slots v.blocks, p.vols.eraseIdx i⟩ by unfold goneF; rw [if_neg hn, hi, Int.toNat_natCast]; unfold volAt; rw [Int.toNat_natCast, getD_of hv])
    have HV := Lib.hid hv
    have hil := ltQ hv
    have hx1 : v.blocks.length ≤ 1048576 := HS.out.vols.blocks v (List.mem_of_getElem? HV.out)
    clear hn hvn hv
    have hin : ¬ ((i : Int) < 0) := by omega
    rw [hi]
    have hbw : base ≤ w.heap.size := hbase
    clear q0 q1 r0 r1 f0 f1
    go_wp2
    go_loopg [7] v.blocks.length (fun g v7 W => ∃ k : Nat, g + k = v.blocks.length ∧ v7 = .int .i64 k ∧ Blk W w.heap.size #[.slice A0 p.slots.length c0, .slice A1 p.vols.length c1] 30 ∧ Blk W (w.heap.size + 1) #[.slice none 0 0, .slice none 0 0] 30 ∧ OwnS W base (.slice A0 p.slots.length c0) (dropAll p.slots (v.blocks.take k)) ∧ OwnV W base (.slice A1 p.vols.length c1) p.vols bvs ∧ Fr base w W)
    case atStart => exact ⟨0, rfl, rfl, HB.out, HR.out, HO.out.s, HO.out.v, Fr.ofBel HW.out hbase⟩
    case round =>
      obtain ⟨k, hk, rfl, hB, hR, hos, hov, hbel⟩ := hrel
      obtain ⟨g, cap, bv, hbv, ev, hg1, hg2, hcap, hc, hc', hf, hf'⟩ := hov.row.at HV.out
      obtain ⟨rfl, -, rfl⟩ := by simpa using ev
      obtain ⟨Ab, cb, rfl, hcb, hCb⟩ := (hov.inner i v bv HV.out hbv).reads
      have q0 := hB.cell 0
      have q1 := hB.cell 1
      have fq0 := hB.free 0
      have fq1 := hB.free 1
      simp at q0 q1
      by_cases hlt : k < v.blocks.length
      · obtain ⟨x, hx⟩ := getQ hlt
        have hxr := (volOk_parts (HK.out.v.v i v HV.out)).1 x (List.mem_of_getElem? hx)
        obtain ⟨ad2, rfl, hcx⟩ := at_int hCb hx
        have HQ := Lib.hid (And.intro (And.intro hB hR) (And.intro hos (And.intro hov hbel)))
        have HBV := Lib.hid hbv
        clear hB hR hov hbel hCb ev hbv
        by_cases h0 : 0 < x
        · obtain ⟨m, rfl⟩ : ∃ m : Nat, x = (m : Int) + 1 := ⟨(x - 1).toNat, by omega⟩
          obtain ⟨y, hy, hy1, hy2⟩ := drop_at HK.out HV.out hx
          have HT := Lib.hid (show dropAll p.slots (v.blocks.take (k + 1)) = dropS (dropAll p.slots (v.blocks.take k)) m by rw [take_snoc hx, dropAll_snoc, if_pos h0]; congr 1; omega)
          have hdl : (dropAll p.slots (v.blocks.take k)).length ≤ 1048576 := by rw [dropAll_len]; exact HS.out.slots.len
          have HY := Lib.hid hy
          have HX := Lib.hid hx
          have HD := Lib.hid hdl
          have HOS := Lib.hid (show OwnS wr.drew base (.slice A0 p.slots.length c0) (dropAll p.slots (v.blocks.take k)) from hos)
          clear hx hy hdl hos
          go_wp2
          refine start_ (n := 14) (S := fun w' => w'.cell? ⟨w.heap.size, 0, none⟩ = some (.slice A0 p.slots.length c0) ∧ w'.cell? ⟨w.heap.size, 1, none⟩ = some (.slice (some ⟨g, 0, none⟩) p.vols.length c1) ∧ w'.cell? ⟨g, i * 2 + 1, none⟩ = some (.slice (some ad2) v.blocks.length cb) ∧ w'.cell? (ad2.add k) = some (.int .i64 ((m : Int) + 1))) (ds := [13]) #[false, false, false, false, false, false, false, false, false, false, false, false, false, false] (by kernel_rfl) rfl rfl ⟨q0, q1, hc', hcx⟩ (fun hHeld => ?_)
          refine pure_ (i := 0) (N := some 35) (v := ?_) (a' := ?_) #[true, false, false, false, false, false, false, false, false, false, false, false, false, false] rfl rfl (by kernel_rfl) (fun _ _ _ h => h) (Or.inl ⟨by rfl, ?_⟩) ?_ ?_
          rotate_left
          · intro w'
            go_simp
            with_reducible rfl
          rotate_left
          · simp only [Act.put, List.setIfInBounds_toArray, List.set_cons_zero, List.set_cons_succ, i64_w, i32_w]
            rfl
          refine pure_ (i := 2) (N := some 37) (v := ?_) (a' := ?_) #[true, false, true, false, false, false, false, false, false, false, false, false, false, false] rfl rfl (by kernel_rfl) (fun _ _ _ h => h) (Or.inl ⟨by rfl, ?_⟩) ?_ ?_
          rotate_left
          · intro w'
            go_simp
            with_reducible rfl
          rotate_left
          · simp only [Act.put, List.setIfInBounds_toArray, List.set_cons_zero, List.set_cons_succ, i64_w, i32_w]
            rfl
          refine pure_ (i := 4) (N := some 39) (v := ?_) (a' := ?_) #[true, false, true, false, true, false, false, false, false, false, false, false, false, false] rfl rfl (by kernel_rfl) (fun _ _ _ h => h) (Or.inl ⟨by rfl, ?_⟩) ?_ ?_
          rotate_left
          · intro w'
            go_simp
            with_reducible rfl
          rotate_left
          · simp only [Act.put, List.setIfInBounds_toArray, List.set_cons_zero, List.set_cons_succ, i64_w, i32_w]
            rfl
          refine pure_ (i := 8) (N := some 43) (v := ?_) (a' := ?_) #[true, false, true, false, true, false, false, false, true, false, false, false, false, false] rfl rfl (by kernel_rfl) (fun _ _ _ h => h) (Or.inl ⟨by rfl, ?_⟩) ?_ ?_
          rotate_left
          · intro w'
            go_simp
            with_reducible rfl
          rotate_left
          · simp only [Act.put, List.setIfInBounds_toArray, List.set_cons_zero, List.set_cons_succ, i64_w, i32_w]
            rfl
          refine take_ (i := 1) (N := some 36) (v := ?_) (a' := ?_) #[true, true, true, false, true, false, false, false, true, false, false, false, false, false] rfl rfl (by kernel_rfl) (fun _ _ _ h => h) (Or.inl ⟨by rfl, ?_⟩) hHeld ?_ ?_
          rotate_left
          · rintro w' ⟨s0, s1, s2, s3⟩
            go_simp
            with_reducible rfl
          rotate_left
          · simp only [Act.put, List.setIfInBounds_toArray, List.set_cons_zero, List.set_cons_succ, i64_w, i32_w]
            rfl
          refine take_ (i := 3) (N := some 38) (v := ?_) (a' := ?_) #[true, true, true, true, true, false, false, false, true, false, false, false, false, false] rfl rfl (by kernel_rfl) (fun _ _ _ h => h) (Or.inl ⟨by rfl, ?_⟩) hHeld ?_ ?_
          rotate_left
          · rintro w' ⟨s0, s1, s2, s3⟩
            go_simp
            with_reducible rfl
          rotate_left
          · simp only [Act.put, List.setIfInBounds_toArray, List.set_cons_zero, List.set_cons_succ, i64_w, i32_w]
            rfl
          refine pure_ (i := 5) (N := some 40) (v := ?_) (a' := ?_) #[true, true, true, true, true, true, false, false, true, false, false, false, false, false] rfl rfl (by kernel_rfl) (fun _ _ _ h => h) (Or.inl ⟨by rfl, ?_⟩) ?_ ?_
          rotate_left
          · intro w'
            go_simp
            with_reducible rfl
          rotate_left
          · simp only [Act.put, List.setIfInBounds_toArray, List.set_cons_zero, List.set_cons_succ, i64_w, i32_w]
            rfl
          refine pure_ (i := 6) (N := some 41) (v := ?_) (a' := ?_) #[true, true, true, true, true, true, true, false, true, false, false, false, false, false] rfl rfl (by kernel_rfl) (fun _ _ _ h => h) (Or.inl ⟨by rfl, ?_⟩) ?_ ?_
          rotate_left
          · intro w'
            go_simp
            with_reducible rfl
          rotate_left
          · simp only [Act.put, List.setIfInBounds_toArray, List.set_cons_zero, List.set_cons_succ, i64_w, i32_w]
            rfl
          refine take_ (i := 7) (N := some 42) (v := ?_) (a' := ?_) #[true, true, true, true, true, true, true, true, true, false, false, false, false, false] rfl rfl (by kernel_rfl) (fun _ _ _ h => h) (Or.inl ⟨by rfl, ?_⟩) hHeld ?_ ?_
          rotate_left
          · rintro w' ⟨s0, s1, s2, s3⟩
            go_simp
            with_reducible rfl
          rotate_left
          · simp only [Act.put, List.setIfInBounds_toArray, List.set_cons_zero, List.set_cons_succ, i64_w, i32_w]
            rfl
          refine pure_ (i := 9) (N := some 44) (v := ?_) (a' := ?_) #[true, true, true, true, true, true, true, true, true, true, false, false, false, false] rfl rfl (by kernel_rfl) (fun _ _ _ h => h) (Or.inl ⟨by rfl, ?_⟩) ?_ ?_
          rotate_left
          · intro w'
            go_simp
            with_reducible rfl
          rotate_left
          · simp only [Act.put, List.setIfInBounds_toArray, List.set_cons_zero, List.set_cons_succ, i64_w, i32_w]
            rfl
          refine take_ (i := 10) (N := some 45) (v := ?_) (a' := ?_) #[true, true, true, true, true, true, true, true, true, true, true, false, false, false] rfl rfl (by kernel_rfl) (fun _ _ _ h => h) (Or.inl ⟨by rfl, ?_⟩) hHeld ?_ ?_
          rotate_left
          · rintro w' ⟨s0, s1, s2, s3⟩
            go_simp
            with_reducible rfl
          rotate_left
          · simp only [Act.put, List.setIfInBounds_toArray, List.set_cons_zero, List.set_cons_succ, i64_w, i32_w]
            rfl
          refine one_ (i := 11) (N := some 46) #[true, true, true, true, true, true, true, true, true, true, true, true, false, false] rfl rfl (by kernel_rfl) (by decide) (fun K hK => ?_)
          refine goes_ Try.func118 (by kernel_rfl) rfl #[.slice A0 p.slots.length c0, .int .i64 ((m : Int) + 1)] (by rfl) rfl rfl (by simp only [List.map_toArray, List.map_cons, List.map_nil]; rfl) ?_
          with_reducible refine (l2Drop_c HOS.out HY.out HD.out hy1 hy2).mono ?_
          rintro e w2 ⟨rfl, ho2, hg2⟩
          obtain ⟨⟨hB, hR⟩, hos, hov, hbel⟩ := HQ.out
          have hB2 := Blk.grown (w := wr.drew) hB hg2 (own_blk_ne hos hB (by decide))
          have hR2 := Blk.grown (w := wr.drew) hR hg2 (own_blk_ne hos hR (by decide))
          have hov2 := OwnV.otherS (w := wr.drew) (hov.bel (Below.refl _ _).drew) hos hg2
          have hbel2 := Fr.slots (W := wr.drew) hbel.drew hos hg2 hbase
          have q0' := hB2.cell 0
          have q1' := hB2.cell 1
          have fq0' := hB2.free 0
          have fq1' := hB2.free 1
          have d1 : w2.cell? ⟨g, i * 2 + 1, none⟩ = some (.slice (some ad2) v.blocks.length cb) := by obtain ⟨g', cap', bv', e1, e2, _, _, _, _, e3, _⟩ := hov2.row.at HV.out; have e2 := own_slice_eq e2; obtain ⟨rfl, -, rfl⟩ := e2; obtain rfl := Option.some.inj (HBV.out.symm.trans e1); exact e3
          have d2 : w2.cell? (ad2.add k) = some (.int .i64 ((m : Int) + 1)) := by obtain ⟨A', c', e1, _, hC'⟩ := (hov2.inner i v _ HV.out HBV.out).reads; have e1 := slice_eq e1; obtain ⟨rfl, -⟩ := e1; obtain ⟨ad', e2, e3⟩ := at_int hC' HX.out; obtain rfl := Option.some.inj e2; exact e3
          simp at q0' q1'
          have HQ2 := Lib.hid (And.intro (And.intro hB2 hR2) (And.intro ho2 (And.intro hov2 hbel2)))
          clear hB hR hos hov hbel hB2 hR2 hov2 hbel2 ho2 hg2
          refine ⟨_, rfl, ?_⟩
          refine hK.out _ _ ⟨q0', q1', d1, d2⟩ (fun hHeld => ?_)
          clear hK K
          refine norm_ (a' := ?_) ?_ ?_
          rotate_left
          · show Act.put _ (some 46) _ = _
            simp only [Act.put, List.setIfInBounds_toArray, List.set_cons_zero, List.set_cons_succ, i64_w, i32_w]
            rfl
          refine pure_ (i := 12) (N := some 47) (v := ?_) (a' := ?_) #[true, true, true, true, true, true, true, true, true, true, true, true, true, false] rfl rfl (by kernel_rfl) (fun _ _ _ h => h) (Or.inl ⟨by rfl, ?_⟩) ?_ ?_
          rotate_left
          · intro w'
            go_simp
            with_reducible rfl
          rotate_left
          · simp only [Act.put, List.setIfInBounds_toArray, List.set_cons_zero, List.set_cons_succ, i64_w, i32_w]
            rfl
          refine last_ (i := 13) (N := none) #[true, true, true, true, true, true, true, true, true, true, true, true, true, true] rfl rfl (by kernel_rfl) (by decide) (fun K hK => ?_)
          refine skip_ (w1 := ?_) (by rfl) rfl ?_ ?_
          rotate_left
          · go_simp
            rfl
          refine hK.out _ _ ?_
          clear hK K
          refine done_ (by kernel_rfl) ?_
          have H3 := Lib.hid (And.intro (HQ2.out.1.1.set 0 (.slice A0 p.slots.length c0) (cs' := #[.slice A0 p.slots.length c0, .slice (some ⟨g, 0, none⟩) p.vols.length c1]) rfl) (And.intro (HQ2.out.1.2.apart (show w.heap.size ≠ w.heap.size + 1 by omega) 0 (.slice A0 p.slots.length c0))
            (And.intro (OwnS.far HQ2.out.2.1 HQ2.out.1.1 (by decide) 0 (.slice A0 p.slots.length c0)) (And.intro (HQ2.out.2.2.1.far HQ2.out.1.1 (by decide) (by decide) 0 (.slice A0 p.slots.length c0)) (HQ2.out.2.2.2.set (Nat.le_refl _) hbase 0 (.slice A0 p.slots.length c0))))))
          clear d1 d2 q0' q1' fq0' fq1' q0 q1 fq0 fq1 hc hc' hf hf' hcx hHeld
          go_wp2
          go_roundg (v.blocks.length - (k + 1))
          case rel =>
            refine ⟨k + 1, by omega, int_eq (by omega), H3.out.1, H3.out.2.1, ?_, H3.out.2.2.2.1, H3.out.2.2.2.2⟩
            rw [HT.out]
            have h5 := H3.out.2.2.1
            unfold OwnS at h5 ⊢
            exact h5
          case measure => omega
        · have HT := Lib.hid (show dropAll p.slots (v.blocks.take (k + 1)) = dropAll p.slots (v.blocks.take k) by rw [take_snoc hx, dropAll_snoc, if_neg h0])
          have HOS := Lib.hid hos
          clear hx hos
          go_wp2
          go_roundg (v.blocks.length - (k + 1))
          case rel =>
            obtain ⟨⟨hB, hR⟩, _, hov, hbel⟩ := HQ.out
            exact ⟨k + 1, by omega, int_eq (by omega), hB, hR, by rw [HT.out]; exact HOS.out, hov, hbel⟩
          case measure => omega
      · have hkl : k = v.blocks.length := by omega
        rw [hkl, List.take_length] at hos
        have hone := one_flatV (zs := p.vols.zip bvs) fun z hz => hov.one z.2 (List.of_mem_zip hz).2
        obtain ⟨_, hnc, hmax, hL, rest, hrl, hg⟩ := own_open hov.row.row
        have hlen := hov.row.len
        obtain ⟨L, hLe⟩ : ∃ L, L = (p.vols.zip bvs).flatMap encV := ⟨_, rfl⟩
        rw [← hLe] at hg hone hL
        have hz : (p.vols.eraseIdx i).length = p.vols.length - 1 := List.length_eraseIdx_of_lt hil
        have hzb : (bvs.eraseIdx i).length = p.vols.length - 1 := by rw [List.length_eraseIdx_of_lt (by omega), hlen]
        have HF := Lib.hid (show ((p.vols.eraseIdx i).zip (bvs.eraseIdx i)).flatMap encV = L.take (i * 2) ++ L.drop ((i + 1) * 2) by rw [zip_eraseIdx _ _ _ hlen, flat_erase encV_len, hLe])
        have hgd : wr.drew.heap[g]? = some (.cells (L ++ rest).toArray 43 (0, 0)) := hg
        obtain ⟨Ad, hA, hsrc⟩ : ∃ A : Addr, (if c1 = i + 1 then some (⟨g, 0, none⟩ : Addr) else some ⟨g, (i + 1) * 2, none⟩) = some A ∧ (∀ w' : World, w'.heap[g]? = some (.cells (L ++ rest).toArray 43 (0, 0)) → ∀ t u, (L.drop ((i + 1) * 2))[t]? = some u → w'.cell? (A.add t) = some u) := by
          by_cases hc : c1 = i + 1
          · refine ⟨⟨g, 0, none⟩, by simp [hc], fun w' hw' t u hu => ?_⟩
            have h0 := ltQ hu
            rw [List.length_drop, hL] at h0
            omega
          · refine ⟨⟨g, (i + 1) * 2, none⟩, by simp [hc], fun w' hw' t u hu => ?_⟩
            rw [Addr.add_lit, cell_of_row hw']
            have h0 := ltQ hu
            rw [List.length_drop] at h0
            rw [List.getElem?_append_left (by omega)]
            rwa [List.getElem?_drop] at hu
        have hq := hgd
        have HQ := Lib.hid (And.intro (And.intro hB hR) (And.intro hos (And.intro hov hbel)))
        have HG2 := Lib.hid hg
        have HSR := Lib.hid hsrc
        have HO1 := Lib.hid hone
        have HL := Lib.hid hL
        have HZ := Lib.hid (And.intro hz hzb)
        have n1 := Lib.hid (show (L.take (i * 2)).length = i * 2 by rw [List.length_take, hL]; omega)
        have n2 := Lib.hid (show (L.drop ((i + 1) * 2)).length = (p.vols.length - (i + 1)) * 2 by rw [List.length_drop, hL]; omega)
        have n3 := Lib.hid (show (0 + i) * 40 ≤ 140737488355328 by omega)
        have n4 := Lib.hid (show (0 + i + (p.vols.length - (i + 1))) * 40 ≤ 140737488355328 by omega)
        have n5 : Hid (∀ t u, (L.take (i * 2))[t]? = some u → (L ++ rest)[t]? = some u) := fun t u hu => by
          have h9 := ltQ hu
          rw [List.length_take] at h9
          rw [List.getElem?_append_left (by omega)]
          rwa [List.getElem?_take, if_pos (by omega)] at hu
        have hmin := hbel.b.size
        clear hB hR hos hov hbel hCb ev hbv hone hg hgd hq hsrc hL hLe hz hzb hrl hlen hc hf hf'
        have hic : i ≤ c1 := by omega
        have hjc : i + 1 ≤ c1 := by omega
        have hi1 : (0 : Int) ≤ (i : Int) + 1 := by omega
        have hi2 : (i : Int) + 1 ≤ (p.vols.length : Int) := by omega
        have hi3 : ((i : Int) + 1).toNat = i + 1 := by omega
        have hw64 : wrap64 ((i : Int) + 1) = (i : Int) + 1 := by unfold wrap64; omega
        go_wp2
        refine start_ (n := 14) (S := fun w' => w'.cell? ⟨w.heap.size, 1, none⟩ = some (.slice (some ⟨g, 0, none⟩) p.vols.length c1)) (ds := [13]) #[false, false, false, false, false, false, false, false, false, false, false, false, false, false] (by kernel_rfl) rfl rfl (q1) (fun hHeld => ?_)
        refine pure_ (i := 1) (N := some 49) (v := ?_) (a' := ?_) #[false, true, false, false, false, false, false, false, false, false, false, false, false, false] rfl rfl (by kernel_rfl) (fun _ _ _ h => h) (Or.inl ⟨by rfl, ?_⟩) ?_ ?_
        rotate_left
        · intro w'
          go_simp
          with_reducible rfl
        rotate_left
        · simp only [Act.put, List.setIfInBounds_toArray, List.set_cons_zero, List.set_cons_succ, i64_w, i32_w]
          rfl
        refine pure_ (i := 3) (N := some 51) (v := ?_) (a' := ?_) #[false, true, false, true, false, false, false, false, false, false, false, false, false, false] rfl rfl (by kernel_rfl) (fun _ _ _ h => h) (Or.inl ⟨by rfl, ?_⟩) ?_ ?_
        rotate_left
        · intro w'
          go_simp
          with_reducible rfl
        rotate_left
        · simp only [Act.put, List.setIfInBounds_toArray, List.set_cons_zero, List.set_cons_succ, i64_w, i32_w]
          rfl
        refine pure_ (i := 6) (N := some 54) (v := ?_) (a' := ?_) #[false, true, false, true, false, false, true, false, false, false, false, false, false, false] rfl rfl (by kernel_rfl) (fun _ _ _ h => h) (Or.inl ⟨by rfl, ?_⟩) ?_ ?_
        rotate_left
        · intro w'
          go_simp
          with_reducible rfl
        rotate_left
        · simp only [Act.put, List.setIfInBounds_toArray, List.set_cons_zero, List.set_cons_succ, i64_w, i32_w]
          rfl
        refine pure_ (i := 8) (N := some 56) (v := ?_) (a' := ?_) #[false, true, false, true, false, false, true, false, true, false, false, false, false, false] rfl rfl (by kernel_rfl) (fun _ _ _ h => h) (Or.inl ⟨by rfl, ?_⟩) ?_ ?_
        rotate_left
        · intro w'
          go_simp
          with_reducible rfl
        rotate_left
        · simp only [Act.put, List.setIfInBounds_toArray, List.set_cons_zero, List.set_cons_succ, i64_w, i32_w]
          rfl
        refine pure_ (i := 9) (N := some 57) (v := ?_) (a' := ?_) #[false, true, false, true, false, false, true, false, true, true, false, false, false, false] rfl rfl (by kernel_rfl) (fun _ _ _ h => h) (Or.inl ⟨by rfl, ?_⟩) ?_ ?_
        rotate_left
        · intro w'
          go_simp
          with_reducible rfl
        rotate_left
        · simp only [Act.put, List.setIfInBounds_toArray, List.set_cons_zero, List.set_cons_succ, i64_w, i32_w]
          rfl
        refine take_ (i := 2) (N := some 50) (v := ?_) (a' := ?_) #[false, true, true, true, false, false, true, false, true, true, false, false, false, false] rfl rfl (by kernel_rfl) (fun _ _ _ h => h) (Or.inl ⟨by rfl, ?_⟩) hHeld ?_ ?_
        rotate_left
        · intro w' s0
          go_simp
          with_reducible rfl
        rotate_left
        · simp only [Act.put, List.setIfInBounds_toArray, List.set_cons_zero, List.set_cons_succ, i64_w, i32_w]
          rfl
        refine pure_ (i := 4) (N := some 52) (v := ?_) (a' := ?_) #[false, true, true, true, true, false, true, false, true, true, false, false, false, false] rfl rfl (by kernel_rfl) (fun _ _ _ h => h) (Or.inl ⟨by rfl, ?_⟩) ?_ ?_
        rotate_left
        · intro w'
          go_simp
          with_reducible rfl
        rotate_left
        · simp only [Act.put, List.setIfInBounds_toArray, List.set_cons_zero, List.set_cons_succ, i64_w, i32_w]
          rfl
        refine take_ (i := 7) (N := some 55) (v := ?_) (a' := ?_) #[false, true, true, true, true, false, true, true, true, true, false, false, false, false] rfl rfl (by kernel_rfl) (fun _ _ _ h => h) (Or.inl ⟨by rfl, ?_⟩) hHeld ?_ ?_
        rotate_left
        · intro w' s0
          go_simp
          with_reducible rfl
        rotate_left
        · simp only [Act.put, List.setIfInBounds_toArray, List.set_cons_zero, List.set_cons_succ, i64_w, i32_w]
          rfl
        refine pure_ (i := 10) (N := some 58) (v := ?_) (a' := ?_) #[false, true, true, true, true, false, true, true, true, true, true, false, false, false] rfl rfl (by kernel_rfl) (fun _ _ _ h => h) (Or.inl ⟨by rfl, ?_⟩) ?_ ?_
        rotate_left
        · intro w'
          go_simp
          with_reducible rfl
        rotate_left
        · simp only [Act.put, List.setIfInBounds_toArray, List.set_cons_zero, List.set_cons_succ, i64_w, i32_w]
          rfl
        refine one_ (i := 0) (N := some 48) #[true, true, true, true, true, false, true, true, true, true, true, false, false, false] rfl rfl (by kernel_rfl) (by decide) (fun K hK => ?_)
        refine value_ (w1 := ?_) (v := ?_) (by rfl) rfl ?_ ?_
        rotate_left 2
        · go_simp
          constructor
          · rfl
          · rfl
        have x0 : Bel wr ((wr.alloc (.cells #[] 43)).drew) := (bel_alloc (Below.refl _ _) _ : Bel wr (wr.alloc (.cells #[] 43))).drew
        have b0 := (HQ.out.1.1.bel x0).cell 1
        have X0 := Lib.hid x0
        clear x0
        refine hK.out _ _ (b0) (fun hHeld => ?_)
        clear hK K
        refine norm_ (a' := ?_) ?_ ?_
        rotate_left
        · show Act.put _ (some 48) _ = _
          simp only [Act.put, List.setIfInBounds_toArray, List.set_cons_zero, List.set_cons_succ, i64_w, i32_w]
          rfl
        refine one_ (i := 5) (N := some 53) #[true, true, true, true, true, true, true, true, true, true, true, false, false, false] rfl rfl (by kernel_rfl) (by decide) (fun K hK => ?_)
        refine step_append_own (W := (wr.alloc (.cells #[] 43)).drew) wr.heap.size (by rfl) (.tmp 48) (.tmp 52) 28 43 (.agg #[.string ⟨#[]⟩, .slice none 0 0]) 2 40 rfl Try.underlying28 info_vol rfl (by decide) (by decide) _ 0 [] (some ⟨g, 0, none⟩) i c1 (L.take (i * 2)) rfl rfl n1.out (fun _ => ⟨_, rfl, fun t u hu => ?a1⟩) (fun u hu => HO1.out u (List.mem_of_mem_take hu)) (own_empty wr wr.heap.size _ _ (Nat.le_refl _)) X0.out.size n3.out ?_
        case a1 => rw [Addr.add_lit, Nat.zero_add, cell_of_row ((X0.out.block g hg2).trans HG2.out)]; exact n5.out t u hu
        intro v2 w2 ho2 hgr2 hat2
        have x2 : Bel wr w2 := X0.out.grown hgr2 X0.out.size (fun k hk => by cases hk; exact Nat.le_refl _)
        obtain ⟨A2, c2, rfl, hc2⟩ := own_cap ho2
        have b2 := (HQ.out.1.1.bel x2).cell 1
        have X2 := Lib.hid x2
        have O2 := Lib.hid ho2
        clear x2 ho2 hgr2 hat2
        refine hK.out _ _ (b2) (fun hHeld => ?_)
        clear hK K
        refine norm_ (a' := ?_) ?_ ?_
        rotate_left
        · show Act.put _ (some 53) _ = _
          simp only [Act.put, List.setIfInBounds_toArray, List.set_cons_zero, List.set_cons_succ, i64_w, i32_w]
          rfl
        refine one_ (i := 11) (N := some 59) #[true, true, true, true, true, true, true, true, true, true, true, true, false, false] rfl rfl (by kernel_rfl) (by decide) (fun K hK => ?_)
        refine step_append_own (W := w2) wr.heap.size (by rfl) (.tmp 53) (.tmp 58) 28 43 (.agg #[.string ⟨#[]⟩, .slice none 0 0]) 2 40 rfl Try.underlying28 info_vol rfl (by decide) (by decide) _ (0 + i) ([] ++ L.take (i * 2)) (some Ad) (p.vols.length - (i + 1)) (c1 - (i + 1)) (L.drop ((i + 1) * 2)) rfl rfl n2.out (fun _ => ⟨_, rfl, HSR.out w2 ((X2.out.block g hg2).trans HG2.out)⟩) (fun u hu => HO1.out u (List.mem_of_mem_drop hu)) O2.out X2.out.size n4.out ?_
        intro v3 w3 ho3 hgr3 hat3
        have x3 : Bel wr w3 := X2.out.grown hgr3 X2.out.size (own_base O2.out)
        obtain ⟨A3, c3, rfl, hc3⟩ := own_cap ho3
        have hB3 := HQ.out.1.1.bel x3
        have b3 := hB3.cell 1
        have b30 := hB3.cell 0
        have f3 := hB3.free 1
        have b4 := (HQ.out.1.2.bel x3).cell 0
        have b5 := (HQ.out.1.2.bel x3).cell 1
        have f4 := (HQ.out.1.2.bel x3).free 0
        have f5 := (HQ.out.1.2.bel x3).free 1
        simp at b3 b30 b4 b5
        have X3 := Lib.hid x3
        have O3 := Lib.hid ho3
        clear x3 ho3 hgr3 hat3 hB3
        refine hK.out _ _ (b3) (fun hHeld => ?_)
        clear hK K
        refine norm_ (a' := ?_) ?_ ?_
        rotate_left
        · show Act.put _ (some 59) _ = _
          simp only [Act.put, List.setIfInBounds_toArray, List.set_cons_zero, List.set_cons_succ, i64_w, i32_w]
          rfl
        refine pure_ (i := 12) (N := some 60) (v := ?_) (a' := ?_) #[true, true, true, true, true, true, true, true, true, true, true, true, true, false] rfl rfl (by kernel_rfl) (fun _ _ _ h => h) (Or.inl ⟨by rfl, ?_⟩) ?_ ?_
        rotate_left
        · intro w'
          go_simp
          with_reducible rfl
        rotate_left
        · simp only [Act.put, List.setIfInBounds_toArray, List.set_cons_zero, List.set_cons_succ, i64_w, i32_w]
          rfl
        refine last_ (i := 13) (N := none) #[true, true, true, true, true, true, true, true, true, true, true, true, true, true] rfl rfl (by kernel_rfl) (by decide) (fun K hK => ?_)
        refine skip_ (w1 := ?_) (by rfl) rfl ?_ ?_
        rotate_left
        · go_simp
          rfl
        refine hK.out _ _ ?_
        clear hK K
        refine done_ (by kernel_rfl) ?_
        have hB3 := HQ.out.1.1.bel X3.out
        have hR3 := HQ.out.1.2.bel X3.out
        have hv3 : VRow w3 wr.heap.size (.slice A3 (0 + i + (p.vols.length - (i + 1))) c3) (p.vols.eraseIdx i) (bvs.eraseIdx i) := by
          refine ⟨HZ.out.2.trans HZ.out.1.symm, ?_⟩
          have h5 := O3.out
          rw [List.nil_append, ← HF.out] at h5
          rw [HZ.out.1]
          have e5 : 0 + i + (p.vols.length - (i + 1)) = p.vols.length - 1 := ar_gone hil
          rw [e5] at h5 ⊢
          exact h5
        have hov3 : OwnV w3 base (.slice A3 (0 + i + (p.vols.length - (i + 1))) c3) (p.vols.eraseIdx i) (bvs.eraseIdx i) :=
          ⟨⟨hv3.len, own_lower hv3.row (Nat.le_trans hbase hmin)⟩, fun m x b hx hb => (HQ.out.2.2.1.inner _ x b (erase_get hx) (erase_get hb)).bel X3.out, fun a c b b' k hne hb hb' => HQ.out.2.2.1.apart _ _ b b' k (ar_if hne) (erase_get hb) (erase_get hb')⟩
        have hos3 := HQ.out.2.1.bel X3.out
        have hbel3 : Fr base w w3 := HQ.out.2.2.2.bel X3.out hbase
        have hB4 := hB3.set 1 (.slice A3 (0 + i + (p.vols.length - (i + 1))) c3) (cs' := #[.slice A0 p.slots.length c0, .slice A3 (0 + i + (p.vols.length - (i + 1))) c3]) rfl
        have hR4 := hR3.apart (show w.heap.size ≠ w.heap.size + 1 by omega) 1 (.slice A3 (0 + i + (p.vols.length - (i + 1))) c3)
        have hos4 := hos3.far hB3 (by decide) 1 (.slice A3 (0 + i + (p.vols.length - (i + 1))) c3)
        have hov4 := hov3.far hB3 (by decide) (by decide) 1 (.slice A3 (0 + i + (p.vols.length - (i + 1))) c3)
        have hbel4 := hbel3.set (Nat.le_refl _) hbase 1 (.slice A3 (0 + i + (p.vols.length - (i + 1))) c3)
        have HF4 := Lib.hid (And.intro (And.intro hB4 hR4) (And.intro (And.intro hos4 hov4) hbel4))
        clear hB3 hR3 hv3 hov3 hos3 hbel3 hB4 hR4 hos4 hov4 hbel4
        rw [show 0 + i = i from Nat.zero_add i] at HF4
        go_wp2
        have hR5 := HF4.out.1.2.set 0 (.slice A0 p.slots.length c0) (cs' := #[.slice A0 p.slots.length c0, .slice none 0 0]) rfl
        have hR6 := hR5.set 1 (.slice A3 (i + (p.vols.length - (i + 1))) c3) (cs' := #[.slice A0 p.slots.length c0, .slice A3 (i + (p.vols.length - (i + 1))) c3]) rfl
        have hop6 : OwnP _ base _ _ ⟨dropAll p.slots v.blocks, p.vols.eraseIdx i⟩ (bvs.eraseIdx i) := ⟨(HF4.out.2.1.1.far HF4.out.1.2 (by decide) 0 (.slice A0 p.slots.length c0)).far hR5 (by decide) 1 (.slice A3 (i + (p.vols.length - (i + 1))) c3), (HF4.out.2.1.2.far HF4.out.1.2 (by decide) (by decide) 0 (.slice A0 p.slots.length c0)).far hR5 (by decide) (by decide) 1 (.slice A3 (i + (p.vols.length - (i + 1))) c3)⟩
        have hb6 := (HF4.out.2.2.set (Nat.le_succ _) hbase 0 (.slice A0 p.slots.length c0)).set (Nat.le_succ _) hbase 1 (.slice A3 (i + (p.vols.length - (i + 1))) c3)
        refine bodyPost_ret (results_ct rfl _ _ (w.heap.size + 1) 30 #[.slice A0 p.slots.length c0, .slice A3 (i + (p.vols.length - (i + 1))) c3] (0, 0) _ rfl hR6 Try.underlying30 rfl (by kernel_rfl)) rfl ?_
        rw [HG.out]
        exact ⟨_, _, _, rfl, hop6, hb6⟩
end Go.Proofs.Ytpobgjkmjlmafaa
/- PoolGone, as the reference does it. -/

namespace Go.Proofs.Ytpobgjkmjlmafaa
open Go.RowKit Go.Proofs.YtpobgjkmjlmafaaW.PrintWords Go.Proofs.YtpobgjkmjlmafaaW.PrintLast
set_option linter.unusedVariables false
set_option linter.unusedSimpArgs false

set_option maxHeartbeats 4000000 in
set_option maxRecDepth 10000 in
theorem specPoolGone_c {w : World} {A0 A1 : Option Addr} {c0 c1 : Nat} {p : Pool} {name : ByteArray} (h : PoolIn w A0 A1 c0 c1 p) (hs : SmallP p) :
    Calls Try.prog 25 #[.agg #[.slice A0 p.slots.length c0, .slice A1 p.vols.length c1], .string name] w (MadePB w (chP p (goneF p name)) (chB p (goneF p name))) := by
  have HS := Lib.hid hs
  have HP := Lib.hid h
  clear h hs
  go_enter Try.func25, Try.ntmps25
  go_wp2_with fail
  have hB : Blk ((w.alloc (.cells #[.slice A0 p.slots.length c0, .slice A1 p.vols.length c1] 30)).alloc (.cells #[.slice none 0 0, .slice none 0 0] 30)) w.heap.size #[.slice A0 p.slots.length c0, .slice A1 p.vols.length c1] 30 := (Blk.new _ _ _).alloc _
  have hR : Blk ((w.alloc (.cells #[.slice A0 p.slots.length c0, .slice A1 p.vols.length c1] 30)).alloc (.cells #[.slice none 0 0, .slice none 0 0] 30)) (w.heap.size + 1) #[.slice none 0 0, .slice none 0 0] 30 := Blk.nw2 _ _ _ _
  have hW : Bel w ((w.alloc (.cells #[.slice A0 p.slots.length c0, .slice A1 p.vols.length c1] 30)).alloc (.cells #[.slice none 0 0, .slice none 0 0] 30)) := bel_alloc (bel_alloc (Below.refl _ _) _) _
  have hl2 : w.heap.size + 2 ≤ ((w.alloc (.cells #[.slice A0 p.slots.length c0, .slice A1 p.vols.length c1] 30)).alloc (.cells #[.slice none 0 0, .slice none 0 0] 30)).heap.size := by simp
  generalize ((w.alloc (.cells #[.slice A0 p.slots.length c0, .slice A1 p.vols.length c1] 30)).alloc (.cells #[.slice none 0 0, .slice none 0 0] 30)) = W0 at hB hR hW hl2 ⊢
  have HB := Lib.hid hB
  have HR := Lib.hid hR
  have HW := Lib.hid hW
  clear hB hR hW
  refine (specPoolOk_in (HP.out.bel HW.out) HS.out).mono ?_
  rintro e w1 ⟨rfl, hb1⟩
  have HB1 := Lib.hid hb1
  have q0 := (HB.out.bel HB1.out).cell 0
  have q1 := (HB.out.bel HB1.out).cell 1
  have r0 := (HR.out.bel HB1.out).cell 0
  have r1 := (HR.out.bel HB1.out).cell 1
  have f0 := (HR.out.bel HB1.out).free 0
  have f1 := (HR.out.bel HB1.out).free 1
  simp at q0 q1 r0 r1
  clear hb1
  cases hok : poolOk p with
  | false =>
    have E1 := Lib.hid (show chP p (goneF p name) = noP by unfold chP; rw [hok]; rfl)
    have E2 := Lib.hid (show chB p (goneF p name) = false by unfold chB; rw [hok]; rfl)
    clear hok
    go_wp2
    have hR3 := (HR.out.bel HB1.out).set 0 (.slice none 0 0) (cs' := #[.slice none 0 0, .slice none 0 0]) rfl
    have hR4 := hR3.set 1 (.slice none 0 0) (cs' := #[.slice none 0 0, .slice none 0 0]) rfl
    have hb4 := bel_set (bel_set (HW.out.tr HB1.out) (Nat.le_succ _) 0 (.slice none 0 0)) (Nat.le_succ _) 1 (.slice none 0 0)
    refine bodyPost_ret (results_ct rfl _ _ (w.heap.size + 1) 30 #[.slice none 0 0, .slice none 0 0] (0, 0) _ rfl hR4 Try.underlying30 rfl (by kernel_rfl)) rfl ?_
    rw [E1.out, E2.out]
    exact ⟨_, _, _, rfl, OwnP.none _ _, hb4⟩
  | true =>
    have E1 := Lib.hid (show chP p (goneF p name) = (goneF p name).getD p by unfold chP; rw [if_pos hok])
    have E2 := Lib.hid (show chB p (goneF p name) = (goneF p name).isSome by unfold chB; rw [hok]; rfl)
    have HK := Lib.hid (poolOk_iff.1 hok)
    clear hok
    go_wp2_with fail
    refine (l11Copy_c (HP.out.bel (HW.out.tr HB1.out)) HS.out).mono ?_
    rintro e w2 ⟨v0, v1, bvs, rfl, ho, hb2⟩
    have HO := Lib.hid ho
    have HB2 := Lib.hid hb2
    clear q0 q1 r0 r1 f0 f1 ho hb2
    go_wp2_with fail
    refine (l11Gone_c HO.out HS.out HK.out HB2.out.size).mono ?_
    rintro e w3 ⟨v2, v3, bvs3, rfl, ho3, hb3⟩
    have hb13 : Bel w1 w3 := HB2.out.trans hb3.b
    have HO3 := Lib.hid ho3
    have HB3 := Lib.hid (HB1.out.tr hb13)
    clear ho3 hb3 hb13
    obtain ⟨q, hq⟩ : ∃ q, (goneF p name).getD p = q := ⟨_, rfl⟩
    obtain ⟨ok, hok⟩ : ∃ ok, (goneF p name).isSome = ok := ⟨_, rfl⟩
    rw [hq] at HO3
    rw [hok]
    have HQ := Lib.hid hq
    have HK2 := Lib.hid hok
    clear hq hok
    obtain ⟨A2, A3, c2, c3, rfl, rfl, hpi⟩ := HO3.out.reads
    have r0 := (HR.out.bel HB3.out).cell 0
    have r1 := (HR.out.bel HB3.out).cell 1
    have f0 := (HR.out.bel HB3.out).free 0
    have f1 := (HR.out.bel HB3.out).free 1
    simp at r0 r1
    clear hpi
    go_wp2
    have hR2 := HR.out.bel HB3.out
    have hR3 := hR2.set 0 (.slice A2 q.slots.length c2) (cs' := #[.slice A2 q.slots.length c2, .slice none 0 0]) rfl
    have hR4 := hR3.set 1 (.slice A3 q.vols.length c3) (cs' := #[.slice A2 q.slots.length c2, .slice A3 q.vols.length c3]) rfl
    have hb5 := bel_set (bel_set (HW.out.tr HB3.out) (Nat.le_succ _) 0 (.slice A2 q.slots.length c2)) (Nat.le_succ _) 1 (.slice A3 q.vols.length c3)
    have hop4 := (HO3.out.far hR2 (by decide) (by decide) (by decide) 0 (.slice A2 q.slots.length c2)).far hR3 (by decide) (by decide) (by decide) 1 (.slice A3 q.vols.length c3)
    refine bodyPost_ret (results_ct rfl _ _ (w.heap.size + 1) 30 #[.slice A2 q.slots.length c2, .slice A3 q.vols.length c3] (0, 0) _ rfl hR4 Try.underlying30 rfl (by kernel_rfl)) rfl ?_
    rw [E1.out, E2.out, HQ.out, HK2.out]
    exact ⟨_, _, _, rfl, hop4.lower (HW.out.tr HB1.out).size, hb5⟩
end Go.Proofs.Ytpobgjkmjlmafaa
/- Pools that lie in an interval of blocks; marks on one leave the others as they were. -/






namespace Go.Proofs.Ytpobgjkmjlmafaa
open Go.RowKit Go.Proofs.YtpobgjkmjlmafaaW.PrintWords Go.Proofs.YtpobgjkmjlmafaaW.PrintLast
set_option linter.unusedVariables false
set_option linter.unusedSimpArgs false

/-- Only blocks from lo up to hi may have changed. -/
def Within (lo hi : Nat) (w w' : World) : Prop := Only w w' (fun k => lo ≤ k ∧ k < hi)
/-- A pool whose blocks lie from lo up to hi. -/
structure At (w : World) (lo hi : Nat) (v0 v1 : Value) (p : Pool) (bvs : List Value) : Prop where
  own : OwnP w lo v0 v1 p bvs
  lt : ∀ k, InP v0 v1 bvs k → k < hi
theorem OwnP.in_ {w : World} {base : Nat} {v0 v1 : Value} {p : Pool} {bvs : List Value} (h : OwnP w base v0 v1 p bvs) {k : Nat} (hk : InP v0 v1 bvs k) : base ≤ k ∧ k < w.heap.size := by
  rcases hk with hk | hk | ⟨b, hb, hk⟩
  · exact ⟨own_block_ge h.s hk, own_block_lt h.s hk⟩
  · exact ⟨own_block_ge h.v.row.row hk, own_block_lt h.v.row.row hk⟩
  · obtain ⟨m, hm⟩ := List.getElem?_of_mem hb
    obtain ⟨x, hx⟩ := getQ (show m < p.vols.length by rw [← h.v.row.len]; exact ltQ hm)
    exact ⟨own_block_ge (h.v.inner m x b hx hm) hk, own_block_lt (h.v.inner m x b hx hm) hk⟩
theorem OwnP.only {w w' : World} {S : Nat → Prop} {base : Nat} {v0 v1 : Value} {p : Pool} {bvs : List Value} (h : OwnP w base v0 v1 p bvs) (ho : Only w w' S) (hS : ∀ k, InP v0 v1 bvs k → ¬ S k) : OwnP w' base v0 v1 p bvs := by
  have mv : ∀ k, InP v0 v1 bvs k → w'.heap[k]? = w.heap[k]? := fun k hk => ho.block k (h.in_ hk).2 (hS k hk)
  refine ⟨own_move2 h.s fun k hk => mv k (.inl hk), ⟨h.v.row.len, own_move2 h.v.row.row fun k hk => mv k (.inr (.inl hk))⟩, fun m x b hx hb => own_move2 (h.v.inner m x b hx hb) fun k hk => mv k (.inr (.inr ⟨b, List.mem_of_getElem? hb, hk⟩)), h.v.apart⟩
theorem OwnP.at {w : World} {lo : Nat} {v0 v1 : Value} {p : Pool} {bvs : List Value} (h : OwnP w lo v0 v1 p bvs) : At w lo w.heap.size v0 v1 p bvs := ⟨h, fun k hk => (h.in_ hk).2⟩
theorem At.bel {w w' : World} {lo hi : Nat} {v0 v1 : Value} {p : Pool} {bvs : List Value} (h : At w lo hi v0 v1 p bvs) (hb : Bel w w') : At w' lo hi v0 v1 p bvs := ⟨h.own.bel hb, h.lt⟩
theorem At.reads {w : World} {lo hi : Nat} {v0 v1 : Value} {p : Pool} {bvs : List Value} (h : At w lo hi v0 v1 p bvs) : ∃ A0 A1 c0 c1, v0 = .slice A0 p.slots.length c0 ∧ v1 = .slice A1 p.vols.length c1 ∧ PoolIn w A0 A1 c0 c1 p := h.own.reads
theorem Within.below {w w' : World} {lo hi b : Nat} (h : Within lo hi w w') (hb : b ≤ w.heap.size) (hl : b ≤ lo) : Below b w w' := Only.below h hb fun k hk => by omega
theorem Within.size {w w' : World} {lo hi : Nat} (h : Within lo hi w w') : w.heap.size ≤ w'.heap.size := Only.size h

/-! ### marks -/
theorem digN_len (d : Nat) : ∀ n : Nat, n < 10 ^ d → (digN n).length ≤ d := by
  induction d with
  | zero =>
    intro n hn
    obtain rfl : n = 0 := by omega
    unfold digN
    simp
  | succ d ih =>
    intro n hn
    unfold digN
    split
    · simp
    · have := ih (n / 10) (by rw [Nat.pow_succ] at hn; omega)
      rw [List.length_append, List.length_singleton]; omega
theorem mkT_size {k : Int} (h : k ≤ 1000000000000000000) : (mkT k).size ≤ 1048576 := by
  have := digN_len 19 k.toNat (by omega)
  unfold mkT ByteArray.size
  simp
  omega
theorem MkP.small {k : Int} {p q : Pool} (h : MkP k q) (hp : SmallP p) (hl : q.slots.length = p.slots.length) (hv : q.vols.map (fun x => x.blocks.length) = p.vols.map (fun x => x.blocks.length)) (h1 : k ≤ 1099511627776) : SmallP q := by
  have hlv : q.vols.length = p.vols.length := by simpa using congrArg List.length hv
  have hb : ∀ x ∈ q.vols, x.blocks.length ≤ 1048576 := by
    intro x hx
    have : x.blocks.length ∈ p.vols.map (fun x => x.blocks.length) := by rw [← hv]; exact List.mem_map.2 ⟨x, hx, rfl⟩
    obtain ⟨y, hy, e⟩ := List.mem_map.1 this
    rw [← e]; exact hp.vols.blocks y hy
  have h3 := hp.slots.len
  have h4 := hp.vols.len
  refine ⟨⟨by rw [hl]; exact hp.slots.len, fun x hx => ?_⟩, ⟨by rw [hlv]; exact hp.vols.len, hb, fun x hx => ?_⟩⟩
  · obtain ⟨i, hi⟩ := List.getElem?_of_mem hx
    rw [(h.s i x hi).1]
    have := ltQ hi
    exact mkT_size (by omega)
  · obtain ⟨i, hi⟩ := List.getElem?_of_mem hx
    rw [(h.v i x hi).1]
    have h5 := ltQ hi
    have h2 := nxV_le (vs := q.vols.take i) (fun v hv => hb v (List.mem_of_mem_take hv)) (k + 2 * q.slots.length)
    have h6 := List.length_take_le i q.vols
    exact mkT_size (by omega)
/-- What a marker leaves of a pool in its interval. -/
def MarkedA (k : Int) (w : World) (lo hi : Nat) (v0 v1 : Value) (p : Pool) (bvs : List Value) (e : Ending) (w' : World) : Prop :=
  e = .returned (.int .i64 (nxP k p)) ∧ (∃ q, SmallP q ∧ q.slots.length = p.slots.length ∧ q.vols.length = p.vols.length ∧ nxP k q = nxP k p ∧ MkP k q ∧ At w' lo hi v0 v1 q bvs) ∧ Within lo hi w w'
/-! ### what is valid is small -/
theorem tOk_size {t : ByteArray} (h : tOk t = true) : t.size ≤ 4 := by
  unfold tOk at h
  simp at h
  exact h.2
theorem PoolP.small {p : Pool} (h : PoolP p) : SmallP p := by
  refine ⟨⟨by have := h.s.len; omega, fun x hx => ?_⟩, ⟨by have := h.v.len; omega, fun v hv => ?_, fun v hv => ?_⟩⟩
  · obtain ⟨i, hi⟩ := List.getElem?_of_mem hx
    have := tOk_size (h.s.ok i x hi).1
    omega
  · obtain ⟨i, hi⟩ := List.getElem?_of_mem hv
    have := (volOk_parts (h.v.v i v hi)).2.2.2
    omega
  · obtain ⟨i, hi⟩ := List.getElem?_of_mem hv
    obtain ⟨b, hb, _⟩ := isNm_one (h.v.nm hi)
    have : v.name.size = 1 := by rw [← size_toList, hb]; rfl
    omega
theorem noP_small : SmallP noP := ⟨⟨by simp [noP], fun x hx => by simp [noP] at hx⟩, ⟨by simp [noP], fun x hx => by simp [noP] at hx, fun x hx => by simp [noP] at hx⟩⟩
theorem chP_small {p : Pool} {r : Option Pool} (hp : SmallP p) (hr : ∀ q, poolOk p = true → r = some q → SmallP q) : SmallP (chP p r) := by
  unfold chP
  split
  · rename_i hk
    cases r with
    | none => exact hp
    | some q => exact hr q hk rfl
  · exact noP_small
end Go.Proofs.Ytpobgjkmjlmafaa
/- The reader of a code: what l6Open, pick, of leave. -/

namespace Go.Proofs.Ytpobgjkmjlmafaa
open Go.RowKit Go.Proofs.YtpobgjkmjlmafaaW.PrintWords Go.Proofs.YtpobgjkmjlmafaaW.PrintLast
set_option linter.unusedVariables false
set_option linter.unusedSimpArgs false

abbrev kByte : Kd Int := Kd.int .u8
theorem at_byte {w : World} {A : Option Addr} {n : Nat} {xs : List Int} (h : kByte.C w A n xs) {i : Nat} {x : Int} (hx : xs[i]? = some x) : ∃ ad, A = some ad ∧ w.cell? (ad.add i) = some (.int .u8 x) := by
  have hl := h.1 ▸ ltQ hx
  obtain ⟨ad, e, hc⟩ := Kd.at_int h i (by omega) (by omega)
  have he : rd xs (i : Int) = x := by unfold rd; rw [List.getD_eq_getElem?_getD, Int.toNat_natCast, hx]; rfl
  rw [he] at hc
  exact ⟨ad, e, hc⟩
/-- Block rb is a reader that has picked at most k times; its code lies in front of it. -/
structure Rd (w : World) (rb k : Nat) : Prop where
  h : ∃ (A : Option Addr) (c : Nat) (bs : List Int) (p : Nat), Blk w rb #[.slice A bs.length c, .int .i64 p] 133 ∧ kByte.C w A bs.length bs ∧ (∀ x ∈ bs, 0 ≤ x ∧ x ≤ 255) ∧ bs.length ≤ 2000 ∧ p ≤ k ∧ ∀ ad, A = some ad → ad.block < rb
theorem Rd.lt {w : World} {rb k : Nat} (h : Rd w rb k) : rb < w.heap.size := by
  obtain ⟨_, _, _, _, hb, _⟩ := h.h
  exact hb.lt
theorem Rd.more {w : World} {rb k k' : Nat} (h : Rd w rb k) (hk : k ≤ k') : Rd w rb k' := by
  obtain ⟨A, c, bs, p, h1, h2, h3, h4, h5, h6⟩ := h.h
  exact ⟨⟨A, c, bs, p, h1, h2, h3, h4, Nat.le_trans h5 hk, h6⟩⟩
theorem Rd.bel {w w' : World} {rb k : Nat} (h : Rd w rb k) (hb : Bel w w') : Rd w' rb k := by
  obtain ⟨A, c, bs, p, h1, h2, h3, h4, h5, h6⟩ := h.h
  exact ⟨⟨A, c, bs, p, h1.bel hb, Kd.C_below h2 hb, h3, h4, h5, h6⟩⟩
/-- A drawing function: v is told by V; at most d picks; of what was there only the reader has turned. -/
def Drawn (rb k d : Nat) (V : Value → Prop) (w : World) (e : Ending) (w' : World) : Prop := ∃ v, e = .returned v ∧ V v ∧ Rd w' rb (k + d) ∧ w.grownBy w' (some rb)
theorem add_block (ad : Addr) (n : Nat) : (ad.add n).block = ad.block := by unfold Addr.add; split <;> rfl
theorem byte_kept {w w' : World} {rb : Nat} {A : Option Addr} {n : Nat} {xs : List Int} (h : kByte.C w A n xs) (hg : w.grownBy w' (some rb)) (hA : ∀ ad, A = some ad → ad.block < rb) : kByte.C w' A n xs :=
  ⟨h.1, h.2.1, fun h0 => by
    obtain ⟨ad, e, hh⟩ := h.2.2 h0
    refine ⟨ad, e, fun j p hj => ?_⟩
    obtain ⟨c, h1, h2, h3⟩ := hh j p hj
    refine ⟨c, h1, h2, fun i u hu => ?_⟩
    refine World.grownBy.cell hg (h3 i u hu) ?_
    rw [add_block]
    intro he
    have := hA ad e
    injection he with he
    omega⟩
def PickV (n : Int) (v : Value) : Prop := ∃ r : Int, v = .int .i64 r ∧ 0 ≤ r ∧ (1 ≤ n → r < n) ∧ (n < 1 → r = 0)
theorem pick_val (x n : Int) (h : 1 ≤ n) : PickV n (.int .i64 (x % n)) := ⟨_, rfl, Int.emod_nonneg _ (by omega), fun _ => Int.emod_lt_of_pos _ (by omega), fun h => by omega⟩
theorem wrap_nat {x : Int} (h0 : 0 ≤ x) (h1 : x ≤ 4611686018427387904) : ∃ m : Nat, wrap64 x = m ∧ (m : Int) = x := ⟨x.toNat, by unfold wrap64; omega, by omega⟩
theorem tmod_nat {a : Nat} {n : Nat} (hn : 0 < n) : ∃ m : Nat, (a : Int).tmod (n : Int) = m ∧ m < n := ⟨a % n, by rw [Int.tmod_eq_emod_of_nonneg (by omega)]; simp, Nat.mod_lt _ hn⟩
theorem tdiv_nat {a : Nat} {n : Nat} : ∃ m : Nat, (a : Int).tdiv (n : Int) = m ∧ m ≤ a := ⟨a / n, by rw [Int.tdiv_eq_ediv_of_nonneg (by omega)]; simp, Nat.div_le_self _ _⟩
theorem bits_xor_i64_nat (a b : Nat) (ha : a < 4611686018427387904) (hb : b < 4611686018427387904) :
    bits .xor .i64 (a : Int) (b : Int) = ((a ^^^ b : Nat) : Int) := by
  have hx : a ^^^ b < 2 ^ 62 := Nat.xor_lt_two_pow (by omega) (by omega)
  have h1 : (BitVec.ofInt 64 (a : Int)).toNat = a := by
    rw [BitVec.ofInt_natCast, BitVec.toNat_ofNat]; exact Nat.mod_eq_of_lt (by omega)
  have h2 : (BitVec.ofInt 64 (b : Int)).toNat = b := by
    rw [BitVec.ofInt_natCast, BitVec.toNat_ofNat]; exact Nat.mod_eq_of_lt (by omega)
  show IntKind.i64.wrap ((BitVec.ofInt 64 (a : Int) ^^^ BitVec.ofInt 64 (b : Int)).toNat : Int) = _
  rw [BitVec.toNat_xor, h1, h2]
  rw [IntKind.wrap_i64]
  omega
theorem pick_last (m : Nat) (n : Int) (h : 1 ≤ n) (hm : m < 4611686018427387904) : PickV n (.int .i64 ((bits BinOp.xor IntKind.i64 (m : Int) ((m : Int) / 64)).tmod n)) := by
  rw [show ((m : Int) / 64) = ((m / 64 : Nat) : Int) by simp, bits_xor_i64_nat _ _ hm (by omega), Int.tmod_eq_emod_of_nonneg (by omega)]
  exact pick_val _ n h
theorem wrap_id {x : Int} (h0 : 0 ≤ x) (h1 : x ≤ 4611686018427387904) : wrap64 x = x := by unfold wrap64; omega
set_option maxHeartbeats 4000000 in
set_option maxRecDepth 10000 in
theorem pick_c {w : World} {rb k : Nat} (h : Rd w rb k) (hk : k ≤ 1099511627776) (n : Int) (hn : n ≤ 1099511627776) :
    Calls Try.prog 96 #[.pointer (some ⟨rb, 0, none⟩), .int .i64 n] w (Drawn rb k 1 (PickV n) w) := by
  obtain ⟨A, c, bs, p, hB, hC, hb, hl, hp, hA⟩ := h.h
  have q0 := hB.cell 0
  have q1 := hB.cell 1
  have f0 := hB.free 0
  have f1 := hB.free 1
  have z := hB.lt
  simp at q0 q1
  have hB2 : Blk (w.setCell ⟨rb, 1, none⟩ (.int .i64 ((p : Int) + 1))) rb #[.slice A bs.length c, .int .i64 ((p : Int) + 1)] 133 := hB.set 1 (.int .i64 ((p : Int) + 1)) rfl
  have hg : w.grownBy (w.setCell ⟨rb, 1, none⟩ (.int .i64 ((p : Int) + 1))) (some rb) := grown_setCell w rb 1 _
  have hR : Rd (w.setCell ⟨rb, 1, none⟩ (.int .i64 ((p : Int) + 1))) rb (k + 1) := ⟨⟨A, c, bs, p + 1, hB2, byte_kept hC hg hA, hb, hl, by omega, hA⟩⟩
  have HR := Lib.hid (And.intro hR hg)
  have HQ := Lib.hid (And.intro (hB2.cell 0) (hB2.cell 1))
  have HC := Lib.hid (byte_kept hC hg hA)
  have HBB := Lib.hid hb
  have hp2 : (p : Int) ≤ 1099511627776 := by omega
  clear h hB hC hb hA hB2 hg hR
  by_cases h1 : n < 1
  · go_enter Try.func96, Try.ntmps96
    go_wp2
    go_ret
    exact ⟨_, rfl, ⟨0, rfl, by omega, by omega, fun _ => rfl⟩, HR.out.1, HR.out.2⟩
  · by_cases h2 : bs.length = 0
    · have h2' : ((bs.length : Int) == 0) = true := beq_iff_eq.2 (by omega)
      go_enter Try.func96, Try.ntmps96
      go_wp2
      go_ret
      exact ⟨_, rfl, ⟨0, rfl, by omega, by omega, fun _ => rfl⟩, HR.out.1, HR.out.2⟩
    · by_cases h3 : p < bs.length
      · obtain ⟨x, hx⟩ := getQ h3
        have hxb := HBB.out x (List.mem_of_getElem? hx)
        have h2' : ((bs.length : Int) == 0) = false := beq_eq_false_iff_ne.2 (by omega)
        obtain ⟨ad, rfl, hc⟩ := at_byte HC.out hx
        clear hx
        go_enter Try.func96, Try.ntmps96
        go_wp2
        go_ret
        exact ⟨_, rfl, pick_val x n (by omega), HR.out.1, HR.out.2⟩
      · have hl1 : 0 < bs.length := by omega
        have hl1' : (0 : Int) < (bs.length : Int) := by omega
        obtain ⟨i1, e1, hi1⟩ := tmod_nat (a := p) hl1
        obtain ⟨a1, e2, ha1⟩ := wrap_nat (x := (p : Int) * 7) (by omega) (by omega)
        obtain ⟨a2, e3, ha2⟩ := wrap_nat (x := (a1 : Int) + 3) (by omega) (by omega)
        obtain ⟨i2, e4, hi2⟩ := tmod_nat (a := a2) hl1
        obtain ⟨x, hx⟩ := getQ hi1
        obtain ⟨y, hy⟩ := getQ hi2
        have hxb := HBB.out x (List.mem_of_getElem? hx)
        have hyb := HBB.out y (List.mem_of_getElem? hy)
        obtain ⟨ad, rfl, hc⟩ := at_byte HC.out hx
        obtain ⟨ad', e', hd⟩ := at_byte HC.out hy
        obtain rfl := Option.some.inj e'
        have h2' : ((bs.length : Int) == 0) = false := beq_eq_false_iff_ne.2 (by omega)
        obtain ⟨b1, e5, hb1⟩ := wrap_nat (x := x * 131) (by omega) (by omega)
        obtain ⟨b2, e6, hb2⟩ := wrap_nat (x := y * 1117) (by omega) (by omega)
        obtain ⟨b3, e7, hb3⟩ := wrap_nat (x := (b1 : Int) + b2) (by omega) (by omega)
        obtain ⟨b4, e8, hb4⟩ := wrap_nat (x := (p : Int) * 29) (by omega) (by omega)
        obtain ⟨b5, e9, hb5⟩ := wrap_nat (x := (b3 : Int) + b4) (by omega) (by omega)
        obtain ⟨d1, e10, hd1⟩ := tdiv_nat (a := p) (n := bs.length)
        obtain ⟨d2, e11, hd2⟩ := wrap_nat (x := (d1 : Int) * 53) (by omega) (by omega)
        obtain ⟨b6, e12, hb6⟩ := wrap_nat (x := (b5 : Int) + d2) (by omega) (by omega)
        have hb6u : (b6 : Int) ≤ 1152921504606846976 := by omega
        have ed := wrap_id (x := (d1 : Int)) (by omega) (by omega)
        have HED := Lib.hid ed
        have ex := wrap_id (x := x) (by omega) (by omega)
        have ey := wrap_id (x := y) (by omega) (by omega)
        have HE1 := Lib.hid e1
        have HE2 := Lib.hid (And.intro e2 e3)
        have HE3 := Lib.hid (And.intro e4 (And.intro e5 e6))
        have HE4 := Lib.hid (And.intro e7 (And.intro e8 e9))
        have HE5 := Lib.hid (And.intro e10 (And.intro e11 e12))
        have HEX := Lib.hid (And.intro ex ey)
        have hi1' : (i1 : Int) < (bs.length : Int) := by omega
        have hi2' : (i2 : Int) < (bs.length : Int) := by omega
        clear hx hy e' e1 e2 e3 e4 e5 e6 e7 e8 e9 e10 e11 e12 ha1 ha2 hb1 hb2 hb3 hb4 hb5 hb6 hd1 hd2 ex ey ed
        go_enter Try.func96, Try.ntmps96
        go_wp2
        clear q0 q1
        obtain ⟨q0, q1⟩ := HQ.out
        simp at q0 q1
        have e1 := HE1.out
        obtain ⟨e2, e3⟩ := HE2.out
        obtain ⟨e4, e5, e6⟩ := HE3.out
        obtain ⟨e7, e8, e9⟩ := HE4.out
        obtain ⟨e10, e11, e12⟩ := HE5.out
        obtain ⟨ex, ey⟩ := HEX.out
        have ed := HED.out
        refine start_ (n := 46) (S := fun w' => w'.cell? ⟨rb, 0, none⟩ = some (.slice (some ad) bs.length c) ∧ w'.cell? (ad.add i1) = some (.int .u8 x) ∧ w'.cell? (ad.add i2) = some (.int .u8 y)) (ds := []) #[false, false, false, false, false, false, false, false, false, false, false, false, false, false, false, false, false, false, false, false, false, false, false, false, false, false, false, false, false, false, false, false, false, false, false, false, false, false, false, false, false, false, false, false, false, false] (by kernel_rfl) rfl rfl ⟨q0, hc, hd⟩ (fun hHeld => ?_)
        refine pure_ (i := 0) (N := some 47) (v := ?_) (a' := ?_) #[true, false, false, false, false, false, false, false, false, false, false, false, false, false, false, false, false, false, false, false, false, false, false, false, false, false, false, false, false, false, false, false, false, false, false, false, false, false, false, false, false, false, false, false, false, false] rfl rfl (by kernel_rfl) (fun _ _ _ h => h) (Or.inl ⟨by rfl, ?_⟩) ?_ ?_
        rotate_left
        · intro w'
          go_simp
          with_reducible rfl
        rotate_left
        · simp only [Act.put, List.setIfInBounds_toArray, List.set_cons_zero, List.set_cons_succ, i64_w, i32_w]
          rfl
        refine pure_ (i := 1) (N := some 48) (v := ?_) (a' := ?_) #[true, true, false, false, false, false, false, false, false, false, false, false, false, false, false, false, false, false, false, false, false, false, false, false, false, false, false, false, false, false, false, false, false, false, false, false, false, false, false, false, false, false, false, false, false, false] rfl rfl (by kernel_rfl) (fun _ _ _ h => h) (Or.inl ⟨by rfl, ?_⟩) ?_ ?_
        rotate_left
        · intro w'
          go_simp
          with_reducible rfl
        rotate_left
        · simp only [Act.put, List.setIfInBounds_toArray, List.set_cons_zero, List.set_cons_succ, i64_w, i32_w]
          rfl
        refine pure_ (i := 2) (N := some 49) (v := ?_) (a' := ?_) #[true, true, true, false, false, false, false, false, false, false, false, false, false, false, false, false, false, false, false, false, false, false, false, false, false, false, false, false, false, false, false, false, false, false, false, false, false, false, false, false, false, false, false, false, false, false] rfl rfl (by kernel_rfl) (fun _ _ _ h => h) (Or.inl ⟨by rfl, ?_⟩) ?_ ?_
        rotate_left
        · intro w'
          go_simp
          with_reducible rfl
        rotate_left
        · simp only [Act.put, List.setIfInBounds_toArray, List.set_cons_zero, List.set_cons_succ, i64_w, i32_w]
          rfl
        refine pure_ (i := 4) (N := some 51) (v := ?_) (a' := ?_) #[true, true, true, false, true, false, false, false, false, false, false, false, false, false, false, false, false, false, false, false, false, false, false, false, false, false, false, false, false, false, false, false, false, false, false, false, false, false, false, false, false, false, false, false, false, false] rfl rfl (by kernel_rfl) (fun _ _ _ h => h) (Or.inl ⟨by rfl, ?_⟩) ?_ ?_
        rotate_left
        · intro w'
          go_simp
          with_reducible rfl
        rotate_left
        · simp only [Act.put, List.setIfInBounds_toArray, List.set_cons_zero, List.set_cons_succ, i64_w, i32_w]
          rfl
        refine pure_ (i := 5) (N := some 52) (v := ?_) (a' := ?_) #[true, true, true, false, true, true, false, false, false, false, false, false, false, false, false, false, false, false, false, false, false, false, false, false, false, false, false, false, false, false, false, false, false, false, false, false, false, false, false, false, false, false, false, false, false, false] rfl rfl (by kernel_rfl) (fun _ _ _ h => h) (Or.inl ⟨by rfl, ?_⟩) ?_ ?_
        rotate_left
        · intro w'
          go_simp
          with_reducible rfl
        rotate_left
        · simp only [Act.put, List.setIfInBounds_toArray, List.set_cons_zero, List.set_cons_succ, i64_w, i32_w]
          rfl
        refine pure_ (i := 6) (N := some 53) (v := ?_) (a' := ?_) #[true, true, true, false, true, true, true, false, false, false, false, false, false, false, false, false, false, false, false, false, false, false, false, false, false, false, false, false, false, false, false, false, false, false, false, false, false, false, false, false, false, false, false, false, false, false] rfl rfl (by kernel_rfl) (fun _ _ _ h => h) (Or.inl ⟨by rfl, ?_⟩) ?_ ?_
        rotate_left
        · intro w'
          go_simp
          with_reducible rfl
        rotate_left
        · simp only [Act.put, List.setIfInBounds_toArray, List.set_cons_zero, List.set_cons_succ, i64_w, i32_w]
          rfl
        refine pure_ (i := 7) (N := some 54) (v := ?_) (a' := ?_) #[true, true, true, false, true, true, true, true, false, false, false, false, false, false, false, false, false, false, false, false, false, false, false, false, false, false, false, false, false, false, false, false, false, false, false, false, false, false, false, false, false, false, false, false, false, false] rfl rfl (by kernel_rfl) (fun _ _ _ h => h) (Or.inl ⟨by rfl, ?_⟩) ?_ ?_
        rotate_left
        · intro w'
          go_simp
          with_reducible rfl
        rotate_left
        · simp only [Act.put, List.setIfInBounds_toArray, List.set_cons_zero, List.set_cons_succ, i64_w, i32_w]
          rfl
        refine pure_ (i := 15) (N := some 62) (v := ?_) (a' := ?_) #[true, true, true, false, true, true, true, true, false, false, false, false, false, false, false, true, false, false, false, false, false, false, false, false, false, false, false, false, false, false, false, false, false, false, false, false, false, false, false, false, false, false, false, false, false, false] rfl rfl (by kernel_rfl) (fun _ _ _ h => h) (Or.inl ⟨by rfl, ?_⟩) ?_ ?_
        rotate_left
        · intro w'
          go_simp
          with_reducible rfl
        rotate_left
        · simp only [Act.put, List.setIfInBounds_toArray, List.set_cons_zero, List.set_cons_succ, i64_w, i32_w]
          rfl
        refine pure_ (i := 16) (N := some 63) (v := ?_) (a' := ?_) #[true, true, true, false, true, true, true, true, false, false, false, false, false, false, false, true, true, false, false, false, false, false, false, false, false, false, false, false, false, false, false, false, false, false, false, false, false, false, false, false, false, false, false, false, false, false] rfl rfl (by kernel_rfl) (fun _ _ _ h => h) (Or.inl ⟨by rfl, ?_⟩) ?_ ?_
        rotate_left
        · intro w'
          go_simp
          with_reducible rfl
        rotate_left
        · simp only [Act.put, List.setIfInBounds_toArray, List.set_cons_zero, List.set_cons_succ, i64_w, i32_w]
          rfl
        refine pure_ (i := 17) (N := some 64) (v := ?_) (a' := ?_) #[true, true, true, false, true, true, true, true, false, false, false, false, false, false, false, true, true, true, false, false, false, false, false, false, false, false, false, false, false, false, false, false, false, false, false, false, false, false, false, false, false, false, false, false, false, false] rfl rfl (by kernel_rfl) (fun _ _ _ h => h) (Or.inl ⟨by rfl, ?_⟩) ?_ ?_
        rotate_left
        · intro w'
          go_simp
          with_reducible rfl
        rotate_left
        · simp only [Act.put, List.setIfInBounds_toArray, List.set_cons_zero, List.set_cons_succ, i64_w, i32_w]
          rfl
        refine pure_ (i := 19) (N := some 66) (v := ?_) (a' := ?_) #[true, true, true, false, true, true, true, true, false, false, false, false, false, false, false, true, true, true, false, true, false, false, false, false, false, false, false, false, false, false, false, false, false, false, false, false, false, false, false, false, false, false, false, false, false, false] rfl rfl (by kernel_rfl) (fun _ _ _ h => h) (Or.inl ⟨by rfl, ?_⟩) ?_ ?_
        rotate_left
        · intro w'
          go_simp
          with_reducible rfl
        rotate_left
        · simp only [Act.put, List.setIfInBounds_toArray, List.set_cons_zero, List.set_cons_succ, i64_w, i32_w]
          rfl
        refine pure_ (i := 20) (N := some 67) (v := ?_) (a' := ?_) #[true, true, true, false, true, true, true, true, false, false, false, false, false, false, false, true, true, true, false, true, true, false, false, false, false, false, false, false, false, false, false, false, false, false, false, false, false, false, false, false, false, false, false, false, false, false] rfl rfl (by kernel_rfl) (fun _ _ _ h => h) (Or.inl ⟨by rfl, ?_⟩) ?_ ?_
        rotate_left
        · intro w'
          go_simp
          with_reducible rfl
        rotate_left
        · simp only [Act.put, List.setIfInBounds_toArray, List.set_cons_zero, List.set_cons_succ, i64_w, i32_w]
          rfl
        refine pure_ (i := 21) (N := some 68) (v := ?_) (a' := ?_) #[true, true, true, false, true, true, true, true, false, false, false, false, false, false, false, true, true, true, false, true, true, true, false, false, false, false, false, false, false, false, false, false, false, false, false, false, false, false, false, false, false, false, false, false, false, false] rfl rfl (by kernel_rfl) (fun _ _ _ h => h) (Or.inl ⟨by rfl, ?_⟩) ?_ ?_
        rotate_left
        · intro w'
          go_simp
          with_reducible rfl
        rotate_left
        · simp only [Act.put, List.setIfInBounds_toArray, List.set_cons_zero, List.set_cons_succ, i64_w, i32_w]
          rfl
        refine pure_ (i := 22) (N := some 69) (v := ?_) (a' := ?_) #[true, true, true, false, true, true, true, true, false, false, false, false, false, false, false, true, true, true, false, true, true, true, true, false, false, false, false, false, false, false, false, false, false, false, false, false, false, false, false, false, false, false, false, false, false, false] rfl rfl (by kernel_rfl) (fun _ _ _ h => h) (Or.inl ⟨by rfl, ?_⟩) ?_ ?_
        rotate_left
        · intro w'
          go_simp
          with_reducible rfl
        rotate_left
        · simp only [Act.put, List.setIfInBounds_toArray, List.set_cons_zero, List.set_cons_succ, i64_w, i32_w]
          rfl
        refine pure_ (i := 23) (N := some 70) (v := ?_) (a' := ?_) #[true, true, true, false, true, true, true, true, false, false, false, false, false, false, false, true, true, true, false, true, true, true, true, true, false, false, false, false, false, false, false, false, false, false, false, false, false, false, false, false, false, false, false, false, false, false] rfl rfl (by kernel_rfl) (fun _ _ _ h => h) (Or.inl ⟨by rfl, ?_⟩) ?_ ?_
        rotate_left
        · intro w'
          go_simp
          with_reducible rfl
        rotate_left
        · simp only [Act.put, List.setIfInBounds_toArray, List.set_cons_zero, List.set_cons_succ, i64_w, i32_w]
          rfl
        refine pure_ (i := 24) (N := some 71) (v := ?_) (a' := ?_) #[true, true, true, false, true, true, true, true, false, false, false, false, false, false, false, true, true, true, false, true, true, true, true, true, true, false, false, false, false, false, false, false, false, false, false, false, false, false, false, false, false, false, false, false, false, false] rfl rfl (by kernel_rfl) (fun _ _ _ h => h) (Or.inl ⟨by rfl, ?_⟩) ?_ ?_
        rotate_left
        · intro w'
          go_simp
          with_reducible rfl
        rotate_left
        · simp only [Act.put, List.setIfInBounds_toArray, List.set_cons_zero, List.set_cons_succ, i64_w, i32_w]
          rfl
        refine pure_ (i := 33) (N := some 80) (v := ?_) (a' := ?_) #[true, true, true, false, true, true, true, true, false, false, false, false, false, false, false, true, true, true, false, true, true, true, true, true, true, false, false, false, false, false, false, false, false, true, false, false, false, false, false, false, false, false, false, false, false, false] rfl rfl (by kernel_rfl) (fun _ _ _ h => h) (Or.inl ⟨by rfl, ?_⟩) ?_ ?_
        rotate_left
        · intro w'
          go_simp
          with_reducible rfl
        rotate_left
        · simp only [Act.put, List.setIfInBounds_toArray, List.set_cons_zero, List.set_cons_succ, i64_w, i32_w]
          rfl
        refine pure_ (i := 34) (N := some 81) (v := ?_) (a' := ?_) #[true, true, true, false, true, true, true, true, false, false, false, false, false, false, false, true, true, true, false, true, true, true, true, true, true, false, false, false, false, false, false, false, false, true, true, false, false, false, false, false, false, false, false, false, false, false] rfl rfl (by kernel_rfl) (fun _ _ _ h => h) (Or.inl ⟨by rfl, ?_⟩) ?_ ?_
        rotate_left
        · intro w'
          go_simp
          with_reducible rfl
        rotate_left
        · simp only [Act.put, List.setIfInBounds_toArray, List.set_cons_zero, List.set_cons_succ, i64_w, i32_w]
          rfl
        refine pure_ (i := 36) (N := some 83) (v := ?_) (a' := ?_) #[true, true, true, false, true, true, true, true, false, false, false, false, false, false, false, true, true, true, false, true, true, true, true, true, true, false, false, false, false, false, false, false, false, true, true, false, true, false, false, false, false, false, false, false, false, false] rfl rfl (by kernel_rfl) (fun _ _ _ h => h) (Or.inl ⟨by rfl, ?_⟩) ?_ ?_
        rotate_left
        · intro w'
          go_simp
          with_reducible rfl
        rotate_left
        · simp only [Act.put, List.setIfInBounds_toArray, List.set_cons_zero, List.set_cons_succ, i64_w, i32_w]
          rfl
        refine pure_ (i := 37) (N := some 84) (v := ?_) (a' := ?_) #[true, true, true, false, true, true, true, true, false, false, false, false, false, false, false, true, true, true, false, true, true, true, true, true, true, false, false, false, false, false, false, false, false, true, true, false, true, true, false, false, false, false, false, false, false, false] rfl rfl (by kernel_rfl) (fun _ _ _ h => h) (Or.inl ⟨by rfl, ?_⟩) ?_ ?_
        rotate_left
        · intro w'
          go_simp
          with_reducible rfl
        rotate_left
        · simp only [Act.put, List.setIfInBounds_toArray, List.set_cons_zero, List.set_cons_succ, i64_w, i32_w]
          rfl
        refine pure_ (i := 38) (N := some 85) (v := ?_) (a' := ?_) #[true, true, true, false, true, true, true, true, false, false, false, false, false, false, false, true, true, true, false, true, true, true, true, true, true, false, false, false, false, false, false, false, false, true, true, false, true, true, true, false, false, false, false, false, false, false] rfl rfl (by kernel_rfl) (fun _ _ _ h => h) (Or.inl ⟨by rfl, ?_⟩) ?_ ?_
        rotate_left
        · intro w'
          go_simp
          with_reducible rfl
        rotate_left
        · simp only [Act.put, List.setIfInBounds_toArray, List.set_cons_zero, List.set_cons_succ, i64_w, i32_w]
          rfl
        refine pure_ (i := 39) (N := some 86) (v := ?_) (a' := ?_) #[true, true, true, false, true, true, true, true, false, false, false, false, false, false, false, true, true, true, false, true, true, true, true, true, true, false, false, false, false, false, false, false, false, true, true, false, true, true, true, true, false, false, false, false, false, false] rfl rfl (by kernel_rfl) (fun _ _ _ h => h) (Or.inl ⟨by rfl, ?_⟩) ?_ ?_
        rotate_left
        · intro w'
          go_simp
          with_reducible rfl
        rotate_left
        · simp only [Act.put, List.setIfInBounds_toArray, List.set_cons_zero, List.set_cons_succ, i64_w, i32_w]
          rfl
        refine take_ (i := 3) (N := some 50) (v := ?_) (a' := ?_) #[true, true, true, true, true, true, true, true, false, false, false, false, false, false, false, true, true, true, false, true, true, true, true, true, true, false, false, false, false, false, false, false, false, true, true, false, true, true, true, true, false, false, false, false, false, false] rfl rfl (by kernel_rfl) (fun _ _ _ h => h) (Or.inl ⟨by rfl, ?_⟩) hHeld ?_ ?_
        rotate_left
        · rintro w' ⟨s0, s1, s2⟩
          go_simp
          with_reducible rfl
        rotate_left
        · simp only [Act.put, List.setIfInBounds_toArray, List.set_cons_zero, List.set_cons_succ, i64_w, i32_w]
          rfl
        refine take_ (i := 8) (N := some 55) (v := ?_) (a' := ?_) #[true, true, true, true, true, true, true, true, true, false, false, false, false, false, false, true, true, true, false, true, true, true, true, true, true, false, false, false, false, false, false, false, false, true, true, false, true, true, true, true, false, false, false, false, false, false] rfl rfl (by kernel_rfl) (fun _ _ _ h => h) (Or.inl ⟨by rfl, ?_⟩) hHeld ?_ ?_
        rotate_left
        · rintro w' ⟨s0, s1, s2⟩
          go_simp
          with_reducible rfl
        rotate_left
        · simp only [Act.put, List.setIfInBounds_toArray, List.set_cons_zero, List.set_cons_succ, i64_w, i32_w]
          rfl
        refine pure_ (i := 9) (N := some 56) (v := ?_) (a' := ?_) #[true, true, true, true, true, true, true, true, true, true, false, false, false, false, false, true, true, true, false, true, true, true, true, true, true, false, false, false, false, false, false, false, false, true, true, false, true, true, true, true, false, false, false, false, false, false] rfl rfl (by kernel_rfl) (fun _ _ _ h => h) (Or.inl ⟨by rfl, ?_⟩) ?_ ?_
        rotate_left
        · intro w'
          go_simp
          with_reducible rfl
        rotate_left
        · simp only [Act.put, List.setIfInBounds_toArray, List.set_cons_zero, List.set_cons_succ, i64_w, i32_w]
          rfl
        refine pure_ (i := 10) (N := some 57) (v := ?_) (a' := ?_) #[true, true, true, true, true, true, true, true, true, true, true, false, false, false, false, true, true, true, false, true, true, true, true, true, true, false, false, false, false, false, false, false, false, true, true, false, true, true, true, true, false, false, false, false, false, false] rfl rfl (by kernel_rfl) (fun _ _ _ h => h) (Or.inl ⟨by rfl, ?_⟩) ?_ ?_
        rotate_left
        · intro w'
          go_simp
          with_reducible rfl
        rotate_left
        · simp only [Act.put, List.setIfInBounds_toArray, List.set_cons_zero, List.set_cons_succ, i64_w, i32_w]
          rfl
        refine pure_ (i := 11) (N := some 58) (v := ?_) (a' := ?_) #[true, true, true, true, true, true, true, true, true, true, true, true, false, false, false, true, true, true, false, true, true, true, true, true, true, false, false, false, false, false, false, false, false, true, true, false, true, true, true, true, false, false, false, false, false, false] rfl rfl (by kernel_rfl) (fun _ _ _ h => h) (Or.inl ⟨by rfl, ?_⟩) ?_ ?_
        rotate_left
        · intro w'
          go_simp
          with_reducible rfl
        rotate_left
        · simp only [Act.put, List.setIfInBounds_toArray, List.set_cons_zero, List.set_cons_succ, i64_w, i32_w]
          rfl
        refine take_ (i := 12) (N := some 59) (v := ?_) (a' := ?_) #[true, true, true, true, true, true, true, true, true, true, true, true, true, false, false, true, true, true, false, true, true, true, true, true, true, false, false, false, false, false, false, false, false, true, true, false, true, true, true, true, false, false, false, false, false, false] rfl rfl (by kernel_rfl) (fun _ _ _ h => h) (Or.inl ⟨by rfl, ?_⟩) hHeld ?_ ?_
        rotate_left
        · rintro w' ⟨s0, s1, s2⟩
          go_simp
          with_reducible rfl
        rotate_left
        · simp only [Act.put, List.setIfInBounds_toArray, List.set_cons_zero, List.set_cons_succ, i64_w, i32_w]
          rfl
        refine pure_ (i := 13) (N := some 60) (v := ?_) (a' := ?_) #[true, true, true, true, true, true, true, true, true, true, true, true, true, true, false, true, true, true, false, true, true, true, true, true, true, false, false, false, false, false, false, false, false, true, true, false, true, true, true, true, false, false, false, false, false, false] rfl rfl (by kernel_rfl) (fun _ _ _ h => h) (Or.inl ⟨by rfl, ?_⟩) ?_ ?_
        rotate_left
        · intro w'
          go_simp
          with_reducible rfl
        rotate_left
        · simp only [Act.put, List.setIfInBounds_toArray, List.set_cons_zero, List.set_cons_succ, i64_w, i32_w]
          rfl
        refine pure_ (i := 14) (N := some 61) (v := ?_) (a' := ?_) #[true, true, true, true, true, true, true, true, true, true, true, true, true, true, true, true, true, true, false, true, true, true, true, true, true, false, false, false, false, false, false, false, false, true, true, false, true, true, true, true, false, false, false, false, false, false] rfl rfl (by kernel_rfl) (fun _ _ _ h => h) (Or.inl ⟨by rfl, ?_⟩) ?_ ?_
        rotate_left
        · intro w'
          go_simp
          with_reducible rfl
        rotate_left
        · simp only [Act.put, List.setIfInBounds_toArray, List.set_cons_zero, List.set_cons_succ, i64_w, i32_w]
          rfl
        refine take_ (i := 18) (N := some 65) (v := ?_) (a' := ?_) #[true, true, true, true, true, true, true, true, true, true, true, true, true, true, true, true, true, true, true, true, true, true, true, true, true, false, false, false, false, false, false, false, false, true, true, false, true, true, true, true, false, false, false, false, false, false] rfl rfl (by kernel_rfl) (fun _ _ _ h => h) (Or.inl ⟨by rfl, ?_⟩) hHeld ?_ ?_
        rotate_left
        · rintro w' ⟨s0, s1, s2⟩
          go_simp
          with_reducible rfl
        rotate_left
        · simp only [Act.put, List.setIfInBounds_toArray, List.set_cons_zero, List.set_cons_succ, i64_w, i32_w]
          rfl
        refine take_ (i := 25) (N := some 72) (v := ?_) (a' := ?_) #[true, true, true, true, true, true, true, true, true, true, true, true, true, true, true, true, true, true, true, true, true, true, true, true, true, true, false, false, false, false, false, false, false, true, true, false, true, true, true, true, false, false, false, false, false, false] rfl rfl (by kernel_rfl) (fun _ _ _ h => h) (Or.inl ⟨by rfl, ?_⟩) hHeld ?_ ?_
        rotate_left
        · rintro w' ⟨s0, s1, s2⟩
          go_simp
          with_reducible rfl
        rotate_left
        · simp only [Act.put, List.setIfInBounds_toArray, List.set_cons_zero, List.set_cons_succ, i64_w, i32_w]
          rfl
        refine pure_ (i := 26) (N := some 73) (v := ?_) (a' := ?_) #[true, true, true, true, true, true, true, true, true, true, true, true, true, true, true, true, true, true, true, true, true, true, true, true, true, true, true, false, false, false, false, false, false, true, true, false, true, true, true, true, false, false, false, false, false, false] rfl rfl (by kernel_rfl) (fun _ _ _ h => h) (Or.inl ⟨by rfl, ?_⟩) ?_ ?_
        rotate_left
        · intro w'
          go_simp
          with_reducible rfl
        rotate_left
        · simp only [Act.put, List.setIfInBounds_toArray, List.set_cons_zero, List.set_cons_succ, i64_w, i32_w]
          rfl
        refine pure_ (i := 27) (N := some 74) (v := ?_) (a' := ?_) #[true, true, true, true, true, true, true, true, true, true, true, true, true, true, true, true, true, true, true, true, true, true, true, true, true, true, true, true, false, false, false, false, false, true, true, false, true, true, true, true, false, false, false, false, false, false] rfl rfl (by kernel_rfl) (fun _ _ _ h => h) (Or.inl ⟨by rfl, ?_⟩) ?_ ?_
        rotate_left
        · intro w'
          go_simp
          with_reducible rfl
        rotate_left
        · simp only [Act.put, List.setIfInBounds_toArray, List.set_cons_zero, List.set_cons_succ, i64_w, i32_w]
          rfl
        refine pure_ (i := 28) (N := some 75) (v := ?_) (a' := ?_) #[true, true, true, true, true, true, true, true, true, true, true, true, true, true, true, true, true, true, true, true, true, true, true, true, true, true, true, true, true, false, false, false, false, true, true, false, true, true, true, true, false, false, false, false, false, false] rfl rfl (by kernel_rfl) (fun _ _ _ h => h) (Or.inl ⟨by rfl, ?_⟩) ?_ ?_
        rotate_left
        · intro w'
          go_simp
          with_reducible rfl
        rotate_left
        · simp only [Act.put, List.setIfInBounds_toArray, List.set_cons_zero, List.set_cons_succ, i64_w, i32_w]
          rfl
        refine take_ (i := 29) (N := some 76) (v := ?_) (a' := ?_) #[true, true, true, true, true, true, true, true, true, true, true, true, true, true, true, true, true, true, true, true, true, true, true, true, true, true, true, true, true, true, false, false, false, true, true, false, true, true, true, true, false, false, false, false, false, false] rfl rfl (by kernel_rfl) (fun _ _ _ h => h) (Or.inl ⟨by rfl, ?_⟩) hHeld ?_ ?_
        rotate_left
        · rintro w' ⟨s0, s1, s2⟩
          go_simp
          with_reducible rfl
        rotate_left
        · simp only [Act.put, List.setIfInBounds_toArray, List.set_cons_zero, List.set_cons_succ, i64_w, i32_w]
          rfl
        refine pure_ (i := 30) (N := some 77) (v := ?_) (a' := ?_) #[true, true, true, true, true, true, true, true, true, true, true, true, true, true, true, true, true, true, true, true, true, true, true, true, true, true, true, true, true, true, true, false, false, true, true, false, true, true, true, true, false, false, false, false, false, false] rfl rfl (by kernel_rfl) (fun _ _ _ h => h) (Or.inl ⟨by rfl, ?_⟩) ?_ ?_
        rotate_left
        · intro w'
          go_simp
          with_reducible rfl
        rotate_left
        · simp only [Act.put, List.setIfInBounds_toArray, List.set_cons_zero, List.set_cons_succ, i64_w, i32_w]
          rfl
        refine pure_ (i := 31) (N := some 78) (v := ?_) (a' := ?_) #[true, true, true, true, true, true, true, true, true, true, true, true, true, true, true, true, true, true, true, true, true, true, true, true, true, true, true, true, true, true, true, true, false, true, true, false, true, true, true, true, false, false, false, false, false, false] rfl rfl (by kernel_rfl) (fun _ _ _ h => h) (Or.inl ⟨by rfl, ?_⟩) ?_ ?_
        rotate_left
        · intro w'
          go_simp
          with_reducible rfl
        rotate_left
        · simp only [Act.put, List.setIfInBounds_toArray, List.set_cons_zero, List.set_cons_succ, i64_w, i32_w]
          rfl
        refine pure_ (i := 32) (N := some 79) (v := ?_) (a' := ?_) #[true, true, true, true, true, true, true, true, true, true, true, true, true, true, true, true, true, true, true, true, true, true, true, true, true, true, true, true, true, true, true, true, true, true, true, false, true, true, true, true, false, false, false, false, false, false] rfl rfl (by kernel_rfl) (fun _ _ _ h => h) (Or.inl ⟨by rfl, ?_⟩) ?_ ?_
        rotate_left
        · intro w'
          go_simp
          with_reducible rfl
        rotate_left
        · simp only [Act.put, List.setIfInBounds_toArray, List.set_cons_zero, List.set_cons_succ, i64_w, i32_w]
          rfl
        refine pure_ (i := 35) (N := some 82) (v := ?_) (a' := ?_) #[true, true, true, true, true, true, true, true, true, true, true, true, true, true, true, true, true, true, true, true, true, true, true, true, true, true, true, true, true, true, true, true, true, true, true, true, true, true, true, true, false, false, false, false, false, false] rfl rfl (by kernel_rfl) (fun _ _ _ h => h) (Or.inl ⟨by rfl, ?_⟩) ?_ ?_
        rotate_left
        · intro w'
          go_simp
          with_reducible rfl
        rotate_left
        · simp only [Act.put, List.setIfInBounds_toArray, List.set_cons_zero, List.set_cons_succ, i64_w, i32_w]
          rfl
        refine take_ (i := 40) (N := some 87) (v := ?_) (a' := ?_) #[true, true, true, true, true, true, true, true, true, true, true, true, true, true, true, true, true, true, true, true, true, true, true, true, true, true, true, true, true, true, true, true, true, true, true, true, true, true, true, true, true, false, false, false, false, false] rfl rfl (by kernel_rfl) (fun _ _ _ h => h) (Or.inl ⟨by rfl, ?_⟩) hHeld ?_ ?_
        rotate_left
        · rintro w' ⟨s0, s1, s2⟩
          go_simp
          with_reducible rfl
        rotate_left
        · simp only [Act.put, List.setIfInBounds_toArray, List.set_cons_zero, List.set_cons_succ, i64_w, i32_w]
          rfl
        refine pure_ (i := 41) (N := some 88) (v := ?_) (a' := ?_) #[true, true, true, true, true, true, true, true, true, true, true, true, true, true, true, true, true, true, true, true, true, true, true, true, true, true, true, true, true, true, true, true, true, true, true, true, true, true, true, true, true, true, false, false, false, false] rfl rfl (by kernel_rfl) (fun _ _ _ h => h) (Or.inl ⟨by rfl, ?_⟩) ?_ ?_
        rotate_left
        · intro w'
          go_simp
          with_reducible rfl
        rotate_left
        · simp only [Act.put, List.setIfInBounds_toArray, List.set_cons_zero, List.set_cons_succ, i64_w, i32_w]
          rfl
        refine pure_ (i := 42) (N := some 89) (v := ?_) (a' := ?_) #[true, true, true, true, true, true, true, true, true, true, true, true, true, true, true, true, true, true, true, true, true, true, true, true, true, true, true, true, true, true, true, true, true, true, true, true, true, true, true, true, true, true, true, false, false, false] rfl rfl (by kernel_rfl) (fun _ _ _ h => h) (Or.inl ⟨by rfl, ?_⟩) ?_ ?_
        rotate_left
        · intro w'
          go_simp
          with_reducible rfl
        rotate_left
        · simp only [Act.put, List.setIfInBounds_toArray, List.set_cons_zero, List.set_cons_succ, i64_w, i32_w]
          rfl
        refine pure_ (i := 43) (N := some 90) (v := ?_) (a' := ?_) #[true, true, true, true, true, true, true, true, true, true, true, true, true, true, true, true, true, true, true, true, true, true, true, true, true, true, true, true, true, true, true, true, true, true, true, true, true, true, true, true, true, true, true, true, false, false] rfl rfl (by kernel_rfl) (fun _ _ _ h => h) (Or.inl ⟨by rfl, ?_⟩) ?_ ?_
        rotate_left
        · intro w'
          go_simp
          with_reducible rfl
        rotate_left
        · simp only [Act.put, List.setIfInBounds_toArray, List.set_cons_zero, List.set_cons_succ, i64_w, i32_w]
          rfl
        refine pure_ (i := 44) (N := some 91) (v := ?_) (a' := ?_) #[true, true, true, true, true, true, true, true, true, true, true, true, true, true, true, true, true, true, true, true, true, true, true, true, true, true, true, true, true, true, true, true, true, true, true, true, true, true, true, true, true, true, true, true, true, false] rfl rfl (by kernel_rfl) (fun _ _ _ h => h) (Or.inl ⟨by rfl, ?_⟩) ?_ ?_
        rotate_left
        · intro w'
          go_simp
          with_reducible rfl
        rotate_left
        · simp only [Act.put, List.setIfInBounds_toArray, List.set_cons_zero, List.set_cons_succ, i64_w, i32_w]
          rfl
        refine pure_ (i := 45) (N := some 6) (v := ?_) (a' := ?_) #[true, true, true, true, true, true, true, true, true, true, true, true, true, true, true, true, true, true, true, true, true, true, true, true, true, true, true, true, true, true, true, true, true, true, true, true, true, true, true, true, true, true, true, true, true, true] rfl rfl (by kernel_rfl) (fun _ _ _ h => h) (Or.inl ⟨by rfl, ?_⟩) ?_ ?_
        rotate_left
        · intro w'
          go_simp
          with_reducible rfl
        rotate_left
        · simp only [Act.put, List.setIfInBounds_toArray, List.set_cons_zero, List.set_cons_succ, i64_w, i32_w]
          rfl
        refine done_ (by kernel_rfl) ?_
        clear hHeld e1 e2 e3 e4 e5 e6 e7 e8 e9 e10 e11 e12 ex ey ed q0 q1 hc hd f0 f1
        go_wp2
        go_ret
        exact ⟨_, rfl, pick_last b6 n (by omega) (by omega), (HR.out.1).bel (Below.refl _ _).drew, grown_tr HR.out.2 (grown_drew _ _)⟩
end Go.Proofs.Ytpobgjkmjlmafaa
/- OpOk of both: which changes are in form. -/

namespace Go.Proofs.Ytpobgjkmjlmafaa
open Go.RowKit Go.Proofs.YtpobgjkmjlmafaaW.PrintWords
set_option linter.unusedVariables false
set_option linter.unusedSimpArgs false

def emp (t : ByteArray) : Bool := t.toList.isEmpty
theorem emp_iff {t : ByteArray} : emp t = true ↔ t = e0 := by unfold emp; rw [List.isEmpty_iff, toList_nil]
def opRest (o : Op) : Bool :=
  if o.kind = 1 then emp o.dest && (inR o.n 1 6 && emp o.text)
  else if o.kind = 2 then emp o.dest && (inR o.n 0 5 && tOk o.text)
  else if o.kind = 3 then isNm o.dest && (decide (o.n = 0) && emp o.text)
  else if o.kind = 4 then emp o.dest && (decide (o.n = 0) && emp o.text)
  else false
def opOk (o : Op) : Bool := isNm o.name && opRest o
def opV (o : Op) : Value := .agg #[.int .i64 o.kind, .string o.name, .string o.dest, .int .i64 o.n, .string o.text]
structure SmallO (o : Op) : Prop where
  name : o.name.size ≤ 1048576
  dest : o.dest.size ≤ 1048576
  text : o.text.size ≤ 1048576
theorem max_of {n : Nat} (h : n ≤ 1048576) : n ≤ maxLen := by unfold maxLen; omega
set_option maxHeartbeats 4000000 in
theorem specOpOk_c (o : Op) (hs : SmallO o) (w : World) : Calls Try.prog 60 #[.agg #[.int .i64 o.kind, .string o.name, .string o.dest, .int .i64 o.n, .string o.text]] w (Ret (.bool (opOk o)) w) := by
  have hn := max_of hs.name
  have hd := max_of hs.dest
  have ht := max_of hs.text
  obtain ⟨kd, nm, ds, n, tx⟩ := o
  simp only at hn hd ht
  have HN := Lib.hid hn
  have HD := Lib.hid hd
  have HT := Lib.hid ht
  clear hn hd ht hs
  cases h0 : isNm nm with
  | false =>
    have HG := Lib.hid (show opOk ⟨kd, nm, ds, n, tx⟩ = false by unfold opOk; rw [h0]; rfl)
    go_enter Try.func60, Try.ntmps60
    go_wp2_with (go_at_call 115; refine (l3Name_c nm _ HN.out).mono ?_; rintro e w' ⟨rfl, rfl⟩)
    go_ret
    exact ⟨ret_bool HG.out.symm, bel_alloc (Below.refl _ _) _⟩
  | true =>
    have hno : ∀ b, opRest ⟨kd, nm, ds, n, tx⟩ = b → opOk ⟨kd, nm, ds, n, tx⟩ = b := fun b hb => by unfold opOk; rw [h0, hb]; rfl
    have HNO := Lib.hid hno
    clear hno
    by_cases h1 : kd = 1
    · subst h1
      cases hx1 : ds.toList.isEmpty
      all_goals cases hx2 : inR n 1 6
      all_goals cases hx3 : tx.toList.isEmpty
      all_goals
        have HG := Lib.hid (show opRest ⟨1, nm, ds, n, tx⟩ = _ by unfold opRest emp; simp only [if_true, hx1, hx2, hx3]; rfl)
        go_enter Try.func60, Try.ntmps60
        go_wp2_with fail
        refine (l3Name_c nm _ HN.out).mono ?_
        rintro e w1 ⟨rfl, rfl⟩
        go_wp2_with (first | (go_at_call 98; refine (l6In_c _ _ _ _).mono ?_; rintro e w' ⟨rfl, rfl⟩) | (go_at_call 45; refine (specTextOk_c tx _ HT.out).mono ?_; rintro e w' ⟨rfl, rfl⟩) | (go_at_call 115; refine (l3Name_c ds _ HD.out).mono ?_; rintro e w' ⟨rfl, rfl⟩))
        go_ret
        exact ⟨ret_bool (HNO.out _ HG.out).symm, bel_alloc (Below.refl _ _) _⟩
    by_cases h2 : kd = 2
    · subst h2
      cases hx1 : ds.toList.isEmpty
      all_goals cases hx2 : inR n 0 5
      all_goals cases hx3 : tOk tx
      all_goals
        have HG := Lib.hid (show opRest ⟨2, nm, ds, n, tx⟩ = _ by unfold opRest emp; simp only [show ¬ ((2 : Int) = 1) by decide, if_false, if_true, hx1, hx2, hx3]; rfl)
        go_enter Try.func60, Try.ntmps60
        go_wp2_with fail
        refine (l3Name_c nm _ HN.out).mono ?_
        rintro e w1 ⟨rfl, rfl⟩
        go_wp2_with (first | (go_at_call 98; refine (l6In_c _ _ _ _).mono ?_; rintro e w' ⟨rfl, rfl⟩) | (go_at_call 45; refine (specTextOk_c tx _ HT.out).mono ?_; rintro e w' ⟨rfl, rfl⟩) | (go_at_call 115; refine (l3Name_c ds _ HD.out).mono ?_; rintro e w' ⟨rfl, rfl⟩))
        go_ret
        exact ⟨ret_bool (HNO.out _ HG.out).symm, bel_alloc (Below.refl _ _) _⟩
    by_cases h3 : kd = 3
    · subst h3
      cases hx1 : isNm ds
      all_goals by_cases hx2 : n = 0
      all_goals cases hx3 : tx.toList.isEmpty
      all_goals
        have HG := Lib.hid (show opRest ⟨3, nm, ds, n, tx⟩ = _ by unfold opRest emp; simp only [show ¬ ((3 : Int) = 1) by decide, show ¬ ((3 : Int) = 2) by decide, if_false, if_true, hx1, hx2, hx3, decide_true, decide_false]; rfl)
        try subst hx2
        go_enter Try.func60, Try.ntmps60
        go_wp2_with fail
        refine (l3Name_c nm _ HN.out).mono ?_
        rintro e w1 ⟨rfl, rfl⟩
        go_wp2_with (first | (go_at_call 98; refine (l6In_c _ _ _ _).mono ?_; rintro e w' ⟨rfl, rfl⟩) | (go_at_call 45; refine (specTextOk_c tx _ HT.out).mono ?_; rintro e w' ⟨rfl, rfl⟩) | (go_at_call 115; refine (l3Name_c ds _ HD.out).mono ?_; rintro e w' ⟨rfl, rfl⟩))
        go_ret
        exact ⟨ret_bool (HNO.out _ HG.out).symm, bel_alloc (Below.refl _ _) _⟩
    by_cases h4 : kd = 4
    · subst h4
      cases hx1 : ds.toList.isEmpty
      all_goals by_cases hx2 : n = 0
      all_goals cases hx3 : tx.toList.isEmpty
      all_goals
        have HG := Lib.hid (show opRest ⟨4, nm, ds, n, tx⟩ = _ by unfold opRest emp; simp only [show ¬ ((4 : Int) = 1) by decide, show ¬ ((4 : Int) = 2) by decide, show ¬ ((4 : Int) = 3) by decide, if_false, if_true, hx1, hx2, hx3, decide_true, decide_false]; rfl)
        try subst hx2
        go_enter Try.func60, Try.ntmps60
        go_wp2_with fail
        refine (l3Name_c nm _ HN.out).mono ?_
        rintro e w1 ⟨rfl, rfl⟩
        go_wp2_with (first | (go_at_call 98; refine (l6In_c _ _ _ _).mono ?_; rintro e w' ⟨rfl, rfl⟩) | (go_at_call 45; refine (specTextOk_c tx _ HT.out).mono ?_; rintro e w' ⟨rfl, rfl⟩) | (go_at_call 115; refine (l3Name_c ds _ HD.out).mono ?_; rintro e w' ⟨rfl, rfl⟩))
        go_ret
        exact ⟨ret_bool (HNO.out _ HG.out).symm, bel_alloc (Below.refl _ _) _⟩
    have HG := Lib.hid (show opRest ⟨kd, nm, ds, n, tx⟩ = false by unfold opRest; simp only [h1, h2, h3, h4, if_false])
    go_enter Try.func60, Try.ntmps60
    go_wp2_with fail
    refine (l3Name_c nm _ HN.out).mono ?_
    rintro e w1 ⟨rfl, rfl⟩
    go_wp2_with (first | (go_at_call 98; refine (l6In_c _ _ _ _).mono ?_; rintro e w' ⟨rfl, rfl⟩) | (go_at_call 45; refine (specTextOk_c tx _ HT.out).mono ?_; rintro e w' ⟨rfl, rfl⟩) | (go_at_call 115; refine (l3Name_c ds _ HD.out).mono ?_; rintro e w' ⟨rfl, rfl⟩))
    go_ret
    exact ⟨ret_bool (HNO.out _ HG.out).symm, bel_alloc (Below.refl _ _) _⟩
end Go.Proofs.Ytpobgjkmjlmafaa
/- l6Open, of; l71Text. -/


namespace Go.Proofs.Ytpobgjkmjlmafaa
open Go.RowKit Go.Proofs.YtpobgjkmjlmafaaW.PrintWords Go.Proofs.YtpobgjkmjlmafaaW.PrintLast
set_option linter.unusedVariables false
set_option linter.unusedSimpArgs false

/-- What l6Open leaves: a new reader. -/
def Opened (w : World) (e : Ending) (w' : World) : Prop := ∃ rb, e = .returned (.pointer (some ⟨rb, 0, none⟩)) ∧ Rd w' rb 0 ∧ w.heap.size ≤ rb ∧ Bel w w'
/-- A code that came in. -/
structure CodeIn (w : World) (A : Option Addr) (n c : Nat) (bs : List Int) : Prop where
  len : bs.length = n
  cap : n ≤ c
  C : kByte.C w A n bs
  bd : ∀ x ∈ bs, 0 ≤ x ∧ x ≤ 255
  lt : ∀ ad, A = some ad → ad.block < w.heap.size
theorem CodeIn.bel {w w' : World} {A : Option Addr} {n c : Nat} {bs : List Int} (h : CodeIn w A n c bs) (hb : Bel w w') : CodeIn w' A n c bs := ⟨h.len, h.cap, Kd.C_below h.C hb, h.bd, fun ad e => Nat.lt_of_lt_of_le (h.lt ad e) hb.size⟩
set_option maxHeartbeats 2000000 in
theorem open_c {w : World} {A : Option Addr} {n c : Nat} {bs : List Int} (h : CodeIn w A n c bs) (hn : n ≤ 9223372036854775807) :
    Calls Try.prog 79 #[.slice A n c] w (Opened w) := by
  have hcap := h.cap
  have H := Lib.hid h
  clear h
  by_cases hl : (2000 : Int) < (n : Int)
  · go_enter Try.func79, Try.ntmps79
    go_wp2
    go_ret
    have hlen : (bs.take 2000).length = 2000 := by rw [List.length_take, H.out.len]; omega
    refine ⟨w.heap.size, rfl, ⟨⟨A, c, bs.take 2000, 0, ?_, ?_, fun x hx => H.out.bd x (List.mem_of_mem_take hx), by omega, Nat.le_refl _, H.out.lt⟩⟩, Nat.le_refl _, bel_alloc (Below.refl _ _) _⟩
    · rw [hlen]; exact Blk.new _ _ _
    · rw [hlen]; exact Kd.C_alloc (C_take H.out.C 2000 (by omega)) _
  · go_enter Try.func79, Try.ntmps79
    go_wp2
    go_ret
    refine ⟨w.heap.size, rfl, ⟨⟨A, c, bs, 0, ?_, ?_, H.out.bd, by rw [H.out.len]; omega, Nat.le_refl _, H.out.lt⟩⟩, Nat.le_refl _, bel_alloc (Below.refl _ _) _⟩
    · rw [H.out.len]; exact Blk.new _ _ _
    · rw [H.out.len]; exact Kd.C_alloc H.out.C _
def OfV (xs : List ByteArray) (v : Value) : Prop := ∃ s, v = .string s ∧ s ∈ xs
theorem cell_str {w : World} {b : Nat} {xs : List ByteArray} {t : TypeId} (h : Blk w b (xs.map Value.string).toArray t) {j : Nat} {s : ByteArray} (hj : xs[j]? = some s) : w.cell? ⟨b, j, none⟩ = some (.string s) := by
  rw [h.cell]; simp [hj]
set_option maxHeartbeats 2000000 in
theorem of_c {w : World} {rb lb k : Nat} {xs : List ByteArray} {T : TypeId} (h : Rd w rb k) (hk : k ≤ 1099511627776) (hL : Blk w lb (xs.map Value.string).toArray T) (hne : lb ≠ rb) (h1 : 1 ≤ xs.length) (h2 : xs.length ≤ 100) (m c : Nat) (hm : xs.length = m) (hmc : m ≤ c) :
    Calls Try.prog 106 #[.pointer (some ⟨rb, 0, none⟩), .slice (some ⟨lb, 0, none⟩) m c] w (Drawn rb k 1 (OfV xs) w) := by
  have H := Lib.hid h
  have HL := Lib.hid hL
  have HM := Lib.hid hm
  have hm1 : 1 ≤ m := by omega
  have hm2 : m ≤ 100 := by omega
  clear h hL hm
  go_enter Try.func106, Try.ntmps106
  go_wp2_with fail
  refine (pick_c H.out hk (m : Int) (by omega)).mono ?_
  rintro e w1 ⟨v, rfl, ⟨r, rfl, hr0, hr1, -⟩, hR, hg⟩
  have hr2 := hr1 (by omega)
  obtain ⟨j, rfl⟩ : ∃ j : Nat, r = j := ⟨r.toNat, by omega⟩
  have hjm : j < m := by omega
  obtain ⟨s, hs⟩ := getQ (show j < xs.length by rw [HM.out]; exact hjm)
  have hc := cell_str (HL.out.grown hg (by intro e; injection e with e; exact hne e)) hs
  have HR := Lib.hid (And.intro hR hg)
  have HS := Lib.hid (List.mem_of_getElem? hs)
  clear hR hg hs hr1
  go_wp2
  go_ret
  exact ⟨_, rfl, ⟨s, rfl, HS.out⟩, HR.out.1, HR.out.2⟩
def TextV (v : Value) : Prop := ∃ s : ByteArray, v = .string s ∧ s.size ≤ 7
def sOf (l : List UInt8) : ByteArray := ⟨l.toArray⟩
def abc : List ByteArray := [sOf [97], sOf [98], sOf [99], sOf [100], sOf [97]]
def eee : List ByteArray := [sOf [101], sOf [97, 97, 97, 97], sOf [32], sOf [65]]
theorem abc_size {s : ByteArray} (h : s ∈ abc) : s.size = 1 := by
  simp only [abc, List.mem_cons, List.not_mem_nil, or_false] at h
  rcases h with rfl | rfl | rfl | rfl | rfl <;> rfl
theorem eee_size {s : ByteArray} (h : s ∈ eee) : s.size ≤ 4 := by
  simp only [eee, List.mem_cons, List.not_mem_nil, or_false] at h
  rcases h with rfl | rfl | rfl | rfl <;> decide
set_option maxHeartbeats 4000000 in
set_option maxRecDepth 10000 in
theorem text_c {w : World} {rb k : Nat} (h : Rd w rb k) (hk : k ≤ 1099511600000) :
    Calls Try.prog 97 #[.pointer (some ⟨rb, 0, none⟩)] w (Drawn rb k 6 TextV w) := by
  have H := Lib.hid h
  clear h
  go_enter Try.func97, Try.ntmps97
  go_wp2_with fail
  refine (pick_c H.out (by omega) 4 (by omega)).mono ?_
  rintro e w1 ⟨v, rfl, ⟨r, rfl, hr0, hr1, -⟩, hR, hg⟩
  have hr2 := hr1 (by omega)
  obtain ⟨j0, rfl⟩ : ∃ j : Nat, r = j := ⟨r.toNat, by omega⟩
  have hj0 : j0 ≤ 3 := by omega
  have HR := Lib.hid (And.intro hR hg)
  clear hR hg hr1 hr2
  go_wp2
  go_loopg [3, 4] j0 (fun gg v3 v4 W => ∃ (j : Nat) (s : ByteArray), j = gg ∧ j ≤ j0 ∧ v4 = .int .i64 j ∧ v3 = .string s ∧ s.size + j ≤ 3 ∧ Hid (Rd W rb (k + 1 + (3 - j)) ∧ w.grownBy W (some rb)))
  case atStart => exact ⟨j0, ⟨#[]⟩, rfl, Nat.le_refl _, rfl, rfl, by simp [ByteArray.size]; omega, HR.out.1.more (by omega), HR.out.2⟩
  case round =>
    obtain ⟨j, s, hj, hjj, rfl, rfl, hs, hI⟩ := hrel
    subst hj
    by_cases hlt : 0 < j
    · go_wp2_with fail
      have hB : Blk (wr.alloc (.cells #[.string ⟨#[97]⟩, .string ⟨#[98]⟩, .string ⟨#[99]⟩, .string ⟨#[100]⟩, .string ⟨#[97]⟩] 9)) wr.heap.size (abc.map Value.string).toArray 9 := Blk.new wr _ _
      have hne : wr.heap.size ≠ rb := by have := hI.out.1.lt; omega
      refine (of_c (hI.out.1.bel (bel_alloc (Below.refl _ _) _)) (by omega) hB hne (by decide) (by decide) 5 5 rfl (by omega)).mono ?_
      rintro e w4 ⟨v, rfl, ⟨s', rfl, hs'⟩, hR4, hg4⟩
      have hsz := abc_size hs'
      have hsz1 : s'.size ≤ 1 := by omega
      have HSZ := Lib.hid hsz
      have HI := Lib.hid (And.intro hR4 (grown_tr hI.out.2 (grown_tr (grown_of_bel (bel_alloc (Below.refl _ _) _) _) hg4)))
      have hs3 : s.size ≤ 3 := by omega
      clear hB hne hs' hR4 hg4 hI hsz
      go_wp2
      go_roundg (j - 1)
      case measure => omega
      case rel => exact ⟨j - 1, _, rfl, by omega, int_eq (by omega), rfl, by rw [ByteArray.size_append, HSZ.out]; omega, HI.out.1.more (by omega), HI.out.2⟩
    · have hj : j = 0 := by omega
      have HI := Lib.hid (And.intro (hI.out.1.more (show k + 1 + (3 - j) ≤ k + 4 by omega)) hI.out.2)
      have hs3 : s.size ≤ 3 := by omega
      clear hI
      go_wp2_with fail
      refine (pick_c HI.out.1 (by omega) 30 (by omega)).mono ?_
      rintro e w4 ⟨v, rfl, ⟨r, rfl, hr0, hr1, -⟩, hR4, hg4⟩
      have HI4 := Lib.hid (And.intro hR4 (grown_tr HI.out.2 hg4))
      clear hR4 hg4 hr1
      by_cases hr : r = 0
      · subst hr
        go_wp2_with fail
        have hB : Blk (w4.alloc (.cells #[.string ⟨#[101]⟩, .string ⟨#[97, 97, 97, 97]⟩, .string ⟨#[32]⟩, .string ⟨#[65]⟩] 9)) w4.heap.size (eee.map Value.string).toArray 9 := Blk.new w4 _ _
        have hne : w4.heap.size ≠ rb := by have := HI4.out.1.lt; omega
        refine (of_c (HI4.out.1.bel (bel_alloc (Below.refl _ _) _)) (by omega) hB hne (by decide) (by decide) 4 4 rfl (by omega)).mono ?_
        rintro e w5 ⟨v, rfl, ⟨s', rfl, hs'⟩, hR5, hg5⟩
        have hsz := eee_size hs'
        have HI5 := Lib.hid (And.intro (hR5.more (show k + 4 + 1 + 1 ≤ k + 6 by omega)) (grown_tr HI4.out.2 (grown_tr (grown_of_bel (bel_alloc (Below.refl _ _) _) _) hg5)))
        clear hB hne hs' hR5 hg5
        go_wp2
        go_ret
        exact ⟨_, rfl, ⟨_, rfl, by rw [ByteArray.size_append]; omega⟩, HI5.out.1, HI5.out.2⟩
      · go_wp2
        go_ret
        exact ⟨_, rfl, ⟨_, rfl, by omega⟩, HI4.out.1.more (by omega), HI4.out.2⟩
end Go.Proofs.Ytpobgjkmjlmafaa
/- l71Op: a change that is drawn. -/

namespace Go.Proofs.Ytpobgjkmjlmafaa
open Go.RowKit Go.Proofs.YtpobgjkmjlmafaaW.PrintWords Go.Proofs.YtpobgjkmjlmafaaW.PrintLast
set_option linter.unusedVariables false
set_option linter.unusedSimpArgs false

theorem grown_new {w W : World} {r : Option Nat} (h : w.grownBy W r) {b : Nat} (hb : w.heap.size ≤ b) (i : Nat) (u : Value) : w.grownBy (W.setCell ⟨b, i, none⟩ u) r :=
  ⟨h.os, h.tape, h.output, by have := h.size; simpa using this, fun k hk hr => (heap_setCell_other W ⟨b, i, none⟩ k u (by show k ≠ b; omega)).trans (h.block k hk hr)⟩
theorem Rd.set {W : World} {rb k : Nat} (h : Rd W rb k) {b : Nat} (hb : rb < b) (i : Nat) (u : Value) : Rd (W.setCell ⟨b, i, none⟩ u) rb k := by
  obtain ⟨A, c, bs, p, h1, h2, h3, h4, h5, h6⟩ := h.h
  exact ⟨⟨A, c, bs, p, h1.apart (by omega) i u, byte_kept h2 (grown_setCell W b i u) (fun ad e => by have := h6 ad e; omega), h3, h4, h5, h6⟩⟩
theorem Rd.grown {W W' : World} {rb k : Nat} (h : Rd W rb k) {r : Option Nat} (hg : W.grownBy W' r) (hr : ∀ b, r = some b → rb < b) : Rd W' rb k := by
  obtain ⟨A, c, bs, p, h1, h2, h3, h4, h5, h6⟩ := h.h
  refine ⟨⟨A, c, bs, p, h1.grown hg (fun e => by have := hr rb e.symm; omega), ?_, h3, h4, h5, h6⟩⟩
  refine ⟨h2.1, h2.2.1, fun h0 => ?_⟩
  obtain ⟨ad, e, hh⟩ := h2.2.2 h0
  refine ⟨ad, e, fun j q hj => ?_⟩
  obtain ⟨c, g1, g2, g3⟩ := hh j q hj
  refine ⟨c, g1, g2, fun i u hu => World.grownBy.cell hg (g3 i u hu) ?_⟩
  rw [add_block]
  intro he
  have a1 := h6 ad e
  have a2 := hr _ he.symm
  omega
/-- The state of a draw of a change: the result's block, the change's own block, the reader. -/
structure OpSt (w W : World) (rb rs ob k : Nat) (cs : Array Value) : Prop where
  res : Blk W rs #[.int .i64 0, .string ⟨#[]⟩, .string ⟨#[]⟩, .int .i64 0, .string ⟨#[]⟩] 74
  op : Blk W ob cs 74
  rd : Rd W rb k
  g : w.grownBy W (some rb)
  l1 : w.heap.size ≤ rs
  l2 : rs < ob
  l3 : rb < w.heap.size
theorem OpSt.step {w W W' : World} {rb rs ob k k' : Nat} {cs : Array Value} (h : OpSt w W rb rs ob k cs) (hR : Rd W' rb k') (hg : W.grownBy W' (some rb)) : OpSt w W' rb rs ob k' cs :=
  ⟨h.res.grown hg (fun e => by injection e with e; have := h.l1; have := h.l3; omega), h.op.grown hg (fun e => by injection e with e; have := h.l1; have := h.l2; have := h.l3; omega), hR, grown_tr h.g hg, h.l1, h.l2, h.l3⟩
theorem OpSt.bel {w W W' : World} {rb rs ob k : Nat} {cs : Array Value} (h : OpSt w W rb rs ob k cs) (hb : Bel W W') : OpSt w W' rb rs ob k cs :=
  ⟨h.res.bel hb, h.op.bel hb, h.rd.bel hb, grown_tr h.g (grown_of_bel hb _), h.l1, h.l2, h.l3⟩
theorem OpSt.set {w W : World} {rb rs ob k : Nat} {cs cs' : Array Value} (h : OpSt w W rb rs ob k cs) (i : Nat) (u : Value) (e : cs.setIfInBounds i u = cs') : OpSt w (W.setCell ⟨ob, i, none⟩ u) rb rs ob k cs' :=
  ⟨h.res.apart (by have := h.l2; omega) i u, h.op.set i u e, h.rd.set (by have := h.l1; have := h.l2; have := h.l3; omega) i u, grown_new h.g (by have := h.l1; have := h.l2; omega) i u, h.l1, h.l2, h.l3⟩
theorem OpSt.more {w W : World} {rb rs ob k k' : Nat} {cs : Array Value} (h : OpSt w W rb rs ob k cs) (hk : k ≤ k') : OpSt w W rb rs ob k' cs := ⟨h.res, h.op, h.rd.more hk, h.g, h.l1, h.l2, h.l3⟩
/-- What a draw of a change hands back. -/
def OpV (v : Value) : Prop := ∃ o : Op, v = opV o ∧ SmallO o ∧ -100 ≤ o.n ∧ o.n ≤ 100 ∧ 0 ≤ o.kind ∧ o.kind ≤ 100
def nms : List ByteArray := [sOf [65], sOf [66], sOf [67], sOf [68]]
def bad : List ByteArray := [sOf [], sOf [69], sOf [65, 65]]
theorem nms_size {s : ByteArray} (h : s ∈ nms) : s.size ≤ 7 := by
  simp only [nms, List.mem_cons, List.not_mem_nil, or_false] at h
  rcases h with rfl | rfl | rfl | rfl <;> decide
theorem bad_size {s : ByteArray} (h : s ∈ bad) : s.size ≤ 7 := by
  simp only [bad, List.mem_cons, List.not_mem_nil, or_false] at h
  rcases h with rfl | rfl | rfl <;> decide
theorem e_size : (⟨#[]⟩ : ByteArray).size ≤ 7 := by decide
set_option maxHeartbeats 16000000 in
set_option maxRecDepth 10000 in
theorem op_c {w : World} {rb k : Nat} (h : Rd w rb k) (hk : k ≤ 1099511500000) :
    Calls Try.prog 111 #[.pointer (some ⟨rb, 0, none⟩)] w (Drawn rb k 20 OpV w) := by
  have H := Lib.hid h
  have hlt := h.lt
  clear h
  go_enter Try.func111, Try.ntmps111
  go_wp2_with fail
  have hB : Blk ((w.alloc (.cells #[.int .i64 0, .string ⟨#[]⟩, .string ⟨#[]⟩, .int .i64 0, .string ⟨#[]⟩] 74)).alloc (.cells #[.string ⟨#[65]⟩, .string ⟨#[66]⟩, .string ⟨#[67]⟩, .string ⟨#[68]⟩] 9)) (w.heap.size + 1) (nms.map Value.string).toArray 9 := Blk.nw2 w _ _ _
  have hres : Blk ((w.alloc (.cells #[.int .i64 0, .string ⟨#[]⟩, .string ⟨#[]⟩, .int .i64 0, .string ⟨#[]⟩] 74)).alloc (.cells #[.string ⟨#[65]⟩, .string ⟨#[66]⟩, .string ⟨#[67]⟩, .string ⟨#[68]⟩] 9)) w.heap.size #[.int .i64 0, .string ⟨#[]⟩, .string ⟨#[]⟩, .int .i64 0, .string ⟨#[]⟩] 74 := (Blk.new _ _ _).alloc _
  have hW : Bel w ((w.alloc (.cells #[.int .i64 0, .string ⟨#[]⟩, .string ⟨#[]⟩, .int .i64 0, .string ⟨#[]⟩] 74)).alloc (.cells #[.string ⟨#[65]⟩, .string ⟨#[66]⟩, .string ⟨#[67]⟩, .string ⟨#[68]⟩] 9)) := bel_alloc (bel_alloc (Below.refl _ _) _) _
  generalize ((w.alloc (.cells #[.int .i64 0, .string ⟨#[]⟩, .string ⟨#[]⟩, .int .i64 0, .string ⟨#[]⟩] 74)).alloc (.cells #[.string ⟨#[65]⟩, .string ⟨#[66]⟩, .string ⟨#[67]⟩, .string ⟨#[68]⟩] 9)) = W0 at hB hres hW ⊢
  refine (of_c (H.out.bel hW) (by omega) hB (by omega) (by decide) (by decide) 4 4 rfl (by omega)).mono ?_
  rintro e w1 ⟨v, rfl, ⟨nm, rfl, hnm⟩, hR1, hg1⟩
  have hnz := nms_size hnm
  have HS1 := Lib.hid (And.intro (hres.grown hg1 (by intro e; injection e with e; omega)) (And.intro hR1 (grown_tr (grown_of_bel hW _) hg1)))
  clear hB hres hW hnm hR1 hg1
  go_wp2_with fail
  refine (pick_c HS1.out.2.1 (by omega) 3 (by omega)).mono ?_
  rintro e w2 ⟨v, rfl, ⟨n0, rfl, hn0, hn1, -⟩, hR2, hg2⟩
  have hn2 := hn1 (by omega)
  have HS2 := Lib.hid (And.intro (HS1.out.1.grown hg2 (by intro e; injection e with e; omega)) (And.intro hR2 (grown_tr HS1.out.2.2 hg2)))
  clear hR2 hg2 hn1
  go_wp2_with fail
  refine (text_c HS2.out.2.1 (by omega)).mono ?_
  rintro e w3 ⟨v, rfl, ⟨tx, rfl, htx⟩, hR3, hg3⟩
  have HS3 := Lib.hid (And.intro (HS2.out.1.grown hg3 (by intro e; injection e with e; omega)) (And.intro hR3 (grown_tr HS2.out.2.2 hg3)))
  clear hR3 hg3
  go_wp2_with fail
  have hst : OpSt w (w3.alloc (.cells #[.int .i64 2, .string nm, .string ⟨#[]⟩, .int .i64 n0, .string tx] 74)) rb w.heap.size w3.heap.size (k + 1 + 1 + 6) #[.int .i64 2, .string nm, .string ⟨#[]⟩, .int .i64 n0, .string tx] := ⟨HS3.out.1.alloc _, Blk.new _ _ _, HS3.out.2.1.bel (bel_alloc (Below.refl _ _) _), grown_tr HS3.out.2.2 (grown_of_bel (bel_alloc (Below.refl _ _) _) _), Nat.le_refl _, HS3.out.1.lt, hlt⟩
  generalize w3.alloc (.cells #[.int .i64 2, .string nm, .string ⟨#[]⟩, .int .i64 n0, .string tx] 74) = W4 at hst ⊢
  obtain ⟨ob, hob⟩ : ∃ ob, w3.heap.size = ob := ⟨_, rfl⟩
  rw [hob] at hst ⊢
  have HST := Lib.hid hst
  clear hst hob
  have hez := e_size
  refine (pick_c HST.out.rd (by omega) 12 (by omega)).mono ?_
  rintro e w5 ⟨v, rfl, ⟨r, rfl, hr0, hr1, -⟩, hR5, hg5⟩
  have HS5 := Lib.hid (HST.out.step hR5 hg5)
  have hr2 := hr1 (by omega)
  clear hR5 hg5 hr1
  by_cases hra : r = 0
  · subst hra
    have hs5 := HS5.out
    have c0 := hs5.op.cell 0
    have g0 := hs5.op.free 0
    have c1 := hs5.op.cell 1
    have g1 := hs5.op.free 1
    have c2 := hs5.op.cell 2
    have g2 := hs5.op.free 2
    have c3 := hs5.op.cell 3
    have g3 := hs5.op.free 3
    have c4 := hs5.op.cell 4
    have g4 := hs5.op.free 4
    have zo := hs5.op.lt
    have hne1 : ¬ ob = w.heap.size := by have := hs5.l2; omega
    have hne2 : ¬ w.heap.size = ob := by have := hs5.l2; omega
    simp at c0 c1 c2 c3 c4
    have HRD := Lib.hid hs5.rd
    clear hs5
    go_wp2
    have HP6 := Lib.hid (pick_c (w := w5.drew) (HRD.out.bel (Below.refl _ _).drew) (by omega) 6 (by omega))
    refine start_ (n := 7) (S := fun w' => w'.cell? ⟨ob, 1, none⟩ = some (.string nm)) (ds := [6]) #[false, false, false, false, false, false, false] (by kernel_rfl) rfl rfl (c1) (fun hHeld => ?_)
    refine pure_ (i := 0) (N := some 17) (v := ?_) (a' := ?_) #[true, false, false, false, false, false, false] rfl rfl (by kernel_rfl) (fun _ _ _ h => h) (Or.inl ⟨by rfl, ?_⟩) ?_ ?_
    rotate_left
    · intro w'
      go_simp
      with_reducible rfl
    rotate_left
    · simp only [Act.put, List.setIfInBounds_toArray, List.set_cons_zero, List.set_cons_succ, i64_w, i32_w]
      rfl
    refine pure_ (i := 2) (N := some 19) (v := ?_) (a' := ?_) #[true, false, true, false, false, false, false] rfl rfl (by kernel_rfl) (fun _ _ _ h => h) (Or.inl ⟨by rfl, ?_⟩) ?_ ?_
    rotate_left
    · intro w'
      go_simp
      with_reducible rfl
    rotate_left
    · simp only [Act.put, List.setIfInBounds_toArray, List.set_cons_zero, List.set_cons_succ, i64_w, i32_w]
      rfl
    refine take_ (i := 1) (N := some 18) (v := ?_) (a' := ?_) #[true, true, true, false, false, false, false] rfl rfl (by kernel_rfl) (fun _ _ _ h => h) (Or.inl ⟨by rfl, ?_⟩) hHeld ?_ ?_
    rotate_left
    · intro w' s0
      go_simp
      with_reducible rfl
    rotate_left
    · simp only [Act.put, List.setIfInBounds_toArray, List.set_cons_zero, List.set_cons_succ, i64_w, i32_w]
      rfl
    refine one_ (i := 3) (N := some 20) #[true, true, true, true, false, false, false] rfl rfl (by kernel_rfl) (by decide) (fun K hK => ?_)
    refine goes_ Try.func96 (by kernel_rfl) rfl #[.pointer (some ⟨rb, 0, none⟩), .int .i64 6] (by rfl) rfl rfl (by simp only [List.map_toArray, List.map_cons, List.map_nil]; rfl) ?_
    with_reducible refine (HP6.out).mono ?_
    rintro e w6 ⟨v, rfl, ⟨n6, rfl, hn60, hn61, -⟩, hR6, hg6⟩
    have hn62 := hn61 (by omega)
    have hs6 := OpSt.step (W := w5.drew) (HS5.out.bel (Below.refl _ _).drew) hR6 hg6
    have HS6 := Lib.hid hs6
    have c0 := hs6.op.cell 0
    have g0 := hs6.op.free 0
    have c1 := hs6.op.cell 1
    have g1 := hs6.op.free 1
    have c2 := hs6.op.cell 2
    have g2 := hs6.op.free 2
    have c3 := hs6.op.cell 3
    have g3 := hs6.op.free 3
    have c4 := hs6.op.cell 4
    have g4 := hs6.op.free 4
    have zo := hs6.op.lt
    have hne1 : ¬ ob = w.heap.size := by have := hs6.l2; omega
    have hne2 : ¬ w.heap.size = ob := by have := hs6.l2; omega
    simp at c0 c1 c2 c3 c4
    have hwn : wrap64 (1 + n6) = 1 + n6 := by unfold wrap64; omega
    clear hR6 hg6 hn61 hs6
    refine ⟨_, rfl, ?_⟩
    refine hK.out _ _ (c1) (fun hHeld => ?_)
    clear hK K
    refine norm_ (a' := ?_) ?_ ?_
    rotate_left
    · show Act.put _ (some 20) _ = _
      simp only [Act.put, List.setIfInBounds_toArray, List.set_cons_zero, List.set_cons_succ, i64_w, i32_w]
      rfl
    refine pure_ (i := 4) (N := some 21) (v := ?_) (a' := ?_) #[true, true, true, true, true, false, false] rfl rfl (by kernel_rfl) (fun _ _ _ h => h) (Or.inl ⟨by rfl, ?_⟩) ?_ ?_
    rotate_left
    · intro w'
      go_simp
      with_reducible rfl
    rotate_left
    · simp only [Act.put, List.setIfInBounds_toArray, List.set_cons_zero, List.set_cons_succ, i64_w, i32_w]
      rfl
    refine pure_ (i := 5) (N := some 22) (v := ?_) (a' := ?_) #[true, true, true, true, true, true, false] rfl rfl (by kernel_rfl) (fun _ _ _ h => h) (Or.inl ⟨by rfl, ?_⟩) ?_ ?_
    rotate_left
    · intro w'
      go_simp
      with_reducible rfl
    rotate_left
    · simp only [Act.put, List.setIfInBounds_toArray, List.set_cons_zero, List.set_cons_succ, i64_w, i32_w]
      rfl
    refine last_ (i := 6) (N := none) #[true, true, true, true, true, true, true] rfl rfl (by kernel_rfl) (by decide) (fun K hK => ?_)
    refine skip_ (w1 := ?_) (by rfl) rfl ?_ ?_
    rotate_left
    · go_simp
      rfl
    refine hK.out _ _ ?_
    clear hK K
    refine done_ (by kernel_rfl) ?_
    clear hHeld hwn
    have hs := (((((HS6.out.set 0 (.int .i64 (1)) (cs' := #[.int .i64 (1), .string nm, .string ⟨#[]⟩, .int .i64 n0, .string tx]) rfl).set 1 (.string nm) (cs' := #[.int .i64 (1), .string nm, .string ⟨#[]⟩, .int .i64 n0, .string tx]) rfl).set 2 (.string (⟨#[]⟩ : ByteArray)) (cs' := #[.int .i64 (1), .string nm, .string (⟨#[]⟩ : ByteArray), .int .i64 n0, .string tx]) rfl).set 3 (.int .i64 (1 + n6)) (cs' := #[.int .i64 (1), .string nm, .string (⟨#[]⟩ : ByteArray), .int .i64 (1 + n6), .string tx]) rfl).set 4 (.string (⟨#[]⟩ : ByteArray)) (cs' := #[.int .i64 (1), .string nm, .string (⟨#[]⟩ : ByteArray), .int .i64 (1 + n6), .string (⟨#[]⟩ : ByteArray)]) rfl)
    clear c0 c1 c2 c3 c4 g0 g1 g2 g3 g4
    generalize (((((w6.setCell ⟨ob, 0, none⟩ (.int .i64 (1))).setCell ⟨ob, 1, none⟩ (.string nm)).setCell ⟨ob, 2, none⟩ (.string (⟨#[]⟩ : ByteArray))).setCell ⟨ob, 3, none⟩ (.int .i64 (1 + n6))).setCell ⟨ob, 4, none⟩ (.string (⟨#[]⟩ : ByteArray))) = WW at hs ⊢
    have HSS := Lib.hid hs
    clear hs
    go_wp2_with fail
    refine (pick_c HSS.out.rd (by omega) 30 (by omega)).mono ?_
    rintro e w7 ⟨v, rfl, ⟨q, rfl, hq0, hq1, -⟩, hR7, hg7⟩
    have HS7 := Lib.hid (HSS.out.step hR7 hg7)
    have hq2 := hq1 (by omega)
    clear hR7 hg7 hq1
    by_cases hqa : q = 0
    · subst hqa
      go_wp2_with fail
      have hB : Blk (w7.alloc (.cells #[.string ⟨#[]⟩, .string ⟨#[69]⟩, .string ⟨#[65, 65]⟩] 9)) w7.heap.size (bad.map Value.string).toArray 9 := Blk.new w7 _ _
      have hne : w7.heap.size ≠ rb := by have := HS7.out.rd.lt; omega
      have hst8 := HS7.out.bel (bel_alloc (Below.refl _ _) (.cells #[.string ⟨#[]⟩, .string ⟨#[69]⟩, .string ⟨#[65, 65]⟩] 9))
      refine (of_c hst8.rd (by omega) hB hne (by decide) (by decide) 3 3 rfl (by omega)).mono ?_
      rintro e w8 ⟨v, rfl, ⟨nm2, rfl, hnm2⟩, hR8, hg8⟩
      have hnz2 := bad_size hnm2
      have hs8 := hst8.step hR8 hg8
      have HS9 := Lib.hid (hs8.set 1 (.string nm2) (cs' := #[.int .i64 1, .string nm2, .string ⟨#[]⟩, .int .i64 (1 + n6), .string ⟨#[]⟩]) rfl)
      have sf1 := hs8.op.free 1
      have r0 := hs8.res.cell 0
      have f0 := hs8.res.free 0
      have c0 := hs8.op.cell 0
      have r1 := hs8.res.cell 1
      have f1 := hs8.res.free 1
      have c1 := hs8.op.cell 1
      have r2' := hs8.res.cell 2
      have f2 := hs8.res.free 2
      have c2 := hs8.op.cell 2
      have r3 := hs8.res.cell 3
      have f3 := hs8.res.free 3
      have c3 := hs8.op.cell 3
      have r4 := hs8.res.cell 4
      have f4 := hs8.res.free 4
      have c4 := hs8.op.cell 4
      have zr := hs8.res.lt
      have zo := hs8.op.lt
      have hne1 : ¬ ob = w.heap.size := by have := hs8.l2; omega
      have hne2 : ¬ w.heap.size = ob := by have := hs8.l2; omega
      simp at r0 r1 r2' r3 r4 c0 c1 c2 c3 c4
      clear hB hne hst8 hnm2 hR8 hg8 hs8
      go_wp2
      have hf := (((((HS9.out.res.set 0 (.int .i64 (1)) (cs' := #[.int .i64 (1), .string ⟨#[]⟩, .string ⟨#[]⟩, .int .i64 0, .string ⟨#[]⟩]) rfl).set 1 (.string nm2) (cs' := #[.int .i64 (1), .string nm2, .string ⟨#[]⟩, .int .i64 0, .string ⟨#[]⟩]) rfl).set 2 (.string (⟨#[]⟩ : ByteArray)) (cs' := #[.int .i64 (1), .string nm2, .string (⟨#[]⟩ : ByteArray), .int .i64 0, .string ⟨#[]⟩]) rfl).set 3 (.int .i64 ((1 + n6))) (cs' := #[.int .i64 (1), .string nm2, .string (⟨#[]⟩ : ByteArray), .int .i64 ((1 + n6)), .string ⟨#[]⟩]) rfl).set 4 (.string (⟨#[]⟩ : ByteArray)) (cs' := #[.int .i64 (1), .string nm2, .string ⟨#[]⟩, .int .i64 ((1 + n6)), .string ⟨#[]⟩]) rfl)
      have hgf := grown_new (grown_new (grown_new (grown_new (grown_new HS9.out.g HS9.out.l1 0 (.int .i64 (1))) HS9.out.l1 1 (.string nm2)) HS9.out.l1 2 (.string (⟨#[]⟩ : ByteArray))) HS9.out.l1 3 (.int .i64 ((1 + n6)))) HS9.out.l1 4 (.string (⟨#[]⟩ : ByteArray))
      have hl4 := HS9.out.l3
      have hrf := (((((HS9.out.rd.set (b := w.heap.size) hl4 0 (.int .i64 (1))).set (b := w.heap.size) hl4 1 (.string nm2)).set (b := w.heap.size) hl4 2 (.string (⟨#[]⟩ : ByteArray))).set (b := w.heap.size) hl4 3 (.int .i64 ((1 + n6)))).set (b := w.heap.size) hl4 4 (.string (⟨#[]⟩ : ByteArray)))
      refine bodyPost_ret (results_cell_row rfl _ _ w.heap.size 74 #[.int .i64 (1), .string nm2, .string ⟨#[]⟩, .int .i64 ((1 + n6)), .string ⟨#[]⟩] (0, 0) _ rfl hf Try.underlying74 rfl (by kernel_rfl)) rfl ?_
      exact ⟨_, rfl, ⟨⟨1, nm2, (⟨#[]⟩ : ByteArray), (1 + n6), (⟨#[]⟩ : ByteArray)⟩, rfl, ⟨by show ByteArray.size nm2 ≤ _; omega, by show ByteArray.size (⟨#[]⟩ : ByteArray) ≤ _; omega, by show ByteArray.size (⟨#[]⟩ : ByteArray) ≤ _; omega⟩, by show (-100 : Int) ≤ (1 + n6); omega, by show ((1 + n6) : Int) ≤ 100; omega, by show (0 : Int) ≤ 1; omega, by show (1 : Int) ≤ 100; omega⟩, hrf.more (by omega), hgf⟩
    · by_cases hqb : q = 1
      · subst hqb
        go_wp2_with fail
        refine (pick_c HS7.out.rd (by omega) 9 (by omega)).mono ?_
        rintro e w8 ⟨v, rfl, ⟨n2, rfl, hn20, hn21, -⟩, hR8, hg8⟩
        have hn22 := hn21 (by omega)
        have hs8 := HS7.out.step hR8 hg8
        have HS9 := Lib.hid (hs8.set 3 (.int .i64 (n2 - 1)) (cs' := #[.int .i64 1, .string nm, .string ⟨#[]⟩, .int .i64 (n2 - 1), .string ⟨#[]⟩]) rfl)
        have sf3 := hs8.op.free 3
        have r0 := hs8.res.cell 0
        have f0 := hs8.res.free 0
        have c0 := hs8.op.cell 0
        have r1 := hs8.res.cell 1
        have f1 := hs8.res.free 1
        have c1 := hs8.op.cell 1
        have r2' := hs8.res.cell 2
        have f2 := hs8.res.free 2
        have c2 := hs8.op.cell 2
        have r3 := hs8.res.cell 3
        have f3 := hs8.res.free 3
        have c3 := hs8.op.cell 3
        have r4 := hs8.res.cell 4
        have f4 := hs8.res.free 4
        have c4 := hs8.op.cell 4
        have zr := hs8.res.lt
        have zo := hs8.op.lt
        have hne1 : ¬ ob = w.heap.size := by have := hs8.l2; omega
        have hne2 : ¬ w.heap.size = ob := by have := hs8.l2; omega
        simp at r0 r1 r2' r3 r4 c0 c1 c2 c3 c4
        clear hR8 hg8 hs8 hn21
        go_wp2
        have hf := (((((HS9.out.res.set 0 (.int .i64 (1)) (cs' := #[.int .i64 (1), .string ⟨#[]⟩, .string ⟨#[]⟩, .int .i64 0, .string ⟨#[]⟩]) rfl).set 1 (.string nm) (cs' := #[.int .i64 (1), .string nm, .string ⟨#[]⟩, .int .i64 0, .string ⟨#[]⟩]) rfl).set 2 (.string (⟨#[]⟩ : ByteArray)) (cs' := #[.int .i64 (1), .string nm, .string (⟨#[]⟩ : ByteArray), .int .i64 0, .string ⟨#[]⟩]) rfl).set 3 (.int .i64 (n2 - 1)) (cs' := #[.int .i64 (1), .string nm, .string (⟨#[]⟩ : ByteArray), .int .i64 (n2 - 1), .string ⟨#[]⟩]) rfl).set 4 (.string (⟨#[]⟩ : ByteArray)) (cs' := #[.int .i64 (1), .string nm, .string ⟨#[]⟩, .int .i64 (n2 - 1), .string ⟨#[]⟩]) rfl)
        have hgf := grown_new (grown_new (grown_new (grown_new (grown_new HS9.out.g HS9.out.l1 0 (.int .i64 (1))) HS9.out.l1 1 (.string nm)) HS9.out.l1 2 (.string (⟨#[]⟩ : ByteArray))) HS9.out.l1 3 (.int .i64 (n2 - 1))) HS9.out.l1 4 (.string (⟨#[]⟩ : ByteArray))
        have hl4 := HS9.out.l3
        have hrf := (((((HS9.out.rd.set (b := w.heap.size) hl4 0 (.int .i64 (1))).set (b := w.heap.size) hl4 1 (.string nm)).set (b := w.heap.size) hl4 2 (.string (⟨#[]⟩ : ByteArray))).set (b := w.heap.size) hl4 3 (.int .i64 (n2 - 1))).set (b := w.heap.size) hl4 4 (.string (⟨#[]⟩ : ByteArray)))
        refine bodyPost_ret (results_cell_row rfl _ _ w.heap.size 74 #[.int .i64 (1), .string nm, .string ⟨#[]⟩, .int .i64 (n2 - 1), .string ⟨#[]⟩] (0, 0) _ rfl hf Try.underlying74 rfl (by kernel_rfl)) rfl ?_
        exact ⟨_, rfl, ⟨⟨1, nm, (⟨#[]⟩ : ByteArray), n2 - 1, (⟨#[]⟩ : ByteArray)⟩, rfl, ⟨by show ByteArray.size nm ≤ _; omega, by show ByteArray.size (⟨#[]⟩ : ByteArray) ≤ _; omega, by show ByteArray.size (⟨#[]⟩ : ByteArray) ≤ _; omega⟩, by show (-100 : Int) ≤ n2 - 1; omega, by show (n2 - 1 : Int) ≤ 100; omega, by show (0 : Int) ≤ 1; omega, by show (1 : Int) ≤ 100; omega⟩, hrf.more (by omega), hgf⟩
      · by_cases hqc : q = 2
        · subst hqc
          go_wp2_with fail
          refine (pick_c HS7.out.rd (by omega) 6 (by omega)).mono ?_
          rintro e w8 ⟨v, rfl, ⟨kd2, rfl, hk20, hk21, -⟩, hR8, hg8⟩
          have hk22 := hk21 (by omega)
          have hs8 := HS7.out.step hR8 hg8
          have HS9 := Lib.hid (hs8.set 0 (.int .i64 kd2) (cs' := #[.int .i64 kd2, .string nm, .string ⟨#[]⟩, .int .i64 (1 + n6), .string ⟨#[]⟩]) rfl)
          have sf0 := hs8.op.free 0
          have r0 := hs8.res.cell 0
          have f0 := hs8.res.free 0
          have c0 := hs8.op.cell 0
          have r1 := hs8.res.cell 1
          have f1 := hs8.res.free 1
          have c1 := hs8.op.cell 1
          have r2' := hs8.res.cell 2
          have f2 := hs8.res.free 2
          have c2 := hs8.op.cell 2
          have r3 := hs8.res.cell 3
          have f3 := hs8.res.free 3
          have c3 := hs8.op.cell 3
          have r4 := hs8.res.cell 4
          have f4 := hs8.res.free 4
          have c4 := hs8.op.cell 4
          have zr := hs8.res.lt
          have zo := hs8.op.lt
          have hne1 : ¬ ob = w.heap.size := by have := hs8.l2; omega
          have hne2 : ¬ w.heap.size = ob := by have := hs8.l2; omega
          simp at r0 r1 r2' r3 r4 c0 c1 c2 c3 c4
          clear hR8 hg8 hs8 hk21
          go_wp2
          have hf := (((((HS9.out.res.set 0 (.int .i64 (kd2)) (cs' := #[.int .i64 (kd2), .string ⟨#[]⟩, .string ⟨#[]⟩, .int .i64 0, .string ⟨#[]⟩]) rfl).set 1 (.string nm) (cs' := #[.int .i64 (kd2), .string nm, .string ⟨#[]⟩, .int .i64 0, .string ⟨#[]⟩]) rfl).set 2 (.string (⟨#[]⟩ : ByteArray)) (cs' := #[.int .i64 (kd2), .string nm, .string (⟨#[]⟩ : ByteArray), .int .i64 0, .string ⟨#[]⟩]) rfl).set 3 (.int .i64 ((1 + n6))) (cs' := #[.int .i64 (kd2), .string nm, .string (⟨#[]⟩ : ByteArray), .int .i64 ((1 + n6)), .string ⟨#[]⟩]) rfl).set 4 (.string (⟨#[]⟩ : ByteArray)) (cs' := #[.int .i64 (kd2), .string nm, .string ⟨#[]⟩, .int .i64 ((1 + n6)), .string ⟨#[]⟩]) rfl)
          have hgf := grown_new (grown_new (grown_new (grown_new (grown_new HS9.out.g HS9.out.l1 0 (.int .i64 (kd2))) HS9.out.l1 1 (.string nm)) HS9.out.l1 2 (.string (⟨#[]⟩ : ByteArray))) HS9.out.l1 3 (.int .i64 ((1 + n6)))) HS9.out.l1 4 (.string (⟨#[]⟩ : ByteArray))
          have hl4 := HS9.out.l3
          have hrf := (((((HS9.out.rd.set (b := w.heap.size) hl4 0 (.int .i64 (kd2))).set (b := w.heap.size) hl4 1 (.string nm)).set (b := w.heap.size) hl4 2 (.string (⟨#[]⟩ : ByteArray))).set (b := w.heap.size) hl4 3 (.int .i64 ((1 + n6)))).set (b := w.heap.size) hl4 4 (.string (⟨#[]⟩ : ByteArray)))
          refine bodyPost_ret (results_cell_row rfl _ _ w.heap.size 74 #[.int .i64 (kd2), .string nm, .string ⟨#[]⟩, .int .i64 ((1 + n6)), .string ⟨#[]⟩] (0, 0) _ rfl hf Try.underlying74 rfl (by kernel_rfl)) rfl ?_
          exact ⟨_, rfl, ⟨⟨kd2, nm, (⟨#[]⟩ : ByteArray), (1 + n6), (⟨#[]⟩ : ByteArray)⟩, rfl, ⟨by show ByteArray.size nm ≤ _; omega, by show ByteArray.size (⟨#[]⟩ : ByteArray) ≤ _; omega, by show ByteArray.size (⟨#[]⟩ : ByteArray) ≤ _; omega⟩, by show (-100 : Int) ≤ (1 + n6); omega, by show ((1 + n6) : Int) ≤ 100; omega, by show (0 : Int) ≤ kd2; omega, by show (kd2 : Int) ≤ 100; omega⟩, hrf.more (by omega), hgf⟩
        · skip
          have hs8 := HS7.out
          have r0 := hs8.res.cell 0
          have f0 := hs8.res.free 0
          have c0 := hs8.op.cell 0
          have r1 := hs8.res.cell 1
          have f1 := hs8.res.free 1
          have c1 := hs8.op.cell 1
          have r2' := hs8.res.cell 2
          have f2 := hs8.res.free 2
          have c2 := hs8.op.cell 2
          have r3 := hs8.res.cell 3
          have f3 := hs8.res.free 3
          have c3 := hs8.op.cell 3
          have r4 := hs8.res.cell 4
          have f4 := hs8.res.free 4
          have c4 := hs8.op.cell 4
          have zr := hs8.res.lt
          have zo := hs8.op.lt
          have hne1 : ¬ ob = w.heap.size := by have := hs8.l2; omega
          have hne2 : ¬ w.heap.size = ob := by have := hs8.l2; omega
          simp at r0 r1 r2' r3 r4 c0 c1 c2 c3 c4
          clear hs8
          go_wp2
          have hf := (((((HS7.out.res.set 0 (.int .i64 (1)) (cs' := #[.int .i64 (1), .string ⟨#[]⟩, .string ⟨#[]⟩, .int .i64 0, .string ⟨#[]⟩]) rfl).set 1 (.string nm) (cs' := #[.int .i64 (1), .string nm, .string ⟨#[]⟩, .int .i64 0, .string ⟨#[]⟩]) rfl).set 2 (.string (⟨#[]⟩ : ByteArray)) (cs' := #[.int .i64 (1), .string nm, .string (⟨#[]⟩ : ByteArray), .int .i64 0, .string ⟨#[]⟩]) rfl).set 3 (.int .i64 ((1 + n6))) (cs' := #[.int .i64 (1), .string nm, .string (⟨#[]⟩ : ByteArray), .int .i64 ((1 + n6)), .string ⟨#[]⟩]) rfl).set 4 (.string (⟨#[]⟩ : ByteArray)) (cs' := #[.int .i64 (1), .string nm, .string ⟨#[]⟩, .int .i64 ((1 + n6)), .string ⟨#[]⟩]) rfl)
          have hgf := grown_new (grown_new (grown_new (grown_new (grown_new HS7.out.g HS7.out.l1 0 (.int .i64 (1))) HS7.out.l1 1 (.string nm)) HS7.out.l1 2 (.string (⟨#[]⟩ : ByteArray))) HS7.out.l1 3 (.int .i64 ((1 + n6)))) HS7.out.l1 4 (.string (⟨#[]⟩ : ByteArray))
          have hl4 := HS7.out.l3
          have hrf := (((((HS7.out.rd.set (b := w.heap.size) hl4 0 (.int .i64 (1))).set (b := w.heap.size) hl4 1 (.string nm)).set (b := w.heap.size) hl4 2 (.string (⟨#[]⟩ : ByteArray))).set (b := w.heap.size) hl4 3 (.int .i64 ((1 + n6)))).set (b := w.heap.size) hl4 4 (.string (⟨#[]⟩ : ByteArray)))
          refine bodyPost_ret (results_cell_row rfl _ _ w.heap.size 74 #[.int .i64 (1), .string nm, .string ⟨#[]⟩, .int .i64 ((1 + n6)), .string ⟨#[]⟩] (0, 0) _ rfl hf Try.underlying74 rfl (by kernel_rfl)) rfl ?_
          exact ⟨_, rfl, ⟨⟨1, nm, (⟨#[]⟩ : ByteArray), (1 + n6), (⟨#[]⟩ : ByteArray)⟩, rfl, ⟨by show ByteArray.size nm ≤ _; omega, by show ByteArray.size (⟨#[]⟩ : ByteArray) ≤ _; omega, by show ByteArray.size (⟨#[]⟩ : ByteArray) ≤ _; omega⟩, by show (-100 : Int) ≤ (1 + n6); omega, by show ((1 + n6) : Int) ≤ 100; omega, by show (0 : Int) ≤ 1; omega, by show (1 : Int) ≤ 100; omega⟩, hrf.more (by omega), hgf⟩
  by_cases hrz : r = 1
  · subst hrz
    have hs5 := HS5.out
    have c0 := hs5.op.cell 0
    have g0 := hs5.op.free 0
    have c1 := hs5.op.cell 1
    have g1 := hs5.op.free 1
    have c2 := hs5.op.cell 2
    have g2 := hs5.op.free 2
    have c3 := hs5.op.cell 3
    have g3 := hs5.op.free 3
    have c4 := hs5.op.cell 4
    have g4 := hs5.op.free 4
    have zo := hs5.op.lt
    have hne1 : ¬ ob = w.heap.size := by have := hs5.l2; omega
    have hne2 : ¬ w.heap.size = ob := by have := hs5.l2; omega
    simp at c0 c1 c2 c3 c4
    have HRD := Lib.hid hs5.rd
    clear hs5
    go_wp2
    have HP6 := Lib.hid (pick_c (w := w5.drew) (HRD.out.bel (Below.refl _ _).drew) (by omega) 6 (by omega))
    refine start_ (n := 7) (S := fun w' => w'.cell? ⟨ob, 1, none⟩ = some (.string nm)) (ds := [6]) #[false, false, false, false, false, false, false] (by kernel_rfl) rfl rfl (c1) (fun hHeld => ?_)
    refine pure_ (i := 0) (N := some 17) (v := ?_) (a' := ?_) #[true, false, false, false, false, false, false] rfl rfl (by kernel_rfl) (fun _ _ _ h => h) (Or.inl ⟨by rfl, ?_⟩) ?_ ?_
    rotate_left
    · intro w'
      go_simp
      with_reducible rfl
    rotate_left
    · simp only [Act.put, List.setIfInBounds_toArray, List.set_cons_zero, List.set_cons_succ, i64_w, i32_w]
      rfl
    refine pure_ (i := 2) (N := some 19) (v := ?_) (a' := ?_) #[true, false, true, false, false, false, false] rfl rfl (by kernel_rfl) (fun _ _ _ h => h) (Or.inl ⟨by rfl, ?_⟩) ?_ ?_
    rotate_left
    · intro w'
      go_simp
      with_reducible rfl
    rotate_left
    · simp only [Act.put, List.setIfInBounds_toArray, List.set_cons_zero, List.set_cons_succ, i64_w, i32_w]
      rfl
    refine take_ (i := 1) (N := some 18) (v := ?_) (a' := ?_) #[true, true, true, false, false, false, false] rfl rfl (by kernel_rfl) (fun _ _ _ h => h) (Or.inl ⟨by rfl, ?_⟩) hHeld ?_ ?_
    rotate_left
    · intro w' s0
      go_simp
      with_reducible rfl
    rotate_left
    · simp only [Act.put, List.setIfInBounds_toArray, List.set_cons_zero, List.set_cons_succ, i64_w, i32_w]
      rfl
    refine one_ (i := 3) (N := some 20) #[true, true, true, true, false, false, false] rfl rfl (by kernel_rfl) (by decide) (fun K hK => ?_)
    refine goes_ Try.func96 (by kernel_rfl) rfl #[.pointer (some ⟨rb, 0, none⟩), .int .i64 6] (by rfl) rfl rfl (by simp only [List.map_toArray, List.map_cons, List.map_nil]; rfl) ?_
    with_reducible refine (HP6.out).mono ?_
    rintro e w6 ⟨v, rfl, ⟨n6, rfl, hn60, hn61, -⟩, hR6, hg6⟩
    have hn62 := hn61 (by omega)
    have hs6 := OpSt.step (W := w5.drew) (HS5.out.bel (Below.refl _ _).drew) hR6 hg6
    have HS6 := Lib.hid hs6
    have c0 := hs6.op.cell 0
    have g0 := hs6.op.free 0
    have c1 := hs6.op.cell 1
    have g1 := hs6.op.free 1
    have c2 := hs6.op.cell 2
    have g2 := hs6.op.free 2
    have c3 := hs6.op.cell 3
    have g3 := hs6.op.free 3
    have c4 := hs6.op.cell 4
    have g4 := hs6.op.free 4
    have zo := hs6.op.lt
    have hne1 : ¬ ob = w.heap.size := by have := hs6.l2; omega
    have hne2 : ¬ w.heap.size = ob := by have := hs6.l2; omega
    simp at c0 c1 c2 c3 c4
    have hwn : wrap64 (1 + n6) = 1 + n6 := by unfold wrap64; omega
    clear hR6 hg6 hn61 hs6
    refine ⟨_, rfl, ?_⟩
    refine hK.out _ _ (c1) (fun hHeld => ?_)
    clear hK K
    refine norm_ (a' := ?_) ?_ ?_
    rotate_left
    · show Act.put _ (some 20) _ = _
      simp only [Act.put, List.setIfInBounds_toArray, List.set_cons_zero, List.set_cons_succ, i64_w, i32_w]
      rfl
    refine pure_ (i := 4) (N := some 21) (v := ?_) (a' := ?_) #[true, true, true, true, true, false, false] rfl rfl (by kernel_rfl) (fun _ _ _ h => h) (Or.inl ⟨by rfl, ?_⟩) ?_ ?_
    rotate_left
    · intro w'
      go_simp
      with_reducible rfl
    rotate_left
    · simp only [Act.put, List.setIfInBounds_toArray, List.set_cons_zero, List.set_cons_succ, i64_w, i32_w]
      rfl
    refine pure_ (i := 5) (N := some 22) (v := ?_) (a' := ?_) #[true, true, true, true, true, true, false] rfl rfl (by kernel_rfl) (fun _ _ _ h => h) (Or.inl ⟨by rfl, ?_⟩) ?_ ?_
    rotate_left
    · intro w'
      go_simp
      with_reducible rfl
    rotate_left
    · simp only [Act.put, List.setIfInBounds_toArray, List.set_cons_zero, List.set_cons_succ, i64_w, i32_w]
      rfl
    refine last_ (i := 6) (N := none) #[true, true, true, true, true, true, true] rfl rfl (by kernel_rfl) (by decide) (fun K hK => ?_)
    refine skip_ (w1 := ?_) (by rfl) rfl ?_ ?_
    rotate_left
    · go_simp
      rfl
    refine hK.out _ _ ?_
    clear hK K
    refine done_ (by kernel_rfl) ?_
    clear hHeld hwn
    have hs := (((((HS6.out.set 0 (.int .i64 (1)) (cs' := #[.int .i64 (1), .string nm, .string ⟨#[]⟩, .int .i64 n0, .string tx]) rfl).set 1 (.string nm) (cs' := #[.int .i64 (1), .string nm, .string ⟨#[]⟩, .int .i64 n0, .string tx]) rfl).set 2 (.string (⟨#[]⟩ : ByteArray)) (cs' := #[.int .i64 (1), .string nm, .string (⟨#[]⟩ : ByteArray), .int .i64 n0, .string tx]) rfl).set 3 (.int .i64 (1 + n6)) (cs' := #[.int .i64 (1), .string nm, .string (⟨#[]⟩ : ByteArray), .int .i64 (1 + n6), .string tx]) rfl).set 4 (.string (⟨#[]⟩ : ByteArray)) (cs' := #[.int .i64 (1), .string nm, .string (⟨#[]⟩ : ByteArray), .int .i64 (1 + n6), .string (⟨#[]⟩ : ByteArray)]) rfl)
    clear c0 c1 c2 c3 c4 g0 g1 g2 g3 g4
    generalize (((((w6.setCell ⟨ob, 0, none⟩ (.int .i64 (1))).setCell ⟨ob, 1, none⟩ (.string nm)).setCell ⟨ob, 2, none⟩ (.string (⟨#[]⟩ : ByteArray))).setCell ⟨ob, 3, none⟩ (.int .i64 (1 + n6))).setCell ⟨ob, 4, none⟩ (.string (⟨#[]⟩ : ByteArray))) = WW at hs ⊢
    have HSS := Lib.hid hs
    clear hs
    go_wp2_with fail
    refine (pick_c HSS.out.rd (by omega) 30 (by omega)).mono ?_
    rintro e w7 ⟨v, rfl, ⟨q, rfl, hq0, hq1, -⟩, hR7, hg7⟩
    have HS7 := Lib.hid (HSS.out.step hR7 hg7)
    have hq2 := hq1 (by omega)
    clear hR7 hg7 hq1
    by_cases hqa : q = 0
    · subst hqa
      go_wp2_with fail
      have hB : Blk (w7.alloc (.cells #[.string ⟨#[]⟩, .string ⟨#[69]⟩, .string ⟨#[65, 65]⟩] 9)) w7.heap.size (bad.map Value.string).toArray 9 := Blk.new w7 _ _
      have hne : w7.heap.size ≠ rb := by have := HS7.out.rd.lt; omega
      have hst8 := HS7.out.bel (bel_alloc (Below.refl _ _) (.cells #[.string ⟨#[]⟩, .string ⟨#[69]⟩, .string ⟨#[65, 65]⟩] 9))
      refine (of_c hst8.rd (by omega) hB hne (by decide) (by decide) 3 3 rfl (by omega)).mono ?_
      rintro e w8 ⟨v, rfl, ⟨nm2, rfl, hnm2⟩, hR8, hg8⟩
      have hnz2 := bad_size hnm2
      have hs8 := hst8.step hR8 hg8
      have HS9 := Lib.hid (hs8.set 1 (.string nm2) (cs' := #[.int .i64 1, .string nm2, .string ⟨#[]⟩, .int .i64 (1 + n6), .string ⟨#[]⟩]) rfl)
      have sf1 := hs8.op.free 1
      have r0 := hs8.res.cell 0
      have f0 := hs8.res.free 0
      have c0 := hs8.op.cell 0
      have r1 := hs8.res.cell 1
      have f1 := hs8.res.free 1
      have c1 := hs8.op.cell 1
      have r2' := hs8.res.cell 2
      have f2 := hs8.res.free 2
      have c2 := hs8.op.cell 2
      have r3 := hs8.res.cell 3
      have f3 := hs8.res.free 3
      have c3 := hs8.op.cell 3
      have r4 := hs8.res.cell 4
      have f4 := hs8.res.free 4
      have c4 := hs8.op.cell 4
      have zr := hs8.res.lt
      have zo := hs8.op.lt
      have hne1 : ¬ ob = w.heap.size := by have := hs8.l2; omega
      have hne2 : ¬ w.heap.size = ob := by have := hs8.l2; omega
      simp at r0 r1 r2' r3 r4 c0 c1 c2 c3 c4
      clear hB hne hst8 hnm2 hR8 hg8 hs8
      go_wp2
      have hf := (((((HS9.out.res.set 0 (.int .i64 (1)) (cs' := #[.int .i64 (1), .string ⟨#[]⟩, .string ⟨#[]⟩, .int .i64 0, .string ⟨#[]⟩]) rfl).set 1 (.string nm2) (cs' := #[.int .i64 (1), .string nm2, .string ⟨#[]⟩, .int .i64 0, .string ⟨#[]⟩]) rfl).set 2 (.string (⟨#[]⟩ : ByteArray)) (cs' := #[.int .i64 (1), .string nm2, .string (⟨#[]⟩ : ByteArray), .int .i64 0, .string ⟨#[]⟩]) rfl).set 3 (.int .i64 ((1 + n6))) (cs' := #[.int .i64 (1), .string nm2, .string (⟨#[]⟩ : ByteArray), .int .i64 ((1 + n6)), .string ⟨#[]⟩]) rfl).set 4 (.string (⟨#[]⟩ : ByteArray)) (cs' := #[.int .i64 (1), .string nm2, .string ⟨#[]⟩, .int .i64 ((1 + n6)), .string ⟨#[]⟩]) rfl)
      have hgf := grown_new (grown_new (grown_new (grown_new (grown_new HS9.out.g HS9.out.l1 0 (.int .i64 (1))) HS9.out.l1 1 (.string nm2)) HS9.out.l1 2 (.string (⟨#[]⟩ : ByteArray))) HS9.out.l1 3 (.int .i64 ((1 + n6)))) HS9.out.l1 4 (.string (⟨#[]⟩ : ByteArray))
      have hl4 := HS9.out.l3
      have hrf := (((((HS9.out.rd.set (b := w.heap.size) hl4 0 (.int .i64 (1))).set (b := w.heap.size) hl4 1 (.string nm2)).set (b := w.heap.size) hl4 2 (.string (⟨#[]⟩ : ByteArray))).set (b := w.heap.size) hl4 3 (.int .i64 ((1 + n6)))).set (b := w.heap.size) hl4 4 (.string (⟨#[]⟩ : ByteArray)))
      refine bodyPost_ret (results_cell_row rfl _ _ w.heap.size 74 #[.int .i64 (1), .string nm2, .string ⟨#[]⟩, .int .i64 ((1 + n6)), .string ⟨#[]⟩] (0, 0) _ rfl hf Try.underlying74 rfl (by kernel_rfl)) rfl ?_
      exact ⟨_, rfl, ⟨⟨1, nm2, (⟨#[]⟩ : ByteArray), (1 + n6), (⟨#[]⟩ : ByteArray)⟩, rfl, ⟨by show ByteArray.size nm2 ≤ _; omega, by show ByteArray.size (⟨#[]⟩ : ByteArray) ≤ _; omega, by show ByteArray.size (⟨#[]⟩ : ByteArray) ≤ _; omega⟩, by show (-100 : Int) ≤ (1 + n6); omega, by show ((1 + n6) : Int) ≤ 100; omega, by show (0 : Int) ≤ 1; omega, by show (1 : Int) ≤ 100; omega⟩, hrf.more (by omega), hgf⟩
    · by_cases hqb : q = 1
      · subst hqb
        go_wp2_with fail
        refine (pick_c HS7.out.rd (by omega) 9 (by omega)).mono ?_
        rintro e w8 ⟨v, rfl, ⟨n2, rfl, hn20, hn21, -⟩, hR8, hg8⟩
        have hn22 := hn21 (by omega)
        have hs8 := HS7.out.step hR8 hg8
        have HS9 := Lib.hid (hs8.set 3 (.int .i64 (n2 - 1)) (cs' := #[.int .i64 1, .string nm, .string ⟨#[]⟩, .int .i64 (n2 - 1), .string ⟨#[]⟩]) rfl)
        have sf3 := hs8.op.free 3
        have r0 := hs8.res.cell 0
        have f0 := hs8.res.free 0
        have c0 := hs8.op.cell 0
        have r1 := hs8.res.cell 1
        have f1 := hs8.res.free 1
        have c1 := hs8.op.cell 1
        have r2' := hs8.res.cell 2
        have f2 := hs8.res.free 2
        have c2 := hs8.op.cell 2
        have r3 := hs8.res.cell 3
        have f3 := hs8.res.free 3
        have c3 := hs8.op.cell 3
        have r4 := hs8.res.cell 4
        have f4 := hs8.res.free 4
        have c4 := hs8.op.cell 4
        have zr := hs8.res.lt
        have zo := hs8.op.lt
        have hne1 : ¬ ob = w.heap.size := by have := hs8.l2; omega
        have hne2 : ¬ w.heap.size = ob := by have := hs8.l2; omega
        simp at r0 r1 r2' r3 r4 c0 c1 c2 c3 c4
        clear hR8 hg8 hs8 hn21
        go_wp2
        have hf := (((((HS9.out.res.set 0 (.int .i64 (1)) (cs' := #[.int .i64 (1), .string ⟨#[]⟩, .string ⟨#[]⟩, .int .i64 0, .string ⟨#[]⟩]) rfl).set 1 (.string nm) (cs' := #[.int .i64 (1), .string nm, .string ⟨#[]⟩, .int .i64 0, .string ⟨#[]⟩]) rfl).set 2 (.string (⟨#[]⟩ : ByteArray)) (cs' := #[.int .i64 (1), .string nm, .string (⟨#[]⟩ : ByteArray), .int .i64 0, .string ⟨#[]⟩]) rfl).set 3 (.int .i64 (n2 - 1)) (cs' := #[.int .i64 (1), .string nm, .string (⟨#[]⟩ : ByteArray), .int .i64 (n2 - 1), .string ⟨#[]⟩]) rfl).set 4 (.string (⟨#[]⟩ : ByteArray)) (cs' := #[.int .i64 (1), .string nm, .string ⟨#[]⟩, .int .i64 (n2 - 1), .string ⟨#[]⟩]) rfl)
        have hgf := grown_new (grown_new (grown_new (grown_new (grown_new HS9.out.g HS9.out.l1 0 (.int .i64 (1))) HS9.out.l1 1 (.string nm)) HS9.out.l1 2 (.string (⟨#[]⟩ : ByteArray))) HS9.out.l1 3 (.int .i64 (n2 - 1))) HS9.out.l1 4 (.string (⟨#[]⟩ : ByteArray))
        have hl4 := HS9.out.l3
        have hrf := (((((HS9.out.rd.set (b := w.heap.size) hl4 0 (.int .i64 (1))).set (b := w.heap.size) hl4 1 (.string nm)).set (b := w.heap.size) hl4 2 (.string (⟨#[]⟩ : ByteArray))).set (b := w.heap.size) hl4 3 (.int .i64 (n2 - 1))).set (b := w.heap.size) hl4 4 (.string (⟨#[]⟩ : ByteArray)))
        refine bodyPost_ret (results_cell_row rfl _ _ w.heap.size 74 #[.int .i64 (1), .string nm, .string ⟨#[]⟩, .int .i64 (n2 - 1), .string ⟨#[]⟩] (0, 0) _ rfl hf Try.underlying74 rfl (by kernel_rfl)) rfl ?_
        exact ⟨_, rfl, ⟨⟨1, nm, (⟨#[]⟩ : ByteArray), n2 - 1, (⟨#[]⟩ : ByteArray)⟩, rfl, ⟨by show ByteArray.size nm ≤ _; omega, by show ByteArray.size (⟨#[]⟩ : ByteArray) ≤ _; omega, by show ByteArray.size (⟨#[]⟩ : ByteArray) ≤ _; omega⟩, by show (-100 : Int) ≤ n2 - 1; omega, by show (n2 - 1 : Int) ≤ 100; omega, by show (0 : Int) ≤ 1; omega, by show (1 : Int) ≤ 100; omega⟩, hrf.more (by omega), hgf⟩
      · by_cases hqc : q = 2
        · subst hqc
          go_wp2_with fail
          refine (pick_c HS7.out.rd (by omega) 6 (by omega)).mono ?_
          rintro e w8 ⟨v, rfl, ⟨kd2, rfl, hk20, hk21, -⟩, hR8, hg8⟩
          have hk22 := hk21 (by omega)
          have hs8 := HS7.out.step hR8 hg8
          have HS9 := Lib.hid (hs8.set 0 (.int .i64 kd2) (cs' := #[.int .i64 kd2, .string nm, .string ⟨#[]⟩, .int .i64 (1 + n6), .string ⟨#[]⟩]) rfl)
          have sf0 := hs8.op.free 0
          have r0 := hs8.res.cell 0
          have f0 := hs8.res.free 0
          have c0 := hs8.op.cell 0
          have r1 := hs8.res.cell 1
          have f1 := hs8.res.free 1
          have c1 := hs8.op.cell 1
          have r2' := hs8.res.cell 2
          have f2 := hs8.res.free 2
          have c2 := hs8.op.cell 2
          have r3 := hs8.res.cell 3
          have f3 := hs8.res.free 3
          have c3 := hs8.op.cell 3
          have r4 := hs8.res.cell 4
          have f4 := hs8.res.free 4
          have c4 := hs8.op.cell 4
          have zr := hs8.res.lt
          have zo := hs8.op.lt
          have hne1 : ¬ ob = w.heap.size := by have := hs8.l2; omega
          have hne2 : ¬ w.heap.size = ob := by have := hs8.l2; omega
          simp at r0 r1 r2' r3 r4 c0 c1 c2 c3 c4
          clear hR8 hg8 hs8 hk21
          go_wp2
          have hf := (((((HS9.out.res.set 0 (.int .i64 (kd2)) (cs' := #[.int .i64 (kd2), .string ⟨#[]⟩, .string ⟨#[]⟩, .int .i64 0, .string ⟨#[]⟩]) rfl).set 1 (.string nm) (cs' := #[.int .i64 (kd2), .string nm, .string ⟨#[]⟩, .int .i64 0, .string ⟨#[]⟩]) rfl).set 2 (.string (⟨#[]⟩ : ByteArray)) (cs' := #[.int .i64 (kd2), .string nm, .string (⟨#[]⟩ : ByteArray), .int .i64 0, .string ⟨#[]⟩]) rfl).set 3 (.int .i64 ((1 + n6))) (cs' := #[.int .i64 (kd2), .string nm, .string (⟨#[]⟩ : ByteArray), .int .i64 ((1 + n6)), .string ⟨#[]⟩]) rfl).set 4 (.string (⟨#[]⟩ : ByteArray)) (cs' := #[.int .i64 (kd2), .string nm, .string ⟨#[]⟩, .int .i64 ((1 + n6)), .string ⟨#[]⟩]) rfl)
          have hgf := grown_new (grown_new (grown_new (grown_new (grown_new HS9.out.g HS9.out.l1 0 (.int .i64 (kd2))) HS9.out.l1 1 (.string nm)) HS9.out.l1 2 (.string (⟨#[]⟩ : ByteArray))) HS9.out.l1 3 (.int .i64 ((1 + n6)))) HS9.out.l1 4 (.string (⟨#[]⟩ : ByteArray))
          have hl4 := HS9.out.l3
          have hrf := (((((HS9.out.rd.set (b := w.heap.size) hl4 0 (.int .i64 (kd2))).set (b := w.heap.size) hl4 1 (.string nm)).set (b := w.heap.size) hl4 2 (.string (⟨#[]⟩ : ByteArray))).set (b := w.heap.size) hl4 3 (.int .i64 ((1 + n6)))).set (b := w.heap.size) hl4 4 (.string (⟨#[]⟩ : ByteArray)))
          refine bodyPost_ret (results_cell_row rfl _ _ w.heap.size 74 #[.int .i64 (kd2), .string nm, .string ⟨#[]⟩, .int .i64 ((1 + n6)), .string ⟨#[]⟩] (0, 0) _ rfl hf Try.underlying74 rfl (by kernel_rfl)) rfl ?_
          exact ⟨_, rfl, ⟨⟨kd2, nm, (⟨#[]⟩ : ByteArray), (1 + n6), (⟨#[]⟩ : ByteArray)⟩, rfl, ⟨by show ByteArray.size nm ≤ _; omega, by show ByteArray.size (⟨#[]⟩ : ByteArray) ≤ _; omega, by show ByteArray.size (⟨#[]⟩ : ByteArray) ≤ _; omega⟩, by show (-100 : Int) ≤ (1 + n6); omega, by show ((1 + n6) : Int) ≤ 100; omega, by show (0 : Int) ≤ kd2; omega, by show (kd2 : Int) ≤ 100; omega⟩, hrf.more (by omega), hgf⟩
        · skip
          have hs8 := HS7.out
          have r0 := hs8.res.cell 0
          have f0 := hs8.res.free 0
          have c0 := hs8.op.cell 0
          have r1 := hs8.res.cell 1
          have f1 := hs8.res.free 1
          have c1 := hs8.op.cell 1
          have r2' := hs8.res.cell 2
          have f2 := hs8.res.free 2
          have c2 := hs8.op.cell 2
          have r3 := hs8.res.cell 3
          have f3 := hs8.res.free 3
          have c3 := hs8.op.cell 3
          have r4 := hs8.res.cell 4
          have f4 := hs8.res.free 4
          have c4 := hs8.op.cell 4
          have zr := hs8.res.lt
          have zo := hs8.op.lt
          have hne1 : ¬ ob = w.heap.size := by have := hs8.l2; omega
          have hne2 : ¬ w.heap.size = ob := by have := hs8.l2; omega
          simp at r0 r1 r2' r3 r4 c0 c1 c2 c3 c4
          clear hs8
          go_wp2
          have hf := (((((HS7.out.res.set 0 (.int .i64 (1)) (cs' := #[.int .i64 (1), .string ⟨#[]⟩, .string ⟨#[]⟩, .int .i64 0, .string ⟨#[]⟩]) rfl).set 1 (.string nm) (cs' := #[.int .i64 (1), .string nm, .string ⟨#[]⟩, .int .i64 0, .string ⟨#[]⟩]) rfl).set 2 (.string (⟨#[]⟩ : ByteArray)) (cs' := #[.int .i64 (1), .string nm, .string (⟨#[]⟩ : ByteArray), .int .i64 0, .string ⟨#[]⟩]) rfl).set 3 (.int .i64 ((1 + n6))) (cs' := #[.int .i64 (1), .string nm, .string (⟨#[]⟩ : ByteArray), .int .i64 ((1 + n6)), .string ⟨#[]⟩]) rfl).set 4 (.string (⟨#[]⟩ : ByteArray)) (cs' := #[.int .i64 (1), .string nm, .string ⟨#[]⟩, .int .i64 ((1 + n6)), .string ⟨#[]⟩]) rfl)
          have hgf := grown_new (grown_new (grown_new (grown_new (grown_new HS7.out.g HS7.out.l1 0 (.int .i64 (1))) HS7.out.l1 1 (.string nm)) HS7.out.l1 2 (.string (⟨#[]⟩ : ByteArray))) HS7.out.l1 3 (.int .i64 ((1 + n6)))) HS7.out.l1 4 (.string (⟨#[]⟩ : ByteArray))
          have hl4 := HS7.out.l3
          have hrf := (((((HS7.out.rd.set (b := w.heap.size) hl4 0 (.int .i64 (1))).set (b := w.heap.size) hl4 1 (.string nm)).set (b := w.heap.size) hl4 2 (.string (⟨#[]⟩ : ByteArray))).set (b := w.heap.size) hl4 3 (.int .i64 ((1 + n6)))).set (b := w.heap.size) hl4 4 (.string (⟨#[]⟩ : ByteArray)))
          refine bodyPost_ret (results_cell_row rfl _ _ w.heap.size 74 #[.int .i64 (1), .string nm, .string ⟨#[]⟩, .int .i64 ((1 + n6)), .string ⟨#[]⟩] (0, 0) _ rfl hf Try.underlying74 rfl (by kernel_rfl)) rfl ?_
          exact ⟨_, rfl, ⟨⟨1, nm, (⟨#[]⟩ : ByteArray), (1 + n6), (⟨#[]⟩ : ByteArray)⟩, rfl, ⟨by show ByteArray.size nm ≤ _; omega, by show ByteArray.size (⟨#[]⟩ : ByteArray) ≤ _; omega, by show ByteArray.size (⟨#[]⟩ : ByteArray) ≤ _; omega⟩, by show (-100 : Int) ≤ (1 + n6); omega, by show ((1 + n6) : Int) ≤ 100; omega, by show (0 : Int) ≤ 1; omega, by show (1 : Int) ≤ 100; omega⟩, hrf.more (by omega), hgf⟩
  by_cases hrb : r = 2
  · subst hrb
    have hs5 := HS5.out
    have c0 := hs5.op.cell 0
    have g0 := hs5.op.free 0
    have c1 := hs5.op.cell 1
    have g1 := hs5.op.free 1
    have c2 := hs5.op.cell 2
    have g2 := hs5.op.free 2
    have c3 := hs5.op.cell 3
    have g3 := hs5.op.free 3
    have c4 := hs5.op.cell 4
    have g4 := hs5.op.free 4
    have zo := hs5.op.lt
    have hne1 : ¬ ob = w.heap.size := by have := hs5.l2; omega
    have hne2 : ¬ w.heap.size = ob := by have := hs5.l2; omega
    simp at c0 c1 c2 c3 c4
    have HRD := Lib.hid hs5.rd
    clear hs5
    go_wp2
    have HP6 := Lib.hid (of_c (w := (w5.alloc (.cells #[.string ⟨#[65]⟩, .string ⟨#[66]⟩, .string ⟨#[67]⟩, .string ⟨#[68]⟩] 9)).drew) (xs := nms) (T := 9) (lb := w5.heap.size) (HRD.out.bel (bel_alloc (Below.refl _ _) _).drew) (by omega) ((Blk.new w5 _ _).bel (Below.refl _ _).drew) (by have := HRD.out.lt; omega) (by decide) (by decide) 4 4 rfl (by omega))
    refine start_ (n := 7) (S := fun w' => w'.cell? ⟨ob, 1, none⟩ = some (.string nm)) (ds := [6]) #[false, false, false, false, false, false, false] (by kernel_rfl) rfl rfl (c1) (fun hHeld => ?_)
    refine pure_ (i := 0) (N := some 25) (v := ?_) (a' := ?_) #[true, false, false, false, false, false, false] rfl rfl (by kernel_rfl) (fun _ _ _ h => h) (Or.inl ⟨by rfl, ?_⟩) ?_ ?_
    rotate_left
    · intro w'
      go_simp
      with_reducible rfl
    rotate_left
    · simp only [Act.put, List.setIfInBounds_toArray, List.set_cons_zero, List.set_cons_succ, i64_w, i32_w]
      rfl
    refine pure_ (i := 2) (N := some 27) (v := ?_) (a' := ?_) #[true, false, true, false, false, false, false] rfl rfl (by kernel_rfl) (fun _ _ _ h => h) (Or.inl ⟨by rfl, ?_⟩) ?_ ?_
    rotate_left
    · intro w'
      go_simp
      with_reducible rfl
    rotate_left
    · simp only [Act.put, List.setIfInBounds_toArray, List.set_cons_zero, List.set_cons_succ, i64_w, i32_w]
      rfl
    refine take_ (i := 1) (N := some 26) (v := ?_) (a' := ?_) #[true, true, true, false, false, false, false] rfl rfl (by kernel_rfl) (fun _ _ _ h => h) (Or.inl ⟨by rfl, ?_⟩) hHeld ?_ ?_
    rotate_left
    · intro w' s0
      go_simp
      with_reducible rfl
    rotate_left
    · simp only [Act.put, List.setIfInBounds_toArray, List.set_cons_zero, List.set_cons_succ, i64_w, i32_w]
      rfl
    refine one_ (i := 3) (N := some 28) #[true, true, true, true, false, false, false] rfl rfl (by kernel_rfl) (by decide) (fun K hK => ?_)
    refine value_ (w1 := ?_) (v := ?_) (by rfl) rfl ?_ ?_
    rotate_left 2
    · go_simp
      constructor
      · rfl
      · rfl
    have c1b := (HS5.out.bel (bel_alloc (Below.refl _ _) (.cells #[.string ⟨#[65]⟩, .string ⟨#[66]⟩, .string ⟨#[67]⟩, .string ⟨#[68]⟩] 9)).drew).op.cell 1
    simp at c1b
    refine hK.out _ _ (c1b) (fun hHeld => ?_)
    clear hK K
    refine norm_ (a' := ?_) ?_ ?_
    rotate_left
    · show Act.put _ (some 28) _ = _
      simp only [Act.put, List.setIfInBounds_toArray, List.set_cons_zero, List.set_cons_succ, i64_w, i32_w]
      rfl
    refine one_ (i := 4) (N := some 29) #[true, true, true, true, true, false, false] rfl rfl (by kernel_rfl) (by decide) (fun K hK => ?_)
    refine goes_ Try.func106 (by kernel_rfl) rfl #[.pointer (some ⟨rb, 0, none⟩), .slice (some ⟨w5.heap.size, 0, none⟩) 4 4] (by rfl) rfl rfl (by simp only [List.map_toArray, List.map_cons, List.map_nil]; rfl) ?_
    with_reducible refine (HP6.out).mono ?_
    rintro e w6 ⟨v, rfl, ⟨d6, rfl, hd6⟩, hR6, hg6⟩
    have hdz := nms_size hd6
    have hs6 := OpSt.step (HS5.out.bel (bel_alloc (Below.refl _ _) (.cells #[.string ⟨#[65]⟩, .string ⟨#[66]⟩, .string ⟨#[67]⟩, .string ⟨#[68]⟩] 9)).drew) hR6 hg6
    have HS6 := Lib.hid hs6
    have c0 := hs6.op.cell 0
    have g0 := hs6.op.free 0
    have c1 := hs6.op.cell 1
    have g1 := hs6.op.free 1
    have c2 := hs6.op.cell 2
    have g2 := hs6.op.free 2
    have c3 := hs6.op.cell 3
    have g3 := hs6.op.free 3
    have c4 := hs6.op.cell 4
    have g4 := hs6.op.free 4
    have zo := hs6.op.lt
    have hne1 : ¬ ob = w.heap.size := by have := hs6.l2; omega
    have hne2 : ¬ w.heap.size = ob := by have := hs6.l2; omega
    simp at c0 c1 c2 c3 c4
    clear hR6 hg6 hd6 hs6
    refine ⟨_, rfl, ?_⟩
    refine hK.out _ _ (c1) (fun hHeld => ?_)
    clear hK K
    refine norm_ (a' := ?_) ?_ ?_
    rotate_left
    · show Act.put _ (some 29) _ = _
      simp only [Act.put, List.setIfInBounds_toArray, List.set_cons_zero, List.set_cons_succ, i64_w, i32_w]
      rfl
    refine pure_ (i := 5) (N := some 30) (v := ?_) (a' := ?_) #[true, true, true, true, true, true, false] rfl rfl (by kernel_rfl) (fun _ _ _ h => h) (Or.inl ⟨by rfl, ?_⟩) ?_ ?_
    rotate_left
    · intro w'
      go_simp
      with_reducible rfl
    rotate_left
    · simp only [Act.put, List.setIfInBounds_toArray, List.set_cons_zero, List.set_cons_succ, i64_w, i32_w]
      rfl
    refine last_ (i := 6) (N := none) #[true, true, true, true, true, true, true] rfl rfl (by kernel_rfl) (by decide) (fun K hK => ?_)
    refine skip_ (w1 := ?_) (by rfl) rfl ?_ ?_
    rotate_left
    · go_simp
      rfl
    refine hK.out _ _ ?_
    clear hK K
    refine done_ (by kernel_rfl) ?_
    clear hHeld
    have hs := (((((HS6.out.set 0 (.int .i64 (3)) (cs' := #[.int .i64 (3), .string nm, .string ⟨#[]⟩, .int .i64 n0, .string tx]) rfl).set 1 (.string nm) (cs' := #[.int .i64 (3), .string nm, .string ⟨#[]⟩, .int .i64 n0, .string tx]) rfl).set 2 (.string d6) (cs' := #[.int .i64 (3), .string nm, .string d6, .int .i64 n0, .string tx]) rfl).set 3 (.int .i64 (0)) (cs' := #[.int .i64 (3), .string nm, .string d6, .int .i64 (0), .string tx]) rfl).set 4 (.string (⟨#[]⟩ : ByteArray)) (cs' := #[.int .i64 (3), .string nm, .string d6, .int .i64 (0), .string (⟨#[]⟩ : ByteArray)]) rfl)
    clear c0 c1 c2 c3 c4 g0 g1 g2 g3 g4
    generalize (((((w6.setCell ⟨ob, 0, none⟩ (.int .i64 (3))).setCell ⟨ob, 1, none⟩ (.string nm)).setCell ⟨ob, 2, none⟩ (.string d6)).setCell ⟨ob, 3, none⟩ (.int .i64 (0))).setCell ⟨ob, 4, none⟩ (.string (⟨#[]⟩ : ByteArray))) = WW at hs ⊢
    have HSS := Lib.hid hs
    clear hs
    go_wp2_with fail
    refine (pick_c HSS.out.rd (by omega) 30 (by omega)).mono ?_
    rintro e w7 ⟨v, rfl, ⟨q, rfl, hq0, hq1, -⟩, hR7, hg7⟩
    have HS7 := Lib.hid (HSS.out.step hR7 hg7)
    have hq2 := hq1 (by omega)
    clear hR7 hg7 hq1
    by_cases hqa : q = 0
    · subst hqa
      go_wp2_with fail
      have hB : Blk (w7.alloc (.cells #[.string ⟨#[]⟩, .string ⟨#[69]⟩, .string ⟨#[65, 65]⟩] 9)) w7.heap.size (bad.map Value.string).toArray 9 := Blk.new w7 _ _
      have hne : w7.heap.size ≠ rb := by have := HS7.out.rd.lt; omega
      have hst8 := HS7.out.bel (bel_alloc (Below.refl _ _) (.cells #[.string ⟨#[]⟩, .string ⟨#[69]⟩, .string ⟨#[65, 65]⟩] 9))
      refine (of_c hst8.rd (by omega) hB hne (by decide) (by decide) 3 3 rfl (by omega)).mono ?_
      rintro e w8 ⟨v, rfl, ⟨nm2, rfl, hnm2⟩, hR8, hg8⟩
      have hnz2 := bad_size hnm2
      have hs8 := hst8.step hR8 hg8
      have HS9 := Lib.hid (hs8.set 1 (.string nm2) (cs' := #[.int .i64 3, .string nm2, .string d6, .int .i64 0, .string ⟨#[]⟩]) rfl)
      have sf1 := hs8.op.free 1
      have r0 := hs8.res.cell 0
      have f0 := hs8.res.free 0
      have c0 := hs8.op.cell 0
      have r1 := hs8.res.cell 1
      have f1 := hs8.res.free 1
      have c1 := hs8.op.cell 1
      have r2' := hs8.res.cell 2
      have f2 := hs8.res.free 2
      have c2 := hs8.op.cell 2
      have r3 := hs8.res.cell 3
      have f3 := hs8.res.free 3
      have c3 := hs8.op.cell 3
      have r4 := hs8.res.cell 4
      have f4 := hs8.res.free 4
      have c4 := hs8.op.cell 4
      have zr := hs8.res.lt
      have zo := hs8.op.lt
      have hne1 : ¬ ob = w.heap.size := by have := hs8.l2; omega
      have hne2 : ¬ w.heap.size = ob := by have := hs8.l2; omega
      simp at r0 r1 r2' r3 r4 c0 c1 c2 c3 c4
      clear hB hne hst8 hnm2 hR8 hg8 hs8
      go_wp2
      have hf := (((((HS9.out.res.set 0 (.int .i64 (3)) (cs' := #[.int .i64 (3), .string ⟨#[]⟩, .string ⟨#[]⟩, .int .i64 0, .string ⟨#[]⟩]) rfl).set 1 (.string nm2) (cs' := #[.int .i64 (3), .string nm2, .string ⟨#[]⟩, .int .i64 0, .string ⟨#[]⟩]) rfl).set 2 (.string d6) (cs' := #[.int .i64 (3), .string nm2, .string d6, .int .i64 0, .string ⟨#[]⟩]) rfl).set 3 (.int .i64 (0)) (cs' := #[.int .i64 (3), .string nm2, .string d6, .int .i64 (0), .string ⟨#[]⟩]) rfl).set 4 (.string (⟨#[]⟩ : ByteArray)) (cs' := #[.int .i64 (3), .string nm2, .string d6, .int .i64 (0), .string ⟨#[]⟩]) rfl)
      have hgf := grown_new (grown_new (grown_new (grown_new (grown_new HS9.out.g HS9.out.l1 0 (.int .i64 (3))) HS9.out.l1 1 (.string nm2)) HS9.out.l1 2 (.string d6)) HS9.out.l1 3 (.int .i64 (0))) HS9.out.l1 4 (.string (⟨#[]⟩ : ByteArray))
      have hl4 := HS9.out.l3
      have hrf := (((((HS9.out.rd.set (b := w.heap.size) hl4 0 (.int .i64 (3))).set (b := w.heap.size) hl4 1 (.string nm2)).set (b := w.heap.size) hl4 2 (.string d6)).set (b := w.heap.size) hl4 3 (.int .i64 (0))).set (b := w.heap.size) hl4 4 (.string (⟨#[]⟩ : ByteArray)))
      refine bodyPost_ret (results_cell_row rfl _ _ w.heap.size 74 #[.int .i64 (3), .string nm2, .string d6, .int .i64 (0), .string ⟨#[]⟩] (0, 0) _ rfl hf Try.underlying74 rfl (by kernel_rfl)) rfl ?_
      exact ⟨_, rfl, ⟨⟨3, nm2, d6, 0, (⟨#[]⟩ : ByteArray)⟩, rfl, ⟨by show ByteArray.size nm2 ≤ _; omega, by show ByteArray.size d6 ≤ _; omega, by show ByteArray.size (⟨#[]⟩ : ByteArray) ≤ _; omega⟩, by show (-100 : Int) ≤ 0; omega, by show (0 : Int) ≤ 100; omega, by show (0 : Int) ≤ 3; omega, by show (3 : Int) ≤ 100; omega⟩, hrf.more (by omega), hgf⟩
    · by_cases hqb : q = 1
      · subst hqb
        go_wp2_with fail
        refine (pick_c HS7.out.rd (by omega) 9 (by omega)).mono ?_
        rintro e w8 ⟨v, rfl, ⟨n2, rfl, hn20, hn21, -⟩, hR8, hg8⟩
        have hn22 := hn21 (by omega)
        have hs8 := HS7.out.step hR8 hg8
        have HS9 := Lib.hid (hs8.set 3 (.int .i64 (n2 - 1)) (cs' := #[.int .i64 3, .string nm, .string d6, .int .i64 (n2 - 1), .string ⟨#[]⟩]) rfl)
        have sf3 := hs8.op.free 3
        have r0 := hs8.res.cell 0
        have f0 := hs8.res.free 0
        have c0 := hs8.op.cell 0
        have r1 := hs8.res.cell 1
        have f1 := hs8.res.free 1
        have c1 := hs8.op.cell 1
        have r2' := hs8.res.cell 2
        have f2 := hs8.res.free 2
        have c2 := hs8.op.cell 2
        have r3 := hs8.res.cell 3
        have f3 := hs8.res.free 3
        have c3 := hs8.op.cell 3
        have r4 := hs8.res.cell 4
        have f4 := hs8.res.free 4
        have c4 := hs8.op.cell 4
        have zr := hs8.res.lt
        have zo := hs8.op.lt
        have hne1 : ¬ ob = w.heap.size := by have := hs8.l2; omega
        have hne2 : ¬ w.heap.size = ob := by have := hs8.l2; omega
        simp at r0 r1 r2' r3 r4 c0 c1 c2 c3 c4
        clear hR8 hg8 hs8 hn21
        go_wp2
        have hf := (((((HS9.out.res.set 0 (.int .i64 (3)) (cs' := #[.int .i64 (3), .string ⟨#[]⟩, .string ⟨#[]⟩, .int .i64 0, .string ⟨#[]⟩]) rfl).set 1 (.string nm) (cs' := #[.int .i64 (3), .string nm, .string ⟨#[]⟩, .int .i64 0, .string ⟨#[]⟩]) rfl).set 2 (.string d6) (cs' := #[.int .i64 (3), .string nm, .string d6, .int .i64 0, .string ⟨#[]⟩]) rfl).set 3 (.int .i64 (n2 - 1)) (cs' := #[.int .i64 (3), .string nm, .string d6, .int .i64 (n2 - 1), .string ⟨#[]⟩]) rfl).set 4 (.string (⟨#[]⟩ : ByteArray)) (cs' := #[.int .i64 (3), .string nm, .string d6, .int .i64 (n2 - 1), .string ⟨#[]⟩]) rfl)
        have hgf := grown_new (grown_new (grown_new (grown_new (grown_new HS9.out.g HS9.out.l1 0 (.int .i64 (3))) HS9.out.l1 1 (.string nm)) HS9.out.l1 2 (.string d6)) HS9.out.l1 3 (.int .i64 (n2 - 1))) HS9.out.l1 4 (.string (⟨#[]⟩ : ByteArray))
        have hl4 := HS9.out.l3
        have hrf := (((((HS9.out.rd.set (b := w.heap.size) hl4 0 (.int .i64 (3))).set (b := w.heap.size) hl4 1 (.string nm)).set (b := w.heap.size) hl4 2 (.string d6)).set (b := w.heap.size) hl4 3 (.int .i64 (n2 - 1))).set (b := w.heap.size) hl4 4 (.string (⟨#[]⟩ : ByteArray)))
        refine bodyPost_ret (results_cell_row rfl _ _ w.heap.size 74 #[.int .i64 (3), .string nm, .string d6, .int .i64 (n2 - 1), .string ⟨#[]⟩] (0, 0) _ rfl hf Try.underlying74 rfl (by kernel_rfl)) rfl ?_
        exact ⟨_, rfl, ⟨⟨3, nm, d6, n2 - 1, (⟨#[]⟩ : ByteArray)⟩, rfl, ⟨by show ByteArray.size nm ≤ _; omega, by show ByteArray.size d6 ≤ _; omega, by show ByteArray.size (⟨#[]⟩ : ByteArray) ≤ _; omega⟩, by show (-100 : Int) ≤ n2 - 1; omega, by show (n2 - 1 : Int) ≤ 100; omega, by show (0 : Int) ≤ 3; omega, by show (3 : Int) ≤ 100; omega⟩, hrf.more (by omega), hgf⟩
      · by_cases hqc : q = 2
        · subst hqc
          go_wp2_with fail
          refine (pick_c HS7.out.rd (by omega) 6 (by omega)).mono ?_
          rintro e w8 ⟨v, rfl, ⟨kd2, rfl, hk20, hk21, -⟩, hR8, hg8⟩
          have hk22 := hk21 (by omega)
          have hs8 := HS7.out.step hR8 hg8
          have HS9 := Lib.hid (hs8.set 0 (.int .i64 kd2) (cs' := #[.int .i64 kd2, .string nm, .string d6, .int .i64 0, .string ⟨#[]⟩]) rfl)
          have sf0 := hs8.op.free 0
          have r0 := hs8.res.cell 0
          have f0 := hs8.res.free 0
          have c0 := hs8.op.cell 0
          have r1 := hs8.res.cell 1
          have f1 := hs8.res.free 1
          have c1 := hs8.op.cell 1
          have r2' := hs8.res.cell 2
          have f2 := hs8.res.free 2
          have c2 := hs8.op.cell 2
          have r3 := hs8.res.cell 3
          have f3 := hs8.res.free 3
          have c3 := hs8.op.cell 3
          have r4 := hs8.res.cell 4
          have f4 := hs8.res.free 4
          have c4 := hs8.op.cell 4
          have zr := hs8.res.lt
          have zo := hs8.op.lt
          have hne1 : ¬ ob = w.heap.size := by have := hs8.l2; omega
          have hne2 : ¬ w.heap.size = ob := by have := hs8.l2; omega
          simp at r0 r1 r2' r3 r4 c0 c1 c2 c3 c4
          clear hR8 hg8 hs8 hk21
          go_wp2
          have hf := (((((HS9.out.res.set 0 (.int .i64 (kd2)) (cs' := #[.int .i64 (kd2), .string ⟨#[]⟩, .string ⟨#[]⟩, .int .i64 0, .string ⟨#[]⟩]) rfl).set 1 (.string nm) (cs' := #[.int .i64 (kd2), .string nm, .string ⟨#[]⟩, .int .i64 0, .string ⟨#[]⟩]) rfl).set 2 (.string d6) (cs' := #[.int .i64 (kd2), .string nm, .string d6, .int .i64 0, .string ⟨#[]⟩]) rfl).set 3 (.int .i64 (0)) (cs' := #[.int .i64 (kd2), .string nm, .string d6, .int .i64 (0), .string ⟨#[]⟩]) rfl).set 4 (.string (⟨#[]⟩ : ByteArray)) (cs' := #[.int .i64 (kd2), .string nm, .string d6, .int .i64 (0), .string ⟨#[]⟩]) rfl)
          have hgf := grown_new (grown_new (grown_new (grown_new (grown_new HS9.out.g HS9.out.l1 0 (.int .i64 (kd2))) HS9.out.l1 1 (.string nm)) HS9.out.l1 2 (.string d6)) HS9.out.l1 3 (.int .i64 (0))) HS9.out.l1 4 (.string (⟨#[]⟩ : ByteArray))
          have hl4 := HS9.out.l3
          have hrf := (((((HS9.out.rd.set (b := w.heap.size) hl4 0 (.int .i64 (kd2))).set (b := w.heap.size) hl4 1 (.string nm)).set (b := w.heap.size) hl4 2 (.string d6)).set (b := w.heap.size) hl4 3 (.int .i64 (0))).set (b := w.heap.size) hl4 4 (.string (⟨#[]⟩ : ByteArray)))
          refine bodyPost_ret (results_cell_row rfl _ _ w.heap.size 74 #[.int .i64 (kd2), .string nm, .string d6, .int .i64 (0), .string ⟨#[]⟩] (0, 0) _ rfl hf Try.underlying74 rfl (by kernel_rfl)) rfl ?_
          exact ⟨_, rfl, ⟨⟨kd2, nm, d6, 0, (⟨#[]⟩ : ByteArray)⟩, rfl, ⟨by show ByteArray.size nm ≤ _; omega, by show ByteArray.size d6 ≤ _; omega, by show ByteArray.size (⟨#[]⟩ : ByteArray) ≤ _; omega⟩, by show (-100 : Int) ≤ 0; omega, by show (0 : Int) ≤ 100; omega, by show (0 : Int) ≤ kd2; omega, by show (kd2 : Int) ≤ 100; omega⟩, hrf.more (by omega), hgf⟩
        · skip
          have hs8 := HS7.out
          have r0 := hs8.res.cell 0
          have f0 := hs8.res.free 0
          have c0 := hs8.op.cell 0
          have r1 := hs8.res.cell 1
          have f1 := hs8.res.free 1
          have c1 := hs8.op.cell 1
          have r2' := hs8.res.cell 2
          have f2 := hs8.res.free 2
          have c2 := hs8.op.cell 2
          have r3 := hs8.res.cell 3
          have f3 := hs8.res.free 3
          have c3 := hs8.op.cell 3
          have r4 := hs8.res.cell 4
          have f4 := hs8.res.free 4
          have c4 := hs8.op.cell 4
          have zr := hs8.res.lt
          have zo := hs8.op.lt
          have hne1 : ¬ ob = w.heap.size := by have := hs8.l2; omega
          have hne2 : ¬ w.heap.size = ob := by have := hs8.l2; omega
          simp at r0 r1 r2' r3 r4 c0 c1 c2 c3 c4
          clear hs8
          go_wp2
          have hf := (((((HS7.out.res.set 0 (.int .i64 (3)) (cs' := #[.int .i64 (3), .string ⟨#[]⟩, .string ⟨#[]⟩, .int .i64 0, .string ⟨#[]⟩]) rfl).set 1 (.string nm) (cs' := #[.int .i64 (3), .string nm, .string ⟨#[]⟩, .int .i64 0, .string ⟨#[]⟩]) rfl).set 2 (.string d6) (cs' := #[.int .i64 (3), .string nm, .string d6, .int .i64 0, .string ⟨#[]⟩]) rfl).set 3 (.int .i64 (0)) (cs' := #[.int .i64 (3), .string nm, .string d6, .int .i64 (0), .string ⟨#[]⟩]) rfl).set 4 (.string (⟨#[]⟩ : ByteArray)) (cs' := #[.int .i64 (3), .string nm, .string d6, .int .i64 (0), .string ⟨#[]⟩]) rfl)
          have hgf := grown_new (grown_new (grown_new (grown_new (grown_new HS7.out.g HS7.out.l1 0 (.int .i64 (3))) HS7.out.l1 1 (.string nm)) HS7.out.l1 2 (.string d6)) HS7.out.l1 3 (.int .i64 (0))) HS7.out.l1 4 (.string (⟨#[]⟩ : ByteArray))
          have hl4 := HS7.out.l3
          have hrf := (((((HS7.out.rd.set (b := w.heap.size) hl4 0 (.int .i64 (3))).set (b := w.heap.size) hl4 1 (.string nm)).set (b := w.heap.size) hl4 2 (.string d6)).set (b := w.heap.size) hl4 3 (.int .i64 (0))).set (b := w.heap.size) hl4 4 (.string (⟨#[]⟩ : ByteArray)))
          refine bodyPost_ret (results_cell_row rfl _ _ w.heap.size 74 #[.int .i64 (3), .string nm, .string d6, .int .i64 (0), .string ⟨#[]⟩] (0, 0) _ rfl hf Try.underlying74 rfl (by kernel_rfl)) rfl ?_
          exact ⟨_, rfl, ⟨⟨3, nm, d6, 0, (⟨#[]⟩ : ByteArray)⟩, rfl, ⟨by show ByteArray.size nm ≤ _; omega, by show ByteArray.size d6 ≤ _; omega, by show ByteArray.size (⟨#[]⟩ : ByteArray) ≤ _; omega⟩, by show (-100 : Int) ≤ 0; omega, by show (0 : Int) ≤ 100; omega, by show (0 : Int) ≤ 3; omega, by show (3 : Int) ≤ 100; omega⟩, hrf.more (by omega), hgf⟩
  by_cases hrc : r = 3
  · subst hrc
    have hs5 := HS5.out
    have c0 := hs5.op.cell 0
    have g0 := hs5.op.free 0
    have c1 := hs5.op.cell 1
    have g1 := hs5.op.free 1
    have c2 := hs5.op.cell 2
    have g2 := hs5.op.free 2
    have c3 := hs5.op.cell 3
    have g3 := hs5.op.free 3
    have c4 := hs5.op.cell 4
    have g4 := hs5.op.free 4
    have zo := hs5.op.lt
    have hne1 : ¬ ob = w.heap.size := by have := hs5.l2; omega
    have hne2 : ¬ w.heap.size = ob := by have := hs5.l2; omega
    simp at c0 c1 c2 c3 c4
    clear hs5
    have hs := (((((HS5.out.set 0 (.int .i64 (4)) (cs' := #[.int .i64 (4), .string nm, .string ⟨#[]⟩, .int .i64 n0, .string tx]) rfl).set 1 (.string nm) (cs' := #[.int .i64 (4), .string nm, .string ⟨#[]⟩, .int .i64 n0, .string tx]) rfl).set 2 (.string (⟨#[]⟩ : ByteArray)) (cs' := #[.int .i64 (4), .string nm, .string (⟨#[]⟩ : ByteArray), .int .i64 n0, .string tx]) rfl).set 3 (.int .i64 (0)) (cs' := #[.int .i64 (4), .string nm, .string (⟨#[]⟩ : ByteArray), .int .i64 (0), .string tx]) rfl).set 4 (.string (⟨#[]⟩ : ByteArray)) (cs' := #[.int .i64 (4), .string nm, .string (⟨#[]⟩ : ByteArray), .int .i64 (0), .string (⟨#[]⟩ : ByteArray)]) rfl)
    go_wp2_with fail
    generalize (((((w5.setCell ⟨ob, 0, none⟩ (.int .i64 (4))).setCell ⟨ob, 1, none⟩ (.string nm)).setCell ⟨ob, 2, none⟩ (.string (⟨#[]⟩ : ByteArray))).setCell ⟨ob, 3, none⟩ (.int .i64 (0))).setCell ⟨ob, 4, none⟩ (.string (⟨#[]⟩ : ByteArray))) = WW at hs ⊢
    have HSS := Lib.hid hs
    clear hs c0 c1 c2 c3 c4 g0 g1 g2 g3 g4

    refine (pick_c HSS.out.rd (by omega) 30 (by omega)).mono ?_
    rintro e w7 ⟨v, rfl, ⟨q, rfl, hq0, hq1, -⟩, hR7, hg7⟩
    have HS7 := Lib.hid (HSS.out.step hR7 hg7)
    have hq2 := hq1 (by omega)
    clear hR7 hg7 hq1
    by_cases hqa : q = 0
    · subst hqa
      go_wp2_with fail
      have hB : Blk (w7.alloc (.cells #[.string ⟨#[]⟩, .string ⟨#[69]⟩, .string ⟨#[65, 65]⟩] 9)) w7.heap.size (bad.map Value.string).toArray 9 := Blk.new w7 _ _
      have hne : w7.heap.size ≠ rb := by have := HS7.out.rd.lt; omega
      have hst8 := HS7.out.bel (bel_alloc (Below.refl _ _) (.cells #[.string ⟨#[]⟩, .string ⟨#[69]⟩, .string ⟨#[65, 65]⟩] 9))
      refine (of_c hst8.rd (by omega) hB hne (by decide) (by decide) 3 3 rfl (by omega)).mono ?_
      rintro e w8 ⟨v, rfl, ⟨nm2, rfl, hnm2⟩, hR8, hg8⟩
      have hnz2 := bad_size hnm2
      have hs8 := hst8.step hR8 hg8
      have HS9 := Lib.hid (hs8.set 1 (.string nm2) (cs' := #[.int .i64 4, .string nm2, .string ⟨#[]⟩, .int .i64 0, .string ⟨#[]⟩]) rfl)
      have sf1 := hs8.op.free 1
      have r0 := hs8.res.cell 0
      have f0 := hs8.res.free 0
      have c0 := hs8.op.cell 0
      have r1 := hs8.res.cell 1
      have f1 := hs8.res.free 1
      have c1 := hs8.op.cell 1
      have r2' := hs8.res.cell 2
      have f2 := hs8.res.free 2
      have c2 := hs8.op.cell 2
      have r3 := hs8.res.cell 3
      have f3 := hs8.res.free 3
      have c3 := hs8.op.cell 3
      have r4 := hs8.res.cell 4
      have f4 := hs8.res.free 4
      have c4 := hs8.op.cell 4
      have zr := hs8.res.lt
      have zo := hs8.op.lt
      have hne1 : ¬ ob = w.heap.size := by have := hs8.l2; omega
      have hne2 : ¬ w.heap.size = ob := by have := hs8.l2; omega
      simp at r0 r1 r2' r3 r4 c0 c1 c2 c3 c4
      clear hB hne hst8 hnm2 hR8 hg8 hs8
      go_wp2
      have hf := (((((HS9.out.res.set 0 (.int .i64 (4)) (cs' := #[.int .i64 (4), .string ⟨#[]⟩, .string ⟨#[]⟩, .int .i64 0, .string ⟨#[]⟩]) rfl).set 1 (.string nm2) (cs' := #[.int .i64 (4), .string nm2, .string ⟨#[]⟩, .int .i64 0, .string ⟨#[]⟩]) rfl).set 2 (.string (⟨#[]⟩ : ByteArray)) (cs' := #[.int .i64 (4), .string nm2, .string (⟨#[]⟩ : ByteArray), .int .i64 0, .string ⟨#[]⟩]) rfl).set 3 (.int .i64 (0)) (cs' := #[.int .i64 (4), .string nm2, .string (⟨#[]⟩ : ByteArray), .int .i64 (0), .string ⟨#[]⟩]) rfl).set 4 (.string (⟨#[]⟩ : ByteArray)) (cs' := #[.int .i64 (4), .string nm2, .string ⟨#[]⟩, .int .i64 (0), .string ⟨#[]⟩]) rfl)
      have hgf := grown_new (grown_new (grown_new (grown_new (grown_new HS9.out.g HS9.out.l1 0 (.int .i64 (4))) HS9.out.l1 1 (.string nm2)) HS9.out.l1 2 (.string (⟨#[]⟩ : ByteArray))) HS9.out.l1 3 (.int .i64 (0))) HS9.out.l1 4 (.string (⟨#[]⟩ : ByteArray))
      have hl4 := HS9.out.l3
      have hrf := (((((HS9.out.rd.set (b := w.heap.size) hl4 0 (.int .i64 (4))).set (b := w.heap.size) hl4 1 (.string nm2)).set (b := w.heap.size) hl4 2 (.string (⟨#[]⟩ : ByteArray))).set (b := w.heap.size) hl4 3 (.int .i64 (0))).set (b := w.heap.size) hl4 4 (.string (⟨#[]⟩ : ByteArray)))
      refine bodyPost_ret (results_cell_row rfl _ _ w.heap.size 74 #[.int .i64 (4), .string nm2, .string ⟨#[]⟩, .int .i64 (0), .string ⟨#[]⟩] (0, 0) _ rfl hf Try.underlying74 rfl (by kernel_rfl)) rfl ?_
      exact ⟨_, rfl, ⟨⟨4, nm2, (⟨#[]⟩ : ByteArray), 0, (⟨#[]⟩ : ByteArray)⟩, rfl, ⟨by show ByteArray.size nm2 ≤ _; omega, by show ByteArray.size (⟨#[]⟩ : ByteArray) ≤ _; omega, by show ByteArray.size (⟨#[]⟩ : ByteArray) ≤ _; omega⟩, by show (-100 : Int) ≤ 0; omega, by show (0 : Int) ≤ 100; omega, by show (0 : Int) ≤ 4; omega, by show (4 : Int) ≤ 100; omega⟩, hrf.more (by omega), hgf⟩
    · by_cases hqb : q = 1
      · subst hqb
        go_wp2_with fail
        refine (pick_c HS7.out.rd (by omega) 9 (by omega)).mono ?_
        rintro e w8 ⟨v, rfl, ⟨n2, rfl, hn20, hn21, -⟩, hR8, hg8⟩
        have hn22 := hn21 (by omega)
        have hs8 := HS7.out.step hR8 hg8
        have HS9 := Lib.hid (hs8.set 3 (.int .i64 (n2 - 1)) (cs' := #[.int .i64 4, .string nm, .string ⟨#[]⟩, .int .i64 (n2 - 1), .string ⟨#[]⟩]) rfl)
        have sf3 := hs8.op.free 3
        have r0 := hs8.res.cell 0
        have f0 := hs8.res.free 0
        have c0 := hs8.op.cell 0
        have r1 := hs8.res.cell 1
        have f1 := hs8.res.free 1
        have c1 := hs8.op.cell 1
        have r2' := hs8.res.cell 2
        have f2 := hs8.res.free 2
        have c2 := hs8.op.cell 2
        have r3 := hs8.res.cell 3
        have f3 := hs8.res.free 3
        have c3 := hs8.op.cell 3
        have r4 := hs8.res.cell 4
        have f4 := hs8.res.free 4
        have c4 := hs8.op.cell 4
        have zr := hs8.res.lt
        have zo := hs8.op.lt
        have hne1 : ¬ ob = w.heap.size := by have := hs8.l2; omega
        have hne2 : ¬ w.heap.size = ob := by have := hs8.l2; omega
        simp at r0 r1 r2' r3 r4 c0 c1 c2 c3 c4
        clear hR8 hg8 hs8 hn21
        go_wp2
        have hf := (((((HS9.out.res.set 0 (.int .i64 (4)) (cs' := #[.int .i64 (4), .string ⟨#[]⟩, .string ⟨#[]⟩, .int .i64 0, .string ⟨#[]⟩]) rfl).set 1 (.string nm) (cs' := #[.int .i64 (4), .string nm, .string ⟨#[]⟩, .int .i64 0, .string ⟨#[]⟩]) rfl).set 2 (.string (⟨#[]⟩ : ByteArray)) (cs' := #[.int .i64 (4), .string nm, .string (⟨#[]⟩ : ByteArray), .int .i64 0, .string ⟨#[]⟩]) rfl).set 3 (.int .i64 (n2 - 1)) (cs' := #[.int .i64 (4), .string nm, .string (⟨#[]⟩ : ByteArray), .int .i64 (n2 - 1), .string ⟨#[]⟩]) rfl).set 4 (.string (⟨#[]⟩ : ByteArray)) (cs' := #[.int .i64 (4), .string nm, .string ⟨#[]⟩, .int .i64 (n2 - 1), .string ⟨#[]⟩]) rfl)
        have hgf := grown_new (grown_new (grown_new (grown_new (grown_new HS9.out.g HS9.out.l1 0 (.int .i64 (4))) HS9.out.l1 1 (.string nm)) HS9.out.l1 2 (.string (⟨#[]⟩ : ByteArray))) HS9.out.l1 3 (.int .i64 (n2 - 1))) HS9.out.l1 4 (.string (⟨#[]⟩ : ByteArray))
        have hl4 := HS9.out.l3
        have hrf := (((((HS9.out.rd.set (b := w.heap.size) hl4 0 (.int .i64 (4))).set (b := w.heap.size) hl4 1 (.string nm)).set (b := w.heap.size) hl4 2 (.string (⟨#[]⟩ : ByteArray))).set (b := w.heap.size) hl4 3 (.int .i64 (n2 - 1))).set (b := w.heap.size) hl4 4 (.string (⟨#[]⟩ : ByteArray)))
        refine bodyPost_ret (results_cell_row rfl _ _ w.heap.size 74 #[.int .i64 (4), .string nm, .string ⟨#[]⟩, .int .i64 (n2 - 1), .string ⟨#[]⟩] (0, 0) _ rfl hf Try.underlying74 rfl (by kernel_rfl)) rfl ?_
        exact ⟨_, rfl, ⟨⟨4, nm, (⟨#[]⟩ : ByteArray), n2 - 1, (⟨#[]⟩ : ByteArray)⟩, rfl, ⟨by show ByteArray.size nm ≤ _; omega, by show ByteArray.size (⟨#[]⟩ : ByteArray) ≤ _; omega, by show ByteArray.size (⟨#[]⟩ : ByteArray) ≤ _; omega⟩, by show (-100 : Int) ≤ n2 - 1; omega, by show (n2 - 1 : Int) ≤ 100; omega, by show (0 : Int) ≤ 4; omega, by show (4 : Int) ≤ 100; omega⟩, hrf.more (by omega), hgf⟩
      · by_cases hqc : q = 2
        · subst hqc
          go_wp2_with fail
          refine (pick_c HS7.out.rd (by omega) 6 (by omega)).mono ?_
          rintro e w8 ⟨v, rfl, ⟨kd2, rfl, hk20, hk21, -⟩, hR8, hg8⟩
          have hk22 := hk21 (by omega)
          have hs8 := HS7.out.step hR8 hg8
          have HS9 := Lib.hid (hs8.set 0 (.int .i64 kd2) (cs' := #[.int .i64 kd2, .string nm, .string ⟨#[]⟩, .int .i64 0, .string ⟨#[]⟩]) rfl)
          have sf0 := hs8.op.free 0
          have r0 := hs8.res.cell 0
          have f0 := hs8.res.free 0
          have c0 := hs8.op.cell 0
          have r1 := hs8.res.cell 1
          have f1 := hs8.res.free 1
          have c1 := hs8.op.cell 1
          have r2' := hs8.res.cell 2
          have f2 := hs8.res.free 2
          have c2 := hs8.op.cell 2
          have r3 := hs8.res.cell 3
          have f3 := hs8.res.free 3
          have c3 := hs8.op.cell 3
          have r4 := hs8.res.cell 4
          have f4 := hs8.res.free 4
          have c4 := hs8.op.cell 4
          have zr := hs8.res.lt
          have zo := hs8.op.lt
          have hne1 : ¬ ob = w.heap.size := by have := hs8.l2; omega
          have hne2 : ¬ w.heap.size = ob := by have := hs8.l2; omega
          simp at r0 r1 r2' r3 r4 c0 c1 c2 c3 c4
          clear hR8 hg8 hs8 hk21
          go_wp2
          have hf := (((((HS9.out.res.set 0 (.int .i64 (kd2)) (cs' := #[.int .i64 (kd2), .string ⟨#[]⟩, .string ⟨#[]⟩, .int .i64 0, .string ⟨#[]⟩]) rfl).set 1 (.string nm) (cs' := #[.int .i64 (kd2), .string nm, .string ⟨#[]⟩, .int .i64 0, .string ⟨#[]⟩]) rfl).set 2 (.string (⟨#[]⟩ : ByteArray)) (cs' := #[.int .i64 (kd2), .string nm, .string (⟨#[]⟩ : ByteArray), .int .i64 0, .string ⟨#[]⟩]) rfl).set 3 (.int .i64 (0)) (cs' := #[.int .i64 (kd2), .string nm, .string (⟨#[]⟩ : ByteArray), .int .i64 (0), .string ⟨#[]⟩]) rfl).set 4 (.string (⟨#[]⟩ : ByteArray)) (cs' := #[.int .i64 (kd2), .string nm, .string ⟨#[]⟩, .int .i64 (0), .string ⟨#[]⟩]) rfl)
          have hgf := grown_new (grown_new (grown_new (grown_new (grown_new HS9.out.g HS9.out.l1 0 (.int .i64 (kd2))) HS9.out.l1 1 (.string nm)) HS9.out.l1 2 (.string (⟨#[]⟩ : ByteArray))) HS9.out.l1 3 (.int .i64 (0))) HS9.out.l1 4 (.string (⟨#[]⟩ : ByteArray))
          have hl4 := HS9.out.l3
          have hrf := (((((HS9.out.rd.set (b := w.heap.size) hl4 0 (.int .i64 (kd2))).set (b := w.heap.size) hl4 1 (.string nm)).set (b := w.heap.size) hl4 2 (.string (⟨#[]⟩ : ByteArray))).set (b := w.heap.size) hl4 3 (.int .i64 (0))).set (b := w.heap.size) hl4 4 (.string (⟨#[]⟩ : ByteArray)))
          refine bodyPost_ret (results_cell_row rfl _ _ w.heap.size 74 #[.int .i64 (kd2), .string nm, .string ⟨#[]⟩, .int .i64 (0), .string ⟨#[]⟩] (0, 0) _ rfl hf Try.underlying74 rfl (by kernel_rfl)) rfl ?_
          exact ⟨_, rfl, ⟨⟨kd2, nm, (⟨#[]⟩ : ByteArray), 0, (⟨#[]⟩ : ByteArray)⟩, rfl, ⟨by show ByteArray.size nm ≤ _; omega, by show ByteArray.size (⟨#[]⟩ : ByteArray) ≤ _; omega, by show ByteArray.size (⟨#[]⟩ : ByteArray) ≤ _; omega⟩, by show (-100 : Int) ≤ 0; omega, by show (0 : Int) ≤ 100; omega, by show (0 : Int) ≤ kd2; omega, by show (kd2 : Int) ≤ 100; omega⟩, hrf.more (by omega), hgf⟩
        · skip
          have hs8 := HS7.out
          have r0 := hs8.res.cell 0
          have f0 := hs8.res.free 0
          have c0 := hs8.op.cell 0
          have r1 := hs8.res.cell 1
          have f1 := hs8.res.free 1
          have c1 := hs8.op.cell 1
          have r2' := hs8.res.cell 2
          have f2 := hs8.res.free 2
          have c2 := hs8.op.cell 2
          have r3 := hs8.res.cell 3
          have f3 := hs8.res.free 3
          have c3 := hs8.op.cell 3
          have r4 := hs8.res.cell 4
          have f4 := hs8.res.free 4
          have c4 := hs8.op.cell 4
          have zr := hs8.res.lt
          have zo := hs8.op.lt
          have hne1 : ¬ ob = w.heap.size := by have := hs8.l2; omega
          have hne2 : ¬ w.heap.size = ob := by have := hs8.l2; omega
          simp at r0 r1 r2' r3 r4 c0 c1 c2 c3 c4
          clear hs8
          go_wp2
          have hf := (((((HS7.out.res.set 0 (.int .i64 (4)) (cs' := #[.int .i64 (4), .string ⟨#[]⟩, .string ⟨#[]⟩, .int .i64 0, .string ⟨#[]⟩]) rfl).set 1 (.string nm) (cs' := #[.int .i64 (4), .string nm, .string ⟨#[]⟩, .int .i64 0, .string ⟨#[]⟩]) rfl).set 2 (.string (⟨#[]⟩ : ByteArray)) (cs' := #[.int .i64 (4), .string nm, .string (⟨#[]⟩ : ByteArray), .int .i64 0, .string ⟨#[]⟩]) rfl).set 3 (.int .i64 (0)) (cs' := #[.int .i64 (4), .string nm, .string (⟨#[]⟩ : ByteArray), .int .i64 (0), .string ⟨#[]⟩]) rfl).set 4 (.string (⟨#[]⟩ : ByteArray)) (cs' := #[.int .i64 (4), .string nm, .string ⟨#[]⟩, .int .i64 (0), .string ⟨#[]⟩]) rfl)
          have hgf := grown_new (grown_new (grown_new (grown_new (grown_new HS7.out.g HS7.out.l1 0 (.int .i64 (4))) HS7.out.l1 1 (.string nm)) HS7.out.l1 2 (.string (⟨#[]⟩ : ByteArray))) HS7.out.l1 3 (.int .i64 (0))) HS7.out.l1 4 (.string (⟨#[]⟩ : ByteArray))
          have hl4 := HS7.out.l3
          have hrf := (((((HS7.out.rd.set (b := w.heap.size) hl4 0 (.int .i64 (4))).set (b := w.heap.size) hl4 1 (.string nm)).set (b := w.heap.size) hl4 2 (.string (⟨#[]⟩ : ByteArray))).set (b := w.heap.size) hl4 3 (.int .i64 (0))).set (b := w.heap.size) hl4 4 (.string (⟨#[]⟩ : ByteArray)))
          refine bodyPost_ret (results_cell_row rfl _ _ w.heap.size 74 #[.int .i64 (4), .string nm, .string ⟨#[]⟩, .int .i64 (0), .string ⟨#[]⟩] (0, 0) _ rfl hf Try.underlying74 rfl (by kernel_rfl)) rfl ?_
          exact ⟨_, rfl, ⟨⟨4, nm, (⟨#[]⟩ : ByteArray), 0, (⟨#[]⟩ : ByteArray)⟩, rfl, ⟨by show ByteArray.size nm ≤ _; omega, by show ByteArray.size (⟨#[]⟩ : ByteArray) ≤ _; omega, by show ByteArray.size (⟨#[]⟩ : ByteArray) ≤ _; omega⟩, by show (-100 : Int) ≤ 0; omega, by show (0 : Int) ≤ 100; omega, by show (0 : Int) ≤ 4; omega, by show (4 : Int) ≤ 100; omega⟩, hrf.more (by omega), hgf⟩
  go_wp2_with fail
  refine (pick_c HS5.out.rd (by omega) 30 (by omega)).mono ?_
  rintro e w7 ⟨v, rfl, ⟨q, rfl, hq0, hq1, -⟩, hR7, hg7⟩
  have HS7 := Lib.hid (HS5.out.step hR7 hg7)
  have hq2 := hq1 (by omega)
  clear hR7 hg7 hq1
  by_cases hqa : q = 0
  · subst hqa
    go_wp2_with fail
    have hB : Blk (w7.alloc (.cells #[.string ⟨#[]⟩, .string ⟨#[69]⟩, .string ⟨#[65, 65]⟩] 9)) w7.heap.size (bad.map Value.string).toArray 9 := Blk.new w7 _ _
    have hne : w7.heap.size ≠ rb := by have := HS7.out.rd.lt; omega
    have hst8 := HS7.out.bel (bel_alloc (Below.refl _ _) (.cells #[.string ⟨#[]⟩, .string ⟨#[69]⟩, .string ⟨#[65, 65]⟩] 9))
    refine (of_c hst8.rd (by omega) hB hne (by decide) (by decide) 3 3 rfl (by omega)).mono ?_
    rintro e w8 ⟨v, rfl, ⟨nm2, rfl, hnm2⟩, hR8, hg8⟩
    have hnz2 := bad_size hnm2
    have hs8 := hst8.step hR8 hg8
    have HS9 := Lib.hid (hs8.set 1 (.string nm2) (cs' := #[.int .i64 2, .string nm2, .string ⟨#[]⟩, .int .i64 n0, .string tx]) rfl)
    have sf1 := hs8.op.free 1
    have r0 := hs8.res.cell 0
    have f0 := hs8.res.free 0
    have c0 := hs8.op.cell 0
    have r1 := hs8.res.cell 1
    have f1 := hs8.res.free 1
    have c1 := hs8.op.cell 1
    have r2' := hs8.res.cell 2
    have f2 := hs8.res.free 2
    have c2 := hs8.op.cell 2
    have r3 := hs8.res.cell 3
    have f3 := hs8.res.free 3
    have c3 := hs8.op.cell 3
    have r4 := hs8.res.cell 4
    have f4 := hs8.res.free 4
    have c4 := hs8.op.cell 4
    have zr := hs8.res.lt
    have zo := hs8.op.lt
    have hne1 : ¬ ob = w.heap.size := by have := hs8.l2; omega
    have hne2 : ¬ w.heap.size = ob := by have := hs8.l2; omega
    simp at r0 r1 r2' r3 r4 c0 c1 c2 c3 c4
    clear hB hne hst8 hnm2 hR8 hg8 hs8
    go_wp2
    have hf := (((((HS9.out.res.set 0 (.int .i64 (2)) (cs' := #[.int .i64 (2), .string ⟨#[]⟩, .string ⟨#[]⟩, .int .i64 0, .string ⟨#[]⟩]) rfl).set 1 (.string nm2) (cs' := #[.int .i64 (2), .string nm2, .string ⟨#[]⟩, .int .i64 0, .string ⟨#[]⟩]) rfl).set 2 (.string (⟨#[]⟩ : ByteArray)) (cs' := #[.int .i64 (2), .string nm2, .string (⟨#[]⟩ : ByteArray), .int .i64 0, .string ⟨#[]⟩]) rfl).set 3 (.int .i64 (n0)) (cs' := #[.int .i64 (2), .string nm2, .string (⟨#[]⟩ : ByteArray), .int .i64 (n0), .string ⟨#[]⟩]) rfl).set 4 (.string tx) (cs' := #[.int .i64 (2), .string nm2, .string ⟨#[]⟩, .int .i64 (n0), .string tx]) rfl)
    have hgf := grown_new (grown_new (grown_new (grown_new (grown_new HS9.out.g HS9.out.l1 0 (.int .i64 (2))) HS9.out.l1 1 (.string nm2)) HS9.out.l1 2 (.string (⟨#[]⟩ : ByteArray))) HS9.out.l1 3 (.int .i64 (n0))) HS9.out.l1 4 (.string tx)
    have hl4 := HS9.out.l3
    have hrf := (((((HS9.out.rd.set (b := w.heap.size) hl4 0 (.int .i64 (2))).set (b := w.heap.size) hl4 1 (.string nm2)).set (b := w.heap.size) hl4 2 (.string (⟨#[]⟩ : ByteArray))).set (b := w.heap.size) hl4 3 (.int .i64 (n0))).set (b := w.heap.size) hl4 4 (.string tx))
    refine bodyPost_ret (results_cell_row rfl _ _ w.heap.size 74 #[.int .i64 (2), .string nm2, .string ⟨#[]⟩, .int .i64 (n0), .string tx] (0, 0) _ rfl hf Try.underlying74 rfl (by kernel_rfl)) rfl ?_
    exact ⟨_, rfl, ⟨⟨2, nm2, (⟨#[]⟩ : ByteArray), n0, tx⟩, rfl, ⟨by show ByteArray.size nm2 ≤ _; omega, by show ByteArray.size (⟨#[]⟩ : ByteArray) ≤ _; omega, by show ByteArray.size tx ≤ _; omega⟩, by show (-100 : Int) ≤ n0; omega, by show (n0 : Int) ≤ 100; omega, by show (0 : Int) ≤ 2; omega, by show (2 : Int) ≤ 100; omega⟩, hrf.more (by omega), hgf⟩
  · by_cases hqb : q = 1
    · subst hqb
      go_wp2_with fail
      refine (pick_c HS7.out.rd (by omega) 9 (by omega)).mono ?_
      rintro e w8 ⟨v, rfl, ⟨n2, rfl, hn20, hn21, -⟩, hR8, hg8⟩
      have hn22 := hn21 (by omega)
      have hs8 := HS7.out.step hR8 hg8
      have HS9 := Lib.hid (hs8.set 3 (.int .i64 (n2 - 1)) (cs' := #[.int .i64 2, .string nm, .string ⟨#[]⟩, .int .i64 (n2 - 1), .string tx]) rfl)
      have sf3 := hs8.op.free 3
      have r0 := hs8.res.cell 0
      have f0 := hs8.res.free 0
      have c0 := hs8.op.cell 0
      have r1 := hs8.res.cell 1
      have f1 := hs8.res.free 1
      have c1 := hs8.op.cell 1
      have r2' := hs8.res.cell 2
      have f2 := hs8.res.free 2
      have c2 := hs8.op.cell 2
      have r3 := hs8.res.cell 3
      have f3 := hs8.res.free 3
      have c3 := hs8.op.cell 3
      have r4 := hs8.res.cell 4
      have f4 := hs8.res.free 4
      have c4 := hs8.op.cell 4
      have zr := hs8.res.lt
      have zo := hs8.op.lt
      have hne1 : ¬ ob = w.heap.size := by have := hs8.l2; omega
      have hne2 : ¬ w.heap.size = ob := by have := hs8.l2; omega
      simp at r0 r1 r2' r3 r4 c0 c1 c2 c3 c4
      clear hR8 hg8 hs8 hn21
      go_wp2
      have hf := (((((HS9.out.res.set 0 (.int .i64 (2)) (cs' := #[.int .i64 (2), .string ⟨#[]⟩, .string ⟨#[]⟩, .int .i64 0, .string ⟨#[]⟩]) rfl).set 1 (.string nm) (cs' := #[.int .i64 (2), .string nm, .string ⟨#[]⟩, .int .i64 0, .string ⟨#[]⟩]) rfl).set 2 (.string (⟨#[]⟩ : ByteArray)) (cs' := #[.int .i64 (2), .string nm, .string (⟨#[]⟩ : ByteArray), .int .i64 0, .string ⟨#[]⟩]) rfl).set 3 (.int .i64 (n2 - 1)) (cs' := #[.int .i64 (2), .string nm, .string (⟨#[]⟩ : ByteArray), .int .i64 (n2 - 1), .string ⟨#[]⟩]) rfl).set 4 (.string tx) (cs' := #[.int .i64 (2), .string nm, .string ⟨#[]⟩, .int .i64 (n2 - 1), .string tx]) rfl)
      have hgf := grown_new (grown_new (grown_new (grown_new (grown_new HS9.out.g HS9.out.l1 0 (.int .i64 (2))) HS9.out.l1 1 (.string nm)) HS9.out.l1 2 (.string (⟨#[]⟩ : ByteArray))) HS9.out.l1 3 (.int .i64 (n2 - 1))) HS9.out.l1 4 (.string tx)
      have hl4 := HS9.out.l3
      have hrf := (((((HS9.out.rd.set (b := w.heap.size) hl4 0 (.int .i64 (2))).set (b := w.heap.size) hl4 1 (.string nm)).set (b := w.heap.size) hl4 2 (.string (⟨#[]⟩ : ByteArray))).set (b := w.heap.size) hl4 3 (.int .i64 (n2 - 1))).set (b := w.heap.size) hl4 4 (.string tx))
      refine bodyPost_ret (results_cell_row rfl _ _ w.heap.size 74 #[.int .i64 (2), .string nm, .string ⟨#[]⟩, .int .i64 (n2 - 1), .string tx] (0, 0) _ rfl hf Try.underlying74 rfl (by kernel_rfl)) rfl ?_
      exact ⟨_, rfl, ⟨⟨2, nm, (⟨#[]⟩ : ByteArray), n2 - 1, tx⟩, rfl, ⟨by show ByteArray.size nm ≤ _; omega, by show ByteArray.size (⟨#[]⟩ : ByteArray) ≤ _; omega, by show ByteArray.size tx ≤ _; omega⟩, by show (-100 : Int) ≤ n2 - 1; omega, by show (n2 - 1 : Int) ≤ 100; omega, by show (0 : Int) ≤ 2; omega, by show (2 : Int) ≤ 100; omega⟩, hrf.more (by omega), hgf⟩
    · by_cases hqc : q = 2
      · subst hqc
        go_wp2_with fail
        refine (pick_c HS7.out.rd (by omega) 6 (by omega)).mono ?_
        rintro e w8 ⟨v, rfl, ⟨kd2, rfl, hk20, hk21, -⟩, hR8, hg8⟩
        have hk22 := hk21 (by omega)
        have hs8 := HS7.out.step hR8 hg8
        have HS9 := Lib.hid (hs8.set 0 (.int .i64 kd2) (cs' := #[.int .i64 kd2, .string nm, .string ⟨#[]⟩, .int .i64 n0, .string tx]) rfl)
        have sf0 := hs8.op.free 0
        have r0 := hs8.res.cell 0
        have f0 := hs8.res.free 0
        have c0 := hs8.op.cell 0
        have r1 := hs8.res.cell 1
        have f1 := hs8.res.free 1
        have c1 := hs8.op.cell 1
        have r2' := hs8.res.cell 2
        have f2 := hs8.res.free 2
        have c2 := hs8.op.cell 2
        have r3 := hs8.res.cell 3
        have f3 := hs8.res.free 3
        have c3 := hs8.op.cell 3
        have r4 := hs8.res.cell 4
        have f4 := hs8.res.free 4
        have c4 := hs8.op.cell 4
        have zr := hs8.res.lt
        have zo := hs8.op.lt
        have hne1 : ¬ ob = w.heap.size := by have := hs8.l2; omega
        have hne2 : ¬ w.heap.size = ob := by have := hs8.l2; omega
        simp at r0 r1 r2' r3 r4 c0 c1 c2 c3 c4
        clear hR8 hg8 hs8 hk21
        go_wp2
        have hf := (((((HS9.out.res.set 0 (.int .i64 (kd2)) (cs' := #[.int .i64 (kd2), .string ⟨#[]⟩, .string ⟨#[]⟩, .int .i64 0, .string ⟨#[]⟩]) rfl).set 1 (.string nm) (cs' := #[.int .i64 (kd2), .string nm, .string ⟨#[]⟩, .int .i64 0, .string ⟨#[]⟩]) rfl).set 2 (.string (⟨#[]⟩ : ByteArray)) (cs' := #[.int .i64 (kd2), .string nm, .string (⟨#[]⟩ : ByteArray), .int .i64 0, .string ⟨#[]⟩]) rfl).set 3 (.int .i64 (n0)) (cs' := #[.int .i64 (kd2), .string nm, .string (⟨#[]⟩ : ByteArray), .int .i64 (n0), .string ⟨#[]⟩]) rfl).set 4 (.string tx) (cs' := #[.int .i64 (kd2), .string nm, .string ⟨#[]⟩, .int .i64 (n0), .string tx]) rfl)
        have hgf := grown_new (grown_new (grown_new (grown_new (grown_new HS9.out.g HS9.out.l1 0 (.int .i64 (kd2))) HS9.out.l1 1 (.string nm)) HS9.out.l1 2 (.string (⟨#[]⟩ : ByteArray))) HS9.out.l1 3 (.int .i64 (n0))) HS9.out.l1 4 (.string tx)
        have hl4 := HS9.out.l3
        have hrf := (((((HS9.out.rd.set (b := w.heap.size) hl4 0 (.int .i64 (kd2))).set (b := w.heap.size) hl4 1 (.string nm)).set (b := w.heap.size) hl4 2 (.string (⟨#[]⟩ : ByteArray))).set (b := w.heap.size) hl4 3 (.int .i64 (n0))).set (b := w.heap.size) hl4 4 (.string tx))
        refine bodyPost_ret (results_cell_row rfl _ _ w.heap.size 74 #[.int .i64 (kd2), .string nm, .string ⟨#[]⟩, .int .i64 (n0), .string tx] (0, 0) _ rfl hf Try.underlying74 rfl (by kernel_rfl)) rfl ?_
        exact ⟨_, rfl, ⟨⟨kd2, nm, (⟨#[]⟩ : ByteArray), n0, tx⟩, rfl, ⟨by show ByteArray.size nm ≤ _; omega, by show ByteArray.size (⟨#[]⟩ : ByteArray) ≤ _; omega, by show ByteArray.size tx ≤ _; omega⟩, by show (-100 : Int) ≤ n0; omega, by show (n0 : Int) ≤ 100; omega, by show (0 : Int) ≤ kd2; omega, by show (kd2 : Int) ≤ 100; omega⟩, hrf.more (by omega), hgf⟩
      · skip
        have hs8 := HS7.out
        have r0 := hs8.res.cell 0
        have f0 := hs8.res.free 0
        have c0 := hs8.op.cell 0
        have r1 := hs8.res.cell 1
        have f1 := hs8.res.free 1
        have c1 := hs8.op.cell 1
        have r2' := hs8.res.cell 2
        have f2 := hs8.res.free 2
        have c2 := hs8.op.cell 2
        have r3 := hs8.res.cell 3
        have f3 := hs8.res.free 3
        have c3 := hs8.op.cell 3
        have r4 := hs8.res.cell 4
        have f4 := hs8.res.free 4
        have c4 := hs8.op.cell 4
        have zr := hs8.res.lt
        have zo := hs8.op.lt
        have hne1 : ¬ ob = w.heap.size := by have := hs8.l2; omega
        have hne2 : ¬ w.heap.size = ob := by have := hs8.l2; omega
        simp at r0 r1 r2' r3 r4 c0 c1 c2 c3 c4
        clear hs8
        go_wp2
        have hf := (((((HS7.out.res.set 0 (.int .i64 (2)) (cs' := #[.int .i64 (2), .string ⟨#[]⟩, .string ⟨#[]⟩, .int .i64 0, .string ⟨#[]⟩]) rfl).set 1 (.string nm) (cs' := #[.int .i64 (2), .string nm, .string ⟨#[]⟩, .int .i64 0, .string ⟨#[]⟩]) rfl).set 2 (.string (⟨#[]⟩ : ByteArray)) (cs' := #[.int .i64 (2), .string nm, .string (⟨#[]⟩ : ByteArray), .int .i64 0, .string ⟨#[]⟩]) rfl).set 3 (.int .i64 (n0)) (cs' := #[.int .i64 (2), .string nm, .string (⟨#[]⟩ : ByteArray), .int .i64 (n0), .string ⟨#[]⟩]) rfl).set 4 (.string tx) (cs' := #[.int .i64 (2), .string nm, .string ⟨#[]⟩, .int .i64 (n0), .string tx]) rfl)
        have hgf := grown_new (grown_new (grown_new (grown_new (grown_new HS7.out.g HS7.out.l1 0 (.int .i64 (2))) HS7.out.l1 1 (.string nm)) HS7.out.l1 2 (.string (⟨#[]⟩ : ByteArray))) HS7.out.l1 3 (.int .i64 (n0))) HS7.out.l1 4 (.string tx)
        have hl4 := HS7.out.l3
        have hrf := (((((HS7.out.rd.set (b := w.heap.size) hl4 0 (.int .i64 (2))).set (b := w.heap.size) hl4 1 (.string nm)).set (b := w.heap.size) hl4 2 (.string (⟨#[]⟩ : ByteArray))).set (b := w.heap.size) hl4 3 (.int .i64 (n0))).set (b := w.heap.size) hl4 4 (.string tx))
        refine bodyPost_ret (results_cell_row rfl _ _ w.heap.size 74 #[.int .i64 (2), .string nm, .string ⟨#[]⟩, .int .i64 (n0), .string tx] (0, 0) _ rfl hf Try.underlying74 rfl (by kernel_rfl)) rfl ?_
        exact ⟨_, rfl, ⟨⟨2, nm, (⟨#[]⟩ : ByteArray), n0, tx⟩, rfl, ⟨by show ByteArray.size nm ≤ _; omega, by show ByteArray.size (⟨#[]⟩ : ByteArray) ≤ _; omega, by show ByteArray.size tx ≤ _; omega⟩, by show (-100 : Int) ≤ n0; omega, by show (n0 : Int) ≤ 100; omega, by show (0 : Int) ≤ 2; omega, by show (2 : Int) ≤ 100; omega⟩, hrf.more (by omega), hgf⟩
end Go.Proofs.Ytpobgjkmjlmafaa
/- l11Add of the reference: a volume put where its name stands. -/


namespace Go.Proofs.Ytpobgjkmjlmafaa
open Go.RowKit Go.Proofs.YtpobgjkmjlmafaaW.PrintWords Go.Proofs.YtpobgjkmjlmafaaW.PrintLast
set_option linter.unusedVariables false
set_option linter.unusedSimpArgs false

theorem bool_eq {a b : Bool} (h : a = b) : Value.bool a = .bool b := by rw [h]
theorem nm_gtr {a b : ByteArray} (ha : isNm a = true) (hb : isNm b = true) : (!Op.bytesLess a.toList b.toList && !a.toList == b.toList) = Op.bytesLess b.toList a.toList := by
  rw [nm_lt ha hb, nm_lt hb ha, Bool.eq_iff_iff]
  have h1 : (a.toList == b.toList) = true ↔ nmN a = nmN b := textB.trans (nm_eq ha hb)
  cases h2 : (a.toList == b.toList)
  · have : ¬ nmN a = nmN b := fun h => by rw [h1.2 h] at h2; cases h2
    simp; omega
  · have := h1.1 h2
    simp; omega
/-- What has been laid after k rounds. -/
def addP {α : Type} (pos : Nat) (z : α) (Z : List α) (k : Nat) : List α := if k ≤ pos then Z.take k else insAt pos z (Z.take k)
theorem addP_zero {α : Type} (pos : Nat) (z : α) (Z : List α) : addP pos z Z 0 = [] := by unfold addP; simp
theorem addP_low {α : Type} {pos k : Nat} {z y : α} {Z : List α} (hy : Z[k]? = some y) (h : k < pos) : addP pos z Z (k + 1) = addP pos z Z k ++ [y] := by
  unfold addP
  rw [if_pos (by omega), if_pos (by omega), take_snoc hy]
theorem insAt_snoc {α : Type} {pos : Nat} {z y : α} {xs : List α} (h : pos ≤ xs.length) : insAt pos z (xs ++ [y]) = insAt pos z xs ++ [y] := by
  unfold insAt
  rw [List.take_append_of_le_length h, List.drop_append_of_le_length h, List.append_assoc]; rfl
theorem addP_at {α : Type} {k : Nat} {z y : α} {Z : List α} (hy : Z[k]? = some y) : addP k z Z (k + 1) = (addP k z Z k ++ [z]) ++ [y] := by
  have hl := ltQ hy
  have ht : (Z.take k).length = k := by rw [List.length_take]; omega
  unfold addP
  rw [if_neg (by omega), if_pos (Nat.le_refl _), take_snoc hy, insAt_snoc (by omega)]
  congr 1
  have := insAt_end z (Z.take k)
  rw [ht] at this
  exact this
theorem addP_high {α : Type} {pos k : Nat} {z y : α} {Z : List α} (hy : Z[k]? = some y) (h : pos < k) : addP pos z Z (k + 1) = addP pos z Z k ++ [y] := by
  have hl := ltQ hy
  have ht : (Z.take k).length = k := by rw [List.length_take]; omega
  unfold addP
  rw [if_neg (by omega), if_neg (by omega), take_snoc hy, insAt_snoc (by omega)]
theorem addP_len {α : Type} (pos : Nat) (z : α) (Z : List α) (k : Nat) : (addP pos z Z k).length ≤ Z.length + 1 := by
  unfold addP insAt
  split
  · rw [List.length_take]; omega
  · rw [List.length_append, List.length_cons, List.length_take, List.length_drop, List.length_take]; omega
theorem addP_all {α : Type} {pos : Nat} {z : α} {Z : List α} (h : pos < Z.length) : addP pos z Z Z.length = insAt pos z Z := by
  unfold addP; rw [if_neg (by omega), List.take_length]
theorem addP_end {α : Type} {z : α} {Z : List α} : addP Z.length z Z Z.length ++ [z] = insAt Z.length z Z := by
  unfold addP; rw [if_pos (Nat.le_refl _), List.take_length, insAt_end]
theorem flat_one {α β : Type} (enc : α → List β) (xs : List α) (y : α) : (xs ++ [y]).flatMap enc = xs.flatMap enc ++ enc y := by simp
theorem posOf_name {t : ByteArray} {vs : List Vol} {k : Nat} {y : Vol} (hy : vs[k]? = some y) (h : k ≤ posOf t vs) : (k < posOf t vs → Op.bytesLess t.toList y.name.toList = false) ∧ (k = posOf t vs → Op.bytesLess t.toList y.name.toList = true) :=
  ⟨fun h => posOf_lt h hy, fun e => posOf_at (e ▸ hy)⟩
theorem OwnV.added {W : World} {base lo pos : Nat} {v v' : Value} {vs : List Vol} {bvs : List Value} {x : Vol} {b : Value} (h : OwnV W base v vs bvs) (hb : OwnI W base b x.blocks) (hi : pos ≤ vs.length)
    (hap : ∀ (m : Nat) (b' : Value) (k : Nat), bvs[m]? = some b' → b'.ownBlock = some k → b.ownBlock ≠ some k)
    (hr : W.ownsRow lo 43 2 v' (vs.length + 1) ((insAt pos (x, b) (vs.zip bvs)).flatMap encV)) (hlo : base ≤ lo) : OwnV W base v' (insAt pos x vs) (insAt pos b bvs) := by
  refine h.ins hb hi hap (grown_refl _ _) ⟨by rw [insAt_len (by rw [h.row.len]; exact hi), insAt_len hi, h.row.len], ?_⟩
  rw [insAt_len hi, zip_insAt _ _ _ _ _ h.row.len hi]
  exact own_lower hr hlo
/-- What l11Add leaves. -/
def Added (base : Nat) (v0 : Value) (p : Pool) (x : Vol) (b : Value) (bvs : List Value) (w : World) (e : Ending) (w' : World) : Prop :=
  ∃ v1, e = .returned (.agg #[v0, v1]) ∧ OwnP w' base v0 v1 ⟨p.slots, insAt (posOf x.name p.vols) x p.vols⟩ (insAt (posOf x.name p.vols) b bvs) ∧ Bel w w'
set_option maxHeartbeats 8000000 in
set_option maxRecDepth 10000 in
theorem l11Add_c {w : World} {base : Nat} {v0 v1 : Value} {bvs : List Value} {p : Pool} {x : Vol} {b : Value} (h : OwnP w base v0 v1 p bvs) (hx : OwnI w base b x.blocks) (hs : SmallP p) (hbase : base ≤ w.heap.size)
    (hap : ∀ (m : Nat) (b' : Value) (k : Nat), bvs[m]? = some b' → b'.ownBlock = some k → b.ownBlock ≠ some k) (hnm : isNm x.name = true) (hnms : ∀ (m : Nat) (y : Vol), p.vols[m]? = some y → isNm y.name = true) :
    Calls Try.prog 141 #[.agg #[v0, v1], .agg #[.string x.name, b]] w (Added base v0 p x b bvs w) := by
  obtain ⟨A0, A1, c0, c1, rfl, rfl, hpi⟩ := h.reads
  obtain ⟨Ab, cb, rfl, hcb, hCb⟩ := hx.reads
  have HP := Lib.hid h
  have HX := Lib.hid hx
  have HI := Lib.hid hpi
  have HAP := Lib.hid hap
  have hlv := hs.vols.len
  have hpl := posOf_le x.name p.vols
  have HBL := Lib.hid (show bvs.length = p.vols.length from h.v.row.len)
  have HNX := Lib.hid hnm
  have HNM := Lib.hid hnms
  clear h hx hpi hap hCb hs hnm hnms
  go_enter Try.func141, Try.ntmps141
  go_wp2
  have hB : Blk (((w.alloc (.cells #[.slice A0 p.slots.length c0, .slice A1 p.vols.length c1] 30)).alloc (.cells #[.string x.name, .slice Ab x.blocks.length cb] 43)).alloc (.cells #[.slice none 0 0, .slice none 0 0] 30)) w.heap.size #[.slice A0 p.slots.length c0, .slice A1 p.vols.length c1] 30 := ((Blk.new _ _ _).alloc _).alloc _
  have hV : Blk (((w.alloc (.cells #[.slice A0 p.slots.length c0, .slice A1 p.vols.length c1] 30)).alloc (.cells #[.string x.name, .slice Ab x.blocks.length cb] 43)).alloc (.cells #[.slice none 0 0, .slice none 0 0] 30)) (w.heap.size + 1) #[.string x.name, .slice Ab x.blocks.length cb] 43 := (Blk.nw2 _ _ _ _).alloc _
  have hR : Blk (((w.alloc (.cells #[.slice A0 p.slots.length c0, .slice A1 p.vols.length c1] 30)).alloc (.cells #[.string x.name, .slice Ab x.blocks.length cb] 43)).alloc (.cells #[.slice none 0 0, .slice none 0 0] 30)) (w.heap.size + 1 + 1) #[.slice none 0 0, .slice none 0 0] 30 := Blk.nw3 _ _ _ _ _
  have hW : Bel w (((w.alloc (.cells #[.slice A0 p.slots.length c0, .slice A1 p.vols.length c1] 30)).alloc (.cells #[.string x.name, .slice Ab x.blocks.length cb] 43)).alloc (.cells #[.slice none 0 0, .slice none 0 0] 30)) := bel_alloc (bel_alloc (bel_alloc (Below.refl _ _) _) _) _
  have hz : w.heap.size + 1 + 1 + 1 = (((w.alloc (.cells #[.slice A0 p.slots.length c0, .slice A1 p.vols.length c1] 30)).alloc (.cells #[.string x.name, .slice Ab x.blocks.length cb] 43)).alloc (.cells #[.slice none 0 0, .slice none 0 0] 30)).heap.size := by simp
  generalize (((w.alloc (.cells #[.slice A0 p.slots.length c0, .slice A1 p.vols.length c1] 30)).alloc (.cells #[.string x.name, .slice Ab x.blocks.length cb] 43)).alloc (.cells #[.slice none 0 0, .slice none 0 0] 30)) = W0 at hB hV hR hW hz ⊢
  rw [show w.heap.size + 1 + 1 + 1 = W0.heap.size from hz]
  have HB := Lib.hid hB
  have HV := Lib.hid hV
  have HR := Lib.hid hR
  have HW := Lib.hid hW
  have HZ := Lib.hid hz
  have HE := Lib.hid (own_empty W0 W0.heap.size 43 2 (Nat.le_refl _))
  clear hB hV hR hW hz
  obtain ⟨pos, hpos⟩ : ∃ pos, posOf x.name p.vols = pos := ⟨_, rfl⟩
  rw [hpos] at hpl
  have HPOS := Lib.hid hpos
  clear hpos
  have HZL := Lib.hid (show (p.vols.zip bvs).length = p.vols.length by rw [List.length_zip, HBL.out, Nat.min_self])
  go_loopg [5, 6, 7] p.vols.length (fun g v5 v6 v7 W => ∃ (k : Nat) (L : List (Vol × Value)), g + k = p.vols.length ∧ v7 = .int .i64 k ∧ v6 = .bool (decide (pos < k)) ∧ Hid (L = addP pos (x, Value.slice Ab x.blocks.length cb) (p.vols.zip bvs) k) ∧ Hid (W.ownsRow W0.heap.size 43 2 v5 L.length (L.flatMap encV)) ∧ Bel W0 W)
  case atStart => exact ⟨0, [], rfl, rfl, bool_eq (by simp), (addP_zero _ _ _).symm, HE.out, bel_alloc (Below.refl _ _) _⟩
  case round =>
    obtain ⟨k, L, hk, rfl, rfl, hL, hrow, hb⟩ := hrel
    obtain ⟨A5, c5, rfl, hc5⟩ := own_cap hrow.out
    have HBW := Lib.hid hb
    clear hb
    have hLl : L.length ≤ 1048577 := by have := addP_len pos (x, Value.slice Ab x.blocks.length cb) (p.vols.zip bvs) k; rw [← hL.out, HZL.out] at this; omega
    by_cases hlt : k < p.vols.length
    · obtain ⟨y, hy⟩ := getQ hlt
      obtain ⟨g, cap, by_, hby, ev, hg1, hg2, hcap, hc, hc', hf, hf'⟩ := (((HP.out.bel HW.out).bel HBW.out).v.row).at hy
      have ev := slice_eq ev
      obtain ⟨rfl, -, rfl⟩ := ev
      obtain ⟨A2, c2, rfl, hc2, hC2⟩ := ((((HP.out.bel HW.out).bel HBW.out).v).inner k y by_ hy hby).reads
      have HZK := Lib.hid (zip_get hy hby)
      have HY := Lib.hid (And.intro hy hby)
      have HF := Lib.hid (show ∀ W : World, Bel W0 W → (W.cell? ⟨w.heap.size, 0, none⟩ = some (.slice A0 p.slots.length c0) ∧ W.cell? ⟨w.heap.size, 1, none⟩ = some (.slice (some ⟨g, 0, none⟩) p.vols.length c1)) ∧ (W.cell? ⟨g, k * 2, none⟩ = some (.string y.name) ∧ W.cell? ⟨g, k * 2 + 1, none⟩ = some (.slice A2 y.blocks.length c2)) ∧ (W.cell? ⟨w.heap.size + 1, 0, none⟩ = some (.string x.name) ∧ W.cell? ⟨w.heap.size + 1, 1, none⟩ = some (.slice Ab x.blocks.length cb)) ∧ w.heap.size + 1 < W.heap.size ∧ w.heap.size < W.heap.size ∧ g < W.heap.size from fun W hb => by
        have hB := HB.out.bel hb
        have hV := HV.out.bel hb
        obtain ⟨g', cap', by', e1, e2, _, h5, _, h1, h2, _⟩ := (((HP.out.bel HW.out).bel hb).v.row).at hy
        have e2 := slice_eq e2
        obtain ⟨e2, -, -⟩ := e2
        obtain rfl : g = g' := by simpa using e2
        obtain rfl := Option.some.inj (hby.symm.trans e1)
        exact ⟨⟨hB.cell 0, hB.cell 1⟩, ⟨h1, h2⟩, ⟨hV.cell 0, hV.cell 1⟩, hV.lt, hB.lt, h5⟩)
      clear hC2 hf hf' hc hc' hy hby
      obtain ⟨⟨p0, p1⟩, ⟨p2, p3⟩, ⟨p4, p5⟩, p6, p7, p8⟩ := HF.out _ HBW.out
      rcases Nat.lt_trichotomy k pos with hkp | hkp | hkp
      · -- in front of the place
        have hcmp : (!Op.bytesLess y.name.toList x.name.toList && !y.name.toList == x.name.toList) = false := by rw [nm_gtr (HNM.out k y HY.out.1) HNX.out]; exact (posOf_name HY.out.1 (by rw [HPOS.out]; omega)).1 (by rw [HPOS.out]; exact hkp)
        have hdec : decide (pos < k) = false := by simp; omega
        have hdec2 := Lib.hid (show decide (pos < k + 1) = false by simp; omega)
        have HLN := Lib.hid (show addP pos (x, Value.slice Ab x.blocks.length cb) (p.vols.zip bvs) (k + 1) = L ++ [(y, .slice A2 y.blocks.length c2)] by rw [hL.out]; exact addP_low HZK.out hkp)
        rw [hdec]
        clear hdec
        go_wp2
        refine start_ (n := 13) (S := fun w' => w'.cell? ⟨w.heap.size, 1, none⟩ = some (.slice (some ⟨g, 0, none⟩) p.vols.length c1) ∧ w'.cell? ⟨g, k * 2, none⟩ = some (.string y.name) ∧ w'.cell? ⟨w.heap.size + 1, 0, none⟩ = some (.string x.name)) (ds := []) #[false, false, false, false, false, false, false, false, false, false, false, false, false] (by kernel_rfl) rfl rfl ⟨p1, p2, p4⟩ (fun hHeld => ?_)
        refine pure_ (i := 0) (N := some 16) (v := ?_) (a' := ?_) #[true, false, false, false, false, false, false, false, false, false, false, false, false] rfl rfl (by kernel_rfl) (fun _ _ _ h => h) (Or.inl ⟨by rfl, ?_⟩) ?_ ?_
        rotate_left
        · intro w'
          go_simp
          with_reducible rfl
        rotate_left
        · simp only [Act.put, List.setIfInBounds_toArray, List.set_cons_zero, List.set_cons_succ, i64_w, i32_w]
          rfl
        refine pure_ (i := 1) (N := some 17) (v := ?_) (a' := ?_) #[true, true, false, false, false, false, false, false, false, false, false, false, false] rfl rfl (by kernel_rfl) (fun _ _ _ h => h) (Or.inl ⟨by rfl, ?_⟩) ?_ ?_
        rotate_left
        · intro w'
          go_simp
          with_reducible rfl
        rotate_left
        · simp only [Act.put, List.setIfInBounds_toArray, List.set_cons_zero, List.set_cons_succ, i64_w, i32_w]
          rfl
        refine pure_ (i := 2) (N := some 18) (v := ?_) (a' := ?_) #[true, true, true, false, false, false, false, false, false, false, false, false, false] rfl rfl (by kernel_rfl) (fun _ _ _ h => h) (Or.inl ⟨by rfl, ?_⟩) ?_ ?_
        rotate_left
        · intro w'
          go_simp
          with_reducible rfl
        rotate_left
        · simp only [Act.put, List.setIfInBounds_toArray, List.set_cons_zero, List.set_cons_succ, i64_w, i32_w]
          rfl
        refine pure_ (i := 3) (N := some 19) (v := ?_) (a' := ?_) #[true, true, true, true, false, false, false, false, false, false, false, false, false] rfl rfl (by kernel_rfl) (fun _ _ _ h => h) (Or.inl ⟨by rfl, ?_⟩) ?_ ?_
        rotate_left
        · intro w'
          go_simp
          with_reducible rfl
        rotate_left
        · simp only [Act.put, List.setIfInBounds_toArray, List.set_cons_zero, List.set_cons_succ, i64_w, i32_w]
          rfl
        refine pure_ (i := 5) (N := some 21) (v := ?_) (a' := ?_) #[true, true, true, true, false, true, false, false, false, false, false, false, false] rfl rfl (by kernel_rfl) (fun _ _ _ h => h) (Or.inl ⟨by rfl, ?_⟩) ?_ ?_
        rotate_left
        · intro w'
          go_simp
          with_reducible rfl
        rotate_left
        · simp only [Act.put, List.setIfInBounds_toArray, List.set_cons_zero, List.set_cons_succ, i64_w, i32_w]
          rfl
        refine pure_ (i := 9) (N := some 25) (v := ?_) (a' := ?_) #[true, true, true, true, false, true, false, false, false, true, false, false, false] rfl rfl (by kernel_rfl) (fun _ _ _ h => h) (Or.inl ⟨by rfl, ?_⟩) ?_ ?_
        rotate_left
        · intro w'
          go_simp
          with_reducible rfl
        rotate_left
        · simp only [Act.put, List.setIfInBounds_toArray, List.set_cons_zero, List.set_cons_succ, i64_w, i32_w]
          rfl
        refine take_ (i := 4) (N := some 20) (v := ?_) (a' := ?_) #[true, true, true, true, true, true, false, false, false, true, false, false, false] rfl rfl (by kernel_rfl) (fun _ _ _ h => h) (Or.inl ⟨by rfl, ?_⟩) hHeld ?_ ?_
        rotate_left
        · rintro w' ⟨s0, s1, s2⟩
          go_simp
          with_reducible rfl
        rotate_left
        · simp only [Act.put, List.setIfInBounds_toArray, List.set_cons_zero, List.set_cons_succ, i64_w, i32_w]
          rfl
        refine pure_ (i := 6) (N := some 22) (v := ?_) (a' := ?_) #[true, true, true, true, true, true, true, false, false, true, false, false, false] rfl rfl (by kernel_rfl) (fun _ _ _ h => h) (Or.inl ⟨by rfl, ?_⟩) ?_ ?_
        rotate_left
        · intro w'
          go_simp
          with_reducible rfl
        rotate_left
        · simp only [Act.put, List.setIfInBounds_toArray, List.set_cons_zero, List.set_cons_succ, i64_w, i32_w]
          rfl
        refine pure_ (i := 7) (N := some 23) (v := ?_) (a' := ?_) #[true, true, true, true, true, true, true, true, false, true, false, false, false] rfl rfl (by kernel_rfl) (fun _ _ _ h => h) (Or.inl ⟨by rfl, ?_⟩) ?_ ?_
        rotate_left
        · intro w'
          go_simp
          with_reducible rfl
        rotate_left
        · simp only [Act.put, List.setIfInBounds_toArray, List.set_cons_zero, List.set_cons_succ, i64_w, i32_w]
          rfl
        refine take_ (i := 8) (N := some 24) (v := ?_) (a' := ?_) #[true, true, true, true, true, true, true, true, true, true, false, false, false] rfl rfl (by kernel_rfl) (fun _ _ _ h => h) (Or.inl ⟨by rfl, ?_⟩) hHeld ?_ ?_
        rotate_left
        · rintro w' ⟨s0, s1, s2⟩
          go_simp
          with_reducible rfl
        rotate_left
        · simp only [Act.put, List.setIfInBounds_toArray, List.set_cons_zero, List.set_cons_succ, i64_w, i32_w]
          rfl
        refine take_ (i := 10) (N := some 26) (v := ?_) (a' := ?_) #[true, true, true, true, true, true, true, true, true, true, true, false, false] rfl rfl (by kernel_rfl) (fun _ _ _ h => h) (Or.inl ⟨by rfl, ?_⟩) hHeld ?_ ?_
        rotate_left
        · rintro w' ⟨s0, s1, s2⟩
          go_simp
          with_reducible rfl
        rotate_left
        · simp only [Act.put, List.setIfInBounds_toArray, List.set_cons_zero, List.set_cons_succ, i64_w, i32_w]
          rfl
        refine pure_ (i := 11) (N := some 27) (v := ?_) (a' := ?_) #[true, true, true, true, true, true, true, true, true, true, true, true, false] rfl rfl (by kernel_rfl) (fun _ _ _ h => h) (Or.inl ⟨by rfl, ?_⟩) ?_ ?_
        rotate_left
        · intro w'
          go_simp
          with_reducible rfl
        rotate_left
        · simp only [Act.put, List.setIfInBounds_toArray, List.set_cons_zero, List.set_cons_succ, i64_w, i32_w]
          rfl
        refine pure_ (i := 12) (N := some 28) (v := ?_) (a' := ?_) #[true, true, true, true, true, true, true, true, true, true, true, true, true] rfl rfl (by kernel_rfl) (fun _ _ _ h => h) (Or.inl ⟨by rfl, ?_⟩) ?_ ?_
        rotate_left
        · intro w'
          go_simp
          with_reducible rfl
        rotate_left
        · simp only [Act.put, List.setIfInBounds_toArray, List.set_cons_zero, List.set_cons_succ, i64_w, i32_w]
          rfl
        refine done_ (by kernel_rfl) ?_
        clear hHeld p0 p1 p2 p3 p4 p5 p6 p7 p8
        have hrow2 : wr.drew.ownsRow W0.heap.size 43 2 (.slice A5 L.length c5) L.length (L.flatMap encV) := hrow.out
        have hb2 : Bel W0 wr.drew := HBW.out.drew
        clear hrow HBW
        generalize wr.drew = W2 at hrow2 hb2 ⊢
        have HR2 := Lib.hid hrow2
        have HB2 := Lib.hid hb2
        obtain ⟨⟨p0, p1⟩, ⟨p2, p3⟩, ⟨p4, p5⟩, p6, p7, p8⟩ := HF.out _ hb2
        clear hrow2 hb2
        go_wp2_with (at_builtin; refine print_append_cells (w0 := W0) W0.heap.size rfl (.tmp 33) (.tmp 39) 28 43 (.agg #[.string ⟨#[]⟩, .slice none 0 0]) 2 40 rfl Try.underlying28 info_vol rfl (by decide) (by decide) _ L.length (L.flatMap encV) (encV (y, .slice A2 y.blocks.length c2)) rfl rfl rfl (by intro u hu; simp [encV] at hu; rcases hu with rfl | rfl <;> rfl) HR2.out HB2.out HB2.out.size (by omega) ?_; intro v2 w5 hr2 hbq hg2 hat2)
        go_roundg (p.vols.length - (k + 1))
        case measure => omega
        case rel => exact ⟨k + 1, L ++ [(y, Value.slice A2 y.blocks.length c2)], by omega, int_eq (by omega), bool_eq hdec2.out.symm, HLN.out.symm, by rw [Hid, List.length_append, flat_one]; exact hr2, hbq⟩
      · -- at the place
        have hcmp : (!Op.bytesLess y.name.toList x.name.toList && !y.name.toList == x.name.toList) = true := by rw [nm_gtr (HNM.out k y HY.out.1) HNX.out]; exact (posOf_name HY.out.1 (by rw [HPOS.out]; omega)).2 (by rw [HPOS.out]; exact hkp)
        have hdec : decide (pos < k) = false := by simp; omega
        have hdec2 := Lib.hid (show decide (pos < k + 1) = true by simp; omega)
        have HLN := Lib.hid (show addP pos (x, Value.slice Ab x.blocks.length cb) (p.vols.zip bvs) (k + 1) = (L ++ [(x, .slice Ab x.blocks.length cb)]) ++ [(y, .slice A2 y.blocks.length c2)] by rw [hL.out, ← hkp]; exact addP_at HZK.out)
        clear hkp
        rw [hdec]
        clear hdec
        go_wp2
        refine start_ (n := 13) (S := fun w' => w'.cell? ⟨w.heap.size, 1, none⟩ = some (.slice (some ⟨g, 0, none⟩) p.vols.length c1) ∧ w'.cell? ⟨g, k * 2, none⟩ = some (.string y.name) ∧ w'.cell? ⟨w.heap.size + 1, 0, none⟩ = some (.string x.name)) (ds := []) #[false, false, false, false, false, false, false, false, false, false, false, false, false] (by kernel_rfl) rfl rfl ⟨p1, p2, p4⟩ (fun hHeld => ?_)
        refine pure_ (i := 0) (N := some 16) (v := ?_) (a' := ?_) #[true, false, false, false, false, false, false, false, false, false, false, false, false] rfl rfl (by kernel_rfl) (fun _ _ _ h => h) (Or.inl ⟨by rfl, ?_⟩) ?_ ?_
        rotate_left
        · intro w'
          go_simp
          with_reducible rfl
        rotate_left
        · simp only [Act.put, List.setIfInBounds_toArray, List.set_cons_zero, List.set_cons_succ, i64_w, i32_w]
          rfl
        refine pure_ (i := 1) (N := some 17) (v := ?_) (a' := ?_) #[true, true, false, false, false, false, false, false, false, false, false, false, false] rfl rfl (by kernel_rfl) (fun _ _ _ h => h) (Or.inl ⟨by rfl, ?_⟩) ?_ ?_
        rotate_left
        · intro w'
          go_simp
          with_reducible rfl
        rotate_left
        · simp only [Act.put, List.setIfInBounds_toArray, List.set_cons_zero, List.set_cons_succ, i64_w, i32_w]
          rfl
        refine pure_ (i := 2) (N := some 18) (v := ?_) (a' := ?_) #[true, true, true, false, false, false, false, false, false, false, false, false, false] rfl rfl (by kernel_rfl) (fun _ _ _ h => h) (Or.inl ⟨by rfl, ?_⟩) ?_ ?_
        rotate_left
        · intro w'
          go_simp
          with_reducible rfl
        rotate_left
        · simp only [Act.put, List.setIfInBounds_toArray, List.set_cons_zero, List.set_cons_succ, i64_w, i32_w]
          rfl
        refine pure_ (i := 3) (N := some 19) (v := ?_) (a' := ?_) #[true, true, true, true, false, false, false, false, false, false, false, false, false] rfl rfl (by kernel_rfl) (fun _ _ _ h => h) (Or.inl ⟨by rfl, ?_⟩) ?_ ?_
        rotate_left
        · intro w'
          go_simp
          with_reducible rfl
        rotate_left
        · simp only [Act.put, List.setIfInBounds_toArray, List.set_cons_zero, List.set_cons_succ, i64_w, i32_w]
          rfl
        refine pure_ (i := 5) (N := some 21) (v := ?_) (a' := ?_) #[true, true, true, true, false, true, false, false, false, false, false, false, false] rfl rfl (by kernel_rfl) (fun _ _ _ h => h) (Or.inl ⟨by rfl, ?_⟩) ?_ ?_
        rotate_left
        · intro w'
          go_simp
          with_reducible rfl
        rotate_left
        · simp only [Act.put, List.setIfInBounds_toArray, List.set_cons_zero, List.set_cons_succ, i64_w, i32_w]
          rfl
        refine pure_ (i := 9) (N := some 25) (v := ?_) (a' := ?_) #[true, true, true, true, false, true, false, false, false, true, false, false, false] rfl rfl (by kernel_rfl) (fun _ _ _ h => h) (Or.inl ⟨by rfl, ?_⟩) ?_ ?_
        rotate_left
        · intro w'
          go_simp
          with_reducible rfl
        rotate_left
        · simp only [Act.put, List.setIfInBounds_toArray, List.set_cons_zero, List.set_cons_succ, i64_w, i32_w]
          rfl
        refine take_ (i := 4) (N := some 20) (v := ?_) (a' := ?_) #[true, true, true, true, true, true, false, false, false, true, false, false, false] rfl rfl (by kernel_rfl) (fun _ _ _ h => h) (Or.inl ⟨by rfl, ?_⟩) hHeld ?_ ?_
        rotate_left
        · rintro w' ⟨s0, s1, s2⟩
          go_simp
          with_reducible rfl
        rotate_left
        · simp only [Act.put, List.setIfInBounds_toArray, List.set_cons_zero, List.set_cons_succ, i64_w, i32_w]
          rfl
        refine pure_ (i := 6) (N := some 22) (v := ?_) (a' := ?_) #[true, true, true, true, true, true, true, false, false, true, false, false, false] rfl rfl (by kernel_rfl) (fun _ _ _ h => h) (Or.inl ⟨by rfl, ?_⟩) ?_ ?_
        rotate_left
        · intro w'
          go_simp
          with_reducible rfl
        rotate_left
        · simp only [Act.put, List.setIfInBounds_toArray, List.set_cons_zero, List.set_cons_succ, i64_w, i32_w]
          rfl
        refine pure_ (i := 7) (N := some 23) (v := ?_) (a' := ?_) #[true, true, true, true, true, true, true, true, false, true, false, false, false] rfl rfl (by kernel_rfl) (fun _ _ _ h => h) (Or.inl ⟨by rfl, ?_⟩) ?_ ?_
        rotate_left
        · intro w'
          go_simp
          with_reducible rfl
        rotate_left
        · simp only [Act.put, List.setIfInBounds_toArray, List.set_cons_zero, List.set_cons_succ, i64_w, i32_w]
          rfl
        refine take_ (i := 8) (N := some 24) (v := ?_) (a' := ?_) #[true, true, true, true, true, true, true, true, true, true, false, false, false] rfl rfl (by kernel_rfl) (fun _ _ _ h => h) (Or.inl ⟨by rfl, ?_⟩) hHeld ?_ ?_
        rotate_left
        · rintro w' ⟨s0, s1, s2⟩
          go_simp
          with_reducible rfl
        rotate_left
        · simp only [Act.put, List.setIfInBounds_toArray, List.set_cons_zero, List.set_cons_succ, i64_w, i32_w]
          rfl
        refine take_ (i := 10) (N := some 26) (v := ?_) (a' := ?_) #[true, true, true, true, true, true, true, true, true, true, true, false, false] rfl rfl (by kernel_rfl) (fun _ _ _ h => h) (Or.inl ⟨by rfl, ?_⟩) hHeld ?_ ?_
        rotate_left
        · rintro w' ⟨s0, s1, s2⟩
          go_simp
          with_reducible rfl
        rotate_left
        · simp only [Act.put, List.setIfInBounds_toArray, List.set_cons_zero, List.set_cons_succ, i64_w, i32_w]
          rfl
        refine pure_ (i := 11) (N := some 27) (v := ?_) (a' := ?_) #[true, true, true, true, true, true, true, true, true, true, true, true, false] rfl rfl (by kernel_rfl) (fun _ _ _ h => h) (Or.inl ⟨by rfl, ?_⟩) ?_ ?_
        rotate_left
        · intro w'
          go_simp
          with_reducible rfl
        rotate_left
        · simp only [Act.put, List.setIfInBounds_toArray, List.set_cons_zero, List.set_cons_succ, i64_w, i32_w]
          rfl
        refine pure_ (i := 12) (N := some 28) (v := ?_) (a' := ?_) #[true, true, true, true, true, true, true, true, true, true, true, true, true] rfl rfl (by kernel_rfl) (fun _ _ _ h => h) (Or.inl ⟨by rfl, ?_⟩) ?_ ?_
        rotate_left
        · intro w'
          go_simp
          with_reducible rfl
        rotate_left
        · simp only [Act.put, List.setIfInBounds_toArray, List.set_cons_zero, List.set_cons_succ, i64_w, i32_w]
          rfl
        refine done_ (by kernel_rfl) ?_
        clear hHeld p0 p1 p2 p3 p4 p5 p6 p7 p8
        have hrow2 : wr.drew.ownsRow W0.heap.size 43 2 (.slice A5 L.length c5) L.length (L.flatMap encV) := hrow.out
        have hb2 : Bel W0 wr.drew := HBW.out.drew
        clear hrow HBW
        generalize wr.drew = W2 at hrow2 hb2 ⊢
        have HR2 := Lib.hid hrow2
        have HB2 := Lib.hid hb2
        obtain ⟨⟨p0, p1⟩, ⟨p2, p3⟩, ⟨p4, p5⟩, p6, p7, p8⟩ := HF.out _ hb2
        clear hrow2 hb2
        go_wp2_with (first
          | (at_builtin; refine print_append_cells (w0 := W0) W0.heap.size rfl (.tmp 29) (.tmp 31) 28 43 (.agg #[.string ⟨#[]⟩, .slice none 0 0]) 2 40 rfl Try.underlying28 info_vol rfl (by decide) (by decide) _ L.length (L.flatMap encV) (encV (x, .slice Ab x.blocks.length cb)) rfl rfl rfl (by intro u hu; simp [encV] at hu; rcases hu with rfl | rfl <;> rfl) HR2.out HB2.out HB2.out.size (by omega) ?_; intro v2 w5 hr2 hbq hg2 hat2; obtain ⟨A6, c6, rfl, hc6⟩ := own_cap hr2; clear hat2 hg2 p0 p1 p2 p3 p4 p5 p6 p7 p8; have HR5 := Lib.hid hr2; have HB5 := Lib.hid hbq; obtain ⟨⟨p0, p1⟩, ⟨p2, p3⟩, ⟨p4, p5⟩, p6, p7, p8⟩ := HF.out _ hbq; clear hr2 hbq)
          | (at_builtin; refine print_append_cells (w0 := W0) W0.heap.size rfl (.tmp 33) (.tmp 39) 28 43 (.agg #[.string ⟨#[]⟩, .slice none 0 0]) 2 40 rfl Try.underlying28 info_vol rfl (by decide) (by decide) _ (L.length + 1) (L.flatMap encV ++ encV (x, .slice Ab x.blocks.length cb)) (encV (y, .slice A2 y.blocks.length c2)) rfl rfl rfl (by intro u hu; simp [encV] at hu; rcases hu with rfl | rfl <;> rfl) HR5.out HB5.out HB5.out.size (by omega) ?_; intro v3 w6 hr3 hbq hg2 hat2))
        go_roundg (p.vols.length - (k + 1))
        case measure => omega
        case rel => exact ⟨k + 1, (L ++ [(x, Value.slice Ab x.blocks.length cb)]) ++ [(y, Value.slice A2 y.blocks.length c2)], by omega, int_eq (by omega), bool_eq hdec2.out.symm, HLN.out.symm, by rw [Hid, List.length_append, List.length_append, flat_one, flat_one]; exact hr3, hbq⟩
      · -- behind it
        have hdec : decide (pos < k) = true := by simp; omega
        have hdec2 := Lib.hid (show decide (pos < k + 1) = true by simp; omega)
        have HLN := Lib.hid (show addP pos (x, Value.slice Ab x.blocks.length cb) (p.vols.zip bvs) (k + 1) = L ++ [(y, .slice A2 y.blocks.length c2)] by rw [hL.out]; exact addP_high HZK.out hkp)
        rw [hdec]
        clear hdec
        go_wp2
        refine start_ (n := 13) (S := fun w' => w'.cell? ⟨w.heap.size, 1, none⟩ = some (.slice (some ⟨g, 0, none⟩) p.vols.length c1) ∧ w'.cell? ⟨g, k * 2, none⟩ = some (.string y.name) ∧ w'.cell? ⟨w.heap.size + 1, 0, none⟩ = some (.string x.name)) (ds := []) #[false, false, false, false, false, false, false, false, false, false, false, false, false] (by kernel_rfl) rfl rfl ⟨p1, p2, p4⟩ (fun hHeld => ?_)
        refine pure_ (i := 0) (N := some 16) (v := ?_) (a' := ?_) #[true, false, false, false, false, false, false, false, false, false, false, false, false] rfl rfl (by kernel_rfl) (fun _ _ _ h => h) (Or.inl ⟨by rfl, ?_⟩) ?_ ?_
        rotate_left
        · intro w'
          go_simp
          with_reducible rfl
        rotate_left
        · simp only [Act.put, List.setIfInBounds_toArray, List.set_cons_zero, List.set_cons_succ, i64_w, i32_w]
          rfl
        refine pure_ (i := 1) (N := some 17) (v := ?_) (a' := ?_) #[true, true, false, false, false, false, false, false, false, false, false, false, false] rfl rfl (by kernel_rfl) (fun _ _ _ h => h) (Or.inl ⟨by rfl, ?_⟩) ?_ ?_
        rotate_left
        · intro w'
          go_simp
          with_reducible rfl
        rotate_left
        · simp only [Act.put, List.setIfInBounds_toArray, List.set_cons_zero, List.set_cons_succ, i64_w, i32_w]
          rfl
        refine pure_ (i := 2) (N := some 18) (v := ?_) (a' := ?_) #[true, true, true, false, false, false, false, false, false, false, false, false, false] rfl rfl (by kernel_rfl) (fun _ _ _ h => h) (Or.inl ⟨by rfl, ?_⟩) ?_ ?_
        rotate_left
        · intro w'
          go_simp
          with_reducible rfl
        rotate_left
        · simp only [Act.put, List.setIfInBounds_toArray, List.set_cons_zero, List.set_cons_succ, i64_w, i32_w]
          rfl
        refine pure_ (i := 3) (N := some 19) (v := undef) (a' := ?_) #[true, true, true, true, false, false, false, false, false, false, false, false, false] rfl rfl (by kernel_rfl) (fun _ _ _ h => h) (Or.inr ⟨by rfl, rfl⟩) ?_ ?_
        rotate_left
        · simp only [Act.put, List.setIfInBounds_toArray, List.set_cons_zero, List.set_cons_succ, i64_w, i32_w]
          rfl
        refine pure_ (i := 4) (N := some 20) (v := undef) (a' := ?_) #[true, true, true, true, true, false, false, false, false, false, false, false, false] rfl rfl (by kernel_rfl) (fun _ _ _ h => h) (Or.inr ⟨by rfl, rfl⟩) ?_ ?_
        rotate_left
        · simp only [Act.put, List.setIfInBounds_toArray, List.set_cons_zero, List.set_cons_succ, i64_w, i32_w]
          rfl
        refine pure_ (i := 5) (N := some 21) (v := undef) (a' := ?_) #[true, true, true, true, true, true, false, false, false, false, false, false, false] rfl rfl (by kernel_rfl) (fun _ _ _ h => h) (Or.inr ⟨by rfl, rfl⟩) ?_ ?_
        rotate_left
        · simp only [Act.put, List.setIfInBounds_toArray, List.set_cons_zero, List.set_cons_succ, i64_w, i32_w]
          rfl
        refine pure_ (i := 6) (N := some 22) (v := undef) (a' := ?_) #[true, true, true, true, true, true, true, false, false, false, false, false, false] rfl rfl (by kernel_rfl) (fun _ _ _ h => h) (Or.inr ⟨by rfl, rfl⟩) ?_ ?_
        rotate_left
        · simp only [Act.put, List.setIfInBounds_toArray, List.set_cons_zero, List.set_cons_succ, i64_w, i32_w]
          rfl
        refine pure_ (i := 7) (N := some 23) (v := undef) (a' := ?_) #[true, true, true, true, true, true, true, true, false, false, false, false, false] rfl rfl (by kernel_rfl) (fun _ _ _ h => h) (Or.inr ⟨by rfl, rfl⟩) ?_ ?_
        rotate_left
        · simp only [Act.put, List.setIfInBounds_toArray, List.set_cons_zero, List.set_cons_succ, i64_w, i32_w]
          rfl
        refine pure_ (i := 8) (N := some 24) (v := undef) (a' := ?_) #[true, true, true, true, true, true, true, true, true, false, false, false, false] rfl rfl (by kernel_rfl) (fun _ _ _ h => h) (Or.inr ⟨by rfl, rfl⟩) ?_ ?_
        rotate_left
        · simp only [Act.put, List.setIfInBounds_toArray, List.set_cons_zero, List.set_cons_succ, i64_w, i32_w]
          rfl
        refine pure_ (i := 9) (N := some 25) (v := undef) (a' := ?_) #[true, true, true, true, true, true, true, true, true, true, false, false, false] rfl rfl (by kernel_rfl) (fun _ _ _ h => h) (Or.inr ⟨by rfl, rfl⟩) ?_ ?_
        rotate_left
        · simp only [Act.put, List.setIfInBounds_toArray, List.set_cons_zero, List.set_cons_succ, i64_w, i32_w]
          rfl
        refine pure_ (i := 10) (N := some 26) (v := undef) (a' := ?_) #[true, true, true, true, true, true, true, true, true, true, true, false, false] rfl rfl (by kernel_rfl) (fun _ _ _ h => h) (Or.inr ⟨by rfl, rfl⟩) ?_ ?_
        rotate_left
        · simp only [Act.put, List.setIfInBounds_toArray, List.set_cons_zero, List.set_cons_succ, i64_w, i32_w]
          rfl
        refine pure_ (i := 11) (N := some 27) (v := undef) (a' := ?_) #[true, true, true, true, true, true, true, true, true, true, true, true, false] rfl rfl (by kernel_rfl) (fun _ _ _ h => h) (Or.inr ⟨by rfl, rfl⟩) ?_ ?_
        rotate_left
        · simp only [Act.put, List.setIfInBounds_toArray, List.set_cons_zero, List.set_cons_succ, i64_w, i32_w]
          rfl
        refine pure_ (i := 12) (N := some 28) (v := ?_) (a' := ?_) #[true, true, true, true, true, true, true, true, true, true, true, true, true] rfl rfl (by kernel_rfl) (fun _ _ _ h => h) (Or.inl ⟨by rfl, ?_⟩) ?_ ?_
        rotate_left
        · intro w'
          go_simp
          with_reducible rfl
        rotate_left
        · simp only [Act.put, List.setIfInBounds_toArray, List.set_cons_zero, List.set_cons_succ, i64_w, i32_w]
          rfl
        refine done_ (by kernel_rfl) ?_
        clear hHeld p0 p1 p2 p3 p4 p5 p6 p7 p8
        have hrow2 : wr.drew.ownsRow W0.heap.size 43 2 (.slice A5 L.length c5) L.length (L.flatMap encV) := hrow.out
        have hb2 : Bel W0 wr.drew := HBW.out.drew
        clear hrow HBW
        generalize wr.drew = W2 at hrow2 hb2 ⊢
        have HR2 := Lib.hid hrow2
        have HB2 := Lib.hid hb2
        obtain ⟨⟨p0, p1⟩, ⟨p2, p3⟩, ⟨p4, p5⟩, p6, p7, p8⟩ := HF.out _ hb2
        clear hrow2 hb2
        go_wp2_with (at_builtin; refine print_append_cells (w0 := W0) W0.heap.size rfl (.tmp 33) (.tmp 39) 28 43 (.agg #[.string ⟨#[]⟩, .slice none 0 0]) 2 40 rfl Try.underlying28 info_vol rfl (by decide) (by decide) _ L.length (L.flatMap encV) (encV (y, .slice A2 y.blocks.length c2)) rfl rfl rfl (by intro u hu; simp [encV] at hu; rcases hu with rfl | rfl <;> rfl) HR2.out HB2.out HB2.out.size (by omega) ?_; intro v2 w5 hr2 hbq hg2 hat2)
        go_roundg (p.vols.length - (k + 1))
        case measure => omega
        case rel => exact ⟨k + 1, L ++ [(y, Value.slice A2 y.blocks.length c2)], by omega, int_eq (by omega), bool_eq hdec2.out.symm, HLN.out.symm, by rw [Hid, List.length_append, flat_one]; exact hr2, hbq⟩
    · have hkl : k = p.vols.length := by omega
      rcases Nat.lt_or_ge pos p.vols.length with hpp | hpp
      · have hdec : decide (pos < k) = true := by simp; omega
        have HLE := Lib.hid (show L = insAt pos (x, Value.slice Ab x.blocks.length cb) (p.vols.zip bvs) by rw [hL.out, hkl, ← HZL.out]; exact addP_all (by rw [HZL.out]; exact hpp))
        have HLL := Lib.hid (show L.length = p.vols.length + 1 by rw [HLE.out, insAt_len (by rw [HZL.out]; omega), HZL.out])
        have hrow2 : wr.ownsRow W0.heap.size 43 2 (.slice A5 L.length c5) (p.vols.length + 1) ((insAt pos (x, Value.slice Ab x.blocks.length cb) (p.vols.zip bvs)).flatMap encV) := by
          have h5 := hrow.out
          rw [HLE.out] at h5
          rw [insAt_len (by rw [HZL.out]; omega), HZL.out] at h5
          rw [HLL.out]
          exact h5
        have HFIN := Lib.hid (show OwnP wr base (.slice A0 p.slots.length c0) (.slice A5 L.length c5) ⟨p.slots, insAt (posOf x.name p.vols) x p.vols⟩ (insAt (posOf x.name p.vols) (.slice Ab x.blocks.length cb) bvs) by
          rw [HPOS.out]
          exact ⟨((HP.out.bel HW.out).bel HBW.out).s, ((HP.out.bel HW.out).bel HBW.out).v.added ((HX.out.bel HW.out).bel HBW.out) hpl HAP.out hrow2 (by have := HW.out.size; omega)⟩)
        have hB := HB.out.bel HBW.out
        have hR := HR.out.bel HBW.out
        have q0 := hB.cell 0
        have q1 := hB.cell 1
        have g0 := hB.free 0
        have g1 := hB.free 1
        have r0 := hR.cell 0
        have r1 := hR.cell 1
        have f0 := hR.free 0
        have f1 := hR.free 1
        simp at q0 q1 r0 r1
        have z1 := hR.lt
        have HBR := Lib.hid (And.intro hB hR)
        clear hB hR hrow hrow2 hkl hpp
        rw [hdec]
        clear hdec
        go_wp2
        have hB1 := HBR.out.1.set 1 (.slice A5 L.length c5) (cs' := #[.slice A0 p.slots.length c0, .slice A5 L.length c5]) rfl
        have hR1 := HBR.out.2.apart (show w.heap.size ≠ w.heap.size + 1 + 1 by omega) 1 (.slice A5 L.length c5)
        have hR2 := hR1.set 0 (.slice A0 p.slots.length c0) (cs' := #[.slice A0 p.slots.length c0, .slice none 0 0]) rfl
        have hR3 := hR2.set 1 (.slice A5 L.length c5) (cs' := #[.slice A0 p.slots.length c0, .slice A5 L.length c5]) rfl
        have hop := ((HFIN.out.far HBR.out.1 (by decide) (by decide) (by decide) 1 (.slice A5 L.length c5)).far hR1 (by decide) (by decide) (by decide) 0 (.slice A0 p.slots.length c0)).far hR2 (by decide) (by decide) (by decide) 1 (.slice A5 L.length c5)
        have hb5 := bel_set (bel_set (bel_set (HW.out.tr HBW.out) (Nat.le_refl _) 1 (.slice A5 L.length c5)) (show w.heap.size ≤ w.heap.size + 1 + 1 by omega) 0 (.slice A0 p.slots.length c0)) (show w.heap.size ≤ w.heap.size + 1 + 1 by omega) 1 (.slice A5 L.length c5)
        refine bodyPost_ret (results_cell_row rfl _ _ (w.heap.size + 1 + 1) 30 #[.slice A0 p.slots.length c0, .slice A5 L.length c5] (0, 0) _ rfl hR3 Try.underlying30 rfl (by kernel_rfl)) rfl ?_
        exact ⟨_, rfl, hop, hb5⟩
      · have hpe : pos = p.vols.length := by omega
        have hdec : decide (pos < k) = false := by simp; omega
        have HLE := Lib.hid (show L ++ [(x, Value.slice Ab x.blocks.length cb)] = insAt pos (x, Value.slice Ab x.blocks.length cb) (p.vols.zip bvs) by rw [hL.out, hkl, hpe, ← HZL.out]; exact addP_end)
        have HLL := Lib.hid (show L.length + 1 = p.vols.length + 1 by
          have := congrArg List.length HLE.out
          rwa [insAt_len (by rw [HZL.out]; omega), HZL.out, List.length_append] at this)
        have hB := HB.out.bel HBW.out
        have hV := HV.out.bel HBW.out
        have u0 := hV.cell 0
        have u1 := hV.cell 1
        simp at u0 u1
        have z0 := hV.lt
        have hq1 := hB.cell 1
        have hz0 := hB.lt
        simp at hq1
        have HRW := Lib.hid hrow.out
        clear hB hV hrow hkl hpp hpe
        rw [hdec]
        clear hdec
        go_wp2_with (at_builtin; refine print_append_cells (w0 := W0) W0.heap.size rfl (.tmp 43) (.tmp 45) 28 43 (.agg #[.string ⟨#[]⟩, .slice none 0 0]) 2 40 rfl Try.underlying28 info_vol rfl (by decide) (by decide) _ L.length (L.flatMap encV) (encV (x, .slice Ab x.blocks.length cb)) rfl rfl rfl (by intro u hu; simp [encV] at hu; rcases hu with rfl | rfl <;> rfl) HRW.out HBW.out HBW.out.size (by omega) ?_; intro v2 w5 hr2 hbq hg2 hat2; obtain ⟨A6, c6, rfl, hc6⟩ := own_cap hr2; clear hat2 hg2 u0 u1 z0 hq1 hz0; have HR5 := Lib.hid hr2; have HB5 := Lib.hid hbq; have q0 := (HB.out.bel hbq).cell 0; have q1 := (HB.out.bel hbq).cell 1; have g0 := (HB.out.bel hbq).free 0; have g1 := (HB.out.bel hbq).free 1; have r0 := (HR.out.bel hbq).cell 0; have r1 := (HR.out.bel hbq).cell 1; have f0 := (HR.out.bel hbq).free 0; have f1 := (HR.out.bel hbq).free 1; have z1 := (HR.out.bel hbq).lt; simp at q0 q1 r0 r1; clear hr2 hbq)
        have hrow2 : w5.ownsRow W0.heap.size 43 2 (.slice A6 (L.length + 1) c6) (p.vols.length + 1) ((insAt pos (x, Value.slice Ab x.blocks.length cb) (p.vols.zip bvs)).flatMap encV) := by
          have h5 := HR5.out
          rw [← HLE.out, flat_one]
          rw [HLL.out] at h5 ⊢
          exact h5
        have hfin : OwnP w5 base (.slice A0 p.slots.length c0) (.slice A6 (L.length + 1) c6) ⟨p.slots, insAt (posOf x.name p.vols) x p.vols⟩ (insAt (posOf x.name p.vols) (.slice Ab x.blocks.length cb) bvs) := by
          rw [HPOS.out]
          exact ⟨((HP.out.bel HW.out).bel HB5.out).s, ((HP.out.bel HW.out).bel HB5.out).v.added ((HX.out.bel HW.out).bel HB5.out) hpl HAP.out hrow2 (by have := HW.out.size; omega)⟩
        have hB0 := HB.out.bel HB5.out
        have hR0 := HR.out.bel HB5.out
        have hR1 := hR0.apart (show w.heap.size ≠ w.heap.size + 1 + 1 by omega) 1 (.slice A6 (L.length + 1) c6)
        have hR2 := hR1.set 0 (.slice A0 p.slots.length c0) (cs' := #[.slice A0 p.slots.length c0, .slice none 0 0]) rfl
        have hR3 := hR2.set 1 (.slice A6 (L.length + 1) c6) (cs' := #[.slice A0 p.slots.length c0, .slice A6 (L.length + 1) c6]) rfl
        have hop := ((hfin.far hB0 (by decide) (by decide) (by decide) 1 (.slice A6 (L.length + 1) c6)).far hR1 (by decide) (by decide) (by decide) 0 (.slice A0 p.slots.length c0)).far hR2 (by decide) (by decide) (by decide) 1 (.slice A6 (L.length + 1) c6)
        have hb5 := bel_set (bel_set (bel_set (HW.out.tr HB5.out) (Nat.le_refl _) 1 (.slice A6 (L.length + 1) c6)) (show w.heap.size ≤ w.heap.size + 1 + 1 by omega) 0 (.slice A0 p.slots.length c0)) (show w.heap.size ≤ w.heap.size + 1 + 1 by omega) 1 (.slice A6 (L.length + 1) c6)
        refine bodyPost_ret (results_cell_row rfl _ _ (w.heap.size + 1 + 1) 30 #[.slice A0 p.slots.length c0, .slice A6 (L.length + 1) c6] (0, 0) _ rfl hR3 Try.underlying30 rfl (by kernel_rfl)) rfl ?_
        exact ⟨_, rfl, hop, hb5⟩
end Go.Proofs.Ytpobgjkmjlmafaa
/- PoolMake: what the program's closure does, and the reference. -/



namespace Go.Proofs.Ytpobgjkmjlmafaa
open Go.RowKit Go.Proofs.YtpobgjkmjlmafaaW.PrintWords Go.Proofs.YtpobgjkmjlmafaaW.PrintLast
set_option linter.unusedVariables false
set_option linter.unusedSimpArgs false

theorem makeF_no {p : Pool} {name : ByteArray} {size : Int} (h : isNm name = false ∨ 0 ≤ volIdx p.vols name ∨ inR size 1 6 = false) : makeF p name size = none := by
  unfold makeF
  rw [if_neg]
  rintro ⟨h1, h2, h3⟩
  rcases h with h | h | h
  · rw [h] at h1; cases h1
  · omega
  · rw [h] at h3; cases h3
theorem makeF_yes {p : Pool} {name : ByteArray} {size : Int} (h1 : isNm name = true) (h2 : volIdx p.vols name < 0) (h3 : inR size 1 6 = true) : makeF p name size = some ⟨p.slots, insAt (posOf name p.vols) ⟨name, List.replicate size.toNat 0⟩ p.vols⟩ := by
  unfold makeF
  rw [if_pos ⟨h1, h2, h3⟩]
theorem cmpS_pos {p : Pool} (hp : PoolP p) {t : ByteArray} (ht : isNm t = true) (hn : volIdx p.vols t < 0) (m : Nat) (y : Vol) (hy : p.vols[m]? = some y) : m < posOf t p.vols ↔ cmpS y.name t < 0 :=
  (hp.v.pos ht hn m y hy).trans (nm_cmp (hp.v.nm hy) ht).symm
theorem PV.kept {w w' : World} {b base : Nat} {p : Pool} (h : PV w b base p) (hb : Bel w w') : PV w' b base p := h.bel hb

set_option maxHeartbeats 8000000 in
set_option maxRecDepth 10000 in
theorem makeClo_c {w : World} {A0 A1 : Option Addr} {c0 c1 bp bn bs : Nat} {p : Pool} {name : ByteArray} {size : Int} (h : PoolIn w A0 A1 c0 c1 p) (hs : SmallP p) (hB : Blk w bp #[.slice A0 p.slots.length c0, .slice A1 p.vols.length c1] 30) (hN : Blk w bn #[.string name] 9) (hZ : Blk w bs #[.int .i64 size] 3) (hok : poolOk p = true)
    (W : World) (b base : Nat) (hW : Bel w W) (hb1 : w.heap.size ≤ base) (hb2 : base ≤ W.heap.size) (hpv : PV W b base p) :
    Calls Try.prog 102 #[.pointer (some ⟨b, 0, none⟩), .pointer (some ⟨bn, 0, none⟩), .pointer (some ⟨bp, 0, none⟩), .pointer (some ⟨bs, 0, none⟩)] W (Changes (makeF p name size) b base W) := by
  have HS := Lib.hid hs
  have HP := Lib.hid h
  have HK := Lib.hid (poolOk_iff.1 hok)
  have HV := Lib.hid hpv
  have HW := Lib.hid hW
  have HB := Lib.hid hB
  have HN := Lib.hid hN
  have HZ := Lib.hid hZ
  have q0 := (HB.out.bel HW.out).cell 0
  have q1 := (HB.out.bel HW.out).cell 1
  have q2 := (HN.out.bel HW.out).cell 0
  have q3 := (HZ.out.bel HW.out).cell 0
  simp at q0 q1 q2 q3
  clear h hs hok hpv hW hB hN hZ
  have hlv := HS.out.vols.len
  cases h1 : isNm name with
  | false =>
    have HG := Lib.hid (show makeF p name size = none from makeF_no (.inl h1))
    go_enter Try.func102, Try.ntmps102
    go_wp2_with (go_at_call 103; refine (isName_c name _).mono ?_; rintro e w' ⟨rfl, rfl⟩)
    go_ret
    rw [HG.out]
    exact ⟨rfl, ⟨p, HV.out, fun q' h => by cases h⟩, Below.refl _ _⟩
  | true =>
    have hbd := volIdx_bd p.vols name
    by_cases h2 : 0 ≤ volIdx p.vols name
    · have HG := Lib.hid (show makeF p name size = none from makeF_no (.inr (.inl h2)))
      go_enter Try.func102, Try.ntmps102
      go_wp2_with (first | (go_at_call 103; refine (isName_c name _).mono ?_; rintro e w' ⟨rfl, rfl⟩) | (go_at_call 69; refine (vol_c _ p.vols A1 c1 name _ (HP.out.bel HW.out).v hlv).mono ?_; rintro e w1 ⟨rfl, hb1⟩))
      go_ret
      rw [HG.out]
      exact ⟨rfl, ⟨p, HV.out.bel hb1, fun q' h => by cases h⟩, hb1.mono hb2⟩
    · have h2' : volIdx p.vols name < 0 := by omega
      cases h3 : inR size 1 6 with
      | false =>
        have HG := Lib.hid (show makeF p name size = none from makeF_no (.inr (.inr h3)))
        go_enter Try.func102, Try.ntmps102
        go_wp2_with (first | (go_at_call 103; refine (isName_c name _).mono ?_; rintro e w' ⟨rfl, rfl⟩) | (go_at_call 69; refine (vol_c _ p.vols A1 c1 name _ (HP.out.bel HW.out).v hlv).mono ?_; rintro e w1 ⟨rfl, hb1⟩; have q4 := (HZ.out.bel (HW.out.tr hb1)).cell 0; simp at q4) | (go_at_call 104; refine (within_c size 1 6 _).mono ?_; rintro e w' ⟨rfl, rfl⟩))
        go_ret
        rw [HG.out]
        exact ⟨rfl, ⟨p, HV.out.bel hb1, fun q' h => by cases h⟩, hb1.mono hb2⟩
      | true =>
        have hr := inR_iff.1 h3
        have hs1 : 1 ≤ size := hr.1
        have hs6 : size ≤ 6 := hr.2
        clear hr
        obtain ⟨zs, hzs⟩ : ∃ zs, List.replicate size.toNat (0 : Int) = zs := ⟨_, rfl⟩
        have HG := Lib.hid (show makeF p name size = some ⟨p.slots, insAt (posOf name p.vols) ⟨name, zs⟩ p.vols⟩ from hzs ▸ makeF_yes h1 h2' h3)
        have HZS := Lib.hid hzs
        clear hzs
        have HM := Lib.hid (fun (m : Nat) (y : Vol) (hy : p.vols[m]? = some y) => cmpS_pos HK.out h1 h2' m y hy)
        have hq := posOf_le name p.vols
        go_enter Try.func102, Try.ntmps102
        go_wp2_with (first | (go_at_call 103; refine (isName_c name _).mono ?_; rintro e w' ⟨rfl, rfl⟩) | (go_at_call 69; refine (vol_c _ p.vols A1 c1 name _ (HP.out.bel HW.out).v hlv).mono ?_; rintro e w1 ⟨rfl, hb1⟩; have q4 := (HZ.out.bel (HW.out.tr hb1)).cell 0; simp at q4) | (go_at_call 104; refine (within_c size 1 6 _).mono ?_; rintro e w' ⟨rfl, rfl⟩))
        have q5 := (HN.out.bel (HW.out.tr hb1)).cell 0
        simp at q5
        have HB1 := Lib.hid hb1
        have hpv1 : PV w1.drew b base p := HV.out.bel (Bel.tr hb1 (Below.refl _ _).drew)
        have HV1 := Lib.hid hpv1
        clear hb1 hpv1 q0 q1 q2 q3 h1 h3
        refine start_ (n := 6) (S := fun w' => w'.cell? ⟨bn, 0, none⟩ = some (.string name) ∧ w'.cell? ⟨bs, 0, none⟩ = some (.int .i64 size)) (ds := [5]) #[false, false, false, false, false, false] (by kernel_rfl) rfl rfl ⟨q5, q4⟩ (fun hHeld => ?_)
        refine pure_ (i := 0) (N := some 20) (v := ?_) (a' := ?_) #[true, false, false, false, false, false] rfl rfl (by kernel_rfl) (fun _ _ _ h => h) (Or.inl ⟨by rfl, ?_⟩) ?_ ?_
        rotate_left
        · intro w'
          go_simp
          with_reducible rfl
        rotate_left
        · simp only [Act.put, List.setIfInBounds_toArray, List.set_cons_zero, List.set_cons_succ, i64_w, i32_w]
          rfl
        refine take_ (i := 1) (N := some 21) (v := ?_) (a' := ?_) #[true, true, false, false, false, false] rfl rfl (by kernel_rfl) (fun _ _ _ h => h) (Or.inl ⟨by rfl, ?_⟩) hHeld ?_ ?_
        rotate_left
        · rintro w' ⟨s0, s1⟩
          go_simp
          with_reducible rfl
        rotate_left
        · simp only [Act.put, List.setIfInBounds_toArray, List.set_cons_zero, List.set_cons_succ, i64_w, i32_w]
          rfl
        refine take_ (i := 2) (N := some 22) (v := ?_) (a' := ?_) #[true, true, true, false, false, false] rfl rfl (by kernel_rfl) (fun _ _ _ h => h) (Or.inl ⟨by rfl, ?_⟩) hHeld ?_ ?_
        rotate_left
        · rintro w' ⟨s0, s1⟩
          go_simp
          with_reducible rfl
        rotate_left
        · simp only [Act.put, List.setIfInBounds_toArray, List.set_cons_zero, List.set_cons_succ, i64_w, i32_w]
          rfl
        refine one_ (i := 3) (N := some 23) #[true, true, true, true, false, false] rfl rfl (by kernel_rfl) (by decide) (fun K hK => ?_)
        refine Kd.R_make_step kInt (w0 := w1.drew) w1.drew.heap.size 3 (by rfl) (N := 23) rfl 41 _ _ rfl size rfl rfl Try.underlying41 (.int .i64 0) 8 info_int rfl (by decide) (by omega) 0 (ok := fun _ => True) (okp := fun _ => True) (kInt_mkM _ _ _ 0) (fun _ hk => hk) trivial (by omega) (by omega) (Below.refl _ _) (Nat.le_refl _) ?_
        intro v2 w2 ho hb2' hg_ hnew_
        clear hg_ hnew_
        have ho2 : OwnI w2 w1.drew.heap.size v2 zs := HZS.out ▸ ownI_of_R ho
        have HO2 := Lib.hid ho2
        have hb1' : Bel W w2 := Bel.tr (Bel.tr HB1.out (Below.refl _ _).drew) hb2'
        have HB2 := Lib.hid hb2'
        have HB1' := Lib.hid hb1'
        obtain ⟨A2, c2, rfl, hc2, hC2⟩ := ho2.reads
        have u1 := (HN.out.bel (HW.out.tr hb1')).cell 0
        have u2 := (HZ.out.bel (HW.out.tr hb1')).cell 0
        simp at u1 u2
        clear ho ho2 hb1' hb2' hC2 hc2
        refine hK.out _ _ ⟨u1, u2⟩ (fun hHeld => ?_)
        clear hK K
        refine norm_ (a' := ?_) ?_ ?_
        rotate_left
        · show Act.put _ (some 23) _ = _
          simp only [Act.put, List.setIfInBounds_toArray, List.set_cons_zero, List.set_cons_succ, i64_w, i32_w]
          rfl
        refine pure_ (i := 4) (N := some 24) (v := ?_) (a' := ?_) #[true, true, true, true, true, false] rfl rfl (by kernel_rfl) (fun _ _ _ h => h) (Or.inl ⟨by rfl, ?_⟩) ?_ ?_
        rotate_left
        · intro w'
          go_simp
          with_reducible rfl
        rotate_left
        · simp only [Act.put, List.setIfInBounds_toArray, List.set_cons_zero, List.set_cons_succ, i64_w, i32_w]
          rfl
        refine last_ (i := 5) (N := some 25) #[true, true, true, true, true, true] rfl rfl (by kernel_rfl) (by decide) (fun K hK => ?_)
        refine goes_ Try.func105 (by kernel_rfl) rfl #[.pointer (some ⟨b, 0, none⟩), .agg #[.string name, .slice A2 zs.length c2]] (by rfl) rfl rfl (by simp only [List.map_toArray, List.map_cons, List.map_nil]; rfl) ?_
        with_reducible refine (insert2_c (x := ⟨name, zs⟩) HV1.out HB2.out HO2.out hq hlv HM.out).mono ?_
        rintro e w3 ⟨rfl, hv3, hb3⟩
        have HV3 := Lib.hid hv3
        have HB3 := Lib.hid hb3
        have u3 : True := trivial
        clear hv3 hb3
        refine ⟨_, rfl, ?_⟩
        refine hK.out _ _ ?_
        clear hK K
        refine norm_ (a' := ?_) ?_ ?_
        rotate_left
        · show Act.put _ (some 25) _ = _
          simp only [Act.put, List.setIfInBounds_toArray, List.set_cons_zero, List.set_cons_succ, i64_w, i32_w]
          rfl
        refine done_ (by kernel_rfl) ?_
        clear hHeld
        go_wp2
        go_ret
        rw [HG.out]
        exact ⟨rfl, ⟨_, HV3.out, fun q' h => (Option.some.inj h)⟩, (HB1'.out.mono hb2).trans HB3.out⟩
end Go.Proofs.Ytpobgjkmjlmafaa
/- PoolMake, as the reference does it: l11Make. -/

namespace Go.Proofs.Ytpobgjkmjlmafaa
open Go.RowKit Go.Proofs.YtpobgjkmjlmafaaW.PrintWords Go.Proofs.YtpobgjkmjlmafaaW.PrintLast
set_option linter.unusedVariables false
set_option linter.unusedSimpArgs false

theorem Blk.nw4 (w : World) (o o' o'' : Obj) (cs : Array Value) (t : TypeId) : Blk ((((w.alloc o).alloc o').alloc o'').alloc (.cells cs t)) (w.heap.size + 1 + 1 + 1) cs t := by
  have := Blk.nw3 (w.alloc o) o' o'' cs t
  rwa [show (w.alloc o).heap.size = w.heap.size + 1 by simp] at this
theorem Blk.nw5 (w : World) (o o' o'' o3 : Obj) (cs : Array Value) (t : TypeId) : Blk (((((w.alloc o).alloc o').alloc o'').alloc o3).alloc (.cells cs t)) (w.heap.size + 1 + 1 + 1 + 1) cs t := by
  have := Blk.nw4 (w.alloc o) o' o'' o3 cs t
  rwa [show (w.alloc o).heap.size = w.heap.size + 1 by simp] at this
set_option maxHeartbeats 8000000 in
set_option maxRecDepth 10000 in
theorem l11Make_c {w : World} {base : Nat} {v0 v1 : Value} {bvs : List Value} {p : Pool} {name : ByteArray} {size : Int} (h : OwnP w base v0 v1 p bvs) (hs : SmallP p) (hp : PoolP p) (hbase : base ≤ w.heap.size) (hnm : name.size ≤ 1048576) :
    Calls Try.prog 101 #[.agg #[v0, v1], .string name, .int .i64 size] w (TurnsP base p (makeF p name size) w) := by
  have HS := Lib.hid hs
  have HK := Lib.hid hp
  obtain ⟨A0, A1, c0, c1, rfl, rfl, hpi⟩ := h.reads
  have HP := Lib.hid h
  have HI := Lib.hid hpi
  have hlv := HS.out.vols.len
  have hnx : name.size ≤ maxLen := by unfold maxLen; omega
  have HNX := Lib.hid hnx
  clear h hs hp hpi hnx
  go_enter Try.func101, Try.ntmps101
  go_wp2_with fail
  have hB : Blk ((w.alloc (.cells #[.slice A0 p.slots.length c0, .slice A1 p.vols.length c1] 30)).alloc (.cells #[.slice none 0 0, .slice none 0 0] 30)) w.heap.size #[.slice A0 p.slots.length c0, .slice A1 p.vols.length c1] 30 := (Blk.new _ _ _).alloc _
  have hR : Blk ((w.alloc (.cells #[.slice A0 p.slots.length c0, .slice A1 p.vols.length c1] 30)).alloc (.cells #[.slice none 0 0, .slice none 0 0] 30)) (w.heap.size + 1) #[.slice none 0 0, .slice none 0 0] 30 := Blk.nw2 _ _ _ _
  have hW : Bel w ((w.alloc (.cells #[.slice A0 p.slots.length c0, .slice A1 p.vols.length c1] 30)).alloc (.cells #[.slice none 0 0, .slice none 0 0] 30)) := bel_alloc (bel_alloc (Below.refl _ _) _) _
  generalize ((w.alloc (.cells #[.slice A0 p.slots.length c0, .slice A1 p.vols.length c1] 30)).alloc (.cells #[.slice none 0 0, .slice none 0 0] 30)) = W0 at hB hR hW ⊢
  -- what a failing way leaves
  have hno : ∀ W : World, Bel W0 W → makeF p name size = none →
      Blk ((W.setCell ⟨w.heap.size + 1, 0, none⟩ (.slice A0 p.slots.length c0)).setCell ⟨w.heap.size + 1, 1, none⟩ (.slice A1 p.vols.length c1)) (w.heap.size + 1) #[.slice A0 p.slots.length c0, .slice A1 p.vols.length c1] 30 ∧
      TurnsP base p (makeF p name size) w (.returned (.tuple #[.agg #[.slice A0 p.slots.length c0, .slice A1 p.vols.length c1], .bool false])) ((W.setCell ⟨w.heap.size + 1, 0, none⟩ (.slice A0 p.slots.length c0)).setCell ⟨w.heap.size + 1, 1, none⟩ (.slice A1 p.vols.length c1)) := by
    intro W hb hn
    have hR2 := hR.bel hb
    have hR3 := hR2.set 0 (.slice A0 p.slots.length c0) (cs' := #[.slice A0 p.slots.length c0, .slice none 0 0]) rfl
    have hR4 := hR3.set 1 (.slice A1 p.vols.length c1) (cs' := #[.slice A0 p.slots.length c0, .slice A1 p.vols.length c1]) rfl
    have hb5 := bel_set (bel_set (hW.tr hb) (Nat.le_succ _) 0 (.slice A0 p.slots.length c0)) (Nat.le_succ _) 1 (.slice A1 p.vols.length c1)
    have hop4 := ((HP.out.bel (hW.tr hb)).far hR2 (by decide) (by decide) (by decide) 0 (.slice A0 p.slots.length c0)).far hR3 (by decide) (by decide) (by decide) 1 (.slice A1 p.vols.length c1)
    refine ⟨hR4, ?_⟩
    rw [hn]
    exact ⟨_, _, _, rfl, hop4, Fr.ofBel hb5 hbase⟩
  have HNO := Lib.hid hno
  have HB := Lib.hid hB
  have HR := Lib.hid hR
  have HW := Lib.hid hW
  have q0 := HB.out.cell 0
  have q1 := HB.out.cell 1
  have r0 := HR.out.cell 0
  have r1 := HR.out.cell 1
  have f0 := HR.out.free 0
  have f1 := HR.out.free 1
  have z1 := HR.out.lt
  simp at q0 q1 r0 r1
  clear hB hR hW hno
  refine (l3Name_c name _ HNX.out).mono ?_
  rintro e w' ⟨rfl, rfl⟩
  cases h1 : isNm name with
  | false =>
    have HG := Lib.hid (show makeF p name size = none from makeF_no (.inl h1))
    go_wp2
    have hend := HNO.out W0 (Below.refl _ _) HG.out
    refine bodyPost_ret (results_ct rfl _ _ (w.heap.size + 1) 30 #[.slice A0 p.slots.length c0, .slice A1 p.vols.length c1] (0, 0) _ rfl hend.1 Try.underlying30 rfl (by kernel_rfl)) rfl ?_
    exact hend.2
  | true =>
    cases h3 : inR size 1 6 with
    | false =>
      have HG := Lib.hid (show makeF p name size = none from makeF_no (.inr (.inr h3)))
      go_wp2_with (go_at_call 98; refine (l6In_c size 1 6 _).mono ?_; rintro e w' ⟨rfl, rfl⟩)
      have hend := HNO.out W0 (Below.refl _ _) HG.out
      refine bodyPost_ret (results_ct rfl _ _ (w.heap.size + 1) 30 #[.slice A0 p.slots.length c0, .slice A1 p.vols.length c1] (0, 0) _ rfl hend.1 Try.underlying30 rfl (by kernel_rfl)) rfl ?_
      exact hend.2
    | true =>
      go_wp2_with (go_at_call 98; refine (l6In_c size 1 6 _).mono ?_; rintro e w' ⟨rfl, rfl⟩)
      refine (l11At_c _ p.vols A1 c1 name _ (HI.out.bel HW.out).v hlv).mono ?_
      rintro e w1 ⟨rfl, hb1⟩
      have hbd := volIdx_bd p.vols name
      clear q0 q1 r0 r1 f0 f1 z1
      have q0 := (HB.out.bel hb1).cell 0
      have q1 := (HB.out.bel hb1).cell 1
      have r0 := (HR.out.bel hb1).cell 0
      have r1 := (HR.out.bel hb1).cell 1
      have f0 := (HR.out.bel hb1).free 0
      have f1 := (HR.out.bel hb1).free 1
      have z1 := (HR.out.bel hb1).lt
      simp at q0 q1 r0 r1
      have HB1 := Lib.hid hb1
      clear hb1
      by_cases h2 : 0 ≤ volIdx p.vols name
      · have HG := Lib.hid (show makeF p name size = none from makeF_no (.inr (.inl h2)))
        go_wp2
        have hend := HNO.out w1 HB1.out HG.out
        refine bodyPost_ret (results_ct rfl _ _ (w.heap.size + 1) 30 #[.slice A0 p.slots.length c0, .slice A1 p.vols.length c1] (0, 0) _ rfl hend.1 Try.underlying30 rfl (by kernel_rfl)) rfl ?_
        exact hend.2
      · have h2' : volIdx p.vols name < 0 := by omega
        have hr := inR_iff.1 h3
        have hs1 : 1 ≤ size := hr.1
        have hs6 : size ≤ 6 := hr.2
        clear hr
        obtain ⟨zs, hzs⟩ : ∃ zs, List.replicate size.toNat (0 : Int) = zs := ⟨_, rfl⟩
        have HG := Lib.hid (show makeF p name size = some ⟨p.slots, insAt (posOf name p.vols) ⟨name, zs⟩ p.vols⟩ from hzs ▸ makeF_yes h1 h2' h3)
        have HZS := Lib.hid hzs
        have HNM := Lib.hid (And.intro h1 (fun (m : Nat) (y : Vol) (hy : p.vols[m]? = some y) => HK.out.v.nm hy))
        clear hzs
        go_wp2
        clear h1 h3
        refine start_ (n := 8) (S := fun w' => w'.cell? ⟨w.heap.size, 0, none⟩ = some (.slice A0 p.slots.length c0) ∧ w'.cell? ⟨w.heap.size, 1, none⟩ = some (.slice A1 p.vols.length c1)) (ds := [6]) #[false, false, false, false, false, false, false, false] (by kernel_rfl) rfl rfl ⟨q0, q1⟩ (fun hHeld => ?_)
        refine pure_ (i := 1) (N := some 24) (v := ?_) (a' := ?_) #[false, true, false, false, false, false, false, false] rfl rfl (by kernel_rfl) (fun _ _ _ h => h) (Or.inl ⟨by rfl, ?_⟩) ?_ ?_
        rotate_left
        · intro w'
          go_simp
          with_reducible rfl
        rotate_left
        · simp only [Act.put, List.setIfInBounds_toArray, List.set_cons_zero, List.set_cons_succ, i64_w, i32_w]
          rfl
        refine pure_ (i := 2) (N := some 25) (v := ?_) (a' := ?_) #[false, true, true, false, false, false, false, false] rfl rfl (by kernel_rfl) (fun _ _ _ h => h) (Or.inl ⟨by rfl, ?_⟩) ?_ ?_
        rotate_left
        · intro w'
          go_simp
          with_reducible rfl
        rotate_left
        · simp only [Act.put, List.setIfInBounds_toArray, List.set_cons_zero, List.set_cons_succ, i64_w, i32_w]
          rfl
        refine take_ (i := 0) (N := some 23) (v := ?_) (a' := ?_) #[true, true, true, false, false, false, false, false] rfl rfl (by kernel_rfl) (fun _ _ _ h => h) (Or.inl ⟨by rfl, ?_⟩) hHeld ?_ ?_
        rotate_left
        · rintro w' ⟨s0, s1⟩
          go_simp
          with_reducible rfl
        rotate_left
        · simp only [Act.put, List.setIfInBounds_toArray, List.set_cons_zero, List.set_cons_succ, i64_w, i32_w]
          rfl
        refine one_ (i := 3) (N := some 26) #[true, true, true, true, false, false, false, false] rfl rfl (by kernel_rfl) (by decide) (fun K hK => ?_)
        refine Kd.R_make_step kInt (w0 := w1.drew) w1.drew.heap.size 3 (by rfl) (N := 26) rfl 41 _ _ rfl size rfl rfl Try.underlying41 (.int .i64 0) 8 info_int rfl (by decide) (by omega) 0 (ok := fun _ => True) (okp := fun _ => True) (kInt_mkM _ _ _ 0) (fun _ hk => hk) trivial (by omega) (by omega) (Below.refl _ _) (Nat.le_refl _) ?_
        intro v2 w2 ho hb2' hg_ hnew_
        clear hg_ hnew_
        have ho2 : OwnI w2 w1.drew.heap.size v2 zs := HZS.out ▸ ownI_of_R ho
        have hb1' : Bel W0 w2 := Bel.tr (Bel.tr HB1.out (Below.refl _ _).drew) hb2'
        have HB1' := Lib.hid hb1'
        obtain ⟨A2, c2, rfl, hc2, hC2⟩ := ho2.reads
        have hlow : OwnI w2 base (.slice A2 zs.length c2) zs := own_lower ho2 (Nat.le_trans hbase (Nat.le_trans HW.out.size HB1.out.size))
        have HL2 := Lib.hid hlow
        have hap : ∀ (m : Nat) (b' : Value) (k : Nat), bvs[m]? = some b' → b'.ownBlock = some k → Value.ownBlock (.slice A2 zs.length c2) ≠ some k := fun m b' k hm hk h2 => by have e1 := HP.out.v.inner_lt hm hk; have e2 := own_block_ge ho2 h2; have e3 := HW.out.size; have e4 := HB1.out.size; have e5 : w1.drew.heap.size = w1.heap.size := rfl; omega
        have HAP := Lib.hid hap
        clear hlow hap
        have u1 := (HB.out.bel hb1').cell 0
        have u2 := (HB.out.bel hb1').cell 1
        simp at u1 u2
        clear ho ho2 hb1' hb2' hC2 hc2
        refine hK.out _ _ ⟨u1, u2⟩ (fun hHeld => ?_)
        clear hK K
        refine norm_ (a' := ?_) ?_ ?_
        rotate_left
        · show Act.put _ (some 26) _ = _
          simp only [Act.put, List.setIfInBounds_toArray, List.set_cons_zero, List.set_cons_succ, i64_w, i32_w]
          rfl
        refine pure_ (i := 4) (N := some 27) (v := ?_) (a' := ?_) #[true, true, true, true, true, false, false, false] rfl rfl (by kernel_rfl) (fun _ _ _ h => h) (Or.inl ⟨by rfl, ?_⟩) ?_ ?_
        rotate_left
        · intro w'
          go_simp
          with_reducible rfl
        rotate_left
        · simp only [Act.put, List.setIfInBounds_toArray, List.set_cons_zero, List.set_cons_succ, i64_w, i32_w]
          rfl
        refine one_ (i := 5) (N := some 28) #[true, true, true, true, true, true, false, false] rfl rfl (by kernel_rfl) (by decide) (fun K hK => ?_)
        refine goes_ Try.func141 (by kernel_rfl) rfl #[.agg #[.slice A0 p.slots.length c0, .slice A1 p.vols.length c1], .agg #[.string name, .slice A2 zs.length c2]] (by rfl) rfl rfl (by simp only [List.map_toArray, List.map_cons, List.map_nil]; rfl) ?_
        with_reducible refine (l11Add_c (x := ⟨name, zs⟩) (HP.out.bel (HW.out.tr HB1'.out)) HL2.out HS.out (Nat.le_trans hbase (HW.out.tr HB1'.out).size) HAP.out HNM.out.1 HNM.out.2).mono ?_
        rintro e w3 ⟨v3, rfl, ho3, hb3⟩
        have HO3 := Lib.hid ho3
        have HB3 := Lib.hid (HB1'.out.tr hb3)
        obtain ⟨A7, A8, c7, c8, e7, rfl, hpi3⟩ := ho3.reads
        have s0 := (HR.out.bel HB3.out).cell 0
        have s1 := (HR.out.bel HB3.out).cell 1
        have t0 := (HR.out.bel HB3.out).free 0
        have t1 := (HR.out.bel HB3.out).free 1
        simp at s0 s1
        have u3 := (HB.out.bel HB3.out).cell 0
        have u4 := (HB.out.bel HB3.out).cell 1
        simp at u3 u4
        clear ho3 hb3 hpi3 e7
        refine ⟨_, rfl, ?_⟩
        refine hK.out _ _ ⟨u3, u4⟩ (fun hHeld => ?_)
        clear hK K
        refine norm_ (a' := ?_) ?_ ?_
        rotate_left
        · show Act.put _ (some 28) _ = _
          simp only [Act.put, List.setIfInBounds_toArray, List.set_cons_zero, List.set_cons_succ, i64_w, i32_w]
          rfl
        refine last_ (i := 6) (N := none) #[true, true, true, true, true, true, true, false] rfl rfl (by kernel_rfl) (by decide) (fun K hK => ?_)
        refine skip_ (w1 := ?_) (by rfl) rfl ?_ ?_
        rotate_left
        · go_simp
          rfl
        refine hK.out _ _ ?_
        clear hK K
        refine pure_ (i := 7) (N := some 7) (v := ?_) (a' := ?_) #[true, true, true, true, true, true, true, true] rfl rfl (by kernel_rfl) (fun _ _ _ h => h) (Or.inl ⟨by rfl, ?_⟩) ?_ ?_
        rotate_left
        · intro w'
          go_simp
          with_reducible rfl
        rotate_left
        · simp only [Act.put, List.setIfInBounds_toArray, List.set_cons_zero, List.set_cons_succ, i64_w, i32_w]
          rfl
        refine done_ (by kernel_rfl) ?_
        clear hHeld
        go_wp2
        have hR2 := HR.out.bel HB3.out
        have hR3 := hR2.set 0 (.slice A0 p.slots.length c0) (cs' := #[.slice A0 p.slots.length c0, .slice none 0 0]) rfl
        have hR4 := hR3.set 1 (.slice A8 (insAt (posOf name p.vols) (⟨name, zs⟩ : Vol) p.vols).length c8) (cs' := #[.slice A0 p.slots.length c0, .slice A8 (insAt (posOf name p.vols) (⟨name, zs⟩ : Vol) p.vols).length c8]) rfl
        have hb5 := bel_set (bel_set (HW.out.tr HB3.out) (Nat.le_succ _) 0 (.slice A0 p.slots.length c0)) (Nat.le_succ _) 1 (.slice A8 (insAt (posOf name p.vols) (⟨name, zs⟩ : Vol) p.vols).length c8)
        have hop4 := (HO3.out.far hR2 (by decide) (by decide) (by decide) 0 (.slice A0 p.slots.length c0)).far hR3 (by decide) (by decide) (by decide) 1 (.slice A8 (insAt (posOf name p.vols) (⟨name, zs⟩ : Vol) p.vols).length c8)
        refine bodyPost_ret (results_ct rfl _ _ (w.heap.size + 1) 30 #[.slice A0 p.slots.length c0, .slice A8 (insAt (posOf name p.vols) (⟨name, zs⟩ : Vol) p.vols).length c8] (0, 0) _ rfl hR4 Try.underlying30 rfl (by kernel_rfl)) rfl ?_
        rw [HG.out]
        exact ⟨_, _, _, rfl, hop4, Fr.ofBel hb5 hbase⟩
end Go.Proofs.Ytpobgjkmjlmafaa

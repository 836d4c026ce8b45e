/- Contracts of the program's and the reference's functions, and the plain laws behind them: part 6 of 6. -/
import Derived.Test.YtccllgpaafgjaaaV5
/- Draws of logs. -/


namespace Go.Proofs.Ytccllgpaafgjaaa
open Go.RowKit Go.Proofs.YtccllgpaafgjaaaW.PrintWords Go.Proofs.YtccllgpaafgjaaaW.PrintLast
set_option linter.unusedVariables false
set_option linter.unusedSimpArgs false

theorem belGrown {w w1 w2 : World} (h : Bel w w1) {rb : Nat} (hg : w1.grownBy w2 (some rb)) (hr : w.heap.size ≤ rb) : Bel w w2 := h.grown hg h.size (fun k e => by injection e with e; omega)
/-- A log that is drawn, at the outer level: the result's block rs, the reader rb, the log's own blocks from base on. -/
structure LgB (w : World) (base : Nat) (W : World) (rb k : Nat) (v0 v1 v2 : Value) (l : Log) (bvs : List Value) (lb : Nat) : Prop where
  res : Blk W w.heap.size #[.slice none 0 0, .slice none 0 0, .slice none 0 0, .int .i64 0] 51
  var : Blk W lb #[v0, v1, v2, .int .i64 l.safe] 51
  rd : Rd W rb k
  own : OwnP W base v0 v1 l.base bvs
  ops : OwnT W base v2 l.ops
  b : Bel w W
  l1 : w.heap.size < rb
  l2 : rb < base
  l3 : base ≤ lb
  l4 : base ≤ W.heap.size
section
variable {w W W' : World} {rb k k' lb base : Nat} {v0 v1 v2 : Value} {l : Log} {bvs : List Value}
theorem LgB.step (h : LgB w base W rb k v0 v1 v2 l bvs lb) (hR : Rd W' rb k') (hg : W.grownBy W' (some rb)) : LgB w base W' rb k' v0 v1 v2 l bvs lb :=
  ⟨h.res.grown hg (fun e => by injection e with e; have := h.l1; omega), h.var.grown hg (fun e => by injection e with e; have := h.l2; have := h.l3; omega), hR, h.own.rd h.rd hg, h.ops.rd h.rd hg, belGrown h.b hg (Nat.le_of_lt h.l1), h.l1, h.l2, h.l3, Nat.le_trans h.l4 hg.size⟩
theorem LgB.bel (h : LgB w base W rb k v0 v1 v2 l bvs lb) (hb : Bel W W') : LgB w base W' rb k v0 v1 v2 l bvs lb :=
  ⟨h.res.bel hb, h.var.bel hb, h.rd.bel hb, h.own.bel hb, h.ops.bel hb, h.b.tr hb, h.l1, h.l2, h.l3, Nat.le_trans h.l4 hb.size⟩
theorem LgB.ne (h : LgB w base W rb k v0 v1 v2 l bvs lb) : w.heap.size < lb := by have := h.l1; have := h.l2; have := h.l3; omega
theorem LgB.app (h : LgB w base W rb k v0 v1 v2 l bvs lb) (hg : W.grownBy W' v2.ownBlock) {u : Value} {os : List Op} (hu : OwnT W' base u os) : LgB w base (W'.setCell ⟨lb, 2, none⟩ u) rb k v0 v1 u ⟨l.base, os, l.safe⟩ bvs lb := by
  have hv := h.var.grown hg (blk_otherT h.ops h.var (by decide))
  have hr := h.res.grown hg (blk_otherT h.ops h.res (by decide))
  have hne := h.ne
  have hrd := h.rd.grown hg (fun b e => by have := (h.ops.base b e).1; have := h.l2; omega)
  have hbw : Bel w W' := h.b.grown hg h.b.size (fun b e => by have := (h.ops.base b e).1; have := h.l1; have := h.l2; omega)
  exact ⟨hr.apart (by omega) 2 _, hv.set 2 _ rfl, hrd.set (by have := h.l2; have := h.l3; omega) 2 _, (h.own.otherT h.ops hg).far hv (by decide) (by decide) (by decide) 2 _, hu.far hv (by decide) 2 _, bel_set hbw (Nat.le_of_lt hne) 2 _, h.l1, h.l2, h.l3, by have := hg.size; have := h.l4; simp; omega⟩
theorem LgB.lit (h : LgB w base W rb k v0 v1 v2 l bvs lb) : ∃ (A B C : Option Addr) (a b c : Nat), v0 = .slice A l.base.slots.length a ∧ v1 = .slice B l.base.vols.length b ∧ v2 = .slice C l.ops.length c ∧ LogIn W A B C a b c l := by
  obtain ⟨A, B, a, b, rfl, rfl, hi⟩ := h.own.reads
  obtain ⟨C, c, rfl, hc, hC⟩ := h.ops.reads
  exact ⟨A, B, C, a, b, c, rfl, rfl, rfl, ⟨hi, hC, hc⟩⟩
end
/-- A log that was drawn. -/
def DrewL (n : Nat) (w : World) (e : Ending) (w' : World) : Prop := ∃ (A B C : Option Addr) (a b c : Nat) (l : Log), e = .returned (.agg #[.slice A l.base.slots.length a, .slice B l.base.vols.length b, .slice C l.ops.length c, .int .i64 l.safe]) ∧ DrawnL l n ∧ LogIn w' A B C a b c l ∧ Bel w w'
theorem LgB.fin {w W : World} {base rb k lb : Nat} {A B C : Option Addr} {a b c : Nat} {l : Log} {bvs : List Value} (h : LgB w base W rb k (.slice A l.base.slots.length a) (.slice B l.base.vols.length b) (.slice C l.ops.length c) l bvs lb) :
    LogIn (wset4 W w.heap.size (.slice A l.base.slots.length a) (.slice B l.base.vols.length b) (.slice C l.ops.length c) (.int .i64 l.safe)) A B C a b c l ∧ Bel w (wset4 W w.heap.size (.slice A l.base.slots.length a) (.slice B l.base.vols.length b) (.slice C l.ops.length c) (.int .i64 l.safe)) := by
  have hp := h.own.far4 h.res (.slice A l.base.slots.length a) (.slice B l.base.vols.length b) (.slice C l.ops.length c) (.int .i64 l.safe)
  have ho := h.ops.far4 h.res (.slice A l.base.slots.length a) (.slice B l.base.vols.length b) (.slice C l.ops.length c) (.int .i64 l.safe)
  obtain ⟨C', c', e, hc, hC⟩ := ho.reads
  have e := slice_eq e
  obtain ⟨rfl, -, rfl⟩ := e
  exact ⟨⟨hp.inn, hC, hc⟩, bel_set4 h.b (Nat.le_refl _) _ _ _ _⟩
set_option maxHeartbeats 8000000 in
theorem drawLogPool_c {w : World} {A : Option Addr} {n c : Nat} {bs : List Int} (h : CodeIn w A n c bs) (hn : n ≤ 9223372036854775807) :
    Calls Try.prog 28 #[.slice A n c] w (DrewL 21 w) := by
  have H := Lib.hid h
  clear h
  go_enter Try.func28, Try.ntmps28
  go_wp2_with fail
  have hr0 : Blk (w.alloc (.cells #[.slice none 0 0, .slice none 0 0, .slice none 0 0, .int .i64 0] 51)) w.heap.size #[.slice none 0 0, .slice none 0 0, .slice none 0 0, .int .i64 0] 51 := Blk.new _ _ _
  have hW : Bel w (w.alloc (.cells #[.slice none 0 0, .slice none 0 0, .slice none 0 0, .int .i64 0] 51)) := bel_alloc (Below.refl _ _) _
  generalize (w.alloc (.cells #[.slice none 0 0, .slice none 0 0, .slice none 0 0, .int .i64 0] 51)) = W0 at hr0 hW ⊢
  refine (open_c (H.out.bel hW) hn).mono ?_
  rintro e w1 ⟨rb, rfl, hR1, hrb, hb1⟩
  have hrb2 : w.heap.size < rb := Nat.lt_of_lt_of_le hr0.lt hrb
  have HR1 := Lib.hid (And.intro (hr0.bel hb1) (And.intro hR1 (hW.tr hb1)))
  clear hr0 hW hR1 hb1 hrb
  go_wp2_with fail
  refine (log_c HR1.out.2.1 (by omega)).mono ?_
  rintro e w2 ⟨v0, v1, v2, l, bvs, rfl, hl, ho, hT, hR2, hg2⟩
  obtain ⟨A, B, a, b, rfl, rfl, hpi⟩ := ho.reads
  obtain ⟨C, c, rfl, hoc, hC⟩ := hT.reads
  have HL := Lib.hid hl
  have hB2 := HR1.out.1.grown hg2 (by intro e; injection e with e; omega)
  have hb2 := belGrown HR1.out.2.2 hg2 (by omega)
  have HB2 := Lib.hid hB2
  have HP2 := Lib.hid (And.intro ho (And.intro hT hb2))
  clear ho hT hR2 hg2 hb2 hpi hoc hC hl hB2
  have r0 := HB2.out.cell 0
  have r1 := HB2.out.cell 1
  have r2 := HB2.out.cell 2
  have r3 := HB2.out.cell 3
  have f0 := HB2.out.free 0
  have f1 := HB2.out.free 1
  have f2 := HB2.out.free 2
  have f3 := HB2.out.free 3
  have ry := HB2.out.lt
  simp at r0 r1 r2 r3
  go_wp2
  have hp := HP2.out.1.far4 HB2.out (.slice A l.base.slots.length a) (.slice B l.base.vols.length b) (.slice C l.ops.length c) (.int .i64 l.safe)
  have hT := HP2.out.2.1.far4 HB2.out (.slice A l.base.slots.length a) (.slice B l.base.vols.length b) (.slice C l.ops.length c) (.int .i64 l.safe)
  obtain ⟨C', c', e, hc, hC⟩ := hT.reads
  have e := slice_eq e
  obtain ⟨rfl, -, rfl⟩ := e
  refine bodyPost_ret (results_cell_row rfl _ _ w.heap.size 51 _ (0, 0) _ rfl (HB2.out.set4 _ _ _ _) Try.underlying51 rfl (by kernel_rfl)) rfl ?_
  exact ⟨A, B, C, a, b, c, l, rfl, HL.out, ⟨hp.inn, hC, hc⟩, bel_set4 HP2.out.2.2 (Nat.le_refl _) _ _ _ _⟩
set_option maxHeartbeats 16000000 in
set_option maxRecDepth 10000 in
theorem drawLogOk_c {w : World} {A : Option Addr} {n c : Nat} {bs : List Int} (h : CodeIn w A n c bs) (hn : n ≤ 9223372036854775807) :
    Calls Try.prog 24 #[.slice A n c] w (DrewL 22 w) := by
  have H := Lib.hid h
  clear h
  go_enter Try.func24, Try.ntmps24
  go_wp2_with fail
  have hr0 : Blk (w.alloc (.cells #[.slice none 0 0, .slice none 0 0, .slice none 0 0, .int .i64 0] 51)) w.heap.size #[.slice none 0 0, .slice none 0 0, .slice none 0 0, .int .i64 0] 51 := Blk.new _ _ _
  have hW : Bel w (w.alloc (.cells #[.slice none 0 0, .slice none 0 0, .slice none 0 0, .int .i64 0] 51)) := bel_alloc (Below.refl _ _) _
  generalize (w.alloc (.cells #[.slice none 0 0, .slice none 0 0, .slice none 0 0, .int .i64 0] 51)) = W0 at hr0 hW ⊢
  refine (open_c (H.out.bel hW) hn).mono ?_
  rintro e w1 ⟨rb, rfl, hR1, hrb, hb1⟩
  have hrb2 : w.heap.size < rb := Nat.lt_of_lt_of_le hr0.lt hrb
  have HR1 := Lib.hid (And.intro (hr0.bel hb1) (And.intro hR1 (hW.tr hb1)))
  clear hr0 hW hR1 hb1 hrb
  go_wp2_with fail
  refine (log_c HR1.out.2.1 (by omega)).mono ?_
  rintro e w2 ⟨v0, v1, v2, l, bvs, rfl, hl, ho, hT, hR2, hg2⟩
  obtain ⟨A, B, a, b, rfl, rfl, hpi⟩ := ho.reads
  obtain ⟨C, c, rfl, hoc, hC⟩ := hT.reads
  have HL := Lib.hid hl
  have hB2 := HR1.out.1.grown hg2 (by intro e; injection e with e; omega)
  have hb2 := belGrown HR1.out.2.2 hg2 (by omega)
  have hbx : Bel w2 (w2.alloc (.cells #[.slice A l.base.slots.length a, .slice B l.base.vols.length b, .slice C l.ops.length c, .int .i64 l.safe] 51)) := bel_alloc (Below.refl _ _) _
  have hst : LgB w w1.heap.size (w2.alloc (.cells #[.slice A l.base.slots.length a, .slice B l.base.vols.length b, .slice C l.ops.length c, .int .i64 l.safe] 51)) rb (0 + 50000) (.slice A l.base.slots.length a) (.slice B l.base.vols.length b) (.slice C l.ops.length c) l bvs w2.heap.size :=
    ⟨hB2.bel hbx, Blk.new _ _ _, hR2.bel hbx, ho.bel hbx, hT.bel hbx, hb2.tr hbx, hrb2, HR1.out.2.1.lt, hg2.size, Nat.le_trans hg2.size hbx.size⟩
  have HS := Lib.hid hst
  clear ho hT hR2 hg2 hB2 hb2 hbx hst hpi hoc hC hl HR1
  go_wp2_with fail
  generalize (w2.alloc (.cells #[.slice A l.base.slots.length a, .slice B l.base.vols.length b, .slice C l.ops.length c, .int .i64 l.safe] 51)) = W4 at HS ⊢
  obtain ⟨lb, hlb⟩ : ∃ lb, w2.heap.size = lb := ⟨_, rfl⟩
  rw [hlb] at HS ⊢
  clear hlb
  refine (pick_c HS.out.rd (by omega) 5 (by omega)).mono ?_
  rintro e wp ⟨v, rfl, ⟨r5, rfl, hr0, hr1, -⟩, hR, hg⟩
  replace HS := Lib.hid (HS.out.step hR hg)
  clear hR hg hr1
  have hlt2 := HS.out.ne
  have hne : ¬ lb = w.heap.size := by omega
  by_cases hra : r5 = 0
  · subst hra
    have c0 := HS.out.var.cell 0
    have c1 := HS.out.var.cell 1
    have c2 := HS.out.var.cell 2
    have c3 := HS.out.var.cell 3
    have g0 := HS.out.var.free 0
    have g1 := HS.out.var.free 1
    have g2 := HS.out.var.free 2
    have g3 := HS.out.var.free 3
    have cy := HS.out.var.lt
    simp at c0 c1 c2 c3
    go_wp2
    have HS1 := Lib.hid (HS.out.bel (Below.refl _ _).drew)
    clear c0 c1 c3 g0 g1 g3
    have hl20 := HL.out.len
    refine start_ (n := 8) (S := fun w' => w'.cell? ⟨lb, 2, none⟩ = some (.slice C l.ops.length c)) (ds := [7]) #[false, false, false, false, false, false, false, false] (by kernel_rfl) rfl rfl (c2) (fun hHeld => ?_)
    refine pure_ (i := 0) (N := some 12) (v := ?_) (a' := ?_) #[true, false, false, false, false, false, false, false] rfl rfl (by kernel_rfl) (fun _ _ _ h => h) (Or.inl ⟨by rfl, ?_⟩) ?_ ?_
    rotate_left
    · intro w'
      go_simp
      with_reducible rfl
    rotate_left
    · simp only [Act.put, List.setIfInBounds_toArray, List.set_cons_zero, List.set_cons_succ, i64_w, i32_w]
      rfl
    refine pure_ (i := 2) (N := some 14) (v := ?_) (a' := ?_) #[true, false, true, false, false, false, false, false] rfl rfl (by kernel_rfl) (fun _ _ _ h => h) (Or.inl ⟨by rfl, ?_⟩) ?_ ?_
    rotate_left
    · intro w'
      go_simp
      with_reducible rfl
    rotate_left
    · simp only [Act.put, List.setIfInBounds_toArray, List.set_cons_zero, List.set_cons_succ, i64_w, i32_w]
      rfl
    refine take_ (i := 1) (N := some 13) (v := ?_) (a' := ?_) #[true, true, true, false, false, false, false, false] rfl rfl (by kernel_rfl) (fun _ _ _ h => h) (Or.inl ⟨by rfl, ?_⟩) hHeld ?_ ?_
    rotate_left
    · intro w' s0
      go_simp
      with_reducible rfl
    rotate_left
    · simp only [Act.put, List.setIfInBounds_toArray, List.set_cons_zero, List.set_cons_succ, i64_w, i32_w]
      rfl
    refine one_ (i := 3) (N := some 15) #[true, true, true, true, false, false, false, false] rfl rfl (by kernel_rfl) (by decide) (fun K hK => ?_)
    refine goes_ Try.func58 (by kernel_rfl) rfl #[.pointer (some ⟨rb, 0, none⟩)] (by rfl) rfl rfl (by simp only [List.map_toArray, List.map_cons, List.map_nil]; rfl) ?_
    with_reducible refine (op_c (w := wp.drew) HS1.out.rd (by omega)).mono ?_
    rintro e wa ⟨v, rfl, ⟨o, ho, hso, _⟩, hR, hg⟩
    unfold opV at ho
    subst ho
    have HS2 := Lib.hid (HS1.out.step hR hg)
    have HSO := Lib.hid hso
    clear hR hg hso
    have d2 := HS2.out.var.cell 2
    simp at d2
    refine ⟨_, rfl, ?_⟩
    refine hK.out _ _ (d2) (fun hHeld => ?_)
    clear hK K
    refine norm_ (a' := ?_) ?_ ?_
    rotate_left
    · show Act.put _ (some 15) _ = _
      simp only [Act.put, List.setIfInBounds_toArray, List.set_cons_zero, List.set_cons_succ, i64_w, i32_w]
      rfl
    refine one_ (i := 4) (N := some 16) #[true, true, true, true, true, false, false, false] rfl rfl (by kernel_rfl) (by decide) (fun K hK => ?_)
    refine value_ (w1 := ?_) (v := ?_) (by rfl) rfl ?_ ?_
    rotate_left 2
    · go_simp
      constructor
      · rfl
      · rfl
    have HS3 := Lib.hid (HS2.out.bel (bel_alloc (Below.refl _ _) (.cells #[.int .i64 o.kind, .string o.name, .string o.dest, .int .i64 o.n, .string o.text] 61)))
    have hB : Blk (wa.alloc (.cells #[.int .i64 o.kind, .string o.name, .string o.dest, .int .i64 o.n, .string o.text] 61)) wa.heap.size #[.int .i64 o.kind, .string o.name, .string o.dest, .int .i64 o.n, .string o.text] 61 := Blk.new _ _ _
    have e2 := HS3.out.var.cell 2
    simp at e2
    refine hK.out _ _ (e2) (fun hHeld => ?_)
    clear hK K
    refine norm_ (a' := ?_) ?_ ?_
    rotate_left
    · show Act.put _ (some 16) _ = _
      simp only [Act.put, List.setIfInBounds_toArray, List.set_cons_zero, List.set_cons_succ, i64_w, i32_w]
      rfl
    refine one_ (i := 5) (N := some 17) #[true, true, true, true, true, true, false, false] rfl rfl (by kernel_rfl) (by decide) (fun K hK => ?_)
    refine tail_append_step (by rfl) (.tmp 13) (.tmp 16) rfl rfl o ⟨wa.heap.size, 0, none⟩ 1 rfl ?hc HS3.out.ops (by omega) HS3.out.l4 ?_
    case hc => exact blk_cells5 hB
    intro v1 wb hv1 hgr
    obtain ⟨no, hno⟩ : ∃ no, l.ops ++ [o] = no := ⟨_, rfl⟩
    rw [hno] at hv1
    have HNO := Lib.hid hno
    clear hno
    obtain ⟨C4, c4, rfl, hc4, hC4⟩ := hv1.reads
    have HS4 := Lib.hid (HS3.out.app hgr hv1)
    have hv := HS3.out.var.grown hgr (blk_otherT HS3.out.ops HS3.out.var (by decide))
    have k2 := hv.cell 2
    have kf := hv.free 2
    have ky := hv.lt
    simp at k2
    refine hK.out _ _ (k2) (fun hHeld => ?_)
    clear hK K
    refine norm_ (a' := ?_) ?_ ?_
    rotate_left
    · show Act.put _ (some 17) _ = _
      simp only [Act.put, List.setIfInBounds_toArray, List.set_cons_zero, List.set_cons_succ, i64_w, i32_w]
      rfl
    refine pure_ (i := 6) (N := some 18) (v := ?_) (a' := ?_) #[true, true, true, true, true, true, true, false] rfl rfl (by kernel_rfl) (fun _ _ _ h => h) (Or.inl ⟨by rfl, ?_⟩) ?_ ?_
    rotate_left
    · intro w'
      go_simp
      with_reducible rfl
    rotate_left
    · simp only [Act.put, List.setIfInBounds_toArray, List.set_cons_zero, List.set_cons_succ, i64_w, i32_w]
      rfl
    refine last_ (i := 7) (N := none) #[true, true, true, true, true, true, true, true] rfl rfl (by kernel_rfl) (by decide) (fun K hK => ?_)
    refine skip_ (w1 := ?_) (by rfl) rfl ?_ ?_
    rotate_left
    · go_simp
      rfl
    refine hK.out _ _ ?_
    clear hK K
    refine done_ (by kernel_rfl) ?_
    have hl4 := HL.out.snoc (by omega) HSO.out
    rw [HNO.out] at hl4
    have HL4 := Lib.hid hl4
    clear hl4 hc4 hC4 k2 kf ky hv hv1 hgr hB d2 e2 c2 g2 cy HS HS1 HS2 HS3
    generalize wb.setCell ⟨lb, 2, none⟩ (.slice C4 no.length c4) = wc at HS4 ⊢
    have HS := HS4
    have r0 := HS.out.res.cell 0
    have r1 := HS.out.res.cell 1
    have r2 := HS.out.res.cell 2
    have r3 := HS.out.res.cell 3
    have f0 := HS.out.res.free 0
    have f1 := HS.out.res.free 1
    have f2 := HS.out.res.free 2
    have f3 := HS.out.res.free 3
    have ry := HS.out.res.lt
    have c0 := HS.out.var.cell 0
    have c1 := HS.out.var.cell 1
    have c2 := HS.out.var.cell 2
    have c3 := HS.out.var.cell 3
    have g0 := HS.out.var.free 0
    have g1 := HS.out.var.free 1
    have g2 := HS.out.var.free 2
    have g3 := HS.out.var.free 3
    have cy := HS.out.var.lt
    simp at r0 r1 r2 r3 c0 c1 c2 c3
    go_wp2
    have ho := LgB.fin (l := ⟨l.base, no, l.safe⟩) HS4.out
    refine bodyPost_ret (results_cell_row rfl _ _ w.heap.size 51 _ (0, 0) _ rfl (HS4.out.res.set4 _ _ _ _) Try.underlying51 rfl (by kernel_rfl)) rfl ?_
    exact ⟨_, _, _, _, _, _, _, rfl, HL4.out, ho.1, ho.2⟩
  have r0 := HS.out.res.cell 0
  have r1 := HS.out.res.cell 1
  have r2 := HS.out.res.cell 2
  have r3 := HS.out.res.cell 3
  have f0 := HS.out.res.free 0
  have f1 := HS.out.res.free 1
  have f2 := HS.out.res.free 2
  have f3 := HS.out.res.free 3
  have ry := HS.out.res.lt
  have c0 := HS.out.var.cell 0
  have c1 := HS.out.var.cell 1
  have c2 := HS.out.var.cell 2
  have c3 := HS.out.var.cell 3
  have g0 := HS.out.var.free 0
  have g1 := HS.out.var.free 1
  have g2 := HS.out.var.free 2
  have g3 := HS.out.var.free 3
  have cy := HS.out.var.lt
  simp at r0 r1 r2 r3 c0 c1 c2 c3
  go_wp2
  have ho := HS.out.fin
  refine bodyPost_ret (results_cell_row rfl _ _ w.heap.size 51 _ (0, 0) _ rfl (HS.out.res.set4 _ _ _ _) Try.underlying51 rfl (by kernel_rfl)) rfl ?_
  exact ⟨_, _, _, _, _, _, _, rfl, HL.out.more (Nat.le_succ _), ho.1, ho.2⟩
/-- A log that was drawn, and how many changes are left. -/
def DrewLF (n : Nat) (w : World) (e : Ending) (w' : World) : Prop := ∃ (A B C : Option Addr) (a b c : Nat) (l : Log) (left : Int), e = .returned (.tuple #[.agg #[.slice A l.base.slots.length a, .slice B l.base.vols.length b, .slice C l.ops.length c, .int .i64 l.safe], .int .i64 left]) ∧ DrawnL l n ∧ -100 ≤ left ∧ left ≤ 100 ∧ LogIn w' A B C a b c l ∧ Bel w w'
end Go.Proofs.Ytccllgpaafgjaaa
/- Plain Lean: the pieces of a volume; what the four changes make of the pieces. -/


namespace Go.Proofs.Ytccllgpaafgjaaa
open Go.RowKit Go.Proofs.YtccllgpaafgjaaaW.PrintWords
set_option linter.unusedVariables false
set_option linter.unusedSimpArgs false

def blksOf (vs : List Vol) (t : ByteArray) : List Int := if volIdx vs t < 0 then [] else (volAt vs (volIdx vs t)).blocks
theorem lgBlks_len (vs : List Vol) (t : ByteArray) : lgBlks vs t = (blksOf vs t).length := by unfold lgBlks blksOf; split <;> rfl
/-! ### pieces -/
def pc (s : List Slot) (pl : Int) : ByteArray := if 0 < pl then slotText s pl else e0
def pieces (p : Pool) (t : ByteArray) : List ByteArray := (blksOf p.vols t).map (pc p.slots)
/-- The slots of q say what p's say, where they are used. -/
def Keeps (s t : List Slot) : Prop := ∀ (m : Nat) (y : Slot), t[m]? = some y → ∃ x, s[m]? = some x ∧ (y.text = x.text ∨ y.uses = 0)
theorem Keeps.refl (s : List Slot) : Keeps s s := fun m y hy => ⟨y, hy, .inl rfl⟩
/-! ### the four changes -/
/-- The pool behind a write of the empty piece. -/
def freeP (p : Pool) (name : ByteArray) (b : Int) (i : Nat) (v : Vol) : Pool := ⟨backS p name b, p.vols.set i ⟨name, v.blocks.set b.toNat 0⟩⟩
/-! ### reading -/
/-- A volume of one pool reads as one of another pool does. -/
def RdEq (a : Pool) (x : ByteArray) (b : Pool) (y : ByteArray) : Prop := lgBlks a.vols x = lgBlks b.vols y ∧ ∀ i : Nat, (i : Int) < lgBlks a.vols x → readOk a x i = true ∧ readOk b y i = true ∧ readV a x i = readV b y i
/-- All volumes but one read as they did. -/
def OthEq (a b : Pool) (n : ByteArray) : Prop := ∀ x ∈ a.vols, x.name ≠ n → RdEq a x.name b x.name
end Go.Proofs.Ytccllgpaafgjaaa
/- Plain Lean: how many places are free behind the four changes; a clone that is gone; two volumes made in any order; what is written again. -/

namespace Go.Proofs.Ytccllgpaafgjaaa
open Go.RowKit Go.Proofs.YtccllgpaafgjaaaW.PrintWords
set_option linter.unusedVariables false
set_option linter.unusedSimpArgs false

/-! ### free places -/
theorem PoolP.free {p : Pool} (h : PoolP p) : storeFree p.slots = freeN p.slots := storeFree_yes (storeOk_iff.2 h.s)
/-! ### a clone that is gone -/
/-! ### rows by name -/
/-! ### two volumes made -/
/-! ### all gone -/
/-! ### room for a piece -/
theorem hasBlk_iff {vs : List Vol} (h : VolsP vs) {t : ByteArray} {b : Int} : 0 ≤ hasBlk vs t b ↔ 0 ≤ b ∧ b < (blksOf vs t).length := by
  unfold hasBlk blksOf
  by_cases hv : volIdx vs t < 0
  · rw [if_pos hv, if_pos hv]; simp
  · rw [if_neg hv, if_neg hv]
    cases hr : inR b 0 ((volAt vs (volIdx vs t)).blocks.length - 1)
    · rw [inR_no] at hr
      simp only [Bool.false_eq_true, if_false]
      omega
    · rw [inR_iff] at hr
      rw [if_pos rfl]
      omega
theorem PoolP.wr {p : Pool} (h : PoolP p) {t : ByteArray} {b : Int} (h0 : 0 ≤ b) (h1 : b < lgBlks p.vols t) : ∃ i v x, Wr p t b i v x :=
  hasBlk_wr ((hasBlk_iff h.v).2 ⟨h0, by rw [lgBlks_len] at h1; exact h1⟩)
/-- Is a piece at some place? -/
def there (s : List Slot) (t : ByteArray) : Bool := decide (0 ≤ idx (fun o : Slot => o.text.toList == t.toList) s)
/-! the places behind a block's piece given back -/
end Go.Proofs.Ytccllgpaafgjaaa
/- lgReads, lgOthers: true where volumes read the same. -/



namespace Go.Proofs.Ytccllgpaafgjaaa
open Go.RowKit Go.Proofs.YtccllgpaafgjaaaW.PrintWords
set_option linter.unusedVariables false
set_option linter.unusedSimpArgs false

end Go.Proofs.Ytccllgpaafgjaaa
/- Plain Lean: texts of pools; changes apart and twice; how many pieces there are. -/


namespace Go.Proofs.Ytccllgpaafgjaaa
open Go.RowKit Go.Proofs.YtccllgpaafgjaaaW.PrintWords
set_option linter.unusedVariables false
set_option linter.unusedSimpArgs false

/-! ### texts -/
def spB : ByteArray := ⟨#[32]⟩
def dashB : ByteArray := ⟨#[45]⟩
def nlB : ByteArray := ⟨#[10]⟩
def blkT (s : List Slot) (pl : Int) : ByteArray := if 0 < pl ∧ 0 < (s.getD (pl - 1).toNat Slot.z).uses then slotText s pl else dashB
def volRun (s : List Slot) (a : ByteArray) (bs : List Int) : ByteArray := bs.foldl (fun a pl => a ++ (spB ++ blkT s pl)) a
def volT (v : Vol) (s : List Slot) : ByteArray := if volOk v && storeOk s then volRun s v.name v.blocks else e0
def poolRun (s : List Slot) (a : ByteArray) (vs : List Vol) : ByteArray := vs.foldl (fun a v => a ++ (volT v s ++ nlB)) a
def poolT (p : Pool) : ByteArray := if poolOk p then poolRun p.slots e0 p.vols else e0
def tagT (t : ByteArray) (ps : List ByteArray) : ByteArray := ps.foldl (fun a x => a ++ (spB ++ if x = e0 then dashB else x)) t
def tags (p : Pool) : List (ByteArray × List ByteArray) := p.vols.map fun v => (v.name, v.blocks.map (pc p.slots))
/-! ### changes -/
def opPieces (o : Op) (f : ByteArray → List ByteArray) (t : ByteArray) : List ByteArray :=
  if o.kind = 1 then (if t = o.name then List.replicate o.n.toNat e0 else f t)
  else if o.kind = 2 then (if t = o.name then (f o.name).set o.n.toNat o.text else f t)
  else if o.kind = 3 then (if t = o.dest then f o.name else f t)
  else (if t = o.name then [] else f t)
/-! ### how many pieces -/
def kstep (seen : List ByteArray) (t : ByteArray) : List ByteArray := if (t.toList == []) || seen.any (fun o => o.toList == t.toList) then seen else seen ++ [t]
def usedT : List Slot → List ByteArray
  | [] => []
  | x :: s => if x.uses = 0 then usedT s else x.text :: usedT s
def allT (p : Pool) (vs : List Vol) : List ByteArray := vs.flatMap fun v => pieces p v.name
end Go.Proofs.Ytccllgpaafgjaaa
/- VolText of the program and of the reference: volT. -/


namespace Go.Proofs.Ytccllgpaafgjaaa
open Go.RowKit Go.Proofs.YtccllgpaafgjaaaW.PrintWords
set_option linter.unusedVariables false
set_option linter.unusedSimpArgs false

end Go.Proofs.Ytccllgpaafgjaaa
/- PoolText of the program and of the reference: poolT. -/


namespace Go.Proofs.Ytccllgpaafgjaaa
open Go.RowKit Go.Proofs.YtccllgpaafgjaaaW.PrintWords
set_option linter.unusedVariables false
set_option linter.unusedSimpArgs false

end Go.Proofs.Ytccllgpaafgjaaa
/- l71Name: a name that is drawn. -/

namespace Go.Proofs.Ytccllgpaafgjaaa
open Go.RowKit Go.Proofs.YtccllgpaafgjaaaW.PrintWords Go.Proofs.YtccllgpaafgjaaaW.PrintLast
set_option linter.unusedVariables false
set_option linter.unusedSimpArgs false

def NameV (v : Value) : Prop := ∃ s : ByteArray, v = .string s ∧ s.size ≤ 1048576
structure NmSt (w W : World) (rb k base : Nat) (v0 v1 : Value) (p : Pool) (bvs : List Value) : Prop where
  box : Blk W w.heap.size #[v0, v1] 49
  rd : Rd W rb k
  own : OwnP W base v0 v1 p bvs
  g : w.grownBy W (some rb)
  l3 : rb < w.heap.size
theorem NmSt.step {w W W' : World} {rb k k' base : Nat} {v0 v1 : Value} {p : Pool} {bvs : List Value} (h : NmSt w W rb k base v0 v1 p bvs) (hR : Rd W' rb k') (hg : W.grownBy W' (some rb)) : NmSt w W' rb k' base v0 v1 p bvs :=
  ⟨h.box.grown hg (fun e => by injection e with e; have := h.l3; omega), hR, h.own.rd h.rd hg, grown_tr h.g hg, h.l3⟩
theorem NmSt.bel {w W W' : World} {rb k base : Nat} {v0 v1 : Value} {p : Pool} {bvs : List Value} (h : NmSt w W rb k base v0 v1 p bvs) (hb : Bel W W') : NmSt w W' rb k base v0 v1 p bvs :=
  ⟨h.box.bel hb, h.rd.bel hb, h.own.bel hb, grown_tr h.g (grown_of_bel hb _), h.l3⟩
def five : List ByteArray := [sOf [65], sOf [66], sOf [67], sOf [68], sOf [69]]
end Go.Proofs.Ytccllgpaafgjaaa
/- DrawPoolText, DrawPoolGone. -/

namespace Go.Proofs.Ytccllgpaafgjaaa
open Go.RowKit Go.Proofs.YtccllgpaafgjaaaW.PrintWords Go.Proofs.YtccllgpaafgjaaaW.PrintLast
set_option linter.unusedVariables false
set_option linter.unusedSimpArgs false

theorem bel_of_grown {w w1 w2 : World} (h : Bel w w1) {rb : Nat} (hg : w1.grownBy w2 (some rb)) (hr : w.heap.size ≤ rb) : Bel w w2 := h.grown hg h.size (fun k e => by injection e with e; omega)
/-- What DrawPoolText leaves. -/
def DrewT (w : World) (e : Ending) (w' : World) : Prop := ∃ (v0 v1 : Value) (p : Pool) (bvs : List Value), e = .returned (.agg #[v0, v1]) ∧ DrawnP p ∧ OwnP w' w.heap.size v0 v1 p bvs ∧ Bel w w'
structure DrSt (w W : World) (rb k : Nat) (v0 v1 : Value) (p : Pool) (bvs : List Value) (pb : Nat) : Prop where
  res : Blk W w.heap.size #[.slice none 0 0, .slice none 0 0] 49
  pool : Blk W pb #[v0, v1] 49
  rd : Rd W rb k
  own : OwnP W w.heap.size v0 v1 p bvs
  bel : Bel w W
  l1 : w.heap.size < rb
  l2 : rb < pb
theorem DrSt.step {w W W' : World} {rb k k' : Nat} {v0 v1 : Value} {p : Pool} {bvs : List Value} {pb : Nat} (h : DrSt w W rb k v0 v1 p bvs pb) (hR : Rd W' rb k') (hg : W.grownBy W' (some rb)) : DrSt w W' rb k' v0 v1 p bvs pb :=
  ⟨h.res.grown hg (fun e => by injection e with e; have := h.l1; omega), h.pool.grown hg (fun e => by injection e with e; have := h.l2; omega), hR, h.own.rd h.rd hg, bel_of_grown h.bel hg (Nat.le_of_lt h.l1), h.l1, h.l2⟩
theorem DrSt.below {w W W' : World} {rb k : Nat} {v0 v1 : Value} {p : Pool} {bvs : List Value} {pb : Nat} (h : DrSt w W rb k v0 v1 p bvs pb) (hb : Bel W W') : DrSt w W' rb k v0 v1 p bvs pb :=
  ⟨h.res.bel hb, h.pool.bel hb, h.rd.bel hb, h.own.bel hb, h.bel.tr hb, h.l1, h.l2⟩
/-- What DrawPoolGone leaves. -/
def DrewG (w : World) (e : Ending) (w' : World) : Prop := ∃ (v0 v1 : Value) (p : Pool) (bvs : List Value) (s : ByteArray), e = .returned (.tuple #[.agg #[v0, v1], .string s]) ∧ s.size ≤ 1048576 ∧ DrawnP p ∧ OwnP w' w.heap.size v0 v1 p bvs ∧ Bel w w'
end Go.Proofs.Ytccllgpaafgjaaa
/- DrawPoolMake. -/

namespace Go.Proofs.Ytccllgpaafgjaaa
open Go.RowKit Go.Proofs.YtccllgpaafgjaaaW.PrintWords Go.Proofs.YtccllgpaafgjaaaW.PrintLast
set_option linter.unusedVariables false
set_option linter.unusedSimpArgs false

def eight : List ByteArray := [sOf [65], sOf [66], sOf [67], sOf [68], sOf [68], sOf [67], sOf [69], sOf []]
/-- What DrawPoolMake leaves. -/
def DrewM (w : World) (e : Ending) (w' : World) : Prop := ∃ (v0 v1 : Value) (p : Pool) (bvs : List Value) (s : ByteArray) (n : Int), e = .returned (.tuple #[.agg #[v0, v1], .string s, .int .i64 n]) ∧ s ∈ eight ∧ 1 ≤ n ∧ n ≤ 100 ∧ DrawnP p ∧ OwnP w' w.heap.size v0 v1 p bvs ∧ Bel w w'
end Go.Proofs.Ytccllgpaafgjaaa
/- DrawPoolClone. -/


namespace Go.Proofs.Ytccllgpaafgjaaa
open Go.RowKit Go.Proofs.YtccllgpaafgjaaaW.PrintWords Go.Proofs.YtccllgpaafgjaaaW.PrintLast
set_option linter.unusedVariables false
set_option linter.unusedSimpArgs false

/-- What DrawPoolClone leaves. -/
def DrewC (w : World) (e : Ending) (w' : World) : Prop := ∃ (v0 v1 : Value) (p : Pool) (bvs : List Value) (s d : ByteArray), e = .returned (.tuple #[.agg #[v0, v1], .string s, .string d]) ∧ s.size ≤ 1048576 ∧ d ∈ five ∧ DrawnP p ∧ OwnP w' w.heap.size v0 v1 p bvs ∧ Bel w w'
end Go.Proofs.Ytccllgpaafgjaaa
/- Plain Lean: what each law says of the four changes, as its body's walk needs it. -/



namespace Go.Proofs.Ytccllgpaafgjaaa
open Go.RowKit Go.Proofs.YtccllgpaafgjaaaW.PrintWords
set_option linter.unusedVariables false
set_option linter.unusedSimpArgs false

def four : List ByteArray := [sOf [97], sOf [98, 99, 100], sOf [], sOf [100, 100]]
def fourB : List ByteArray := [sOf [97], sOf [98, 98], sOf [], sOf [99, 100]]
/-! ### gone -/
/-! ### make -/
/-! ### clone -/
/-! ### write -/
end Go.Proofs.Ytccllgpaafgjaaa
/- DrawPoolWrite. -/

namespace Go.Proofs.Ytccllgpaafgjaaa
open Go.RowKit Go.Proofs.YtccllgpaafgjaaaW.PrintWords Go.Proofs.YtccllgpaafgjaaaW.PrintLast
set_option linter.unusedVariables false
set_option linter.unusedSimpArgs false

/-- What DrawPoolWrite leaves. -/
def DrewW (w : World) (e : Ending) (w' : World) : Prop := ∃ (v0 v1 : Value) (p : Pool) (bvs : List Value) (s : ByteArray) (n : Int) (tx : ByteArray), e = .returned (.tuple #[.agg #[v0, v1], .string s, .int .i64 n, .string tx]) ∧ s.size ≤ 1048576 ∧ -100 ≤ n ∧ n ≤ 100 ∧ tx.size ≤ 1048576 ∧ DrawnP p ∧ OwnP w' w.heap.size v0 v1 p bvs ∧ Bel w w'
end Go.Proofs.Ytccllgpaafgjaaa
/- What the laws' bodies need of each callee, in one form; StoreFind of the program. -/












namespace Go.Proofs.Ytccllgpaafgjaaa
open Go.RowKit Go.Proofs.YtccllgpaafgjaaaW.PrintWords
set_option linter.unusedVariables false
set_option linter.unusedSimpArgs false

/-- A new pool and whether all went well. -/
def NewP (w : World) (q : Pool) (ok : Bool) (e : Ending) (w' : World) : Prop := ∃ A0 A1 c0 c1, e = .returned (.tuple #[.agg #[.slice A0 q.slots.length c0, .slice A1 q.vols.length c1], .bool ok]) ∧ PoolIn w' A0 A1 c0 c1 q ∧ Bel w w'
theorem MadePB.new {w : World} {q : Pool} {ok : Bool} {e : Ending} {w' : World} (h : MadePB w q ok e w') : NewP w q ok e w' := by
  obtain ⟨v0, v1, bvs, rfl, ho, hb⟩ := h
  obtain ⟨A0, A1, c0, c1, rfl, rfl, hi⟩ := ho.reads
  exact ⟨A0, A1, c0, c1, rfl, hi, hb⟩
/-- A pool in a variable. -/
structure PVar (w : World) (b : Nat) (A0 A1 : Option Addr) (c0 c1 : Nat) (q : Pool) : Prop where
  blk : Blk w b #[.slice A0 q.slots.length c0, .slice A1 q.vols.length c1] 49
  inn : PoolIn w A0 A1 c0 c1 q
theorem PVar.bel {w w' : World} {b : Nat} {A0 A1 : Option Addr} {c0 c1 : Nat} {q : Pool} (h : PVar w b A0 A1 c0 c1 q) (hb : Bel w w') : PVar w' b A0 A1 c0 c1 q := ⟨h.blk.bel hb, h.inn.bel hb⟩
theorem PVar.new {w : World} {A0 A1 : Option Addr} {c0 c1 : Nat} {q : Pool} (h : PoolIn w A0 A1 c0 c1 q) : PVar (w.alloc (.cells #[.slice A0 q.slots.length c0, .slice A1 q.vols.length c1] 49)) w.heap.size A0 A1 c0 c1 q := ⟨Blk.new _ _ _, h.alloc _⟩
theorem PVar.c0 {w : World} {b : Nat} {A0 A1 : Option Addr} {c0 c1 : Nat} {q : Pool} (h : PVar w b A0 A1 c0 c1 q) : w.cell? ⟨b, 0, none⟩ = some (.slice A0 q.slots.length c0) := by have := h.blk.cell 0; simpa using this
theorem PVar.c1 {w : World} {b : Nat} {A0 A1 : Option Addr} {c0 c1 : Nat} {q : Pool} (h : PVar w b A0 A1 c0 c1 q) : w.cell? ⟨b, 1, none⟩ = some (.slice A1 q.vols.length c1) := by have := h.blk.cell 1; simpa using this
theorem PVar.lt {w : World} {b : Nat} {A0 A1 : Option Addr} {c0 c1 : Nat} {q : Pool} (h : PVar w b A0 A1 c0 c1 q) : b < w.heap.size := h.blk.lt

/-! ### cases of a change -/

section
variable {w : World} {A0 A1 : Option Addr} {c0 c1 : Nat} {p q : Pool} {ok : Bool}
abbrev poolV (A0 A1 : Option Addr) (c0 c1 : Nat) (p : Pool) : Value := .agg #[.slice A0 p.slots.length c0, .slice A1 p.vols.length c1]
theorem implOk_n {b : Bool} (h : PoolIn w A0 A1 c0 c1 p) (hs : SmallP p) (he : poolOk p = b) :
    Calls Try.prog 33 #[.agg #[.slice A0 p.slots.length c0, .slice A1 p.vols.length c1]] w (Ret (.bool b) w) := he ▸ implPoolOk_in h hs
end

/-! ### drawn pools -/
def DrewG' (w : World) (e : Ending) (w' : World) : Prop := ∃ A0 A1 c0 c1, ∃ (p : Pool) (s : ByteArray), e = .returned (.tuple #[.agg #[.slice A0 p.slots.length c0, .slice A1 p.vols.length c1], .string s]) ∧ s.size ≤ 1048576 ∧ DrawnP p ∧ PoolIn w' A0 A1 c0 c1 p ∧ Bel w w'
theorem DrewG.new {w : World} {e : Ending} {w' : World} (h : DrewG w e w') : DrewG' w e w' := by
  obtain ⟨v0, v1, p, bvs, s, rfl, hs, hp, ho, hb⟩ := h
  obtain ⟨A0, A1, c0, c1, rfl, rfl, hi⟩ := ho.reads
  exact ⟨A0, A1, c0, c1, p, s, rfl, hs, hp, hi, hb⟩
def DrewT' (w : World) (e : Ending) (w' : World) : Prop := ∃ A0 A1 c0 c1, ∃ (p : Pool), e = .returned (.agg #[.slice A0 p.slots.length c0, .slice A1 p.vols.length c1]) ∧ DrawnP p ∧ PoolIn w' A0 A1 c0 c1 p ∧ Bel w w'
theorem DrewT.new {w : World} {e : Ending} {w' : World} (h : DrewT w e w') : DrewT' w e w' := by
  obtain ⟨v0, v1, p, bvs, rfl, hp, ho, hb⟩ := h
  obtain ⟨A0, A1, c0, c1, rfl, rfl, hi⟩ := ho.reads
  exact ⟨A0, A1, c0, c1, p, rfl, hp, hi, hb⟩
def DrewM' (w : World) (e : Ending) (w' : World) : Prop := ∃ A0 A1 c0 c1, ∃ (p : Pool) (s : ByteArray) (n : Int), e = .returned (.tuple #[.agg #[.slice A0 p.slots.length c0, .slice A1 p.vols.length c1], .string s, .int .i64 n]) ∧ s ∈ eight ∧ 1 ≤ n ∧ n ≤ 100 ∧ DrawnP p ∧ PoolIn w' A0 A1 c0 c1 p ∧ Bel w w'
theorem DrewM.new {w : World} {e : Ending} {w' : World} (h : DrewM w e w') : DrewM' w e w' := by
  obtain ⟨v0, v1, p, bvs, s, n, rfl, hs, h1, h2, hp, ho, hb⟩ := h
  obtain ⟨A0, A1, c0, c1, rfl, rfl, hi⟩ := ho.reads
  exact ⟨A0, A1, c0, c1, p, s, n, rfl, hs, h1, h2, hp, hi, hb⟩
def DrewC' (w : World) (e : Ending) (w' : World) : Prop := ∃ A0 A1 c0 c1, ∃ (p : Pool) (s d : ByteArray), e = .returned (.tuple #[.agg #[.slice A0 p.slots.length c0, .slice A1 p.vols.length c1], .string s, .string d]) ∧ s.size ≤ 1048576 ∧ d ∈ five ∧ DrawnP p ∧ PoolIn w' A0 A1 c0 c1 p ∧ Bel w w'
theorem DrewC.new {w : World} {e : Ending} {w' : World} (h : DrewC w e w') : DrewC' w e w' := by
  obtain ⟨v0, v1, p, bvs, s, d, rfl, hs, hd, hp, ho, hb⟩ := h
  obtain ⟨A0, A1, c0, c1, rfl, rfl, hi⟩ := ho.reads
  exact ⟨A0, A1, c0, c1, p, s, d, rfl, hs, hd, hp, hi, hb⟩
def DrewW' (w : World) (e : Ending) (w' : World) : Prop := ∃ A0 A1 c0 c1, ∃ (p : Pool) (s : ByteArray) (n : Int) (tx : ByteArray), e = .returned (.tuple #[.agg #[.slice A0 p.slots.length c0, .slice A1 p.vols.length c1], .string s, .int .i64 n, .string tx]) ∧ s.size ≤ 1048576 ∧ -100 ≤ n ∧ n ≤ 100 ∧ tx.size ≤ 1048576 ∧ DrawnP p ∧ PoolIn w' A0 A1 c0 c1 p ∧ Bel w w'
theorem DrewW.new {w : World} {e : Ending} {w' : World} (h : DrewW w e w') : DrewW' w e w' := by
  obtain ⟨v0, v1, p, bvs, s, n, tx, rfl, hs, h1, h2, ht, hp, ho, hb⟩ := h
  obtain ⟨A0, A1, c0, c1, rfl, rfl, hi⟩ := ho.reads
  exact ⟨A0, A1, c0, c1, p, s, n, tx, rfl, hs, h1, h2, ht, hp, hi, hb⟩

/-! ### StoreFind -/
def findB (s : List Slot) (t : ByteArray) : Bool := storeOk s && (tOk t && !t.toList.isEmpty)
def FoundB (s : List Slot) (t : ByteArray) (w : World) (e : Ending) (w' : World) : Prop := ∃ n : Int, e = .returned (.tuple #[.int .i64 n, .bool (findB s t && there s t)]) ∧ Bel w w'
end Go.Proofs.Ytccllgpaafgjaaa
/- What the laws' bodies on logs need of each callee, in one form. -/




namespace Go.Proofs.Ytccllgpaafgjaaa
open Go.RowKit Go.Proofs.YtccllgpaafgjaaaW.PrintWords
set_option linter.unusedVariables false
set_option linter.unusedSimpArgs false

section
variable {w : World} {A B C : Option Addr} {a b c : Nat} {l x : Log} {q : Pool} {ok : Bool}
theorem implLogOk_n (h : LogIn w A B C a b c l) (hs : SmallL l) (he : logOk l = ok) : Calls Try.prog 25 #[.agg #[.slice A l.base.slots.length a, .slice B l.base.vols.length b, .slice C l.ops.length c, .int .i64 l.safe]] w (Ret (.bool ok) w) := he ▸ implLogOk_c h hs
theorem specLogOk_n (h : LogIn w A B C a b c l) (hs : SmallL l) (he : logOk l = ok) : Calls Try.prog 26 #[.agg #[.slice A l.base.slots.length a, .slice B l.base.vols.length b, .slice C l.ops.length c, .int .i64 l.safe]] w (Ret (.bool ok) w) := he ▸ specLogOk_c h hs
theorem implLogPool_n (h : LogIn w A B C a b c l) (hs : SmallL l) (he : poolF l = q) : Calls Try.prog 29 #[.agg #[.slice A l.base.slots.length a, .slice B l.base.vols.length b, .slice C l.ops.length c, .int .i64 l.safe]] w (NewP1 w q) := (he ▸ implLogPool_c h hs).mono fun _ _ h => h.new1
theorem specLogPool_n (h : LogIn w A B C a b c l) (hs : SmallL l) (he : poolF l = q) : Calls Try.prog 31 #[.agg #[.slice A l.base.slots.length a, .slice B l.base.vols.length b, .slice C l.ops.length c, .int .i64 l.safe]] w (NewP1 w q) := (he ▸ specLogPool_c h hs).mono fun _ _ h => h.new1
theorem implDoM {A0 A1 : Option Addr} {c0 c1 : Nat} {p : Pool} {o : Op} (h : PoolIn w A0 A1 c0 c1 p) (hp : PoolP p) (ho : SmallO o) (he : opR p o = some q) : Calls Try.prog 32 #[.agg #[.slice A0 p.slots.length c0, .slice A1 p.vols.length c1], .agg #[.int .i64 o.kind, .string o.name, .string o.dest, .int .i64 o.n, .string o.text]] w (MadePB w q true) := by
  have h1 := implOpDo_c (o := o) h hp.small ho
  have h2 := chO_opR hp o
  rw [h2.1, h2.2 _ he, he] at h1
  exact h1
end
theorem poolF_small {l : Log} : SmallP (poolF l) := by
  unfold poolF
  split
  · exact runV_small
  · exact noP_small
theorem newL_ok : logOk ⟨newP, [], 0⟩ = true := logOk_iff.2 ⟨newP, newP_ok, rfl, by decide, Int.le_refl _, by decide⟩
theorem newL_small : SmallL ⟨newP, [], 0⟩ := ⟨newP_ok.small, by simp, fun x hx => by simp at hx⟩
theorem LogIn.cutTo {w : World} {A B C : Option Addr} {a b c : Nat} {l : Log} (h : LogIn w A B C a b c l) {k : Nat} (hk : k ≤ l.ops.length) {os : List Op} (ho : l.ops.take k = os) (s : Int) : LogIn w A B C a b c ⟨l.base, os, s⟩ := by
  subst ho
  have e : (l.ops.take k).length = k := by rw [List.length_take]; omega
  exact ⟨h.p, by show kOp.C w C (l.ops.take k).length (l.ops.take k); rw [e]; exact C_take h.o k hk, by show (l.ops.take k).length ≤ c; have := h.oc; omega⟩
end Go.Proofs.Ytccllgpaafgjaaa
/- The law FnLogLess: its body walked. -/

namespace Go.Proofs.Ytccllgpaafgjaaa
open Go.RowKit Go.Proofs.YtccllgpaafgjaaaW.PrintWords Go.Proofs.YtccllgpaafgjaaaW.PrintLast
set_option linter.unusedVariables false
set_option linter.unusedSimpArgs false

set_option maxHeartbeats 32000000 in
set_option maxRecDepth 10000 in
theorem lawFnLogLess_c {w : World} {A : Option Addr} {n c : Nat} {bs : List Int} {A2 : Option Addr} {n2 c2 : Nat} {bs2 : List Int} (h : CodeIn w A n c bs) (hn : n ≤ 9223372036854775807) (h2 : CodeIn w A2 n2 c2 bs2) (hn2 : n2 ≤ 9223372036854775807) :
    Calls Try.prog 6 #[.slice A n c, .slice A2 n2 c2] w (Ret (.bool true) w) := by
  have H := Lib.hid h
  clear h
  have H2 := Lib.hid h2
  clear h2
  go_enter Try.func6, Try.ntmps6
  by_cases hlen : (1048576 : Int) < (n : Int)
  · go_wp2
    go_ret
    exact ⟨rfl, Below.refl _ _⟩
  by_cases hlen2 : (1048576 : Int) < (n2 : Int)
  · go_wp2
    go_ret
    exact ⟨rfl, Below.refl _ _⟩
  go_wp2_with fail
  refine (drawLogOk_c H.out hn).mono ?_
  rintro e w1 ⟨Al, Bl, Cl, al, bl, cl, l, rfl, hd, hin, hb⟩
  have HSl := Lib.hid hd.small
  have hll := hd.len
  have Jl := Lib.hid hin
  have KW := Lib.hid hb
  clear hd hin hb
  cases hok : logOk l
  · have HOK := Lib.hid hok
    clear hok
    go_wp2_with fail
    have hnew := LVar.new Jl.out
    have hb : Bel w1 (w1.alloc (.cells #[.slice Al l.base.slots.length al, .slice Bl l.base.vols.length bl, .slice Cl l.ops.length cl, .int .i64 l.safe] 51)) := bel_alloc (Below.refl _ _) _
    generalize w1.alloc (.cells #[.slice Al l.base.slots.length al, .slice Bl l.base.vols.length bl, .slice Cl l.ops.length cl, .int .i64 l.safe] 51) = W2 at hnew hb ⊢
    replace Jl := Lib.hid (Jl.out.bel hb)
    replace KW := Lib.hid (KW.out.tr hb)
    obtain ⟨bkl, hbn⟩ : ∃ b, w1.heap.size = b := ⟨_, rfl⟩
    rw [hbn] at hnew ⊢
    have Vl := Lib.hid hnew
    clear hnew hb hbn Jl
    refine (implLogOk_n Vl.out.inn HSl.out HOK.out).mono ?_
    rintro e w3 ⟨rfl, hb⟩
    replace Vl := Lib.hid (Vl.out.bel hb)
    replace KW := Lib.hid (KW.out.tr hb)
    clear hb
    have el0 : w3.cell? ⟨bkl, 0, none⟩ = some (.slice Al l.base.slots.length al) := Vl.out.c0
    have el1 : w3.cell? ⟨bkl, 1, none⟩ = some (.slice Bl l.base.vols.length bl) := Vl.out.c1
    have el2 : w3.cell? ⟨bkl, 2, none⟩ = some (.slice Cl l.ops.length cl) := Vl.out.c2
    have el3 : w3.cell? ⟨bkl, 3, none⟩ = some (.int .i64 l.safe) := Vl.out.c3
    have eyl := Vl.out.lt
    go_wp2_with fail
    clear el0 el1 el2 el3 eyl
    refine (specLogOk_n Vl.out.inn HSl.out HOK.out).mono ?_
    rintro e w4 ⟨rfl, hb⟩
    replace Vl := Lib.hid (Vl.out.bel hb)
    replace KW := Lib.hid (KW.out.tr hb)
    clear hb
    have el0 : w4.cell? ⟨bkl, 0, none⟩ = some (.slice Al l.base.slots.length al) := Vl.out.c0
    have el1 : w4.cell? ⟨bkl, 1, none⟩ = some (.slice Bl l.base.vols.length bl) := Vl.out.c1
    have el2 : w4.cell? ⟨bkl, 2, none⟩ = some (.slice Cl l.ops.length cl) := Vl.out.c2
    have el3 : w4.cell? ⟨bkl, 3, none⟩ = some (.int .i64 l.safe) := Vl.out.c3
    have eyl := Vl.out.lt
    go_wp2_with fail
    clear el0 el1 el2 el3 eyl
    refine (specLogOk_n Vl.out.inn HSl.out HOK.out).mono ?_
    rintro e w5 ⟨rfl, hb⟩
    replace Vl := Lib.hid (Vl.out.bel hb)
    replace KW := Lib.hid (KW.out.tr hb)
    clear hb
    have el0 : w5.cell? ⟨bkl, 0, none⟩ = some (.slice Al l.base.slots.length al) := Vl.out.c0
    have el1 : w5.cell? ⟨bkl, 1, none⟩ = some (.slice Bl l.base.vols.length bl) := Vl.out.c1
    have el2 : w5.cell? ⟨bkl, 2, none⟩ = some (.slice Cl l.ops.length cl) := Vl.out.c2
    have el3 : w5.cell? ⟨bkl, 3, none⟩ = some (.int .i64 l.safe) := Vl.out.c3
    have eyl := Vl.out.lt
    go_wp2
    all_goals
      go_ret
      exact ⟨rfl, KW.out⟩
  have HOK := Lib.hid hok
  obtain ⟨q0, hlp⟩ := logOk_iff.1 hok
  have HLP := Lib.hid hlp
  have hl20 := hlp.len
  have hs0 := hlp.s0
  have hs1 := hlp.s1
  clear hok hlp
  go_wp2_with fail
  have hnew := LVar.new Jl.out
  have hb : Bel w1 (w1.alloc (.cells #[.slice Al l.base.slots.length al, .slice Bl l.base.vols.length bl, .slice Cl l.ops.length cl, .int .i64 l.safe] 51)) := bel_alloc (Below.refl _ _) _
  generalize w1.alloc (.cells #[.slice Al l.base.slots.length al, .slice Bl l.base.vols.length bl, .slice Cl l.ops.length cl, .int .i64 l.safe] 51) = W2 at hnew hb ⊢
  replace Jl := Lib.hid (Jl.out.bel hb)
  replace KW := Lib.hid (KW.out.tr hb)
  obtain ⟨bkl, hbn⟩ : ∃ b, w1.heap.size = b := ⟨_, rfl⟩
  rw [hbn] at hnew ⊢
  have Vl := Lib.hid hnew
  clear hnew hb hbn Jl
  refine (implLogOk_n Vl.out.inn HSl.out HOK.out).mono ?_
  rintro e w3 ⟨rfl, hb⟩
  replace Vl := Lib.hid (Vl.out.bel hb)
  replace KW := Lib.hid (KW.out.tr hb)
  clear hb
  have el0 : w3.cell? ⟨bkl, 0, none⟩ = some (.slice Al l.base.slots.length al) := Vl.out.c0
  have el1 : w3.cell? ⟨bkl, 1, none⟩ = some (.slice Bl l.base.vols.length bl) := Vl.out.c1
  have el2 : w3.cell? ⟨bkl, 2, none⟩ = some (.slice Cl l.ops.length cl) := Vl.out.c2
  have el3 : w3.cell? ⟨bkl, 3, none⟩ = some (.int .i64 l.safe) := Vl.out.c3
  have eyl := Vl.out.lt
  go_wp2_with fail
  clear el0 el1 el2 el3 eyl
  refine (specLogOk_n Vl.out.inn HSl.out HOK.out).mono ?_
  rintro e w4 ⟨rfl, hb⟩
  replace Vl := Lib.hid (Vl.out.bel hb)
  replace KW := Lib.hid (KW.out.tr hb)
  clear hb
  have el0 : w4.cell? ⟨bkl, 0, none⟩ = some (.slice Al l.base.slots.length al) := Vl.out.c0
  have el1 : w4.cell? ⟨bkl, 1, none⟩ = some (.slice Bl l.base.vols.length bl) := Vl.out.c1
  have el2 : w4.cell? ⟨bkl, 2, none⟩ = some (.slice Cl l.ops.length cl) := Vl.out.c2
  have el3 : w4.cell? ⟨bkl, 3, none⟩ = some (.int .i64 l.safe) := Vl.out.c3
  have eyl := Vl.out.lt
  go_wp2
  clear el0 el1 el2 el3 eyl
  have gq0 := gb_cell (show w4.cell? ⟨bkl, 0, none⟩ = some (.slice Al l.base.slots.length al) from Vl.out.c0)
  have gq1 := gb_cell (show w4.cell? ⟨bkl, 1, none⟩ = some (.slice Bl l.base.vols.length bl) from Vl.out.c1)
  have gq2 := gb_cell (show w4.cell? ⟨bkl, 2, none⟩ = some (.slice Cl l.ops.length cl) from Vl.out.c2)
  have gq3 := gb_cell (show w4.cell? ⟨bkl, 3, none⟩ = some (.int .i64 l.safe) from Vl.out.c3)
  have hw1 : wrap64 ((l.ops.length : Int) - l.safe) = (l.ops.length : Int) - l.safe := by unfold wrap64; omega
  have hw2 : wrap64 ((l.ops.length : Int) - l.safe + 1) = (l.ops.length : Int) - l.safe + 1 := by unfold wrap64; omega
  refine wp_region_gb (by kernel_rfl) (by kernel_rfl) ?_
  repeat (first | go_big_quiet_skip | (go_big_quiet_want; go_big_quiet_op; go_big_quiet_on))
  refine wpQuiet_nil ?_
  rintro w5 ⟨⟨_, hb⟩, rfl⟩
  replace hb : Bel w4 w5 := hb
  clear gq0 gq1 gq2 gq3
  replace Vl := Lib.hid (Vl.out.bel hb)
  replace KW := Lib.hid (KW.out.tr hb)
  clear hb
  obtain ⟨k, hkv, hk0, hk1⟩ : ∃ k : Nat, wrap64 (l.safe + (n2 : Int) % ((l.ops.length : Int) - l.safe + 1)) = (k : Int) ∧ l.safe ≤ k ∧ k ≤ l.ops.length := by
    have h1 := Int.emod_nonneg (n2 : Int) (show (l.ops.length : Int) - l.safe + 1 ≠ 0 by omega)
    have h2 := Int.emod_lt_of_pos (n2 : Int) (show 0 < (l.ops.length : Int) - l.safe + 1 by omega)
    refine ⟨(l.safe + (n2 : Int) % ((l.ops.length : Int) - l.safe + 1)).toNat, ?_, by omega, by omega⟩
    unfold wrap64
    omega
  rw [hkv]
  clear hkv hw1 hw2
  have hw3 : wrap64 ((l.ops.length : Int) + 1) = (l.ops.length : Int) + 1 := by unfold wrap64; omega
  obtain ⟨r, hlx⟩ := less_log HLP.out hk0 hk1
  obtain ⟨tk, htk⟩ : ∃ tk, l.ops.take k = tk := ⟨_, rfl⟩
  have hlk : tk.length = k := by rw [← htk, List.length_take]; omega
  rw [htk] at hlx
  have hjn := Vl.out.inn.cutTo hk1 htk l.safe
  subst hlk
  have HLX := Lib.hid hlx
  have JX := Lib.hid hjn
  have HLY := Lib.hid (over_log (l := ⟨l.base, l.ops, (l.ops.length : Int) + 1⟩) rfl)
  have HSx := Lib.hid (show SmallL ⟨l.base, tk, l.safe⟩ from ⟨HSl.out.base, htk ▸ HSl.out.ops.take _⟩)
  have HSy := Lib.hid (show SmallL ⟨l.base, l.ops, (l.ops.length : Int) + 1⟩ from ⟨HSl.out.base, HSl.out.ops⟩)
  have hcl : tk.length ≤ cl := Nat.le_trans hk1 Vl.out.inn.oc
  clear hlx hjn htk hs0 hs1 hk0
  have el0 : w5.cell? ⟨bkl, 0, none⟩ = some (.slice Al l.base.slots.length al) := Vl.out.c0
  have el1 : w5.cell? ⟨bkl, 1, none⟩ = some (.slice Bl l.base.vols.length bl) := Vl.out.c1
  have el2 : w5.cell? ⟨bkl, 2, none⟩ = some (.slice Cl l.ops.length cl) := Vl.out.c2
  have el3 : w5.cell? ⟨bkl, 3, none⟩ = some (.int .i64 l.safe) := Vl.out.c3
  have eyl := Vl.out.lt
  go_wp2_with fail
  clear el0 el1 el2 el3 eyl
  have hjy : LogIn w5 Al Bl Cl al bl cl ⟨l.base, l.ops, (l.ops.length : Int) + 1⟩ := ⟨Vl.out.inn.p, Vl.out.inn.o, Vl.out.inn.oc⟩
  have hx1 : LVar ((w5.alloc (.cells #[.slice Al l.base.slots.length al, .slice Bl l.base.vols.length bl, .slice Cl tk.length cl, .int .i64 l.safe] 51)).alloc (.cells #[.slice Al l.base.slots.length al, .slice Bl l.base.vols.length bl, .slice Cl l.ops.length cl, .int .i64 ((l.ops.length : Int) + 1)] 51)) w5.heap.size Al Bl Cl al bl cl ⟨l.base, tk, l.safe⟩ := ⟨(Blk.new _ _ _).alloc _, (JX.out.alloc _).alloc _⟩
  have hy1 : LVar ((w5.alloc (.cells #[.slice Al l.base.slots.length al, .slice Bl l.base.vols.length bl, .slice Cl tk.length cl, .int .i64 l.safe] 51)).alloc (.cells #[.slice Al l.base.slots.length al, .slice Bl l.base.vols.length bl, .slice Cl l.ops.length cl, .int .i64 ((l.ops.length : Int) + 1)] 51)) (w5.heap.size + 1) Al Bl Cl al bl cl ⟨l.base, l.ops, (l.ops.length : Int) + 1⟩ := ⟨Blk.nw2 _ _ _ _, (hjy.alloc _).alloc _⟩
  have hb : Bel w5 ((w5.alloc (.cells #[.slice Al l.base.slots.length al, .slice Bl l.base.vols.length bl, .slice Cl tk.length cl, .int .i64 l.safe] 51)).alloc (.cells #[.slice Al l.base.slots.length al, .slice Bl l.base.vols.length bl, .slice Cl l.ops.length cl, .int .i64 ((l.ops.length : Int) + 1)] 51)) := bel_alloc (bel_alloc (Below.refl _ _) _) _
  generalize ((w5.alloc (.cells #[.slice Al l.base.slots.length al, .slice Bl l.base.vols.length bl, .slice Cl tk.length cl, .int .i64 l.safe] 51)).alloc (.cells #[.slice Al l.base.slots.length al, .slice Bl l.base.vols.length bl, .slice Cl l.ops.length cl, .int .i64 ((l.ops.length : Int) + 1)] 51)) = W6 at hx1 hy1 hb ⊢
  obtain ⟨bkx, hbn⟩ : ∃ b, w5.heap.size = b := ⟨_, rfl⟩
  rw [hbn] at hx1 hy1 ⊢
  obtain ⟨bky, hbo⟩ : ∃ b, bkx + 1 = b := ⟨_, rfl⟩
  rw [hbo] at hy1 ⊢
  have Vx := Lib.hid hx1
  have Vy := Lib.hid hy1
  replace Vl := Lib.hid (Vl.out.bel hb)
  replace KW := Lib.hid (KW.out.tr hb)
  clear hx1 hy1 hb hbn hbo JX hw3 hjy
  refine (implLogOk_n (l := ⟨l.base, tk, l.safe⟩) Vx.out.inn HSx.out HLX.out.ok).mono ?_
  rintro e w7 ⟨rfl, hb⟩
  replace Vl := Lib.hid (Vl.out.bel hb)
  replace Vx := Lib.hid (Vx.out.bel hb)
  replace Vy := Lib.hid (Vy.out.bel hb)
  replace KW := Lib.hid (KW.out.tr hb)
  clear hb
  have el0 : w7.cell? ⟨bkl, 0, none⟩ = some (.slice Al l.base.slots.length al) := Vl.out.c0
  have el1 : w7.cell? ⟨bkl, 1, none⟩ = some (.slice Bl l.base.vols.length bl) := Vl.out.c1
  have el2 : w7.cell? ⟨bkl, 2, none⟩ = some (.slice Cl l.ops.length cl) := Vl.out.c2
  have el3 : w7.cell? ⟨bkl, 3, none⟩ = some (.int .i64 l.safe) := Vl.out.c3
  have eyl := Vl.out.lt
  have ex0 : w7.cell? ⟨bkx, 0, none⟩ = some (.slice Al l.base.slots.length al) := Vx.out.c0
  have ex1 : w7.cell? ⟨bkx, 1, none⟩ = some (.slice Bl l.base.vols.length bl) := Vx.out.c1
  have ex2 : w7.cell? ⟨bkx, 2, none⟩ = some (.slice Cl tk.length cl) := Vx.out.c2
  have ex3 : w7.cell? ⟨bkx, 3, none⟩ = some (.int .i64 l.safe) := Vx.out.c3
  have eyx := Vx.out.lt
  have ey0 : w7.cell? ⟨bky, 0, none⟩ = some (.slice Al l.base.slots.length al) := Vy.out.c0
  have ey1 : w7.cell? ⟨bky, 1, none⟩ = some (.slice Bl l.base.vols.length bl) := Vy.out.c1
  have ey2 : w7.cell? ⟨bky, 2, none⟩ = some (.slice Cl l.ops.length cl) := Vy.out.c2
  have ey3 : w7.cell? ⟨bky, 3, none⟩ = some (.int .i64 ((l.ops.length : Int) + 1)) := Vy.out.c3
  have eyy := Vy.out.lt
  go_wp2_with fail
  clear el0 el1 el2 el3 eyl
  clear ex0 ex1 ex2 ex3 eyx
  clear ey0 ey1 ey2 ey3 eyy
  refine (implLogOk_n (l := ⟨l.base, l.ops, (l.ops.length : Int) + 1⟩) Vy.out.inn HSy.out HLY.out).mono ?_
  rintro e w8 ⟨rfl, hb⟩
  replace Vl := Lib.hid (Vl.out.bel hb)
  replace Vx := Lib.hid (Vx.out.bel hb)
  replace Vy := Lib.hid (Vy.out.bel hb)
  replace KW := Lib.hid (KW.out.tr hb)
  clear hb
  have HNL := Lib.hid implLogNew_c
  have HNO := Lib.hid newL_ok
  have HNS := Lib.hid newL_small
  generalize newP = np at HNL HNO HNS
  have el0 : w8.cell? ⟨bkl, 0, none⟩ = some (.slice Al l.base.slots.length al) := Vl.out.c0
  have el1 : w8.cell? ⟨bkl, 1, none⟩ = some (.slice Bl l.base.vols.length bl) := Vl.out.c1
  have el2 : w8.cell? ⟨bkl, 2, none⟩ = some (.slice Cl l.ops.length cl) := Vl.out.c2
  have el3 : w8.cell? ⟨bkl, 3, none⟩ = some (.int .i64 l.safe) := Vl.out.c3
  have eyl := Vl.out.lt
  have ex0 : w8.cell? ⟨bkx, 0, none⟩ = some (.slice Al l.base.slots.length al) := Vx.out.c0
  have ex1 : w8.cell? ⟨bkx, 1, none⟩ = some (.slice Bl l.base.vols.length bl) := Vx.out.c1
  have ex2 : w8.cell? ⟨bkx, 2, none⟩ = some (.slice Cl tk.length cl) := Vx.out.c2
  have ex3 : w8.cell? ⟨bkx, 3, none⟩ = some (.int .i64 l.safe) := Vx.out.c3
  have eyx := Vx.out.lt
  have ey0 : w8.cell? ⟨bky, 0, none⟩ = some (.slice Al l.base.slots.length al) := Vy.out.c0
  have ey1 : w8.cell? ⟨bky, 1, none⟩ = some (.slice Bl l.base.vols.length bl) := Vy.out.c1
  have ey2 : w8.cell? ⟨bky, 2, none⟩ = some (.slice Cl l.ops.length cl) := Vy.out.c2
  have ey3 : w8.cell? ⟨bky, 3, none⟩ = some (.int .i64 ((l.ops.length : Int) + 1)) := Vy.out.c3
  have eyy := Vy.out.lt
  go_wp2_with fail
  clear el0 el1 el2 el3 eyl
  clear ex0 ex1 ex2 ex3 eyx
  clear ey0 ey1 ey2 ey3 eyy
  refine (HNL.out _).mono ?_
  rintro e w9 ⟨An, Bn, Cn, an, bn, cn, rfl, hin, hb⟩
  replace Vl := Lib.hid (Vl.out.bel hb)
  replace Vx := Lib.hid (Vx.out.bel hb)
  replace Vy := Lib.hid (Vy.out.bel hb)
  replace KW := Lib.hid (KW.out.tr hb)
  have Jn := Lib.hid hin
  clear hin hb
  have el0 : w9.cell? ⟨bkl, 0, none⟩ = some (.slice Al l.base.slots.length al) := Vl.out.c0
  have el1 : w9.cell? ⟨bkl, 1, none⟩ = some (.slice Bl l.base.vols.length bl) := Vl.out.c1
  have el2 : w9.cell? ⟨bkl, 2, none⟩ = some (.slice Cl l.ops.length cl) := Vl.out.c2
  have el3 : w9.cell? ⟨bkl, 3, none⟩ = some (.int .i64 l.safe) := Vl.out.c3
  have eyl := Vl.out.lt
  have ex0 : w9.cell? ⟨bkx, 0, none⟩ = some (.slice Al l.base.slots.length al) := Vx.out.c0
  have ex1 : w9.cell? ⟨bkx, 1, none⟩ = some (.slice Bl l.base.vols.length bl) := Vx.out.c1
  have ex2 : w9.cell? ⟨bkx, 2, none⟩ = some (.slice Cl tk.length cl) := Vx.out.c2
  have ex3 : w9.cell? ⟨bkx, 3, none⟩ = some (.int .i64 l.safe) := Vx.out.c3
  have eyx := Vx.out.lt
  have ey0 : w9.cell? ⟨bky, 0, none⟩ = some (.slice Al l.base.slots.length al) := Vy.out.c0
  have ey1 : w9.cell? ⟨bky, 1, none⟩ = some (.slice Bl l.base.vols.length bl) := Vy.out.c1
  have ey2 : w9.cell? ⟨bky, 2, none⟩ = some (.slice Cl l.ops.length cl) := Vy.out.c2
  have ey3 : w9.cell? ⟨bky, 3, none⟩ = some (.int .i64 ((l.ops.length : Int) + 1)) := Vy.out.c3
  have eyy := Vy.out.lt
  go_wp2_with fail
  clear el0 el1 el2 el3 eyl
  clear ex0 ex1 ex2 ex3 eyx
  clear ey0 ey1 ey2 ey3 eyy
  refine (implLogOk_n Jn.out HNS.out HNO.out).mono ?_
  rintro e w10 ⟨rfl, hb⟩
  replace Vl := Lib.hid (Vl.out.bel hb)
  replace Vx := Lib.hid (Vx.out.bel hb)
  replace Vy := Lib.hid (Vy.out.bel hb)
  replace Jn := Lib.hid (Jn.out.bel hb)
  replace KW := Lib.hid (KW.out.tr hb)
  clear hb
  have el0 : w10.cell? ⟨bkl, 0, none⟩ = some (.slice Al l.base.slots.length al) := Vl.out.c0
  have el1 : w10.cell? ⟨bkl, 1, none⟩ = some (.slice Bl l.base.vols.length bl) := Vl.out.c1
  have el2 : w10.cell? ⟨bkl, 2, none⟩ = some (.slice Cl l.ops.length cl) := Vl.out.c2
  have el3 : w10.cell? ⟨bkl, 3, none⟩ = some (.int .i64 l.safe) := Vl.out.c3
  have eyl := Vl.out.lt
  have ex0 : w10.cell? ⟨bkx, 0, none⟩ = some (.slice Al l.base.slots.length al) := Vx.out.c0
  have ex1 : w10.cell? ⟨bkx, 1, none⟩ = some (.slice Bl l.base.vols.length bl) := Vx.out.c1
  have ex2 : w10.cell? ⟨bkx, 2, none⟩ = some (.slice Cl tk.length cl) := Vx.out.c2
  have ex3 : w10.cell? ⟨bkx, 3, none⟩ = some (.int .i64 l.safe) := Vx.out.c3
  have eyx := Vx.out.lt
  have ey0 : w10.cell? ⟨bky, 0, none⟩ = some (.slice Al l.base.slots.length al) := Vy.out.c0
  have ey1 : w10.cell? ⟨bky, 1, none⟩ = some (.slice Bl l.base.vols.length bl) := Vy.out.c1
  have ey2 : w10.cell? ⟨bky, 2, none⟩ = some (.slice Cl l.ops.length cl) := Vy.out.c2
  have ey3 : w10.cell? ⟨bky, 3, none⟩ = some (.int .i64 ((l.ops.length : Int) + 1)) := Vy.out.c3
  have eyy := Vy.out.lt
  go_wp2
  all_goals
    go_ret
    exact ⟨rfl, KW.out⟩
end Go.Proofs.Ytccllgpaafgjaaa
/- Arguments opened: a code of bytes that came in. -/


namespace Go.Proofs.Ytccllgpaafgjaaa
open Go.RowKit Go.Proofs.YtccllgpaafgjaaaW.PrintWords Go.Joins Go.ChangeShapes Go.WideShapes Go.Deep
set_option linter.unusedVariables false
set_option linter.unusedSimpArgs false

section
variable {H : Type} {enc : TypeId × Value → H} {w : World} {base : Nat} {spare : Nat → Bool} {held : Bool}
theorem open_byteE {n : Nat} {c : List Value} {y : DataW H × List MemPlace} (h : DataW.trod enc Try.prog w base spare held n 5 c = some y) : ∃ z : Int, kByte.K w z c ∧ 0 ≤ z ∧ z ≤ 255 := by
  obtain ⟨z, rfl, _, hw⟩ := DataW.trod_int Try.underlying5 h
  have hb := bounds_u8 hw
  exact ⟨z, rfl, hb.1, hb.2⟩
theorem cells_byte : Try.prog.cellsOf 5 = 1 := by kernel_rfl
set_option maxRecDepth 100000 in
theorem bytes_lt {r : Reach} {b0 : Nat} {ad : Addr} {n c : Nat} (h : Value.okWide Try.prog w r b0 31 (.slice (some ad) n c)) : ad.block < w.heap.size := by
  simp only [Value.okWide, Try.underlying31, Cell.okWide, Cell.ok, World.has] at h
  obtain ⟨_, _, _, _, row, cells, hs, _⟩ := h
  unfold World.shape? at hs
  by_cases hl : ad.block < w.heap.size
  · exact hl
  · rw [Array.getElem?_eq_none (by omega)] at hs
    cases hs
set_option maxRecDepth 100000 in
theorem open_bytes {r : Reach} {b0 : Nat} {v : Value} {d : DataW H} {p : List MemPlace} (hv : Value.okWide Try.prog w r b0 31 v) (h : DataW.Trod enc Try.prog w base spare held 31 v d p) :
    ∃ A n c, ∃ bs : List Int, v = .slice A n c ∧ CodeIn w A n c bs ∧ n ≤ 9223372036854775807 := by
  obtain ⟨a, len, cap, rfl⟩ := okWide_slice Try.underlying31 hv
  obtain ⟨fuel, hf⟩ := h
  obtain ⟨A, c, xs, e, hc, hC, hQ, hm⟩ := open_row kByte (Q := fun z => 0 ≤ z ∧ z ≤ 255) Try.underlying31 cells_byte (fun n c y hl h => by
    obtain ⟨z, hz, h0, h1⟩ := open_byteE h
    exact ⟨z, hz, h0, h1⟩) hf
  simp [Value.cells] at e
  obtain ⟨rfl, rfl, rfl⟩ := e
  have := big_max
  exact ⟨_, _, _, xs, rfl, ⟨rfl, hc, hC, hQ, fun ad e => by subst e; exact bytes_lt hv⟩, by omega⟩
end
end Go.Proofs.Ytccllgpaafgjaaa
/- The law FnLogPool: its body walked. -/

namespace Go.Proofs.Ytccllgpaafgjaaa
open Go.RowKit Go.Proofs.YtccllgpaafgjaaaW.PrintWords Go.Proofs.YtccllgpaafgjaaaW.PrintLast
set_option linter.unusedVariables false
set_option linter.unusedSimpArgs false

set_option maxHeartbeats 32000000 in
set_option maxRecDepth 10000 in
theorem lawFnLogPool_c {w : World} {A : Option Addr} {n c : Nat} {bs : List Int} (h : CodeIn w A n c bs) (hn : n ≤ 9223372036854775807) :
    Calls Try.prog 7 #[.slice A n c] w (Ret (.bool true) w) := by
  have H := Lib.hid h
  clear h
  go_enter Try.func7, Try.ntmps7
  by_cases hlen : (1048576 : Int) < (n : Int)
  · go_wp2
    go_ret
    exact ⟨rfl, Below.refl _ _⟩
  go_wp2_with fail
  refine (drawLogPool_c H.out hn).mono ?_
  rintro e w1 ⟨Al, Bl, Cl, al, bl, cl, l, rfl, hd, hin, hb⟩
  have HSl := Lib.hid hd.small
  have hll := hd.len
  have Jl := Lib.hid hin
  have KW := Lib.hid hb
  clear hd hin hb
  obtain ⟨p, hpf⟩ : ∃ p, poolF l = p := ⟨_, rfl⟩
  have HPF := Lib.hid hpf
  have HSp := Lib.hid (hpf ▸ poolF_small : SmallP p)
  clear hpf
  go_wp2_with fail
  have hnew := LVar.new Jl.out
  have hb : Bel w1 (w1.alloc (.cells #[.slice Al l.base.slots.length al, .slice Bl l.base.vols.length bl, .slice Cl l.ops.length cl, .int .i64 l.safe] 51)) := bel_alloc (Below.refl _ _) _
  generalize w1.alloc (.cells #[.slice Al l.base.slots.length al, .slice Bl l.base.vols.length bl, .slice Cl l.ops.length cl, .int .i64 l.safe] 51) = W2 at hnew hb ⊢
  replace Jl := Lib.hid (Jl.out.bel hb)
  replace KW := Lib.hid (KW.out.tr hb)
  obtain ⟨bkl, hbn⟩ : ∃ b, w1.heap.size = b := ⟨_, rfl⟩
  rw [hbn] at hnew ⊢
  have Vl := Lib.hid hnew
  clear hnew hb hbn Jl
  refine (implLogPool_n Vl.out.inn HSl.out HPF.out).mono ?_
  rintro e w3 ⟨Ap, Bp, cp, dp, rfl, hin, hb⟩
  replace Vl := Lib.hid (Vl.out.bel hb)
  replace KW := Lib.hid (KW.out.tr hb)
  have Ip := Lib.hid hin
  clear hin hb
  cases hok : logOk l
  · have HOK := Lib.hid hok
    clear hok
    have el0 := Vl.out.c0
    have el1 := Vl.out.c1
    have el2 := Vl.out.c2
    have el3 := Vl.out.c3
    have eyl := Vl.out.lt
    go_wp2
    clear el0 el1 el2 el3 eyl
    have hnew := PVar.new Ip.out
    have hb : Bel w3 (w3.alloc (.cells #[.slice Ap p.slots.length cp, .slice Bp p.vols.length dp] 49)) := bel_alloc (Below.refl _ _) _
    generalize w3.alloc (.cells #[.slice Ap p.slots.length cp, .slice Bp p.vols.length dp] 49) = W4 at hnew hb ⊢
    replace Vl := Lib.hid (Vl.out.bel hb)
    replace Ip := Lib.hid (Ip.out.bel hb)
    replace KW := Lib.hid (KW.out.tr hb)
    obtain ⟨bkp, hbn⟩ : ∃ b, w3.heap.size = b := ⟨_, rfl⟩
    rw [hbn] at hnew ⊢
    have Pp := Lib.hid hnew
    clear hnew hb hbn Ip
    have hb : Bel W4 W4.drew := (Below.refl _ _).drew
    replace Vl := Lib.hid (Vl.out.bel hb)
    replace Pp := Lib.hid (Pp.out.bel hb)
    replace KW := Lib.hid (KW.out.tr hb)
    clear hb
    refine start_ (n := 10) (S := fun w' => w'.cell? ⟨bkp, 0, none⟩ = some (.slice Ap p.slots.length cp) ∧ w'.cell? ⟨bkp, 1, none⟩ = some (.slice Bp p.vols.length dp) ∧ w'.cell? ⟨bkl, 0, none⟩ = some (.slice Al l.base.slots.length al) ∧ w'.cell? ⟨bkl, 1, none⟩ = some (.slice Bl l.base.vols.length bl) ∧ w'.cell? ⟨bkl, 2, none⟩ = some (.slice Cl l.ops.length cl) ∧ w'.cell? ⟨bkl, 3, none⟩ = some (.int .i64 l.safe)) (ds := []) #[false, false, false, false, false, false, false, false, false, false] (by kernel_rfl) rfl rfl ⟨Pp.out.c0, Pp.out.c1, Vl.out.c0, Vl.out.c1, Vl.out.c2, Vl.out.c3⟩ (fun hHeld => ?_)
    refine take_ (i := 0) (N := some 16) (v := ?_) (a' := ?_) #[true, false, false, false, false, false, false, false, false, false] rfl rfl (by kernel_rfl) (fun _ _ _ h => h) (Or.inl ⟨by rfl, ?_⟩) hHeld ?_ ?_
    rotate_left
    · rintro w' ⟨s0, s1, s2, s3, s4, s5⟩
      go_simp
      with_reducible rfl
    rotate_left
    · simp only [Act.put, List.setIfInBounds_toArray, List.set_cons_zero, List.set_cons_succ, i64_w, i32_w]
      rfl
    refine take_ (i := 1) (N := some 17) (v := ?_) (a' := ?_) #[true, true, false, false, false, false, false, false, false, false] rfl rfl (by kernel_rfl) (fun _ _ _ h => h) (Or.inl ⟨by rfl, ?_⟩) hHeld ?_ ?_
    rotate_left
    · rintro w' ⟨s0, s1, s2, s3, s4, s5⟩
      go_simp
      with_reducible rfl
    rotate_left
    · simp only [Act.put, List.setIfInBounds_toArray, List.set_cons_zero, List.set_cons_succ, i64_w, i32_w]
      rfl
    refine one_ (i := 2) (N := some 18) #[true, true, true, false, false, false, false, false, false, false] rfl rfl (by kernel_rfl) (by decide) (fun K hK => ?_)
    refine goes_ Try.func31 (by kernel_rfl) rfl #[.agg #[.slice Al l.base.slots.length al, .slice Bl l.base.vols.length bl, .slice Cl l.ops.length cl, .int .i64 l.safe]] (by rfl) rfl rfl (by simp only [List.map_toArray, List.map_cons, List.map_nil]; rfl) ?_
    with_reducible refine (specLogPool_n Vl.out.inn HSl.out HPF.out).mono ?_
    rintro e w5 ⟨Ay5, By5, cy5, dy5, rfl, hin, hb⟩
    replace Vl := Lib.hid (Vl.out.bel hb)
    replace Pp := Lib.hid (Pp.out.bel hb)
    replace KW := Lib.hid (KW.out.tr hb)
    have Iy5 := Lib.hid hin
    clear hin hb
    refine ⟨_, rfl, ?_⟩
    refine hK.out _ _ ⟨Pp.out.c0, Pp.out.c1, Vl.out.c0, Vl.out.c1, Vl.out.c2, Vl.out.c3⟩ (fun hHeld => ?_)
    clear hK K
    refine norm_ (a' := ?_) ?_ ?_
    rotate_left
    · show Act.put _ (some 18) _ = _
      simp only [Act.put, List.setIfInBounds_toArray, List.set_cons_zero, List.set_cons_succ, i64_w, i32_w]
      rfl
    refine one_ (i := 3) (N := some 19) #[true, true, true, true, false, false, false, false, false, false] rfl rfl (by kernel_rfl) (by decide) (fun K hK => ?_)
    refine goes_ Try.func30 (by kernel_rfl) rfl #[.agg #[.slice Ap p.slots.length cp, .slice Bp p.vols.length dp], .agg #[.slice Ay5 p.slots.length cy5, .slice By5 p.vols.length dy5]] (by rfl) rfl rfl (by simp only [List.map_toArray, List.map_cons, List.map_nil]; rfl) ?_
    with_reducible refine (lgPool_c Pp.out.inn Iy5.out HSp.out).mono ?_
    rintro e w6 ⟨rfl, hb⟩
    replace Vl := Lib.hid (Vl.out.bel hb)
    replace Pp := Lib.hid (Pp.out.bel hb)
    replace Iy5 := Lib.hid (Iy5.out.bel hb)
    replace KW := Lib.hid (KW.out.tr hb)
    clear hb
    refine ⟨_, rfl, ?_⟩
    refine hK.out _ _ ⟨Pp.out.c0, Pp.out.c1, Vl.out.c0, Vl.out.c1, Vl.out.c2, Vl.out.c3⟩ (fun hHeld => ?_)
    clear hK K
    refine norm_ (a' := ?_) ?_ ?_
    rotate_left
    · show Act.put _ (some 19) _ = _
      simp only [Act.put, List.setIfInBounds_toArray, List.set_cons_zero, List.set_cons_succ, i64_w, i32_w]
      rfl
    refine pure_ (i := 4) (N := some 20) (v := ?_) (a' := ?_) #[true, true, true, true, true, false, false, false, false, false] rfl rfl (by kernel_rfl) (fun _ _ _ h => h) (Or.inl ⟨by rfl, ?_⟩) ?_ ?_
    rotate_left
    · intro w'
      go_simp
      with_reducible rfl
    rotate_left
    · simp only [Act.put, List.setIfInBounds_toArray, List.set_cons_zero, List.set_cons_succ, i64_w, i32_w]
      rfl
    refine pure_ (i := 5) (N := some 21) (v := ?_) (a' := ?_) #[true, true, true, true, true, true, false, false, false, false] rfl rfl (by kernel_rfl) (fun _ _ _ h => h) (Or.inl ⟨by rfl, ?_⟩) ?_ ?_
    rotate_left
    · intro w'
      go_simp
      with_reducible rfl
    rotate_left
    · simp only [Act.put, List.setIfInBounds_toArray, List.set_cons_zero, List.set_cons_succ, i64_w, i32_w]
      rfl
    refine take_ (i := 6) (N := some 22) (v := ?_) (a' := ?_) #[true, true, true, true, true, true, true, false, false, false] rfl rfl (by kernel_rfl) (fun _ _ _ h => h) (Or.inl ⟨by rfl, ?_⟩) hHeld ?_ ?_
    rotate_left
    · rintro w' ⟨s0, s1, s2, s3, s4, s5⟩
      go_simp
      with_reducible rfl
    rotate_left
    · simp only [Act.put, List.setIfInBounds_toArray, List.set_cons_zero, List.set_cons_succ, i64_w, i32_w]
      rfl
    refine one_ (i := 7) (N := some 23) #[true, true, true, true, true, true, true, true, false, false] rfl rfl (by kernel_rfl) (by decide) (fun K hK => ?_)
    refine goes_ Try.func26 (by kernel_rfl) rfl #[.agg #[.slice Al l.base.slots.length al, .slice Bl l.base.vols.length bl, .slice Cl l.ops.length cl, .int .i64 l.safe]] (by rfl) rfl rfl (by simp only [List.map_toArray, List.map_cons, List.map_nil]; rfl) ?_
    with_reducible refine (specLogOk_n Vl.out.inn HSl.out HOK.out).mono ?_
    rintro e w7 ⟨rfl, hb⟩
    replace Vl := Lib.hid (Vl.out.bel hb)
    replace Pp := Lib.hid (Pp.out.bel hb)
    replace Iy5 := Lib.hid (Iy5.out.bel hb)
    replace KW := Lib.hid (KW.out.tr hb)
    clear hb
    refine ⟨_, rfl, ?_⟩
    refine hK.out _ _ ⟨Pp.out.c0, Pp.out.c1, Vl.out.c0, Vl.out.c1, Vl.out.c2, Vl.out.c3⟩ (fun hHeld => ?_)
    clear hK K
    refine norm_ (a' := ?_) ?_ ?_
    rotate_left
    · show Act.put _ (some 23) _ = _
      simp only [Act.put, List.setIfInBounds_toArray, List.set_cons_zero, List.set_cons_succ, i64_w, i32_w]
      rfl
    refine pure_ (i := 8) (N := some 24) (v := ?_) (a' := ?_) #[true, true, true, true, true, true, true, true, true, false] rfl rfl (by kernel_rfl) (fun _ _ _ h => h) (Or.inl ⟨by rfl, ?_⟩) ?_ ?_
    rotate_left
    · intro w'
      go_simp
      with_reducible rfl
    rotate_left
    · simp only [Act.put, List.setIfInBounds_toArray, List.set_cons_zero, List.set_cons_succ, i64_w, i32_w]
      rfl
    refine pure_ (i := 9) (N := some 25) (v := ?_) (a' := ?_) #[true, true, true, true, true, true, true, true, true, true] rfl rfl (by kernel_rfl) (fun _ _ _ h => h) (Or.inl ⟨by rfl, ?_⟩) ?_ ?_
    rotate_left
    · intro w'
      go_simp
      with_reducible rfl
    rotate_left
    · simp only [Act.put, List.setIfInBounds_toArray, List.set_cons_zero, List.set_cons_succ, i64_w, i32_w]
      rfl
    refine done_ (by kernel_rfl) ?_
    have qp0 := Pp.out.c0
    have qp1 := Pp.out.c1
    have yp := Pp.out.lt
    have el0 := Vl.out.c0
    have el1 := Vl.out.c1
    have el2 := Vl.out.c2
    have el3 := Vl.out.c3
    have eyl := Vl.out.lt
    go_wp2
    clear qp0 qp1 yp
    clear el0 el1 el2 el3 eyl
    have hb : Bel w7 w7.drew := (Below.refl _ _).drew
    replace Vl := Lib.hid (Vl.out.bel hb)
    replace Pp := Lib.hid (Pp.out.bel hb)
    replace KW := Lib.hid (KW.out.tr hb)
    clear hb
    refine start_ (n := 5) (S := fun w' => w'.cell? ⟨bkp, 0, none⟩ = some (.slice Ap p.slots.length cp) ∧ w'.cell? ⟨bkp, 1, none⟩ = some (.slice Bp p.vols.length dp) ∧ w'.cell? ⟨bkl, 0, none⟩ = some (.slice Al l.base.slots.length al) ∧ w'.cell? ⟨bkl, 1, none⟩ = some (.slice Bl l.base.vols.length bl) ∧ w'.cell? ⟨bkl, 2, none⟩ = some (.slice Cl l.ops.length cl) ∧ w'.cell? ⟨bkl, 3, none⟩ = some (.int .i64 l.safe)) (ds := []) #[false, false, false, false, false] (by kernel_rfl) rfl rfl ⟨Pp.out.c0, Pp.out.c1, Vl.out.c0, Vl.out.c1, Vl.out.c2, Vl.out.c3⟩ (fun hHeld => ?_)
    refine take_ (i := 0) (N := some 26) (v := ?_) (a' := ?_) #[true, false, false, false, false] rfl rfl (by kernel_rfl) (fun _ _ _ h => h) (Or.inl ⟨by rfl, ?_⟩) hHeld ?_ ?_
    rotate_left
    · rintro w' ⟨s0, s1, s2, s3, s4, s5⟩
      go_simp
      with_reducible rfl
    rotate_left
    · simp only [Act.put, List.setIfInBounds_toArray, List.set_cons_zero, List.set_cons_succ, i64_w, i32_w]
      rfl
    refine take_ (i := 1) (N := some 27) (v := ?_) (a' := ?_) #[true, true, false, false, false] rfl rfl (by kernel_rfl) (fun _ _ _ h => h) (Or.inl ⟨by rfl, ?_⟩) hHeld ?_ ?_
    rotate_left
    · rintro w' ⟨s0, s1, s2, s3, s4, s5⟩
      go_simp
      with_reducible rfl
    rotate_left
    · simp only [Act.put, List.setIfInBounds_toArray, List.set_cons_zero, List.set_cons_succ, i64_w, i32_w]
      rfl
    refine one_ (i := 2) (N := some 28) #[true, true, true, false, false] rfl rfl (by kernel_rfl) (by decide) (fun K hK => ?_)
    refine goes_ Try.func31 (by kernel_rfl) rfl #[.agg #[.slice Al l.base.slots.length al, .slice Bl l.base.vols.length bl, .slice Cl l.ops.length cl, .int .i64 l.safe]] (by rfl) rfl rfl (by simp only [List.map_toArray, List.map_cons, List.map_nil]; rfl) ?_
    with_reducible refine (specLogPool_n Vl.out.inn HSl.out HPF.out).mono ?_
    rintro e w8 ⟨Ay6, By6, cy6, dy6, rfl, hin, hb⟩
    replace Vl := Lib.hid (Vl.out.bel hb)
    replace Pp := Lib.hid (Pp.out.bel hb)
    replace KW := Lib.hid (KW.out.tr hb)
    have Iy6 := Lib.hid hin
    clear hin hb
    refine ⟨_, rfl, ?_⟩
    refine hK.out _ _ ⟨Pp.out.c0, Pp.out.c1, Vl.out.c0, Vl.out.c1, Vl.out.c2, Vl.out.c3⟩ (fun hHeld => ?_)
    clear hK K
    refine norm_ (a' := ?_) ?_ ?_
    rotate_left
    · show Act.put _ (some 28) _ = _
      simp only [Act.put, List.setIfInBounds_toArray, List.set_cons_zero, List.set_cons_succ, i64_w, i32_w]
      rfl
    refine one_ (i := 3) (N := some 29) #[true, true, true, true, false] rfl rfl (by kernel_rfl) (by decide) (fun K hK => ?_)
    refine goes_ Try.func30 (by kernel_rfl) rfl #[.agg #[.slice Ap p.slots.length cp, .slice Bp p.vols.length dp], .agg #[.slice Ay6 p.slots.length cy6, .slice By6 p.vols.length dy6]] (by rfl) rfl rfl (by simp only [List.map_toArray, List.map_cons, List.map_nil]; rfl) ?_
    with_reducible refine (lgPool_c Pp.out.inn Iy6.out HSp.out).mono ?_
    rintro e w9 ⟨rfl, hb⟩
    replace Vl := Lib.hid (Vl.out.bel hb)
    replace Pp := Lib.hid (Pp.out.bel hb)
    replace Iy6 := Lib.hid (Iy6.out.bel hb)
    replace KW := Lib.hid (KW.out.tr hb)
    clear hb
    refine ⟨_, rfl, ?_⟩
    refine hK.out _ _ ⟨Pp.out.c0, Pp.out.c1, Vl.out.c0, Vl.out.c1, Vl.out.c2, Vl.out.c3⟩ (fun hHeld => ?_)
    clear hK K
    refine norm_ (a' := ?_) ?_ ?_
    rotate_left
    · show Act.put _ (some 29) _ = _
      simp only [Act.put, List.setIfInBounds_toArray, List.set_cons_zero, List.set_cons_succ, i64_w, i32_w]
      rfl
    refine pure_ (i := 4) (N := some 2) (v := ?_) (a' := ?_) #[true, true, true, true, true] rfl rfl (by kernel_rfl) (fun _ _ _ h => h) (Or.inl ⟨by rfl, ?_⟩) ?_ ?_
    rotate_left
    · intro w'
      go_simp
      with_reducible rfl
    rotate_left
    · simp only [Act.put, List.setIfInBounds_toArray, List.set_cons_zero, List.set_cons_succ, i64_w, i32_w]
      rfl
    refine done_ (by kernel_rfl) ?_
    have qp0 := Pp.out.c0
    have qp1 := Pp.out.c1
    have yp := Pp.out.lt
    have el0 := Vl.out.c0
    have el1 := Vl.out.c1
    have el2 := Vl.out.c2
    have el3 := Vl.out.c3
    have eyl := Vl.out.lt
    go_wp2
    go_ret
    exact ⟨rfl, KW.out⟩
  have HOK := Lib.hid hok
  obtain ⟨q0, hlp⟩ := logOk_iff.1 hok
  obtain rfl : q0 = p := hlp.poolE.symm.trans HPF.out
  have HLP := Lib.hid hlp
  clear hok hlp
  have el0 := Vl.out.c0
  have el1 := Vl.out.c1
  have el2 := Vl.out.c2
  have el3 := Vl.out.c3
  have eyl := Vl.out.lt
  go_wp2
  clear el0 el1 el2 el3 eyl
  have hnew := PVar.new Ip.out
  have hb : Bel w3 (w3.alloc (.cells #[.slice Ap q0.slots.length cp, .slice Bp q0.vols.length dp] 49)) := bel_alloc (Below.refl _ _) _
  generalize w3.alloc (.cells #[.slice Ap q0.slots.length cp, .slice Bp q0.vols.length dp] 49) = W4 at hnew hb ⊢
  replace Vl := Lib.hid (Vl.out.bel hb)
  replace Ip := Lib.hid (Ip.out.bel hb)
  replace KW := Lib.hid (KW.out.tr hb)
  obtain ⟨bkp, hbn⟩ : ∃ b, w3.heap.size = b := ⟨_, rfl⟩
  rw [hbn] at hnew ⊢
  have Pp := Lib.hid hnew
  clear hnew hb hbn Ip
  have hb : Bel W4 W4.drew := (Below.refl _ _).drew
  replace Vl := Lib.hid (Vl.out.bel hb)
  replace Pp := Lib.hid (Pp.out.bel hb)
  replace KW := Lib.hid (KW.out.tr hb)
  clear hb
  refine start_ (n := 10) (S := fun w' => w'.cell? ⟨bkp, 0, none⟩ = some (.slice Ap q0.slots.length cp) ∧ w'.cell? ⟨bkp, 1, none⟩ = some (.slice Bp q0.vols.length dp) ∧ w'.cell? ⟨bkl, 0, none⟩ = some (.slice Al l.base.slots.length al) ∧ w'.cell? ⟨bkl, 1, none⟩ = some (.slice Bl l.base.vols.length bl) ∧ w'.cell? ⟨bkl, 2, none⟩ = some (.slice Cl l.ops.length cl) ∧ w'.cell? ⟨bkl, 3, none⟩ = some (.int .i64 l.safe)) (ds := []) #[false, false, false, false, false, false, false, false, false, false] (by kernel_rfl) rfl rfl ⟨Pp.out.c0, Pp.out.c1, Vl.out.c0, Vl.out.c1, Vl.out.c2, Vl.out.c3⟩ (fun hHeld => ?_)
  refine take_ (i := 0) (N := some 16) (v := ?_) (a' := ?_) #[true, false, false, false, false, false, false, false, false, false] rfl rfl (by kernel_rfl) (fun _ _ _ h => h) (Or.inl ⟨by rfl, ?_⟩) hHeld ?_ ?_
  rotate_left
  · rintro w' ⟨s0, s1, s2, s3, s4, s5⟩
    go_simp
    with_reducible rfl
  rotate_left
  · simp only [Act.put, List.setIfInBounds_toArray, List.set_cons_zero, List.set_cons_succ, i64_w, i32_w]
    rfl
  refine take_ (i := 1) (N := some 17) (v := ?_) (a' := ?_) #[true, true, false, false, false, false, false, false, false, false] rfl rfl (by kernel_rfl) (fun _ _ _ h => h) (Or.inl ⟨by rfl, ?_⟩) hHeld ?_ ?_
  rotate_left
  · rintro w' ⟨s0, s1, s2, s3, s4, s5⟩
    go_simp
    with_reducible rfl
  rotate_left
  · simp only [Act.put, List.setIfInBounds_toArray, List.set_cons_zero, List.set_cons_succ, i64_w, i32_w]
    rfl
  refine one_ (i := 2) (N := some 18) #[true, true, true, false, false, false, false, false, false, false] rfl rfl (by kernel_rfl) (by decide) (fun K hK => ?_)
  refine goes_ Try.func31 (by kernel_rfl) rfl #[.agg #[.slice Al l.base.slots.length al, .slice Bl l.base.vols.length bl, .slice Cl l.ops.length cl, .int .i64 l.safe]] (by rfl) rfl rfl (by simp only [List.map_toArray, List.map_cons, List.map_nil]; rfl) ?_
  with_reducible refine (specLogPool_n Vl.out.inn HSl.out HPF.out).mono ?_
  rintro e w5 ⟨Ay5, By5, cy5, dy5, rfl, hin, hb⟩
  replace Vl := Lib.hid (Vl.out.bel hb)
  replace Pp := Lib.hid (Pp.out.bel hb)
  replace KW := Lib.hid (KW.out.tr hb)
  have Iy5 := Lib.hid hin
  clear hin hb
  refine ⟨_, rfl, ?_⟩
  refine hK.out _ _ ⟨Pp.out.c0, Pp.out.c1, Vl.out.c0, Vl.out.c1, Vl.out.c2, Vl.out.c3⟩ (fun hHeld => ?_)
  clear hK K
  refine norm_ (a' := ?_) ?_ ?_
  rotate_left
  · show Act.put _ (some 18) _ = _
    simp only [Act.put, List.setIfInBounds_toArray, List.set_cons_zero, List.set_cons_succ, i64_w, i32_w]
    rfl
  refine one_ (i := 3) (N := some 19) #[true, true, true, true, false, false, false, false, false, false] rfl rfl (by kernel_rfl) (by decide) (fun K hK => ?_)
  refine goes_ Try.func30 (by kernel_rfl) rfl #[.agg #[.slice Ap q0.slots.length cp, .slice Bp q0.vols.length dp], .agg #[.slice Ay5 q0.slots.length cy5, .slice By5 q0.vols.length dy5]] (by rfl) rfl rfl (by simp only [List.map_toArray, List.map_cons, List.map_nil]; rfl) ?_
  with_reducible refine (lgPool_c Pp.out.inn Iy5.out HSp.out).mono ?_
  rintro e w6 ⟨rfl, hb⟩
  replace Vl := Lib.hid (Vl.out.bel hb)
  replace Pp := Lib.hid (Pp.out.bel hb)
  replace Iy5 := Lib.hid (Iy5.out.bel hb)
  replace KW := Lib.hid (KW.out.tr hb)
  clear hb
  refine ⟨_, rfl, ?_⟩
  refine hK.out _ _ ⟨Pp.out.c0, Pp.out.c1, Vl.out.c0, Vl.out.c1, Vl.out.c2, Vl.out.c3⟩ (fun hHeld => ?_)
  clear hK K
  refine norm_ (a' := ?_) ?_ ?_
  rotate_left
  · show Act.put _ (some 19) _ = _
    simp only [Act.put, List.setIfInBounds_toArray, List.set_cons_zero, List.set_cons_succ, i64_w, i32_w]
    rfl
  refine pure_ (i := 4) (N := some 20) (v := ?_) (a' := ?_) #[true, true, true, true, true, false, false, false, false, false] rfl rfl (by kernel_rfl) (fun _ _ _ h => h) (Or.inl ⟨by rfl, ?_⟩) ?_ ?_
  rotate_left
  · intro w'
    go_simp
    with_reducible rfl
  rotate_left
  · simp only [Act.put, List.setIfInBounds_toArray, List.set_cons_zero, List.set_cons_succ, i64_w, i32_w]
    rfl
  refine pure_ (i := 5) (N := some 21) (v := ?_) (a' := ?_) #[true, true, true, true, true, true, false, false, false, false] rfl rfl (by kernel_rfl) (fun _ _ _ h => h) (Or.inl ⟨by rfl, ?_⟩) ?_ ?_
  rotate_left
  · intro w'
    go_simp
    with_reducible rfl
  rotate_left
  · simp only [Act.put, List.setIfInBounds_toArray, List.set_cons_zero, List.set_cons_succ, i64_w, i32_w]
    rfl
  refine take_ (i := 6) (N := some 22) (v := ?_) (a' := ?_) #[true, true, true, true, true, true, true, false, false, false] rfl rfl (by kernel_rfl) (fun _ _ _ h => h) (Or.inl ⟨by rfl, ?_⟩) hHeld ?_ ?_
  rotate_left
  · rintro w' ⟨s0, s1, s2, s3, s4, s5⟩
    go_simp
    with_reducible rfl
  rotate_left
  · simp only [Act.put, List.setIfInBounds_toArray, List.set_cons_zero, List.set_cons_succ, i64_w, i32_w]
    rfl
  refine one_ (i := 7) (N := some 23) #[true, true, true, true, true, true, true, true, false, false] rfl rfl (by kernel_rfl) (by decide) (fun K hK => ?_)
  refine goes_ Try.func26 (by kernel_rfl) rfl #[.agg #[.slice Al l.base.slots.length al, .slice Bl l.base.vols.length bl, .slice Cl l.ops.length cl, .int .i64 l.safe]] (by rfl) rfl rfl (by simp only [List.map_toArray, List.map_cons, List.map_nil]; rfl) ?_
  with_reducible refine (specLogOk_n Vl.out.inn HSl.out HOK.out).mono ?_
  rintro e w7 ⟨rfl, hb⟩
  replace Vl := Lib.hid (Vl.out.bel hb)
  replace Pp := Lib.hid (Pp.out.bel hb)
  replace Iy5 := Lib.hid (Iy5.out.bel hb)
  replace KW := Lib.hid (KW.out.tr hb)
  clear hb
  refine ⟨_, rfl, ?_⟩
  refine hK.out _ _ ⟨Pp.out.c0, Pp.out.c1, Vl.out.c0, Vl.out.c1, Vl.out.c2, Vl.out.c3⟩ (fun hHeld => ?_)
  clear hK K
  refine norm_ (a' := ?_) ?_ ?_
  rotate_left
  · show Act.put _ (some 23) _ = _
    simp only [Act.put, List.setIfInBounds_toArray, List.set_cons_zero, List.set_cons_succ, i64_w, i32_w]
    rfl
  refine pure_ (i := 8) (N := some 24) (v := ?_) (a' := ?_) #[true, true, true, true, true, true, true, true, true, false] rfl rfl (by kernel_rfl) (fun _ _ _ h => h) (Or.inl ⟨by rfl, ?_⟩) ?_ ?_
  rotate_left
  · intro w'
    go_simp
    with_reducible rfl
  rotate_left
  · simp only [Act.put, List.setIfInBounds_toArray, List.set_cons_zero, List.set_cons_succ, i64_w, i32_w]
    rfl
  refine pure_ (i := 9) (N := some 25) (v := ?_) (a' := ?_) #[true, true, true, true, true, true, true, true, true, true] rfl rfl (by kernel_rfl) (fun _ _ _ h => h) (Or.inl ⟨by rfl, ?_⟩) ?_ ?_
  rotate_left
  · intro w'
    go_simp
    with_reducible rfl
  rotate_left
  · simp only [Act.put, List.setIfInBounds_toArray, List.set_cons_zero, List.set_cons_succ, i64_w, i32_w]
    rfl
  refine done_ (by kernel_rfl) ?_
  have hl20 := HLP.out.len
  have qp0 := Pp.out.c0
  have qp1 := Pp.out.c1
  have yp := Pp.out.lt
  have el0 := Vl.out.c0
  have el1 := Vl.out.c1
  have el2 := Vl.out.c2
  have el3 := Vl.out.c3
  have eyl := Vl.out.lt
  go_wp2
  clear qp0 qp1 yp
  clear el0 el1 el2 el3 eyl
  have hx := PVar.new Vl.out.inn.p
  have hb : Bel w7 (w7.alloc (.cells #[.slice Al l.base.slots.length al, .slice Bl l.base.vols.length bl] 49)) := bel_alloc (Below.refl _ _) _
  generalize w7.alloc (.cells #[.slice Al l.base.slots.length al, .slice Bl l.base.vols.length bl] 49) = W6 at hx hb ⊢
  obtain ⟨xb, hxb⟩ : ∃ b, w7.heap.size = b := ⟨_, rfl⟩
  have HXB := Lib.hid (Nat.le_of_eq hxb)
  rw [hxb] at hx ⊢
  clear hxb
  have HX := Lib.hid hx
  have HB := Lib.hid hb
  clear hx hb
  go_loopg [6] l.ops.length (fun g v W => ∃ (j : Nat) (q : Pool) (A B : Option Addr) (c d : Nat), g + j = l.ops.length ∧ v = .int .i64 j ∧ Hid (runP l.base (l.ops.take j) = some q) ∧ Hid (PVar W xb A B c d q) ∧ Hid (Bel w7 W))
  case atStart => exact ⟨0, l.base, Al, Bl, al, bl, rfl, rfl, rfl, HX.out, HB.out⟩
  case round =>
    clear HX HB
    obtain ⟨j, q, A, B, c, d, hj, rfl, HR, HX, HB⟩ := hrel
    have HQ := Lib.hid (runP_ok _ HLP.out.base HR.out)
    have Vr := Lib.hid (Vl.out.bel HB.out)
    have q0_ := HX.out.c0
    have q1_ := HX.out.c1
    have y_ := HX.out.lt
    have e2_ := Vr.out.c2
    have ye_ := Vr.out.lt
    by_cases hlt : j < l.ops.length
    · obtain ⟨o, hx⟩ := getQ hlt
      obtain ⟨r, hr⟩ : ∃ r, opR q o = some r := by
        obtain ⟨r, hr, _, _⟩ := HLP.out.part (j + 1)
        rw [runP_step hx HR.out] at hr
        exact ⟨r, hr⟩
      have HN := Lib.hid (show runP l.base (l.ops.take (j + 1)) = some r by rw [runP_step hx HR.out, hr])
      have HSO := Lib.hid (HSl.out.ops.op o (List.mem_of_getElem? hx))
      obtain ⟨ad, rfl, a0, a1, a2, a3, a4⟩ := at_op Vr.out.inn.o hx
      have HOX := Lib.hid hx
      have hdo := Lib.hid (fun (W : World) (hW : Bel wr.drew W) => (implDoM (o := o) ((HX.out.bel (Below.refl _ _).drew).bel hW).inn HQ.out HSO.out hr))
      clear hx hr a0 a1 a2 a3 a4
      go_wp2
      have X0 : Hid (PVar wr.drew xb A B c d q) := Lib.hid (HX.out.bel (Below.refl _ _).drew)
      have V0 := Lib.hid (Vr.out.bel (w' := wr.drew) (Below.refl _ _).drew)
      have D0 : Hid (Bel wr.drew wr.drew) := Lib.hid (Below.refl _ _)
      have hop := Lib.hid (fun (W : World) (hW : Bel wr.drew W) => (show W.cell? (ad.add (j * 5)) = some (.int .i64 o.kind) ∧ W.cell? ⟨(ad.add (j * 5)).block, (ad.add (j * 5)).off + 1, none⟩ = some (.string o.name) ∧ W.cell? ⟨(ad.add (j * 5)).block, (ad.add (j * 5)).off + 2, none⟩ = some (.string o.dest) ∧ W.cell? ⟨(ad.add (j * 5)).block, (ad.add (j * 5)).off + 3, none⟩ = some (.int .i64 o.n) ∧ W.cell? ⟨(ad.add (j * 5)).block, (ad.add (j * 5)).off + 4, none⟩ = some (.string o.text) from by
        obtain ⟨ad', e, hh⟩ := at_op ((V0.out.bel hW).inn.o) HOX.out
        cases e
        exact hh))
      clear q0_ q1_ y_ e2_ ye_
      refine start_ (n := 13) (S := fun w' => w'.cell? ⟨xb, 0, none⟩ = some (.slice A q.slots.length c) ∧ w'.cell? ⟨xb, 1, none⟩ = some (.slice B q.vols.length d) ∧ w'.cell? ⟨bkl, 2, none⟩ = some (.slice (some ad) l.ops.length cl) ∧ w'.cell? (ad.add (j * 5)) = some (.int .i64 o.kind) ∧ w'.cell? ⟨(ad.add (j * 5)).block, (ad.add (j * 5)).off + 1, none⟩ = some (.string o.name) ∧ w'.cell? ⟨(ad.add (j * 5)).block, (ad.add (j * 5)).off + 2, none⟩ = some (.string o.dest) ∧ w'.cell? ⟨(ad.add (j * 5)).block, (ad.add (j * 5)).off + 3, none⟩ = some (.int .i64 o.n) ∧ w'.cell? ⟨(ad.add (j * 5)).block, (ad.add (j * 5)).off + 4, none⟩ = some (.string o.text)) (ds := [11]) #[false, false, false, false, false, false, false, false, false, false, false, false, false] (by kernel_rfl) rfl rfl ⟨X0.out.c0, X0.out.c1, V0.out.c2, (hop.out _ D0.out).1, (hop.out _ D0.out).2.1, (hop.out _ D0.out).2.2.1, (hop.out _ D0.out).2.2.2.1, (hop.out _ D0.out).2.2.2.2⟩ (fun hHeld => ?_)
      refine pure_ (i := 1) (N := some 41) (v := ?_) (a' := ?_) #[false, true, false, false, false, false, false, false, false, false, false, false, false] rfl rfl (by kernel_rfl) (fun _ _ _ h => h) (Or.inl ⟨by rfl, ?_⟩) ?_ ?_
      rotate_left
      · intro w'
        go_simp
        with_reducible rfl
      rotate_left
      · simp only [Act.put, List.setIfInBounds_toArray, List.set_cons_zero, List.set_cons_succ, i64_w, i32_w]
        rfl
      refine pure_ (i := 3) (N := some 43) (v := ?_) (a' := ?_) #[false, true, false, true, false, false, false, false, false, false, false, false, false] rfl rfl (by kernel_rfl) (fun _ _ _ h => h) (Or.inl ⟨by rfl, ?_⟩) ?_ ?_
      rotate_left
      · intro w'
        go_simp
        with_reducible rfl
      rotate_left
      · simp only [Act.put, List.setIfInBounds_toArray, List.set_cons_zero, List.set_cons_succ, i64_w, i32_w]
        rfl
      refine take_ (i := 0) (N := some 40) (v := ?_) (a' := ?_) #[true, true, false, true, false, false, false, false, false, false, false, false, false] rfl rfl (by kernel_rfl) (fun _ _ _ h => h) (Or.inl ⟨by rfl, ?_⟩) hHeld ?_ ?_
      rotate_left
      · rintro w' ⟨s0, s1, s2, s3, s4, s5, s6, s7⟩
        go_simp
        with_reducible rfl
      rotate_left
      · simp only [Act.put, List.setIfInBounds_toArray, List.set_cons_zero, List.set_cons_succ, i64_w, i32_w]
        rfl
      refine take_ (i := 2) (N := some 42) (v := ?_) (a' := ?_) #[true, true, true, true, false, false, false, false, false, false, false, false, false] rfl rfl (by kernel_rfl) (fun _ _ _ h => h) (Or.inl ⟨by rfl, ?_⟩) hHeld ?_ ?_
      rotate_left
      · rintro w' ⟨s0, s1, s2, s3, s4, s5, s6, s7⟩
        go_simp
        with_reducible rfl
      rotate_left
      · simp only [Act.put, List.setIfInBounds_toArray, List.set_cons_zero, List.set_cons_succ, i64_w, i32_w]
        rfl
      refine pure_ (i := 4) (N := some 44) (v := ?_) (a' := ?_) #[true, true, true, true, true, false, false, false, false, false, false, false, false] rfl rfl (by kernel_rfl) (fun _ _ _ h => h) (Or.inl ⟨by rfl, ?_⟩) ?_ ?_
      rotate_left
      · intro w'
        go_simp
        with_reducible rfl
      rotate_left
      · simp only [Act.put, List.setIfInBounds_toArray, List.set_cons_zero, List.set_cons_succ, i64_w, i32_w]
        rfl
      refine take_ (i := 5) (N := some 45) (v := ?_) (a' := ?_) #[true, true, true, true, true, true, false, false, false, false, false, false, false] rfl rfl (by kernel_rfl) (fun _ _ _ h => h) (Or.inl ⟨by rfl, ?_⟩) hHeld ?_ ?_
      rotate_left
      · rintro w' ⟨s0, s1, s2, s3, s4, s5, s6, s7⟩
        go_simp
        with_reducible rfl
      rotate_left
      · simp only [Act.put, List.setIfInBounds_toArray, List.set_cons_zero, List.set_cons_succ, i64_w, i32_w]
        rfl
      refine join_ (σ := Option Addr × Nat × Option Addr × Nat × List Value × Nat) 2 #[true, true, true, true, true, true, true, true, true, true, true, false, false] (fun s => [(46, .tuple #[.agg #[.slice s.1 r.slots.length s.2.1, .slice s.2.2.1 r.vols.length s.2.2.2.1], .bool true]), (39, .tuple #[.agg #[.slice s.1 r.slots.length s.2.1, .slice s.2.2.1 r.vols.length s.2.2.2.1], .bool true]), (47, .agg #[.slice s.1 r.slots.length s.2.1, .slice s.2.2.1 r.vols.length s.2.2.2.1]), (48, .bool true), (7, .pointer (some ⟨s.2.2.2.2.2, 0, none⟩))]) (fun s w' => (w'.cell? ⟨xb, 0, none⟩ = some (.slice A q.slots.length c) ∧ w'.cell? ⟨xb, 1, none⟩ = some (.slice B q.vols.length d) ∧ w'.cell? ⟨bkl, 2, none⟩ = some (.slice (some ad) l.ops.length cl) ∧ w'.cell? (ad.add (j * 5)) = some (.int .i64 o.kind) ∧ w'.cell? ⟨(ad.add (j * 5)).block, (ad.add (j * 5)).off + 1, none⟩ = some (.string o.name) ∧ w'.cell? ⟨(ad.add (j * 5)).block, (ad.add (j * 5)).off + 2, none⟩ = some (.string o.dest) ∧ w'.cell? ⟨(ad.add (j * 5)).block, (ad.add (j * 5)).off + 3, none⟩ = some (.int .i64 o.n) ∧ w'.cell? ⟨(ad.add (j * 5)).block, (ad.add (j * 5)).off + 4, none⟩ = some (.string o.text)) ∧ OwnP w' wr.drew.heap.size (.slice s.1 r.slots.length s.2.1) (.slice s.2.2.1 r.vols.length s.2.2.2.1) r s.2.2.2.2.1 ∧ Blk w' s.2.2.2.2.2 #[.slice none 0 0, .slice none 0 0] 49 ∧ wr.drew.heap.size ≤ s.2.2.2.2.2 ∧ Bel wr.drew w') ?_ ?_
      rotate_left
      · intro hCont
        refine two_ (i := 6) (j := 10) (Ni := some 46) (Nj := some 7) #[true, true, true, true, true, true, true, false, false, false, false, false, false] #[true, true, true, true, true, true, false, false, false, false, true, false, false] rfl rfl rfl rfl (by kernel_rfl) (by decide) (by decide) (fun K hK => ?_) (fun K hK => ?_)
        · skip
          refine goes_ Try.func32 (by kernel_rfl) rfl #[.agg #[.slice A q.slots.length c, .slice B q.vols.length d], .agg #[.int .i64 o.kind, .string o.name, .string o.dest, .int .i64 o.n, .string o.text]] (by rfl) rfl rfl (by simp only [List.map_toArray, List.map_cons, List.map_nil]; rfl) ?_
          with_reducible refine (hdo.out _ D0.out).mono ?_
          rintro e w1_ ⟨va, vb, bva, rfl, ho, X1⟩
          have D1 := Lib.hid (Bel.tr D0.out X1)
          have Q1 : Hid (OwnP w1_ wr.drew.heap.size va vb r bva) := Lib.hid (ho.lower D0.out.size)
          obtain ⟨A2, A3, k2, k3, rfl, rfl, hpi⟩ := ho.reads
          clear ho hpi
          refine ⟨_, rfl, ?_⟩
          refine hK.out _ _ ⟨(X0.out.bel D1.out).c0, (X0.out.bel D1.out).c1, (V0.out.bel D1.out).c2, (hop.out _ D1.out).1, (hop.out _ D1.out).2.1, (hop.out _ D1.out).2.2.1, (hop.out _ D1.out).2.2.2.1, (hop.out _ D1.out).2.2.2.2⟩ (fun hHeld => ?_)
          clear hK K
          refine norm_ (a' := ?_) ?_ ?_
          rotate_left
          · show Act.put _ (some 46) _ = _
            simp only [Act.put, List.setIfInBounds_toArray, List.set_cons_zero, List.set_cons_succ, i64_w, i32_w]
            rfl
          refine pure_ (i := 7) (N := some 39) (v := ?_) (a' := ?_) #[true, true, true, true, true, true, true, true, false, false, false, false, false] rfl rfl (by kernel_rfl) (fun _ _ _ h => h) (Or.inl ⟨by rfl, ?_⟩) ?_ ?_
          rotate_left
          · intro w'
            go_simp
            with_reducible rfl
          rotate_left
          · simp only [Act.put, List.setIfInBounds_toArray, List.set_cons_zero, List.set_cons_succ, i64_w, i32_w]
            rfl
          refine pure_ (i := 8) (N := some 47) (v := ?_) (a' := ?_) #[true, true, true, true, true, true, true, true, true, false, false, false, false] rfl rfl (by kernel_rfl) (fun _ _ _ h => h) (Or.inl ⟨by rfl, ?_⟩) ?_ ?_
          rotate_left
          · intro w'
            go_simp
            with_reducible rfl
          rotate_left
          · simp only [Act.put, List.setIfInBounds_toArray, List.set_cons_zero, List.set_cons_succ, i64_w, i32_w]
            rfl
          refine pure_ (i := 9) (N := some 48) (v := ?_) (a' := ?_) #[true, true, true, true, true, true, true, true, true, true, false, false, false] rfl rfl (by kernel_rfl) (fun _ _ _ h => h) (Or.inl ⟨by rfl, ?_⟩) ?_ ?_
          rotate_left
          · intro w'
            go_simp
            with_reducible rfl
          rotate_left
          · simp only [Act.put, List.setIfInBounds_toArray, List.set_cons_zero, List.set_cons_succ, i64_w, i32_w]
            rfl
          refine one_ (i := 10) (N := some 7) #[true, true, true, true, true, true, true, true, true, true, true, false, false] rfl rfl (by kernel_rfl) (by decide) (fun K hK => ?_)
          refine value_ (w1 := ?_) (v := ?_) (by rfl) rfl ?_ ?_
          rotate_left 2
          · go_simp
            constructor
            · rfl
            · rfl
          have D2 : Hid (Bel wr.drew (w1_.alloc (.cells #[.slice none 0 0, .slice none 0 0] 49))) := Lib.hid (bel_alloc D1.out (.cells #[.slice none 0 0, .slice none 0 0] 49))
          have Q2 := Lib.hid (OwnP.bel Q1.out (bel_alloc (Below.refl _ _) (.cells #[.slice none 0 0, .slice none 0 0] 49)))
          have O2 : Hid (Blk (w1_.alloc (.cells #[.slice none 0 0, .slice none 0 0] 49)) w1_.heap.size #[.slice none 0 0, .slice none 0 0] 49) := Lib.hid (Blk.new w1_ #[.slice none 0 0, .slice none 0 0] 49)
          have L2 := D1.out.size
          refine hK.out _ _ ⟨(X0.out.bel D2.out).c0, (X0.out.bel D2.out).c1, (V0.out.bel D2.out).c2, (hop.out _ D2.out).1, (hop.out _ D2.out).2.1, (hop.out _ D2.out).2.2.1, (hop.out _ D2.out).2.2.2.1, (hop.out _ D2.out).2.2.2.2⟩ (fun hHeld => ?_)
          clear hK K
          refine norm_ (a' := ?_) ?_ ?_
          rotate_left
          · show Act.put _ (some 7) _ = _
            simp only [Act.put, List.setIfInBounds_toArray, List.set_cons_zero, List.set_cons_succ, i64_w, i32_w]
            rfl
          exact norm_ (by simp only [putAll, Act.put, List.setIfInBounds_toArray, List.set_cons_zero, List.set_cons_succ]) (hCont (A2, k2, A3, k3, bva, w1_.heap.size) _ ⟨hHeld, Q2.out, O2.out, L2, D2.out⟩)
        · skip
          refine value_ (w1 := ?_) (v := ?_) (by rfl) rfl ?_ ?_
          rotate_left 2
          · go_simp
            constructor
            · rfl
            · rfl
          have D1 : Hid (Bel wr.drew (wr.alloc (.cells #[.slice none 0 0, .slice none 0 0] 49)).drew) := Lib.hid (bel_alloc D0.out (.cells #[.slice none 0 0, .slice none 0 0] 49))
          have O1 : Hid (Blk (wr.alloc (.cells #[.slice none 0 0, .slice none 0 0] 49)).drew wr.drew.heap.size #[.slice none 0 0, .slice none 0 0] 49) := Lib.hid (Blk.new wr.drew #[.slice none 0 0, .slice none 0 0] 49)
          have L1 := D0.out.size
          refine hK.out _ _ ⟨(X0.out.bel D1.out).c0, (X0.out.bel D1.out).c1, (V0.out.bel D1.out).c2, (hop.out _ D1.out).1, (hop.out _ D1.out).2.1, (hop.out _ D1.out).2.2.1, (hop.out _ D1.out).2.2.2.1, (hop.out _ D1.out).2.2.2.2⟩ (fun hHeld => ?_)
          clear hK K
          refine norm_ (a' := ?_) ?_ ?_
          rotate_left
          · show Act.put _ (some 7) _ = _
            simp only [Act.put, List.setIfInBounds_toArray, List.set_cons_zero, List.set_cons_succ, i64_w, i32_w]
            rfl
          refine one_ (i := 6) (N := some 46) #[true, true, true, true, true, true, true, false, false, false, true, false, false] rfl rfl (by kernel_rfl) (by decide) (fun K hK => ?_)
          refine goes_ Try.func32 (by kernel_rfl) rfl #[.agg #[.slice A q.slots.length c, .slice B q.vols.length d], .agg #[.int .i64 o.kind, .string o.name, .string o.dest, .int .i64 o.n, .string o.text]] (by rfl) rfl rfl (by simp only [List.map_toArray, List.map_cons, List.map_nil]; rfl) ?_
          with_reducible refine (hdo.out _ D1.out).mono ?_
          rintro e w2_ ⟨va, vb, bva, rfl, ho, X2⟩
          have D2 := Lib.hid (Bel.tr D1.out X2)
          have O2 := Lib.hid (Blk.bel O1.out X2)
          have Q2 : Hid (OwnP w2_ wr.drew.heap.size va vb r bva) := Lib.hid (ho.lower D1.out.size)
          obtain ⟨A2, A3, k2, k3, rfl, rfl, hpi⟩ := ho.reads
          clear ho hpi
          refine ⟨_, rfl, ?_⟩
          refine hK.out _ _ ⟨(X0.out.bel D2.out).c0, (X0.out.bel D2.out).c1, (V0.out.bel D2.out).c2, (hop.out _ D2.out).1, (hop.out _ D2.out).2.1, (hop.out _ D2.out).2.2.1, (hop.out _ D2.out).2.2.2.1, (hop.out _ D2.out).2.2.2.2⟩ (fun hHeld => ?_)
          clear hK K
          refine norm_ (a' := ?_) ?_ ?_
          rotate_left
          · show Act.put _ (some 46) _ = _
            simp only [Act.put, List.setIfInBounds_toArray, List.set_cons_zero, List.set_cons_succ, i64_w, i32_w]
            rfl
          refine pure_ (i := 7) (N := some 39) (v := ?_) (a' := ?_) #[true, true, true, true, true, true, true, true, false, false, true, false, false] rfl rfl (by kernel_rfl) (fun _ _ _ h => h) (Or.inl ⟨by rfl, ?_⟩) ?_ ?_
          rotate_left
          · intro w'
            go_simp
            with_reducible rfl
          rotate_left
          · simp only [Act.put, List.setIfInBounds_toArray, List.set_cons_zero, List.set_cons_succ, i64_w, i32_w]
            rfl
          refine pure_ (i := 8) (N := some 47) (v := ?_) (a' := ?_) #[true, true, true, true, true, true, true, true, true, false, true, false, false] rfl rfl (by kernel_rfl) (fun _ _ _ h => h) (Or.inl ⟨by rfl, ?_⟩) ?_ ?_
          rotate_left
          · intro w'
            go_simp
            with_reducible rfl
          rotate_left
          · simp only [Act.put, List.setIfInBounds_toArray, List.set_cons_zero, List.set_cons_succ, i64_w, i32_w]
            rfl
          refine pure_ (i := 9) (N := some 48) (v := ?_) (a' := ?_) #[true, true, true, true, true, true, true, true, true, true, true, false, false] rfl rfl (by kernel_rfl) (fun _ _ _ h => h) (Or.inl ⟨by rfl, ?_⟩) ?_ ?_
          rotate_left
          · intro w'
            go_simp
            with_reducible rfl
          rotate_left
          · simp only [Act.put, List.setIfInBounds_toArray, List.set_cons_zero, List.set_cons_succ, i64_w, i32_w]
            rfl
          exact norm_ (by simp only [putAll, Act.put, List.setIfInBounds_toArray, List.set_cons_zero, List.set_cons_succ]) (hCont (A2, k2, A3, k3, bva, wr.heap.size) _ ⟨hHeld, Q2.out, O2.out, L1, D2.out⟩)
      rintro ⟨A2, k2, A3, k3, bvc, nb⟩ w3_ ⟨hHeld, hQ, hO, hL, hD⟩
      dsimp only at hQ hO hL
      have r0 := hO.cell 0
      have r1 := hO.cell 1
      have f0 := hO.free 0
      have f1 := hO.free 1
      simp at r0 r1
      refine norm_ (a' := ?_) ?_ ?_
      rotate_left
      · simp only [putAll, Act.put, List.setIfInBounds_toArray, List.set_cons_zero, List.set_cons_succ]
        rfl
      refine last_ (i := 11) (N := none) #[true, true, true, true, true, true, true, true, true, true, true, true, false] rfl rfl (by kernel_rfl) (by decide) (fun K hK => ?_)
      refine skip_ (w1 := ?_) (by rfl) rfl ?_ ?_
      rotate_left
      · go_simp
        rfl
      refine hK.out _ _ ?_
      clear hK K
      refine pure_ (i := 12) (N := some 8) (v := ?_) (a' := ?_) #[true, true, true, true, true, true, true, true, true, true, true, true, true] rfl rfl (by kernel_rfl) (fun _ _ _ h => h) (Or.inl ⟨by rfl, ?_⟩) ?_ ?_
      rotate_left
      · intro w'
        go_simp
        with_reducible rfl
      rotate_left
      · simp only [Act.put, List.setIfInBounds_toArray, List.set_cons_zero, List.set_cons_succ, i64_w, i32_w]
        rfl
      refine done_ (by kernel_rfl) ?_
      have hO4 := hO.set 0 (.slice A2 r.slots.length k2) (cs' := #[.slice A2 r.slots.length k2, .slice none 0 0]) rfl
      have hO5 := hO4.set 1 (.slice A3 r.vols.length k3) (cs' := #[.slice A2 r.slots.length k2, .slice A3 r.vols.length k3]) rfl
      have hQ5 := (hQ.far hO (by decide) (by decide) (by decide) 0 (.slice A2 r.slots.length k2)).far hO4 (by decide) (by decide) (by decide) 1 (.slice A3 r.vols.length k3)
      have hb5 : Bel wr.drew ((w3_.setCell ⟨nb, 0, none⟩ (.slice A2 r.slots.length k2)).setCell ⟨nb, 1, none⟩ (.slice A3 r.vols.length k3)) := bel_set (bel_set hD hL 0 (.slice A2 r.slots.length k2)) hL 1 (.slice A3 r.vols.length k3)
      have hne : ¬ nb = xb := by have := X0.out.lt; omega
      clear hQ hO hO4 hL hD f0 f1 r0 r1 hHeld
      generalize ((w3_.setCell ⟨nb, 0, none⟩ (.slice A2 r.slots.length k2)).setCell ⟨nb, 1, none⟩ (.slice A3 r.vols.length k3)) = W8 at hO5 hQ5 hb5 ⊢
      have hXB := (X0.out.bel hb5).blk
      have HBX := Lib.hid hXB
      have t0 := hO5.cell 0
      have t1 := hO5.cell 1
      have ty := hO5.lt
      have x0 := hXB.cell 0
      have x1 := hXB.cell 1
      have xf0 := hXB.free 0
      have xf1 := hXB.free 1
      have xy := hXB.lt
      simp at t0 t1 x0 x1
      have HQ5 := Lib.hid hQ5
      have HB5 := Lib.hid ((HB.out.tr (Below.refl _ _).drew).tr hb5)
      clear hO5 hQ5 hb5 hXB X0 V0 D0 hop hdo
      go_wp2
      go_roundg (l.ops.length - (j + 1))
      case measure => omega
      case rel =>
        have hX1 := HBX.out.set 0 (.slice A2 r.slots.length k2) (cs' := #[.slice A2 r.slots.length k2, .slice B q.vols.length d]) rfl
        have hX2 := hX1.set 1 (.slice A3 r.vols.length k3) (cs' := #[.slice A2 r.slots.length k2, .slice A3 r.vols.length k3]) rfl
        have hQ6 := (HQ5.out.far HBX.out (by decide) (by decide) (by decide) 0 (.slice A2 r.slots.length k2)).far hX1 (by decide) (by decide) (by decide) 1 (.slice A3 r.vols.length k3)
        exact ⟨j + 1, r, A2, A3, k2, k3, by omega, by go_num, HN.out, ⟨hX2, hQ6.inn⟩, bel_set (bel_set HB5.out HXB.out 0 _) HXB.out 1 _⟩
    · have HE : Hid (runP l.base l.ops = some q) := Lib.hid (by have := HR.out; rwa [List.take_of_length_le (by omega)] at this)
      obtain rfl : q0 = q := by have := HLP.out.run; rw [HE.out] at this; exact (Option.some.inj this).symm
      have Pr := Lib.hid (Pp.out.bel HB.out)
      have p0_ := Pr.out.c0
      have p1_ := Pr.out.c1
      have yp_ := Pr.out.lt
      go_wp2_with fail
      refine (lgPool_c HX.out.inn Pr.out.inn HSp.out).mono ?_
      rintro e w9 ⟨rfl, hb9⟩
      clear q0_ q1_ y_ e2_ ye_ p0_ p1_ yp_
      have Pr2 := Lib.hid (Pr.out.bel hb9)
      have HB2 := Lib.hid (HB.out.tr hb9)
      clear hb9
      have p0_ := Pr2.out.c0
      have p1_ := Pr2.out.c1
      have yp_ := Pr2.out.lt
      go_wp2_with fail
      refine (implOk_n Pr2.out.inn HSp.out (poolOk_iff.2 HLP.out.out)).mono ?_
      rintro e w10 ⟨rfl, hb10⟩
      go_wp2
      go_ret
      exact ⟨rfl, KW.out.tr (HB2.out.tr hb10)⟩
end Go.Proofs.Ytccllgpaafgjaaa

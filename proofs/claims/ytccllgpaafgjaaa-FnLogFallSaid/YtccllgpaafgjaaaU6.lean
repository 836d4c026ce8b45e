/- Contracts of the program's and the reference's functions, and the plain laws behind them: part 6 of 6. -/
import Derived.Test.YtccllgpaafgjaaaU5
/- Draws of logs. -/


namespace Go.Proofs.Ytccllgpaafgjaaa
open Go.RowKit Go.Proofs.YtccllgpaafgjaaaW.PrintWords Go.Proofs.YtccllgpaafgjaaaW.PrintLast
set_option linter.unusedVariables false
set_option linter.unusedSimpArgs false

theorem belGrown {w w1 w2 : World} (h : Bel w w1) {rb : Nat} (hg : w1.grownBy w2 (some rb)) (hr : w.heap.size ≤ rb) : Bel w w2 := h.grown hg h.size (fun k e => by injection e with e; omega)
/-- A log that is drawn, at the outer level: the result's block rs, the reader rb, the log's own blocks from base on. -/
structure LgB (w : World) (base : Nat) (W : World) (rb k : Nat) (v0 v1 v2 : Value) (l : Log) (bvs : List Value) (lb : Nat) : Prop where
  res : Blk W w.heap.size #[.slice none 0 0, .slice none 0 0, .slice none 0 0, .int .i64 0] 51
  var : Blk W lb #[v0, v1, v2, .int .i64 l.safe] 51
  rd : Rd W rb k
  own : OwnP W base v0 v1 l.base bvs
  ops : OwnT W base v2 l.ops
  b : Bel w W
  l1 : w.heap.size < rb
  l2 : rb < base
  l3 : base ≤ lb
  l4 : base ≤ W.heap.size
section
variable {w W W' : World} {rb k k' lb base : Nat} {v0 v1 v2 : Value} {l : Log} {bvs : List Value}
theorem LgB.step (h : LgB w base W rb k v0 v1 v2 l bvs lb) (hR : Rd W' rb k') (hg : W.grownBy W' (some rb)) : LgB w base W' rb k' v0 v1 v2 l bvs lb :=
  ⟨h.res.grown hg (fun e => by injection e with e; have := h.l1; omega), h.var.grown hg (fun e => by injection e with e; have := h.l2; have := h.l3; omega), hR, h.own.rd h.rd hg, h.ops.rd h.rd hg, belGrown h.b hg (Nat.le_of_lt h.l1), h.l1, h.l2, h.l3, Nat.le_trans h.l4 hg.size⟩
theorem LgB.bel (h : LgB w base W rb k v0 v1 v2 l bvs lb) (hb : Bel W W') : LgB w base W' rb k v0 v1 v2 l bvs lb :=
  ⟨h.res.bel hb, h.var.bel hb, h.rd.bel hb, h.own.bel hb, h.ops.bel hb, h.b.tr hb, h.l1, h.l2, h.l3, Nat.le_trans h.l4 hb.size⟩
theorem LgB.ne (h : LgB w base W rb k v0 v1 v2 l bvs lb) : w.heap.size < lb := by have := h.l1; have := h.l2; have := h.l3; omega
theorem LgB.app (h : LgB w base W rb k v0 v1 v2 l bvs lb) (hg : W.grownBy W' v2.ownBlock) {u : Value} {os : List Op} (hu : OwnT W' base u os) : LgB w base (W'.setCell ⟨lb, 2, none⟩ u) rb k v0 v1 u ⟨l.base, os, l.safe⟩ bvs lb := by
  have hv := h.var.grown hg (blk_otherT h.ops h.var (by decide))
  have hr := h.res.grown hg (blk_otherT h.ops h.res (by decide))
  have hne := h.ne
  have hrd := h.rd.grown hg (fun b e => by have := (h.ops.base b e).1; have := h.l2; omega)
  have hbw : Bel w W' := h.b.grown hg h.b.size (fun b e => by have := (h.ops.base b e).1; have := h.l1; have := h.l2; omega)
  exact ⟨hr.apart (by omega) 2 _, hv.set 2 _ rfl, hrd.set (by have := h.l2; have := h.l3; omega) 2 _, (h.own.otherT h.ops hg).far hv (by decide) (by decide) (by decide) 2 _, hu.far hv (by decide) 2 _, bel_set hbw (Nat.le_of_lt hne) 2 _, h.l1, h.l2, h.l3, by have := hg.size; have := h.l4; simp; omega⟩
theorem LgB.lit (h : LgB w base W rb k v0 v1 v2 l bvs lb) : ∃ (A B C : Option Addr) (a b c : Nat), v0 = .slice A l.base.slots.length a ∧ v1 = .slice B l.base.vols.length b ∧ v2 = .slice C l.ops.length c ∧ LogIn W A B C a b c l := by
  obtain ⟨A, B, a, b, rfl, rfl, hi⟩ := h.own.reads
  obtain ⟨C, c, rfl, hc, hC⟩ := h.ops.reads
  exact ⟨A, B, C, a, b, c, rfl, rfl, rfl, ⟨hi, hC, hc⟩⟩
end
/-- A log that was drawn. -/
def DrewL (n : Nat) (w : World) (e : Ending) (w' : World) : Prop := ∃ (A B C : Option Addr) (a b c : Nat) (l : Log), e = .returned (.agg #[.slice A l.base.slots.length a, .slice B l.base.vols.length b, .slice C l.ops.length c, .int .i64 l.safe]) ∧ DrawnL l n ∧ LogIn w' A B C a b c l ∧ Bel w w'
theorem LgB.fin {w W : World} {base rb k lb : Nat} {A B C : Option Addr} {a b c : Nat} {l : Log} {bvs : List Value} (h : LgB w base W rb k (.slice A l.base.slots.length a) (.slice B l.base.vols.length b) (.slice C l.ops.length c) l bvs lb) :
    LogIn (wset4 W w.heap.size (.slice A l.base.slots.length a) (.slice B l.base.vols.length b) (.slice C l.ops.length c) (.int .i64 l.safe)) A B C a b c l ∧ Bel w (wset4 W w.heap.size (.slice A l.base.slots.length a) (.slice B l.base.vols.length b) (.slice C l.ops.length c) (.int .i64 l.safe)) := by
  have hp := h.own.far4 h.res (.slice A l.base.slots.length a) (.slice B l.base.vols.length b) (.slice C l.ops.length c) (.int .i64 l.safe)
  have ho := h.ops.far4 h.res (.slice A l.base.slots.length a) (.slice B l.base.vols.length b) (.slice C l.ops.length c) (.int .i64 l.safe)
  obtain ⟨C', c', e, hc, hC⟩ := ho.reads
  have e := slice_eq e
  obtain ⟨rfl, -, rfl⟩ := e
  exact ⟨⟨hp.inn, hC, hc⟩, bel_set4 h.b (Nat.le_refl _) _ _ _ _⟩
set_option maxHeartbeats 8000000 in
theorem drawLogPool_c {w : World} {A : Option Addr} {n c : Nat} {bs : List Int} (h : CodeIn w A n c bs) (hn : n ≤ 9223372036854775807) :
    Calls Try.prog 28 #[.slice A n c] w (DrewL 21 w) := by
  have H := Lib.hid h
  clear h
  go_enter Try.func28, Try.ntmps28
  go_wp2_with fail
  have hr0 : Blk (w.alloc (.cells #[.slice none 0 0, .slice none 0 0, .slice none 0 0, .int .i64 0] 51)) w.heap.size #[.slice none 0 0, .slice none 0 0, .slice none 0 0, .int .i64 0] 51 := Blk.new _ _ _
  have hW : Bel w (w.alloc (.cells #[.slice none 0 0, .slice none 0 0, .slice none 0 0, .int .i64 0] 51)) := bel_alloc (Below.refl _ _) _
  generalize (w.alloc (.cells #[.slice none 0 0, .slice none 0 0, .slice none 0 0, .int .i64 0] 51)) = W0 at hr0 hW ⊢
  refine (open_c (H.out.bel hW) hn).mono ?_
  rintro e w1 ⟨rb, rfl, hR1, hrb, hb1⟩
  have hrb2 : w.heap.size < rb := Nat.lt_of_lt_of_le hr0.lt hrb
  have HR1 := Lib.hid (And.intro (hr0.bel hb1) (And.intro hR1 (hW.tr hb1)))
  clear hr0 hW hR1 hb1 hrb
  go_wp2_with fail
  refine (log_c HR1.out.2.1 (by omega)).mono ?_
  rintro e w2 ⟨v0, v1, v2, l, bvs, rfl, hl, ho, hT, hR2, hg2⟩
  obtain ⟨A, B, a, b, rfl, rfl, hpi⟩ := ho.reads
  obtain ⟨C, c, rfl, hoc, hC⟩ := hT.reads
  have HL := Lib.hid hl
  have hB2 := HR1.out.1.grown hg2 (by intro e; injection e with e; omega)
  have hb2 := belGrown HR1.out.2.2 hg2 (by omega)
  have HB2 := Lib.hid hB2
  have HP2 := Lib.hid (And.intro ho (And.intro hT hb2))
  clear ho hT hR2 hg2 hb2 hpi hoc hC hl hB2
  have r0 := HB2.out.cell 0
  have r1 := HB2.out.cell 1
  have r2 := HB2.out.cell 2
  have r3 := HB2.out.cell 3
  have f0 := HB2.out.free 0
  have f1 := HB2.out.free 1
  have f2 := HB2.out.free 2
  have f3 := HB2.out.free 3
  have ry := HB2.out.lt
  simp at r0 r1 r2 r3
  go_wp2
  have hp := HP2.out.1.far4 HB2.out (.slice A l.base.slots.length a) (.slice B l.base.vols.length b) (.slice C l.ops.length c) (.int .i64 l.safe)
  have hT := HP2.out.2.1.far4 HB2.out (.slice A l.base.slots.length a) (.slice B l.base.vols.length b) (.slice C l.ops.length c) (.int .i64 l.safe)
  obtain ⟨C', c', e, hc, hC⟩ := hT.reads
  have e := slice_eq e
  obtain ⟨rfl, -, rfl⟩ := e
  refine bodyPost_ret (results_cell_row rfl _ _ w.heap.size 51 _ (0, 0) _ rfl (HB2.out.set4 _ _ _ _) Try.underlying51 rfl (by kernel_rfl)) rfl ?_
  exact ⟨A, B, C, a, b, c, l, rfl, HL.out, ⟨hp.inn, hC, hc⟩, bel_set4 HP2.out.2.2 (Nat.le_refl _) _ _ _ _⟩
/-- A log that was drawn, and how many changes are left. -/
def DrewLF (n : Nat) (w : World) (e : Ending) (w' : World) : Prop := ∃ (A B C : Option Addr) (a b c : Nat) (l : Log) (left : Int), e = .returned (.tuple #[.agg #[.slice A l.base.slots.length a, .slice B l.base.vols.length b, .slice C l.ops.length c, .int .i64 l.safe], .int .i64 left]) ∧ DrawnL l n ∧ -100 ≤ left ∧ left ≤ 100 ∧ LogIn w' A B C a b c l ∧ Bel w w'
set_option maxHeartbeats 16000000 in
set_option maxRecDepth 10000 in
theorem drawLogFall_c {w : World} {A : Option Addr} {n c : Nat} {bs : List Int} (h : CodeIn w A n c bs) (hn : n ≤ 9223372036854775807) :
    Calls Try.prog 34 #[.slice A n c] w (DrewLF 21 w) := by
  have H := Lib.hid h
  clear h
  go_enter Try.func34, Try.ntmps34
  go_wp2_with fail
  have hr0 : Blk (w.alloc (.cells #[.slice none 0 0, .slice none 0 0, .slice none 0 0, .int .i64 0] 51)) w.heap.size #[.slice none 0 0, .slice none 0 0, .slice none 0 0, .int .i64 0] 51 := Blk.new _ _ _
  have hW : Bel w (w.alloc (.cells #[.slice none 0 0, .slice none 0 0, .slice none 0 0, .int .i64 0] 51)) := bel_alloc (Below.refl _ _) _
  generalize (w.alloc (.cells #[.slice none 0 0, .slice none 0 0, .slice none 0 0, .int .i64 0] 51)) = W0 at hr0 hW ⊢
  refine (open_c (H.out.bel hW) hn).mono ?_
  rintro e w1 ⟨rb, rfl, hR1, hrb, hb1⟩
  have hrb2 : w.heap.size < rb := Nat.lt_of_lt_of_le hr0.lt hrb
  have HR1 := Lib.hid (And.intro (hr0.bel hb1) (And.intro hR1 (hW.tr hb1)))
  clear hr0 hW hR1 hb1 hrb
  go_wp2_with fail
  refine (log_c HR1.out.2.1 (by omega)).mono ?_
  rintro e w2 ⟨v0, v1, v2, l, bvs, rfl, hl, ho, hT, hR2, hg2⟩
  obtain ⟨A, B, a, b, rfl, rfl, hpi⟩ := ho.reads
  obtain ⟨C, c, rfl, hoc, hC⟩ := hT.reads
  have HL := Lib.hid hl
  have hB2 := HR1.out.1.grown hg2 (by intro e; injection e with e; omega)
  have hb2 := belGrown HR1.out.2.2 hg2 (by omega)
  have hbx : Bel w2 (w2.alloc (.cells #[.slice A l.base.slots.length a, .slice B l.base.vols.length b, .slice C l.ops.length c, .int .i64 l.safe] 51)) := bel_alloc (Below.refl _ _) _
  have hst : LgB w w1.heap.size (w2.alloc (.cells #[.slice A l.base.slots.length a, .slice B l.base.vols.length b, .slice C l.ops.length c, .int .i64 l.safe] 51)) rb (0 + 50000) (.slice A l.base.slots.length a) (.slice B l.base.vols.length b) (.slice C l.ops.length c) l bvs w2.heap.size :=
    ⟨hB2.bel hbx, Blk.new _ _ _, hR2.bel hbx, ho.bel hbx, hT.bel hbx, hb2.tr hbx, hrb2, HR1.out.2.1.lt, hg2.size, Nat.le_trans hg2.size hbx.size⟩
  have HS := Lib.hid hst
  clear ho hT hR2 hg2 hB2 hb2 hbx hst hpi hoc hC hl HR1
  go_wp2
  generalize (w2.alloc (.cells #[.slice A l.base.slots.length a, .slice B l.base.vols.length b, .slice C l.ops.length c, .int .i64 l.safe] 51)) = W4 at HS ⊢
  obtain ⟨lb, hlb⟩ : ∃ lb, w2.heap.size = lb := ⟨_, rfl⟩
  rw [hlb] at HS ⊢
  clear hlb
  have HS1 := Lib.hid (HS.out.bel (Below.refl _ _).drew)
  have hl20 := HL.out.len
  have s0 := HS1.out.var.cell 0
  have s1 := HS1.out.var.cell 1
  have s2 := HS1.out.var.cell 2
  have s3 := HS1.out.var.cell 3
  simp at s0 s1 s2 s3
  have hwl : wrap64 ((l.ops.length : Int) + 3) = (l.ops.length : Int) + 3 := by unfold wrap64; omega
  have hpk := pick_c (w := W4.drew) HS1.out.rd (by omega) ((l.ops.length : Int) + 3) (by omega)
  rw [← hwl] at hpk
  have HPK := Lib.hid hpk
  clear hpk
  refine start_ (n := 14) (S := fun w' => w'.cell? ⟨lb, 0, none⟩ = some (.slice A l.base.slots.length a) ∧ w'.cell? ⟨lb, 1, none⟩ = some (.slice B l.base.vols.length b) ∧ w'.cell? ⟨lb, 2, none⟩ = some (.slice C l.ops.length c) ∧ w'.cell? ⟨lb, 3, none⟩ = some (.int .i64 l.safe)) (ds := [12]) #[false, false, false, false, false, false, false, false, false, false, false, false, false, false] (by kernel_rfl) rfl rfl ⟨s0, s1, s2, s3⟩ (fun hHeld => ?_)
  refine pure_ (i := 1) (N := some 11) (v := ?_) (a' := ?_) #[false, true, false, false, false, false, false, false, false, false, false, false, false, false] rfl rfl (by kernel_rfl) (fun _ _ _ h => h) (Or.inl ⟨by rfl, ?_⟩) ?_ ?_
  rotate_left
  · intro w'
    go_simp
    with_reducible rfl
  rotate_left
  · simp only [Act.put, List.setIfInBounds_toArray, List.set_cons_zero, List.set_cons_succ, i64_w, i32_w]
    rfl
  refine pure_ (i := 2) (N := some 12) (v := ?_) (a' := ?_) #[false, true, true, false, false, false, false, false, false, false, false, false, false, false] rfl rfl (by kernel_rfl) (fun _ _ _ h => h) (Or.inl ⟨by rfl, ?_⟩) ?_ ?_
  rotate_left
  · intro w'
    go_simp
    with_reducible rfl
  rotate_left
  · simp only [Act.put, List.setIfInBounds_toArray, List.set_cons_zero, List.set_cons_succ, i64_w, i32_w]
    rfl
  refine pure_ (i := 7) (N := some 17) (v := ?_) (a' := ?_) #[false, true, true, false, false, false, false, true, false, false, false, false, false, false] rfl rfl (by kernel_rfl) (fun _ _ _ h => h) (Or.inl ⟨by rfl, ?_⟩) ?_ ?_
  rotate_left
  · intro w'
    go_simp
    with_reducible rfl
  rotate_left
  · simp only [Act.put, List.setIfInBounds_toArray, List.set_cons_zero, List.set_cons_succ, i64_w, i32_w]
    rfl
  refine take_ (i := 0) (N := some 10) (v := ?_) (a' := ?_) #[true, true, true, false, false, false, false, true, false, false, false, false, false, false] rfl rfl (by kernel_rfl) (fun _ _ _ h => h) (Or.inl ⟨by rfl, ?_⟩) hHeld ?_ ?_
  rotate_left
  · rintro w' ⟨s0, s1, s2, s3⟩
    go_simp
    with_reducible rfl
  rotate_left
  · simp only [Act.put, List.setIfInBounds_toArray, List.set_cons_zero, List.set_cons_succ, i64_w, i32_w]
    rfl
  refine take_ (i := 3) (N := some 13) (v := ?_) (a' := ?_) #[true, true, true, true, false, false, false, true, false, false, false, false, false, false] rfl rfl (by kernel_rfl) (fun _ _ _ h => h) (Or.inl ⟨by rfl, ?_⟩) hHeld ?_ ?_
  rotate_left
  · rintro w' ⟨s0, s1, s2, s3⟩
    go_simp
    with_reducible rfl
  rotate_left
  · simp only [Act.put, List.setIfInBounds_toArray, List.set_cons_zero, List.set_cons_succ, i64_w, i32_w]
    rfl
  refine pure_ (i := 4) (N := some 14) (v := ?_) (a' := ?_) #[true, true, true, true, true, false, false, true, false, false, false, false, false, false] rfl rfl (by kernel_rfl) (fun _ _ _ h => h) (Or.inl ⟨by rfl, ?_⟩) ?_ ?_
  rotate_left
  · intro w'
    go_simp
    with_reducible rfl
  rotate_left
  · simp only [Act.put, List.setIfInBounds_toArray, List.set_cons_zero, List.set_cons_succ, i64_w, i32_w]
    rfl
  refine pure_ (i := 5) (N := some 15) (v := ?_) (a' := ?_) #[true, true, true, true, true, true, false, true, false, false, false, false, false, false] rfl rfl (by kernel_rfl) (fun _ _ _ h => h) (Or.inl ⟨by rfl, ?_⟩) ?_ ?_
  rotate_left
  · intro w'
    go_simp
    with_reducible rfl
  rotate_left
  · simp only [Act.put, List.setIfInBounds_toArray, List.set_cons_zero, List.set_cons_succ, i64_w, i32_w]
    rfl
  refine one_ (i := 6) (N := some 16) #[true, true, true, true, true, true, true, true, false, false, false, false, false, false] rfl rfl (by kernel_rfl) (by decide) (fun K hK => ?_)
  refine goes_ Try.func49 (by kernel_rfl) rfl #[.pointer (some ⟨rb, 0, none⟩), .int .i64 (wrap64 ((l.ops.length : Int) + 3))] (by rfl) rfl rfl (by simp only [List.map_toArray, List.map_cons, List.map_nil]; rfl) ?_
  with_reducible refine (HPK.out).mono ?_
  rintro e wa ⟨v, rfl, ⟨r1, rfl, hr10, hr11, -⟩, hR, hg⟩
  have hr12 := hr11 (by rw [hwl]; omega)
  rw [hwl] at hr12
  have HS2 := Lib.hid (HS1.out.step hR hg)
  clear hR hg hr11
  have d0 := HS2.out.var.cell 0
  have d1 := HS2.out.var.cell 1
  have d2 := HS2.out.var.cell 2
  have d3 := HS2.out.var.cell 3
  simp at d0 d1 d2 d3
  refine ⟨_, rfl, ?_⟩
  refine hK.out _ _ ⟨d0, d1, d2, d3⟩ (fun hHeld => ?_)
  clear hK K
  refine norm_ (a' := ?_) ?_ ?_
  rotate_left
  · show Act.put _ (some 16) _ = _
    simp only [Act.put, List.setIfInBounds_toArray, List.set_cons_zero, List.set_cons_succ, i64_w, i32_w]
    rfl
  refine one_ (i := 8) (N := some 18) #[true, true, true, true, true, true, true, true, true, false, false, false, false, false] rfl rfl (by kernel_rfl) (by decide) (fun K hK => ?_)
  refine goes_ Try.func49 (by kernel_rfl) rfl #[.pointer (some ⟨rb, 0, none⟩), .int .i64 24] (by rfl) rfl rfl (by simp only [List.map_toArray, List.map_cons, List.map_nil]; rfl) ?_
  with_reducible refine (pick_c HS2.out.rd (by omega) 24 (by omega)).mono ?_
  rintro e wb ⟨v, rfl, ⟨r2, rfl, hr20, hr21, -⟩, hR, hg⟩
  have hr22 := hr21 (by omega)
  have HS3 := Lib.hid (HS2.out.step hR hg)
  clear hR hg hr21
  obtain ⟨dv, hdv⟩ : ∃ dv : Int, r2.tdiv 23 = dv := ⟨_, rfl⟩
  have hd0 : 0 ≤ dv ∧ dv ≤ 1 := by rw [← hdv, Int.tdiv_eq_ediv_of_nonneg hr20]; omega
  have hwa : wrap64 (r2.tdiv 23) = dv := by rw [hdv]; unfold wrap64; omega
  have hwb : wrap64 (dv * 30) = dv * 30 := by unfold wrap64; omega
  have hwc : wrap64 (r1 - dv * 30) = r1 - dv * 30 := by unfold wrap64; omega
  have e0 := HS3.out.var.cell 0
  have e1 := HS3.out.var.cell 1
  have e2 := HS3.out.var.cell 2
  have e3 := HS3.out.var.cell 3
  simp at e0 e1 e2 e3
  have t0 := HS3.out.res.cell 0
  have t1 := HS3.out.res.cell 1
  have t2 := HS3.out.res.cell 2
  have t3 := HS3.out.res.cell 3
  have f0 := HS3.out.res.free 0
  have f1 := HS3.out.res.free 1
  have f2 := HS3.out.res.free 2
  have f3 := HS3.out.res.free 3
  simp at t0 t1 t2 t3
  have hlt2 := HS3.out.ne
  have hne : ¬ lb = w.heap.size := by omega
  have ry := HS3.out.res.lt
  refine ⟨_, rfl, ?_⟩
  refine hK.out _ _ ⟨e0, e1, e2, e3⟩ (fun hHeld => ?_)
  clear hK K
  refine norm_ (a' := ?_) ?_ ?_
  rotate_left
  · show Act.put _ (some 18) _ = _
    simp only [Act.put, List.setIfInBounds_toArray, List.set_cons_zero, List.set_cons_succ, i64_w, i32_w]
    rfl
  refine pure_ (i := 9) (N := some 19) (v := ?_) (a' := ?_) #[true, true, true, true, true, true, true, true, true, true, false, false, false, false] rfl rfl (by kernel_rfl) (fun _ _ _ h => h) (Or.inl ⟨by rfl, ?_⟩) ?_ ?_
  rotate_left
  · intro w'
    go_simp
    with_reducible rfl
  rotate_left
  · simp only [Act.put, List.setIfInBounds_toArray, List.set_cons_zero, List.set_cons_succ, i64_w, i32_w]
    rfl
  refine pure_ (i := 10) (N := some 20) (v := ?_) (a' := ?_) #[true, true, true, true, true, true, true, true, true, true, true, false, false, false] rfl rfl (by kernel_rfl) (fun _ _ _ h => h) (Or.inl ⟨by rfl, ?_⟩) ?_ ?_
  rotate_left
  · intro w'
    go_simp
    with_reducible rfl
  rotate_left
  · simp only [Act.put, List.setIfInBounds_toArray, List.set_cons_zero, List.set_cons_succ, i64_w, i32_w]
    rfl
  refine pure_ (i := 11) (N := some 21) (v := ?_) (a' := ?_) #[true, true, true, true, true, true, true, true, true, true, true, true, false, false] rfl rfl (by kernel_rfl) (fun _ _ _ h => h) (Or.inl ⟨by rfl, ?_⟩) ?_ ?_
  rotate_left
  · intro w'
    go_simp
    with_reducible rfl
  rotate_left
  · simp only [Act.put, List.setIfInBounds_toArray, List.set_cons_zero, List.set_cons_succ, i64_w, i32_w]
    rfl
  refine last_ (i := 12) (N := none) #[true, true, true, true, true, true, true, true, true, true, true, true, true, false] rfl rfl (by kernel_rfl) (by decide) (fun K hK => ?_)
  refine skip_ (w1 := ?_) (by rfl) rfl ?_ ?_
  rotate_left
  · go_simp
    rfl
  refine hK.out _ _ ?_
  clear hK K
  refine pure_ (i := 13) (N := some 3) (v := ?_) (a' := ?_) #[true, true, true, true, true, true, true, true, true, true, true, true, true, true] rfl rfl (by kernel_rfl) (fun _ _ _ h => h) (Or.inl ⟨by rfl, ?_⟩) ?_ ?_
  rotate_left
  · intro w'
    go_simp
    with_reducible rfl
  rotate_left
  · simp only [Act.put, List.setIfInBounds_toArray, List.set_cons_zero, List.set_cons_succ, i64_w, i32_w]
    rfl
  refine done_ (by kernel_rfl) ?_
  have ho := HS3.out.fin
  have HO := Lib.hid ho
  have hE : wrap64 (r1 - wrap64 (wrap64 dv * 30)) = r1 - dv * 30 := by unfold wrap64; omega
  have HLB := Lib.hid (show -100 ≤ wrap64 (r1 - wrap64 (wrap64 dv * 30)) ∧ wrap64 (r1 - wrap64 (wrap64 dv * 30)) ≤ 100 by rw [hE]; omega)
  clear hE
  have hB4 := HS3.out.res.set4 (.slice A l.base.slots.length a) (.slice B l.base.vols.length b) (.slice C l.ops.length c) (.int .i64 l.safe)
  go_wp2
  refine bodyPost_ret (results_ct rfl _ _ w.heap.size 51 _ (0, 0) _ rfl hB4 Try.underlying51 rfl (by kernel_rfl)) rfl ?_
  exact ⟨_, _, _, _, _, _, _, _, rfl, HL.out, HLB.out.1, HLB.out.2, HO.out.1, HO.out.2⟩
end Go.Proofs.Ytccllgpaafgjaaa
/- Plain Lean: the pieces of a volume; what the four changes make of the pieces. -/


namespace Go.Proofs.Ytccllgpaafgjaaa
open Go.RowKit Go.Proofs.YtccllgpaafgjaaaW.PrintWords
set_option linter.unusedVariables false
set_option linter.unusedSimpArgs false

def blksOf (vs : List Vol) (t : ByteArray) : List Int := if volIdx vs t < 0 then [] else (volAt vs (volIdx vs t)).blocks
theorem lgBlks_len (vs : List Vol) (t : ByteArray) : lgBlks vs t = (blksOf vs t).length := by unfold lgBlks blksOf; split <;> rfl
/-! ### pieces -/
def pc (s : List Slot) (pl : Int) : ByteArray := if 0 < pl then slotText s pl else e0
def pieces (p : Pool) (t : ByteArray) : List ByteArray := (blksOf p.vols t).map (pc p.slots)
/-- The slots of q say what p's say, where they are used. -/
def Keeps (s t : List Slot) : Prop := ∀ (m : Nat) (y : Slot), t[m]? = some y → ∃ x, s[m]? = some x ∧ (y.text = x.text ∨ y.uses = 0)
theorem Keeps.refl (s : List Slot) : Keeps s s := fun m y hy => ⟨y, hy, .inl rfl⟩
/-! ### the four changes -/
/-- The pool behind a write of the empty piece. -/
def freeP (p : Pool) (name : ByteArray) (b : Int) (i : Nat) (v : Vol) : Pool := ⟨backS p name b, p.vols.set i ⟨name, v.blocks.set b.toNat 0⟩⟩
/-! ### reading -/
/-- A volume of one pool reads as one of another pool does. -/
def RdEq (a : Pool) (x : ByteArray) (b : Pool) (y : ByteArray) : Prop := lgBlks a.vols x = lgBlks b.vols y ∧ ∀ i : Nat, (i : Int) < lgBlks a.vols x → readOk a x i = true ∧ readOk b y i = true ∧ readV a x i = readV b y i
/-- All volumes but one read as they did. -/
def OthEq (a b : Pool) (n : ByteArray) : Prop := ∀ x ∈ a.vols, x.name ≠ n → RdEq a x.name b x.name
end Go.Proofs.Ytccllgpaafgjaaa
/- Plain Lean: how many places are free behind the four changes; a clone that is gone; two volumes made in any order; what is written again. -/

namespace Go.Proofs.Ytccllgpaafgjaaa
open Go.RowKit Go.Proofs.YtccllgpaafgjaaaW.PrintWords
set_option linter.unusedVariables false
set_option linter.unusedSimpArgs false

/-! ### free places -/
theorem PoolP.free {p : Pool} (h : PoolP p) : storeFree p.slots = freeN p.slots := storeFree_yes (storeOk_iff.2 h.s)
/-! ### a clone that is gone -/
/-! ### rows by name -/
/-! ### two volumes made -/
/-! ### all gone -/
/-! ### room for a piece -/
theorem hasBlk_iff {vs : List Vol} (h : VolsP vs) {t : ByteArray} {b : Int} : 0 ≤ hasBlk vs t b ↔ 0 ≤ b ∧ b < (blksOf vs t).length := by
  unfold hasBlk blksOf
  by_cases hv : volIdx vs t < 0
  · rw [if_pos hv, if_pos hv]; simp
  · rw [if_neg hv, if_neg hv]
    cases hr : inR b 0 ((volAt vs (volIdx vs t)).blocks.length - 1)
    · rw [inR_no] at hr
      simp only [Bool.false_eq_true, if_false]
      omega
    · rw [inR_iff] at hr
      rw [if_pos rfl]
      omega
theorem PoolP.wr {p : Pool} (h : PoolP p) {t : ByteArray} {b : Int} (h0 : 0 ≤ b) (h1 : b < lgBlks p.vols t) : ∃ i v x, Wr p t b i v x :=
  hasBlk_wr ((hasBlk_iff h.v).2 ⟨h0, by rw [lgBlks_len] at h1; exact h1⟩)
/-- Is a piece at some place? -/
def there (s : List Slot) (t : ByteArray) : Bool := decide (0 ≤ idx (fun o : Slot => o.text.toList == t.toList) s)
/-! the places behind a block's piece given back -/
end Go.Proofs.Ytccllgpaafgjaaa
/- lgReads, lgOthers: true where volumes read the same. -/



namespace Go.Proofs.Ytccllgpaafgjaaa
open Go.RowKit Go.Proofs.YtccllgpaafgjaaaW.PrintWords
set_option linter.unusedVariables false
set_option linter.unusedSimpArgs false

end Go.Proofs.Ytccllgpaafgjaaa
/- Plain Lean: texts of pools; changes apart and twice; how many pieces there are. -/


namespace Go.Proofs.Ytccllgpaafgjaaa
open Go.RowKit Go.Proofs.YtccllgpaafgjaaaW.PrintWords
set_option linter.unusedVariables false
set_option linter.unusedSimpArgs false

/-! ### texts -/
def spB : ByteArray := ⟨#[32]⟩
def dashB : ByteArray := ⟨#[45]⟩
def nlB : ByteArray := ⟨#[10]⟩
def blkT (s : List Slot) (pl : Int) : ByteArray := if 0 < pl ∧ 0 < (s.getD (pl - 1).toNat Slot.z).uses then slotText s pl else dashB
def volRun (s : List Slot) (a : ByteArray) (bs : List Int) : ByteArray := bs.foldl (fun a pl => a ++ (spB ++ blkT s pl)) a
def volT (v : Vol) (s : List Slot) : ByteArray := if volOk v && storeOk s then volRun s v.name v.blocks else e0
def poolRun (s : List Slot) (a : ByteArray) (vs : List Vol) : ByteArray := vs.foldl (fun a v => a ++ (volT v s ++ nlB)) a
def poolT (p : Pool) : ByteArray := if poolOk p then poolRun p.slots e0 p.vols else e0
def tagT (t : ByteArray) (ps : List ByteArray) : ByteArray := ps.foldl (fun a x => a ++ (spB ++ if x = e0 then dashB else x)) t
def tags (p : Pool) : List (ByteArray × List ByteArray) := p.vols.map fun v => (v.name, v.blocks.map (pc p.slots))
/-! ### changes -/
def opPieces (o : Op) (f : ByteArray → List ByteArray) (t : ByteArray) : List ByteArray :=
  if o.kind = 1 then (if t = o.name then List.replicate o.n.toNat e0 else f t)
  else if o.kind = 2 then (if t = o.name then (f o.name).set o.n.toNat o.text else f t)
  else if o.kind = 3 then (if t = o.dest then f o.name else f t)
  else (if t = o.name then [] else f t)
/-! ### how many pieces -/
def kstep (seen : List ByteArray) (t : ByteArray) : List ByteArray := if (t.toList == []) || seen.any (fun o => o.toList == t.toList) then seen else seen ++ [t]
def usedT : List Slot → List ByteArray
  | [] => []
  | x :: s => if x.uses = 0 then usedT s else x.text :: usedT s
def allT (p : Pool) (vs : List Vol) : List ByteArray := vs.flatMap fun v => pieces p v.name
end Go.Proofs.Ytccllgpaafgjaaa
/- VolText of the program and of the reference: volT. -/


namespace Go.Proofs.Ytccllgpaafgjaaa
open Go.RowKit Go.Proofs.YtccllgpaafgjaaaW.PrintWords
set_option linter.unusedVariables false
set_option linter.unusedSimpArgs false

end Go.Proofs.Ytccllgpaafgjaaa
/- PoolText of the program and of the reference: poolT. -/


namespace Go.Proofs.Ytccllgpaafgjaaa
open Go.RowKit Go.Proofs.YtccllgpaafgjaaaW.PrintWords
set_option linter.unusedVariables false
set_option linter.unusedSimpArgs false

end Go.Proofs.Ytccllgpaafgjaaa
/- l71Name: a name that is drawn. -/

namespace Go.Proofs.Ytccllgpaafgjaaa
open Go.RowKit Go.Proofs.YtccllgpaafgjaaaW.PrintWords Go.Proofs.YtccllgpaafgjaaaW.PrintLast
set_option linter.unusedVariables false
set_option linter.unusedSimpArgs false

def NameV (v : Value) : Prop := ∃ s : ByteArray, v = .string s ∧ s.size ≤ 1048576
structure NmSt (w W : World) (rb k base : Nat) (v0 v1 : Value) (p : Pool) (bvs : List Value) : Prop where
  box : Blk W w.heap.size #[v0, v1] 49
  rd : Rd W rb k
  own : OwnP W base v0 v1 p bvs
  g : w.grownBy W (some rb)
  l3 : rb < w.heap.size
theorem NmSt.step {w W W' : World} {rb k k' base : Nat} {v0 v1 : Value} {p : Pool} {bvs : List Value} (h : NmSt w W rb k base v0 v1 p bvs) (hR : Rd W' rb k') (hg : W.grownBy W' (some rb)) : NmSt w W' rb k' base v0 v1 p bvs :=
  ⟨h.box.grown hg (fun e => by injection e with e; have := h.l3; omega), hR, h.own.rd h.rd hg, grown_tr h.g hg, h.l3⟩
theorem NmSt.bel {w W W' : World} {rb k base : Nat} {v0 v1 : Value} {p : Pool} {bvs : List Value} (h : NmSt w W rb k base v0 v1 p bvs) (hb : Bel W W') : NmSt w W' rb k base v0 v1 p bvs :=
  ⟨h.box.bel hb, h.rd.bel hb, h.own.bel hb, grown_tr h.g (grown_of_bel hb _), h.l3⟩
def five : List ByteArray := [sOf [65], sOf [66], sOf [67], sOf [68], sOf [69]]
end Go.Proofs.Ytccllgpaafgjaaa
/- DrawPoolText, DrawPoolGone. -/

namespace Go.Proofs.Ytccllgpaafgjaaa
open Go.RowKit Go.Proofs.YtccllgpaafgjaaaW.PrintWords Go.Proofs.YtccllgpaafgjaaaW.PrintLast
set_option linter.unusedVariables false
set_option linter.unusedSimpArgs false

theorem bel_of_grown {w w1 w2 : World} (h : Bel w w1) {rb : Nat} (hg : w1.grownBy w2 (some rb)) (hr : w.heap.size ≤ rb) : Bel w w2 := h.grown hg h.size (fun k e => by injection e with e; omega)
/-- What DrawPoolText leaves. -/
def DrewT (w : World) (e : Ending) (w' : World) : Prop := ∃ (v0 v1 : Value) (p : Pool) (bvs : List Value), e = .returned (.agg #[v0, v1]) ∧ DrawnP p ∧ OwnP w' w.heap.size v0 v1 p bvs ∧ Bel w w'
structure DrSt (w W : World) (rb k : Nat) (v0 v1 : Value) (p : Pool) (bvs : List Value) (pb : Nat) : Prop where
  res : Blk W w.heap.size #[.slice none 0 0, .slice none 0 0] 49
  pool : Blk W pb #[v0, v1] 49
  rd : Rd W rb k
  own : OwnP W w.heap.size v0 v1 p bvs
  bel : Bel w W
  l1 : w.heap.size < rb
  l2 : rb < pb
theorem DrSt.step {w W W' : World} {rb k k' : Nat} {v0 v1 : Value} {p : Pool} {bvs : List Value} {pb : Nat} (h : DrSt w W rb k v0 v1 p bvs pb) (hR : Rd W' rb k') (hg : W.grownBy W' (some rb)) : DrSt w W' rb k' v0 v1 p bvs pb :=
  ⟨h.res.grown hg (fun e => by injection e with e; have := h.l1; omega), h.pool.grown hg (fun e => by injection e with e; have := h.l2; omega), hR, h.own.rd h.rd hg, bel_of_grown h.bel hg (Nat.le_of_lt h.l1), h.l1, h.l2⟩
theorem DrSt.below {w W W' : World} {rb k : Nat} {v0 v1 : Value} {p : Pool} {bvs : List Value} {pb : Nat} (h : DrSt w W rb k v0 v1 p bvs pb) (hb : Bel W W') : DrSt w W' rb k v0 v1 p bvs pb :=
  ⟨h.res.bel hb, h.pool.bel hb, h.rd.bel hb, h.own.bel hb, h.bel.tr hb, h.l1, h.l2⟩
/-- What DrawPoolGone leaves. -/
def DrewG (w : World) (e : Ending) (w' : World) : Prop := ∃ (v0 v1 : Value) (p : Pool) (bvs : List Value) (s : ByteArray), e = .returned (.tuple #[.agg #[v0, v1], .string s]) ∧ s.size ≤ 1048576 ∧ DrawnP p ∧ OwnP w' w.heap.size v0 v1 p bvs ∧ Bel w w'
end Go.Proofs.Ytccllgpaafgjaaa
/- DrawPoolMake. -/

namespace Go.Proofs.Ytccllgpaafgjaaa
open Go.RowKit Go.Proofs.YtccllgpaafgjaaaW.PrintWords Go.Proofs.YtccllgpaafgjaaaW.PrintLast
set_option linter.unusedVariables false
set_option linter.unusedSimpArgs false

def eight : List ByteArray := [sOf [65], sOf [66], sOf [67], sOf [68], sOf [68], sOf [67], sOf [69], sOf []]
/-- What DrawPoolMake leaves. -/
def DrewM (w : World) (e : Ending) (w' : World) : Prop := ∃ (v0 v1 : Value) (p : Pool) (bvs : List Value) (s : ByteArray) (n : Int), e = .returned (.tuple #[.agg #[v0, v1], .string s, .int .i64 n]) ∧ s ∈ eight ∧ 1 ≤ n ∧ n ≤ 100 ∧ DrawnP p ∧ OwnP w' w.heap.size v0 v1 p bvs ∧ Bel w w'
end Go.Proofs.Ytccllgpaafgjaaa
/- DrawPoolClone. -/


namespace Go.Proofs.Ytccllgpaafgjaaa
open Go.RowKit Go.Proofs.YtccllgpaafgjaaaW.PrintWords Go.Proofs.YtccllgpaafgjaaaW.PrintLast
set_option linter.unusedVariables false
set_option linter.unusedSimpArgs false

/-- What DrawPoolClone leaves. -/
def DrewC (w : World) (e : Ending) (w' : World) : Prop := ∃ (v0 v1 : Value) (p : Pool) (bvs : List Value) (s d : ByteArray), e = .returned (.tuple #[.agg #[v0, v1], .string s, .string d]) ∧ s.size ≤ 1048576 ∧ d ∈ five ∧ DrawnP p ∧ OwnP w' w.heap.size v0 v1 p bvs ∧ Bel w w'
end Go.Proofs.Ytccllgpaafgjaaa
/- Plain Lean: what each law says of the four changes, as its body's walk needs it. -/



namespace Go.Proofs.Ytccllgpaafgjaaa
open Go.RowKit Go.Proofs.YtccllgpaafgjaaaW.PrintWords
set_option linter.unusedVariables false
set_option linter.unusedSimpArgs false

def four : List ByteArray := [sOf [97], sOf [98, 99, 100], sOf [], sOf [100, 100]]
def fourB : List ByteArray := [sOf [97], sOf [98, 98], sOf [], sOf [99, 100]]
/-! ### gone -/
/-! ### make -/
/-! ### clone -/
/-! ### write -/
end Go.Proofs.Ytccllgpaafgjaaa
/- DrawPoolWrite. -/

namespace Go.Proofs.Ytccllgpaafgjaaa
open Go.RowKit Go.Proofs.YtccllgpaafgjaaaW.PrintWords Go.Proofs.YtccllgpaafgjaaaW.PrintLast
set_option linter.unusedVariables false
set_option linter.unusedSimpArgs false

/-- What DrawPoolWrite leaves. -/
def DrewW (w : World) (e : Ending) (w' : World) : Prop := ∃ (v0 v1 : Value) (p : Pool) (bvs : List Value) (s : ByteArray) (n : Int) (tx : ByteArray), e = .returned (.tuple #[.agg #[v0, v1], .string s, .int .i64 n, .string tx]) ∧ s.size ≤ 1048576 ∧ -100 ≤ n ∧ n ≤ 100 ∧ tx.size ≤ 1048576 ∧ DrawnP p ∧ OwnP w' w.heap.size v0 v1 p bvs ∧ Bel w w'
end Go.Proofs.Ytccllgpaafgjaaa
/- What the laws' bodies need of each callee, in one form; StoreFind of the program. -/












namespace Go.Proofs.Ytccllgpaafgjaaa
open Go.RowKit Go.Proofs.YtccllgpaafgjaaaW.PrintWords
set_option linter.unusedVariables false
set_option linter.unusedSimpArgs false

/-- A new pool and whether all went well. -/
def NewP (w : World) (q : Pool) (ok : Bool) (e : Ending) (w' : World) : Prop := ∃ A0 A1 c0 c1, e = .returned (.tuple #[.agg #[.slice A0 q.slots.length c0, .slice A1 q.vols.length c1], .bool ok]) ∧ PoolIn w' A0 A1 c0 c1 q ∧ Bel w w'
theorem MadePB.new {w : World} {q : Pool} {ok : Bool} {e : Ending} {w' : World} (h : MadePB w q ok e w') : NewP w q ok e w' := by
  obtain ⟨v0, v1, bvs, rfl, ho, hb⟩ := h
  obtain ⟨A0, A1, c0, c1, rfl, rfl, hi⟩ := ho.reads
  exact ⟨A0, A1, c0, c1, rfl, hi, hb⟩
/-- A pool in a variable. -/
structure PVar (w : World) (b : Nat) (A0 A1 : Option Addr) (c0 c1 : Nat) (q : Pool) : Prop where
  blk : Blk w b #[.slice A0 q.slots.length c0, .slice A1 q.vols.length c1] 49
  inn : PoolIn w A0 A1 c0 c1 q
theorem PVar.bel {w w' : World} {b : Nat} {A0 A1 : Option Addr} {c0 c1 : Nat} {q : Pool} (h : PVar w b A0 A1 c0 c1 q) (hb : Bel w w') : PVar w' b A0 A1 c0 c1 q := ⟨h.blk.bel hb, h.inn.bel hb⟩
theorem PVar.new {w : World} {A0 A1 : Option Addr} {c0 c1 : Nat} {q : Pool} (h : PoolIn w A0 A1 c0 c1 q) : PVar (w.alloc (.cells #[.slice A0 q.slots.length c0, .slice A1 q.vols.length c1] 49)) w.heap.size A0 A1 c0 c1 q := ⟨Blk.new _ _ _, h.alloc _⟩
theorem PVar.c0 {w : World} {b : Nat} {A0 A1 : Option Addr} {c0 c1 : Nat} {q : Pool} (h : PVar w b A0 A1 c0 c1 q) : w.cell? ⟨b, 0, none⟩ = some (.slice A0 q.slots.length c0) := by have := h.blk.cell 0; simpa using this
theorem PVar.c1 {w : World} {b : Nat} {A0 A1 : Option Addr} {c0 c1 : Nat} {q : Pool} (h : PVar w b A0 A1 c0 c1 q) : w.cell? ⟨b, 1, none⟩ = some (.slice A1 q.vols.length c1) := by have := h.blk.cell 1; simpa using this
theorem PVar.lt {w : World} {b : Nat} {A0 A1 : Option Addr} {c0 c1 : Nat} {q : Pool} (h : PVar w b A0 A1 c0 c1 q) : b < w.heap.size := h.blk.lt

/-! ### cases of a change -/

section
variable {w : World} {A0 A1 : Option Addr} {c0 c1 : Nat} {p q : Pool} {ok : Bool}
abbrev poolV (A0 A1 : Option Addr) (c0 c1 : Nat) (p : Pool) : Value := .agg #[.slice A0 p.slots.length c0, .slice A1 p.vols.length c1]
end

/-! ### drawn pools -/
def DrewG' (w : World) (e : Ending) (w' : World) : Prop := ∃ A0 A1 c0 c1, ∃ (p : Pool) (s : ByteArray), e = .returned (.tuple #[.agg #[.slice A0 p.slots.length c0, .slice A1 p.vols.length c1], .string s]) ∧ s.size ≤ 1048576 ∧ DrawnP p ∧ PoolIn w' A0 A1 c0 c1 p ∧ Bel w w'
theorem DrewG.new {w : World} {e : Ending} {w' : World} (h : DrewG w e w') : DrewG' w e w' := by
  obtain ⟨v0, v1, p, bvs, s, rfl, hs, hp, ho, hb⟩ := h
  obtain ⟨A0, A1, c0, c1, rfl, rfl, hi⟩ := ho.reads
  exact ⟨A0, A1, c0, c1, p, s, rfl, hs, hp, hi, hb⟩
def DrewT' (w : World) (e : Ending) (w' : World) : Prop := ∃ A0 A1 c0 c1, ∃ (p : Pool), e = .returned (.agg #[.slice A0 p.slots.length c0, .slice A1 p.vols.length c1]) ∧ DrawnP p ∧ PoolIn w' A0 A1 c0 c1 p ∧ Bel w w'
theorem DrewT.new {w : World} {e : Ending} {w' : World} (h : DrewT w e w') : DrewT' w e w' := by
  obtain ⟨v0, v1, p, bvs, rfl, hp, ho, hb⟩ := h
  obtain ⟨A0, A1, c0, c1, rfl, rfl, hi⟩ := ho.reads
  exact ⟨A0, A1, c0, c1, p, rfl, hp, hi, hb⟩
def DrewM' (w : World) (e : Ending) (w' : World) : Prop := ∃ A0 A1 c0 c1, ∃ (p : Pool) (s : ByteArray) (n : Int), e = .returned (.tuple #[.agg #[.slice A0 p.slots.length c0, .slice A1 p.vols.length c1], .string s, .int .i64 n]) ∧ s ∈ eight ∧ 1 ≤ n ∧ n ≤ 100 ∧ DrawnP p ∧ PoolIn w' A0 A1 c0 c1 p ∧ Bel w w'
theorem DrewM.new {w : World} {e : Ending} {w' : World} (h : DrewM w e w') : DrewM' w e w' := by
  obtain ⟨v0, v1, p, bvs, s, n, rfl, hs, h1, h2, hp, ho, hb⟩ := h
  obtain ⟨A0, A1, c0, c1, rfl, rfl, hi⟩ := ho.reads
  exact ⟨A0, A1, c0, c1, p, s, n, rfl, hs, h1, h2, hp, hi, hb⟩
def DrewC' (w : World) (e : Ending) (w' : World) : Prop := ∃ A0 A1 c0 c1, ∃ (p : Pool) (s d : ByteArray), e = .returned (.tuple #[.agg #[.slice A0 p.slots.length c0, .slice A1 p.vols.length c1], .string s, .string d]) ∧ s.size ≤ 1048576 ∧ d ∈ five ∧ DrawnP p ∧ PoolIn w' A0 A1 c0 c1 p ∧ Bel w w'
theorem DrewC.new {w : World} {e : Ending} {w' : World} (h : DrewC w e w') : DrewC' w e w' := by
  obtain ⟨v0, v1, p, bvs, s, d, rfl, hs, hd, hp, ho, hb⟩ := h
  obtain ⟨A0, A1, c0, c1, rfl, rfl, hi⟩ := ho.reads
  exact ⟨A0, A1, c0, c1, p, s, d, rfl, hs, hd, hp, hi, hb⟩
def DrewW' (w : World) (e : Ending) (w' : World) : Prop := ∃ A0 A1 c0 c1, ∃ (p : Pool) (s : ByteArray) (n : Int) (tx : ByteArray), e = .returned (.tuple #[.agg #[.slice A0 p.slots.length c0, .slice A1 p.vols.length c1], .string s, .int .i64 n, .string tx]) ∧ s.size ≤ 1048576 ∧ -100 ≤ n ∧ n ≤ 100 ∧ tx.size ≤ 1048576 ∧ DrawnP p ∧ PoolIn w' A0 A1 c0 c1 p ∧ Bel w w'
theorem DrewW.new {w : World} {e : Ending} {w' : World} (h : DrewW w e w') : DrewW' w e w' := by
  obtain ⟨v0, v1, p, bvs, s, n, tx, rfl, hs, h1, h2, ht, hp, ho, hb⟩ := h
  obtain ⟨A0, A1, c0, c1, rfl, rfl, hi⟩ := ho.reads
  exact ⟨A0, A1, c0, c1, p, s, n, tx, rfl, hs, h1, h2, ht, hp, hi, hb⟩

/-! ### StoreFind -/
def findB (s : List Slot) (t : ByteArray) : Bool := storeOk s && (tOk t && !t.toList.isEmpty)
def FoundB (s : List Slot) (t : ByteArray) (w : World) (e : Ending) (w' : World) : Prop := ∃ n : Int, e = .returned (.tuple #[.int .i64 n, .bool (findB s t && there s t)]) ∧ Bel w w'
end Go.Proofs.Ytccllgpaafgjaaa
/- What the laws' bodies on logs need of each callee, in one form. -/




namespace Go.Proofs.Ytccllgpaafgjaaa
open Go.RowKit Go.Proofs.YtccllgpaafgjaaaW.PrintWords
set_option linter.unusedVariables false
set_option linter.unusedSimpArgs false

section
variable {w : World} {A B C : Option Addr} {a b c : Nat} {l x : Log} {q : Pool} {ok : Bool}
theorem implLogOk_n (h : LogIn w A B C a b c l) (hs : SmallL l) (he : logOk l = ok) : Calls Try.prog 25 #[.agg #[.slice A l.base.slots.length a, .slice B l.base.vols.length b, .slice C l.ops.length c, .int .i64 l.safe]] w (Ret (.bool ok) w) := he ▸ implLogOk_c h hs
theorem specLogOk_n (h : LogIn w A B C a b c l) (hs : SmallL l) (he : logOk l = ok) : Calls Try.prog 26 #[.agg #[.slice A l.base.slots.length a, .slice B l.base.vols.length b, .slice C l.ops.length c, .int .i64 l.safe]] w (Ret (.bool ok) w) := he ▸ specLogOk_c h hs
theorem implLogPool_n (h : LogIn w A B C a b c l) (hs : SmallL l) (he : poolF l = q) : Calls Try.prog 29 #[.agg #[.slice A l.base.slots.length a, .slice B l.base.vols.length b, .slice C l.ops.length c, .int .i64 l.safe]] w (NewP1 w q) := (he ▸ implLogPool_c h hs).mono fun _ _ h => h.new1
theorem specLogPool_n (h : LogIn w A B C a b c l) (hs : SmallL l) (he : poolF l = q) : Calls Try.prog 31 #[.agg #[.slice A l.base.slots.length a, .slice B l.base.vols.length b, .slice C l.ops.length c, .int .i64 l.safe]] w (NewP1 w q) := (he ▸ specLogPool_c h hs).mono fun _ _ h => h.new1
theorem implLogFall_n {left : Int} (h : LogIn w A B C a b c l) (hs : SmallL l) (he : fallF l left = x) : Calls Try.prog 35 #[.agg #[.slice A l.base.slots.length a, .slice B l.base.vols.length b, .slice C l.ops.length c, .int .i64 l.safe], .int .i64 left] w (NewL w x) := he ▸ implLogFall_c h hs
theorem specLogFall_n {left : Int} (h : LogIn w A B C a b c l) (hs : SmallL l) (he : fallF l left = x) : Calls Try.prog 37 #[.agg #[.slice A l.base.slots.length a, .slice B l.base.vols.length b, .slice C l.ops.length c, .int .i64 l.safe], .int .i64 left] w (NewL w x) := he ▸ specLogFall_c h hs
end
theorem kOp_bel {w w' : World} {A : Option Addr} {n : Nat} {os : List Op} (h : kOp.C w A n os) (hb : Bel w w') : kOp.C w' A n os := Kd.C_below h hb
theorem poolF_small {l : Log} : SmallP (poolF l) := by
  unfold poolF
  split
  · exact runV_small
  · exact noP_small
theorem fallF_small {l : Log} {left : Int} (h : SmallL l) : SmallL (fallF l left) := by
  unfold fallF
  split
  · exact ⟨h.base, h.ops.take _⟩
  · exact noL_small
theorem LogP.fallX {l : Log} {q : Pool} (h : LogP l q) {left : Int} (hl : 0 ≤ left) : ∃ tk r, fallF l left = ⟨l.base, tk, l.safe⟩ ∧ LogP ⟨l.base, tk, l.safe⟩ r ∧ l.ops.take tk.length = tk ∧ tk.length ≤ l.ops.length ∧ l.safe ≤ tk.length ∧ (tk.length : Int) = max l.safe (min left l.ops.length) := by
  have hc := h.cut hl
  obtain ⟨r, hr⟩ := h.fall hl
  have he := h.fallE hl
  rw [he] at hr
  have hk : (l.ops.take (cutL l left)).length = cutL l left := by rw [List.length_take]; omega
  refine ⟨_, r, he, hr, by rw [hk], by rw [hk]; exact hc.2.1, by rw [hk]; exact hc.1, by rw [hk]; exact hc.2.2⟩
theorem max_min_if (s left len : Int) : (if s < (if len < left then len else left) then (if len < left then len else left) else s) = max s (min left len) := by
  have h1 : (if len < left then len else left) = min left len := by rw [Int.min_def]; split <;> split <;> omega
  rw [h1, Int.max_def]
  split <;> split <;> omega
theorem LogIn.dropTo {w : World} {A B C : Option Addr} {a b c : Nat} {l : Log} (h : LogIn w A B C a b c l) {k : Nat} (hk : k ≤ l.ops.length) {os : List Op} (ho : l.ops.drop k = os) :
    ∃ (D : Option Addr) (d : Nat), Value.slice (if c = k then C else Option.map (fun x => x.add (k * 5)) C) (l.ops.length - k) (c - k) = .slice D os.length d ∧ os.length ≤ d ∧ kOp.C w D os.length os := by
  subst ho
  refine ⟨_, c - k, ?_, ?_, Kd.C_drop (c := c) h.o hk h.oc⟩
  · rw [List.length_drop]; rfl
  · rw [List.length_drop]; have := h.oc; omega
theorem LogIn.cutTo {w : World} {A B C : Option Addr} {a b c : Nat} {l : Log} (h : LogIn w A B C a b c l) {k : Nat} (hk : k ≤ l.ops.length) {os : List Op} (ho : l.ops.take k = os) (s : Int) : LogIn w A B C a b c ⟨l.base, os, s⟩ := by
  subst ho
  have e : (l.ops.take k).length = k := by rw [List.length_take]; omega
  exact ⟨h.p, by show kOp.C w C (l.ops.take k).length (l.ops.take k); rw [e]; exact C_take h.o k hk, by show (l.ops.take k).length ≤ c; have := h.oc; omega⟩
end Go.Proofs.Ytccllgpaafgjaaa
/- The law FnLogTwo: its body walked. -/

namespace Go.Proofs.Ytccllgpaafgjaaa
open Go.RowKit Go.Proofs.YtccllgpaafgjaaaW.PrintWords Go.Proofs.YtccllgpaafgjaaaW.PrintLast
set_option linter.unusedVariables false
set_option linter.unusedSimpArgs false

set_option maxHeartbeats 32000000 in
set_option maxRecDepth 10000 in
theorem lawFnLogTwo_c {w : World} {A : Option Addr} {n c : Nat} {bs : List Int} {A2 : Option Addr} {n2 c2 : Nat} {bs2 : List Int} (h : CodeIn w A n c bs) (hn : n ≤ 9223372036854775807) (h2 : CodeIn w A2 n2 c2 bs2) (hn2 : n2 ≤ 9223372036854775807) :
    Calls Try.prog 8 #[.slice A n c, .slice A2 n2 c2] w (Ret (.bool true) w) := by
  have H := Lib.hid h
  clear h
  have H2 := Lib.hid h2
  clear h2
  go_enter Try.func8, Try.ntmps8
  by_cases hlen : (1048576 : Int) < (n : Int)
  · go_wp2
    go_ret
    exact ⟨rfl, Below.refl _ _⟩
  by_cases hlen2 : (1048576 : Int) < (n2 : Int)
  · go_wp2
    go_ret
    exact ⟨rfl, Below.refl _ _⟩
  go_wp2_with fail
  refine (drawLogPool_c H.out hn).mono ?_
  rintro e w1 ⟨Al, Bl, Cl, al, bl, cl, l, rfl, hd, hin, hb⟩
  have HSl := Lib.hid hd.small
  have hll := hd.len
  have Jl := Lib.hid hin
  have KW := Lib.hid hb
  clear hd hin hb
  obtain ⟨p, hpf⟩ : ∃ p, poolF l = p := ⟨_, rfl⟩
  have HPF := Lib.hid hpf
  have HSp := Lib.hid (hpf ▸ poolF_small : SmallP p)
  clear hpf
  go_wp2_with fail
  have hnew := LVar.new Jl.out
  have hb : Bel w1 (w1.alloc (.cells #[.slice Al l.base.slots.length al, .slice Bl l.base.vols.length bl, .slice Cl l.ops.length cl, .int .i64 l.safe] 51)) := bel_alloc (Below.refl _ _) _
  generalize w1.alloc (.cells #[.slice Al l.base.slots.length al, .slice Bl l.base.vols.length bl, .slice Cl l.ops.length cl, .int .i64 l.safe] 51) = W2 at hnew hb ⊢
  replace Jl := Lib.hid (Jl.out.bel hb)
  replace KW := Lib.hid (KW.out.tr hb)
  obtain ⟨bkl, hbn⟩ : ∃ b, w1.heap.size = b := ⟨_, rfl⟩
  rw [hbn] at hnew ⊢
  have Vl := Lib.hid hnew
  clear hnew hb hbn Jl
  refine (implLogPool_n Vl.out.inn HSl.out HPF.out).mono ?_
  rintro e w3 ⟨Ap, Bp, cp, dp, rfl, hin, hb⟩
  replace Vl := Lib.hid (Vl.out.bel hb)
  replace KW := Lib.hid (KW.out.tr hb)
  have Ip := Lib.hid hin
  clear hin hb
  cases hok : logOk l
  · have HOK := Lib.hid hok
    clear hok
    have el0 : w3.cell? ⟨bkl, 0, none⟩ = some (.slice Al l.base.slots.length al) := Vl.out.c0
    have el1 : w3.cell? ⟨bkl, 1, none⟩ = some (.slice Bl l.base.vols.length bl) := Vl.out.c1
    have el2 : w3.cell? ⟨bkl, 2, none⟩ = some (.slice Cl l.ops.length cl) := Vl.out.c2
    have el3 : w3.cell? ⟨bkl, 3, none⟩ = some (.int .i64 l.safe) := Vl.out.c3
    have eyl := Vl.out.lt
    go_wp2
    clear el0 el1 el2 el3 eyl
    have hnew := PVar.new Ip.out
    have hb : Bel w3 (w3.alloc (.cells #[.slice Ap p.slots.length cp, .slice Bp p.vols.length dp] 49)) := bel_alloc (Below.refl _ _) _
    generalize w3.alloc (.cells #[.slice Ap p.slots.length cp, .slice Bp p.vols.length dp] 49) = W4 at hnew hb ⊢
    replace Vl := Lib.hid (Vl.out.bel hb)
    replace Ip := Lib.hid (Ip.out.bel hb)
    replace KW := Lib.hid (KW.out.tr hb)
    obtain ⟨bkp, hbn⟩ : ∃ b, w3.heap.size = b := ⟨_, rfl⟩
    rw [hbn] at hnew ⊢
    have Pp := Lib.hid hnew
    clear hnew hb hbn Ip
    have hb : Bel W4 W4.drew := (Below.refl _ _).drew
    replace Vl := Lib.hid (Vl.out.bel hb)
    replace Pp := Lib.hid (Pp.out.bel hb)
    replace KW := Lib.hid (KW.out.tr hb)
    clear hb
    refine start_ (n := 10) (S := fun w' => w'.cell? ⟨bkp, 0, none⟩ = some (.slice Ap p.slots.length cp) ∧ w'.cell? ⟨bkp, 1, none⟩ = some (.slice Bp p.vols.length dp) ∧ w'.cell? ⟨bkl, 0, none⟩ = some (.slice Al l.base.slots.length al) ∧ w'.cell? ⟨bkl, 1, none⟩ = some (.slice Bl l.base.vols.length bl) ∧ w'.cell? ⟨bkl, 2, none⟩ = some (.slice Cl l.ops.length cl) ∧ w'.cell? ⟨bkl, 3, none⟩ = some (.int .i64 l.safe)) (ds := []) #[false, false, false, false, false, false, false, false, false, false] (by kernel_rfl) rfl rfl ⟨Pp.out.c0, Pp.out.c1, Vl.out.c0, Vl.out.c1, Vl.out.c2, Vl.out.c3⟩ (fun hHeld => ?_)
    refine take_ (i := 0) (N := some 22) (v := ?_) (a' := ?_) #[true, false, false, false, false, false, false, false, false, false] rfl rfl (by kernel_rfl) (fun _ _ _ h => h) (Or.inl ⟨by rfl, ?_⟩) hHeld ?_ ?_
    rotate_left
    · rintro w' ⟨s0, s1, s2, s3, s4, s5⟩
      go_simp
      with_reducible rfl
    rotate_left
    · simp only [Act.put, List.setIfInBounds_toArray, List.set_cons_zero, List.set_cons_succ, i64_w, i32_w]
      rfl
    refine take_ (i := 1) (N := some 23) (v := ?_) (a' := ?_) #[true, true, false, false, false, false, false, false, false, false] rfl rfl (by kernel_rfl) (fun _ _ _ h => h) (Or.inl ⟨by rfl, ?_⟩) hHeld ?_ ?_
    rotate_left
    · rintro w' ⟨s0, s1, s2, s3, s4, s5⟩
      go_simp
      with_reducible rfl
    rotate_left
    · simp only [Act.put, List.setIfInBounds_toArray, List.set_cons_zero, List.set_cons_succ, i64_w, i32_w]
      rfl
    refine one_ (i := 2) (N := some 24) #[true, true, true, false, false, false, false, false, false, false] rfl rfl (by kernel_rfl) (by decide) (fun K hK => ?_)
    refine goes_ Try.func31 (by kernel_rfl) rfl #[.agg #[.slice Al l.base.slots.length al, .slice Bl l.base.vols.length bl, .slice Cl l.ops.length cl, .int .i64 l.safe]] (by rfl) rfl rfl (by simp only [List.map_toArray, List.map_cons, List.map_nil]; rfl) ?_
    with_reducible refine (specLogPool_n Vl.out.inn HSl.out HPF.out).mono ?_
    rintro e w5 ⟨Ay5, By5, cy5, dy5, rfl, hin, hb⟩
    replace Vl := Lib.hid (Vl.out.bel hb)
    replace Pp := Lib.hid (Pp.out.bel hb)
    replace KW := Lib.hid (KW.out.tr hb)
    have Iy5 := Lib.hid hin
    clear hin hb
    refine ⟨_, rfl, ?_⟩
    refine hK.out _ _ ⟨Pp.out.c0, Pp.out.c1, Vl.out.c0, Vl.out.c1, Vl.out.c2, Vl.out.c3⟩ (fun hHeld => ?_)
    clear hK K
    refine norm_ (a' := ?_) ?_ ?_
    rotate_left
    · show Act.put _ (some 24) _ = _
      simp only [Act.put, List.setIfInBounds_toArray, List.set_cons_zero, List.set_cons_succ, i64_w, i32_w]
      rfl
    refine one_ (i := 3) (N := some 25) #[true, true, true, true, false, false, false, false, false, false] rfl rfl (by kernel_rfl) (by decide) (fun K hK => ?_)
    refine goes_ Try.func30 (by kernel_rfl) rfl #[.agg #[.slice Ap p.slots.length cp, .slice Bp p.vols.length dp], .agg #[.slice Ay5 p.slots.length cy5, .slice By5 p.vols.length dy5]] (by rfl) rfl rfl (by simp only [List.map_toArray, List.map_cons, List.map_nil]; rfl) ?_
    with_reducible refine (lgPool_c Pp.out.inn Iy5.out HSp.out).mono ?_
    rintro e w6 ⟨rfl, hb⟩
    replace Vl := Lib.hid (Vl.out.bel hb)
    replace Pp := Lib.hid (Pp.out.bel hb)
    replace Iy5 := Lib.hid (Iy5.out.bel hb)
    replace KW := Lib.hid (KW.out.tr hb)
    clear hb
    refine ⟨_, rfl, ?_⟩
    refine hK.out _ _ ⟨Pp.out.c0, Pp.out.c1, Vl.out.c0, Vl.out.c1, Vl.out.c2, Vl.out.c3⟩ (fun hHeld => ?_)
    clear hK K
    refine norm_ (a' := ?_) ?_ ?_
    rotate_left
    · show Act.put _ (some 25) _ = _
      simp only [Act.put, List.setIfInBounds_toArray, List.set_cons_zero, List.set_cons_succ, i64_w, i32_w]
      rfl
    refine pure_ (i := 4) (N := some 26) (v := ?_) (a' := ?_) #[true, true, true, true, true, false, false, false, false, false] rfl rfl (by kernel_rfl) (fun _ _ _ h => h) (Or.inl ⟨by rfl, ?_⟩) ?_ ?_
    rotate_left
    · intro w'
      go_simp
      with_reducible rfl
    rotate_left
    · simp only [Act.put, List.setIfInBounds_toArray, List.set_cons_zero, List.set_cons_succ, i64_w, i32_w]
      rfl
    refine pure_ (i := 5) (N := some 27) (v := ?_) (a' := ?_) #[true, true, true, true, true, true, false, false, false, false] rfl rfl (by kernel_rfl) (fun _ _ _ h => h) (Or.inl ⟨by rfl, ?_⟩) ?_ ?_
    rotate_left
    · intro w'
      go_simp
      with_reducible rfl
    rotate_left
    · simp only [Act.put, List.setIfInBounds_toArray, List.set_cons_zero, List.set_cons_succ, i64_w, i32_w]
      rfl
    refine take_ (i := 6) (N := some 28) (v := ?_) (a' := ?_) #[true, true, true, true, true, true, true, false, false, false] rfl rfl (by kernel_rfl) (fun _ _ _ h => h) (Or.inl ⟨by rfl, ?_⟩) hHeld ?_ ?_
    rotate_left
    · rintro w' ⟨s0, s1, s2, s3, s4, s5⟩
      go_simp
      with_reducible rfl
    rotate_left
    · simp only [Act.put, List.setIfInBounds_toArray, List.set_cons_zero, List.set_cons_succ, i64_w, i32_w]
      rfl
    refine one_ (i := 7) (N := some 29) #[true, true, true, true, true, true, true, true, false, false] rfl rfl (by kernel_rfl) (by decide) (fun K hK => ?_)
    refine goes_ Try.func26 (by kernel_rfl) rfl #[.agg #[.slice Al l.base.slots.length al, .slice Bl l.base.vols.length bl, .slice Cl l.ops.length cl, .int .i64 l.safe]] (by rfl) rfl rfl (by simp only [List.map_toArray, List.map_cons, List.map_nil]; rfl) ?_
    with_reducible refine (specLogOk_n Vl.out.inn HSl.out HOK.out).mono ?_
    rintro e w7 ⟨rfl, hb⟩
    replace Vl := Lib.hid (Vl.out.bel hb)
    replace Pp := Lib.hid (Pp.out.bel hb)
    replace Iy5 := Lib.hid (Iy5.out.bel hb)
    replace KW := Lib.hid (KW.out.tr hb)
    clear hb
    refine ⟨_, rfl, ?_⟩
    refine hK.out _ _ ⟨Pp.out.c0, Pp.out.c1, Vl.out.c0, Vl.out.c1, Vl.out.c2, Vl.out.c3⟩ (fun hHeld => ?_)
    clear hK K
    refine norm_ (a' := ?_) ?_ ?_
    rotate_left
    · show Act.put _ (some 29) _ = _
      simp only [Act.put, List.setIfInBounds_toArray, List.set_cons_zero, List.set_cons_succ, i64_w, i32_w]
      rfl
    refine pure_ (i := 8) (N := some 30) (v := ?_) (a' := ?_) #[true, true, true, true, true, true, true, true, true, false] rfl rfl (by kernel_rfl) (fun _ _ _ h => h) (Or.inl ⟨by rfl, ?_⟩) ?_ ?_
    rotate_left
    · intro w'
      go_simp
      with_reducible rfl
    rotate_left
    · simp only [Act.put, List.setIfInBounds_toArray, List.set_cons_zero, List.set_cons_succ, i64_w, i32_w]
      rfl
    refine pure_ (i := 9) (N := some 31) (v := ?_) (a' := ?_) #[true, true, true, true, true, true, true, true, true, true] rfl rfl (by kernel_rfl) (fun _ _ _ h => h) (Or.inl ⟨by rfl, ?_⟩) ?_ ?_
    rotate_left
    · intro w'
      go_simp
      with_reducible rfl
    rotate_left
    · simp only [Act.put, List.setIfInBounds_toArray, List.set_cons_zero, List.set_cons_succ, i64_w, i32_w]
      rfl
    refine done_ (by kernel_rfl) ?_
    have qp0 := Pp.out.c0
    have qp1 := Pp.out.c1
    have yp := Pp.out.lt
    have el0 : w7.cell? ⟨bkl, 0, none⟩ = some (.slice Al l.base.slots.length al) := Vl.out.c0
    have el1 : w7.cell? ⟨bkl, 1, none⟩ = some (.slice Bl l.base.vols.length bl) := Vl.out.c1
    have el2 : w7.cell? ⟨bkl, 2, none⟩ = some (.slice Cl l.ops.length cl) := Vl.out.c2
    have el3 : w7.cell? ⟨bkl, 3, none⟩ = some (.int .i64 l.safe) := Vl.out.c3
    have eyl := Vl.out.lt
    go_wp2
    clear qp0 qp1 yp
    clear el0 el1 el2 el3 eyl
    have hb : Bel w7 w7.drew := (Below.refl _ _).drew
    replace Vl := Lib.hid (Vl.out.bel hb)
    replace Pp := Lib.hid (Pp.out.bel hb)
    replace KW := Lib.hid (KW.out.tr hb)
    clear hb
    refine start_ (n := 5) (S := fun w' => w'.cell? ⟨bkp, 0, none⟩ = some (.slice Ap p.slots.length cp) ∧ w'.cell? ⟨bkp, 1, none⟩ = some (.slice Bp p.vols.length dp) ∧ w'.cell? ⟨bkl, 0, none⟩ = some (.slice Al l.base.slots.length al) ∧ w'.cell? ⟨bkl, 1, none⟩ = some (.slice Bl l.base.vols.length bl) ∧ w'.cell? ⟨bkl, 2, none⟩ = some (.slice Cl l.ops.length cl) ∧ w'.cell? ⟨bkl, 3, none⟩ = some (.int .i64 l.safe)) (ds := []) #[false, false, false, false, false] (by kernel_rfl) rfl rfl ⟨Pp.out.c0, Pp.out.c1, Vl.out.c0, Vl.out.c1, Vl.out.c2, Vl.out.c3⟩ (fun hHeld => ?_)
    refine take_ (i := 0) (N := some 32) (v := ?_) (a' := ?_) #[true, false, false, false, false] rfl rfl (by kernel_rfl) (fun _ _ _ h => h) (Or.inl ⟨by rfl, ?_⟩) hHeld ?_ ?_
    rotate_left
    · rintro w' ⟨s0, s1, s2, s3, s4, s5⟩
      go_simp
      with_reducible rfl
    rotate_left
    · simp only [Act.put, List.setIfInBounds_toArray, List.set_cons_zero, List.set_cons_succ, i64_w, i32_w]
      rfl
    refine take_ (i := 1) (N := some 33) (v := ?_) (a' := ?_) #[true, true, false, false, false] rfl rfl (by kernel_rfl) (fun _ _ _ h => h) (Or.inl ⟨by rfl, ?_⟩) hHeld ?_ ?_
    rotate_left
    · rintro w' ⟨s0, s1, s2, s3, s4, s5⟩
      go_simp
      with_reducible rfl
    rotate_left
    · simp only [Act.put, List.setIfInBounds_toArray, List.set_cons_zero, List.set_cons_succ, i64_w, i32_w]
      rfl
    refine one_ (i := 2) (N := some 34) #[true, true, true, false, false] rfl rfl (by kernel_rfl) (by decide) (fun K hK => ?_)
    refine goes_ Try.func31 (by kernel_rfl) rfl #[.agg #[.slice Al l.base.slots.length al, .slice Bl l.base.vols.length bl, .slice Cl l.ops.length cl, .int .i64 l.safe]] (by rfl) rfl rfl (by simp only [List.map_toArray, List.map_cons, List.map_nil]; rfl) ?_
    with_reducible refine (specLogPool_n Vl.out.inn HSl.out HPF.out).mono ?_
    rintro e w8 ⟨Ay6, By6, cy6, dy6, rfl, hin, hb⟩
    replace Vl := Lib.hid (Vl.out.bel hb)
    replace Pp := Lib.hid (Pp.out.bel hb)
    replace KW := Lib.hid (KW.out.tr hb)
    have Iy6 := Lib.hid hin
    clear hin hb
    refine ⟨_, rfl, ?_⟩
    refine hK.out _ _ ⟨Pp.out.c0, Pp.out.c1, Vl.out.c0, Vl.out.c1, Vl.out.c2, Vl.out.c3⟩ (fun hHeld => ?_)
    clear hK K
    refine norm_ (a' := ?_) ?_ ?_
    rotate_left
    · show Act.put _ (some 34) _ = _
      simp only [Act.put, List.setIfInBounds_toArray, List.set_cons_zero, List.set_cons_succ, i64_w, i32_w]
      rfl
    refine one_ (i := 3) (N := some 35) #[true, true, true, true, false] rfl rfl (by kernel_rfl) (by decide) (fun K hK => ?_)
    refine goes_ Try.func30 (by kernel_rfl) rfl #[.agg #[.slice Ap p.slots.length cp, .slice Bp p.vols.length dp], .agg #[.slice Ay6 p.slots.length cy6, .slice By6 p.vols.length dy6]] (by rfl) rfl rfl (by simp only [List.map_toArray, List.map_cons, List.map_nil]; rfl) ?_
    with_reducible refine (lgPool_c Pp.out.inn Iy6.out HSp.out).mono ?_
    rintro e w9 ⟨rfl, hb⟩
    replace Vl := Lib.hid (Vl.out.bel hb)
    replace Pp := Lib.hid (Pp.out.bel hb)
    replace Iy6 := Lib.hid (Iy6.out.bel hb)
    replace KW := Lib.hid (KW.out.tr hb)
    clear hb
    refine ⟨_, rfl, ?_⟩
    refine hK.out _ _ ⟨Pp.out.c0, Pp.out.c1, Vl.out.c0, Vl.out.c1, Vl.out.c2, Vl.out.c3⟩ (fun hHeld => ?_)
    clear hK K
    refine norm_ (a' := ?_) ?_ ?_
    rotate_left
    · show Act.put _ (some 35) _ = _
      simp only [Act.put, List.setIfInBounds_toArray, List.set_cons_zero, List.set_cons_succ, i64_w, i32_w]
      rfl
    refine pure_ (i := 4) (N := some 4) (v := ?_) (a' := ?_) #[true, true, true, true, true] rfl rfl (by kernel_rfl) (fun _ _ _ h => h) (Or.inl ⟨by rfl, ?_⟩) ?_ ?_
    rotate_left
    · intro w'
      go_simp
      with_reducible rfl
    rotate_left
    · simp only [Act.put, List.setIfInBounds_toArray, List.set_cons_zero, List.set_cons_succ, i64_w, i32_w]
      rfl
    refine done_ (by kernel_rfl) ?_
    have qp0 := Pp.out.c0
    have qp1 := Pp.out.c1
    have yp := Pp.out.lt
    have el0 : w9.cell? ⟨bkl, 0, none⟩ = some (.slice Al l.base.slots.length al) := Vl.out.c0
    have el1 : w9.cell? ⟨bkl, 1, none⟩ = some (.slice Bl l.base.vols.length bl) := Vl.out.c1
    have el2 : w9.cell? ⟨bkl, 2, none⟩ = some (.slice Cl l.ops.length cl) := Vl.out.c2
    have el3 : w9.cell? ⟨bkl, 3, none⟩ = some (.int .i64 l.safe) := Vl.out.c3
    have eyl := Vl.out.lt
    go_wp2
    go_ret
    exact ⟨rfl, KW.out⟩
  have HOK := Lib.hid hok
  obtain ⟨q0, hlp⟩ := logOk_iff.1 hok
  obtain rfl : q0 = p := hlp.poolE.symm.trans HPF.out
  have HLP := Lib.hid hlp
  clear hok hlp
  have el0 : w3.cell? ⟨bkl, 0, none⟩ = some (.slice Al l.base.slots.length al) := Vl.out.c0
  have el1 : w3.cell? ⟨bkl, 1, none⟩ = some (.slice Bl l.base.vols.length bl) := Vl.out.c1
  have el2 : w3.cell? ⟨bkl, 2, none⟩ = some (.slice Cl l.ops.length cl) := Vl.out.c2
  have el3 : w3.cell? ⟨bkl, 3, none⟩ = some (.int .i64 l.safe) := Vl.out.c3
  have eyl := Vl.out.lt
  go_wp2
  clear el0 el1 el2 el3 eyl
  have hnew := PVar.new Ip.out
  have hb : Bel w3 (w3.alloc (.cells #[.slice Ap q0.slots.length cp, .slice Bp q0.vols.length dp] 49)) := bel_alloc (Below.refl _ _) _
  generalize w3.alloc (.cells #[.slice Ap q0.slots.length cp, .slice Bp q0.vols.length dp] 49) = W4 at hnew hb ⊢
  replace Vl := Lib.hid (Vl.out.bel hb)
  replace Ip := Lib.hid (Ip.out.bel hb)
  replace KW := Lib.hid (KW.out.tr hb)
  obtain ⟨bkp, hbn⟩ : ∃ b, w3.heap.size = b := ⟨_, rfl⟩
  rw [hbn] at hnew ⊢
  have Pp := Lib.hid hnew
  clear hnew hb hbn Ip
  have hb : Bel W4 W4.drew := (Below.refl _ _).drew
  replace Vl := Lib.hid (Vl.out.bel hb)
  replace Pp := Lib.hid (Pp.out.bel hb)
  replace KW := Lib.hid (KW.out.tr hb)
  clear hb
  refine start_ (n := 10) (S := fun w' => w'.cell? ⟨bkp, 0, none⟩ = some (.slice Ap q0.slots.length cp) ∧ w'.cell? ⟨bkp, 1, none⟩ = some (.slice Bp q0.vols.length dp) ∧ w'.cell? ⟨bkl, 0, none⟩ = some (.slice Al l.base.slots.length al) ∧ w'.cell? ⟨bkl, 1, none⟩ = some (.slice Bl l.base.vols.length bl) ∧ w'.cell? ⟨bkl, 2, none⟩ = some (.slice Cl l.ops.length cl) ∧ w'.cell? ⟨bkl, 3, none⟩ = some (.int .i64 l.safe)) (ds := []) #[false, false, false, false, false, false, false, false, false, false] (by kernel_rfl) rfl rfl ⟨Pp.out.c0, Pp.out.c1, Vl.out.c0, Vl.out.c1, Vl.out.c2, Vl.out.c3⟩ (fun hHeld => ?_)
  refine take_ (i := 0) (N := some 22) (v := ?_) (a' := ?_) #[true, false, false, false, false, false, false, false, false, false] rfl rfl (by kernel_rfl) (fun _ _ _ h => h) (Or.inl ⟨by rfl, ?_⟩) hHeld ?_ ?_
  rotate_left
  · rintro w' ⟨s0, s1, s2, s3, s4, s5⟩
    go_simp
    with_reducible rfl
  rotate_left
  · simp only [Act.put, List.setIfInBounds_toArray, List.set_cons_zero, List.set_cons_succ, i64_w, i32_w]
    rfl
  refine take_ (i := 1) (N := some 23) (v := ?_) (a' := ?_) #[true, true, false, false, false, false, false, false, false, false] rfl rfl (by kernel_rfl) (fun _ _ _ h => h) (Or.inl ⟨by rfl, ?_⟩) hHeld ?_ ?_
  rotate_left
  · rintro w' ⟨s0, s1, s2, s3, s4, s5⟩
    go_simp
    with_reducible rfl
  rotate_left
  · simp only [Act.put, List.setIfInBounds_toArray, List.set_cons_zero, List.set_cons_succ, i64_w, i32_w]
    rfl
  refine one_ (i := 2) (N := some 24) #[true, true, true, false, false, false, false, false, false, false] rfl rfl (by kernel_rfl) (by decide) (fun K hK => ?_)
  refine goes_ Try.func31 (by kernel_rfl) rfl #[.agg #[.slice Al l.base.slots.length al, .slice Bl l.base.vols.length bl, .slice Cl l.ops.length cl, .int .i64 l.safe]] (by rfl) rfl rfl (by simp only [List.map_toArray, List.map_cons, List.map_nil]; rfl) ?_
  with_reducible refine (specLogPool_n Vl.out.inn HSl.out HPF.out).mono ?_
  rintro e w5 ⟨Ay5, By5, cy5, dy5, rfl, hin, hb⟩
  replace Vl := Lib.hid (Vl.out.bel hb)
  replace Pp := Lib.hid (Pp.out.bel hb)
  replace KW := Lib.hid (KW.out.tr hb)
  have Iy5 := Lib.hid hin
  clear hin hb
  refine ⟨_, rfl, ?_⟩
  refine hK.out _ _ ⟨Pp.out.c0, Pp.out.c1, Vl.out.c0, Vl.out.c1, Vl.out.c2, Vl.out.c3⟩ (fun hHeld => ?_)
  clear hK K
  refine norm_ (a' := ?_) ?_ ?_
  rotate_left
  · show Act.put _ (some 24) _ = _
    simp only [Act.put, List.setIfInBounds_toArray, List.set_cons_zero, List.set_cons_succ, i64_w, i32_w]
    rfl
  refine one_ (i := 3) (N := some 25) #[true, true, true, true, false, false, false, false, false, false] rfl rfl (by kernel_rfl) (by decide) (fun K hK => ?_)
  refine goes_ Try.func30 (by kernel_rfl) rfl #[.agg #[.slice Ap q0.slots.length cp, .slice Bp q0.vols.length dp], .agg #[.slice Ay5 q0.slots.length cy5, .slice By5 q0.vols.length dy5]] (by rfl) rfl rfl (by simp only [List.map_toArray, List.map_cons, List.map_nil]; rfl) ?_
  with_reducible refine (lgPool_c Pp.out.inn Iy5.out HSp.out).mono ?_
  rintro e w6 ⟨rfl, hb⟩
  replace Vl := Lib.hid (Vl.out.bel hb)
  replace Pp := Lib.hid (Pp.out.bel hb)
  replace Iy5 := Lib.hid (Iy5.out.bel hb)
  replace KW := Lib.hid (KW.out.tr hb)
  clear hb
  refine ⟨_, rfl, ?_⟩
  refine hK.out _ _ ⟨Pp.out.c0, Pp.out.c1, Vl.out.c0, Vl.out.c1, Vl.out.c2, Vl.out.c3⟩ (fun hHeld => ?_)
  clear hK K
  refine norm_ (a' := ?_) ?_ ?_
  rotate_left
  · show Act.put _ (some 25) _ = _
    simp only [Act.put, List.setIfInBounds_toArray, List.set_cons_zero, List.set_cons_succ, i64_w, i32_w]
    rfl
  refine pure_ (i := 4) (N := some 26) (v := ?_) (a' := ?_) #[true, true, true, true, true, false, false, false, false, false] rfl rfl (by kernel_rfl) (fun _ _ _ h => h) (Or.inl ⟨by rfl, ?_⟩) ?_ ?_
  rotate_left
  · intro w'
    go_simp
    with_reducible rfl
  rotate_left
  · simp only [Act.put, List.setIfInBounds_toArray, List.set_cons_zero, List.set_cons_succ, i64_w, i32_w]
    rfl
  refine pure_ (i := 5) (N := some 27) (v := ?_) (a' := ?_) #[true, true, true, true, true, true, false, false, false, false] rfl rfl (by kernel_rfl) (fun _ _ _ h => h) (Or.inl ⟨by rfl, ?_⟩) ?_ ?_
  rotate_left
  · intro w'
    go_simp
    with_reducible rfl
  rotate_left
  · simp only [Act.put, List.setIfInBounds_toArray, List.set_cons_zero, List.set_cons_succ, i64_w, i32_w]
    rfl
  refine take_ (i := 6) (N := some 28) (v := ?_) (a' := ?_) #[true, true, true, true, true, true, true, false, false, false] rfl rfl (by kernel_rfl) (fun _ _ _ h => h) (Or.inl ⟨by rfl, ?_⟩) hHeld ?_ ?_
  rotate_left
  · rintro w' ⟨s0, s1, s2, s3, s4, s5⟩
    go_simp
    with_reducible rfl
  rotate_left
  · simp only [Act.put, List.setIfInBounds_toArray, List.set_cons_zero, List.set_cons_succ, i64_w, i32_w]
    rfl
  refine one_ (i := 7) (N := some 29) #[true, true, true, true, true, true, true, true, false, false] rfl rfl (by kernel_rfl) (by decide) (fun K hK => ?_)
  refine goes_ Try.func26 (by kernel_rfl) rfl #[.agg #[.slice Al l.base.slots.length al, .slice Bl l.base.vols.length bl, .slice Cl l.ops.length cl, .int .i64 l.safe]] (by rfl) rfl rfl (by simp only [List.map_toArray, List.map_cons, List.map_nil]; rfl) ?_
  with_reducible refine (specLogOk_n Vl.out.inn HSl.out HOK.out).mono ?_
  rintro e w7 ⟨rfl, hb⟩
  replace Vl := Lib.hid (Vl.out.bel hb)
  replace Pp := Lib.hid (Pp.out.bel hb)
  replace Iy5 := Lib.hid (Iy5.out.bel hb)
  replace KW := Lib.hid (KW.out.tr hb)
  clear hb
  refine ⟨_, rfl, ?_⟩
  refine hK.out _ _ ⟨Pp.out.c0, Pp.out.c1, Vl.out.c0, Vl.out.c1, Vl.out.c2, Vl.out.c3⟩ (fun hHeld => ?_)
  clear hK K
  refine norm_ (a' := ?_) ?_ ?_
  rotate_left
  · show Act.put _ (some 29) _ = _
    simp only [Act.put, List.setIfInBounds_toArray, List.set_cons_zero, List.set_cons_succ, i64_w, i32_w]
    rfl
  refine pure_ (i := 8) (N := some 30) (v := ?_) (a' := ?_) #[true, true, true, true, true, true, true, true, true, false] rfl rfl (by kernel_rfl) (fun _ _ _ h => h) (Or.inl ⟨by rfl, ?_⟩) ?_ ?_
  rotate_left
  · intro w'
    go_simp
    with_reducible rfl
  rotate_left
  · simp only [Act.put, List.setIfInBounds_toArray, List.set_cons_zero, List.set_cons_succ, i64_w, i32_w]
    rfl
  refine pure_ (i := 9) (N := some 31) (v := ?_) (a' := ?_) #[true, true, true, true, true, true, true, true, true, true] rfl rfl (by kernel_rfl) (fun _ _ _ h => h) (Or.inl ⟨by rfl, ?_⟩) ?_ ?_
  rotate_left
  · intro w'
    go_simp
    with_reducible rfl
  rotate_left
  · simp only [Act.put, List.setIfInBounds_toArray, List.set_cons_zero, List.set_cons_succ, i64_w, i32_w]
    rfl
  refine done_ (by kernel_rfl) ?_
  have hl20 := HLP.out.len
  have hw1 : wrap64 ((l.ops.length : Int) + 1) = (l.ops.length : Int) + 1 := by unfold wrap64; omega
  have qp0 := Pp.out.c0
  have qp1 := Pp.out.c1
  have yp := Pp.out.lt
  have el0 : w7.cell? ⟨bkl, 0, none⟩ = some (.slice Al l.base.slots.length al) := Vl.out.c0
  have el1 : w7.cell? ⟨bkl, 1, none⟩ = some (.slice Bl l.base.vols.length bl) := Vl.out.c1
  have el2 : w7.cell? ⟨bkl, 2, none⟩ = some (.slice Cl l.ops.length cl) := Vl.out.c2
  have el3 : w7.cell? ⟨bkl, 3, none⟩ = some (.int .i64 l.safe) := Vl.out.c3
  have eyl := Vl.out.lt
  go_wp2
  clear qp0 qp1 yp
  clear el0 el1 el2 el3 eyl
  obtain ⟨k, hmod, hkl⟩ : ∃ k : Nat, (n2 : Int) % ((l.ops.length : Int) + 1) = (k : Int) ∧ k ≤ l.ops.length := ⟨n2 % (l.ops.length + 1), by rw [Int.natCast_emod, Int.natCast_add]; rfl, Nat.le_of_lt_succ (Nat.mod_lt _ (Nat.succ_pos _))⟩
  rw [hmod]
  clear hmod hw1
  obtain ⟨r, hla, hlb⟩ := two_logs HLP.out hkl
  obtain ⟨tk, htk⟩ : ∃ tk, l.ops.take k = tk := ⟨_, rfl⟩
  obtain ⟨dk, hdk⟩ : ∃ dk, l.ops.drop k = dk := ⟨_, rfl⟩
  obtain ⟨D, dc, hraw, hdc, hDC⟩ := Vl.out.inn.dropTo hkl hdk
  have hlk : tk.length = k := by rw [← htk, List.length_take]; omega
  rw [htk] at hla
  rw [hdk] at hlb
  have hjn := Vl.out.inn.cutTo hkl htk 0
  subst hlk
  have HLA := Lib.hid hla
  have HLB := Lib.hid hlb
  have JA := Lib.hid hjn
  have HDC := Lib.hid hDC
  have HRAW := Lib.hid hraw
  have hcl : tk.length ≤ cl := Nat.le_trans hkl Vl.out.inn.oc
  have hcl2 : l.ops.length ≤ cl := Vl.out.inn.oc
  have HSA := Lib.hid (show SmallL ⟨l.base, tk, 0⟩ from ⟨HSl.out.base, htk ▸ HSl.out.ops.take _⟩)
  have HSB := Lib.hid (show SmallL ⟨r, dk, 0⟩ from ⟨hlb.base.small, hdk ▸ HSl.out.ops.drop _⟩)
  clear hla hlb hjn hDC hraw htk hdk
  have hb : Bel w7 w7.drew := (Below.refl _ _).drew
  replace Vl := Lib.hid (Vl.out.bel hb)
  replace Pp := Lib.hid (Pp.out.bel hb)
  replace KW := Lib.hid (KW.out.tr hb)
  clear hb
  have D0 : Hid (Bel w7.drew w7.drew) := Lib.hid (Below.refl _ _)
  refine start_ (n := 9) (S := fun w' => w'.cell? ⟨bkl, 0, none⟩ = some (.slice Al l.base.slots.length al) ∧ w'.cell? ⟨bkl, 1, none⟩ = some (.slice Bl l.base.vols.length bl) ∧ w'.cell? ⟨bkl, 2, none⟩ = some (.slice Cl l.ops.length cl) ∧ w'.cell? ⟨bkl, 3, none⟩ = some (.int .i64 l.safe)) (ds := [8]) #[false, false, false, false, false, false, false, false, false] (by kernel_rfl) rfl rfl ⟨Vl.out.c0, Vl.out.c1, Vl.out.c2, Vl.out.c3⟩ (fun hHeld => ?_)
  refine pure_ (i := 0) (N := some 43) (v := ?_) (a' := ?_) #[true, false, false, false, false, false, false, false, false] rfl rfl (by kernel_rfl) (fun _ _ _ h => h) (Or.inl ⟨by rfl, ?_⟩) ?_ ?_
  rotate_left
  · intro w'
    go_simp
    with_reducible rfl
  rotate_left
  · simp only [Act.put, List.setIfInBounds_toArray, List.set_cons_zero, List.set_cons_succ, i64_w, i32_w]
    rfl
  refine pure_ (i := 2) (N := some 45) (v := ?_) (a' := ?_) #[true, false, true, false, false, false, false, false, false] rfl rfl (by kernel_rfl) (fun _ _ _ h => h) (Or.inl ⟨by rfl, ?_⟩) ?_ ?_
  rotate_left
  · intro w'
    go_simp
    with_reducible rfl
  rotate_left
  · simp only [Act.put, List.setIfInBounds_toArray, List.set_cons_zero, List.set_cons_succ, i64_w, i32_w]
    rfl
  refine pure_ (i := 4) (N := some 47) (v := ?_) (a' := ?_) #[true, false, true, false, true, false, false, false, false] rfl rfl (by kernel_rfl) (fun _ _ _ h => h) (Or.inl ⟨by rfl, ?_⟩) ?_ ?_
  rotate_left
  · intro w'
    go_simp
    with_reducible rfl
  rotate_left
  · simp only [Act.put, List.setIfInBounds_toArray, List.set_cons_zero, List.set_cons_succ, i64_w, i32_w]
    rfl
  refine take_ (i := 1) (N := some 44) (v := ?_) (a' := ?_) #[true, true, true, false, true, false, false, false, false] rfl rfl (by kernel_rfl) (fun _ _ _ h => h) (Or.inl ⟨by rfl, ?_⟩) hHeld ?_ ?_
  rotate_left
  · rintro w' ⟨s0, s1, s2, s3⟩
    go_simp
    with_reducible rfl
  rotate_left
  · simp only [Act.put, List.setIfInBounds_toArray, List.set_cons_zero, List.set_cons_succ, i64_w, i32_w]
    rfl
  refine take_ (i := 3) (N := some 46) (v := ?_) (a' := ?_) #[true, true, true, true, true, false, false, false, false] rfl rfl (by kernel_rfl) (fun _ _ _ h => h) (Or.inl ⟨by rfl, ?_⟩) hHeld ?_ ?_
  rotate_left
  · rintro w' ⟨s0, s1, s2, s3⟩
    go_simp
    with_reducible rfl
  rotate_left
  · simp only [Act.put, List.setIfInBounds_toArray, List.set_cons_zero, List.set_cons_succ, i64_w, i32_w]
    rfl
  refine pure_ (i := 5) (N := some 48) (v := ?_) (a' := ?_) #[true, true, true, true, true, true, false, false, false] rfl rfl (by kernel_rfl) (fun _ _ _ h => h) (Or.inl ⟨by rfl, ?_⟩) ?_ ?_
  rotate_left
  · intro w'
    go_simp
    with_reducible rfl
  rotate_left
  · simp only [Act.put, List.setIfInBounds_toArray, List.set_cons_zero, List.set_cons_succ, i64_w, i32_w]
    rfl
  refine pure_ (i := 6) (N := some 49) (v := ?_) (a' := ?_) #[true, true, true, true, true, true, true, false, false] rfl rfl (by kernel_rfl) (fun _ _ _ h => h) (Or.inl ⟨by rfl, ?_⟩) ?_ ?_
  rotate_left
  · intro w'
    go_simp
    with_reducible rfl
  rotate_left
  · simp only [Act.put, List.setIfInBounds_toArray, List.set_cons_zero, List.set_cons_succ, i64_w, i32_w]
    rfl
  refine one_ (i := 7) (N := some 8) #[true, true, true, true, true, true, true, true, false] rfl rfl (by kernel_rfl) (by decide) (fun K hK => ?_)
  refine value_ (w1 := ?_) (v := ?_) (by rfl) rfl ?_ ?_
  rotate_left 2
  · go_simp
    constructor
    · rfl
    · rfl
  have D1 : Hid (Bel w7.drew (w7.alloc (.cells #[.slice none 0 0, .slice none 0 0, .slice none 0 0, .int .i64 0] 51)).drew) := Lib.hid (bel_alloc D0.out (.cells #[.slice none 0 0, .slice none 0 0, .slice none 0 0, .int .i64 0] 51))
  have hA : Blk (w7.alloc (.cells #[.slice none 0 0, .slice none 0 0, .slice none 0 0, .int .i64 0] 51)).drew w7.heap.size #[.slice none 0 0, .slice none 0 0, .slice none 0 0, .int .i64 0] 51 := Blk.new _ _ _
  have Vl1 := Lib.hid (Vl.out.bel D1.out)
  have r0 := hA.cell 0
  have r1 := hA.cell 1
  have r2 := hA.cell 2
  have r3 := hA.cell 3
  have f0 := hA.free 0
  have f1 := hA.free 1
  have f2 := hA.free 2
  have f3 := hA.free 3
  simp at r0 r1 r2 r3
  refine hK.out _ _ ⟨Vl1.out.c0, Vl1.out.c1, Vl1.out.c2, Vl1.out.c3⟩ (fun hHeld => ?_)
  clear hK K
  refine norm_ (a' := ?_) ?_ ?_
  rotate_left
  · show Act.put _ (some 8) _ = _
    simp only [Act.put, List.setIfInBounds_toArray, List.set_cons_zero, List.set_cons_succ, i64_w, i32_w]
    rfl
  refine last_ (i := 8) (N := none) #[true, true, true, true, true, true, true, true, true] rfl rfl (by kernel_rfl) (by decide) (fun K hK => ?_)
  refine skip_ (w1 := ?_) (by rfl) rfl ?_ ?_
  rotate_left
  · go_simp
    rfl
  refine hK.out _ _ ?_
  clear hK K
  refine done_ (by kernel_rfl) ?_
  have hA4 : Blk (w7.alloc (.cells #[.slice Al l.base.slots.length al, .slice Bl l.base.vols.length bl, .slice Cl tk.length cl, .int .i64 0] 51)).drew w7.heap.size #[.slice Al l.base.slots.length al, .slice Bl l.base.vols.length bl, .slice Cl tk.length cl, .int .i64 0] 51 := Blk.new _ _ _
  have hb : Bel w7.drew (w7.alloc (.cells #[.slice Al l.base.slots.length al, .slice Bl l.base.vols.length bl, .slice Cl tk.length cl, .int .i64 0] 51)).drew := bel_alloc D0.out _
  generalize (w7.alloc (.cells #[.slice Al l.base.slots.length al, .slice Bl l.base.vols.length bl, .slice Cl tk.length cl, .int .i64 0] 51)).drew = W9 at hA4 hb ⊢
  obtain ⟨bka, hbn⟩ : ∃ b, w7.heap.size = b := ⟨_, rfl⟩
  rw [hbn] at hA4 ⊢
  replace JA := Lib.hid (JA.out.bel ((Below.refl _ _).drew : Bel w7 w7.drew))
  replace HDC := Lib.hid (kOp_bel (w := w7.drew) (kOp_bel (w := w7) HDC.out (Below.refl _ _).drew) hb)
  have Va : Hid (LVar W9 bka Al Bl Cl al bl cl ⟨l.base, tk, 0⟩) := Lib.hid ⟨hA4, JA.out.bel hb⟩
  replace Vl := Lib.hid (Vl.out.bel hb)
  replace Pp := Lib.hid (Pp.out.bel hb)
  replace KW := Lib.hid (KW.out.tr hb)
  clear hA hA4 hb hbn r0 r1 r2 r3 f0 f1 f2 f3 Vl1 D0 D1 JA
  have qp0 := Pp.out.c0
  have qp1 := Pp.out.c1
  have yp := Pp.out.lt
  have el0 : W9.cell? ⟨bkl, 0, none⟩ = some (.slice Al l.base.slots.length al) := Vl.out.c0
  have el1 : W9.cell? ⟨bkl, 1, none⟩ = some (.slice Bl l.base.vols.length bl) := Vl.out.c1
  have el2 : W9.cell? ⟨bkl, 2, none⟩ = some (.slice Cl l.ops.length cl) := Vl.out.c2
  have el3 : W9.cell? ⟨bkl, 3, none⟩ = some (.int .i64 l.safe) := Vl.out.c3
  have eyl := Vl.out.lt
  have ea0 : W9.cell? ⟨bka, 0, none⟩ = some (.slice Al l.base.slots.length al) := Va.out.c0
  have ea1 : W9.cell? ⟨bka, 1, none⟩ = some (.slice Bl l.base.vols.length bl) := Va.out.c1
  have ea2 : W9.cell? ⟨bka, 2, none⟩ = some (.slice Cl tk.length cl) := Va.out.c2
  have ea3 : W9.cell? ⟨bka, 3, none⟩ = some (.int .i64 0) := Va.out.c3
  have eya := Va.out.lt
  go_wp2
  clear qp0 qp1 yp
  clear el0 el1 el2 el3 eyl
  clear ea0 ea1 ea2 ea3 eya
  have hb : Bel W9 W9.drew := (Below.refl _ _).drew
  replace Vl := Lib.hid (Vl.out.bel hb)
  replace Pp := Lib.hid (Pp.out.bel hb)
  replace Va := Lib.hid (Va.out.bel hb)
  replace KW := Lib.hid (KW.out.tr hb)
  clear hb
  have D0 : Hid (Bel W9.drew W9.drew) := Lib.hid (Below.refl _ _)
  have HPA := Lib.hid HLA.out.poolE
  refine start_ (n := 9) (S := fun w' => w'.cell? ⟨bkl, 0, none⟩ = some (.slice Al l.base.slots.length al) ∧ w'.cell? ⟨bkl, 1, none⟩ = some (.slice Bl l.base.vols.length bl) ∧ w'.cell? ⟨bkl, 2, none⟩ = some (.slice Cl l.ops.length cl) ∧ w'.cell? ⟨bkl, 3, none⟩ = some (.int .i64 l.safe) ∧ w'.cell? ⟨bka, 0, none⟩ = some (.slice Al l.base.slots.length al) ∧ w'.cell? ⟨bka, 1, none⟩ = some (.slice Bl l.base.vols.length bl) ∧ w'.cell? ⟨bka, 2, none⟩ = some (.slice Cl tk.length cl) ∧ w'.cell? ⟨bka, 3, none⟩ = some (.int .i64 0)) (ds := [8]) #[false, false, false, false, false, false, false, false, false] (by kernel_rfl) rfl rfl ⟨Vl.out.c0, Vl.out.c1, Vl.out.c2, Vl.out.c3, Va.out.c0, Va.out.c1, Va.out.c2, Va.out.c3⟩ (fun hHeld => ?_)
  refine pure_ (i := 2) (N := some 52) (v := ?_) (a' := ?_) #[false, false, true, false, false, false, false, false, false] rfl rfl (by kernel_rfl) (fun _ _ _ h => h) (Or.inl ⟨by rfl, ?_⟩) ?_ ?_
  rotate_left
  · intro w'
    go_simp
    with_reducible rfl
  rotate_left
  · simp only [Act.put, List.setIfInBounds_toArray, List.set_cons_zero, List.set_cons_succ, i64_w, i32_w]
    rfl
  refine pure_ (i := 4) (N := some 54) (v := ?_) (a' := ?_) #[false, false, true, false, true, false, false, false, false] rfl rfl (by kernel_rfl) (fun _ _ _ h => h) (Or.inl ⟨by rfl, ?_⟩) ?_ ?_
  rotate_left
  · intro w'
    go_simp
    with_reducible rfl
  rotate_left
  · simp only [Act.put, List.setIfInBounds_toArray, List.set_cons_zero, List.set_cons_succ, i64_w, i32_w]
    rfl
  refine take_ (i := 0) (N := some 50) (v := ?_) (a' := ?_) #[true, false, true, false, true, false, false, false, false] rfl rfl (by kernel_rfl) (fun _ _ _ h => h) (Or.inl ⟨by rfl, ?_⟩) hHeld ?_ ?_
  rotate_left
  · rintro w' ⟨s0, s1, s2, s3, s4, s5, s6, s7⟩
    go_simp
    with_reducible rfl
  rotate_left
  · simp only [Act.put, List.setIfInBounds_toArray, List.set_cons_zero, List.set_cons_succ, i64_w, i32_w]
    rfl
  refine take_ (i := 3) (N := some 53) (v := ?_) (a' := ?_) #[true, false, true, true, true, false, false, false, false] rfl rfl (by kernel_rfl) (fun _ _ _ h => h) (Or.inl ⟨by rfl, ?_⟩) hHeld ?_ ?_
  rotate_left
  · rintro w' ⟨s0, s1, s2, s3, s4, s5, s6, s7⟩
    go_simp
    with_reducible rfl
  rotate_left
  · simp only [Act.put, List.setIfInBounds_toArray, List.set_cons_zero, List.set_cons_succ, i64_w, i32_w]
    rfl
  refine pure_ (i := 5) (N := some 55) (v := ?_) (a' := ?_) #[true, false, true, true, true, true, false, false, false] rfl rfl (by kernel_rfl) (fun _ _ _ h => h) (Or.inl ⟨by rfl, ?_⟩) ?_ ?_
  rotate_left
  · intro w'
    go_simp
    with_reducible rfl
  rotate_left
  · simp only [Act.put, List.setIfInBounds_toArray, List.set_cons_zero, List.set_cons_succ, i64_w, i32_w]
    rfl
  refine join_ (σ := Option Addr × Nat × Option Addr × Nat × List Value × Nat) 1 #[true, true, true, true, true, true, true, true, false] (fun s => [(51, .agg #[.slice s.1 r.slots.length s.2.1, .slice s.2.2.1 r.vols.length s.2.2.2.1]), (56, .agg #[.slice s.1 r.slots.length s.2.1, .slice s.2.2.1 r.vols.length s.2.2.2.1, .slice (if cl = tk.length then Cl else Option.map (fun x => x.add (tk.length * 5)) Cl) (l.ops.length - tk.length) (cl - tk.length), .int .i64 0]), (9, .pointer (some ⟨s.2.2.2.2.2, 0, none⟩))]) (fun s w' => (w'.cell? ⟨bkl, 0, none⟩ = some (.slice Al l.base.slots.length al) ∧ w'.cell? ⟨bkl, 1, none⟩ = some (.slice Bl l.base.vols.length bl) ∧ w'.cell? ⟨bkl, 2, none⟩ = some (.slice Cl l.ops.length cl) ∧ w'.cell? ⟨bkl, 3, none⟩ = some (.int .i64 l.safe) ∧ w'.cell? ⟨bka, 0, none⟩ = some (.slice Al l.base.slots.length al) ∧ w'.cell? ⟨bka, 1, none⟩ = some (.slice Bl l.base.vols.length bl) ∧ w'.cell? ⟨bka, 2, none⟩ = some (.slice Cl tk.length cl) ∧ w'.cell? ⟨bka, 3, none⟩ = some (.int .i64 0)) ∧ OwnP w' W9.drew.heap.size (.slice s.1 r.slots.length s.2.1) (.slice s.2.2.1 r.vols.length s.2.2.2.1) r s.2.2.2.2.1 ∧ Blk w' s.2.2.2.2.2 #[.slice none 0 0, .slice none 0 0, .slice none 0 0, .int .i64 0] 51 ∧ W9.drew.heap.size ≤ s.2.2.2.2.2 ∧ Bel W9.drew w') ?_ ?_
  rotate_left
  · intro hCont
    refine two_ (i := 1) (j := 7) (Ni := some 51) (Nj := some 9) #[true, true, true, true, true, true, false, false, false] #[true, false, true, true, true, true, false, true, false] rfl rfl rfl rfl (by kernel_rfl) (by decide) (by decide) (fun K hK => ?_) (fun K hK => ?_)
    · skip
      refine goes_ Try.func29 (by kernel_rfl) rfl #[.agg #[.slice Al l.base.slots.length al, .slice Bl l.base.vols.length bl, .slice Cl tk.length cl, .int .i64 0]] (by rfl) rfl rfl (by simp only [List.map_toArray, List.map_cons, List.map_nil]; rfl) ?_
      with_reducible refine ((HPA.out ▸ implLogPool_c (Va.out.bel D0.out).inn HSA.out)).mono ?_
      rintro e w1_ ⟨va, vb, bva, rfl, ho, X1⟩
      have D1 := Lib.hid (Bel.tr D0.out X1)
      have Q1 : Hid (OwnP w1_ W9.drew.heap.size va vb r bva) := Lib.hid (ho.lower D0.out.size)
      obtain ⟨A2, A3, k2, k3, rfl, rfl, hpi⟩ := ho.reads
      clear ho hpi
      refine ⟨_, rfl, ?_⟩
      refine hK.out _ _ ⟨(Vl.out.bel D1.out).c0, (Vl.out.bel D1.out).c1, (Vl.out.bel D1.out).c2, (Vl.out.bel D1.out).c3, (Va.out.bel D1.out).c0, (Va.out.bel D1.out).c1, (Va.out.bel D1.out).c2, (Va.out.bel D1.out).c3⟩ (fun hHeld => ?_)
      clear hK K
      refine norm_ (a' := ?_) ?_ ?_
      rotate_left
      · show Act.put _ (some 51) _ = _
        simp only [Act.put, List.setIfInBounds_toArray, List.set_cons_zero, List.set_cons_succ, i64_w, i32_w]
        rfl
      refine pure_ (i := 6) (N := some 56) (v := ?_) (a' := ?_) #[true, true, true, true, true, true, true, false, false] rfl rfl (by kernel_rfl) (fun _ _ _ h => h) (Or.inl ⟨by rfl, ?_⟩) ?_ ?_
      rotate_left
      · intro w'
        go_simp
        with_reducible rfl
      rotate_left
      · simp only [Act.put, List.setIfInBounds_toArray, List.set_cons_zero, List.set_cons_succ, i64_w, i32_w]
        rfl
      refine one_ (i := 7) (N := some 9) #[true, true, true, true, true, true, true, true, false] rfl rfl (by kernel_rfl) (by decide) (fun K hK => ?_)
      refine value_ (w1 := ?_) (v := ?_) (by rfl) rfl ?_ ?_
      rotate_left 2
      · go_simp
        constructor
        · rfl
        · rfl
      have D2 : Hid (Bel W9.drew (w1_.alloc (.cells #[.slice none 0 0, .slice none 0 0, .slice none 0 0, .int .i64 0] 51))) := Lib.hid (bel_alloc D1.out (.cells #[.slice none 0 0, .slice none 0 0, .slice none 0 0, .int .i64 0] 51))
      have Q2 := Lib.hid (OwnP.bel Q1.out (bel_alloc (Below.refl _ _) (.cells #[.slice none 0 0, .slice none 0 0, .slice none 0 0, .int .i64 0] 51)))
      have O2 : Hid (Blk (w1_.alloc (.cells #[.slice none 0 0, .slice none 0 0, .slice none 0 0, .int .i64 0] 51)) w1_.heap.size #[.slice none 0 0, .slice none 0 0, .slice none 0 0, .int .i64 0] 51) := Lib.hid (Blk.new w1_ _ _)
      have L2 := D1.out.size
      refine hK.out _ _ ⟨(Vl.out.bel D2.out).c0, (Vl.out.bel D2.out).c1, (Vl.out.bel D2.out).c2, (Vl.out.bel D2.out).c3, (Va.out.bel D2.out).c0, (Va.out.bel D2.out).c1, (Va.out.bel D2.out).c2, (Va.out.bel D2.out).c3⟩ (fun hHeld => ?_)
      clear hK K
      refine norm_ (a' := ?_) ?_ ?_
      rotate_left
      · show Act.put _ (some 9) _ = _
        simp only [Act.put, List.setIfInBounds_toArray, List.set_cons_zero, List.set_cons_succ, i64_w, i32_w]
        rfl
      exact norm_ (by simp only [putAll, Act.put, List.setIfInBounds_toArray, List.set_cons_zero, List.set_cons_succ]) (hCont (A2, k2, A3, k3, bva, w1_.heap.size) _ ⟨hHeld, Q2.out, O2.out, L2, D2.out⟩)
    · skip
      refine value_ (w1 := ?_) (v := ?_) (by rfl) rfl ?_ ?_
      rotate_left 2
      · go_simp
        constructor
        · rfl
        · rfl
      have D1 : Hid (Bel W9.drew (W9.alloc (.cells #[.slice none 0 0, .slice none 0 0, .slice none 0 0, .int .i64 0] 51)).drew) := Lib.hid (bel_alloc D0.out (.cells #[.slice none 0 0, .slice none 0 0, .slice none 0 0, .int .i64 0] 51))
      have O1 : Hid (Blk (W9.alloc (.cells #[.slice none 0 0, .slice none 0 0, .slice none 0 0, .int .i64 0] 51)).drew W9.drew.heap.size #[.slice none 0 0, .slice none 0 0, .slice none 0 0, .int .i64 0] 51) := Lib.hid (Blk.new W9.drew _ _)
      have L1 := D0.out.size
      refine hK.out _ _ ⟨(Vl.out.bel D1.out).c0, (Vl.out.bel D1.out).c1, (Vl.out.bel D1.out).c2, (Vl.out.bel D1.out).c3, (Va.out.bel D1.out).c0, (Va.out.bel D1.out).c1, (Va.out.bel D1.out).c2, (Va.out.bel D1.out).c3⟩ (fun hHeld => ?_)
      clear hK K
      refine norm_ (a' := ?_) ?_ ?_
      rotate_left
      · show Act.put _ (some 9) _ = _
        simp only [Act.put, List.setIfInBounds_toArray, List.set_cons_zero, List.set_cons_succ, i64_w, i32_w]
        rfl
      refine one_ (i := 1) (N := some 51) #[true, true, true, true, true, true, false, true, false] rfl rfl (by kernel_rfl) (by decide) (fun K hK => ?_)
      refine goes_ Try.func29 (by kernel_rfl) rfl #[.agg #[.slice Al l.base.slots.length al, .slice Bl l.base.vols.length bl, .slice Cl tk.length cl, .int .i64 0]] (by rfl) rfl rfl (by simp only [List.map_toArray, List.map_cons, List.map_nil]; rfl) ?_
      with_reducible refine ((HPA.out ▸ implLogPool_c (Va.out.bel D1.out).inn HSA.out)).mono ?_
      rintro e w2_ ⟨va, vb, bva, rfl, ho, X2⟩
      have D2 := Lib.hid (Bel.tr D1.out X2)
      have O2 := Lib.hid (Blk.bel O1.out X2)
      have Q2 : Hid (OwnP w2_ W9.drew.heap.size va vb r bva) := Lib.hid (ho.lower D1.out.size)
      obtain ⟨A2, A3, k2, k3, rfl, rfl, hpi⟩ := ho.reads
      clear ho hpi
      refine ⟨_, rfl, ?_⟩
      refine hK.out _ _ ⟨(Vl.out.bel D2.out).c0, (Vl.out.bel D2.out).c1, (Vl.out.bel D2.out).c2, (Vl.out.bel D2.out).c3, (Va.out.bel D2.out).c0, (Va.out.bel D2.out).c1, (Va.out.bel D2.out).c2, (Va.out.bel D2.out).c3⟩ (fun hHeld => ?_)
      clear hK K
      refine norm_ (a' := ?_) ?_ ?_
      rotate_left
      · show Act.put _ (some 51) _ = _
        simp only [Act.put, List.setIfInBounds_toArray, List.set_cons_zero, List.set_cons_succ, i64_w, i32_w]
        rfl
      refine pure_ (i := 6) (N := some 56) (v := ?_) (a' := ?_) #[true, true, true, true, true, true, true, true, false] rfl rfl (by kernel_rfl) (fun _ _ _ h => h) (Or.inl ⟨by rfl, ?_⟩) ?_ ?_
      rotate_left
      · intro w'
        go_simp
        with_reducible rfl
      rotate_left
      · simp only [Act.put, List.setIfInBounds_toArray, List.set_cons_zero, List.set_cons_succ, i64_w, i32_w]
        rfl
      exact norm_ (by simp only [putAll, Act.put, List.setIfInBounds_toArray, List.set_cons_zero, List.set_cons_succ]) (hCont (A2, k2, A3, k3, bva, W9.heap.size) _ ⟨hHeld, Q2.out, O2.out, L1, D2.out⟩)
  rintro ⟨A2, k2, A3, k3, bvc, nb⟩ w3_ ⟨hHeld, hQ, hO, hL, hD⟩
  dsimp only at hQ hO hL
  have r0 := hO.cell 0
  have r1 := hO.cell 1
  have r2 := hO.cell 2
  have r3 := hO.cell 3
  have f0 := hO.free 0
  have f1 := hO.free 1
  have f2 := hO.free 2
  have f3 := hO.free 3
  simp at r0 r1 r2 r3
  refine norm_ (a' := ?_) ?_ ?_
  rotate_left
  · simp only [putAll, Act.put, List.setIfInBounds_toArray, List.set_cons_zero, List.set_cons_succ]
    rfl
  refine last_ (i := 8) (N := none) #[true, true, true, true, true, true, true, true, true] rfl rfl (by kernel_rfl) (by decide) (fun K hK => ?_)
  refine skip_ (w1 := ?_) (by rfl) rfl ?_ ?_
  rotate_left
  · go_simp
    rfl
  refine hK.out _ _ ?_
  clear hK K
  refine done_ (by kernel_rfl) ?_
  rw [HRAW.out]
  have hB4 := hO.set4 (.slice A2 r.slots.length k2) (.slice A3 r.vols.length k3) (.slice D dk.length dc) (.int .i64 0)
  have hb : Bel W9.drew (wset4 w3_ nb (.slice A2 r.slots.length k2) (.slice A3 r.vols.length k3) (.slice D dk.length dc) (.int .i64 0)) := bel_set4 hD hL (.slice A2 r.slots.length k2) (.slice A3 r.vols.length k3) (.slice D dk.length dc) (.int .i64 0)
  have hQ4 := hQ.far4 hO (.slice A2 r.slots.length k2) (.slice A3 r.vols.length k3) (.slice D dk.length dc) (.int .i64 0)
  unfold wset4 at hB4 hb hQ4
  generalize (((w3_.setCell ⟨nb, 0, none⟩ (.slice A2 r.slots.length k2)).setCell ⟨nb, 1, none⟩ (.slice A3 r.vols.length k3)).setCell ⟨nb, 2, none⟩ (.slice D dk.length dc)).setCell ⟨nb, 3, none⟩ (.int .i64 0) = W10 at hB4 hb hQ4 ⊢
  have Vb : Hid (LVar W10 nb A2 A3 D k2 k3 dc ⟨r, dk, 0⟩) := Lib.hid ⟨hB4, ⟨hQ4.inn, kOp_bel (w := W9.drew) (kOp_bel (w := W9) HDC.out (Below.refl _ _).drew) hb, hdc⟩⟩
  obtain ⟨bkb, hbn⟩ : ∃ b, nb = b := ⟨_, rfl⟩
  rw [hbn] at Vb ⊢
  replace Vl := Lib.hid (Vl.out.bel hb)
  replace Pp := Lib.hid (Pp.out.bel hb)
  replace Va := Lib.hid (Va.out.bel hb)
  replace KW := Lib.hid (KW.out.tr hb)
  clear hB4 hb hQ4 hbn r0 r1 r2 r3 f0 f1 f2 f3 D0 hO hQ hD hL hHeld HPA
  have qp0 := Pp.out.c0
  have qp1 := Pp.out.c1
  have yp := Pp.out.lt
  have el0 : W10.cell? ⟨bkl, 0, none⟩ = some (.slice Al l.base.slots.length al) := Vl.out.c0
  have el1 : W10.cell? ⟨bkl, 1, none⟩ = some (.slice Bl l.base.vols.length bl) := Vl.out.c1
  have el2 : W10.cell? ⟨bkl, 2, none⟩ = some (.slice Cl l.ops.length cl) := Vl.out.c2
  have el3 : W10.cell? ⟨bkl, 3, none⟩ = some (.int .i64 l.safe) := Vl.out.c3
  have eyl := Vl.out.lt
  have ea0 : W10.cell? ⟨bka, 0, none⟩ = some (.slice Al l.base.slots.length al) := Va.out.c0
  have ea1 : W10.cell? ⟨bka, 1, none⟩ = some (.slice Bl l.base.vols.length bl) := Va.out.c1
  have ea2 : W10.cell? ⟨bka, 2, none⟩ = some (.slice Cl tk.length cl) := Va.out.c2
  have ea3 : W10.cell? ⟨bka, 3, none⟩ = some (.int .i64 0) := Va.out.c3
  have eya := Va.out.lt
  have eb0 : W10.cell? ⟨bkb, 0, none⟩ = some (.slice A2 r.slots.length k2) := Vb.out.c0
  have eb1 : W10.cell? ⟨bkb, 1, none⟩ = some (.slice A3 r.vols.length k3) := Vb.out.c1
  have eb2 : W10.cell? ⟨bkb, 2, none⟩ = some (.slice D dk.length dc) := Vb.out.c2
  have eb3 : W10.cell? ⟨bkb, 3, none⟩ = some (.int .i64 0) := Vb.out.c3
  have eyb := Vb.out.lt
  go_wp2
  clear qp0 qp1 yp
  clear el0 el1 el2 el3 eyl
  clear ea0 ea1 ea2 ea3 eya
  clear eb0 eb1 eb2 eb3 eyb
  have hb : Bel W10 W10.drew := (Below.refl _ _).drew
  replace Vl := Lib.hid (Vl.out.bel hb)
  replace Pp := Lib.hid (Pp.out.bel hb)
  replace Va := Lib.hid (Va.out.bel hb)
  replace Vb := Lib.hid (Vb.out.bel hb)
  replace KW := Lib.hid (KW.out.tr hb)
  clear hb
  refine start_ (n := 13) (S := fun w' => w'.cell? ⟨bkp, 0, none⟩ = some (.slice Ap q0.slots.length cp) ∧ w'.cell? ⟨bkp, 1, none⟩ = some (.slice Bp q0.vols.length dp) ∧ w'.cell? ⟨bkl, 0, none⟩ = some (.slice Al l.base.slots.length al) ∧ w'.cell? ⟨bkl, 1, none⟩ = some (.slice Bl l.base.vols.length bl) ∧ w'.cell? ⟨bkl, 2, none⟩ = some (.slice Cl l.ops.length cl) ∧ w'.cell? ⟨bkl, 3, none⟩ = some (.int .i64 l.safe) ∧ w'.cell? ⟨bka, 0, none⟩ = some (.slice Al l.base.slots.length al) ∧ w'.cell? ⟨bka, 1, none⟩ = some (.slice Bl l.base.vols.length bl) ∧ w'.cell? ⟨bka, 2, none⟩ = some (.slice Cl tk.length cl) ∧ w'.cell? ⟨bka, 3, none⟩ = some (.int .i64 0) ∧ w'.cell? ⟨bkb, 0, none⟩ = some (.slice A2 r.slots.length k2) ∧ w'.cell? ⟨bkb, 1, none⟩ = some (.slice A3 r.vols.length k3) ∧ w'.cell? ⟨bkb, 2, none⟩ = some (.slice D dk.length dc) ∧ w'.cell? ⟨bkb, 3, none⟩ = some (.int .i64 0)) (ds := []) #[false, false, false, false, false, false, false, false, false, false, false, false, false] (by kernel_rfl) rfl rfl ⟨Pp.out.c0, Pp.out.c1, Vl.out.c0, Vl.out.c1, Vl.out.c2, Vl.out.c3, Va.out.c0, Va.out.c1, Va.out.c2, Va.out.c3, Vb.out.c0, Vb.out.c1, Vb.out.c2, Vb.out.c3⟩ (fun hHeld => ?_)
  refine take_ (i := 0) (N := some 57) (v := ?_) (a' := ?_) #[true, false, false, false, false, false, false, false, false, false, false, false, false] rfl rfl (by kernel_rfl) (fun _ _ _ h => h) (Or.inl ⟨by rfl, ?_⟩) hHeld ?_ ?_
  rotate_left
  · rintro w' ⟨s0, s1, s2, s3, s4, s5, s6, s7, s8, s9, s10, s11, s12, s13⟩
    go_simp
    with_reducible rfl
  rotate_left
  · simp only [Act.put, List.setIfInBounds_toArray, List.set_cons_zero, List.set_cons_succ, i64_w, i32_w]
    rfl
  refine one_ (i := 1) (N := some 58) #[true, true, false, false, false, false, false, false, false, false, false, false, false] rfl rfl (by kernel_rfl) (by decide) (fun K hK => ?_)
  refine goes_ Try.func25 (by kernel_rfl) rfl #[.agg #[.slice Al l.base.slots.length al, .slice Bl l.base.vols.length bl, .slice Cl tk.length cl, .int .i64 0]] (by rfl) rfl rfl (by simp only [List.map_toArray, List.map_cons, List.map_nil]; rfl) ?_
  with_reducible refine (implLogOk_n (l := ⟨l.base, tk, 0⟩) Va.out.inn HSA.out HLA.out.ok).mono ?_
  rintro e w11 ⟨rfl, hb⟩
  replace Vl := Lib.hid (Vl.out.bel hb)
  replace Pp := Lib.hid (Pp.out.bel hb)
  replace Va := Lib.hid (Va.out.bel hb)
  replace Vb := Lib.hid (Vb.out.bel hb)
  replace KW := Lib.hid (KW.out.tr hb)
  clear hb
  refine ⟨_, rfl, ?_⟩
  refine hK.out _ _ ⟨Pp.out.c0, Pp.out.c1, Vl.out.c0, Vl.out.c1, Vl.out.c2, Vl.out.c3, Va.out.c0, Va.out.c1, Va.out.c2, Va.out.c3, Vb.out.c0, Vb.out.c1, Vb.out.c2, Vb.out.c3⟩ (fun hHeld => ?_)
  clear hK K
  refine norm_ (a' := ?_) ?_ ?_
  rotate_left
  · show Act.put _ (some 58) _ = _
    simp only [Act.put, List.setIfInBounds_toArray, List.set_cons_zero, List.set_cons_succ, i64_w, i32_w]
    rfl
  refine pure_ (i := 2) (N := some 59) (v := ?_) (a' := ?_) #[true, true, true, false, false, false, false, false, false, false, false, false, false] rfl rfl (by kernel_rfl) (fun _ _ _ h => h) (Or.inl ⟨by rfl, ?_⟩) ?_ ?_
  rotate_left
  · intro w'
    go_simp
    with_reducible rfl
  rotate_left
  · simp only [Act.put, List.setIfInBounds_toArray, List.set_cons_zero, List.set_cons_succ, i64_w, i32_w]
    rfl
  refine take_ (i := 3) (N := some 60) (v := ?_) (a' := ?_) #[true, true, true, true, false, false, false, false, false, false, false, false, false] rfl rfl (by kernel_rfl) (fun _ _ _ h => h) (Or.inl ⟨by rfl, ?_⟩) hHeld ?_ ?_
  rotate_left
  · rintro w' ⟨s0, s1, s2, s3, s4, s5, s6, s7, s8, s9, s10, s11, s12, s13⟩
    go_simp
    with_reducible rfl
  rotate_left
  · simp only [Act.put, List.setIfInBounds_toArray, List.set_cons_zero, List.set_cons_succ, i64_w, i32_w]
    rfl
  refine one_ (i := 4) (N := some 61) #[true, true, true, true, true, false, false, false, false, false, false, false, false] rfl rfl (by kernel_rfl) (by decide) (fun K hK => ?_)
  refine goes_ Try.func25 (by kernel_rfl) rfl #[.agg #[.slice A2 r.slots.length k2, .slice A3 r.vols.length k3, .slice D dk.length dc, .int .i64 0]] (by rfl) rfl rfl (by simp only [List.map_toArray, List.map_cons, List.map_nil]; rfl) ?_
  with_reducible refine (implLogOk_n (l := ⟨r, dk, 0⟩) Vb.out.inn HSB.out HLB.out.ok).mono ?_
  rintro e w12 ⟨rfl, hb⟩
  replace Vl := Lib.hid (Vl.out.bel hb)
  replace Pp := Lib.hid (Pp.out.bel hb)
  replace Va := Lib.hid (Va.out.bel hb)
  replace Vb := Lib.hid (Vb.out.bel hb)
  replace KW := Lib.hid (KW.out.tr hb)
  clear hb
  refine ⟨_, rfl, ?_⟩
  refine hK.out _ _ ⟨Pp.out.c0, Pp.out.c1, Vl.out.c0, Vl.out.c1, Vl.out.c2, Vl.out.c3, Va.out.c0, Va.out.c1, Va.out.c2, Va.out.c3, Vb.out.c0, Vb.out.c1, Vb.out.c2, Vb.out.c3⟩ (fun hHeld => ?_)
  clear hK K
  refine norm_ (a' := ?_) ?_ ?_
  rotate_left
  · show Act.put _ (some 61) _ = _
    simp only [Act.put, List.setIfInBounds_toArray, List.set_cons_zero, List.set_cons_succ, i64_w, i32_w]
    rfl
  refine pure_ (i := 5) (N := some 62) (v := ?_) (a' := ?_) #[true, true, true, true, true, true, false, false, false, false, false, false, false] rfl rfl (by kernel_rfl) (fun _ _ _ h => h) (Or.inl ⟨by rfl, ?_⟩) ?_ ?_
  rotate_left
  · intro w'
    go_simp
    with_reducible rfl
  rotate_left
  · simp only [Act.put, List.setIfInBounds_toArray, List.set_cons_zero, List.set_cons_succ, i64_w, i32_w]
    rfl
  refine pure_ (i := 6) (N := some 63) (v := ?_) (a' := ?_) #[true, true, true, true, true, true, true, false, false, false, false, false, false] rfl rfl (by kernel_rfl) (fun _ _ _ h => h) (Or.inl ⟨by rfl, ?_⟩) ?_ ?_
  rotate_left
  · intro w'
    go_simp
    with_reducible rfl
  rotate_left
  · simp only [Act.put, List.setIfInBounds_toArray, List.set_cons_zero, List.set_cons_succ, i64_w, i32_w]
    rfl
  refine take_ (i := 7) (N := some 64) (v := ?_) (a' := ?_) #[true, true, true, true, true, true, true, true, false, false, false, false, false] rfl rfl (by kernel_rfl) (fun _ _ _ h => h) (Or.inl ⟨by rfl, ?_⟩) hHeld ?_ ?_
  rotate_left
  · rintro w' ⟨s0, s1, s2, s3, s4, s5, s6, s7, s8, s9, s10, s11, s12, s13⟩
    go_simp
    with_reducible rfl
  rotate_left
  · simp only [Act.put, List.setIfInBounds_toArray, List.set_cons_zero, List.set_cons_succ, i64_w, i32_w]
    rfl
  refine take_ (i := 9) (N := some 66) (v := ?_) (a' := ?_) #[true, true, true, true, true, true, true, true, false, true, false, false, false] rfl rfl (by kernel_rfl) (fun _ _ _ h => h) (Or.inl ⟨by rfl, ?_⟩) hHeld ?_ ?_
  rotate_left
  · rintro w' ⟨s0, s1, s2, s3, s4, s5, s6, s7, s8, s9, s10, s11, s12, s13⟩
    go_simp
    with_reducible rfl
  rotate_left
  · simp only [Act.put, List.setIfInBounds_toArray, List.set_cons_zero, List.set_cons_succ, i64_w, i32_w]
    rfl
  refine one_ (i := 8) (N := some 65) #[true, true, true, true, true, true, true, true, true, true, false, false, false] rfl rfl (by kernel_rfl) (by decide) (fun K hK => ?_)
  refine goes_ Try.func29 (by kernel_rfl) rfl #[.agg #[.slice A2 r.slots.length k2, .slice A3 r.vols.length k3, .slice D dk.length dc, .int .i64 0]] (by rfl) rfl rfl (by simp only [List.map_toArray, List.map_cons, List.map_nil]; rfl) ?_
  with_reducible refine (implLogPool_n (l := ⟨r, dk, 0⟩) Vb.out.inn HSB.out HLB.out.poolE).mono ?_
  rintro e w13 ⟨Az, Bz, cz, dz, rfl, hin, hb⟩
  replace Vl := Lib.hid (Vl.out.bel hb)
  replace Pp := Lib.hid (Pp.out.bel hb)
  replace Va := Lib.hid (Va.out.bel hb)
  replace Vb := Lib.hid (Vb.out.bel hb)
  replace KW := Lib.hid (KW.out.tr hb)
  have Iz := Lib.hid hin
  clear hin hb
  refine ⟨_, rfl, ?_⟩
  refine hK.out _ _ ⟨Pp.out.c0, Pp.out.c1, Vl.out.c0, Vl.out.c1, Vl.out.c2, Vl.out.c3, Va.out.c0, Va.out.c1, Va.out.c2, Va.out.c3, Vb.out.c0, Vb.out.c1, Vb.out.c2, Vb.out.c3⟩ (fun hHeld => ?_)
  clear hK K
  refine norm_ (a' := ?_) ?_ ?_
  rotate_left
  · show Act.put _ (some 65) _ = _
    simp only [Act.put, List.setIfInBounds_toArray, List.set_cons_zero, List.set_cons_succ, i64_w, i32_w]
    rfl
  refine one_ (i := 10) (N := some 67) #[true, true, true, true, true, true, true, true, true, true, true, false, false] rfl rfl (by kernel_rfl) (by decide) (fun K hK => ?_)
  refine goes_ Try.func30 (by kernel_rfl) rfl #[.agg #[.slice Az q0.slots.length cz, .slice Bz q0.vols.length dz], .agg #[.slice Ap q0.slots.length cp, .slice Bp q0.vols.length dp]] (by rfl) rfl rfl (by simp only [List.map_toArray, List.map_cons, List.map_nil]; rfl) ?_
  with_reducible refine (lgPool_c Iz.out Pp.out.inn HSp.out).mono ?_
  rintro e w14 ⟨rfl, hb⟩
  replace Vl := Lib.hid (Vl.out.bel hb)
  replace Pp := Lib.hid (Pp.out.bel hb)
  replace Va := Lib.hid (Va.out.bel hb)
  replace Vb := Lib.hid (Vb.out.bel hb)
  replace Iz := Lib.hid (Iz.out.bel hb)
  replace KW := Lib.hid (KW.out.tr hb)
  clear hb
  refine ⟨_, rfl, ?_⟩
  refine hK.out _ _ ⟨Pp.out.c0, Pp.out.c1, Vl.out.c0, Vl.out.c1, Vl.out.c2, Vl.out.c3, Va.out.c0, Va.out.c1, Va.out.c2, Va.out.c3, Vb.out.c0, Vb.out.c1, Vb.out.c2, Vb.out.c3⟩ (fun hHeld => ?_)
  clear hK K
  refine norm_ (a' := ?_) ?_ ?_
  rotate_left
  · show Act.put _ (some 67) _ = _
    simp only [Act.put, List.setIfInBounds_toArray, List.set_cons_zero, List.set_cons_succ, i64_w, i32_w]
    rfl
  refine pure_ (i := 11) (N := some 68) (v := ?_) (a' := ?_) #[true, true, true, true, true, true, true, true, true, true, true, true, false] rfl rfl (by kernel_rfl) (fun _ _ _ h => h) (Or.inl ⟨by rfl, ?_⟩) ?_ ?_
  rotate_left
  · intro w'
    go_simp
    with_reducible rfl
  rotate_left
  · simp only [Act.put, List.setIfInBounds_toArray, List.set_cons_zero, List.set_cons_succ, i64_w, i32_w]
    rfl
  refine pure_ (i := 12) (N := some 4) (v := ?_) (a' := ?_) #[true, true, true, true, true, true, true, true, true, true, true, true, true] rfl rfl (by kernel_rfl) (fun _ _ _ h => h) (Or.inl ⟨by rfl, ?_⟩) ?_ ?_
  rotate_left
  · intro w'
    go_simp
    with_reducible rfl
  rotate_left
  · simp only [Act.put, List.setIfInBounds_toArray, List.set_cons_zero, List.set_cons_succ, i64_w, i32_w]
    rfl
  refine done_ (by kernel_rfl) ?_
  have qp0 := Pp.out.c0
  have qp1 := Pp.out.c1
  have yp := Pp.out.lt
  have el0 : w14.cell? ⟨bkl, 0, none⟩ = some (.slice Al l.base.slots.length al) := Vl.out.c0
  have el1 : w14.cell? ⟨bkl, 1, none⟩ = some (.slice Bl l.base.vols.length bl) := Vl.out.c1
  have el2 : w14.cell? ⟨bkl, 2, none⟩ = some (.slice Cl l.ops.length cl) := Vl.out.c2
  have el3 : w14.cell? ⟨bkl, 3, none⟩ = some (.int .i64 l.safe) := Vl.out.c3
  have eyl := Vl.out.lt
  have ea0 : w14.cell? ⟨bka, 0, none⟩ = some (.slice Al l.base.slots.length al) := Va.out.c0
  have ea1 : w14.cell? ⟨bka, 1, none⟩ = some (.slice Bl l.base.vols.length bl) := Va.out.c1
  have ea2 : w14.cell? ⟨bka, 2, none⟩ = some (.slice Cl tk.length cl) := Va.out.c2
  have ea3 : w14.cell? ⟨bka, 3, none⟩ = some (.int .i64 0) := Va.out.c3
  have eya := Va.out.lt
  have eb0 : w14.cell? ⟨bkb, 0, none⟩ = some (.slice A2 r.slots.length k2) := Vb.out.c0
  have eb1 : w14.cell? ⟨bkb, 1, none⟩ = some (.slice A3 r.vols.length k3) := Vb.out.c1
  have eb2 : w14.cell? ⟨bkb, 2, none⟩ = some (.slice D dk.length dc) := Vb.out.c2
  have eb3 : w14.cell? ⟨bkb, 3, none⟩ = some (.int .i64 0) := Vb.out.c3
  have eyb := Vb.out.lt
  go_wp2
  go_ret
  exact ⟨rfl, KW.out⟩
end Go.Proofs.Ytccllgpaafgjaaa
/- Arguments opened: a code of bytes that came in. -/


namespace Go.Proofs.Ytccllgpaafgjaaa
open Go.RowKit Go.Proofs.YtccllgpaafgjaaaW.PrintWords Go.Joins Go.ChangeShapes Go.WideShapes Go.Deep
set_option linter.unusedVariables false
set_option linter.unusedSimpArgs false

section
variable {H : Type} {enc : TypeId × Value → H} {w : World} {base : Nat} {spare : Nat → Bool} {held : Bool}
theorem open_byteE {n : Nat} {c : List Value} {y : DataW H × List MemPlace} (h : DataW.trod enc Try.prog w base spare held n 5 c = some y) : ∃ z : Int, kByte.K w z c ∧ 0 ≤ z ∧ z ≤ 255 := by
  obtain ⟨z, rfl, _, hw⟩ := DataW.trod_int Try.underlying5 h
  have hb := bounds_u8 hw
  exact ⟨z, rfl, hb.1, hb.2⟩
theorem cells_byte : Try.prog.cellsOf 5 = 1 := by kernel_rfl
set_option maxRecDepth 100000 in
theorem bytes_lt {r : Reach} {b0 : Nat} {ad : Addr} {n c : Nat} (h : Value.okWide Try.prog w r b0 31 (.slice (some ad) n c)) : ad.block < w.heap.size := by
  simp only [Value.okWide, Try.underlying31, Cell.okWide, Cell.ok, World.has] at h
  obtain ⟨_, _, _, _, row, cells, hs, _⟩ := h
  unfold World.shape? at hs
  by_cases hl : ad.block < w.heap.size
  · exact hl
  · rw [Array.getElem?_eq_none (by omega)] at hs
    cases hs
set_option maxRecDepth 100000 in
theorem open_bytes {r : Reach} {b0 : Nat} {v : Value} {d : DataW H} {p : List MemPlace} (hv : Value.okWide Try.prog w r b0 31 v) (h : DataW.Trod enc Try.prog w base spare held 31 v d p) :
    ∃ A n c, ∃ bs : List Int, v = .slice A n c ∧ CodeIn w A n c bs ∧ n ≤ 9223372036854775807 := by
  obtain ⟨a, len, cap, rfl⟩ := okWide_slice Try.underlying31 hv
  obtain ⟨fuel, hf⟩ := h
  obtain ⟨A, c, xs, e, hc, hC, hQ, hm⟩ := open_row kByte (Q := fun z => 0 ≤ z ∧ z ≤ 255) Try.underlying31 cells_byte (fun n c y hl h => by
    obtain ⟨z, hz, h0, h1⟩ := open_byteE h
    exact ⟨z, hz, h0, h1⟩) hf
  simp [Value.cells] at e
  obtain ⟨rfl, rfl, rfl⟩ := e
  have := big_max
  exact ⟨_, _, _, xs, rfl, ⟨rfl, hc, hC, hQ, fun ad e => by subst e; exact bytes_lt hv⟩, by omega⟩
end
end Go.Proofs.Ytccllgpaafgjaaa
/- The law FnLogFall: its body walked. -/

namespace Go.Proofs.Ytccllgpaafgjaaa
open Go.RowKit Go.Proofs.YtccllgpaafgjaaaW.PrintWords Go.Proofs.YtccllgpaafgjaaaW.PrintLast
set_option linter.unusedVariables false
set_option linter.unusedSimpArgs false

set_option maxHeartbeats 32000000 in
set_option maxRecDepth 10000 in
theorem lawFnLogFall_c {w : World} {A : Option Addr} {n c : Nat} {bs : List Int} (h : CodeIn w A n c bs) (hn : n ≤ 9223372036854775807) :
    Calls Try.prog 9 #[.slice A n c] w (Ret (.bool true) w) := by
  have H := Lib.hid h
  clear h
  go_enter Try.func9, Try.ntmps9
  by_cases hlen : (1048576 : Int) < (n : Int)
  · go_wp2
    go_ret
    exact ⟨rfl, Below.refl _ _⟩
  go_wp2_with fail
  refine (drawLogFall_c H.out hn).mono ?_
  rintro e w1 ⟨Al, Bl, Cl, al, bl, cl, l, left, rfl, hd, hle1, hle2, hin, hb⟩
  have HSl := Lib.hid hd.small
  have hll := hd.len
  have Jl := Lib.hid hin
  have KW := Lib.hid hb
  clear hd hin hb
  cases hok : logOk l
  · have HOK := Lib.hid hok
    clear hok
    obtain ⟨x, hx⟩ : ∃ x, fallF l left = x := ⟨_, rfl⟩
    have HX := Lib.hid hx
    have HSx := Lib.hid (hx ▸ fallF_small HSl.out : SmallL x)
    clear hx
    go_wp2_with fail
    have hnew := LVar.new Jl.out
    have hb : Bel w1 (w1.alloc (.cells #[.slice Al l.base.slots.length al, .slice Bl l.base.vols.length bl, .slice Cl l.ops.length cl, .int .i64 l.safe] 51)) := bel_alloc (Below.refl _ _) _
    generalize w1.alloc (.cells #[.slice Al l.base.slots.length al, .slice Bl l.base.vols.length bl, .slice Cl l.ops.length cl, .int .i64 l.safe] 51) = W2 at hnew hb ⊢
    replace Jl := Lib.hid (Jl.out.bel hb)
    replace KW := Lib.hid (KW.out.tr hb)
    obtain ⟨bkl, hbn⟩ : ∃ b, w1.heap.size = b := ⟨_, rfl⟩
    rw [hbn] at hnew ⊢
    have Vl := Lib.hid hnew
    clear hnew hb hbn Jl
    refine (implLogFall_n (left := left) Vl.out.inn HSl.out HX.out).mono ?_
    rintro e w3 ⟨Ax, Bx, Cx, ax, bx, cx, rfl, hin, hb⟩
    replace Vl := Lib.hid (Vl.out.bel hb)
    replace KW := Lib.hid (KW.out.tr hb)
    have Jx := Lib.hid hin
    clear hin hb
    have el0 : w3.cell? ⟨bkl, 0, none⟩ = some (.slice Al l.base.slots.length al) := Vl.out.c0
    have el1 : w3.cell? ⟨bkl, 1, none⟩ = some (.slice Bl l.base.vols.length bl) := Vl.out.c1
    have el2 : w3.cell? ⟨bkl, 2, none⟩ = some (.slice Cl l.ops.length cl) := Vl.out.c2
    have el3 : w3.cell? ⟨bkl, 3, none⟩ = some (.int .i64 l.safe) := Vl.out.c3
    have eyl := Vl.out.lt
    go_wp2
    clear el0 el1 el2 el3 eyl
    have hnew := LVar.new Jx.out
    have hb : Bel w3 (w3.alloc (.cells #[.slice Ax x.base.slots.length ax, .slice Bx x.base.vols.length bx, .slice Cx x.ops.length cx, .int .i64 x.safe] 51)) := bel_alloc (Below.refl _ _) _
    generalize w3.alloc (.cells #[.slice Ax x.base.slots.length ax, .slice Bx x.base.vols.length bx, .slice Cx x.ops.length cx, .int .i64 x.safe] 51) = W4 at hnew hb ⊢
    replace Vl := Lib.hid (Vl.out.bel hb)
    replace Jx := Lib.hid (Jx.out.bel hb)
    replace KW := Lib.hid (KW.out.tr hb)
    obtain ⟨bkx, hbn⟩ : ∃ b, w3.heap.size = b := ⟨_, rfl⟩
    rw [hbn] at hnew ⊢
    have Vx := Lib.hid hnew
    clear hnew hb hbn Jx
    have hb : Bel W4 W4.drew := (Below.refl _ _).drew
    replace Vl := Lib.hid (Vl.out.bel hb)
    replace Vx := Lib.hid (Vx.out.bel hb)
    replace KW := Lib.hid (KW.out.tr hb)
    clear hb
    refine start_ (n := 15) (S := fun w' => w'.cell? ⟨bkx, 0, none⟩ = some (.slice Ax x.base.slots.length ax) ∧ w'.cell? ⟨bkx, 1, none⟩ = some (.slice Bx x.base.vols.length bx) ∧ w'.cell? ⟨bkx, 2, none⟩ = some (.slice Cx x.ops.length cx) ∧ w'.cell? ⟨bkx, 3, none⟩ = some (.int .i64 x.safe) ∧ w'.cell? ⟨bkl, 0, none⟩ = some (.slice Al l.base.slots.length al) ∧ w'.cell? ⟨bkl, 1, none⟩ = some (.slice Bl l.base.vols.length bl) ∧ w'.cell? ⟨bkl, 2, none⟩ = some (.slice Cl l.ops.length cl) ∧ w'.cell? ⟨bkl, 3, none⟩ = some (.int .i64 l.safe)) (ds := []) #[false, false, false, false, false, false, false, false, false, false, false, false, false, false, false] (by kernel_rfl) rfl rfl ⟨Vx.out.c0, Vx.out.c1, Vx.out.c2, Vx.out.c3, Vl.out.c0, Vl.out.c1, Vl.out.c2, Vl.out.c3⟩ (fun hHeld => ?_)
    refine pure_ (i := 2) (N := some 20) (v := ?_) (a' := ?_) #[false, false, true, false, false, false, false, false, false, false, false, false, false, false, false] rfl rfl (by kernel_rfl) (fun _ _ _ h => h) (Or.inl ⟨by rfl, ?_⟩) ?_ ?_
    rotate_left
    · intro w'
      go_simp
      with_reducible rfl
    rotate_left
    · simp only [Act.put, List.setIfInBounds_toArray, List.set_cons_zero, List.set_cons_succ, i64_w, i32_w]
      rfl
    refine take_ (i := 0) (N := some 18) (v := ?_) (a' := ?_) #[true, false, true, false, false, false, false, false, false, false, false, false, false, false, false] rfl rfl (by kernel_rfl) (fun _ _ _ h => h) (Or.inl ⟨by rfl, ?_⟩) hHeld ?_ ?_
    rotate_left
    · rintro w' ⟨s0, s1, s2, s3, s4, s5, s6, s7⟩
      go_simp
      with_reducible rfl
    rotate_left
    · simp only [Act.put, List.setIfInBounds_toArray, List.set_cons_zero, List.set_cons_succ, i64_w, i32_w]
      rfl
    refine take_ (i := 1) (N := some 19) (v := ?_) (a' := ?_) #[true, true, true, false, false, false, false, false, false, false, false, false, false, false, false] rfl rfl (by kernel_rfl) (fun _ _ _ h => h) (Or.inl ⟨by rfl, ?_⟩) hHeld ?_ ?_
    rotate_left
    · rintro w' ⟨s0, s1, s2, s3, s4, s5, s6, s7⟩
      go_simp
      with_reducible rfl
    rotate_left
    · simp only [Act.put, List.setIfInBounds_toArray, List.set_cons_zero, List.set_cons_succ, i64_w, i32_w]
      rfl
    refine one_ (i := 3) (N := some 21) #[true, true, true, true, false, false, false, false, false, false, false, false, false, false, false] rfl rfl (by kernel_rfl) (by decide) (fun K hK => ?_)
    refine goes_ Try.func37 (by kernel_rfl) rfl #[.agg #[.slice Al l.base.slots.length al, .slice Bl l.base.vols.length bl, .slice Cl l.ops.length cl, .int .i64 l.safe], .int .i64 left] (by rfl) rfl rfl (by simp only [List.map_toArray, List.map_cons, List.map_nil]; rfl) ?_
    with_reducible refine (specLogFall_n (left := left) Vl.out.inn HSl.out HX.out).mono ?_
    rintro e w5 ⟨Ay5, By5, Cy5, ay5, by5, cy5, rfl, hin, hb⟩
    replace Vl := Lib.hid (Vl.out.bel hb)
    replace Vx := Lib.hid (Vx.out.bel hb)
    replace KW := Lib.hid (KW.out.tr hb)
    have Jy5 := Lib.hid hin
    clear hin hb
    refine ⟨_, rfl, ?_⟩
    refine hK.out _ _ ⟨Vx.out.c0, Vx.out.c1, Vx.out.c2, Vx.out.c3, Vl.out.c0, Vl.out.c1, Vl.out.c2, Vl.out.c3⟩ (fun hHeld => ?_)
    clear hK K
    refine norm_ (a' := ?_) ?_ ?_
    rotate_left
    · show Act.put _ (some 21) _ = _
      simp only [Act.put, List.setIfInBounds_toArray, List.set_cons_zero, List.set_cons_succ, i64_w, i32_w]
      rfl
    refine one_ (i := 4) (N := some 22) #[true, true, true, true, true, false, false, false, false, false, false, false, false, false, false] rfl rfl (by kernel_rfl) (by decide) (fun K hK => ?_)
    refine goes_ Try.func36 (by kernel_rfl) rfl #[.agg #[.slice Ax x.base.slots.length ax, .slice Bx x.base.vols.length bx, .slice Cx x.ops.length cx, .int .i64 x.safe], .agg #[.slice Ay5 x.base.slots.length ay5, .slice By5 x.base.vols.length by5, .slice Cy5 x.ops.length cy5, .int .i64 x.safe]] (by rfl) rfl rfl (by simp only [List.map_toArray, List.map_cons, List.map_nil]; rfl) ?_
    with_reducible refine (lgLog_c Vx.out.inn Jy5.out HSx.out).mono ?_
    rintro e w6 ⟨rfl, hb⟩
    replace Vl := Lib.hid (Vl.out.bel hb)
    replace Vx := Lib.hid (Vx.out.bel hb)
    replace Jy5 := Lib.hid (Jy5.out.bel hb)
    replace KW := Lib.hid (KW.out.tr hb)
    clear hb
    refine ⟨_, rfl, ?_⟩
    refine hK.out _ _ ⟨Vx.out.c0, Vx.out.c1, Vx.out.c2, Vx.out.c3, Vl.out.c0, Vl.out.c1, Vl.out.c2, Vl.out.c3⟩ (fun hHeld => ?_)
    clear hK K
    refine norm_ (a' := ?_) ?_ ?_
    rotate_left
    · show Act.put _ (some 22) _ = _
      simp only [Act.put, List.setIfInBounds_toArray, List.set_cons_zero, List.set_cons_succ, i64_w, i32_w]
      rfl
    refine pure_ (i := 5) (N := some 23) (v := ?_) (a' := ?_) #[true, true, true, true, true, true, false, false, false, false, false, false, false, false, false] rfl rfl (by kernel_rfl) (fun _ _ _ h => h) (Or.inl ⟨by rfl, ?_⟩) ?_ ?_
    rotate_left
    · intro w'
      go_simp
      with_reducible rfl
    rotate_left
    · simp only [Act.put, List.setIfInBounds_toArray, List.set_cons_zero, List.set_cons_succ, i64_w, i32_w]
      rfl
    refine pure_ (i := 6) (N := some 24) (v := ?_) (a' := ?_) #[true, true, true, true, true, true, true, false, false, false, false, false, false, false, false] rfl rfl (by kernel_rfl) (fun _ _ _ h => h) (Or.inl ⟨by rfl, ?_⟩) ?_ ?_
    rotate_left
    · intro w'
      go_simp
      with_reducible rfl
    rotate_left
    · simp only [Act.put, List.setIfInBounds_toArray, List.set_cons_zero, List.set_cons_succ, i64_w, i32_w]
      rfl
    refine take_ (i := 7) (N := some 25) (v := ?_) (a' := ?_) #[true, true, true, true, true, true, true, true, false, false, false, false, false, false, false] rfl rfl (by kernel_rfl) (fun _ _ _ h => h) (Or.inl ⟨by rfl, ?_⟩) hHeld ?_ ?_
    rotate_left
    · rintro w' ⟨s0, s1, s2, s3, s4, s5, s6, s7⟩
      go_simp
      with_reducible rfl
    rotate_left
    · simp only [Act.put, List.setIfInBounds_toArray, List.set_cons_zero, List.set_cons_succ, i64_w, i32_w]
      rfl
    refine one_ (i := 8) (N := some 26) #[true, true, true, true, true, true, true, true, true, false, false, false, false, false, false] rfl rfl (by kernel_rfl) (by decide) (fun K hK => ?_)
    refine goes_ Try.func26 (by kernel_rfl) rfl #[.agg #[.slice Al l.base.slots.length al, .slice Bl l.base.vols.length bl, .slice Cl l.ops.length cl, .int .i64 l.safe]] (by rfl) rfl rfl (by simp only [List.map_toArray, List.map_cons, List.map_nil]; rfl) ?_
    with_reducible refine (specLogOk_n Vl.out.inn HSl.out HOK.out).mono ?_
    rintro e w7 ⟨rfl, hb⟩
    replace Vl := Lib.hid (Vl.out.bel hb)
    replace Vx := Lib.hid (Vx.out.bel hb)
    replace Jy5 := Lib.hid (Jy5.out.bel hb)
    replace KW := Lib.hid (KW.out.tr hb)
    clear hb
    refine ⟨_, rfl, ?_⟩
    refine hK.out _ _ ⟨Vx.out.c0, Vx.out.c1, Vx.out.c2, Vx.out.c3, Vl.out.c0, Vl.out.c1, Vl.out.c2, Vl.out.c3⟩ (fun hHeld => ?_)
    clear hK K
    refine norm_ (a' := ?_) ?_ ?_
    rotate_left
    · show Act.put _ (some 26) _ = _
      simp only [Act.put, List.setIfInBounds_toArray, List.set_cons_zero, List.set_cons_succ, i64_w, i32_w]
      rfl
    refine pure_ (i := 9) (N := some 27) (v := ?_) (a' := ?_) #[true, true, true, true, true, true, true, true, true, true, false, false, false, false, false] rfl rfl (by kernel_rfl) (fun _ _ _ h => h) (Or.inl ⟨by rfl, ?_⟩) ?_ ?_
    rotate_left
    · intro w'
      go_simp
      with_reducible rfl
    rotate_left
    · simp only [Act.put, List.setIfInBounds_toArray, List.set_cons_zero, List.set_cons_succ, i64_w, i32_w]
      rfl
    refine pure_ (i := 10) (N := some 28) (v := ?_) (a' := ?_) #[true, true, true, true, true, true, true, true, true, true, true, false, false, false, false] rfl rfl (by kernel_rfl) (fun _ _ _ h => h) (Or.inl ⟨by rfl, ?_⟩) ?_ ?_
    rotate_left
    · intro w'
      go_simp
      with_reducible rfl
    rotate_left
    · simp only [Act.put, List.setIfInBounds_toArray, List.set_cons_zero, List.set_cons_succ, i64_w, i32_w]
      rfl
    refine pure_ (i := 11) (N := some 29) (v := ?_) (a' := ?_) #[true, true, true, true, true, true, true, true, true, true, true, true, false, false, false] rfl rfl (by kernel_rfl) (fun _ _ _ h => h) (Or.inl ⟨by rfl, ?_⟩) ?_ ?_
    rotate_left
    · intro w'
      go_simp
      with_reducible rfl
    rotate_left
    · simp only [Act.put, List.setIfInBounds_toArray, List.set_cons_zero, List.set_cons_succ, i64_w, i32_w]
      rfl
    refine pure_ (i := 12) (N := some 30) (v := undef) (a' := ?_) #[true, true, true, true, true, true, true, true, true, true, true, true, true, false, false] rfl rfl (by kernel_rfl) (fun _ _ _ h => h) (Or.inr ⟨by rfl, rfl⟩) ?_ ?_
    rotate_left
    · simp only [Act.put, List.setIfInBounds_toArray, List.set_cons_zero, List.set_cons_succ, i64_w, i32_w]
      rfl
    refine pure_ (i := 13) (N := some 31) (v := undef) (a' := ?_) #[true, true, true, true, true, true, true, true, true, true, true, true, true, true, false] rfl rfl (by kernel_rfl) (fun _ _ _ h => h) (Or.inr ⟨by rfl, rfl⟩) ?_ ?_
    rotate_left
    · simp only [Act.put, List.setIfInBounds_toArray, List.set_cons_zero, List.set_cons_succ, i64_w, i32_w]
      rfl
    refine pure_ (i := 14) (N := some 32) (v := ?_) (a' := ?_) #[true, true, true, true, true, true, true, true, true, true, true, true, true, true, true] rfl rfl (by kernel_rfl) (fun _ _ _ h => h) (Or.inl ⟨by rfl, ?_⟩) ?_ ?_
    rotate_left
    · intro w'
      go_simp
      with_reducible rfl
    rotate_left
    · simp only [Act.put, List.setIfInBounds_toArray, List.set_cons_zero, List.set_cons_succ, i64_w, i32_w]
      rfl
    refine done_ (by kernel_rfl) ?_
    have el0 : w7.cell? ⟨bkl, 0, none⟩ = some (.slice Al l.base.slots.length al) := Vl.out.c0
    have el1 : w7.cell? ⟨bkl, 1, none⟩ = some (.slice Bl l.base.vols.length bl) := Vl.out.c1
    have el2 : w7.cell? ⟨bkl, 2, none⟩ = some (.slice Cl l.ops.length cl) := Vl.out.c2
    have el3 : w7.cell? ⟨bkl, 3, none⟩ = some (.int .i64 l.safe) := Vl.out.c3
    have eyl := Vl.out.lt
    have ex0 : w7.cell? ⟨bkx, 0, none⟩ = some (.slice Ax x.base.slots.length ax) := Vx.out.c0
    have ex1 : w7.cell? ⟨bkx, 1, none⟩ = some (.slice Bx x.base.vols.length bx) := Vx.out.c1
    have ex2 : w7.cell? ⟨bkx, 2, none⟩ = some (.slice Cx x.ops.length cx) := Vx.out.c2
    have ex3 : w7.cell? ⟨bkx, 3, none⟩ = some (.int .i64 x.safe) := Vx.out.c3
    have eyx := Vx.out.lt
    go_wp2
    clear el0 el1 el2 el3 eyl
    clear ex0 ex1 ex2 ex3 eyx
    have hb : Bel w7 w7.drew := (Below.refl _ _).drew
    replace Vl := Lib.hid (Vl.out.bel hb)
    replace Vx := Lib.hid (Vx.out.bel hb)
    replace KW := Lib.hid (KW.out.tr hb)
    clear hb
    refine start_ (n := 6) (S := fun w' => w'.cell? ⟨bkx, 0, none⟩ = some (.slice Ax x.base.slots.length ax) ∧ w'.cell? ⟨bkx, 1, none⟩ = some (.slice Bx x.base.vols.length bx) ∧ w'.cell? ⟨bkx, 2, none⟩ = some (.slice Cx x.ops.length cx) ∧ w'.cell? ⟨bkx, 3, none⟩ = some (.int .i64 x.safe) ∧ w'.cell? ⟨bkl, 0, none⟩ = some (.slice Al l.base.slots.length al) ∧ w'.cell? ⟨bkl, 1, none⟩ = some (.slice Bl l.base.vols.length bl) ∧ w'.cell? ⟨bkl, 2, none⟩ = some (.slice Cl l.ops.length cl) ∧ w'.cell? ⟨bkl, 3, none⟩ = some (.int .i64 l.safe)) (ds := []) #[false, false, false, false, false, false] (by kernel_rfl) rfl rfl ⟨Vx.out.c0, Vx.out.c1, Vx.out.c2, Vx.out.c3, Vl.out.c0, Vl.out.c1, Vl.out.c2, Vl.out.c3⟩ (fun hHeld => ?_)
    refine pure_ (i := 2) (N := some 35) (v := ?_) (a' := ?_) #[false, false, true, false, false, false] rfl rfl (by kernel_rfl) (fun _ _ _ h => h) (Or.inl ⟨by rfl, ?_⟩) ?_ ?_
    rotate_left
    · intro w'
      go_simp
      with_reducible rfl
    rotate_left
    · simp only [Act.put, List.setIfInBounds_toArray, List.set_cons_zero, List.set_cons_succ, i64_w, i32_w]
      rfl
    refine take_ (i := 0) (N := some 33) (v := ?_) (a' := ?_) #[true, false, true, false, false, false] rfl rfl (by kernel_rfl) (fun _ _ _ h => h) (Or.inl ⟨by rfl, ?_⟩) hHeld ?_ ?_
    rotate_left
    · rintro w' ⟨s0, s1, s2, s3, s4, s5, s6, s7⟩
      go_simp
      with_reducible rfl
    rotate_left
    · simp only [Act.put, List.setIfInBounds_toArray, List.set_cons_zero, List.set_cons_succ, i64_w, i32_w]
      rfl
    refine take_ (i := 1) (N := some 34) (v := ?_) (a' := ?_) #[true, true, true, false, false, false] rfl rfl (by kernel_rfl) (fun _ _ _ h => h) (Or.inl ⟨by rfl, ?_⟩) hHeld ?_ ?_
    rotate_left
    · rintro w' ⟨s0, s1, s2, s3, s4, s5, s6, s7⟩
      go_simp
      with_reducible rfl
    rotate_left
    · simp only [Act.put, List.setIfInBounds_toArray, List.set_cons_zero, List.set_cons_succ, i64_w, i32_w]
      rfl
    refine one_ (i := 3) (N := some 36) #[true, true, true, true, false, false] rfl rfl (by kernel_rfl) (by decide) (fun K hK => ?_)
    refine goes_ Try.func37 (by kernel_rfl) rfl #[.agg #[.slice Al l.base.slots.length al, .slice Bl l.base.vols.length bl, .slice Cl l.ops.length cl, .int .i64 l.safe], .int .i64 left] (by rfl) rfl rfl (by simp only [List.map_toArray, List.map_cons, List.map_nil]; rfl) ?_
    with_reducible refine (specLogFall_n (left := left) Vl.out.inn HSl.out HX.out).mono ?_
    rintro e w8 ⟨Ay6, By6, Cy6, ay6, by6, cy6, rfl, hin, hb⟩
    replace Vl := Lib.hid (Vl.out.bel hb)
    replace Vx := Lib.hid (Vx.out.bel hb)
    replace KW := Lib.hid (KW.out.tr hb)
    have Jy6 := Lib.hid hin
    clear hin hb
    refine ⟨_, rfl, ?_⟩
    refine hK.out _ _ ⟨Vx.out.c0, Vx.out.c1, Vx.out.c2, Vx.out.c3, Vl.out.c0, Vl.out.c1, Vl.out.c2, Vl.out.c3⟩ (fun hHeld => ?_)
    clear hK K
    refine norm_ (a' := ?_) ?_ ?_
    rotate_left
    · show Act.put _ (some 36) _ = _
      simp only [Act.put, List.setIfInBounds_toArray, List.set_cons_zero, List.set_cons_succ, i64_w, i32_w]
      rfl
    refine one_ (i := 4) (N := some 37) #[true, true, true, true, true, false] rfl rfl (by kernel_rfl) (by decide) (fun K hK => ?_)
    refine goes_ Try.func36 (by kernel_rfl) rfl #[.agg #[.slice Ax x.base.slots.length ax, .slice Bx x.base.vols.length bx, .slice Cx x.ops.length cx, .int .i64 x.safe], .agg #[.slice Ay6 x.base.slots.length ay6, .slice By6 x.base.vols.length by6, .slice Cy6 x.ops.length cy6, .int .i64 x.safe]] (by rfl) rfl rfl (by simp only [List.map_toArray, List.map_cons, List.map_nil]; rfl) ?_
    with_reducible refine (lgLog_c Vx.out.inn Jy6.out HSx.out).mono ?_
    rintro e w9 ⟨rfl, hb⟩
    replace Vl := Lib.hid (Vl.out.bel hb)
    replace Vx := Lib.hid (Vx.out.bel hb)
    replace Jy6 := Lib.hid (Jy6.out.bel hb)
    replace KW := Lib.hid (KW.out.tr hb)
    clear hb
    refine ⟨_, rfl, ?_⟩
    refine hK.out _ _ ⟨Vx.out.c0, Vx.out.c1, Vx.out.c2, Vx.out.c3, Vl.out.c0, Vl.out.c1, Vl.out.c2, Vl.out.c3⟩ (fun hHeld => ?_)
    clear hK K
    refine norm_ (a' := ?_) ?_ ?_
    rotate_left
    · show Act.put _ (some 37) _ = _
      simp only [Act.put, List.setIfInBounds_toArray, List.set_cons_zero, List.set_cons_succ, i64_w, i32_w]
      rfl
    refine pure_ (i := 5) (N := some 2) (v := ?_) (a' := ?_) #[true, true, true, true, true, true] rfl rfl (by kernel_rfl) (fun _ _ _ h => h) (Or.inl ⟨by rfl, ?_⟩) ?_ ?_
    rotate_left
    · intro w'
      go_simp
      with_reducible rfl
    rotate_left
    · simp only [Act.put, List.setIfInBounds_toArray, List.set_cons_zero, List.set_cons_succ, i64_w, i32_w]
      rfl
    refine done_ (by kernel_rfl) ?_
    have el0 : w9.cell? ⟨bkl, 0, none⟩ = some (.slice Al l.base.slots.length al) := Vl.out.c0
    have el1 : w9.cell? ⟨bkl, 1, none⟩ = some (.slice Bl l.base.vols.length bl) := Vl.out.c1
    have el2 : w9.cell? ⟨bkl, 2, none⟩ = some (.slice Cl l.ops.length cl) := Vl.out.c2
    have el3 : w9.cell? ⟨bkl, 3, none⟩ = some (.int .i64 l.safe) := Vl.out.c3
    have eyl := Vl.out.lt
    have ex0 : w9.cell? ⟨bkx, 0, none⟩ = some (.slice Ax x.base.slots.length ax) := Vx.out.c0
    have ex1 : w9.cell? ⟨bkx, 1, none⟩ = some (.slice Bx x.base.vols.length bx) := Vx.out.c1
    have ex2 : w9.cell? ⟨bkx, 2, none⟩ = some (.slice Cx x.ops.length cx) := Vx.out.c2
    have ex3 : w9.cell? ⟨bkx, 3, none⟩ = some (.int .i64 x.safe) := Vx.out.c3
    have eyx := Vx.out.lt
    go_wp2
    all_goals
      go_ret
      exact ⟨rfl, KW.out⟩
  have HOK := Lib.hid hok
  obtain ⟨q0, hlp⟩ := logOk_iff.1 hok
  have HLP := Lib.hid hlp
  have hl20 := hlp.len
  clear hok hlp
  by_cases hneg : left < 0
  · obtain ⟨x, hx⟩ : ∃ x, fallF l left = x := ⟨_, rfl⟩
    have HX := Lib.hid hx
    have HSx := Lib.hid (hx ▸ fallF_small HSl.out : SmallL x)
    clear hx
    go_wp2_with fail
    have hnew := LVar.new Jl.out
    have hb : Bel w1 (w1.alloc (.cells #[.slice Al l.base.slots.length al, .slice Bl l.base.vols.length bl, .slice Cl l.ops.length cl, .int .i64 l.safe] 51)) := bel_alloc (Below.refl _ _) _
    generalize w1.alloc (.cells #[.slice Al l.base.slots.length al, .slice Bl l.base.vols.length bl, .slice Cl l.ops.length cl, .int .i64 l.safe] 51) = W2 at hnew hb ⊢
    replace Jl := Lib.hid (Jl.out.bel hb)
    replace KW := Lib.hid (KW.out.tr hb)
    obtain ⟨bkl, hbn⟩ : ∃ b, w1.heap.size = b := ⟨_, rfl⟩
    rw [hbn] at hnew ⊢
    have Vl := Lib.hid hnew
    clear hnew hb hbn Jl
    refine (implLogFall_n (left := left) Vl.out.inn HSl.out HX.out).mono ?_
    rintro e w3 ⟨Ax, Bx, Cx, ax, bx, cx, rfl, hin, hb⟩
    replace Vl := Lib.hid (Vl.out.bel hb)
    replace KW := Lib.hid (KW.out.tr hb)
    have Jx := Lib.hid hin
    clear hin hb
    have el0 : w3.cell? ⟨bkl, 0, none⟩ = some (.slice Al l.base.slots.length al) := Vl.out.c0
    have el1 : w3.cell? ⟨bkl, 1, none⟩ = some (.slice Bl l.base.vols.length bl) := Vl.out.c1
    have el2 : w3.cell? ⟨bkl, 2, none⟩ = some (.slice Cl l.ops.length cl) := Vl.out.c2
    have el3 : w3.cell? ⟨bkl, 3, none⟩ = some (.int .i64 l.safe) := Vl.out.c3
    have eyl := Vl.out.lt
    go_wp2
    clear el0 el1 el2 el3 eyl
    have hnew := LVar.new Jx.out
    have hb : Bel w3 (w3.alloc (.cells #[.slice Ax x.base.slots.length ax, .slice Bx x.base.vols.length bx, .slice Cx x.ops.length cx, .int .i64 x.safe] 51)) := bel_alloc (Below.refl _ _) _
    generalize w3.alloc (.cells #[.slice Ax x.base.slots.length ax, .slice Bx x.base.vols.length bx, .slice Cx x.ops.length cx, .int .i64 x.safe] 51) = W4 at hnew hb ⊢
    replace Vl := Lib.hid (Vl.out.bel hb)
    replace Jx := Lib.hid (Jx.out.bel hb)
    replace KW := Lib.hid (KW.out.tr hb)
    obtain ⟨bkx, hbn⟩ : ∃ b, w3.heap.size = b := ⟨_, rfl⟩
    rw [hbn] at hnew ⊢
    have Vx := Lib.hid hnew
    clear hnew hb hbn Jx
    have hb : Bel W4 W4.drew := (Below.refl _ _).drew
    replace Vl := Lib.hid (Vl.out.bel hb)
    replace Vx := Lib.hid (Vx.out.bel hb)
    replace KW := Lib.hid (KW.out.tr hb)
    clear hb
    refine start_ (n := 15) (S := fun w' => w'.cell? ⟨bkx, 0, none⟩ = some (.slice Ax x.base.slots.length ax) ∧ w'.cell? ⟨bkx, 1, none⟩ = some (.slice Bx x.base.vols.length bx) ∧ w'.cell? ⟨bkx, 2, none⟩ = some (.slice Cx x.ops.length cx) ∧ w'.cell? ⟨bkx, 3, none⟩ = some (.int .i64 x.safe) ∧ w'.cell? ⟨bkl, 0, none⟩ = some (.slice Al l.base.slots.length al) ∧ w'.cell? ⟨bkl, 1, none⟩ = some (.slice Bl l.base.vols.length bl) ∧ w'.cell? ⟨bkl, 2, none⟩ = some (.slice Cl l.ops.length cl) ∧ w'.cell? ⟨bkl, 3, none⟩ = some (.int .i64 l.safe)) (ds := []) #[false, false, false, false, false, false, false, false, false, false, false, false, false, false, false] (by kernel_rfl) rfl rfl ⟨Vx.out.c0, Vx.out.c1, Vx.out.c2, Vx.out.c3, Vl.out.c0, Vl.out.c1, Vl.out.c2, Vl.out.c3⟩ (fun hHeld => ?_)
    refine pure_ (i := 2) (N := some 20) (v := ?_) (a' := ?_) #[false, false, true, false, false, false, false, false, false, false, false, false, false, false, false] rfl rfl (by kernel_rfl) (fun _ _ _ h => h) (Or.inl ⟨by rfl, ?_⟩) ?_ ?_
    rotate_left
    · intro w'
      go_simp
      with_reducible rfl
    rotate_left
    · simp only [Act.put, List.setIfInBounds_toArray, List.set_cons_zero, List.set_cons_succ, i64_w, i32_w]
      rfl
    refine take_ (i := 0) (N := some 18) (v := ?_) (a' := ?_) #[true, false, true, false, false, false, false, false, false, false, false, false, false, false, false] rfl rfl (by kernel_rfl) (fun _ _ _ h => h) (Or.inl ⟨by rfl, ?_⟩) hHeld ?_ ?_
    rotate_left
    · rintro w' ⟨s0, s1, s2, s3, s4, s5, s6, s7⟩
      go_simp
      with_reducible rfl
    rotate_left
    · simp only [Act.put, List.setIfInBounds_toArray, List.set_cons_zero, List.set_cons_succ, i64_w, i32_w]
      rfl
    refine take_ (i := 1) (N := some 19) (v := ?_) (a' := ?_) #[true, true, true, false, false, false, false, false, false, false, false, false, false, false, false] rfl rfl (by kernel_rfl) (fun _ _ _ h => h) (Or.inl ⟨by rfl, ?_⟩) hHeld ?_ ?_
    rotate_left
    · rintro w' ⟨s0, s1, s2, s3, s4, s5, s6, s7⟩
      go_simp
      with_reducible rfl
    rotate_left
    · simp only [Act.put, List.setIfInBounds_toArray, List.set_cons_zero, List.set_cons_succ, i64_w, i32_w]
      rfl
    refine one_ (i := 3) (N := some 21) #[true, true, true, true, false, false, false, false, false, false, false, false, false, false, false] rfl rfl (by kernel_rfl) (by decide) (fun K hK => ?_)
    refine goes_ Try.func37 (by kernel_rfl) rfl #[.agg #[.slice Al l.base.slots.length al, .slice Bl l.base.vols.length bl, .slice Cl l.ops.length cl, .int .i64 l.safe], .int .i64 left] (by rfl) rfl rfl (by simp only [List.map_toArray, List.map_cons, List.map_nil]; rfl) ?_
    with_reducible refine (specLogFall_n (left := left) Vl.out.inn HSl.out HX.out).mono ?_
    rintro e w5 ⟨Ay5, By5, Cy5, ay5, by5, cy5, rfl, hin, hb⟩
    replace Vl := Lib.hid (Vl.out.bel hb)
    replace Vx := Lib.hid (Vx.out.bel hb)
    replace KW := Lib.hid (KW.out.tr hb)
    have Jy5 := Lib.hid hin
    clear hin hb
    refine ⟨_, rfl, ?_⟩
    refine hK.out _ _ ⟨Vx.out.c0, Vx.out.c1, Vx.out.c2, Vx.out.c3, Vl.out.c0, Vl.out.c1, Vl.out.c2, Vl.out.c3⟩ (fun hHeld => ?_)
    clear hK K
    refine norm_ (a' := ?_) ?_ ?_
    rotate_left
    · show Act.put _ (some 21) _ = _
      simp only [Act.put, List.setIfInBounds_toArray, List.set_cons_zero, List.set_cons_succ, i64_w, i32_w]
      rfl
    refine one_ (i := 4) (N := some 22) #[true, true, true, true, true, false, false, false, false, false, false, false, false, false, false] rfl rfl (by kernel_rfl) (by decide) (fun K hK => ?_)
    refine goes_ Try.func36 (by kernel_rfl) rfl #[.agg #[.slice Ax x.base.slots.length ax, .slice Bx x.base.vols.length bx, .slice Cx x.ops.length cx, .int .i64 x.safe], .agg #[.slice Ay5 x.base.slots.length ay5, .slice By5 x.base.vols.length by5, .slice Cy5 x.ops.length cy5, .int .i64 x.safe]] (by rfl) rfl rfl (by simp only [List.map_toArray, List.map_cons, List.map_nil]; rfl) ?_
    with_reducible refine (lgLog_c Vx.out.inn Jy5.out HSx.out).mono ?_
    rintro e w6 ⟨rfl, hb⟩
    replace Vl := Lib.hid (Vl.out.bel hb)
    replace Vx := Lib.hid (Vx.out.bel hb)
    replace Jy5 := Lib.hid (Jy5.out.bel hb)
    replace KW := Lib.hid (KW.out.tr hb)
    clear hb
    refine ⟨_, rfl, ?_⟩
    refine hK.out _ _ ⟨Vx.out.c0, Vx.out.c1, Vx.out.c2, Vx.out.c3, Vl.out.c0, Vl.out.c1, Vl.out.c2, Vl.out.c3⟩ (fun hHeld => ?_)
    clear hK K
    refine norm_ (a' := ?_) ?_ ?_
    rotate_left
    · show Act.put _ (some 22) _ = _
      simp only [Act.put, List.setIfInBounds_toArray, List.set_cons_zero, List.set_cons_succ, i64_w, i32_w]
      rfl
    refine pure_ (i := 5) (N := some 23) (v := ?_) (a' := ?_) #[true, true, true, true, true, true, false, false, false, false, false, false, false, false, false] rfl rfl (by kernel_rfl) (fun _ _ _ h => h) (Or.inl ⟨by rfl, ?_⟩) ?_ ?_
    rotate_left
    · intro w'
      go_simp
      with_reducible rfl
    rotate_left
    · simp only [Act.put, List.setIfInBounds_toArray, List.set_cons_zero, List.set_cons_succ, i64_w, i32_w]
      rfl
    refine pure_ (i := 6) (N := some 24) (v := ?_) (a' := ?_) #[true, true, true, true, true, true, true, false, false, false, false, false, false, false, false] rfl rfl (by kernel_rfl) (fun _ _ _ h => h) (Or.inl ⟨by rfl, ?_⟩) ?_ ?_
    rotate_left
    · intro w'
      go_simp
      with_reducible rfl
    rotate_left
    · simp only [Act.put, List.setIfInBounds_toArray, List.set_cons_zero, List.set_cons_succ, i64_w, i32_w]
      rfl
    refine take_ (i := 7) (N := some 25) (v := ?_) (a' := ?_) #[true, true, true, true, true, true, true, true, false, false, false, false, false, false, false] rfl rfl (by kernel_rfl) (fun _ _ _ h => h) (Or.inl ⟨by rfl, ?_⟩) hHeld ?_ ?_
    rotate_left
    · rintro w' ⟨s0, s1, s2, s3, s4, s5, s6, s7⟩
      go_simp
      with_reducible rfl
    rotate_left
    · simp only [Act.put, List.setIfInBounds_toArray, List.set_cons_zero, List.set_cons_succ, i64_w, i32_w]
      rfl
    refine one_ (i := 8) (N := some 26) #[true, true, true, true, true, true, true, true, true, false, false, false, false, false, false] rfl rfl (by kernel_rfl) (by decide) (fun K hK => ?_)
    refine goes_ Try.func26 (by kernel_rfl) rfl #[.agg #[.slice Al l.base.slots.length al, .slice Bl l.base.vols.length bl, .slice Cl l.ops.length cl, .int .i64 l.safe]] (by rfl) rfl rfl (by simp only [List.map_toArray, List.map_cons, List.map_nil]; rfl) ?_
    with_reducible refine (specLogOk_n Vl.out.inn HSl.out HOK.out).mono ?_
    rintro e w7 ⟨rfl, hb⟩
    replace Vl := Lib.hid (Vl.out.bel hb)
    replace Vx := Lib.hid (Vx.out.bel hb)
    replace Jy5 := Lib.hid (Jy5.out.bel hb)
    replace KW := Lib.hid (KW.out.tr hb)
    clear hb
    refine ⟨_, rfl, ?_⟩
    refine hK.out _ _ ⟨Vx.out.c0, Vx.out.c1, Vx.out.c2, Vx.out.c3, Vl.out.c0, Vl.out.c1, Vl.out.c2, Vl.out.c3⟩ (fun hHeld => ?_)
    clear hK K
    refine norm_ (a' := ?_) ?_ ?_
    rotate_left
    · show Act.put _ (some 26) _ = _
      simp only [Act.put, List.setIfInBounds_toArray, List.set_cons_zero, List.set_cons_succ, i64_w, i32_w]
      rfl
    refine pure_ (i := 9) (N := some 27) (v := ?_) (a' := ?_) #[true, true, true, true, true, true, true, true, true, true, false, false, false, false, false] rfl rfl (by kernel_rfl) (fun _ _ _ h => h) (Or.inl ⟨by rfl, ?_⟩) ?_ ?_
    rotate_left
    · intro w'
      go_simp
      with_reducible rfl
    rotate_left
    · simp only [Act.put, List.setIfInBounds_toArray, List.set_cons_zero, List.set_cons_succ, i64_w, i32_w]
      rfl
    refine pure_ (i := 10) (N := some 28) (v := ?_) (a' := ?_) #[true, true, true, true, true, true, true, true, true, true, true, false, false, false, false] rfl rfl (by kernel_rfl) (fun _ _ _ h => h) (Or.inl ⟨by rfl, ?_⟩) ?_ ?_
    rotate_left
    · intro w'
      go_simp
      with_reducible rfl
    rotate_left
    · simp only [Act.put, List.setIfInBounds_toArray, List.set_cons_zero, List.set_cons_succ, i64_w, i32_w]
      rfl
    refine pure_ (i := 11) (N := some 29) (v := ?_) (a' := ?_) #[true, true, true, true, true, true, true, true, true, true, true, true, false, false, false] rfl rfl (by kernel_rfl) (fun _ _ _ h => h) (Or.inl ⟨by rfl, ?_⟩) ?_ ?_
    rotate_left
    · intro w'
      go_simp
      with_reducible rfl
    rotate_left
    · simp only [Act.put, List.setIfInBounds_toArray, List.set_cons_zero, List.set_cons_succ, i64_w, i32_w]
      rfl
    refine pure_ (i := 12) (N := some 30) (v := ?_) (a' := ?_) #[true, true, true, true, true, true, true, true, true, true, true, true, true, false, false] rfl rfl (by kernel_rfl) (fun _ _ _ h => h) (Or.inl ⟨by rfl, ?_⟩) ?_ ?_
    rotate_left
    · intro w'
      go_simp
      with_reducible rfl
    rotate_left
    · simp only [Act.put, List.setIfInBounds_toArray, List.set_cons_zero, List.set_cons_succ, i64_w, i32_w]
      rfl
    refine pure_ (i := 13) (N := some 31) (v := ?_) (a' := ?_) #[true, true, true, true, true, true, true, true, true, true, true, true, true, true, false] rfl rfl (by kernel_rfl) (fun _ _ _ h => h) (Or.inl ⟨by rfl, ?_⟩) ?_ ?_
    rotate_left
    · intro w'
      go_simp
      with_reducible rfl
    rotate_left
    · simp only [Act.put, List.setIfInBounds_toArray, List.set_cons_zero, List.set_cons_succ, i64_w, i32_w]
      rfl
    refine pure_ (i := 14) (N := some 32) (v := ?_) (a' := ?_) #[true, true, true, true, true, true, true, true, true, true, true, true, true, true, true] rfl rfl (by kernel_rfl) (fun _ _ _ h => h) (Or.inl ⟨by rfl, ?_⟩) ?_ ?_
    rotate_left
    · intro w'
      go_simp
      with_reducible rfl
    rotate_left
    · simp only [Act.put, List.setIfInBounds_toArray, List.set_cons_zero, List.set_cons_succ, i64_w, i32_w]
      rfl
    refine done_ (by kernel_rfl) ?_
    have el0 : w7.cell? ⟨bkl, 0, none⟩ = some (.slice Al l.base.slots.length al) := Vl.out.c0
    have el1 : w7.cell? ⟨bkl, 1, none⟩ = some (.slice Bl l.base.vols.length bl) := Vl.out.c1
    have el2 : w7.cell? ⟨bkl, 2, none⟩ = some (.slice Cl l.ops.length cl) := Vl.out.c2
    have el3 : w7.cell? ⟨bkl, 3, none⟩ = some (.int .i64 l.safe) := Vl.out.c3
    have eyl := Vl.out.lt
    have ex0 : w7.cell? ⟨bkx, 0, none⟩ = some (.slice Ax x.base.slots.length ax) := Vx.out.c0
    have ex1 : w7.cell? ⟨bkx, 1, none⟩ = some (.slice Bx x.base.vols.length bx) := Vx.out.c1
    have ex2 : w7.cell? ⟨bkx, 2, none⟩ = some (.slice Cx x.ops.length cx) := Vx.out.c2
    have ex3 : w7.cell? ⟨bkx, 3, none⟩ = some (.int .i64 x.safe) := Vx.out.c3
    have eyx := Vx.out.lt
    go_wp2
    clear el0 el1 el2 el3 eyl
    clear ex0 ex1 ex2 ex3 eyx
    have hb : Bel w7 w7.drew := (Below.refl _ _).drew
    replace Vl := Lib.hid (Vl.out.bel hb)
    replace Vx := Lib.hid (Vx.out.bel hb)
    replace KW := Lib.hid (KW.out.tr hb)
    clear hb
    refine start_ (n := 6) (S := fun w' => w'.cell? ⟨bkx, 0, none⟩ = some (.slice Ax x.base.slots.length ax) ∧ w'.cell? ⟨bkx, 1, none⟩ = some (.slice Bx x.base.vols.length bx) ∧ w'.cell? ⟨bkx, 2, none⟩ = some (.slice Cx x.ops.length cx) ∧ w'.cell? ⟨bkx, 3, none⟩ = some (.int .i64 x.safe) ∧ w'.cell? ⟨bkl, 0, none⟩ = some (.slice Al l.base.slots.length al) ∧ w'.cell? ⟨bkl, 1, none⟩ = some (.slice Bl l.base.vols.length bl) ∧ w'.cell? ⟨bkl, 2, none⟩ = some (.slice Cl l.ops.length cl) ∧ w'.cell? ⟨bkl, 3, none⟩ = some (.int .i64 l.safe)) (ds := []) #[false, false, false, false, false, false] (by kernel_rfl) rfl rfl ⟨Vx.out.c0, Vx.out.c1, Vx.out.c2, Vx.out.c3, Vl.out.c0, Vl.out.c1, Vl.out.c2, Vl.out.c3⟩ (fun hHeld => ?_)
    refine pure_ (i := 2) (N := some 35) (v := ?_) (a' := ?_) #[false, false, true, false, false, false] rfl rfl (by kernel_rfl) (fun _ _ _ h => h) (Or.inl ⟨by rfl, ?_⟩) ?_ ?_
    rotate_left
    · intro w'
      go_simp
      with_reducible rfl
    rotate_left
    · simp only [Act.put, List.setIfInBounds_toArray, List.set_cons_zero, List.set_cons_succ, i64_w, i32_w]
      rfl
    refine take_ (i := 0) (N := some 33) (v := ?_) (a' := ?_) #[true, false, true, false, false, false] rfl rfl (by kernel_rfl) (fun _ _ _ h => h) (Or.inl ⟨by rfl, ?_⟩) hHeld ?_ ?_
    rotate_left
    · rintro w' ⟨s0, s1, s2, s3, s4, s5, s6, s7⟩
      go_simp
      with_reducible rfl
    rotate_left
    · simp only [Act.put, List.setIfInBounds_toArray, List.set_cons_zero, List.set_cons_succ, i64_w, i32_w]
      rfl
    refine take_ (i := 1) (N := some 34) (v := ?_) (a' := ?_) #[true, true, true, false, false, false] rfl rfl (by kernel_rfl) (fun _ _ _ h => h) (Or.inl ⟨by rfl, ?_⟩) hHeld ?_ ?_
    rotate_left
    · rintro w' ⟨s0, s1, s2, s3, s4, s5, s6, s7⟩
      go_simp
      with_reducible rfl
    rotate_left
    · simp only [Act.put, List.setIfInBounds_toArray, List.set_cons_zero, List.set_cons_succ, i64_w, i32_w]
      rfl
    refine one_ (i := 3) (N := some 36) #[true, true, true, true, false, false] rfl rfl (by kernel_rfl) (by decide) (fun K hK => ?_)
    refine goes_ Try.func37 (by kernel_rfl) rfl #[.agg #[.slice Al l.base.slots.length al, .slice Bl l.base.vols.length bl, .slice Cl l.ops.length cl, .int .i64 l.safe], .int .i64 left] (by rfl) rfl rfl (by simp only [List.map_toArray, List.map_cons, List.map_nil]; rfl) ?_
    with_reducible refine (specLogFall_n (left := left) Vl.out.inn HSl.out HX.out).mono ?_
    rintro e w8 ⟨Ay6, By6, Cy6, ay6, by6, cy6, rfl, hin, hb⟩
    replace Vl := Lib.hid (Vl.out.bel hb)
    replace Vx := Lib.hid (Vx.out.bel hb)
    replace KW := Lib.hid (KW.out.tr hb)
    have Jy6 := Lib.hid hin
    clear hin hb
    refine ⟨_, rfl, ?_⟩
    refine hK.out _ _ ⟨Vx.out.c0, Vx.out.c1, Vx.out.c2, Vx.out.c3, Vl.out.c0, Vl.out.c1, Vl.out.c2, Vl.out.c3⟩ (fun hHeld => ?_)
    clear hK K
    refine norm_ (a' := ?_) ?_ ?_
    rotate_left
    · show Act.put _ (some 36) _ = _
      simp only [Act.put, List.setIfInBounds_toArray, List.set_cons_zero, List.set_cons_succ, i64_w, i32_w]
      rfl
    refine one_ (i := 4) (N := some 37) #[true, true, true, true, true, false] rfl rfl (by kernel_rfl) (by decide) (fun K hK => ?_)
    refine goes_ Try.func36 (by kernel_rfl) rfl #[.agg #[.slice Ax x.base.slots.length ax, .slice Bx x.base.vols.length bx, .slice Cx x.ops.length cx, .int .i64 x.safe], .agg #[.slice Ay6 x.base.slots.length ay6, .slice By6 x.base.vols.length by6, .slice Cy6 x.ops.length cy6, .int .i64 x.safe]] (by rfl) rfl rfl (by simp only [List.map_toArray, List.map_cons, List.map_nil]; rfl) ?_
    with_reducible refine (lgLog_c Vx.out.inn Jy6.out HSx.out).mono ?_
    rintro e w9 ⟨rfl, hb⟩
    replace Vl := Lib.hid (Vl.out.bel hb)
    replace Vx := Lib.hid (Vx.out.bel hb)
    replace Jy6 := Lib.hid (Jy6.out.bel hb)
    replace KW := Lib.hid (KW.out.tr hb)
    clear hb
    refine ⟨_, rfl, ?_⟩
    refine hK.out _ _ ⟨Vx.out.c0, Vx.out.c1, Vx.out.c2, Vx.out.c3, Vl.out.c0, Vl.out.c1, Vl.out.c2, Vl.out.c3⟩ (fun hHeld => ?_)
    clear hK K
    refine norm_ (a' := ?_) ?_ ?_
    rotate_left
    · show Act.put _ (some 37) _ = _
      simp only [Act.put, List.setIfInBounds_toArray, List.set_cons_zero, List.set_cons_succ, i64_w, i32_w]
      rfl
    refine pure_ (i := 5) (N := some 2) (v := ?_) (a' := ?_) #[true, true, true, true, true, true] rfl rfl (by kernel_rfl) (fun _ _ _ h => h) (Or.inl ⟨by rfl, ?_⟩) ?_ ?_
    rotate_left
    · intro w'
      go_simp
      with_reducible rfl
    rotate_left
    · simp only [Act.put, List.setIfInBounds_toArray, List.set_cons_zero, List.set_cons_succ, i64_w, i32_w]
      rfl
    refine done_ (by kernel_rfl) ?_
    have el0 : w9.cell? ⟨bkl, 0, none⟩ = some (.slice Al l.base.slots.length al) := Vl.out.c0
    have el1 : w9.cell? ⟨bkl, 1, none⟩ = some (.slice Bl l.base.vols.length bl) := Vl.out.c1
    have el2 : w9.cell? ⟨bkl, 2, none⟩ = some (.slice Cl l.ops.length cl) := Vl.out.c2
    have el3 : w9.cell? ⟨bkl, 3, none⟩ = some (.int .i64 l.safe) := Vl.out.c3
    have eyl := Vl.out.lt
    have ex0 : w9.cell? ⟨bkx, 0, none⟩ = some (.slice Ax x.base.slots.length ax) := Vx.out.c0
    have ex1 : w9.cell? ⟨bkx, 1, none⟩ = some (.slice Bx x.base.vols.length bx) := Vx.out.c1
    have ex2 : w9.cell? ⟨bkx, 2, none⟩ = some (.slice Cx x.ops.length cx) := Vx.out.c2
    have ex3 : w9.cell? ⟨bkx, 3, none⟩ = some (.int .i64 x.safe) := Vx.out.c3
    have eyx := Vx.out.lt
    go_wp2
    all_goals
      go_ret
      exact ⟨rfl, KW.out⟩
  obtain ⟨tk, r, hx, hlx, htk, hkl, hsk, hmx⟩ := HLP.out.fallX (left := left) (by omega)
  have HX := Lib.hid hx
  have HLX := Lib.hid hlx
  have HTK := Lib.hid htk
  have HMX := Lib.hid (And.intro hsk hmx)
  have HSx : Hid (SmallL ⟨l.base, tk, l.safe⟩) := Lib.hid (hx ▸ fallF_small HSl.out)
  clear hx hlx htk hsk hmx
  go_wp2_with fail
  have hnew := LVar.new Jl.out
  have hb : Bel w1 (w1.alloc (.cells #[.slice Al l.base.slots.length al, .slice Bl l.base.vols.length bl, .slice Cl l.ops.length cl, .int .i64 l.safe] 51)) := bel_alloc (Below.refl _ _) _
  generalize w1.alloc (.cells #[.slice Al l.base.slots.length al, .slice Bl l.base.vols.length bl, .slice Cl l.ops.length cl, .int .i64 l.safe] 51) = W2 at hnew hb ⊢
  replace Jl := Lib.hid (Jl.out.bel hb)
  replace KW := Lib.hid (KW.out.tr hb)
  obtain ⟨bkl, hbn⟩ : ∃ b, w1.heap.size = b := ⟨_, rfl⟩
  rw [hbn] at hnew ⊢
  have Vl := Lib.hid hnew
  clear hnew hb hbn Jl
  refine (implLogFall_n (left := left) Vl.out.inn HSl.out HX.out).mono ?_
  rintro e w3 ⟨Ax, Bx, Cx, ax, bx, cx, rfl, hin, hb⟩
  replace Vl := Lib.hid (Vl.out.bel hb)
  replace KW := Lib.hid (KW.out.tr hb)
  have Jx := Lib.hid hin
  clear hin hb
  have el0 : w3.cell? ⟨bkl, 0, none⟩ = some (.slice Al l.base.slots.length al) := Vl.out.c0
  have el1 : w3.cell? ⟨bkl, 1, none⟩ = some (.slice Bl l.base.vols.length bl) := Vl.out.c1
  have el2 : w3.cell? ⟨bkl, 2, none⟩ = some (.slice Cl l.ops.length cl) := Vl.out.c2
  have el3 : w3.cell? ⟨bkl, 3, none⟩ = some (.int .i64 l.safe) := Vl.out.c3
  have eyl := Vl.out.lt
  go_wp2
  clear el0 el1 el2 el3 eyl
  have hnew := LVar.new Jx.out
  have hb : Bel w3 (w3.alloc (.cells #[.slice Ax l.base.slots.length ax, .slice Bx l.base.vols.length bx, .slice Cx tk.length cx, .int .i64 l.safe] 51)) := bel_alloc (Below.refl _ _) _
  generalize w3.alloc (.cells #[.slice Ax l.base.slots.length ax, .slice Bx l.base.vols.length bx, .slice Cx tk.length cx, .int .i64 l.safe] 51) = W4 at hnew hb ⊢
  replace Vl := Lib.hid (Vl.out.bel hb)
  replace Jx := Lib.hid (Jx.out.bel hb)
  replace KW := Lib.hid (KW.out.tr hb)
  obtain ⟨bkx, hbn⟩ : ∃ b, w3.heap.size = b := ⟨_, rfl⟩
  rw [hbn] at hnew ⊢
  have Vx := Lib.hid hnew
  clear hnew hb hbn Jx
  have hb : Bel W4 W4.drew := (Below.refl _ _).drew
  replace Vl := Lib.hid (Vl.out.bel hb)
  replace Vx := Lib.hid (Vx.out.bel hb)
  replace KW := Lib.hid (KW.out.tr hb)
  clear hb
  refine start_ (n := 15) (S := fun w' => w'.cell? ⟨bkx, 0, none⟩ = some (.slice Ax l.base.slots.length ax) ∧ w'.cell? ⟨bkx, 1, none⟩ = some (.slice Bx l.base.vols.length bx) ∧ w'.cell? ⟨bkx, 2, none⟩ = some (.slice Cx tk.length cx) ∧ w'.cell? ⟨bkx, 3, none⟩ = some (.int .i64 l.safe) ∧ w'.cell? ⟨bkl, 0, none⟩ = some (.slice Al l.base.slots.length al) ∧ w'.cell? ⟨bkl, 1, none⟩ = some (.slice Bl l.base.vols.length bl) ∧ w'.cell? ⟨bkl, 2, none⟩ = some (.slice Cl l.ops.length cl) ∧ w'.cell? ⟨bkl, 3, none⟩ = some (.int .i64 l.safe)) (ds := []) #[false, false, false, false, false, false, false, false, false, false, false, false, false, false, false] (by kernel_rfl) rfl rfl ⟨Vx.out.c0, Vx.out.c1, Vx.out.c2, Vx.out.c3, Vl.out.c0, Vl.out.c1, Vl.out.c2, Vl.out.c3⟩ (fun hHeld => ?_)
  refine pure_ (i := 2) (N := some 20) (v := ?_) (a' := ?_) #[false, false, true, false, false, false, false, false, false, false, false, false, false, false, false] rfl rfl (by kernel_rfl) (fun _ _ _ h => h) (Or.inl ⟨by rfl, ?_⟩) ?_ ?_
  rotate_left
  · intro w'
    go_simp
    with_reducible rfl
  rotate_left
  · simp only [Act.put, List.setIfInBounds_toArray, List.set_cons_zero, List.set_cons_succ, i64_w, i32_w]
    rfl
  refine take_ (i := 0) (N := some 18) (v := ?_) (a' := ?_) #[true, false, true, false, false, false, false, false, false, false, false, false, false, false, false] rfl rfl (by kernel_rfl) (fun _ _ _ h => h) (Or.inl ⟨by rfl, ?_⟩) hHeld ?_ ?_
  rotate_left
  · rintro w' ⟨s0, s1, s2, s3, s4, s5, s6, s7⟩
    go_simp
    with_reducible rfl
  rotate_left
  · simp only [Act.put, List.setIfInBounds_toArray, List.set_cons_zero, List.set_cons_succ, i64_w, i32_w]
    rfl
  refine take_ (i := 1) (N := some 19) (v := ?_) (a' := ?_) #[true, true, true, false, false, false, false, false, false, false, false, false, false, false, false] rfl rfl (by kernel_rfl) (fun _ _ _ h => h) (Or.inl ⟨by rfl, ?_⟩) hHeld ?_ ?_
  rotate_left
  · rintro w' ⟨s0, s1, s2, s3, s4, s5, s6, s7⟩
    go_simp
    with_reducible rfl
  rotate_left
  · simp only [Act.put, List.setIfInBounds_toArray, List.set_cons_zero, List.set_cons_succ, i64_w, i32_w]
    rfl
  refine one_ (i := 3) (N := some 21) #[true, true, true, true, false, false, false, false, false, false, false, false, false, false, false] rfl rfl (by kernel_rfl) (by decide) (fun K hK => ?_)
  refine goes_ Try.func37 (by kernel_rfl) rfl #[.agg #[.slice Al l.base.slots.length al, .slice Bl l.base.vols.length bl, .slice Cl l.ops.length cl, .int .i64 l.safe], .int .i64 left] (by rfl) rfl rfl (by simp only [List.map_toArray, List.map_cons, List.map_nil]; rfl) ?_
  with_reducible refine (specLogFall_n (left := left) Vl.out.inn HSl.out HX.out).mono ?_
  rintro e w5 ⟨Ay5, By5, Cy5, ay5, by5, cy5, rfl, hin, hb⟩
  replace Vl := Lib.hid (Vl.out.bel hb)
  replace Vx := Lib.hid (Vx.out.bel hb)
  replace KW := Lib.hid (KW.out.tr hb)
  have Jy5 := Lib.hid hin
  clear hin hb
  refine ⟨_, rfl, ?_⟩
  refine hK.out _ _ ⟨Vx.out.c0, Vx.out.c1, Vx.out.c2, Vx.out.c3, Vl.out.c0, Vl.out.c1, Vl.out.c2, Vl.out.c3⟩ (fun hHeld => ?_)
  clear hK K
  refine norm_ (a' := ?_) ?_ ?_
  rotate_left
  · show Act.put _ (some 21) _ = _
    simp only [Act.put, List.setIfInBounds_toArray, List.set_cons_zero, List.set_cons_succ, i64_w, i32_w]
    rfl
  refine one_ (i := 4) (N := some 22) #[true, true, true, true, true, false, false, false, false, false, false, false, false, false, false] rfl rfl (by kernel_rfl) (by decide) (fun K hK => ?_)
  refine goes_ Try.func36 (by kernel_rfl) rfl #[.agg #[.slice Ax l.base.slots.length ax, .slice Bx l.base.vols.length bx, .slice Cx tk.length cx, .int .i64 l.safe], .agg #[.slice Ay5 l.base.slots.length ay5, .slice By5 l.base.vols.length by5, .slice Cy5 tk.length cy5, .int .i64 l.safe]] (by rfl) rfl rfl (by simp only [List.map_toArray, List.map_cons, List.map_nil]; rfl) ?_
  with_reducible refine (lgLog_c (l := ⟨l.base, tk, l.safe⟩) Vx.out.inn Jy5.out HSx.out).mono ?_
  rintro e w6 ⟨rfl, hb⟩
  replace Vl := Lib.hid (Vl.out.bel hb)
  replace Vx := Lib.hid (Vx.out.bel hb)
  replace Jy5 := Lib.hid (Jy5.out.bel hb)
  replace KW := Lib.hid (KW.out.tr hb)
  clear hb
  refine ⟨_, rfl, ?_⟩
  refine hK.out _ _ ⟨Vx.out.c0, Vx.out.c1, Vx.out.c2, Vx.out.c3, Vl.out.c0, Vl.out.c1, Vl.out.c2, Vl.out.c3⟩ (fun hHeld => ?_)
  clear hK K
  refine norm_ (a' := ?_) ?_ ?_
  rotate_left
  · show Act.put _ (some 22) _ = _
    simp only [Act.put, List.setIfInBounds_toArray, List.set_cons_zero, List.set_cons_succ, i64_w, i32_w]
    rfl
  refine pure_ (i := 5) (N := some 23) (v := ?_) (a' := ?_) #[true, true, true, true, true, true, false, false, false, false, false, false, false, false, false] rfl rfl (by kernel_rfl) (fun _ _ _ h => h) (Or.inl ⟨by rfl, ?_⟩) ?_ ?_
  rotate_left
  · intro w'
    go_simp
    with_reducible rfl
  rotate_left
  · simp only [Act.put, List.setIfInBounds_toArray, List.set_cons_zero, List.set_cons_succ, i64_w, i32_w]
    rfl
  refine pure_ (i := 6) (N := some 24) (v := ?_) (a' := ?_) #[true, true, true, true, true, true, true, false, false, false, false, false, false, false, false] rfl rfl (by kernel_rfl) (fun _ _ _ h => h) (Or.inl ⟨by rfl, ?_⟩) ?_ ?_
  rotate_left
  · intro w'
    go_simp
    with_reducible rfl
  rotate_left
  · simp only [Act.put, List.setIfInBounds_toArray, List.set_cons_zero, List.set_cons_succ, i64_w, i32_w]
    rfl
  refine take_ (i := 7) (N := some 25) (v := ?_) (a' := ?_) #[true, true, true, true, true, true, true, true, false, false, false, false, false, false, false] rfl rfl (by kernel_rfl) (fun _ _ _ h => h) (Or.inl ⟨by rfl, ?_⟩) hHeld ?_ ?_
  rotate_left
  · rintro w' ⟨s0, s1, s2, s3, s4, s5, s6, s7⟩
    go_simp
    with_reducible rfl
  rotate_left
  · simp only [Act.put, List.setIfInBounds_toArray, List.set_cons_zero, List.set_cons_succ, i64_w, i32_w]
    rfl
  refine one_ (i := 8) (N := some 26) #[true, true, true, true, true, true, true, true, true, false, false, false, false, false, false] rfl rfl (by kernel_rfl) (by decide) (fun K hK => ?_)
  refine goes_ Try.func26 (by kernel_rfl) rfl #[.agg #[.slice Al l.base.slots.length al, .slice Bl l.base.vols.length bl, .slice Cl l.ops.length cl, .int .i64 l.safe]] (by rfl) rfl rfl (by simp only [List.map_toArray, List.map_cons, List.map_nil]; rfl) ?_
  with_reducible refine (specLogOk_n Vl.out.inn HSl.out HOK.out).mono ?_
  rintro e w7 ⟨rfl, hb⟩
  replace Vl := Lib.hid (Vl.out.bel hb)
  replace Vx := Lib.hid (Vx.out.bel hb)
  replace Jy5 := Lib.hid (Jy5.out.bel hb)
  replace KW := Lib.hid (KW.out.tr hb)
  clear hb
  refine ⟨_, rfl, ?_⟩
  refine hK.out _ _ ⟨Vx.out.c0, Vx.out.c1, Vx.out.c2, Vx.out.c3, Vl.out.c0, Vl.out.c1, Vl.out.c2, Vl.out.c3⟩ (fun hHeld => ?_)
  clear hK K
  refine norm_ (a' := ?_) ?_ ?_
  rotate_left
  · show Act.put _ (some 26) _ = _
    simp only [Act.put, List.setIfInBounds_toArray, List.set_cons_zero, List.set_cons_succ, i64_w, i32_w]
    rfl
  refine pure_ (i := 9) (N := some 27) (v := ?_) (a' := ?_) #[true, true, true, true, true, true, true, true, true, true, false, false, false, false, false] rfl rfl (by kernel_rfl) (fun _ _ _ h => h) (Or.inl ⟨by rfl, ?_⟩) ?_ ?_
  rotate_left
  · intro w'
    go_simp
    with_reducible rfl
  rotate_left
  · simp only [Act.put, List.setIfInBounds_toArray, List.set_cons_zero, List.set_cons_succ, i64_w, i32_w]
    rfl
  refine pure_ (i := 10) (N := some 28) (v := ?_) (a' := ?_) #[true, true, true, true, true, true, true, true, true, true, true, false, false, false, false] rfl rfl (by kernel_rfl) (fun _ _ _ h => h) (Or.inl ⟨by rfl, ?_⟩) ?_ ?_
  rotate_left
  · intro w'
    go_simp
    with_reducible rfl
  rotate_left
  · simp only [Act.put, List.setIfInBounds_toArray, List.set_cons_zero, List.set_cons_succ, i64_w, i32_w]
    rfl
  refine pure_ (i := 11) (N := some 29) (v := ?_) (a' := ?_) #[true, true, true, true, true, true, true, true, true, true, true, true, false, false, false] rfl rfl (by kernel_rfl) (fun _ _ _ h => h) (Or.inl ⟨by rfl, ?_⟩) ?_ ?_
  rotate_left
  · intro w'
    go_simp
    with_reducible rfl
  rotate_left
  · simp only [Act.put, List.setIfInBounds_toArray, List.set_cons_zero, List.set_cons_succ, i64_w, i32_w]
    rfl
  refine pure_ (i := 12) (N := some 30) (v := ?_) (a' := ?_) #[true, true, true, true, true, true, true, true, true, true, true, true, true, false, false] rfl rfl (by kernel_rfl) (fun _ _ _ h => h) (Or.inl ⟨by rfl, ?_⟩) ?_ ?_
  rotate_left
  · intro w'
    go_simp
    with_reducible rfl
  rotate_left
  · simp only [Act.put, List.setIfInBounds_toArray, List.set_cons_zero, List.set_cons_succ, i64_w, i32_w]
    rfl
  refine pure_ (i := 13) (N := some 31) (v := ?_) (a' := ?_) #[true, true, true, true, true, true, true, true, true, true, true, true, true, true, false] rfl rfl (by kernel_rfl) (fun _ _ _ h => h) (Or.inl ⟨by rfl, ?_⟩) ?_ ?_
  rotate_left
  · intro w'
    go_simp
    with_reducible rfl
  rotate_left
  · simp only [Act.put, List.setIfInBounds_toArray, List.set_cons_zero, List.set_cons_succ, i64_w, i32_w]
    rfl
  refine pure_ (i := 14) (N := some 32) (v := ?_) (a' := ?_) #[true, true, true, true, true, true, true, true, true, true, true, true, true, true, true] rfl rfl (by kernel_rfl) (fun _ _ _ h => h) (Or.inl ⟨by rfl, ?_⟩) ?_ ?_
  rotate_left
  · intro w'
    go_simp
    with_reducible rfl
  rotate_left
  · simp only [Act.put, List.setIfInBounds_toArray, List.set_cons_zero, List.set_cons_succ, i64_w, i32_w]
    rfl
  refine done_ (by kernel_rfl) ?_
  have el0 : w7.cell? ⟨bkl, 0, none⟩ = some (.slice Al l.base.slots.length al) := Vl.out.c0
  have el1 : w7.cell? ⟨bkl, 1, none⟩ = some (.slice Bl l.base.vols.length bl) := Vl.out.c1
  have el2 : w7.cell? ⟨bkl, 2, none⟩ = some (.slice Cl l.ops.length cl) := Vl.out.c2
  have el3 : w7.cell? ⟨bkl, 3, none⟩ = some (.int .i64 l.safe) := Vl.out.c3
  have eyl := Vl.out.lt
  have ex0 : w7.cell? ⟨bkx, 0, none⟩ = some (.slice Ax l.base.slots.length ax) := Vx.out.c0
  have ex1 : w7.cell? ⟨bkx, 1, none⟩ = some (.slice Bx l.base.vols.length bx) := Vx.out.c1
  have ex2 : w7.cell? ⟨bkx, 2, none⟩ = some (.slice Cx tk.length cx) := Vx.out.c2
  have ex3 : w7.cell? ⟨bkx, 3, none⟩ = some (.int .i64 l.safe) := Vx.out.c3
  have eyx := Vx.out.lt
  go_wp2
  clear el0 el1 el2 el3 eyl
  clear ex0 ex1 ex2 ex3 eyx
  have hsk := HMX.out.1
  have hcl : tk.length ≤ cl := Nat.le_trans hkl Vl.out.inn.oc
  have hgd : decide (l.safe ≤ (tk.length : Int)) = true := by simpa using hsk
  have hme : ((tk.length : Int) == (if l.safe < (if (l.ops.length : Int) < left then (l.ops.length : Int) else left) then (if (l.ops.length : Int) < left then (l.ops.length : Int) else left) else l.safe)) = true := by rw [max_min_if, beq_iff_eq]; exact HMX.out.2
  have gq0 := gb_cell (show w7.cell? ⟨bkx, 0, none⟩ = some (.slice Ax l.base.slots.length ax) from Vx.out.c0)
  have gq1 := gb_cell (show w7.cell? ⟨bkx, 1, none⟩ = some (.slice Bx l.base.vols.length bx) from Vx.out.c1)
  have gq2 := gb_cell (show w7.cell? ⟨bkx, 2, none⟩ = some (.slice Cx tk.length cx) from Vx.out.c2)
  have gq3 := gb_cell (show w7.cell? ⟨bkx, 3, none⟩ = some (.int .i64 l.safe) from Vx.out.c3)
  have gq4 := gb_cell (show w7.cell? ⟨bkl, 0, none⟩ = some (.slice Al l.base.slots.length al) from Vl.out.c0)
  have gq5 := gb_cell (show w7.cell? ⟨bkl, 1, none⟩ = some (.slice Bl l.base.vols.length bl) from Vl.out.c1)
  have gq6 := gb_cell (show w7.cell? ⟨bkl, 2, none⟩ = some (.slice Cl l.ops.length cl) from Vl.out.c2)
  have gq7 := gb_cell (show w7.cell? ⟨bkl, 3, none⟩ = some (.int .i64 l.safe) from Vl.out.c3)
  refine wp_region_gb (by kernel_rfl) (by kernel_rfl) ?_
  repeat (first | go_big_quiet_skip | (go_big_quiet_want; go_big_quiet_op; first | go_big_quiet_on | (apply Exists.intro; refine ⟨fun _ => ?_, ?_⟩; (first | (go_at_call 25; exact gb_call (implLogOk_n (l := ⟨l.base, tk, l.safe⟩) (Vx.out.bel (GB.h _)).inn HSx.out HLX.out.ok)) | (go_at_call 38; exact gb_call (lgOps_c (xs := tk) (Vx.out.bel (GB.h _)).inn.o ((Vl.out.bel (GB.h _)).inn.cutTo hkl HTK.out 0).o HSx.out.ops.len))); go_big_quiet_on)))
  refine wpQuiet_nil ?_
  rintro w8 ⟨⟨_, hb⟩, rfl⟩
  replace hb : Bel w7 w8 := hb
  clear gq0 gq1 gq2 gq3 gq4 gq5 gq6 gq7
  replace Vl := Lib.hid (Vl.out.bel hb)
  replace Vx := Lib.hid (Vx.out.bel hb)
  replace KW := Lib.hid (KW.out.tr hb)
  clear hb
  have el0 : w8.cell? ⟨bkl, 0, none⟩ = some (.slice Al l.base.slots.length al) := Vl.out.c0
  have el1 : w8.cell? ⟨bkl, 1, none⟩ = some (.slice Bl l.base.vols.length bl) := Vl.out.c1
  have el2 : w8.cell? ⟨bkl, 2, none⟩ = some (.slice Cl l.ops.length cl) := Vl.out.c2
  have el3 : w8.cell? ⟨bkl, 3, none⟩ = some (.int .i64 l.safe) := Vl.out.c3
  have eyl := Vl.out.lt
  have ex0 : w8.cell? ⟨bkx, 0, none⟩ = some (.slice Ax l.base.slots.length ax) := Vx.out.c0
  have ex1 : w8.cell? ⟨bkx, 1, none⟩ = some (.slice Bx l.base.vols.length bx) := Vx.out.c1
  have ex2 : w8.cell? ⟨bkx, 2, none⟩ = some (.slice Cx tk.length cx) := Vx.out.c2
  have ex3 : w8.cell? ⟨bkx, 3, none⟩ = some (.int .i64 l.safe) := Vx.out.c3
  have eyx := Vx.out.lt
  go_wp2
  all_goals
    go_ret
    exact ⟨rfl, KW.out⟩
end Go.Proofs.Ytccllgpaafgjaaa

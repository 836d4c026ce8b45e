/- Contracts of the program's and the reference's functions, and the plain laws behind them: part 12 of 12. -/
import Derived.Test.YtccllgpaafgjaaaGreatZ1
import Derived.Test.YtccllgpaafgjaaaGreatZ2
import Derived.Test.YtccllgpaafgjaaaGreatZ3
import Derived.Test.YtccllgpaafgjaaaGreatZ4
import Derived.Test.YtccllgpaafgjaaaGreatZ5
import Derived.Test.YtccllgpaafgjaaaGreatZ6
import Derived.Test.YtccllgpaafgjaaaGreatZ7
import Derived.Test.YtccllgpaafgjaaaGreatZ8
import Derived.Test.YtccllgpaafgjaaaGreatZ9
import Derived.Test.YtccllgpaafgjaaaGreatZ10
import Derived.Test.YtccllgpaafgjaaaGreatZ11
import Derived.Test.YtccllgpaafgjaaaGreatRows
import Derived.JoinedOf
import Derived.KernelRfl
set_option linter.unusedVariables false
set_option linter.unusedSimpArgs false

namespace Go.Proofs.YtccllgpaafgjaaaGreat
open Go.RowKit Go.Proofs.YtccllgpaafgjaaaGreatW.PrintWords Go.Proofs.YtccllgpaafgjaaaGreatW.PrintLast
theorem OwnT.farB {w : World} {base : Nat} {v : Value} {os : List Op} (h : OwnT w base v os) {b : Nat} (hb : b < base) (i : Nat) (u : Value) : OwnT (w.setCell ⟨b, i, none⟩ u) base v os := by
 have hg : w.grownBy (w.setCell ⟨b, i, none⟩ u) (some b) := ⟨rfl, rfl, rfl, by simp, fun k hk hne => by
  have : b ≠ k := fun e => hne (by rw [e])
  simp [World.setCell, Array.getElem?_modify, this]⟩
 refine h.kept hg fun k hk e => ?_
 injection e with e
 subst e
 have := (h.base _ hk).1
 omega
structure LgA (w : World) (base : Nat) (W : World) (rb k : Nat) (v0 v1 v2 : Value) (l : Log) (bvs : List Value) (lb : Nat) (u0 u1 : Value) (q : Pool) (bq : List Value) (pb : Nat) : Prop where
  st : LgB w base W rb k v0 v1 v2 l bvs lb
  op : Blk W (w.heap.size + 1) #[.int .i64 0, .string ⟨#[]⟩, .string ⟨#[]⟩, .int .i64 0, .string ⟨#[]⟩] 27
  l5 : w.heap.size + 1 < rb
  pv : Blk W pb #[u0, u1] 42
  po : OwnP W base u0 u1 q bq
  l6 : base ≤ pb
section
variable {w W W' : World} {rb k k' lb pb base : Nat} {v0 v1 v2 u0 u1 : Value} {l : Log} {q : Pool} {bvs bq : List Value}
theorem LgA.step (h : LgA w base W rb k v0 v1 v2 l bvs lb u0 u1 q bq pb) (hR : Rd W' rb k') (hg : W.grownBy W' (some rb)) : LgA w base W' rb k' v0 v1 v2 l bvs lb u0 u1 q bq pb :=
 ⟨h.st.step hR hg, h.op.grown hg (fun e => by injection e with e; have := h.l5; omega), h.l5, h.pv.grown hg (fun e => by injection e with e; have := h.st.l2; have := h.l6; omega), h.po.rd h.st.rd hg, h.l6⟩
theorem LgA.bel (h : LgA w base W rb k v0 v1 v2 l bvs lb u0 u1 q bq pb) (hb : Bel W W') : LgA w base W' rb k v0 v1 v2 l bvs lb u0 u1 q bq pb :=
 ⟨h.st.bel hb, h.op.bel hb, h.l5, h.pv.bel hb, h.po.bel hb, h.l6⟩
end
def DrewLA (n : Nat) (w : World) (e : Ending) (w' : World) : Prop := ∃ (A B C : Option Addr) (a b c : Nat) (l : Log) (o : Op), e = .returned (.tuple #[.agg #[.slice A l.base.slots.length a, .slice B l.base.vols.length b, .slice C l.ops.length c, .int .i64 l.safe], .agg #[.int .i64 o.kind, .string o.name, .string o.dest, .int .i64 o.n, .string o.text]]) ∧ DrawnL l n ∧ SmallO o ∧ LogIn w' A B C a b c l ∧ Bel w w'
set_option maxHeartbeats 32000000 in
set_option maxRecDepth 10000 in
theorem drawLogAdd_c {w : World} {A : Option Addr} {n c : Nat} {bs : List Int} (h : CodeIn w A n c bs) (hn : n ≤ 9223372036854775807) :
  Calls Tryz.prog 61 #[.slice A n c] w (DrewLA 21 w) := by
 have H := Lib.hid h
 clear h
 go_enter Tryz.func61, Tryz.ntmps61
 go_wp2_with fail
 have hr0 : Blk ((w.alloc (.cells #[.slice none 0 0, .slice none 0 0, .slice none 0 0, .int .i64 0] 44)).alloc (.cells #[.int .i64 0, .string ⟨#[]⟩, .string ⟨#[]⟩, .int .i64 0, .string ⟨#[]⟩] 27)) w.heap.size #[.slice none 0 0, .slice none 0 0, .slice none 0 0, .int .i64 0] 44 := (Blk.new _ _ _).alloc _
 have hr1 : Blk ((w.alloc (.cells #[.slice none 0 0, .slice none 0 0, .slice none 0 0, .int .i64 0] 44)).alloc (.cells #[.int .i64 0, .string ⟨#[]⟩, .string ⟨#[]⟩, .int .i64 0, .string ⟨#[]⟩] 27)) (w.heap.size + 1) #[.int .i64 0, .string ⟨#[]⟩, .string ⟨#[]⟩, .int .i64 0, .string ⟨#[]⟩] 27 := Blk.nw2 _ _ _ _
 have hW : Bel w ((w.alloc (.cells #[.slice none 0 0, .slice none 0 0, .slice none 0 0, .int .i64 0] 44)).alloc (.cells #[.int .i64 0, .string ⟨#[]⟩, .string ⟨#[]⟩, .int .i64 0, .string ⟨#[]⟩] 27)) := bel_alloc (bel_alloc (Below.refl _ _) _) _
 generalize ((w.alloc (.cells #[.slice none 0 0, .slice none 0 0, .slice none 0 0, .int .i64 0] 44)).alloc (.cells #[.int .i64 0, .string ⟨#[]⟩, .string ⟨#[]⟩, .int .i64 0, .string ⟨#[]⟩] 27)) = W0 at hr0 hr1 hW ⊢
 refine (open_c (H.out.bel hW) hn).mono ?_
 rintro e w1 ⟨rb, rfl, hR1, hrb, hb1⟩
 have hrb2 : w.heap.size < rb := Nat.lt_of_lt_of_le hr0.lt hrb
 have hrb3 : w.heap.size + 1 < rb := Nat.lt_of_lt_of_le hr1.lt hrb
 have HR1 := Lib.hid (And.intro (hr0.bel hb1) (And.intro hR1 (And.intro (hW.tr hb1) (hr1.bel hb1))))
 clear hr0 hr1 hW hR1 hb1 hrb
 go_wp2_with fail
 refine (log_c HR1.out.2.1 (by omega)).mono ?_
 rintro e w2 ⟨v0, v1, v2, l, bvs, rfl, hl, ho, hT, hR2, hg2⟩
 obtain ⟨A, B, a, b, rfl, rfl, hpi⟩ := ho.reads
 obtain ⟨C, c, rfl, hoc, hC⟩ := hT.reads
 have HL := Lib.hid hl
 have hB2 := HR1.out.1.grown hg2 (by intro e; injection e with e; omega)
 have hO2 := HR1.out.2.2.2.grown hg2 (by intro e; injection e with e; omega)
 have hb2 := belGrown HR1.out.2.2.1 hg2 (by omega)
 have hbx : Bel w2 (w2.alloc (.cells #[.slice A l.base.slots.length a, .slice B l.base.vols.length b, .slice C l.ops.length c, .int .i64 l.safe] 44)) := bel_alloc (Below.refl _ _) _
 have hst : LgB w w1.heap.size (w2.alloc (.cells #[.slice A l.base.slots.length a, .slice B l.base.vols.length b, .slice C l.ops.length c, .int .i64 l.safe] 44)) rb (0 + 50000) (.slice A l.base.slots.length a) (.slice B l.base.vols.length b) (.slice C l.ops.length c) l bvs w2.heap.size :=
  ⟨hB2.bel hbx, Blk.new _ _ _, hR2.bel hbx, ho.bel hbx, hT.bel hbx, hb2.tr hbx, hrb2, HR1.out.2.1.lt, hg2.size, Nat.le_trans hg2.size hbx.size⟩
 have HS := Lib.hid hst
 have HOP := Lib.hid (hO2.bel hbx)
 clear ho hT hR2 hg2 hB2 hO2 hb2 hbx hst hpi hoc hC hl HR1
 go_wp2_with fail
 generalize (w2.alloc (.cells #[.slice A l.base.slots.length a, .slice B l.base.vols.length b, .slice C l.ops.length c, .int .i64 l.safe] 44)) = W4 at HS HOP ⊢
 obtain ⟨lb, hlb⟩ : ∃ lb, w2.heap.size = lb := ⟨_, rfl⟩
 rw [hlb] at HS ⊢
 clear hlb
 obtain ⟨X0, X1, X2, x0, x1, x2, e0, e1, e2, hin⟩ := HS.out.lit
 have e0 := slice_eq e0
 have e1 := slice_eq e1
 have e2 := slice_eq e2
 obtain ⟨rfl, -, rfl⟩ := e0
 obtain ⟨rfl, -, rfl⟩ := e1
 obtain ⟨rfl, -, rfl⟩ := e2
 have HK := specLogPool_c hin HL.out.small
 obtain ⟨q, hq⟩ : ∃ q, poolF l = q := ⟨_, rfl⟩
 have HSq := Lib.hid (hq ▸ poolF_small : SmallP q)
 rw [hq] at HK
 refine HK.mono ?_
 rintro e w5 ⟨u0, u1, bq, rfl, hqo, hb5⟩
 obtain ⟨A1, B1, a1, b1, rfl, rfl, hpi⟩ := hqo.reads
 have hbx : Bel W4 (w5.alloc (.cells #[.slice A1 q.slots.length a1, .slice B1 q.vols.length b1] 42)) := bel_alloc hb5 _
 have hst : LgA w w1.heap.size (w5.alloc (.cells #[.slice A1 q.slots.length a1, .slice B1 q.vols.length b1] 42)) rb (0 + 50000) (.slice A l.base.slots.length a) (.slice B l.base.vols.length b) (.slice C l.ops.length c) l bvs lb (.slice A1 q.slots.length a1) (.slice B1 q.vols.length b1) q bq w5.heap.size :=
  ⟨HS.out.bel hbx, HOP.out.bel hbx, hrb3, Blk.new _ _ _, (hqo.lower HS.out.l4).bel (bel_alloc (Below.refl _ _) _), Nat.le_trans HS.out.l4 hb5.size⟩
 have HA := Lib.hid hst
 clear hst hbx hqo hb5 hpi hin HK hq HS HOP
 go_wp2_with fail
 generalize (w5.alloc (.cells #[.slice A1 q.slots.length a1, .slice B1 q.vols.length b1] 42)) = W6 at HA ⊢
 obtain ⟨pb, hpb⟩ : ∃ pb, w5.heap.size = pb := ⟨_, rfl⟩
 rw [hpb] at HA ⊢
 clear hpb
 refine (pick_c HA.out.st.rd (by omega) 4 (by omega)).mono ?_
 rintro e w7 ⟨v, rfl, ⟨r, rfl, hr0, hr1, -⟩, hR, hg⟩
 replace HA := Lib.hid (HA.out.step hR hg)
 clear hR hg hr1
 have hltb := HA.out.st.ne
 by_cases hra : r = 0
 ·subst hra
  go_wp2
  have HE := Lib.hid (HA.out.bel (W' := w7.drew) (Below.refl _ _).drew)
  have y0 := HE.out.st.var.cell 0
  have y1 := HE.out.st.var.cell 1
  have y2 := HE.out.st.var.cell 2
  have y3 := HE.out.st.var.cell 3
  have p0 := HE.out.pv.cell 0
  have p1 := HE.out.pv.cell 1
  simp at y0 y1 y2 y3 p0 p1
  refine start_ (n := 5) (S := fun w' => w'.cell? ⟨lb, 0, none⟩ = some (.slice A l.base.slots.length a) ∧ w'.cell? ⟨lb, 1, none⟩ = some (.slice B l.base.vols.length b) ∧ w'.cell? ⟨lb, 2, none⟩ = some (.slice C l.ops.length c) ∧ w'.cell? ⟨lb, 3, none⟩ = some (.int .i64 l.safe) ∧ w'.cell? ⟨pb, 0, none⟩ = some (.slice A1 q.slots.length a1) ∧ w'.cell? ⟨pb, 1, none⟩ = some (.slice B1 q.vols.length b1)) (ds := [3, 4]) #[bF, bF, bF, bF, bF] (by kernel_rfl) rfl rfl ⟨y0, y1, y2, y3, p0, p1⟩ (fun hHeld => ?_)
  refine pure_ (i := 1) (N := some 22) (v := ?_) (a' := ?_) #[bF, bT, bF, bF, bF] rfl rfl (by kernel_rfl) (fun _ _ _ h => h) (Or.inl ⟨by rfl, ?_⟩) ?_ ?_
  rotate_left
  ·intro w'
   go_simp
   with_reducible rfl
  rotate_left
  ·simp only [Act.put, lA, lB, lC, i64_w, i32_w]
   rfl
  refine take_ (i := 0) (N := some 21) (v := ?_) (a' := ?_) #[bT, bT, bF, bF, bF] rfl rfl (by kernel_rfl) (fun _ _ _ h => h) (Or.inl ⟨by rfl, ?_⟩) hHeld ?_ ?_
  rotate_left
  ·rintro w' ⟨s0, s1, s2, s3, s4, s5⟩
   go_simp
   with_reducible rfl
  rotate_left
  ·simp only [Act.put, lA, lB, lC, i64_w, i32_w]
   rfl
  refine one_ (i := 2) (N := some 23) #[bT, bT, bT, bF, bF] rfl rfl (by kernel_rfl) (by decide) (fun K hK => ?_)
  refine goes_ Tryz.func88 (by kernel_rfl) rfl #[.pointer (some ⟨rb, 0, none⟩)] (by rfl) rfl rfl (by simp only [List.map_toArray, List.map_cons, List.map_nil]; rfl) ?_
  with_reducible refine (op_c (w := w7.drew) HE.out.st.rd (by omega)).mono ?_
  rintro e w9 ⟨v, rfl, ⟨o, ho, hso, _⟩, hR, hg⟩
  unfold opV at ho
  subst ho
  have HS9 := Lib.hid (HE.out.step hR hg)
  have HSO := Lib.hid hso
  clear hR hg hso
  have z0 := HS9.out.st.var.cell 0
  have z1 := HS9.out.st.var.cell 1
  have z2 := HS9.out.st.var.cell 2
  have z3 := HS9.out.st.var.cell 3
  have x0 := HS9.out.st.res.cell 0
  have x1 := HS9.out.st.res.cell 1
  have x2 := HS9.out.st.res.cell 2
  have x3 := HS9.out.st.res.cell 3
  have f0 := HS9.out.st.res.free 0
  have f1 := HS9.out.st.res.free 1
  have f2 := HS9.out.st.res.free 2
  have f3 := HS9.out.st.res.free 3
  have m0 := HS9.out.op.cell 0
  have m1 := HS9.out.op.cell 1
  have m2 := HS9.out.op.cell 2
  have m3 := HS9.out.op.cell 3
  have m4 := HS9.out.op.cell 4
  have k0 := HS9.out.op.free 0
  have k1 := HS9.out.op.free 1
  have k2 := HS9.out.op.free 2
  have k3 := HS9.out.op.free 3
  have k4 := HS9.out.op.free 4
  have zr := HS9.out.st.res.lt
  have zo := HS9.out.op.lt
  have zv := HS9.out.st.var.lt
  simp at z0 z1 z2 z3 x0 x1 x2 x3 m0 m1 m2 m3 m4
  have t0 := HS9.out.pv.cell 0
  have t1 := HS9.out.pv.cell 1
  simp at t0 t1
  refine ⟨_, rfl, ?_⟩
  refine hK.out _ _ ⟨z0, z1, z2, z3, t0, t1⟩ (fun hHeld => ?_)
  clear hK K
  refine norm_ (a' := ?_) ?_ ?_
  rotate_left
  ·show Act.put _ (some 23) _ = _
   simp only [Act.put, lA, lB, lC, i64_w, i32_w]
   rfl
  refine last_ (i := 3) (N := none) #[bT, bT, bT, bT, bF] rfl rfl (by kernel_rfl) (by decide) (fun K hK => ?_)
  refine skip_ (w1 := ?_) (by rfl) rfl ?_ ?_
  rotate_left
  ·go_simp
   rfl
  refine hK.out _ _ ?_
  clear hK K
  refine last_ (i := 4) (N := none) #[bT, bT, bT, bT, bT] rfl rfl (by kernel_rfl) (by decide) (fun K hK => ?_)
  refine skip_ (w1 := ?_) (by rfl) rfl ?_ ?_
  rotate_left
  ·go_simp
   rfl
  refine hK.out _ _ ?_
  clear hK K
  refine done_ (by kernel_rfl) ?_
  clear y0 y1 y2 y3 z0 z1 z2 z3 x0 x1 x2 x3 m0 m1 m2 m3 m4 f0 f1 f2 f3 k0 k1 k2 k3 k4 zr zo hHeld p0 p1 t0 t1
  have hx4 := HS9.out.st.res.set4 (.slice A l.base.slots.length a) (.slice B l.base.vols.length b) (.slice C l.ops.length c) (.int .i64 l.safe)
  have hne : w.heap.size + 1 ≠ w.heap.size := by omega
  have hbl : w.heap.size + 1 < w1.heap.size := by have := HS9.out.l5; have := HS9.out.st.l2; omega
  have hy0 := HS9.out.op.apart4 hne.symm (.slice A l.base.slots.length a) (.slice B l.base.vols.length b) (.slice C l.ops.length c) (.int .i64 l.safe)
  have hy1 := hy0.set 0 (.int .i64 o.kind) (cs' := #[.int .i64 o.kind, .string ⟨#[]⟩, .string ⟨#[]⟩, .int .i64 0, .string ⟨#[]⟩]) rfl
  have hy2 := hy1.set 1 (.string o.name) (cs' := #[.int .i64 o.kind, .string o.name, .string ⟨#[]⟩, .int .i64 0, .string ⟨#[]⟩]) rfl
  have hy3 := hy2.set 2 (.string o.dest) (cs' := #[.int .i64 o.kind, .string o.name, .string o.dest, .int .i64 0, .string ⟨#[]⟩]) rfl
  have hy4 := hy3.set 3 (.int .i64 o.n) (cs' := #[.int .i64 o.kind, .string o.name, .string o.dest, .int .i64 o.n, .string ⟨#[]⟩]) rfl
  have hy5 := hy4.set 4 (.string o.text) (cs' := #[.int .i64 o.kind, .string o.name, .string o.dest, .int .i64 o.n, .string o.text]) rfl
  have hx9 := ((((hx4.apart hne 0 (.int .i64 o.kind)).apart hne 1 (.string o.name)).apart hne 2 (.string o.dest)).apart hne 3 (.int .i64 o.n)).apart hne 4 (.string o.text)
  have hp2 := HS9.out.st.own.far4 HS9.out.st.res (.slice A l.base.slots.length a) (.slice B l.base.vols.length b) (.slice C l.ops.length c) (.int .i64 l.safe)
  have hp3 := ((((hp2.far hy0 (by decide) (by decide) (by decide) 0 (.int .i64 o.kind)).far hy1 (by decide) (by decide) (by decide) 1 (.string o.name)).far hy2 (by decide) (by decide) (by decide) 2 (.string o.dest)).far hy3 (by decide) (by decide) (by decide) 3 (.int .i64 o.n)).far hy4 (by decide) (by decide) (by decide) 4 (.string o.text)
  have ht2 := HS9.out.st.ops.far4 HS9.out.st.res (.slice A l.base.slots.length a) (.slice B l.base.vols.length b) (.slice C l.ops.length c) (.int .i64 l.safe)
  have ht3 := ((((ht2.farB hbl 0 (.int .i64 o.kind)).farB hbl 1 (.string o.name)).farB hbl 2 (.string o.dest)).farB hbl 3 (.int .i64 o.n)).farB hbl 4 (.string o.text)
  have hb5 := bel_set4 HS9.out.st.b (Nat.le_refl _) (.slice A l.base.slots.length a) (.slice B l.base.vols.length b) (.slice C l.ops.length c) (.int .i64 l.safe)
  have hb6 := bel_set (bel_set (bel_set (bel_set (bel_set hb5 (Nat.le_succ _) 0 (.int .i64 o.kind)) (Nat.le_succ _) 1 (.string o.name)) (Nat.le_succ _) 2 (.string o.dest)) (Nat.le_succ _) 3 (.int .i64 o.n)) (Nat.le_succ _) 4 (.string o.text)
  obtain ⟨C9, c9, e9, hc9, hC9⟩ := ht3.reads
  have e9 := slice_eq e9
  obtain ⟨rfl, -, rfl⟩ := e9
  go_wp2
  refine bodyPost_ret (results_cc rfl _ _ w.heap.size (w.heap.size + 1) 44 27 #[.slice A l.base.slots.length a, .slice B l.base.vols.length b, .slice C l.ops.length c, .int .i64 l.safe] #[.int .i64 o.kind, .string o.name, .string o.dest, .int .i64 o.n, .string o.text] (0, 0) (0, 0) _ _ rfl hx9 Tryz.underlying44 rfl (by kernel_rfl) rfl hy5 Tryz.underlying27 rfl (by kernel_rfl)) rfl ?_
  exact ⟨A, B, C, a, b, c, l, o, rfl, HL.out, HSO.out, ⟨hp3.inn, hC9, hc9⟩, hb6⟩
 have hr3 : 0 < r := by omega
 have y0 := HA.out.pv.cell 0
 have y1 := HA.out.pv.cell 1
 simp at y0 y1
 go_wp2_with fail
 clear y0 y1
 refine (specPoolOk_in HA.out.po.inn HSq.out).mono ?_
 rintro e w8 ⟨rfl, hb8⟩
 replace HA := Lib.hid (HA.out.bel hb8)
 clear hb8
 cases hok : poolOk q
 ·clear hok
  go_wp2
  have HE := Lib.hid (HA.out.bel (W' := w8.drew) (Below.refl _ _).drew)
  have y0 := HE.out.st.var.cell 0
  have y1 := HE.out.st.var.cell 1
  have y2 := HE.out.st.var.cell 2
  have y3 := HE.out.st.var.cell 3
  have p0 := HE.out.pv.cell 0
  have p1 := HE.out.pv.cell 1
  simp at y0 y1 y2 y3 p0 p1
  refine start_ (n := 5) (S := fun w' => w'.cell? ⟨lb, 0, none⟩ = some (.slice A l.base.slots.length a) ∧ w'.cell? ⟨lb, 1, none⟩ = some (.slice B l.base.vols.length b) ∧ w'.cell? ⟨lb, 2, none⟩ = some (.slice C l.ops.length c) ∧ w'.cell? ⟨lb, 3, none⟩ = some (.int .i64 l.safe) ∧ w'.cell? ⟨pb, 0, none⟩ = some (.slice A1 q.slots.length a1) ∧ w'.cell? ⟨pb, 1, none⟩ = some (.slice B1 q.vols.length b1)) (ds := [3, 4]) #[bF, bF, bF, bF, bF] (by kernel_rfl) rfl rfl ⟨y0, y1, y2, y3, p0, p1⟩ (fun hHeld => ?_)
  refine pure_ (i := 1) (N := some 22) (v := ?_) (a' := ?_) #[bF, bT, bF, bF, bF] rfl rfl (by kernel_rfl) (fun _ _ _ h => h) (Or.inl ⟨by rfl, ?_⟩) ?_ ?_
  rotate_left
  ·intro w'
   go_simp
   with_reducible rfl
  rotate_left
  ·simp only [Act.put, lA, lB, lC, i64_w, i32_w]
   rfl
  refine take_ (i := 0) (N := some 21) (v := ?_) (a' := ?_) #[bT, bT, bF, bF, bF] rfl rfl (by kernel_rfl) (fun _ _ _ h => h) (Or.inl ⟨by rfl, ?_⟩) hHeld ?_ ?_
  rotate_left
  ·rintro w' ⟨s0, s1, s2, s3, s4, s5⟩
   go_simp
   with_reducible rfl
  rotate_left
  ·simp only [Act.put, lA, lB, lC, i64_w, i32_w]
   rfl
  refine one_ (i := 2) (N := some 23) #[bT, bT, bT, bF, bF] rfl rfl (by kernel_rfl) (by decide) (fun K hK => ?_)
  refine goes_ Tryz.func88 (by kernel_rfl) rfl #[.pointer (some ⟨rb, 0, none⟩)] (by rfl) rfl rfl (by simp only [List.map_toArray, List.map_cons, List.map_nil]; rfl) ?_
  with_reducible refine (op_c (w := w8.drew) HE.out.st.rd (by omega)).mono ?_
  rintro e w9 ⟨v, rfl, ⟨o, ho, hso, _⟩, hR, hg⟩
  unfold opV at ho
  subst ho
  have HS9 := Lib.hid (HE.out.step hR hg)
  have HSO := Lib.hid hso
  clear hR hg hso
  have z0 := HS9.out.st.var.cell 0
  have z1 := HS9.out.st.var.cell 1
  have z2 := HS9.out.st.var.cell 2
  have z3 := HS9.out.st.var.cell 3
  have x0 := HS9.out.st.res.cell 0
  have x1 := HS9.out.st.res.cell 1
  have x2 := HS9.out.st.res.cell 2
  have x3 := HS9.out.st.res.cell 3
  have f0 := HS9.out.st.res.free 0
  have f1 := HS9.out.st.res.free 1
  have f2 := HS9.out.st.res.free 2
  have f3 := HS9.out.st.res.free 3
  have m0 := HS9.out.op.cell 0
  have m1 := HS9.out.op.cell 1
  have m2 := HS9.out.op.cell 2
  have m3 := HS9.out.op.cell 3
  have m4 := HS9.out.op.cell 4
  have k0 := HS9.out.op.free 0
  have k1 := HS9.out.op.free 1
  have k2 := HS9.out.op.free 2
  have k3 := HS9.out.op.free 3
  have k4 := HS9.out.op.free 4
  have zr := HS9.out.st.res.lt
  have zo := HS9.out.op.lt
  have zv := HS9.out.st.var.lt
  simp at z0 z1 z2 z3 x0 x1 x2 x3 m0 m1 m2 m3 m4
  have t0 := HS9.out.pv.cell 0
  have t1 := HS9.out.pv.cell 1
  simp at t0 t1
  refine ⟨_, rfl, ?_⟩
  refine hK.out _ _ ⟨z0, z1, z2, z3, t0, t1⟩ (fun hHeld => ?_)
  clear hK K
  refine norm_ (a' := ?_) ?_ ?_
  rotate_left
  ·show Act.put _ (some 23) _ = _
   simp only [Act.put, lA, lB, lC, i64_w, i32_w]
   rfl
  refine last_ (i := 3) (N := none) #[bT, bT, bT, bT, bF] rfl rfl (by kernel_rfl) (by decide) (fun K hK => ?_)
  refine skip_ (w1 := ?_) (by rfl) rfl ?_ ?_
  rotate_left
  ·go_simp
   rfl
  refine hK.out _ _ ?_
  clear hK K
  refine last_ (i := 4) (N := none) #[bT, bT, bT, bT, bT] rfl rfl (by kernel_rfl) (by decide) (fun K hK => ?_)
  refine skip_ (w1 := ?_) (by rfl) rfl ?_ ?_
  rotate_left
  ·go_simp
   rfl
  refine hK.out _ _ ?_
  clear hK K
  refine done_ (by kernel_rfl) ?_
  clear y0 y1 y2 y3 z0 z1 z2 z3 x0 x1 x2 x3 m0 m1 m2 m3 m4 f0 f1 f2 f3 k0 k1 k2 k3 k4 zr zo hHeld p0 p1 t0 t1
  have hx4 := HS9.out.st.res.set4 (.slice A l.base.slots.length a) (.slice B l.base.vols.length b) (.slice C l.ops.length c) (.int .i64 l.safe)
  have hne : w.heap.size + 1 ≠ w.heap.size := by omega
  have hbl : w.heap.size + 1 < w1.heap.size := by have := HS9.out.l5; have := HS9.out.st.l2; omega
  have hy0 := HS9.out.op.apart4 hne.symm (.slice A l.base.slots.length a) (.slice B l.base.vols.length b) (.slice C l.ops.length c) (.int .i64 l.safe)
  have hy1 := hy0.set 0 (.int .i64 o.kind) (cs' := #[.int .i64 o.kind, .string ⟨#[]⟩, .string ⟨#[]⟩, .int .i64 0, .string ⟨#[]⟩]) rfl
  have hy2 := hy1.set 1 (.string o.name) (cs' := #[.int .i64 o.kind, .string o.name, .string ⟨#[]⟩, .int .i64 0, .string ⟨#[]⟩]) rfl
  have hy3 := hy2.set 2 (.string o.dest) (cs' := #[.int .i64 o.kind, .string o.name, .string o.dest, .int .i64 0, .string ⟨#[]⟩]) rfl
  have hy4 := hy3.set 3 (.int .i64 o.n) (cs' := #[.int .i64 o.kind, .string o.name, .string o.dest, .int .i64 o.n, .string ⟨#[]⟩]) rfl
  have hy5 := hy4.set 4 (.string o.text) (cs' := #[.int .i64 o.kind, .string o.name, .string o.dest, .int .i64 o.n, .string o.text]) rfl
  have hx9 := ((((hx4.apart hne 0 (.int .i64 o.kind)).apart hne 1 (.string o.name)).apart hne 2 (.string o.dest)).apart hne 3 (.int .i64 o.n)).apart hne 4 (.string o.text)
  have hp2 := HS9.out.st.own.far4 HS9.out.st.res (.slice A l.base.slots.length a) (.slice B l.base.vols.length b) (.slice C l.ops.length c) (.int .i64 l.safe)
  have hp3 := ((((hp2.far hy0 (by decide) (by decide) (by decide) 0 (.int .i64 o.kind)).far hy1 (by decide) (by decide) (by decide) 1 (.string o.name)).far hy2 (by decide) (by decide) (by decide) 2 (.string o.dest)).far hy3 (by decide) (by decide) (by decide) 3 (.int .i64 o.n)).far hy4 (by decide) (by decide) (by decide) 4 (.string o.text)
  have ht2 := HS9.out.st.ops.far4 HS9.out.st.res (.slice A l.base.slots.length a) (.slice B l.base.vols.length b) (.slice C l.ops.length c) (.int .i64 l.safe)
  have ht3 := ((((ht2.farB hbl 0 (.int .i64 o.kind)).farB hbl 1 (.string o.name)).farB hbl 2 (.string o.dest)).farB hbl 3 (.int .i64 o.n)).farB hbl 4 (.string o.text)
  have hb5 := bel_set4 HS9.out.st.b (Nat.le_refl _) (.slice A l.base.slots.length a) (.slice B l.base.vols.length b) (.slice C l.ops.length c) (.int .i64 l.safe)
  have hb6 := bel_set (bel_set (bel_set (bel_set (bel_set hb5 (Nat.le_succ _) 0 (.int .i64 o.kind)) (Nat.le_succ _) 1 (.string o.name)) (Nat.le_succ _) 2 (.string o.dest)) (Nat.le_succ _) 3 (.int .i64 o.n)) (Nat.le_succ _) 4 (.string o.text)
  obtain ⟨C9, c9, e9, hc9, hC9⟩ := ht3.reads
  have e9 := slice_eq e9
  obtain ⟨rfl, -, rfl⟩ := e9
  go_wp2
  refine bodyPost_ret (results_cc rfl _ _ w.heap.size (w.heap.size + 1) 44 27 #[.slice A l.base.slots.length a, .slice B l.base.vols.length b, .slice C l.ops.length c, .int .i64 l.safe] #[.int .i64 o.kind, .string o.name, .string o.dest, .int .i64 o.n, .string o.text] (0, 0) (0, 0) _ _ rfl hx9 Tryz.underlying44 rfl (by kernel_rfl) rfl hy5 Tryz.underlying27 rfl (by kernel_rfl)) rfl ?_
  exact ⟨A, B, C, a, b, c, l, o, rfl, HL.out, HSO.out, ⟨hp3.inn, hC9, hc9⟩, hb6⟩
 ·have HV := Lib.hid (poolOk_iff.1 hok)
  clear hok
  go_wp2
  have HE := Lib.hid (HA.out.bel (W' := w8.drew) (Below.refl _ _).drew)
  have y0 := HE.out.st.var.cell 0
  have y1 := HE.out.st.var.cell 1
  have y2 := HE.out.st.var.cell 2
  have y3 := HE.out.st.var.cell 3
  have p0 := HE.out.pv.cell 0
  have p1 := HE.out.pv.cell 1
  simp at y0 y1 y2 y3 p0 p1
  refine start_ (n := 6) (S := fun w' => w'.cell? ⟨lb, 0, none⟩ = some (.slice A l.base.slots.length a) ∧ w'.cell? ⟨lb, 1, none⟩ = some (.slice B l.base.vols.length b) ∧ w'.cell? ⟨lb, 2, none⟩ = some (.slice C l.ops.length c) ∧ w'.cell? ⟨lb, 3, none⟩ = some (.int .i64 l.safe) ∧ w'.cell? ⟨pb, 0, none⟩ = some (.slice A1 q.slots.length a1) ∧ w'.cell? ⟨pb, 1, none⟩ = some (.slice B1 q.vols.length b1)) (ds := [4, 5]) #[bF, bF, bF, bF, bF, bF] (by kernel_rfl) rfl rfl ⟨y0, y1, y2, y3, p0, p1⟩ (fun hHeld => ?_)
  refine pure_ (i := 1) (N := some 25) (v := ?_) (a' := ?_) #[bF, bT, bF, bF, bF, bF] rfl rfl (by kernel_rfl) (fun _ _ _ h => h) (Or.inl ⟨by rfl, ?_⟩) ?_ ?_
  rotate_left
  ·intro w'
   go_simp
   with_reducible rfl
  rotate_left
  ·simp only [Act.put, lA, lB, lC, i64_w, i32_w]
   rfl
  refine take_ (i := 0) (N := some 24) (v := ?_) (a' := ?_) #[bT, bT, bF, bF, bF, bF] rfl rfl (by kernel_rfl) (fun _ _ _ h => h) (Or.inl ⟨by rfl, ?_⟩) hHeld ?_ ?_
  rotate_left
  ·rintro w' ⟨s0, s1, s2, s3, s4, s5⟩
   go_simp
   with_reducible rfl
  rotate_left
  ·simp only [Act.put, lA, lB, lC, i64_w, i32_w]
   rfl
  refine take_ (i := 2) (N := some 26) (v := ?_) (a' := ?_) #[bT, bT, bT, bF, bF, bF] rfl rfl (by kernel_rfl) (fun _ _ _ h => h) (Or.inl ⟨by rfl, ?_⟩) hHeld ?_ ?_
  rotate_left
  ·rintro w' ⟨s0, s1, s2, s3, s4, s5⟩
   go_simp
   with_reducible rfl
  rotate_left
  ·simp only [Act.put, lA, lB, lC, i64_w, i32_w]
   rfl
  refine one_ (i := 3) (N := some 27) #[bT, bT, bT, bT, bF, bF] rfl rfl (by kernel_rfl) (by decide) (fun K hK => ?_)
  refine goes_ Tryz.func124 (by kernel_rfl) rfl #[.pointer (some ⟨rb, 0, none⟩), .agg #[.slice A1 q.slots.length a1, .slice B1 q.vols.length b1]] (by rfl) rfl rfl (by simp only [List.map_toArray, List.map_cons, List.map_nil]; rfl) ?_
  with_reducible refine (fits_c (w := w8.drew) HE.out.st.rd (by omega) HE.out.po HV.out).mono ?_
  rintro e w9 ⟨v, rfl, ⟨o, ho, hso, _⟩, hR, hg⟩
  unfold opV at ho
  subst ho
  have HS9 := Lib.hid (HE.out.step hR hg)
  have HSO := Lib.hid hso
  clear hR hg hso
  have z0 := HS9.out.st.var.cell 0
  have z1 := HS9.out.st.var.cell 1
  have z2 := HS9.out.st.var.cell 2
  have z3 := HS9.out.st.var.cell 3
  have x0 := HS9.out.st.res.cell 0
  have x1 := HS9.out.st.res.cell 1
  have x2 := HS9.out.st.res.cell 2
  have x3 := HS9.out.st.res.cell 3
  have f0 := HS9.out.st.res.free 0
  have f1 := HS9.out.st.res.free 1
  have f2 := HS9.out.st.res.free 2
  have f3 := HS9.out.st.res.free 3
  have m0 := HS9.out.op.cell 0
  have m1 := HS9.out.op.cell 1
  have m2 := HS9.out.op.cell 2
  have m3 := HS9.out.op.cell 3
  have m4 := HS9.out.op.cell 4
  have k0 := HS9.out.op.free 0
  have k1 := HS9.out.op.free 1
  have k2 := HS9.out.op.free 2
  have k3 := HS9.out.op.free 3
  have k4 := HS9.out.op.free 4
  have zr := HS9.out.st.res.lt
  have zo := HS9.out.op.lt
  have zv := HS9.out.st.var.lt
  simp at z0 z1 z2 z3 x0 x1 x2 x3 m0 m1 m2 m3 m4
  have t0 := HS9.out.pv.cell 0
  have t1 := HS9.out.pv.cell 1
  simp at t0 t1
  refine ⟨_, rfl, ?_⟩
  refine hK.out _ _ ⟨z0, z1, z2, z3, t0, t1⟩ (fun hHeld => ?_)
  clear hK K
  refine norm_ (a' := ?_) ?_ ?_
  rotate_left
  ·show Act.put _ (some 27) _ = _
   simp only [Act.put, lA, lB, lC, i64_w, i32_w]
   rfl
  refine last_ (i := 4) (N := none) #[bT, bT, bT, bT, bT, bF] rfl rfl (by kernel_rfl) (by decide) (fun K hK => ?_)
  refine skip_ (w1 := ?_) (by rfl) rfl ?_ ?_
  rotate_left
  ·go_simp
   rfl
  refine hK.out _ _ ?_
  clear hK K
  refine last_ (i := 5) (N := none) #[bT, bT, bT, bT, bT, bT] rfl rfl (by kernel_rfl) (by decide) (fun K hK => ?_)
  refine skip_ (w1 := ?_) (by rfl) rfl ?_ ?_
  rotate_left
  ·go_simp
   rfl
  refine hK.out _ _ ?_
  clear hK K
  refine done_ (by kernel_rfl) ?_
  clear y0 y1 y2 y3 z0 z1 z2 z3 x0 x1 x2 x3 m0 m1 m2 m3 m4 f0 f1 f2 f3 k0 k1 k2 k3 k4 zr zo hHeld p0 p1 t0 t1
  have hx4 := HS9.out.st.res.set4 (.slice A l.base.slots.length a) (.slice B l.base.vols.length b) (.slice C l.ops.length c) (.int .i64 l.safe)
  have hne : w.heap.size + 1 ≠ w.heap.size := by omega
  have hbl : w.heap.size + 1 < w1.heap.size := by have := HS9.out.l5; have := HS9.out.st.l2; omega
  have hy0 := HS9.out.op.apart4 hne.symm (.slice A l.base.slots.length a) (.slice B l.base.vols.length b) (.slice C l.ops.length c) (.int .i64 l.safe)
  have hy1 := hy0.set 0 (.int .i64 o.kind) (cs' := #[.int .i64 o.kind, .string ⟨#[]⟩, .string ⟨#[]⟩, .int .i64 0, .string ⟨#[]⟩]) rfl
  have hy2 := hy1.set 1 (.string o.name) (cs' := #[.int .i64 o.kind, .string o.name, .string ⟨#[]⟩, .int .i64 0, .string ⟨#[]⟩]) rfl
  have hy3 := hy2.set 2 (.string o.dest) (cs' := #[.int .i64 o.kind, .string o.name, .string o.dest, .int .i64 0, .string ⟨#[]⟩]) rfl
  have hy4 := hy3.set 3 (.int .i64 o.n) (cs' := #[.int .i64 o.kind, .string o.name, .string o.dest, .int .i64 o.n, .string ⟨#[]⟩]) rfl
  have hy5 := hy4.set 4 (.string o.text) (cs' := #[.int .i64 o.kind, .string o.name, .string o.dest, .int .i64 o.n, .string o.text]) rfl
  have hx9 := ((((hx4.apart hne 0 (.int .i64 o.kind)).apart hne 1 (.string o.name)).apart hne 2 (.string o.dest)).apart hne 3 (.int .i64 o.n)).apart hne 4 (.string o.text)
  have hp2 := HS9.out.st.own.far4 HS9.out.st.res (.slice A l.base.slots.length a) (.slice B l.base.vols.length b) (.slice C l.ops.length c) (.int .i64 l.safe)
  have hp3 := ((((hp2.far hy0 (by decide) (by decide) (by decide) 0 (.int .i64 o.kind)).far hy1 (by decide) (by decide) (by decide) 1 (.string o.name)).far hy2 (by decide) (by decide) (by decide) 2 (.string o.dest)).far hy3 (by decide) (by decide) (by decide) 3 (.int .i64 o.n)).far hy4 (by decide) (by decide) (by decide) 4 (.string o.text)
  have ht2 := HS9.out.st.ops.far4 HS9.out.st.res (.slice A l.base.slots.length a) (.slice B l.base.vols.length b) (.slice C l.ops.length c) (.int .i64 l.safe)
  have ht3 := ((((ht2.farB hbl 0 (.int .i64 o.kind)).farB hbl 1 (.string o.name)).farB hbl 2 (.string o.dest)).farB hbl 3 (.int .i64 o.n)).farB hbl 4 (.string o.text)
  have hb5 := bel_set4 HS9.out.st.b (Nat.le_refl _) (.slice A l.base.slots.length a) (.slice B l.base.vols.length b) (.slice C l.ops.length c) (.int .i64 l.safe)
  have hb6 := bel_set (bel_set (bel_set (bel_set (bel_set hb5 (Nat.le_succ _) 0 (.int .i64 o.kind)) (Nat.le_succ _) 1 (.string o.name)) (Nat.le_succ _) 2 (.string o.dest)) (Nat.le_succ _) 3 (.int .i64 o.n)) (Nat.le_succ _) 4 (.string o.text)
  obtain ⟨C9, c9, e9, hc9, hC9⟩ := ht3.reads
  have e9 := slice_eq e9
  obtain ⟨rfl, -, rfl⟩ := e9
  go_wp2
  refine bodyPost_ret (results_cc rfl _ _ w.heap.size (w.heap.size + 1) 44 27 #[.slice A l.base.slots.length a, .slice B l.base.vols.length b, .slice C l.ops.length c, .int .i64 l.safe] #[.int .i64 o.kind, .string o.name, .string o.dest, .int .i64 o.n, .string o.text] (0, 0) (0, 0) _ _ rfl hx9 Tryz.underlying44 rfl (by kernel_rfl) rfl hy5 Tryz.underlying27 rfl (by kernel_rfl)) rfl ?_
  exact ⟨A, B, C, a, b, c, l, o, rfl, HL.out, HSO.out, ⟨hp3.inn, hC9, hc9⟩, hb6⟩
end Go.Proofs.YtccllgpaafgjaaaGreat

namespace Go.Proofs.YtccllgpaafgjaaaGreat
open Go.RowKit Go.Proofs.YtccllgpaafgjaaaGreatW.PrintWords
section
variable {w : World} {A B C : Option Addr} {a b c : Nat} {l x : Log} {q : Pool} {ok : Bool} {o : Op}
theorem implLogAdd_n (h : LogIn w A B C a b c l) (hs : SmallL l) (ho : SmallO o) (he : addF l o = x ∧ addB l o = ok) : Calls Tryz.prog 63 #[.agg #[.slice A l.base.slots.length a, .slice B l.base.vols.length b, .slice C l.ops.length c, .int .i64 l.safe], .agg #[.int .i64 o.kind, .string o.name, .string o.dest, .int .i64 o.n, .string o.text]] w (NewLB w x ok) := he.1 ▸ he.2 ▸ implLogAdd_c h hs ho
theorem specLogAdd_n (h : LogIn w A B C a b c l) (hs : SmallL l) (ho : SmallO o) (he : addF l o = x ∧ addB l o = ok) : Calls Tryz.prog 62 #[.agg #[.slice A l.base.slots.length a, .slice B l.base.vols.length b, .slice C l.ops.length c, .int .i64 l.safe], .agg #[.int .i64 o.kind, .string o.name, .string o.dest, .int .i64 o.n, .string o.text]] w (NewLB w x ok) := he.1 ▸ he.2 ▸ specLogAdd_c h hs ho
end
theorem addF_small {l : Log} {o : Op} {n : Nat} (h : DrawnL l n) (hn : n ≤ 1000) (ho : SmallO o) : SmallL (addF l o) := by
 unfold addF
 split
 ·split
  ·exact (h.snoc hn ho).small
  ·exact h.small
 ·exact noL_small
theorem add_true {l : Log} {o : Op} (h : addB l o = true) : ∃ q r, LogP l q ∧ opOk o = true ∧ opR q o = some r ∧ l.ops.length < 20 ∧ addF l o = ⟨l.base, l.ops ++ [o], l.safe⟩ ∧ LogP ⟨l.base, l.ops ++ [o], l.safe⟩ r := by
 have hok : logOk l = true := by
  cases hl : logOk l with
  | true => rfl
  | false => rw [(addF_bad (.inl hl)).2] at h; cases h
 have hop : opOk o = true := by
  cases hl : opOk o with
  | true => rfl
  | false => rw [(addF_bad (.inr hl)).2] at h; cases h
 obtain ⟨q, hq⟩ := logOk_iff.1 hok
 cases hr : opR q o with
 | none => rw [(addF_no hq hop (.inl hr)).2] at h; cases h
 | some r =>
  by_cases hlen : l.ops.length < 20
  ·have hy := addF_yes hq hop hr hlen
   exact ⟨q, r, hq, hop, hr, hlen, hy.1, hy.2.2⟩
  ·rw [(addF_no hq hop (.inr (Nat.le_of_not_lt hlen))).2] at h; cases h
end Go.Proofs.YtccllgpaafgjaaaGreat

namespace Go.Proofs.YtccllgpaafgjaaaGreat
open Go.ChangeShapes Go.WideShapes
theorem joined_of {P : Program} {f : FuncId} {fn : Func} {s : ChangeSpec} {c : OpenClaim}
  (h0 : (c.wf (OpenSpec.ofChange s)) = true)
  (h1 : (laidOutB P) = true)
  (h2 : (mapsRowed P) = true)
  (h3 : (fn.params.all (P.readableRec ·)) = true)
  (h4 : (namedTie P c.named s.vars) = true)
  (h5 : (c.stops == []) = true)
  (h6 : (P.stops == []) = true)
  (h7 : (c.knobs == []) = true)
  (h8 : (P.stopKnobs == []) = true)
  (h9 : (c.inPlace == P.inPlace f) = true)
  (h10 : (c.unfollowed == P.unfollowed f) = true)
  (h11 : (c.recurses == P.recurses f) = true)
  (h12 : (c.named == P.varsNamed f) = true)
  (h13 : (c.maps == (fn.params.toList ++ s.plain.varTypes P).any (P.mapsRec ·)) = true)
  (h14 : (c.ifaces == (fn.params.toList ++ s.plain.varTypes P).any (P.ifacesRec ·)) = true)
  (h15 : (c.mapsOut == P.mapsAmong fn.resultTypes.toList) = true)
  (h16 : (c.loops == (fn.params.toList ++ s.plain.varTypes P).any (P.loopsFrom ·)) = true)
  (h17 : (c.wideKeys == (fn.params.toList ++ s.plain.varTypes P ++ fn.resultTypes.toList).any (P.wideKeysFrom ·)) = true)
  (h18 : (s.vars.all (P.varReadable ·)) = true)
  (h19 : (fn.resultTypes.all (fun t => P.readableRec t && decide (t < P.types.size))) = true)
  (h20 : (c.ifacesOut == fn.resultTypes.toList.any (P.ifacesRec ·)) = true)
  (h21 : (c.loopsOut == fn.resultTypes.toList.any (P.loopsFrom ·)) = true)
  (h22 : (c.plainKeys == P.plainKeys) = true)
  (h23 : (c.shortTexts.isNone) = true)
  (h24 : (P.stopsHeard) = true)
  (h25 : (P.mayEnter) = true)
  (h26 : (c.lifted == P.liftsFinal) = true)
  (h27 : (P.make == some c.make) = true)
  (h28 : (c.kinds == (if c.domain.isEmpty then [] else fn.params.toList.map fun t => match P.underlying t with | some (.int k) => some k | _ => none)) = true)
  (h29 : (c.pinned == c.pinnedBy) = true)
  (h30 : (c.veiled == (fn.params.toList ++ s.plain.varTypes P ++ fn.resultTypes.toList).any (P.veiledRec ·)) = true)
  (h31 : (c.veiledFits P fn.params.toList (fn.params.toList ++ s.plain.varTypes P ++ fn.resultTypes.toList)) = true) : joinedFacts P f fn s c = true := by
 unfold joinedFacts
 simp only [Bool.and_eq_true]
 exact ⟨⟨⟨⟨⟨⟨⟨⟨⟨⟨⟨⟨⟨⟨⟨⟨⟨⟨⟨⟨⟨⟨⟨⟨⟨⟨⟨⟨⟨⟨⟨h0, h1⟩, h2⟩, h3⟩, h4⟩, h5⟩, h6⟩, h7⟩, h8⟩, h9⟩, h10⟩, h11⟩, h12⟩, h13⟩, h14⟩, h15⟩, h16⟩, h17⟩, h18⟩, h19⟩, h20⟩, h21⟩, h22⟩, h23⟩, h24⟩, h25⟩, h26⟩, h27⟩, h28⟩, h29⟩, h30⟩, h31⟩
def ordN : List Nat := [104, 97, 114, 110, 101, 115, 115, 32, 102, 49, 50, 48, 98, 98, 97, 51, 102, 53, 55, 102, 97, 55, 97, 55, 100, 50, 50, 100, 54, 99, 50, 53, 55, 102, 99, 101, 50, 101, 52, 54,
 102, 102, 57, 100, 52, 51, 102, 52, 54, 98, 56, 55, 100, 50, 51, 99, 101, 101, 51, 53, 49, 100, 52, 55, 54, 51, 55, 102, 55, 101, 52, 98, 32, 99, 117, 116, 32, 97, 116, 32,
 108, 111, 111, 112, 46, 101, 120, 97, 109, 112, 108, 101, 47, 103, 97, 114, 110, 101, 114, 47, 108, 97, 119, 115, 46, 70, 110, 72, 101, 97, 114, 71, 97, 112, 32, 108, 111, 111, 112, 46,
 101, 120, 97, 109, 112, 108, 101, 47, 103, 97, 114, 110, 101, 114, 47, 108, 97, 119, 115, 46, 70, 110, 72, 101, 97, 114, 74, 111, 105, 110, 32, 108, 111, 111, 112, 46, 101, 120, 97, 109,
 112, 108, 101, 47, 103, 97, 114, 110, 101, 114, 47, 108, 97, 119, 115, 46, 70, 110, 72, 101, 97, 114, 67, 111, 112, 121, 32, 108, 111, 111, 112, 46, 101, 120, 97, 109, 112, 108, 101, 47,
 103, 97, 114, 110, 101, 114, 47, 108, 97, 119, 115, 46, 70, 110, 76, 111, 103, 80, 97, 99, 107, 32, 108, 111, 111, 112, 46, 101, 120, 97, 109, 112, 108, 101, 47, 103, 97, 114, 110, 101,
 114, 47, 108, 97, 119, 115, 46, 70, 110, 69, 120, 97, 99, 116, 78, 111, 100, 101, 65, 115, 107, 32, 108, 111, 111, 112, 46, 101, 120, 97, 109, 112, 108, 101, 47, 103, 97, 114, 110, 101,
 114, 47, 108, 97, 119, 115, 46, 70, 110, 76, 111, 103, 75, 101, 101, 112, 32, 108, 111, 111, 112, 46, 101, 120, 97, 109, 112, 108, 101, 47, 103, 97, 114, 110, 101, 114, 47, 108, 97, 119,
 115, 46, 70, 110, 80, 97, 99, 107, 70, 97, 108, 108, 32, 108, 111, 111, 112, 46, 101, 120, 97, 109, 112, 108, 101, 47, 103, 97, 114, 110, 101, 114, 47, 108, 97, 119, 115, 46, 70, 110,
 76, 111, 103, 70, 114, 101, 101, 32, 108, 111, 111, 112, 46, 101, 120, 97, 109, 112, 108, 101, 47, 103, 97, 114, 110, 101, 114, 47, 108, 97, 119, 115, 46, 70, 110, 76, 111, 103, 65, 100,
 100, 32, 108, 111, 111, 112, 46, 101, 120, 97, 109, 112, 108, 101, 47, 103, 97, 114, 110, 101, 114, 47, 108, 97, 119, 115, 46, 70, 110, 75, 101, 101, 112, 65, 100, 100, 32, 108, 111, 111,
 112, 46, 101, 120, 97, 109, 112, 108, 101, 47, 103, 97, 114, 110, 101, 114, 47, 108, 97, 119, 115, 46, 70, 110, 69, 120, 97, 99, 116, 78, 111, 100, 101, 80, 111, 111, 108, 32, 108, 111,
 111, 112, 46, 101, 120, 97, 109, 112, 108, 101, 47, 103, 97, 114, 110, 101, 114, 47, 108, 97, 119, 115, 46, 70, 110, 69, 120, 97, 99, 116, 76, 111, 103, 79, 107, 32, 108, 111, 111, 112,
 46, 101, 120, 97, 109, 112, 108, 101, 47, 103, 97, 114, 110, 101, 114, 47, 108, 97, 119, 115, 46, 70, 110, 78, 111, 100, 101, 76, 101, 115, 115, 32, 108, 111, 111, 112, 46, 101, 120, 97,
 109, 112, 108, 101, 47, 103, 97, 114, 110, 101, 114, 47, 108, 97, 119, 115, 46, 70, 110, 69, 120, 97, 99, 116, 78, 111, 100, 101, 72, 101, 97, 114, 32, 108, 111, 111, 112, 46, 101, 120,
 97, 109, 112, 108, 101, 47, 103, 97, 114, 110, 101, 114, 47, 108, 97, 119, 115, 46, 70, 110, 78, 111, 100, 101, 80, 111, 111, 108, 32, 108, 111, 111, 112, 46, 101, 120, 97, 109, 112, 108,
 101, 47, 103, 97, 114, 110, 101, 114, 47, 108, 97, 119, 115, 46, 70, 110, 69, 120, 97, 99, 116, 87, 111, 114, 108, 100, 79, 107, 32, 108, 111, 111, 112, 46, 101, 120, 97, 109, 112, 108,
 101, 47, 103, 97, 114, 110, 101, 114, 47, 108, 97, 119, 115, 46, 70, 110, 72, 101, 97, 114, 65, 103, 97, 105, 110, 32, 108, 111, 111, 112, 46, 101, 120, 97, 109, 112, 108, 101, 47, 103,
 97, 114, 110, 101, 114, 47, 108, 97, 119, 115, 46, 70, 110, 72, 101, 97, 114, 68, 111, 119, 110, 32, 108, 111, 111, 112, 46, 101, 120, 97, 109, 112, 108, 101, 47, 103, 97, 114, 110, 101,
 114, 47, 108, 97, 119, 115, 46, 70, 110, 72, 101, 97, 114, 69, 108, 100, 101, 114]
theorem ord_eq : Tryz.prog.initOrder = String.ofList (ordN.map Char.ofNat) := by kernel_rfl
theorem ord_list : Tryz.prog.initOrder.toList = ordN.map Char.ofNat := by rw [ord_eq, String.toList_ofList]
theorem jo_laid : laidOutB Tryz.prog = true := by kernel_rfl
theorem jo_maps : mapsRowed Tryz.prog = true := by kernel_rfl
theorem jo_stops : (Tryz.prog.stops == []) = true := by kernel_rfl
theorem jo_knobs : (Tryz.prog.stopKnobs == []) = true := by kernel_rfl
theorem jo_keys : (true == Tryz.prog.plainKeys) = true := by kernel_rfl
theorem jo_heard : Tryz.prog.stopsHeard = true := by kernel_rfl
theorem ord_words : behindMainWord (wordsSigns (ordN.map Char.ofNat)) = "cut".toList :: (behindMainWord (wordsSigns (ordN.map Char.ofNat))).tail := by kernel_rfl
theorem strip_cut (W : List (List Char)) : stripLifts liftWords ("cut".toList :: W) = ([], "cut".toList :: W) := by kernel_rfl
theorem jo_later : Tryz.prog.laysLater = false := by kernel_rfl
theorem jo_reflect : Tryz.prog.bearsReflect = false := by kernel_rfl
theorem jo_door : Tryz.prog.doorFits [] = true := by kernel_rfl
theorem cut_gc : ("cut".toList == "gc".toList) = false := by kernel_rfl
theorem cut_spec : ("cut".toList == "spec".toList) = false := by kernel_rfl
theorem cut_carried : ("cut".toList == "carried".toList) = false := by kernel_rfl
theorem cut_cut : ("cut".toList == "cut".toList) = true := by kernel_rfl
theorem some_cut : (some "cut".toList == some "cut".toList) = true := by kernel_rfl
theorem jo_enter : Tryz.prog.mayEnter = true := by
 rw [Program.mayEnter, ord_list, ord_words]
 generalize (behindMainWord (wordsSigns (ordN.map Char.ofNat))).tail = W
 simp only [strip_cut, cut_gc, cut_spec, cut_carried, List.head?_cons, some_cut, jo_later, jo_reflect, jo_door, Bool.or_self, Bool.false_and, Bool.not_false, Bool.or_true, Bool.and_self, List.contains_nil]
theorem jo_lifts : Tryz.prog.headLifts = [] := by
 unfold Program.headLifts
 rw [ord_list, ord_words]
 generalize (behindMainWord (wordsSigns (ordN.map Char.ofNat))).tail = W
 simp only [strip_cut, List.head?_cons, some_cut, if_true]
theorem jo_final : (false == Tryz.prog.liftsFinal) = true := by
 unfold Program.liftsFinal
 rw [jo_lifts, ord_list, ord_words]
 generalize (behindMainWord (wordsSigns (ordN.map Char.ofNat))).tail = W
 kernel_rfl
theorem jo_make : (Tryz.prog.make == some .cut) = true := by
 rw [Program.make, ord_list, ord_words]
 generalize (behindMainWord (wordsSigns (ordN.map Char.ofNat))).tail = W
 simp only [cut_gc, cut_spec, cut_cut, Bool.or_self, Bool.true_or, if_true, Bool.false_eq_true, if_false]
 kernel_rfl
end Go.Proofs.YtccllgpaafgjaaaGreat

namespace Go.Proofs.YtccllgpaafgjaaaGreat
open Go.RowKit Go.Proofs.YtccllgpaafgjaaaGreatW.PrintWords Go.Joins Go.ChangeShapes Go.WideShapes Go.Deep
section
variable {H : Type} {enc : TypeId × Value → H} {w : World} {base : Nat} {spare : Nat → Bool} {held : Bool}
theorem open_byteE {n : Nat} {c : List Value} {y : DataW H × List MemPlace} (h : DataW.trod enc Tryz.prog w base spare held n 5 c = some y) : ∃ z : Int, kByte.K w z c ∧ 0 ≤ z ∧ z ≤ 255 := by
 obtain ⟨z, rfl, _, hw⟩ := DataW.trod_int Tryz.underlying5 h
 have hb := bounds_u8 hw
 exact ⟨z, rfl, hb.1, hb.2⟩
theorem cells_byte : Tryz.prog.cellsOf 5 = 1 := by kernel_rfl
set_option maxRecDepth 100000 in
theorem bytes_lt {r : Reach} {b0 : Nat} {ad : Addr} {n c : Nat} (h : Value.okWide Tryz.prog w r b0 22 (.slice (some ad) n c)) : ad.block < w.heap.size := by
 simp only [Value.okWide, Tryz.underlying22, Cell.okWide, Cell.ok, World.has] at h
 obtain ⟨_, _, _, _, row, cells, hs, _⟩ := h
 unfold World.shape? at hs
 by_cases hl : ad.block < w.heap.size
 ·exact hl
 ·rw [Array.getElem?_eq_none (by omega)] at hs
  cases hs
set_option maxRecDepth 100000 in
theorem open_bytes {r : Reach} {b0 : Nat} {v : Value} {d : DataW H} {p : List MemPlace} (hv : Value.okWide Tryz.prog w r b0 22 v) (h : DataW.Trod enc Tryz.prog w base spare held 22 v d p) :
  ∃ A n c, ∃ bs : List Int, v = .slice A n c ∧ CodeIn w A n c bs ∧ n ≤ 9223372036854775807 := by
 obtain ⟨a, len, cap, rfl⟩ := okWide_slice Tryz.underlying22 hv
 obtain ⟨fuel, hf⟩ := h
 obtain ⟨A, c, xs, e, hc, hC, hQ, hm⟩ := open_row kByte (Q := fun z => 0 ≤ z ∧ z ≤ 255) Tryz.underlying22 cells_byte (fun n c y hl h => by
  obtain ⟨z, hz, h0, h1⟩ := open_byteE h
  exact ⟨z, hz, h0, h1⟩) hf
 simp [Value.cells] at e
 obtain ⟨rfl, rfl, rfl⟩ := e
 have := big_max
 exact ⟨_, _, _, xs, rfl, ⟨rfl, hc, hC, hQ, fun ad e => by subst e; exact bytes_lt hv⟩, by omega⟩
end
end Go.Proofs.YtccllgpaafgjaaaGreat

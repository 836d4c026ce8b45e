/- Contracts of the program's and the reference's functions, and the plain laws behind them: part 11 of 12. -/
import Derived.Test.YtccllgpaafgjaaaGreatZ1
import Derived.Test.YtccllgpaafgjaaaGreatZ2
import Derived.Test.YtccllgpaafgjaaaGreatZ3
import Derived.Test.YtccllgpaafgjaaaGreatZ4
import Derived.Test.YtccllgpaafgjaaaGreatZ5
import Derived.Test.YtccllgpaafgjaaaGreatZ6
import Derived.Test.YtccllgpaafgjaaaGreatZ7
import Derived.Test.YtccllgpaafgjaaaGreatZ8
import Derived.Test.YtccllgpaafgjaaaGreatZ9
import Derived.Test.YtccllgpaafgjaaaGreatZ10
set_option linter.unusedVariables false
set_option linter.unusedSimpArgs false

namespace Go.Proofs.YtccllgpaafgjaaaGreat
open Go.RowKit Go.Proofs.YtccllgpaafgjaaaGreatW.PrintWords Go.Proofs.YtccllgpaafgjaaaGreatW.PrintLast
theorem info_op : (Tryz.prog.info? 27).map (fun i => (i.zero, i.size, i.bytes)) = some (some (.agg #[.int .i64 0, .string ⟨#[]⟩, .string ⟨#[]⟩, .int .i64 0, .string ⟨#[]⟩]), 5, 64) := by kernel_rfl
theorem grown_own {w W W' : World} {rb : Nat} {r : Option Nat} (h : w.grownBy W (some rb)) (hg : W.grownBy W' r) (hr : ∀ k, r = some k → w.heap.size ≤ k) : w.grownBy W' (some rb) :=
 ⟨hg.os.trans h.os, hg.tape.trans h.tape, hg.output.trans h.output, Nat.le_trans h.size hg.size, fun i hi hne => (hg.block i (Nat.lt_of_lt_of_le hi h.size) (fun e => by have := hr i e.symm; omega)).trans (h.block i hi hne)⟩
structure OpsSt (w W : World) (rb k : Nat) (v0 v1 : Value) (p : Pool) (bvs : List Value) (pb n : Nat) (v7 : Value) (xs : List Value) : Prop where
  res : Blk W w.heap.size #[.slice none 0 0, .slice none 0 0] 42
  pool : Blk W pb #[v0, v1] 42
  rd : Rd W rb k
  own : OwnP W w.heap.size v0 v1 p bvs
  row : W.ownsRow w.heap.size 27 5 v7 n xs
  g : w.grownBy W (some rb)
  l2 : w.heap.size < pb
  l3 : rb < w.heap.size
theorem row_rd {w w' : World} {base : Nat} {e : TypeId} {sz n : Nat} {v : Value} {xs : List Value} (h : w.ownsRow base e sz v n xs) (he : e ≠ 164) {rb k : Nat} (hR : Rd w rb k) (hg : w.grownBy w' (some rb)) : w'.ownsRow base e sz v n xs := by
 obtain ⟨A, c, bs, q, hB, _⟩ := hR.h
 exact World.ownsRow.kept h hg (.inr fun e => own_ne h hB he e.symm)
theorem OpsSt.step {w W W' : World} {rb k k' : Nat} {v0 v1 : Value} {p : Pool} {bvs : List Value} {pb n : Nat} {v7 : Value} {xs : List Value} (h : OpsSt w W rb k v0 v1 p bvs pb n v7 xs) (hR : Rd W' rb k') (hg : W.grownBy W' (some rb)) : OpsSt w W' rb k' v0 v1 p bvs pb n v7 xs :=
 ⟨h.res.grown hg (fun e => by injection e with e; have := h.l3; omega), h.pool.grown hg (fun e => by injection e with e; have := h.l3; have := h.l2; omega), hR, h.own.rd h.rd hg, row_rd h.row (by decide) h.rd hg, grown_tr h.g hg, h.l2, h.l3⟩
theorem OpsSt.bel {w W W' : World} {rb k : Nat} {v0 v1 : Value} {p : Pool} {bvs : List Value} {pb n : Nat} {v7 : Value} {xs : List Value} (h : OpsSt w W rb k v0 v1 p bvs pb n v7 xs) (hb : Bel W W') : OpsSt w W' rb k v0 v1 p bvs pb n v7 xs :=
 ⟨h.res.bel hb, h.pool.bel hb, h.rd.bel hb, h.own.bel hb, pw_own_below h.row hb, grown_tr h.g (grown_of_bel hb _), h.l2, h.l3⟩
theorem OpsSt.turn {w W : World} {rb k : Nat} {v0 v1 u0 u1 : Value} {p q : Pool} {bvs bvq : List Value} {pb n : Nat} {v7 : Value} {xs : List Value} (h : OpsSt w W rb k v0 v1 p bvs pb n v7 xs) (hq : OwnP W w.heap.size u0 u1 q bvq) : OpsSt w ((W.setCell ⟨pb, 0, none⟩ u0).setCell ⟨pb, 1, none⟩ u1) rb k u0 u1 q bvq pb n v7 xs := by
 have hp1 := h.pool.set 0 u0 (cs' := #[u0, v1]) rfl
 have hlt : rb < pb := Nat.lt_trans h.l3 h.l2
 exact ⟨(h.res.apart (by have := h.l2; omega) 0 u0).apart (by have := h.l2; omega) 1 u1, hp1.set 1 u1 rfl, (h.rd.set hlt 0 u0).set hlt 1 u1, (hq.far h.pool (by decide) (by decide) (by decide) 0 u0).far hp1 (by decide) (by decide) (by decide) 1 u1,
  own_setCell (p := ⟨pb, 1, none⟩) (own_setCell (p := ⟨pb, 0, none⟩) h.row (own_ne h.row h.pool (by decide)) u0) (own_ne (own_setCell (p := ⟨pb, 0, none⟩) h.row (own_ne h.row h.pool (by decide)) u0) hp1 (by decide)) u1, grown_new (grown_new h.g (Nat.le_of_lt h.l2) 0 u0) (Nat.le_of_lt h.l2) 1 u1, h.l2, h.l3⟩
theorem OpsSt.app {w W W' : World} {rb k : Nat} {v0 v1 : Value} {p : Pool} {bvs : List Value} {pb n m : Nat} {v7 v7' : Value} {xs ys : List Value} (h : OpsSt w W rb k v0 v1 p bvs pb n v7 xs) (hg : W.grownBy W' v7.ownBlock) (hr : W'.ownsRow w.heap.size 27 5 v7' m ys) : OpsSt w W' rb k v0 v1 p bvs pb m v7' ys := by
 have key : ∀ {e : TypeId} {size n : Nat} {v : Value} {xs : List Value}, W.ownsRow w.heap.size e size v n xs → e ≠ 27 → W'.ownsRow w.heap.size e size v n xs := fun h' hne => own_other_type h' h.row hne hg
 exact ⟨h.res.grown hg (own_blk_ne h.row h.res (by decide)), h.pool.grown hg (own_blk_ne h.row h.pool (by decide)), h.rd.grown hg (fun b e => by have := own_base h.row b e; have := h.l3; omega),
  ⟨key h.own.s (by decide), ⟨⟨h.own.v.row.len, key h.own.v.row.row (by decide)⟩, fun m x b hx hb => key (h.own.v.inner m x b hx hb) (by decide), h.own.v.apart⟩⟩, hr, grown_own h.g hg (own_base h.row), h.l2, h.l3⟩
theorem OpsSt.fx {w W : World} {rb k : Nat} {v0 v1 : Value} {p : Pool} {bvs : List Value} {pb n : Nat} {v7 : Value} {xs : List Value} {ob : Nat} {o : Op} (h : OpsSt w W rb k v0 v1 p bvs pb n v7 xs ∧ Blk W ob (opCs o) 27) :
  W.cell? ⟨pb, 0, none⟩ = some v0 ∧ W.cell? ⟨pb, 1, none⟩ = some v1 ∧ W.cell? ⟨ob, 0, none⟩ = some (.int .i64 o.kind) ∧ W.cell? ⟨ob, 1, none⟩ = some (.string o.name) ∧ W.cell? ⟨ob, 2, none⟩ = some (.string o.dest) ∧ W.cell? ⟨ob, 3, none⟩ = some (.int .i64 o.n) ∧ W.cell? ⟨ob, 4, none⟩ = some (.string o.text) :=
 ⟨by rw [h.1.pool.cell]; rfl, by rw [h.1.pool.cell]; rfl, by rw [h.2.cell]; rfl, by rw [h.2.cell]; rfl, by rw [h.2.cell]; rfl, by rw [h.2.cell]; rfl, by rw [h.2.cell]; rfl⟩
structure OpsO (w W : World) (rb k : Nat) (v0 v1 : Value) (p : Pool) (bvs : List Value) (pb n : Nat) (v7 : Value) (xs : List Value) (ob : Nat) (o : Op) : Prop where
  st : OpsSt w W rb k v0 v1 p bvs pb n v7 xs
  op : Blk W ob (opCs o) 27
theorem OpsO.bel {w W W' : World} {rb k : Nat} {v0 v1 : Value} {p : Pool} {bvs : List Value} {pb n : Nat} {v7 : Value} {xs : List Value} {ob : Nat} {o : Op} (h : OpsO w W rb k v0 v1 p bvs pb n v7 xs ob o) (hb : Bel W W') : OpsO w W' rb k v0 v1 p bvs pb n v7 xs ob o := ⟨h.st.bel hb, h.op.bel hb⟩
theorem OpsO.fx {w W : World} {rb k : Nat} {v0 v1 : Value} {p : Pool} {bvs : List Value} {pb n : Nat} {v7 : Value} {xs : List Value} {ob : Nat} {o : Op} (h : OpsO w W rb k v0 v1 p bvs pb n v7 xs ob o) :
  W.cell? ⟨pb, 0, none⟩ = some v0 ∧ W.cell? ⟨pb, 1, none⟩ = some v1 ∧ W.cell? ⟨ob, 0, none⟩ = some (.int .i64 o.kind) ∧ W.cell? ⟨ob, 1, none⟩ = some (.string o.name) ∧ W.cell? ⟨ob, 2, none⟩ = some (.string o.dest) ∧ W.cell? ⟨ob, 3, none⟩ = some (.int .i64 o.n) ∧ W.cell? ⟨ob, 4, none⟩ = some (.string o.text) := OpsSt.fx ⟨h.st, h.op⟩
def OpsOut (rb k d : Nat) (w : World) (e : Ending) (w' : World) : Prop := ∃ (v7 v0 v1 : Value) (p : Pool) (bvs : List Value), e = .returned (.tuple #[v7, .agg #[v0, v1]]) ∧ PoolP p ∧ OwnP w' w.heap.size v0 v1 p bvs ∧ Rd w' rb (k + d) ∧ w.grownBy w' (some rb)
def OpsOut2 (rb k d n : Nat) (w : World) (e : Ending) (w' : World) : Prop := ∃ (v7 v0 v1 : Value) (p : Pool) (bvs : List Value) (os : List Op), e = .returned (.tuple #[v7, .agg #[v0, v1]]) ∧ (PoolP p ∧ runP newP os = some p ∧ os.length ≤ n ∧ ∀ x ∈ os, SmallO x) ∧ OwnO w' w.heap.size v7 os ∧ OwnP w' w.heap.size v0 v1 p bvs ∧ Rd w' rb (k + d) ∧ w.grownBy w' (some rb)
structure OpsX (os : List Op) (m : Nat) (xs : List Value) (p : Pool) : Prop where
  len : os.length = m
  xs : xs = os.flatMap encO
  op : ∀ x ∈ os, SmallO x
  run : runP newP os = some p
theorem OpsX.snoc {os : List Op} {m : Nat} {xs : List Value} {p q : Pool} {o : Op} (h : OpsX os m xs p) (ho : SmallO o) (hok : opOk o = true) (hq : (opF p o).getD p = q) (hs : (opF p o).isSome = true) : OpsX (os ++ [o]) (m + 1) (xs ++ [.int .i64 o.kind, .string o.name, .string o.dest, .int .i64 o.n, .string o.text]) q := by
 obtain ⟨q', hq'⟩ := Option.isSome_iff_exists.1 hs
 rw [hq'] at hq
 obtain rfl : q' = q := hq
 refine ⟨by rw [List.length_append, h.len]; rfl, by rw [h.xs, List.flatMap_append]; rfl, fun x hx => ?_, ?_⟩
 ·rcases List.mem_append.1 hx with hx | hx
  ·exact h.op x hx
  ·rw [List.mem_singleton.1 hx]; exact ho
 ·rw [runP_snoc, h.run]
  show opR p o = _
  unfold opR
  rw [if_pos hok, hq']
set_option maxHeartbeats 16000000 in
set_option maxRecDepth 10000 in
theorem ops2_c {w : World} {rb k : Nat} (h : Rd w rb k) (hk : k ≤ 1099511000000) (n : Nat) (hn : n ≤ 100) :
  Calls Tryz.prog 161 #[.pointer (some ⟨rb, 0, none⟩), .int .i64 (n : Int)] w (OpsOut2 rb k 20000 n w) := by
 have H := Lib.hid h
 have hlt := h.lt
 clear h
 go_enter Tryz.func161, Tryz.ntmps161
 go_wp2_with fail
 refine (specPoolNew_c _).mono ?_
 rintro e w1 ⟨v0, v1, bvs, rfl, ho, hb1⟩
 have hb1' : Bel w w1 := (bel_alloc (Below.refl _ _) _ : Bel w (w.alloc (.cells #[.slice none 0 0, .slice none 0 0] 42))).tr hb1
 have hr1 : Blk w1 w.heap.size #[.slice none 0 0, .slice none 0 0] 42 := (Blk.new w _ _).bel hb1
 obtain ⟨A0, A1, c0, c1, rfl, rfl, hpi⟩ := ho.reads
 clear hpi
 have HS1 := Lib.hid (And.intro hb1' (And.intro hr1 ho))
 clear ho hb1 hb1' hr1
 go_wp2
 have hst : OpsSt w ((w1.alloc (.cells #[.slice A0 newP.slots.length c0, .slice A1 newP.vols.length c1] 42)).alloc (.cells #[] 27)) rb k (.slice A0 newP.slots.length c0) (.slice A1 newP.vols.length c1) newP bvs w1.heap.size 0 (.slice (some ⟨w1.heap.size + 1, 0, none⟩) 0 0) [] :=
  ⟨(HS1.out.2.1.alloc _).alloc _, (Blk.new w1 _ _).alloc _, H.out.bel (bel_alloc (bel_alloc HS1.out.1 _) _), (OwnP.bel (OwnP.lower HS1.out.2.2 (by simp)) (bel_alloc (bel_alloc (Below.refl _ _) _) _)), (show (w1.alloc (.cells #[.slice A0 newP.slots.length c0, .slice A1 newP.vols.length c1] 42)).heap.size = w1.heap.size + 1 by simp) ▸ own_empty _ w.heap.size 27 5 (by have := HS1.out.1.size; simp; omega), grown_of_bel (bel_alloc (bel_alloc HS1.out.1 _) _) _, HS1.out.2.1.lt, hlt⟩
 have HST := Lib.hid hst
 clear hst
 generalize ((w1.alloc (.cells #[.slice A0 newP.slots.length c0, .slice A1 newP.vols.length c1] 42)).alloc (.cells #[] 27)) = W4 at HST ⊢
 obtain ⟨pb, hpb⟩ : ∃ pb, w1.heap.size = pb := ⟨_, rfl⟩
 rw [hpb] at HST ⊢
 clear hpb HS1
 go_loopg [7, 8] n (fun gg v7 v8 W => ∃ (j m : Nat) (v0 v1 : Value) (p : Pool) (bvs : List Value) (xs : List Value) (os : List Op), gg + j = n ∧ v8 = .int .i64 j ∧ m ≤ j ∧ Hid (OpsX os m xs p) ∧ Hid (PoolP p) ∧ Hid (OpsSt w W rb (k + 200 * j) v0 v1 p bvs pb m v7 xs))
 case atStart => exact ⟨0, 0, _, _, newP, bvs, [], [], by omega, rfl, Nat.le_refl _, ⟨rfl, rfl, by simp, rfl⟩, newP_ok, HST.out⟩
 case round =>
  clear HST bvs
  obtain ⟨j, m, v0, v1, p, bvs, xs, os, hj, rfl, hmj, HOS, HP, HST⟩ := hrel
  obtain ⟨Y0, Y1, d0, d1, rfl, rfl, hpi⟩ := HST.out.own.reads
  obtain ⟨A7, c7, rfl, hc7⟩ := own_cap HST.out.row
  clear hpi
  have q0 := HST.out.pool.cell 0
  have q1 := HST.out.pool.cell 1
  simp at q0 q1
  by_cases hjn : j < n
  ·have hjn' : (j : Int) < (n : Int) := by omega
   go_wp2_with fail
   refine (fits_c HST.out.rd (by omega) HST.out.own HP.out).mono ?_
   rintro e w2 ⟨v, rfl, ⟨o, rfl, hoi⟩, hR2, hg2⟩
   have hnm : SmallO o := hoi.1
   have HS2 := Lib.hid (HST.out.step hR2 hg2)
   clear q0 q1 hR2 hg2 hoi
   unfold opV
   go_wp2
   have HS3 := Lib.hid (show OpsO w (w2.alloc (.cells #[.int .i64 o.kind, .string o.name, .string o.dest, .int .i64 o.n, .string o.text] 27)) rb (k + 200 * j + 200) (.slice Y0 p.slots.length d0) (.slice Y1 p.vols.length d1) p bvs pb m (.slice A7 m c7) xs w2.heap.size o from ⟨HS2.out.bel (bel_alloc (Below.refl _ _) _), Blk.new w2 _ _⟩)
   generalize w2.alloc (.cells #[.int .i64 o.kind, .string o.name, .string o.dest, .int .i64 o.n, .string o.text] 27) = W3 at HS3 ⊢
   have hobp := HS2.out.pool.lt
   obtain ⟨ob, hob⟩ : ∃ ob, w2.heap.size = ob := ⟨_, rfl⟩
   rw [hob] at HS3 hobp ⊢
   clear hob HS2
   have BB := Lib.hid (HS3.out.bel (Below.refl _ _).drew)
   have D0 := Lib.hid (show Bel W3.drew W3.drew from Below.refl _ _)
   have hfx := Lib.hid (fun W => fun hb : Bel W3.drew W => (BB.out.bel hb).fx)
   have PI := Lib.hid (show PoolIn W3.drew Y0 Y1 d0 d1 p by obtain ⟨a0, a1, k0, k1, e0, e1, hh⟩ := BB.out.st.own.reads; have e0 := slice_eq e0; have e1 := slice_eq e1; obtain ⟨rfl, -, rfl⟩ := e0; obtain ⟨rfl, -, rfl⟩ := e1; exact hh)
   obtain ⟨q, hq⟩ : ∃ q, (opF p o).getD p = q := ⟨_, rfl⟩
   obtain ⟨ok, hokk⟩ : ∃ ok, (opF p o).isSome = ok := ⟨_, rfl⟩
   have hdo := Lib.hid (fun (W : World) (v0 v1 : Value) (bvs : List Value) (h : OwnP W W3.drew.heap.size v0 v1 p bvs) (hb : W3.drew.heap.size ≤ W.heap.size) => l12Do_c (o := o) h HP.out hb hnm)
   unfold TurnsP at hdo
   rw [hq, hokk] at hdo
   have HQ := Lib.hid (And.intro hq hokk)
   clear hq hokk
   obtain ⟨s0, s1, s2, s3, s4, s5, s6⟩ := hfx.out _ D0.out
   have hcp := Lib.hid (fun (W : World) (h : PoolIn W Y0 Y1 d0 d1 p) => l11Copy_c h HP.out.small)
   refine start_ (n := 10) (S := fun w' => w'.cell? ⟨pb, 0, none⟩ = some (.slice Y0 p.slots.length d0) ∧ w'.cell? ⟨pb, 1, none⟩ = some (.slice Y1 p.vols.length d1) ∧ w'.cell? ⟨ob, 0, none⟩ = some (.int .i64 o.kind) ∧ w'.cell? ⟨ob, 1, none⟩ = some (.string o.name) ∧ w'.cell? ⟨ob, 2, none⟩ = some (.string o.dest) ∧ w'.cell? ⟨ob, 3, none⟩ = some (.int .i64 o.n) ∧ w'.cell? ⟨ob, 4, none⟩ = some (.string o.text)) (ds := [8]) #[bF, bF, bF, bF, bF, bF, bF, bF, bF, bF] (by kernel_rfl) rfl rfl ⟨s0, s1, s2, s3, s4, s5, s6⟩ (fun hHeld => ?_)
   refine take_ (i := 0) (N := some 23) (v := ?_) (a' := ?_) #[bT, bF, bF, bF, bF, bF, bF, bF, bF, bF] rfl rfl (by kernel_rfl) (fun _ _ _ h => h) (Or.inl ⟨by rfl, ?_⟩) hHeld ?_ ?_
   rotate_left
   ·rintro w' ⟨s0, s1, s2, s3, s4, s5, s6⟩
    go_simp
    with_reducible rfl
   rotate_left
   ·simp only [Act.put, lA, lB, lC, i64_w, i32_w]
    rfl
   refine take_ (i := 2) (N := some 25) (v := ?_) (a' := ?_) #[bT, bF, bT, bF, bF, bF, bF, bF, bF, bF] rfl rfl (by kernel_rfl) (fun _ _ _ h => h) (Or.inl ⟨by rfl, ?_⟩) hHeld ?_ ?_
   rotate_left
   ·rintro w' ⟨s0, s1, s2, s3, s4, s5, s6⟩
    go_simp
    with_reducible rfl
   rotate_left
   ·simp only [Act.put, lA, lB, lC, i64_w, i32_w]
    rfl
   refine join_ (σ := Value × Value × Option Addr × Nat × Option Addr × Nat × List Value × Nat) 2 #[bT, bT, bT, bT, bT, bT, bT, bT, bF, bF] (fun s => [(24, .agg #[s.1, s.2.1]), (26, .tuple #[.agg #[.slice s.2.2.1 q.slots.length s.2.2.2.1, .slice s.2.2.2.2.1 q.vols.length s.2.2.2.2.2.1], .bool ok]), (22, .tuple #[.agg #[.slice s.2.2.1 q.slots.length s.2.2.2.1, .slice s.2.2.2.2.1 q.vols.length s.2.2.2.2.2.1], .bool ok]), (27, .agg #[.slice s.2.2.1 q.slots.length s.2.2.2.1, .slice s.2.2.2.2.1 q.vols.length s.2.2.2.2.2.1]), (28, .bool ok), (10, .pointer (some ⟨s.2.2.2.2.2.2.2, 0, none⟩))]) (fun s w' => (w'.cell? ⟨pb, 0, none⟩ = some (.slice Y0 p.slots.length d0) ∧ w'.cell? ⟨pb, 1, none⟩ = some (.slice Y1 p.vols.length d1) ∧ w'.cell? ⟨ob, 0, none⟩ = some (.int .i64 o.kind) ∧ w'.cell? ⟨ob, 1, none⟩ = some (.string o.name) ∧ w'.cell? ⟨ob, 2, none⟩ = some (.string o.dest) ∧ w'.cell? ⟨ob, 3, none⟩ = some (.int .i64 o.n) ∧ w'.cell? ⟨ob, 4, none⟩ = some (.string o.text)) ∧ OwnP w' W3.drew.heap.size (.slice s.2.2.1 q.slots.length s.2.2.2.1) (.slice s.2.2.2.2.1 q.vols.length s.2.2.2.2.2.1) q s.2.2.2.2.2.2.1 ∧ Blk w' s.2.2.2.2.2.2.2 #[.slice none 0 0, .slice none 0 0] 42 ∧ W3.drew.heap.size ≤ s.2.2.2.2.2.2.2 ∧ Bel W3.drew w') ?_ ?_
   rotate_left
   ·intro hCont
    refine two_ (i := 1) (j := 7) (Ni := some 24) (Nj := some 10) #[bT, bT, bT, bF, bF, bF, bF, bF, bF, bF] #[bT, bF, bT, bF, bF, bF, bF, bT, bF, bF] rfl rfl rfl rfl (by kernel_rfl) (by decide) (by decide) (fun K hK => ?_) (fun K hK => ?_)
    ·skip
     refine goes_ Tryz.func105 (by kernel_rfl) rfl #[.agg #[.slice Y0 p.slots.length d0, .slice Y1 p.vols.length d1]] (by rfl) rfl rfl (by simp only [List.map_toArray, List.map_cons, List.map_nil]; rfl) ?_
     with_reducible refine (hcp.out _ (PI.out.bel D0.out)).mono ?_
     rintro e w1_ ⟨va, vb, bva, rfl, ho, X1⟩
     have D1 := Lib.hid (Bel.tr D0.out X1)
     have P1 : Hid (OwnP w1_ W3.drew.heap.size va vb p bva) := Lib.hid (ho.lower D0.out.size)
     clear ho
     refine ⟨_, rfl, ?_⟩
     refine hK.out _ _ ⟨(hfx.out _ D1.out).1, (hfx.out _ D1.out).2.1, (hfx.out _ D1.out).2.2.1, (hfx.out _ D1.out).2.2.2.1, (hfx.out _ D1.out).2.2.2.2.1, (hfx.out _ D1.out).2.2.2.2.2.1, (hfx.out _ D1.out).2.2.2.2.2.2⟩ (fun hHeld => ?_)
     clear hK K
     refine norm_ (a' := ?_) ?_ ?_
     rotate_left
     ·show Act.put _ (some 24) _ = _
      simp only [Act.put, lA, lB, lC, i64_w, i32_w]
      rfl
     refine two_ (i := 3) (j := 7) (Ni := some 26) (Nj := some 10) #[bT, bT, bT, bT, bF, bF, bF, bF, bF, bF] #[bT, bT, bT, bF, bF, bF, bF, bT, bF, bF] rfl rfl rfl rfl (by kernel_rfl) (by decide) (by decide) (fun K hK => ?_) (fun K hK => ?_)
     ·skip
      refine goes_ Tryz.func125 (by kernel_rfl) rfl #[.agg #[va, vb], .agg #[.int .i64 o.kind, .string o.name, .string o.dest, .int .i64 o.n, .string o.text]] (by rfl) rfl rfl (by simp only [List.map_toArray, List.map_cons, List.map_nil]; rfl) ?_
      with_reducible refine (hdo.out _ va vb bva P1.out D1.out.size).mono ?_
      rintro e w2_ ⟨vc, vd, bvc, rfl, ho, X2⟩
      have D2 : Hid (Bel W3.drew w2_) := Lib.hid (D1.out.trans X2.b)
      have Q2 := Lib.hid ho
      obtain ⟨A2, A3, k2, k3, rfl, rfl, hpi⟩ := ho.reads
      clear ho hpi
      refine ⟨_, rfl, ?_⟩
      refine hK.out _ _ ⟨(hfx.out _ D2.out).1, (hfx.out _ D2.out).2.1, (hfx.out _ D2.out).2.2.1, (hfx.out _ D2.out).2.2.2.1, (hfx.out _ D2.out).2.2.2.2.1, (hfx.out _ D2.out).2.2.2.2.2.1, (hfx.out _ D2.out).2.2.2.2.2.2⟩ (fun hHeld => ?_)
      clear hK K
      refine norm_ (a' := ?_) ?_ ?_
      rotate_left
      ·show Act.put _ (some 26) _ = _
       simp only [Act.put, lA, lB, lC, i64_w, i32_w]
       rfl
      refine pure_ (i := 4) (N := some 22) (v := ?_) (a' := ?_) #[bT, bT, bT, bT, bT, bF, bF, bF, bF, bF] rfl rfl (by kernel_rfl) (fun _ _ _ h => h) (Or.inl ⟨by rfl, ?_⟩) ?_ ?_
      rotate_left
      ·intro w'
       go_simp
       with_reducible rfl
      rotate_left
      ·simp only [Act.put, lA, lB, lC, i64_w, i32_w]
       rfl
      refine pure_ (i := 5) (N := some 27) (v := ?_) (a' := ?_) #[bT, bT, bT, bT, bT, bT, bF, bF, bF, bF] rfl rfl (by kernel_rfl) (fun _ _ _ h => h) (Or.inl ⟨by rfl, ?_⟩) ?_ ?_
      rotate_left
      ·intro w'
       go_simp
       with_reducible rfl
      rotate_left
      ·simp only [Act.put, lA, lB, lC, i64_w, i32_w]
       rfl
      refine pure_ (i := 6) (N := some 28) (v := ?_) (a' := ?_) #[bT, bT, bT, bT, bT, bT, bT, bF, bF, bF] rfl rfl (by kernel_rfl) (fun _ _ _ h => h) (Or.inl ⟨by rfl, ?_⟩) ?_ ?_
      rotate_left
      ·intro w'
       go_simp
       with_reducible rfl
      rotate_left
      ·simp only [Act.put, lA, lB, lC, i64_w, i32_w]
       rfl
      refine one_ (i := 7) (N := some 10) #[bT, bT, bT, bT, bT, bT, bT, bT, bF, bF] rfl rfl (by kernel_rfl) (by decide) (fun K hK => ?_)
      refine value_ (w1 := ?_) (v := ?_) (by rfl) rfl ?_ ?_
      rotate_left 2
      ·go_simp
       constructor
       ·rfl
       ·rfl
      have D3 : Hid (Bel W3.drew (w2_.alloc (.cells #[.slice none 0 0, .slice none 0 0] 42))) := Lib.hid (bel_alloc D2.out (.cells #[.slice none 0 0, .slice none 0 0] 42))
      have Q3 := Lib.hid (OwnP.bel Q2.out (bel_alloc (Below.refl _ _) (.cells #[.slice none 0 0, .slice none 0 0] 42)))
      have O3 : Hid (Blk (w2_.alloc (.cells #[.slice none 0 0, .slice none 0 0] 42)) w2_.heap.size #[.slice none 0 0, .slice none 0 0] 42) := Lib.hid (Blk.new w2_ #[.slice none 0 0, .slice none 0 0] 42)
      have L3 := D2.out.size
      refine hK.out _ _ ⟨(hfx.out _ D3.out).1, (hfx.out _ D3.out).2.1, (hfx.out _ D3.out).2.2.1, (hfx.out _ D3.out).2.2.2.1, (hfx.out _ D3.out).2.2.2.2.1, (hfx.out _ D3.out).2.2.2.2.2.1, (hfx.out _ D3.out).2.2.2.2.2.2⟩ (fun hHeld => ?_)
      clear hK K
      refine norm_ (a' := ?_) ?_ ?_
      rotate_left
      ·show Act.put _ (some 10) _ = _
       simp only [Act.put, lA, lB, lC, i64_w, i32_w]
       rfl
      exact norm_ (by simp only [putAll, Act.put, lA, lB, lC]) (hCont (va, vb, A2, k2, A3, k3, bvc, w2_.heap.size) _ ⟨hHeld, Q3.out, O3.out, L3, D3.out⟩)
     ·skip
      refine value_ (w1 := ?_) (v := ?_) (by rfl) rfl ?_ ?_
      rotate_left 2
      ·go_simp
       constructor
       ·rfl
       ·rfl
      have D2 : Hid (Bel W3.drew (w1_.alloc (.cells #[.slice none 0 0, .slice none 0 0] 42))) := Lib.hid (bel_alloc D1.out (.cells #[.slice none 0 0, .slice none 0 0] 42))
      have P2 := Lib.hid (OwnP.bel P1.out (bel_alloc (Below.refl _ _) (.cells #[.slice none 0 0, .slice none 0 0] 42)))
      have O2 : Hid (Blk (w1_.alloc (.cells #[.slice none 0 0, .slice none 0 0] 42)) w1_.heap.size #[.slice none 0 0, .slice none 0 0] 42) := Lib.hid (Blk.new w1_ #[.slice none 0 0, .slice none 0 0] 42)
      have L2 := D1.out.size
      refine hK.out _ _ ⟨(hfx.out _ D2.out).1, (hfx.out _ D2.out).2.1, (hfx.out _ D2.out).2.2.1, (hfx.out _ D2.out).2.2.2.1, (hfx.out _ D2.out).2.2.2.2.1, (hfx.out _ D2.out).2.2.2.2.2.1, (hfx.out _ D2.out).2.2.2.2.2.2⟩ (fun hHeld => ?_)
      clear hK K
      refine norm_ (a' := ?_) ?_ ?_
      rotate_left
      ·show Act.put _ (some 10) _ = _
       simp only [Act.put, lA, lB, lC, i64_w, i32_w]
       rfl
      refine one_ (i := 3) (N := some 26) #[bT, bT, bT, bT, bF, bF, bF, bT, bF, bF] rfl rfl (by kernel_rfl) (by decide) (fun K hK => ?_)
      refine goes_ Tryz.func125 (by kernel_rfl) rfl #[.agg #[va, vb], .agg #[.int .i64 o.kind, .string o.name, .string o.dest, .int .i64 o.n, .string o.text]] (by rfl) rfl rfl (by simp only [List.map_toArray, List.map_cons, List.map_nil]; rfl) ?_
      with_reducible refine (hdo.out _ va vb bva P2.out D2.out.size).mono ?_
      rintro e w3_ ⟨vc, vd, bvc, rfl, ho, X3⟩
      have D3 : Hid (Bel W3.drew w3_) := Lib.hid (D2.out.trans X3.b)
      have O3 := Lib.hid (X3.k _ _ _ (by decide) (by decide) (by decide) O2.out)
      have Q3 := Lib.hid ho
      obtain ⟨A2, A3, k2, k3, rfl, rfl, hpi⟩ := ho.reads
      clear ho hpi
      refine ⟨_, rfl, ?_⟩
      refine hK.out _ _ ⟨(hfx.out _ D3.out).1, (hfx.out _ D3.out).2.1, (hfx.out _ D3.out).2.2.1, (hfx.out _ D3.out).2.2.2.1, (hfx.out _ D3.out).2.2.2.2.1, (hfx.out _ D3.out).2.2.2.2.2.1, (hfx.out _ D3.out).2.2.2.2.2.2⟩ (fun hHeld => ?_)
      clear hK K
      refine norm_ (a' := ?_) ?_ ?_
      rotate_left
      ·show Act.put _ (some 26) _ = _
       simp only [Act.put, lA, lB, lC, i64_w, i32_w]
       rfl
      refine pure_ (i := 4) (N := some 22) (v := ?_) (a' := ?_) #[bT, bT, bT, bT, bT, bF, bF, bT, bF, bF] rfl rfl (by kernel_rfl) (fun _ _ _ h => h) (Or.inl ⟨by rfl, ?_⟩) ?_ ?_
      rotate_left
      ·intro w'
       go_simp
       with_reducible rfl
      rotate_left
      ·simp only [Act.put, lA, lB, lC, i64_w, i32_w]
       rfl
      refine pure_ (i := 5) (N := some 27) (v := ?_) (a' := ?_) #[bT, bT, bT, bT, bT, bT, bF, bT, bF, bF] rfl rfl (by kernel_rfl) (fun _ _ _ h => h) (Or.inl ⟨by rfl, ?_⟩) ?_ ?_
      rotate_left
      ·intro w'
       go_simp
       with_reducible rfl
      rotate_left
      ·simp only [Act.put, lA, lB, lC, i64_w, i32_w]
       rfl
      refine pure_ (i := 6) (N := some 28) (v := ?_) (a' := ?_) #[bT, bT, bT, bT, bT, bT, bT, bT, bF, bF] rfl rfl (by kernel_rfl) (fun _ _ _ h => h) (Or.inl ⟨by rfl, ?_⟩) ?_ ?_
      rotate_left
      ·intro w'
       go_simp
       with_reducible rfl
      rotate_left
      ·simp only [Act.put, lA, lB, lC, i64_w, i32_w]
       rfl
      exact norm_ (by simp only [putAll, Act.put, lA, lB, lC]) (hCont (va, vb, A2, k2, A3, k3, bvc, w1_.heap.size) _ ⟨hHeld, Q3.out, O3.out, L2, D3.out⟩)
    ·skip
     refine value_ (w1 := ?_) (v := ?_) (by rfl) rfl ?_ ?_
     rotate_left 2
     ·go_simp
      constructor
      ·rfl
      ·rfl
     have D1 : Hid (Bel W3.drew (W3.alloc (.cells #[.slice none 0 0, .slice none 0 0] 42)).drew) := Lib.hid (bel_alloc D0.out (.cells #[.slice none 0 0, .slice none 0 0] 42))
     have O1 : Hid (Blk (W3.alloc (.cells #[.slice none 0 0, .slice none 0 0] 42)).drew W3.drew.heap.size #[.slice none 0 0, .slice none 0 0] 42) := Lib.hid (Blk.new W3.drew #[.slice none 0 0, .slice none 0 0] 42)
     have L1 := D0.out.size
     refine hK.out _ _ ⟨(hfx.out _ D1.out).1, (hfx.out _ D1.out).2.1, (hfx.out _ D1.out).2.2.1, (hfx.out _ D1.out).2.2.2.1, (hfx.out _ D1.out).2.2.2.2.1, (hfx.out _ D1.out).2.2.2.2.2.1, (hfx.out _ D1.out).2.2.2.2.2.2⟩ (fun hHeld => ?_)
     clear hK K
     refine norm_ (a' := ?_) ?_ ?_
     rotate_left
     ·show Act.put _ (some 10) _ = _
      simp only [Act.put, lA, lB, lC, i64_w, i32_w]
      rfl
     refine one_ (i := 1) (N := some 24) #[bT, bT, bT, bF, bF, bF, bF, bT, bF, bF] rfl rfl (by kernel_rfl) (by decide) (fun K hK => ?_)
     refine goes_ Tryz.func105 (by kernel_rfl) rfl #[.agg #[.slice Y0 p.slots.length d0, .slice Y1 p.vols.length d1]] (by rfl) rfl rfl (by simp only [List.map_toArray, List.map_cons, List.map_nil]; rfl) ?_
     with_reducible refine (hcp.out _ (PI.out.bel D1.out)).mono ?_
     rintro e w2_ ⟨va, vb, bva, rfl, ho, X2⟩
     have D2 := Lib.hid (Bel.tr D1.out X2)
     have O2 := Lib.hid (Blk.bel O1.out X2)
     have P2 : Hid (OwnP w2_ W3.drew.heap.size va vb p bva) := Lib.hid (ho.lower D1.out.size)
     clear ho
     refine ⟨_, rfl, ?_⟩
     refine hK.out _ _ ⟨(hfx.out _ D2.out).1, (hfx.out _ D2.out).2.1, (hfx.out _ D2.out).2.2.1, (hfx.out _ D2.out).2.2.2.1, (hfx.out _ D2.out).2.2.2.2.1, (hfx.out _ D2.out).2.2.2.2.2.1, (hfx.out _ D2.out).2.2.2.2.2.2⟩ (fun hHeld => ?_)
     clear hK K
     refine norm_ (a' := ?_) ?_ ?_
     rotate_left
     ·show Act.put _ (some 24) _ = _
      simp only [Act.put, lA, lB, lC, i64_w, i32_w]
      rfl
     refine one_ (i := 3) (N := some 26) #[bT, bT, bT, bT, bF, bF, bF, bT, bF, bF] rfl rfl (by kernel_rfl) (by decide) (fun K hK => ?_)
     refine goes_ Tryz.func125 (by kernel_rfl) rfl #[.agg #[va, vb], .agg #[.int .i64 o.kind, .string o.name, .string o.dest, .int .i64 o.n, .string o.text]] (by rfl) rfl rfl (by simp only [List.map_toArray, List.map_cons, List.map_nil]; rfl) ?_
     with_reducible refine (hdo.out _ va vb bva P2.out D2.out.size).mono ?_
     rintro e w3_ ⟨vc, vd, bvc, rfl, ho, X3⟩
     have D3 : Hid (Bel W3.drew w3_) := Lib.hid (D2.out.trans X3.b)
     have O3 := Lib.hid (X3.k _ _ _ (by decide) (by decide) (by decide) O2.out)
     have Q3 := Lib.hid ho
     obtain ⟨A2, A3, k2, k3, rfl, rfl, hpi⟩ := ho.reads
     clear ho hpi
     refine ⟨_, rfl, ?_⟩
     refine hK.out _ _ ⟨(hfx.out _ D3.out).1, (hfx.out _ D3.out).2.1, (hfx.out _ D3.out).2.2.1, (hfx.out _ D3.out).2.2.2.1, (hfx.out _ D3.out).2.2.2.2.1, (hfx.out _ D3.out).2.2.2.2.2.1, (hfx.out _ D3.out).2.2.2.2.2.2⟩ (fun hHeld => ?_)
     clear hK K
     refine norm_ (a' := ?_) ?_ ?_
     rotate_left
     ·show Act.put _ (some 26) _ = _
      simp only [Act.put, lA, lB, lC, i64_w, i32_w]
      rfl
     refine pure_ (i := 4) (N := some 22) (v := ?_) (a' := ?_) #[bT, bT, bT, bT, bT, bF, bF, bT, bF, bF] rfl rfl (by kernel_rfl) (fun _ _ _ h => h) (Or.inl ⟨by rfl, ?_⟩) ?_ ?_
     rotate_left
     ·intro w'
      go_simp
      with_reducible rfl
     rotate_left
     ·simp only [Act.put, lA, lB, lC, i64_w, i32_w]
      rfl
     refine pure_ (i := 5) (N := some 27) (v := ?_) (a' := ?_) #[bT, bT, bT, bT, bT, bT, bF, bT, bF, bF] rfl rfl (by kernel_rfl) (fun _ _ _ h => h) (Or.inl ⟨by rfl, ?_⟩) ?_ ?_
     rotate_left
     ·intro w'
      go_simp
      with_reducible rfl
     rotate_left
     ·simp only [Act.put, lA, lB, lC, i64_w, i32_w]
      rfl
     refine pure_ (i := 6) (N := some 28) (v := ?_) (a' := ?_) #[bT, bT, bT, bT, bT, bT, bT, bT, bF, bF] rfl rfl (by kernel_rfl) (fun _ _ _ h => h) (Or.inl ⟨by rfl, ?_⟩) ?_ ?_
     rotate_left
     ·intro w'
      go_simp
      with_reducible rfl
     rotate_left
     ·simp only [Act.put, lA, lB, lC, i64_w, i32_w]
      rfl
     exact norm_ (by simp only [putAll, Act.put, lA, lB, lC]) (hCont (va, vb, A2, k2, A3, k3, bvc, W3.heap.size) _ ⟨hHeld, Q3.out, O3.out, L1, D3.out⟩)
   rintro ⟨va, vb, A2, k2, A3, k3, bvc, nb⟩ w3 ⟨hHeld, hQ, hO, hL, hD⟩
   dsimp only at hQ hO hL
   have r0 := hO.cell 0
   have r1 := hO.cell 1
   have f0 := hO.free 0
   have f1 := hO.free 1
   simp at r0 r1
   refine norm_ (a' := ?_) ?_ ?_
   rotate_left
   ·simp only [putAll, Act.put, lA, lB, lC]
    rfl
   refine last_ (i := 8) (N := none) #[bT, bT, bT, bT, bT, bT, bT, bT, bT, bF] rfl rfl (by kernel_rfl) (by decide) (fun K hK => ?_)
   refine skip_ (w1 := ?_) (by rfl) rfl ?_ ?_
   rotate_left
   ·go_simp
    rfl
   refine hK.out _ _ ?_
   clear hK K
   refine pure_ (i := 9) (N := some 11) (v := ?_) (a' := ?_) #[bT, bT, bT, bT, bT, bT, bT, bT, bT, bT] rfl rfl (by kernel_rfl) (fun _ _ _ h => h) (Or.inl ⟨by rfl, ?_⟩) ?_ ?_
   rotate_left
   ·intro w'
    go_simp
    with_reducible rfl
   rotate_left
   ·simp only [Act.put, lA, lB, lC, i64_w, i32_w]
    rfl
   refine done_ (by kernel_rfl) ?_
   have hO4 := hO.set 0 (.slice A2 q.slots.length k2) (cs' := #[.slice A2 q.slots.length k2, .slice none 0 0]) rfl
   have HO5 := Lib.hid (hO4.set 1 (.slice A3 q.vols.length k3) (cs' := #[.slice A2 q.slots.length k2, .slice A3 q.vols.length k3]) rfl)
   have HQ5 := Lib.hid ((hQ.far hO (by decide) (by decide) (by decide) 0 (.slice A2 q.slots.length k2)).far hO4 (by decide) (by decide) (by decide) 1 (.slice A3 q.vols.length k3))
   have HS8 := Lib.hid (BB.out.bel (bel_set (bel_set hD hL 0 (.slice A2 q.slots.length k2)) hL 1 (.slice A3 q.vols.length k3)))
   have HQP := Lib.hid (show PoolP q from HQ.out.1 ▸ opF_getD HP.out)
   have hbase : w.heap.size ≤ W3.drew.heap.size := BB.out.st.g.size
   have HQ6 := Lib.hid (HQ5.out.lower hbase)
   clear hQ hO hO4 hL hD f0 f1 r0 r1 hHeld s0 s1 s2 s3 s4 s5 s6 hcp hdo hfx D0 PI BB HQ5 hbase
   generalize ((w3.setCell ⟨nb, 0, none⟩ (.slice A2 q.slots.length k2)).setCell ⟨nb, 1, none⟩ (.slice A3 q.vols.length k3)) = W8 at HS8 HO5 HQ6 ⊢
   have y0 := HS8.out.fx
   obtain ⟨s0, s1, s2, s3, s4, s5, s6⟩ := y0
   go_wp2_with fail
   refine (specOpOk_c o hnm _).mono ?_
   rintro e w9 ⟨rfl, hb9⟩
   have HS9 := Lib.hid (HS8.out.bel hb9)
   have HO9 := Lib.hid (HO5.out.bel hb9)
   have HQ9 := Lib.hid (HQ6.out.bel hb9)
   clear s0 s1 s2 s3 s4 s5 s6 HS8 HO5 HQ6 hb9
   cases hok : opOk o with
   | false =>
    go_wp2
    go_roundg (n - (j + 1))
    case measure => omega
    case rel => exact ⟨j + 1, m, _, _, p, bvs, xs, os, by omega, int_eq (by omega), by omega, HOS.out, HP.out, ⟨HS9.out.st.res, HS9.out.st.pool, HS9.out.st.rd.more (by omega), HS9.out.st.own, HS9.out.st.row, HS9.out.st.g, HS9.out.st.l2, HS9.out.st.l3⟩⟩
   | true =>
    cases ok with
    | false =>
     go_wp2
     go_roundg (n - (j + 1))
     case measure => omega
     case rel => exact ⟨j + 1, m, _, _, p, bvs, xs, os, by omega, int_eq (by omega), by omega, HOS.out, HP.out, ⟨HS9.out.st.res, HS9.out.st.pool, HS9.out.st.rd.more (by omega), HS9.out.st.own, HS9.out.st.row, HS9.out.st.g, HS9.out.st.l2, HS9.out.st.l3⟩⟩
    | true =>
     obtain ⟨s0, s1, s2, s3, s4, s5, s6⟩ := HS9.out.fx
     have f0 := HS9.out.st.pool.free 0
     have f1 := HS9.out.st.pool.free 1
     have hz9 := HS9.out.st.pool.lt
     have t0 := HO9.out.cell 0
     have t1 := HO9.out.cell 1
     simp at t0 t1
     have HT := Lib.hid (HS9.out.st.turn HQ9.out)
     have HX := Lib.hid (HOS.out.snoc hnm hok HQ.out.1 HQ.out.2)
     have hsz := HT.out.g.size
     have hm100 : m ≤ 100 := by omega
     have hn1 : ¬ ob = pb := by omega
     have hn2 : ¬ pb = ob := by omega
     go_wp2_with (at_builtin; refine print_append_cells (w0 := ((w9.setCell ⟨pb, 0, none⟩ (.slice A2 q.slots.length k2)).setCell ⟨pb, 1, none⟩ (.slice A3 q.vols.length k3))) w.heap.size rfl (.tmp 35) (.tmp 37) 23 27 (.agg #[.int .i64 0, .string ⟨#[]⟩, .string ⟨#[]⟩, .int .i64 0, .string ⟨#[]⟩]) 5 64 rfl Tryz.underlying23 info_op rfl (by decide) (by decide) _ m xs [.int .i64 o.kind, .string o.name, .string o.dest, .int .i64 o.n, .string o.text] rfl (by show Value.slice (some ⟨_, 0, none⟩) 1 1 = Value.slice (some ⟨_, 0, none⟩) 1 1; simp) rfl (by intro u hu; simp at hu; rcases hu with rfl | rfl | rfl | rfl | rfl <;> rfl) HT.out.row (Below.refl _ _) hsz (by omega) ?_; intro v2 w5 hr2 hbq hgq hat2)
     have HA := Lib.hid (HT.out.app hgq hr2)
     clear s0 s1 s2 s3 s4 s5 s6 f0 f1 t0 t1 hr2 hbq hgq hat2
     go_wp2
     go_roundg (n - (j + 1))
     case measure => omega
     case rel => exact ⟨j + 1, m + 1, _, _, q, _, _, os ++ [o], by omega, int_eq (by omega), by omega, HX.out, HQP.out, ⟨HA.out.res, HA.out.pool, HA.out.rd.more (by omega), HA.out.own, HA.out.row, HA.out.g, HA.out.l2, HA.out.l3⟩⟩
  ·have hjn' : ¬ (j : Int) < (n : Int) := by omega
   go_wp2
   have HD := Lib.hid (HST.out.bel (Below.refl _ _).drew)
   have e0 := HD.out.res.cell 0
   have e1 := HD.out.res.cell 1
   have f0 := HST.out.res.free 0
   have f1 := HST.out.res.free 1
   have zr := HST.out.res.lt
   have p0 := HD.out.pool.cell 0
   have p1 := HD.out.pool.cell 1
   simp at e0 e1 p0 p1
   refine start_ (n := 4) (S := fun w' => w'.cell? ⟨pb, 0, none⟩ = some (.slice Y0 p.slots.length d0) ∧ w'.cell? ⟨pb, 1, none⟩ = some (.slice Y1 p.vols.length d1)) (ds := [3]) #[bF, bF, bF, bF] (by kernel_rfl) rfl rfl ⟨p0, p1⟩ (fun hHeld => ?_)
   refine pure_ (i := 0) (N := some 39) (v := ?_) (a' := ?_) #[bT, bF, bF, bF] rfl rfl (by kernel_rfl) (fun _ _ _ h => h) (Or.inl ⟨by rfl, ?_⟩) ?_ ?_
   rotate_left
   ·intro w'
    go_simp
    with_reducible rfl
   rotate_left
   ·simp only [Act.put, lA, lB, lC, i64_w, i32_w]
    rfl
   refine pure_ (i := 2) (N := some 4) (v := ?_) (a' := ?_) #[bT, bF, bT, bF] rfl rfl (by kernel_rfl) (fun _ _ _ h => h) (Or.inl ⟨by rfl, ?_⟩) ?_ ?_
   rotate_left
   ·intro w'
    go_simp
    with_reducible rfl
   rotate_left
   ·simp only [Act.put, lA, lB, lC, i64_w, i32_w]
    rfl
   refine take_ (i := 1) (N := some 40) (v := ?_) (a' := ?_) #[bT, bT, bT, bF] rfl rfl (by kernel_rfl) (fun _ _ _ h => h) (Or.inl ⟨by rfl, ?_⟩) hHeld ?_ ?_
   rotate_left
   ·rintro w' ⟨s0, s1⟩
    go_simp
    with_reducible rfl
   rotate_left
   ·simp only [Act.put, lA, lB, lC, i64_w, i32_w]
    rfl
   refine last_ (i := 3) (N := none) #[bT, bT, bT, bT] rfl rfl (by kernel_rfl) (by decide) (fun K hK => ?_)
   refine skip_ (w1 := ?_) (by rfl) rfl ?_ ?_
   rotate_left
   ·go_simp
    rfl
   refine hK.out _ _ ?_
   clear hK K
   refine done_ (by kernel_rfl) ?_
   clear p0 p1 e0 e1 f0 f1 zr hHeld HD
   have hl0 := HST.out.l3
   have hx1 := HST.out.res.set 0 (.slice Y0 p.slots.length d0) (cs' := #[.slice Y0 p.slots.length d0, .slice none 0 0]) rfl
   have hx2 := (hx1.set 1 (.slice Y1 p.vols.length d1) (cs' := #[.slice Y0 p.slots.length d0, .slice Y1 p.vols.length d1]) rfl).bel (Below.refl _ _).drew
   have ho2 := ((HST.out.own.far HST.out.res (by decide) (by decide) (by decide) 0 (.slice Y0 p.slots.length d0)).far hx1 (by decide) (by decide) (by decide) 1 (.slice Y1 p.vols.length d1)).bel (Below.refl _ _).drew
   have hr2 := ((HST.out.rd.set (b := w.heap.size) hl0 0 (.slice Y0 p.slots.length d0)).set (b := w.heap.size) hl0 1 (.slice Y1 p.vols.length d1)).bel (Below.refl _ _).drew
   have hw1 := own_setCell (p := ⟨w.heap.size, 0, none⟩) HST.out.row (own_ne HST.out.row HST.out.res (by decide)) (.slice Y0 p.slots.length d0)
   have hw2 := pw_own_below (own_setCell (p := ⟨w.heap.size, 1, none⟩) hw1 (own_ne hw1 hx1 (by decide)) (.slice Y1 p.vols.length d1)) (Below.refl _ _).drew
   have hg2 := grown_tr (grown_new (grown_new HST.out.g (Nat.le_refl _) 0 (.slice Y0 p.slots.length d0)) (Nat.le_refl _) 1 (.slice Y1 p.vols.length d1)) (grown_drew _ _)
   go_wp2
   refine bodyPost_ret (results_tc rfl _ _ w.heap.size 42 #[.slice Y0 p.slots.length d0, .slice Y1 p.vols.length d1] (0, 0) _ rfl hx2 Tryz.underlying42 rfl (by kernel_rfl)) rfl ?_
   exact ⟨_, _, _, p, bvs, os, rfl, ⟨HP.out, HOS.out.run, by have := HOS.out.len; omega, HOS.out.op⟩, by unfold OwnO; rw [HOS.out.len, ← HOS.out.xs]; exact hw2, ho2, hr2.more (by omega), hg2⟩
theorem ops_c {w : World} {rb k : Nat} (h : Rd w rb k) (hk : k ≤ 1099511000000) (n : Nat) (hn : n ≤ 100) :
  Calls Tryz.prog 161 #[.pointer (some ⟨rb, 0, none⟩), .int .i64 (n : Int)] w (OpsOut rb k 20000 w) :=
 (ops2_c h hk n hn).mono fun e w' ⟨v7, v0, v1, p, bvs, os, h1, h2, h3, h4, h5, h6⟩ => ⟨v7, v0, v1, p, bvs, h1, h2.1, h4, h5, h6⟩
end Go.Proofs.YtccllgpaafgjaaaGreat

namespace Go.Proofs.YtccllgpaafgjaaaGreat
end Go.Proofs.YtccllgpaafgjaaaGreat

namespace Go.Proofs.YtccllgpaafgjaaaGreat
open Go.RowKit Go.Proofs.YtccllgpaafgjaaaGreatW.PrintWords Go.Proofs.YtccllgpaafgjaaaGreatW.PrintLast
structure DrawnP (p : Pool) : Prop where
  small : SmallP p
  sl : p.slots.length = 8
  vl : p.vols.length ≤ 5
theorem PoolP.drawn {p : Pool} (h : PoolP p) : DrawnP p := ⟨h.small, h.s.len, by have := h.v.len; omega⟩
theorem DrawnP.setU {p : Pool} (h : DrawnP p) {m : Nat} {x : Slot} (hx : p.slots[m]? = some x) (u : Int) : DrawnP ⟨p.slots.set m ⟨x.text, u⟩, p.vols⟩ :=
 ⟨⟨⟨by rw [List.length_set]; exact h.small.slots.len, fun y hy => by
  rcases List.mem_or_eq_of_mem_set hy with hy | rfl
  ·exact h.small.slots.text y hy
  ·exact h.small.slots.text x (List.mem_of_getElem? hx)⟩, h.small.vols⟩, by show (p.slots.set m _).length = 8; rw [List.length_set]; exact h.sl, h.vl⟩
theorem DrawnP.setB {p : Pool} (h : DrawnP p) {m : Nat} {x : Vol} (hx : p.vols[m]? = some x) (b : Int) : DrawnP ⟨p.slots, p.vols.set m ⟨x.name, x.blocks.set 0 b⟩⟩ := by
 have hs := h.small.vols
 refine ⟨⟨h.small.slots, ⟨by rw [List.length_set]; exact hs.len, fun y hy => ?_, fun y hy => ?_⟩⟩, h.sl, by show (p.vols.set m _).length ≤ 5; rw [List.length_set]; exact h.vl⟩
 ·rcases List.mem_or_eq_of_mem_set hy with hy | rfl
  ·exact hs.blocks y hy
  ·show (x.blocks.set 0 b).length ≤ _
   rw [List.length_set]; exact hs.blocks x (List.mem_of_getElem? hx)
 ·rcases List.mem_or_eq_of_mem_set hy with hy | rfl
  ·exact hs.name y hy
  ·exact hs.name x (List.mem_of_getElem? hx)
theorem PoolP.addA {p : Pool} (h : PoolP p) : DrawnP ⟨p.slots, p.vols ++ [⟨⟨#[65]⟩, [0]⟩]⟩ := by
 have hs := h.small.vols
 have hl := h.v.len
 refine ⟨⟨h.small.slots, ⟨by simp; omega, fun y hy => ?_, fun y hy => ?_⟩⟩, h.s.len, by simp; omega⟩
 ·rcases List.mem_append.1 hy with hy | hy
  ·exact hs.blocks y hy
  ·obtain rfl := List.mem_singleton.1 hy; decide
 ·rcases List.mem_append.1 hy with hy | hy
  ·exact hs.name y hy
  ·obtain rfl := List.mem_singleton.1 hy; decide
def PoolOut (rb k d : Nat) (w : World) (e : Ending) (w' : World) : Prop := ∃ (v0 v1 : Value) (p : Pool) (bvs : List Value), e = .returned (.agg #[v0, v1]) ∧ DrawnP p ∧ OwnP w' w.heap.size v0 v1 p bvs ∧ Rd w' rb (k + d) ∧ w.grownBy w' (some rb)
theorem OpsSt.own' {w W W' : World} {rb k : Nat} {v0 v1 : Value} {p q : Pool} {bvs bvq : List Value} {pb : Nat} (h : OpsSt w W rb k v0 v1 p bvs pb 0 (.slice none 0 0) []) {g : Nat} {cs : Array Value} {t : TypeId} (hB : Blk W g cs t) (ht : t ≠ 42) (hw : w.heap.size ≤ g) (hg : W.grownBy W' (some g)) (hq : OwnP W' w.heap.size v0 v1 q bvq) : OpsSt w W' rb k v0 v1 q bvq pb 0 (.slice none 0 0) [] := by
 have ne : ∀ {b : Nat} {ds : Array Value}, Blk W b ds 42 → some b ≠ some g := fun hb e => by
  injection e with e
  subst e
  have := hB.symm.trans hb
  injection this with this
  injection this with _ this
  exact ht this
 have hl := h.l3
 exact ⟨h.res.grown hg (ne h.res), h.pool.grown hg (ne h.pool), h.rd.grown hg (fun b e => by injection e with e; omega), hq, World.ownsRow_nil _ _ _ _, grown_own h.g hg (fun k e => by injection e with e; omega), h.l2, h.l3⟩
set_option maxHeartbeats 16000000 in
set_option maxRecDepth 10000 in
theorem pool_c {w : World} {rb k : Nat} (h : Rd w rb k) (hk : k ≤ 1099510000000) :
  Calls Tryz.prog 162 #[.pointer (some ⟨rb, 0, none⟩)] w (PoolOut rb k 20010 w) := by
 have H := Lib.hid h
 have hlt := h.lt
 clear h
 go_enter Tryz.func162, Tryz.ntmps162
 go_wp2_with fail
 have hr0 : Blk (w.alloc (.cells #[.slice none 0 0, .slice none 0 0] 42)) w.heap.size #[.slice none 0 0, .slice none 0 0] 42 := Blk.new _ _ _
 have hW : Bel w (w.alloc (.cells #[.slice none 0 0, .slice none 0 0] 42)) := bel_alloc (Below.refl _ _) _
 generalize (w.alloc (.cells #[.slice none 0 0, .slice none 0 0] 42)) = W0 at hr0 hW ⊢
 refine (pick_c (H.out.bel hW) (by omega) 22 (by omega)).mono ?_
 rintro e w1 ⟨v, rfl, ⟨r, rfl, hp0, hp1, -⟩, hR1, hg1⟩
 have hp2 := hp1 (by omega)
 obtain ⟨n, rfl⟩ : ∃ n : Nat, r = n := ⟨r.toNat, by omega⟩
 have HR1 := Lib.hid (And.intro (hr0.grown hg1 (by intro e; injection e with e; omega)) (And.intro hR1 (grown_tr (grown_of_bel hW _) hg1)))
 have hwn : wrap64 (3 + (n : Int)) = 3 + (n : Int) := by unfold wrap64; omega
 clear hr0 hW hR1 hg1 hp1
 go_wp2_with fail
 have hops := ops_c HR1.out.2.1 (by omega) (3 + n) (by omega)
 rw [show (((3 + n : Nat) : Int)) = 3 + (n : Int) by omega] at hops
 refine hops.mono ?_
 rintro e w3 ⟨v7, v0, v1, p, bvs, rfl, hp, ho, hR3, hg3⟩
 obtain ⟨A0, A1, c0, c1, rfl, rfl, hpi⟩ := ho.reads
 obtain ⟨nv, hnv⟩ : ∃ nv, p.vols.length = nv := ⟨_, rfl⟩
 obtain ⟨ns, hns⟩ : ∃ ns, p.slots.length = ns := ⟨_, rfl⟩
 have hst : OpsSt w (w3.alloc (.cells #[.slice A0 p.slots.length c0, .slice A1 p.vols.length c1] 42)) rb (k + 20001) (.slice A0 p.slots.length c0) (.slice A1 p.vols.length c1) p bvs w3.heap.size 0 (.slice none 0 0) [] :=
  ⟨(HR1.out.1.grown hg3 (by intro e; injection e with e; omega)).alloc _, Blk.new _ _ _, (hR3.bel (bel_alloc (Below.refl _ _) _)).more (by omega), (ho.lower (HR1.out.2.2.size)).bel (bel_alloc (Below.refl _ _) _), World.ownsRow_nil _ _ _ _, grown_tr (grown_tr HR1.out.2.2 hg3) (grown_of_bel (bel_alloc (Below.refl _ _) _) _), (HR1.out.1.grown hg3 (by intro e; injection e with e; omega)).lt, hlt⟩
 have hns1 : 1 ≤ ns := by rw [← hns, hp.s.len]; omega
 have hns2 : ns ≤ 8 := by rw [← hns, hp.s.len]; omega
 have hnv2 : nv ≤ 4 := by rw [← hnv]; exact hp.v.len
 rw [hns, hnv] at hst ⊢
 have HN := Lib.hid (And.intro hns hnv)
 have HP := Lib.hid hp
 have HST := Lib.hid hst
 clear ho hpi hR3 hg3 hst hns hnv hp hops hwn
 go_wp2_with fail
 generalize (w3.alloc (.cells #[.slice A0 ns c0, .slice A1 nv c1] 42)) = W4 at HST ⊢
 obtain ⟨pb, hpb⟩ : ∃ pb, w3.heap.size = pb := ⟨_, rfl⟩
 rw [hpb] at HST ⊢
 clear hpb
 refine (pick_c HST.out.rd (by omega) 30 (by omega)).mono ?_
 rintro e w5 ⟨v, rfl, ⟨r, rfl, hr0, hr1, -⟩, hR5, hg5⟩
 have hr2 := hr1 (by omega)
 have HS5 := Lib.hid (HST.out.step hR5 hg5)
 clear hr1 hR5 hg5 HST HR1
 by_cases hra : r = 0
 ·subst hra
  have hs5 := HS5.out
  have y0 := hs5.pool.cell 0
  have y1 := hs5.pool.cell 1
  simp at y0 y1
  clear hs5
  go_wp2
  have HS6 := Lib.hid (HS5.out.bel (Below.refl _ _).drew)
  refine start_ (n := 12) (S := fun w' => w'.cell? ⟨pb, 0, none⟩ = some (.slice A0 ns c0)) (ds := [11]) #[bF, bF, bF, bF, bF, bF, bF, bF, bF, bF, bF, bF] (by kernel_rfl) rfl rfl (y0) (fun hHeld => ?_)
  refine pure_ (i := 0) (N := some 18) (v := ?_) (a' := ?_) #[bT, bF, bF, bF, bF, bF, bF, bF, bF, bF, bF, bF] rfl rfl (by kernel_rfl) (fun _ _ _ h => h) (Or.inl ⟨by rfl, ?_⟩) ?_ ?_
  rotate_left
  ·intro w'
   go_simp
   with_reducible rfl
  rotate_left
  ·simp only [Act.put, lA, lB, lC, i64_w, i32_w]
   rfl
  refine pure_ (i := 2) (N := some 20) (v := ?_) (a' := ?_) #[bT, bF, bT, bF, bF, bF, bF, bF, bF, bF, bF, bF] rfl rfl (by kernel_rfl) (fun _ _ _ h => h) (Or.inl ⟨by rfl, ?_⟩) ?_ ?_
  rotate_left
  ·intro w'
   go_simp
   with_reducible rfl
  rotate_left
  ·simp only [Act.put, lA, lB, lC, i64_w, i32_w]
   rfl
  refine pure_ (i := 3) (N := some 21) (v := ?_) (a' := ?_) #[bT, bF, bT, bT, bF, bF, bF, bF, bF, bF, bF, bF] rfl rfl (by kernel_rfl) (fun _ _ _ h => h) (Or.inl ⟨by rfl, ?_⟩) ?_ ?_
  rotate_left
  ·intro w'
   go_simp
   with_reducible rfl
  rotate_left
  ·simp only [Act.put, lA, lB, lC, i64_w, i32_w]
   rfl
  refine pure_ (i := 7) (N := some 25) (v := ?_) (a' := ?_) #[bT, bF, bT, bT, bF, bF, bF, bT, bF, bF, bF, bF] rfl rfl (by kernel_rfl) (fun _ _ _ h => h) (Or.inl ⟨by rfl, ?_⟩) ?_ ?_
  rotate_left
  ·intro w'
   go_simp
   with_reducible rfl
  rotate_left
  ·simp only [Act.put, lA, lB, lC, i64_w, i32_w]
   rfl
  refine take_ (i := 1) (N := some 19) (v := ?_) (a' := ?_) #[bT, bT, bT, bT, bF, bF, bF, bT, bF, bF, bF, bF] rfl rfl (by kernel_rfl) (fun _ _ _ h => h) (Or.inl ⟨by rfl, ?_⟩) hHeld ?_ ?_
  rotate_left
  ·intro w' s0
   go_simp
   with_reducible rfl
  rotate_left
  ·simp only [Act.put, lA, lB, lC, i64_w, i32_w]
   rfl
  refine take_ (i := 4) (N := some 22) (v := ?_) (a' := ?_) #[bT, bT, bT, bT, bT, bF, bF, bT, bF, bF, bF, bF] rfl rfl (by kernel_rfl) (fun _ _ _ h => h) (Or.inl ⟨by rfl, ?_⟩) hHeld ?_ ?_
  rotate_left
  ·intro w' s0
   go_simp
   with_reducible rfl
  rotate_left
  ·simp only [Act.put, lA, lB, lC, i64_w, i32_w]
   rfl
  refine pure_ (i := 5) (N := some 23) (v := ?_) (a' := ?_) #[bT, bT, bT, bT, bT, bT, bF, bT, bF, bF, bF, bF] rfl rfl (by kernel_rfl) (fun _ _ _ h => h) (Or.inl ⟨by rfl, ?_⟩) ?_ ?_
  rotate_left
  ·intro w'
   go_simp
   with_reducible rfl
  rotate_left
  ·simp only [Act.put, lA, lB, lC, i64_w, i32_w]
   rfl
  refine one_ (i := 6) (N := some 24) #[bT, bT, bT, bT, bT, bT, bT, bT, bF, bF, bF, bF] rfl rfl (by kernel_rfl) (by decide) (fun K hK => ?_)
  refine goes_ Tryz.func87 (by kernel_rfl) rfl #[.pointer (some ⟨rb, 0, none⟩), .int .i64 ns] (by rfl) rfl rfl (by simp only [List.map_toArray, List.map_cons, List.map_nil]; rfl) ?_
  with_reducible refine (pick_c (w := w5.drew) HS6.out.rd (by omega) ns (by omega)).mono ?_
  rintro e w7 ⟨v, rfl, ⟨r2, rfl, hr20, hr21, -⟩, hR7, hg7⟩
  have hr22 := hr21 (by omega)
  obtain ⟨i, rfl⟩ : ∃ i : Nat, r2 = i := ⟨r2.toNat, by omega⟩
  have hi : i < ns := by omega
  have HS7 := Lib.hid (HS6.out.step hR7 hg7)
  have z0 := HS7.out.pool.cell 0
  simp at z0
  clear hR7 hg7 hr21
  refine ⟨_, rfl, ?_⟩
  refine hK.out _ _ (z0) (fun hHeld => ?_)
  clear hK K
  refine norm_ (a' := ?_) ?_ ?_
  rotate_left
  ·show Act.put _ (some 24) _ = _
   simp only [Act.put, lA, lB, lC, i64_w, i32_w]
   rfl
  refine one_ (i := 8) (N := some 26) #[bT, bT, bT, bT, bT, bT, bT, bT, bT, bF, bF, bF] rfl rfl (by kernel_rfl) (by decide) (fun K hK => ?_)
  refine goes_ Tryz.func87 (by kernel_rfl) rfl #[.pointer (some ⟨rb, 0, none⟩), .int .i64 4] (by rfl) rfl rfl (by simp only [List.map_toArray, List.map_cons, List.map_nil]; rfl) ?_
  with_reducible refine (pick_c HS7.out.rd (by omega) 4 (by omega)).mono ?_
  rintro e w8 ⟨v, rfl, ⟨r3, rfl, hr30, hr31, -⟩, hR8, hg8⟩
  have hr32 := hr31 (by omega)
  have HS8 := Lib.hid (HS7.out.step hR8 hg8)
  obtain ⟨x, hx⟩ := getQ (show i < p.slots.length by rw [HN.out.1]; exact hi)
  obtain ⟨g, cap, ev, hg1, hg2, hcap, hc, hc', hf, hf'⟩ := HS8.out.own.s.at hx
  have ev2 := slice_eq ev
  clear ev hcap
  obtain ⟨rfl, -, rfl⟩ := ev2
  have z1 := HS8.out.pool.cell 0
  simp at z1
  have HX := Lib.hid hx
  clear hR8 hg8 hr31 hx
  refine ⟨_, rfl, ?_⟩
  refine hK.out _ _ (z1) (fun hHeld => ?_)
  clear hK K
  refine norm_ (a' := ?_) ?_ ?_
  rotate_left
  ·show Act.put _ (some 26) _ = _
   simp only [Act.put, lA, lB, lC, i64_w, i32_w]
   rfl
  refine pure_ (i := 9) (N := some 27) (v := ?_) (a' := ?_) #[bT, bT, bT, bT, bT, bT, bT, bT, bT, bT, bF, bF] rfl rfl (by kernel_rfl) (fun _ _ _ h => h) (Or.inl ⟨by rfl, ?_⟩) ?_ ?_
  rotate_left
  ·intro w'
   go_simp
   with_reducible rfl
  rotate_left
  ·simp only [Act.put, lA, lB, lC, i64_w, i32_w]
   rfl
  refine pure_ (i := 10) (N := some 28) (v := ?_) (a' := ?_) #[bT, bT, bT, bT, bT, bT, bT, bT, bT, bT, bT, bF] rfl rfl (by kernel_rfl) (fun _ _ _ h => h) (Or.inl ⟨by rfl, ?_⟩) ?_ ?_
  rotate_left
  ·intro w'
   go_simp
   with_reducible rfl
  rotate_left
  ·simp only [Act.put, lA, lB, lC, i64_w, i32_w]
   rfl
  refine last_ (i := 11) (N := none) #[bT, bT, bT, bT, bT, bT, bT, bT, bT, bT, bT, bT] rfl rfl (by kernel_rfl) (by decide) (fun K hK => ?_)
  refine skip_ (w1 := ?_) (by rfl) rfl ?_ ?_
  rotate_left
  ·go_simp
   rfl
  refine hK.out _ _ ?_
  clear hK K
  refine done_ (by kernel_rfl) ?_
  have hos := HS8.out.own.s
  rw [← HN.out.1] at hos
  have hu := OwnS.setU hos HX.out r3
  obtain ⟨cs, hcs⟩ := own_type hos rfl
  have hq : OwnP _ w.heap.size _ _ ⟨p.slots.set i ⟨x.text, r3⟩, p.vols⟩ bvs := ⟨hu.1, HS8.out.own.v.otherS hos hu.2⟩
  rw [HN.out.1] at hq
  have HS9 := Lib.hid (HS8.out.own' hcs (by decide) hg1 hu.2 hq)
  have DP := Lib.hid (HP.out.drawn.setU HX.out r3)
  clear hos hu hcs hq z1 z0 y0 y1 hf hf' hc hc' hHeld
  generalize w8.setCell ⟨g, i * 2 + 1, none⟩ (.int .i64 r3) = W9 at HS9 ⊢
  have hsf := HS9.out
  have x0 := hsf.res.cell 0
  have x1 := hsf.res.cell 1
  have f0 := hsf.res.free 0
  have f1 := hsf.res.free 1
  have y0 := hsf.pool.cell 0
  have y1 := hsf.pool.cell 1
  have zr := hsf.res.lt
  simp at x0 x1 y0 y1
  clear hsf
  go_wp2
  have hsf := HS9.out
  have hl0 := hsf.l3
  have hx1 := hsf.res.set 0 (.slice (some ⟨g, 0, none⟩) ns c0) (cs' := #[.slice (some ⟨g, 0, none⟩) ns c0, .slice none 0 0]) rfl
  have hx2 := hx1.set 1 (.slice A1 nv c1) (cs' := #[.slice (some ⟨g, 0, none⟩) ns c0, .slice A1 nv c1]) rfl
  have ho2 := (hsf.own.far hsf.res (by decide) (by decide) (by decide) 0 (.slice (some ⟨g, 0, none⟩) ns c0)).far hx1 (by decide) (by decide) (by decide) 1 (.slice A1 nv c1)
  have hr2 := (hsf.rd.set (b := w.heap.size) hl0 0 (.slice (some ⟨g, 0, none⟩) ns c0)).set (b := w.heap.size) hl0 1 (.slice A1 nv c1)
  have hg2 := grown_new (grown_new hsf.g (Nat.le_refl _) 0 (.slice (some ⟨g, 0, none⟩) ns c0)) (Nat.le_refl _) 1 (.slice A1 nv c1)
  refine bodyPost_ret (results_cell_row rfl _ _ w.heap.size 42 #[.slice (some ⟨g, 0, none⟩) ns c0, .slice A1 nv c1] (0, 0) _ rfl hx2 Tryz.underlying42 rfl (by kernel_rfl)) rfl ?_
  exact ⟨_, _, _, bvs, rfl, DP.out, ho2, hr2.more (by omega), hg2⟩
 by_cases hrb : r = 1
 ·subst hrb
  by_cases hv0 : nv = 0
  ·subst hv0
   have DP := Lib.hid HP.out.drawn
   have hsf := HS5.out
   have x0 := hsf.res.cell 0
   have x1 := hsf.res.cell 1
   have f0 := hsf.res.free 0
   have f1 := hsf.res.free 1
   have y0 := hsf.pool.cell 0
   have y1 := hsf.pool.cell 1
   have zr := hsf.res.lt
   simp at x0 x1 y0 y1
   clear hsf
   go_wp2
   have hsf := HS5.out
   have hl0 := hsf.l3
   have hx1 := hsf.res.set 0 (.slice A0 ns c0) (cs' := #[.slice A0 ns c0, .slice none 0 0]) rfl
   have hx2 := hx1.set 1 (.slice A1 0 c1) (cs' := #[.slice A0 ns c0, .slice A1 0 c1]) rfl
   have ho2 := (hsf.own.far hsf.res (by decide) (by decide) (by decide) 0 (.slice A0 ns c0)).far hx1 (by decide) (by decide) (by decide) 1 (.slice A1 0 c1)
   have hr2 := (hsf.rd.set (b := w.heap.size) hl0 0 (.slice A0 ns c0)).set (b := w.heap.size) hl0 1 (.slice A1 0 c1)
   have hg2 := grown_new (grown_new hsf.g (Nat.le_refl _) 0 (.slice A0 ns c0)) (Nat.le_refl _) 1 (.slice A1 0 c1)
   refine bodyPost_ret (results_cell_row rfl _ _ w.heap.size 42 #[.slice A0 ns c0, .slice A1 0 c1] (0, 0) _ rfl hx2 Tryz.underlying42 rfl (by kernel_rfl)) rfl ?_
   exact ⟨_, _, p, bvs, rfl, DP.out, ho2, hr2.more (by omega), hg2⟩
  have hs5 := HS5.out
  have hv1 : 0 < nv := by omega
  have y0 := hs5.pool.cell 0
  have y1 := hs5.pool.cell 1
  simp at y0 y1
  clear hs5
  go_wp2_with fail
  refine (pick_c HS5.out.rd (by omega) nv (by omega)).mono ?_
  rintro e w6 ⟨v, rfl, ⟨r2, rfl, hr20, hr21, -⟩, hR6, hg6⟩
  have hr22 := hr21 (by omega)
  obtain ⟨i, rfl⟩ : ∃ i : Nat, r2 = i := ⟨r2.toNat, by omega⟩
  have hi : i < nv := by omega
  obtain ⟨x, hx⟩ := getQ (show i < p.vols.length by rw [HN.out.2]; exact hi)
  have HS6 := Lib.hid (HS5.out.step hR6 hg6)
  clear y0 y1 hR6 hg6 hr21
  obtain ⟨g, cap, bv, hbv, ev, hg1, hg2, hcap, hc, hc', hf, hf'⟩ := HS6.out.own.v.row.at hx
  have ev2 := slice_eq ev
  clear ev hcap
  obtain ⟨rfl, -, rfl⟩ := ev2
  obtain ⟨b0, hb0⟩ := getQ (show 0 < x.blocks.length by have := volOk_parts (HP.out.v.v i x hx); omega)
  obtain ⟨gb, cb, eb, hgb1, hgb2, hcb, hcc, hff⟩ := (HS6.out.own.v.inner i x bv hx hbv).at hb0
  subst eb
  obtain ⟨bl, hbl⟩ : ∃ bl, x.blocks.length = bl := ⟨_, rfl⟩
  have hbl1 : 0 < bl := by rw [← hbl]; have := volOk_parts (HP.out.v.v i x hx); omega
  rw [hbl] at hc' hbv
  have HX := Lib.hid (And.intro hx (And.intro hbv (And.intro hb0 hbl)))
  have y0 := HS6.out.pool.cell 0
  have y1 := HS6.out.pool.cell 1
  simp at y0 y1
  have hc2 : w6.drew.cell? ⟨g, i * 2 + 1, none⟩ = some (.slice (some ⟨gb, 0, none⟩) bl cb) := hc'
  clear hx hbv hb0 hbl hcb hcc hff hf hf' hc
  go_wp2
  have HS7 := Lib.hid (HS6.out.bel (Below.refl _ _).drew)
  refine start_ (n := 10) (S := fun w' => w'.cell? ⟨pb, 1, none⟩ = some (.slice (some ⟨g, 0, none⟩) nv c1) ∧ w'.cell? ⟨g, i * 2 + 1, none⟩ = some (.slice (some ⟨gb, 0, none⟩) bl cb)) (ds := [9]) #[bF, bF, bF, bF, bF, bF, bF, bF, bF, bF] (by kernel_rfl) rfl rfl ⟨y1, hc'⟩ (fun hHeld => ?_)
  refine pure_ (i := 0) (N := some 40) (v := ?_) (a' := ?_) #[bT, bF, bF, bF, bF, bF, bF, bF, bF, bF] rfl rfl (by kernel_rfl) (fun _ _ _ h => h) (Or.inl ⟨by rfl, ?_⟩) ?_ ?_
  rotate_left
  ·intro w'
   go_simp
   with_reducible rfl
  rotate_left
  ·simp only [Act.put, lA, lB, lC, i64_w, i32_w]
   rfl
  refine pure_ (i := 2) (N := some 42) (v := ?_) (a' := ?_) #[bT, bF, bT, bF, bF, bF, bF, bF, bF, bF] rfl rfl (by kernel_rfl) (fun _ _ _ h => h) (Or.inl ⟨by rfl, ?_⟩) ?_ ?_
  rotate_left
  ·intro w'
   go_simp
   with_reducible rfl
  rotate_left
  ·simp only [Act.put, lA, lB, lC, i64_w, i32_w]
   rfl
  refine pure_ (i := 6) (N := some 46) (v := ?_) (a' := ?_) #[bT, bF, bT, bF, bF, bF, bT, bF, bF, bF] rfl rfl (by kernel_rfl) (fun _ _ _ h => h) (Or.inl ⟨by rfl, ?_⟩) ?_ ?_
  rotate_left
  ·intro w'
   go_simp
   with_reducible rfl
  rotate_left
  ·simp only [Act.put, lA, lB, lC, i64_w, i32_w]
   rfl
  refine take_ (i := 1) (N := some 41) (v := ?_) (a' := ?_) #[bT, bT, bT, bF, bF, bF, bT, bF, bF, bF] rfl rfl (by kernel_rfl) (fun _ _ _ h => h) (Or.inl ⟨by rfl, ?_⟩) hHeld ?_ ?_
  rotate_left
  ·rintro w' ⟨s0, s1⟩
   go_simp
   with_reducible rfl
  rotate_left
  ·simp only [Act.put, lA, lB, lC, i64_w, i32_w]
   rfl
  refine pure_ (i := 3) (N := some 43) (v := ?_) (a' := ?_) #[bT, bT, bT, bT, bF, bF, bT, bF, bF, bF] rfl rfl (by kernel_rfl) (fun _ _ _ h => h) (Or.inl ⟨by rfl, ?_⟩) ?_ ?_
  rotate_left
  ·intro w'
   go_simp
   with_reducible rfl
  rotate_left
  ·simp only [Act.put, lA, lB, lC, i64_w, i32_w]
   rfl
  refine pure_ (i := 4) (N := some 44) (v := ?_) (a' := ?_) #[bT, bT, bT, bT, bT, bF, bT, bF, bF, bF] rfl rfl (by kernel_rfl) (fun _ _ _ h => h) (Or.inl ⟨by rfl, ?_⟩) ?_ ?_
  rotate_left
  ·intro w'
   go_simp
   with_reducible rfl
  rotate_left
  ·simp only [Act.put, lA, lB, lC, i64_w, i32_w]
   rfl
  refine take_ (i := 5) (N := some 45) (v := ?_) (a' := ?_) #[bT, bT, bT, bT, bT, bT, bT, bF, bF, bF] rfl rfl (by kernel_rfl) (fun _ _ _ h => h) (Or.inl ⟨by rfl, ?_⟩) hHeld ?_ ?_
  rotate_left
  ·rintro w' ⟨s0, s1⟩
   go_simp
   with_reducible rfl
  rotate_left
  ·simp only [Act.put, lA, lB, lC, i64_w, i32_w]
   rfl
  refine one_ (i := 7) (N := some 47) #[bT, bT, bT, bT, bT, bT, bT, bT, bF, bF] rfl rfl (by kernel_rfl) (by decide) (fun K hK => ?_)
  refine goes_ Tryz.func87 (by kernel_rfl) rfl #[.pointer (some ⟨rb, 0, none⟩), .int .i64 10] (by rfl) rfl rfl (by simp only [List.map_toArray, List.map_cons, List.map_nil]; rfl) ?_
  with_reducible refine (pick_c (w := w6.drew) HS7.out.rd (by omega) 10 (by omega)).mono ?_
  rintro e w8 ⟨v, rfl, ⟨r3, rfl, hr30, hr31, -⟩, hR8, hg8⟩
  have hr32 := hr31 (by omega)
  have HS8 := Lib.hid (HS7.out.step hR8 hg8)
  obtain ⟨hx, hbv, hb0, hbl⟩ := HX.out
  rw [← hbl] at hbv
  obtain ⟨g', cap', bv', e1, e2, _, _, _, _, z2, _, _⟩ := HS8.out.own.v.row.at hx
  have e3 := slice_eq e2
  clear e2
  obtain ⟨e2, -, -⟩ := e3
  obtain rfl : g = g' := by simpa using e2
  obtain rfl := Option.some.inj (hbv.symm.trans e1)
  rw [hbl] at z2
  have hoi := HS8.out.own.v.inner i x _ hx hbv
  obtain ⟨gb', cb', eb, hgb3, hgb4, _, hcc, hff⟩ := hoi.at hb0
  have eb2 := slice_eq eb
  clear eb
  obtain ⟨eb3, -, -⟩ := eb2
  obtain rfl : gb = gb' := by simpa using eb3
  have z1 := HS8.out.pool.cell 1
  simp at z1
  clear hx hbv hb0 hbl e1 e2 eb3 hoi hR8 hg8 hr31
  refine ⟨_, rfl, ?_⟩
  refine hK.out _ _ ⟨z1, z2⟩ (fun hHeld => ?_)
  clear hK K
  refine norm_ (a' := ?_) ?_ ?_
  rotate_left
  ·show Act.put _ (some 47) _ = _
   simp only [Act.put, lA, lB, lC, i64_w, i32_w]
   rfl
  refine pure_ (i := 8) (N := some 48) (v := ?_) (a' := ?_) #[bT, bT, bT, bT, bT, bT, bT, bT, bT, bF] rfl rfl (by kernel_rfl) (fun _ _ _ h => h) (Or.inl ⟨by rfl, ?_⟩) ?_ ?_
  rotate_left
  ·intro w'
   go_simp
   with_reducible rfl
  rotate_left
  ·simp only [Act.put, lA, lB, lC, i64_w, i32_w]
   rfl
  refine last_ (i := 9) (N := none) #[bT, bT, bT, bT, bT, bT, bT, bT, bT, bT] rfl rfl (by kernel_rfl) (by decide) (fun K hK => ?_)
  refine skip_ (w1 := ?_) (by rfl) rfl ?_ ?_
  rotate_left
  ·go_simp
   rfl
  refine hK.out _ _ ?_
  clear hK K
  refine done_ (by kernel_rfl) ?_
  obtain ⟨hx, hbv, hb0, hbl⟩ := HX.out
  rw [← hbl] at hbv
  have hoi := HS8.out.own.v.inner i x _ hx hbv
  have hu := OwnI.set hoi hb0 r3
  obtain ⟨cs, hcs⟩ := own_type hoi rfl
  have hv2 := HS8.out.own.v.setI hx hbv (by have := hu.1; unfold OwnI at this ⊢; rw [List.length_set] at this ⊢; exact this) hu.2
  have hq : OwnP _ w.heap.size _ _ ⟨p.slots, p.vols.set i ⟨x.name, x.blocks.set 0 r3⟩⟩ bvs := ⟨own_other_type HS8.out.own.s hoi (by decide) hu.2, hv2⟩
  have HS9 := Lib.hid (HS8.out.own' hcs (by decide) hgb3 hu.2 hq)
  have DP := Lib.hid (HP.out.drawn.setB hx r3)
  clear hx hbv hb0 hbl hoi hu hcs hv2 hq z1 z2 y0 y1 hcc hff hc' hc2 hHeld
  generalize w8.setCell ⟨gb, 0, none⟩ (.int .i64 r3) = W9 at HS9 ⊢
  have hsf := HS9.out
  have x0 := hsf.res.cell 0
  have x1 := hsf.res.cell 1
  have f0 := hsf.res.free 0
  have f1 := hsf.res.free 1
  have y0 := hsf.pool.cell 0
  have y1 := hsf.pool.cell 1
  have zr := hsf.res.lt
  simp at x0 x1 y0 y1
  clear hsf
  go_wp2
  have hsf := HS9.out
  have hl0 := hsf.l3
  have hx1 := hsf.res.set 0 (.slice A0 ns c0) (cs' := #[.slice A0 ns c0, .slice none 0 0]) rfl
  have hx2 := hx1.set 1 (.slice (some ⟨g, 0, none⟩) nv c1) (cs' := #[.slice A0 ns c0, .slice (some ⟨g, 0, none⟩) nv c1]) rfl
  have ho2 := (hsf.own.far hsf.res (by decide) (by decide) (by decide) 0 (.slice A0 ns c0)).far hx1 (by decide) (by decide) (by decide) 1 (.slice (some ⟨g, 0, none⟩) nv c1)
  have hr2 := (hsf.rd.set (b := w.heap.size) hl0 0 (.slice A0 ns c0)).set (b := w.heap.size) hl0 1 (.slice (some ⟨g, 0, none⟩) nv c1)
  have hg2 := grown_new (grown_new hsf.g (Nat.le_refl _) 0 (.slice A0 ns c0)) (Nat.le_refl _) 1 (.slice (some ⟨g, 0, none⟩) nv c1)
  refine bodyPost_ret (results_cell_row rfl _ _ w.heap.size 42 #[.slice A0 ns c0, .slice (some ⟨g, 0, none⟩) nv c1] (0, 0) _ rfl hx2 Tryz.underlying42 rfl (by kernel_rfl)) rfl ?_
  exact ⟨_, _, _, bvs, rfl, DP.out, ho2, hr2.more (by omega), hg2⟩
 by_cases hrc : r = 2
 ·subst hrc
  have hs5 := HS5.out
  have y0 := hs5.pool.cell 0
  have y1 := hs5.pool.cell 1
  have f0 := hs5.pool.free 0
  have f1 := hs5.pool.free 1
  have hzp := hs5.pool.lt
  simp at y0 y1
  have hl2 := hs5.l2
  have hsz := hs5.g.size
  have hn1 : ¬ pb = w.heap.size := by omega
  have hn2 : ¬ w.heap.size = pb := by omega
  have hrow : (w5.alloc (.cells #[.int .i64 0] 3)).ownsRow w.heap.size 128 2 (.slice A1 nv c1) nv ((p.vols.zip bvs).flatMap encV) := by
   have := (hs5.own.bel (bel_alloc (Below.refl _ _) (.cells #[.int .i64 0] 3))).v.row.row
   rw [HN.out.2] at this
   exact this
  have HROW := Lib.hid hrow
  have hoi : OwnI (w5.alloc (.cells #[.int .i64 0] 3)) w.heap.size (.slice (some ⟨w5.heap.size, 0, none⟩) 1 1) [0] := World.ownsRow_lit (base := w.heap.size) (e := 3) (size := 1) w5 #[.int .i64 0] 1 hsz (by unfold maxLen; omega) rfl
  have HOI := Lib.hid hoi
  clear hs5 hrow hoi
  go_wp2_with (at_builtin; refine print_append_cells (w0 := (w5.alloc (.cells #[.int .i64 0] 3))) w.heap.size rfl (.tmp 52) (.tmp 55) 40 128 (.agg #[.string ⟨#[]⟩, .slice none 0 0]) 2 40 rfl Tryz.underlying40 info_vol rfl (by decide) (by decide) _ nv ((p.vols.zip bvs).flatMap encV) [.string ⟨#[65]⟩, .slice (some ⟨w5.heap.size, 0, none⟩) 1 1] rfl (by show Value.slice (some ⟨_, 0, none⟩) 1 1 = Value.slice (some ⟨_, 0, none⟩) 1 1; simp) rfl (by intro u hu; simp at hu; rcases hu with rfl | rfl <;> rfl) HROW.out (Below.refl _ _) (by simp; omega) (by omega) ?_; intro v2 w8 hr2 hbq hgq hat2; obtain ⟨A9, c9, rfl, hc9⟩ := own_cap hr2; have hp8 := Blk.grown (HS5.out.pool.alloc (.cells #[.int .i64 0] 3)) hgq (own_blk_ne HROW.out (HS5.out.pool.alloc _) (by decide)); have hs8 := Blk.grown (HS5.out.res.alloc (.cells #[.int .i64 0] 3)) hgq (own_blk_ne HROW.out (HS5.out.res.alloc _) (by decide)); have g0 := hp8.free 0; have g1 := hp8.free 1; have z0 := hp8.cell 0; have z1 := hp8.cell 1; have zl := hp8.lt; have x0 := hs8.cell 0; have x1 := hs8.cell 1; have u0 := hs8.free 0; have u1 := hs8.free 1; have zr := hs8.lt; simp at z0 z1 x0 x1; have HX8 := Lib.hid (And.intro (And.intro hp8 hs8) (And.intro hr2 hgq)); clear hp8 hs8 hr2 hbq hgq hat2)
  have hl3 := HS5.out.l3
  obtain ⟨⟨hp8, hs8⟩, hr2, hgq⟩ := HX8.out
  have hb5 : Bel w5 (w5.alloc (.cells #[.int .i64 0] 3)) := bel_alloc (Below.refl _ _) _
  have hov : OwnV w8 w.heap.size (.slice A9 (nv + 1) c9) (p.vols ++ [⟨⟨#[65]⟩, [0]⟩]) (bvs ++ [.slice (some ⟨w5.heap.size, 0, none⟩) 1 1]) :=
   OwnV.push (HS5.out.own.v.bel hb5) HOI.out (fun m b' k' hb hk e => by
    have h1 := HS5.out.own.v.inner_lt hb hk
    have h2 : w5.heap.size = k' := by simpa [Value.ownBlock] using e
    omega) hgq (by rw [HN.out.2]; exact hr2)
  have hos : OwnS w8 w.heap.size (.slice A0 ns c0) p.slots := own_other_type (HS5.out.own.s.bel hb5) HROW.out (by decide) hgq
  have HS9 : OpsSt w (w8.setCell ⟨pb, 1, none⟩ (.slice A9 (nv + 1) c9)) rb _ (.slice A0 ns c0) (.slice A9 (nv + 1) c9) ⟨p.slots, p.vols ++ [⟨⟨#[65]⟩, [0]⟩]⟩ (bvs ++ [.slice (some ⟨w5.heap.size, 0, none⟩) 1 1]) pb 0 (.slice none 0 0) [] :=
   ⟨hs8.apart (by omega) 1 _, hp8.set 1 (.slice A9 (nv + 1) c9) rfl, ((HS5.out.rd.bel hb5).grown hgq (fun b e => by have := own_base HROW.out b e; omega)).set (Nat.lt_trans hl3 hl2) 1 (.slice A9 (nv + 1) c9), (show OwnP w8 w.heap.size (.slice A0 ns c0) (.slice A9 (nv + 1) c9) ⟨p.slots, p.vols ++ [⟨⟨#[65]⟩, [0]⟩]⟩ (bvs ++ [.slice (some ⟨w5.heap.size, 0, none⟩) 1 1]) from ⟨hos, hov⟩).far hp8 (by decide) (by decide) (by decide) 1 (.slice A9 (nv + 1) c9), World.ownsRow_nil _ _ _ _, grown_new (grown_own (grown_tr HS5.out.g (grown_of_bel hb5 _)) hgq (own_base HROW.out)) (Nat.le_of_lt hl2) 1 (.slice A9 (nv + 1) c9), hl2, hl3⟩
  have DP := HP.out.addA
  have hsf := HS9
  have hl0 := hsf.l3
  have hx1 := hsf.res.set 0 (.slice A0 ns c0) (cs' := #[.slice A0 ns c0, .slice none 0 0]) rfl
  have hx2 := hx1.set 1 (.slice A9 (nv + 1) c9) (cs' := #[.slice A0 ns c0, .slice A9 (nv + 1) c9]) rfl
  have ho2 := (hsf.own.far hsf.res (by decide) (by decide) (by decide) 0 (.slice A0 ns c0)).far hx1 (by decide) (by decide) (by decide) 1 (.slice A9 (nv + 1) c9)
  have hr2 := (hsf.rd.set (b := w.heap.size) hl0 0 (.slice A0 ns c0)).set (b := w.heap.size) hl0 1 (.slice A9 (nv + 1) c9)
  have hg2 := grown_new (grown_new hsf.g (Nat.le_refl _) 0 (.slice A0 ns c0)) (Nat.le_refl _) 1 (.slice A9 (nv + 1) c9)
  refine bodyPost_ret (results_cell_row rfl _ _ w.heap.size 42 #[.slice A0 ns c0, .slice A9 (nv + 1) c9] (0, 0) _ rfl hx2 Tryz.underlying42 rfl (by kernel_rfl)) rfl ?_
  exact ⟨_, _, _, _, rfl, DP, ho2, hr2.more (by omega), hg2⟩
 have DP := Lib.hid HP.out.drawn
 have hsf := HS5.out
 have x0 := hsf.res.cell 0
 have x1 := hsf.res.cell 1
 have f0 := hsf.res.free 0
 have f1 := hsf.res.free 1
 have y0 := hsf.pool.cell 0
 have y1 := hsf.pool.cell 1
 have zr := hsf.res.lt
 simp at x0 x1 y0 y1
 clear hsf
 go_wp2
 have hsf := HS5.out
 have hl0 := hsf.l3
 have hx1 := hsf.res.set 0 (.slice A0 ns c0) (cs' := #[.slice A0 ns c0, .slice none 0 0]) rfl
 have hx2 := hx1.set 1 (.slice A1 nv c1) (cs' := #[.slice A0 ns c0, .slice A1 nv c1]) rfl
 have ho2 := (hsf.own.far hsf.res (by decide) (by decide) (by decide) 0 (.slice A0 ns c0)).far hx1 (by decide) (by decide) (by decide) 1 (.slice A1 nv c1)
 have hr2 := (hsf.rd.set (b := w.heap.size) hl0 0 (.slice A0 ns c0)).set (b := w.heap.size) hl0 1 (.slice A1 nv c1)
 have hg2 := grown_new (grown_new hsf.g (Nat.le_refl _) 0 (.slice A0 ns c0)) (Nat.le_refl _) 1 (.slice A1 nv c1)
 refine bodyPost_ret (results_cell_row rfl _ _ w.heap.size 42 #[.slice A0 ns c0, .slice A1 nv c1] (0, 0) _ rfl hx2 Tryz.underlying42 rfl (by kernel_rfl)) rfl ?_
 exact ⟨_, _, p, bvs, rfl, DP.out, ho2, hr2.more (by omega), hg2⟩
end Go.Proofs.YtccllgpaafgjaaaGreat

namespace Go.Proofs.YtccllgpaafgjaaaGreat
open Go.RowKit Go.Proofs.YtccllgpaafgjaaaGreatW.PrintWords Go.Proofs.YtccllgpaafgjaaaGreatW.PrintLast
theorem tail_append_step {ops : Array Oper} {o : Oper} {a : Act} {Q : Exit → Act → World → Prop} {Kc : Act → World → Prop} {W : World} {base : Nat} {v : Value} {os : List Op} (hw : Region.wanted o (yielded ops a.tmps) = true) (s x : Operand)
  (ho : o.op = .call { callee := .builtin .append, args := #[s, x], argTypes := #[23, 23] }) (hs : a.eval s = v) (y : Op) (ad : Addr) (c : Nat) (hx : a.eval x = .slice (some ad) 1 c)
  (hc : ∀ j u, (encO y)[j]? = some u → W.cell? (ad.add j) = some u) (h : OwnT W base v os) (hl : os.length ≤ 1048576) (hbase : base ≤ W.heap.size)
  (K : ∀ v1 w1, OwnT w1 base v1 (os ++ [y]) → W.grownBy w1 v.ownBlock → Kc (a.put o.dst v1) w1) :
  if Region.wanted o (yielded ops a.tmps) = true then Oper.wp Tryz.prog o a W Kc Q else Kc (a.put o.dst undef) W := by
 obtain ⟨v1, w1, hr1, h1, hg, hat⟩ := run_append_tail h o.type y ad c hc hl hbase
 rw [if_pos hw]
 unfold Oper.wp execOp
 simp only [ho, resolve, invoke, builtin, Sem.run_bind, Sem.run_pure, Result.andThen_ok, List.map_toArray, List.map_cons, List.map_nil, hs, hx, hr1]
 exact K v1 w1 h1 hg
theorem OwnT.rd {w w' : World} {base : Nat} {v : Value} {os : List Op} (h : OwnT w base v os) {rb k : Nat} (hR : Rd w rb k) (hg : w.grownBy w' (some rb)) : OwnT w' base v os := by
 obtain ⟨A, c, bs, q, hB, _⟩ := hR.h
 refine h.kept hg fun k hk e => ?_
 injection e with e
 subst e
 obtain ⟨_, _, cs', hc⟩ := h.base _ hk
 have h2 := hB.symm.trans hc
 injection h2 with h2
 injection h2 with _ h2
 exact absurd h2 (by decide)
theorem OwnT.lower {w : World} {b b' : Nat} {v : Value} {os : List Op} (h : OwnT w b v os) (hb : b' ≤ b) : OwnT w b' v os := by
 rcases h with ⟨rfl, A, rfl, ha⟩ | ⟨g, cap, pre, rfl, hpl, ho⟩
 ·exact .inl ⟨rfl, A, rfl, fun a e => ⟨Nat.le_trans hb (ha a e).1, (ha a e).2⟩⟩
 ·exact .inr ⟨g, cap, pre, rfl, hpl, own_lower ho hb⟩
theorem row_otherT {w w' : World} {b1 b2 : Nat} {e1 : TypeId} {s1 n1 : Nat} {v1 v2 : Value} {x1 : List Value} {os : List Op} (h1 : w.ownsRow b1 e1 s1 v1 n1 x1) (h2 : OwnT w b2 v2 os) (hne : e1 ≠ 27) (hg : w.grownBy w' v2.ownBlock) : w'.ownsRow b1 e1 s1 v1 n1 x1 := by
 refine World.ownsRow.kept h1 hg ?_
 cases hk : v1.ownBlock with
 | none => exact .inl rfl
 | some k =>
  refine .inr fun e => ?_
  obtain ⟨c1, hc1⟩ := own_type h1 hk
  obtain ⟨_, _, c2, hc2⟩ := h2.base k e.symm
  rw [hc1] at hc2
  injection hc2 with hc2
  injection hc2 with _ ht
  exact hne ht
theorem blk_otherT {w : World} {b2 : Nat} {v2 : Value} {os : List Op} (h2 : OwnT w b2 v2 os) {b : Nat} {cs : Array Value} {t : TypeId} (hB : Blk w b cs t) (hne : 27 ≠ t) : some b ≠ v2.ownBlock := fun e => by
 obtain ⟨_, _, c2, hc2⟩ := h2.base b e.symm
 have h3 := hB.symm.trans hc2
 injection h3 with h3
 injection h3 with _ h3
 exact hne h3.symm
theorem OwnP.otherT {w w' : World} {b2 : Nat} {v2 : Value} {os : List Op} {base : Nat} {v0 v1 : Value} {p : Pool} {bvs : List Value} (h : OwnP w base v0 v1 p bvs) (h2 : OwnT w b2 v2 os) (hg : w.grownBy w' v2.ownBlock) : OwnP w' base v0 v1 p bvs :=
 ⟨row_otherT h.s h2 (by decide) hg, ⟨⟨h.v.row.len, row_otherT h.v.row.row h2 (by decide) hg⟩, fun m x b hx hb => row_otherT (h.v.inner m x b hx hb) h2 (by decide) hg, h.v.apart⟩⟩
theorem packF_small {l : Log} (h : SmallL l) : SmallL (packF l) := by
 unfold packF
 split
 ·exact ⟨runV_small, h.ops.drop _⟩
 ·exact noL_small
theorem packF_len {l : Log} : (packF l).ops.length ≤ l.ops.length := by
 unfold packF
 split
 ·exact Nat.le_trans (by rw [List.length_drop]; exact Nat.sub_le _ _) (Nat.le_refl _)
 ·exact Nat.zero_le _
structure DrawnL (l : Log) (n : Nat) : Prop where
  small : SmallL l
  len : l.ops.length ≤ n
theorem DrawnL.pack {l : Log} {n : Nat} (h : DrawnL l n) : DrawnL (packF l) n := ⟨packF_small h.small, Nat.le_trans packF_len h.len⟩
theorem DrawnL.safe {l : Log} {n : Nat} (h : DrawnL l n) (s : Int) : DrawnL ⟨l.base, l.ops, s⟩ n := ⟨⟨h.small.base, h.small.ops⟩, h.len⟩
theorem DrawnL.basis {l : Log} {n : Nat} (h : DrawnL l n) {p : Pool} (hp : SmallP p) : DrawnL ⟨p, l.ops, l.safe⟩ n := ⟨⟨hp, h.small.ops⟩, h.len⟩
theorem DrawnL.snoc {l : Log} {n : Nat} (h : DrawnL l n) (hn : n ≤ 1000) {o : Op} (ho : SmallO o) : DrawnL ⟨l.base, l.ops ++ [o], l.safe⟩ (n + 1) := by
 have hl := h.len
 have e : (l.ops ++ [o]).length = l.ops.length + 1 := by rw [List.length_append]; rfl
 refine ⟨⟨h.small.base, ⟨by show (l.ops ++ [o]).length ≤ _; omega, fun x hx => ?_⟩⟩, by show (l.ops ++ [o]).length ≤ _; omega⟩
 rcases List.mem_append.1 hx with hx | hx
 ·exact h.small.ops.op x hx
 ·rw [List.mem_singleton.1 hx]; exact ho
structure LgSt (w W : World) (rb k : Nat) (v0 v1 v2 : Value) (l : Log) (bvs : List Value) (lb : Nat) : Prop where
  res : Blk W w.heap.size #[.slice none 0 0, .slice none 0 0, .slice none 0 0, .int .i64 0] 44
  var : Blk W lb #[v0, v1, v2, .int .i64 l.safe] 44
  rd : Rd W rb k
  own : OwnP W w.heap.size v0 v1 l.base bvs
  ops : OwnT W w.heap.size v2 l.ops
  g : w.grownBy W (some rb)
  l2 : w.heap.size < lb
  l3 : rb < w.heap.size
section
variable {w W W' : World} {rb k k' lb : Nat} {v0 v1 v2 : Value} {l : Log} {bvs : List Value}
theorem LgSt.step (h : LgSt w W rb k v0 v1 v2 l bvs lb) (hR : Rd W' rb k') (hg : W.grownBy W' (some rb)) : LgSt w W' rb k' v0 v1 v2 l bvs lb :=
 ⟨h.res.grown hg (fun e => by injection e with e; have := h.l3; omega), h.var.grown hg (fun e => by injection e with e; have := h.l3; have := h.l2; omega), hR, h.own.rd h.rd hg, h.ops.rd h.rd hg, grown_tr h.g hg, h.l2, h.l3⟩
theorem LgSt.bel (h : LgSt w W rb k v0 v1 v2 l bvs lb) (hb : Bel W W') : LgSt w W' rb k v0 v1 v2 l bvs lb :=
 ⟨h.res.bel hb, h.var.bel hb, h.rd.bel hb, h.own.bel hb, h.ops.bel hb, grown_tr h.g (grown_of_bel hb _), h.l2, h.l3⟩
theorem LgSt.setS (h : LgSt w W rb k v0 v1 v2 l bvs lb) (s : Int) : LgSt w (W.setCell ⟨lb, 3, none⟩ (.int .i64 s)) rb k v0 v1 v2 ⟨l.base, l.ops, s⟩ bvs lb :=
 ⟨h.res.apart (by have := h.l2; omega) 3 _, h.var.set 3 _ rfl, h.rd.set (Nat.lt_trans h.l3 h.l2) 3 _, h.own.far h.var (by decide) (by decide) (by decide) 3 _, h.ops.far h.var (by decide) 3 _, grown_new h.g (Nat.le_of_lt h.l2) 3 _, h.l2, h.l3⟩
theorem LgSt.setP (h : LgSt w W rb k v0 v1 v2 l bvs lb) {u0 u1 : Value} {q : Pool} {bq : List Value} (hq : OwnP W w.heap.size u0 u1 q bq) : LgSt w ((W.setCell ⟨lb, 0, none⟩ u0).setCell ⟨lb, 1, none⟩ u1) rb k u0 u1 v2 ⟨q, l.ops, l.safe⟩ bq lb := by
 have hv := h.var.set 0 u0 (cs' := #[u0, v1, v2, .int .i64 l.safe]) rfl
 have hlt := Nat.lt_trans h.l3 h.l2
 exact ⟨(h.res.apart (by have := h.l2; omega) 0 _).apart (by have := h.l2; omega) 1 _, hv.set 1 _ rfl, (h.rd.set hlt 0 _).set hlt 1 _, (hq.far h.var (by decide) (by decide) (by decide) 0 _).far hv (by decide) (by decide) (by decide) 1 _, (h.ops.far h.var (by decide) 0 _).far hv (by decide) 1 _, grown_new (grown_new h.g (Nat.le_of_lt h.l2) 0 _) (Nat.le_of_lt h.l2) 1 _, h.l2, h.l3⟩
theorem LgSt.set4 (h : LgSt w W rb k v0 v1 v2 l bvs lb) {u0 u1 u2 : Value} {q : Log} {bq : List Value} (hq : OwnP W w.heap.size u0 u1 q.base bq) (hu : OwnT W w.heap.size u2 q.ops) : LgSt w (wset4 W lb u0 u1 u2 (.int .i64 q.safe)) rb k u0 u1 u2 q bq lb := by
 have hlt := Nat.lt_trans h.l3 h.l2
 exact ⟨h.res.apart4 (by have := h.l2; omega) _ _ _ _, h.var.set4 _ _ _ _, (((h.rd.set hlt 0 _).set hlt 1 _).set hlt 2 _).set hlt 3 _, hq.far4 h.var _ _ _ _, hu.far4 h.var _ _ _ _, grown_new (grown_new (grown_new (grown_new h.g (Nat.le_of_lt h.l2) 0 _) (Nat.le_of_lt h.l2) 1 _) (Nat.le_of_lt h.l2) 2 _) (Nat.le_of_lt h.l2) 3 _, h.l2, h.l3⟩
theorem LgSt.app (h : LgSt w W rb k v0 v1 v2 l bvs lb) (hg : W.grownBy W' v2.ownBlock) {u : Value} {os : List Op} (hu : OwnT W' w.heap.size u os) : LgSt w (W'.setCell ⟨lb, 2, none⟩ u) rb k v0 v1 u ⟨l.base, os, l.safe⟩ bvs lb := by
 have hv := h.var.grown hg (blk_otherT h.ops h.var (by decide))
 have hr := h.res.grown hg (blk_otherT h.ops h.res (by decide))
 have hlt := Nat.lt_trans h.l3 h.l2
 have hrd := h.rd.grown hg (fun b e => by have := (h.ops.base b e).1; have := h.l3; omega)
 exact ⟨hr.apart (by have := h.l2; omega) 2 _, hv.set 2 _ rfl, hrd.set hlt 2 _, (h.own.otherT h.ops hg).far hv (by decide) (by decide) (by decide) 2 _, hu.far hv (by decide) 2 _, grown_new (grown_own h.g hg (fun b e => (h.ops.base b e).1)) (Nat.le_of_lt h.l2) 2 _, h.l2, h.l3⟩
theorem LgSt.lit (h : LgSt w W rb k v0 v1 v2 l bvs lb) : ∃ (A B C : Option Addr) (a b c : Nat), v0 = .slice A l.base.slots.length a ∧ v1 = .slice B l.base.vols.length b ∧ v2 = .slice C l.ops.length c ∧ LogIn W A B C a b c l := by
 obtain ⟨A, B, a, b, rfl, rfl, hi⟩ := h.own.reads
 obtain ⟨C, c, rfl, hc, hC⟩ := h.ops.reads
 exact ⟨A, B, C, a, b, c, rfl, rfl, rfl, ⟨hi, hC, hc⟩⟩
end
def LogOut (rb k d n : Nat) (w : World) (e : Ending) (w' : World) : Prop := ∃ (v0 v1 v2 : Value) (l : Log) (bvs : List Value), e = .returned (.agg #[v0, v1, v2, .int .i64 l.safe]) ∧ DrawnL l n ∧ OwnP w' w.heap.size v0 v1 l.base bvs ∧ OwnT w' w.heap.size v2 l.ops ∧ Rd w' rb (k + d) ∧ w.grownBy w' (some rb)
theorem LgSt.out {w W : World} {rb k k' lb n d : Nat} {v0 v1 v2 : Value} {l : Log} {bvs : List Value} (h : LgSt w W rb k v0 v1 v2 l bvs lb) (hl : DrawnL l n) (hd : k ≤ k' + d) : LogOut rb k' d n w (.returned (.agg #[v0, v1, v2, .int .i64 l.safe])) (wset4 W w.heap.size v0 v1 v2 (.int .i64 l.safe)) := by
 have hlt := h.l3
 refine ⟨v0, v1, v2, l, bvs, rfl, hl, h.own.far4 h.res _ _ _ _, h.ops.far4 h.res _ _ _ _, ((((h.rd.set hlt 0 _).set hlt 1 _).set hlt 2 _).set hlt 3 _).more hd, ?_⟩
 exact grown_new (grown_new (grown_new (grown_new h.g (Nat.le_refl _) 0 _) (Nat.le_refl _) 1 _) (Nat.le_refl _) 2 _) (Nat.le_refl _) 3 _
end Go.Proofs.YtccllgpaafgjaaaGreat

namespace Go.Proofs.YtccllgpaafgjaaaGreat
open Go.RowKit Go.Proofs.YtccllgpaafgjaaaGreatW.PrintWords Go.Proofs.YtccllgpaafgjaaaGreatW.PrintLast
theorem blk_cells5 {w : World} {b : Nat} {o : Op} (hB : Blk w b #[.int .i64 o.kind, .string o.name, .string o.dest, .int .i64 o.n, .string o.text] 27) : ∀ j u, (encO o)[j]? = some u → w.cell? ((⟨b, 0, none⟩ : Addr).add j) = some u := by
 intro j u hj
 rw [Addr.add_lit, Nat.zero_add, hB.cell]
 simpa [encO] using hj
theorem DrawnL.more {l : Log} {n m : Nat} (h : DrawnL l n) (hm : n ≤ m) : DrawnL l m := ⟨h.small, Nat.le_trans h.len hm⟩
set_option maxHeartbeats 32000000 in
set_option maxRecDepth 10000 in
theorem log_c {w : World} {rb k : Nat} (h : Rd w rb k) (hk : k ≤ 1000000000000) :
  Calls Tryz.prog 100 #[.pointer (some ⟨rb, 0, none⟩)] w (LogOut rb k 50000 21 w) := by
 have H := Lib.hid h
 have hlt := h.lt
 clear h
 go_enter Tryz.func100, Tryz.ntmps100
 go_wp2_with fail
 have hr0 : Blk (w.alloc (.cells #[.slice none 0 0, .slice none 0 0, .slice none 0 0, .int .i64 0] 44)) w.heap.size #[.slice none 0 0, .slice none 0 0, .slice none 0 0, .int .i64 0] 44 := Blk.new _ _ _
 have hW : Bel w (w.alloc (.cells #[.slice none 0 0, .slice none 0 0, .slice none 0 0, .int .i64 0] 44)) := bel_alloc (Below.refl _ _) _
 generalize (w.alloc (.cells #[.slice none 0 0, .slice none 0 0, .slice none 0 0, .int .i64 0] 44)) = W0 at hr0 hW ⊢
 refine (pick_c (H.out.bel hW) (by omega) 21 (by omega)).mono ?_
 rintro e w1 ⟨v, rfl, ⟨r, rfl, hp0, hp1, -⟩, hR1, hg1⟩
 have hp2 := hp1 (by omega)
 obtain ⟨n, rfl⟩ : ∃ n : Nat, r = n := ⟨r.toNat, by omega⟩
 have HR1 := Lib.hid (And.intro (hr0.grown hg1 (by intro e; injection e with e; omega)) (And.intro hR1 (grown_tr (grown_of_bel hW _) hg1)))
 clear hr0 hW hR1 hg1 hp1
 go_wp2_with fail
 refine (ops2_c HR1.out.2.1 (by omega) n (by omega)).mono ?_
 rintro e w3 ⟨v7, v0, v1, p, bvs, os, rfl, ⟨_, _, hol, hos⟩, hoo, ho, hR3, hg3⟩
 obtain ⟨A0, A1, c0, c1, rfl, rfl, hpi⟩ := ho.reads
 obtain ⟨C, c, rfl, hoc, hC⟩ := hoo.reads
 have HR3 := Lib.hid (And.intro (HR1.out.1.grown hg3 (by intro e; injection e with e; omega)) (And.intro hR3 (grown_tr HR1.out.2.2 hg3)))
 have HOO := Lib.hid (show OwnO w3 w.heap.size (.slice C os.length c) os from own_lower hoo HR1.out.2.2.size)
 have HL0 := Lib.hid (show DrawnL ⟨newP, os, 0⟩ 20 from ⟨⟨newP_ok.small, ⟨by show os.length ≤ _; omega, hos⟩⟩, by show os.length ≤ _; omega⟩)
 clear hpi ho hC hoo hR3 hg3 hos HR1
 go_wp2_with fail
 have hb4 : Bel w3 (w3.alloc (.cells #[.slice A0 p.slots.length c0, .slice A1 p.vols.length c1] 42)) := bel_alloc (Below.refl _ _) _
 generalize (w3.alloc (.cells #[.slice A0 p.slots.length c0, .slice A1 p.vols.length c1] 42)) = W4 at hb4 ⊢
 have HN := Lib.hid (specPoolNew_c W4)
 have HL1 := Lib.hid (And.intro HL0.out (rfl : newP = newP))
 obtain ⟨np, hnp⟩ : ∃ np, newP = np := ⟨_, rfl⟩
 rw [hnp] at HN HL0
 clear hnp HL1
 refine HN.out.mono ?_
 rintro e w5 ⟨u0, u1, bu, rfl, hu, hb5⟩
 obtain ⟨E0, E1, k0, k1, rfl, rfl, hpi⟩ := hu.reads
 have hst : LgSt w (w5.alloc (.cells #[.slice E0 np.slots.length k0, .slice E1 np.vols.length k1, .slice C os.length c, .int .i64 0] 44)) rb (k + 1 + 20000) (.slice E0 np.slots.length k0) (.slice E1 np.vols.length k1) (.slice C os.length c) ⟨np, os, 0⟩ bu w5.heap.size := by
  have hba : Bel w3 (w5.alloc (.cells #[.slice E0 np.slots.length k0, .slice E1 np.vols.length k1, .slice C os.length c, .int .i64 0] 44)) := bel_alloc (hb4.tr hb5) _
  have hsz := HR3.out.2.2.size
  exact ⟨HR3.out.1.bel hba, Blk.new _ _ _, HR3.out.2.1.bel hba, (hu.lower (Nat.le_trans hsz hb4.size)).bel (bel_alloc (Below.refl _ _) _), (OwnO.tail (HOO.out.bel hba)), grown_tr HR3.out.2.2 (grown_of_bel hba _), Nat.lt_of_lt_of_le HR3.out.1.lt (hb4.tr hb5).size, hlt⟩
 have HS := Lib.hid hst
 have HL := HL0
 have hwn : wrap64 ((os.length : Int) + 1) = (os.length : Int) + 1 := by unfold wrap64; omega
 clear hst hu hb4 hb5 hpi HN HR3 HOO HL0
 go_wp2_with fail
 generalize (w5.alloc (.cells #[.slice E0 np.slots.length k0, .slice E1 np.vols.length k1, .slice C os.length c, .int .i64 0] 44)) = W6 at HS ⊢
 obtain ⟨lb, hlb⟩ : ∃ lb, w5.heap.size = lb := ⟨_, rfl⟩
 rw [hlb] at HS ⊢
 clear hlb
 refine (pick_c HS.out.rd (by omega) ((os.length : Int) + 1) (by omega)).mono ?_
 rintro e w7 ⟨v, rfl, ⟨sf, rfl, hs0, hs1, -⟩, hR, hg⟩
 replace HS := Lib.hid (HS.out.step hR hg)
 clear hR hg hs1 hwn
 have c0 := HS.out.var.cell 0
 have c1 := HS.out.var.cell 1
 have c2 := HS.out.var.cell 2
 have c3 := HS.out.var.cell 3
 have g0 := HS.out.var.free 0
 have g1 := HS.out.var.free 1
 have g2 := HS.out.var.free 2
 have g3 := HS.out.var.free 3
 have cy := HS.out.var.lt
 simp at c0 c1 c2 c3
 have HS0 := Lib.hid (HS.out.setS sf)
 have HL0 := Lib.hid (HL.out.safe sf)
 go_wp2_with fail
 clear c0 c1 c2 c3 g0 g1 g2 g3 cy HS HL
 have HS := HS0
 have HL := HL0
 clear HS0 HL0
 generalize w7.setCell ⟨lb, 3, none⟩ (.int .i64 sf) = W8 at HS ⊢
 refine (pick_c HS.out.rd (by omega) 3 (by omega)).mono ?_
 rintro e w9 ⟨v, rfl, ⟨r3, rfl, ht0, ht1, -⟩, hR, hg⟩
 replace HS := Lib.hid (HS.out.step hR hg)
 clear hR hg ht1
 by_cases hr3 : r3 = 0
 ·subst hr3
  have c0 := HS.out.var.cell 0
  have c1 := HS.out.var.cell 1
  have c2 := HS.out.var.cell 2
  have c3 := HS.out.var.cell 3
  have g0 := HS.out.var.free 0
  have g1 := HS.out.var.free 1
  have g2 := HS.out.var.free 2
  have g3 := HS.out.var.free 3
  have cy := HS.out.var.lt
  simp at c0 c1 c2 c3
  go_wp2_with fail
  clear c0 c1 c2 c3 g0 g1 g2 g3 cy
  obtain ⟨X0, X1, X2, x0, x1, x2, e0, e1, e2, hin⟩ := HS.out.lit
  have e0 := slice_eq e0
  have e1 := slice_eq e1
  have e2 := slice_eq e2
  obtain ⟨rfl, -, rfl⟩ := e0
  obtain ⟨rfl, -, rfl⟩ := e1
  obtain ⟨rfl, -, rfl⟩ := e2
  have HK := specLogPack_c hin HL.out.small
  have HLP := Lib.hid (HL.out.pack)
  generalize packF ⟨np, os, sf⟩ = q at HK HLP
  refine HK.mono ?_
  rintro e w10 ⟨y0, y1, y2, by0, rfl, hp10, ho10, hb10⟩
  clear hin HK
  obtain ⟨A, B, a, b, rfl, rfl, hpi⟩ := hp10.reads
  obtain ⟨C, c, rfl, hy2, hyC⟩ := ho10.reads
  have hsz := HS.out.g.size
  replace HS := Lib.hid (HS.out.bel hb10)
  have HS0 := Lib.hid (HS.out.set4 (hp10.lower hsz) (ho10.lower hsz))
  have hl20 := HLP.out.len
  have hwn : wrap64 ((q.ops.length : Int) + 1) = (q.ops.length : Int) + 1 := by unfold wrap64; omega
  clear hpi hy2 hyC hp10 ho10 hb10 hsz HL
  unfold wset4 at HS0
  have c0 := HS.out.var.cell 0
  have c1 := HS.out.var.cell 1
  have c2 := HS.out.var.cell 2
  have c3 := HS.out.var.cell 3
  have g0 := HS.out.var.free 0
  have g1 := HS.out.var.free 1
  have g2 := HS.out.var.free 2
  have g3 := HS.out.var.free 3
  have cy := HS.out.var.lt
  simp at c0 c1 c2 c3
  go_wp2_with fail
  clear c0 c1 c2 c3 g0 g1 g2 g3 cy HS
  have HS := HS0
  clear HS0
  generalize ((((w10.setCell ⟨lb, 0, none⟩ (.slice A q.base.slots.length a)).setCell ⟨lb, 1, none⟩ (.slice B q.base.vols.length b)).setCell ⟨lb, 2, none⟩ (.slice C q.ops.length c)).setCell ⟨lb, 3, none⟩ (.int .i64 q.safe)) = W11 at HS ⊢
  refine (pick_c HS.out.rd (by omega) ((q.ops.length : Int) + 1) (by omega)).mono ?_
  rintro e w12 ⟨v, rfl, ⟨sg, rfl, hu0, hu1, -⟩, hR, hg⟩
  replace HS := Lib.hid (HS.out.step hR hg)
  clear hR hg hu1 hwn
  have c0 := HS.out.var.cell 0
  have c1 := HS.out.var.cell 1
  have c2 := HS.out.var.cell 2
  have c3 := HS.out.var.cell 3
  have g0 := HS.out.var.free 0
  have g1 := HS.out.var.free 1
  have g2 := HS.out.var.free 2
  have g3 := HS.out.var.free 3
  have cy := HS.out.var.lt
  simp at c0 c1 c2 c3
  have HS0 := Lib.hid (HS.out.setS sg)
  have HL := Lib.hid (HLP.out.safe sg)
  go_wp2_with fail
  clear c0 c1 c2 c3 g0 g1 g2 g3 cy HS HLP hl20
  have HS := HS0
  clear HS0
  generalize w12.setCell ⟨lb, 3, none⟩ (.int .i64 sg) = W13 at HS ⊢
  obtain ⟨l, hl⟩ : ∃ l : Log, (⟨q.base, q.ops, sg⟩ : Log) = l := ⟨_, rfl⟩
  rw [hl] at HL HS
  rw [show q.base = l.base by rw [← hl], show q.ops = l.ops by rw [← hl]] at HS ⊢
  clear hl hs0 ht0 hu0 hp0 hp2 hol hoc
  refine (pick_c HS.out.rd (by omega) 30 (by omega)).mono ?_
  rintro e wp ⟨v, rfl, ⟨r30, rfl, hr0, hr1, -⟩, hR, hg⟩
  replace HS := Lib.hid (HS.out.step hR hg)
  clear hR hg hr1
  by_cases hra : r30 = 0
  ·subst hra
   go_wp2_with fail
   refine (pick_c HS.out.rd (by omega) 24 (by omega)).mono ?_
   rintro e wq ⟨v, rfl, ⟨r24, rfl, hq0, hq1, -⟩, hR, hg⟩
   have hq2 := hq1 (by omega)
   replace HS := Lib.hid (HS.out.step hR hg)
   have hws : wrap64 (r24 - 1) = r24 - 1 := by unfold wrap64; omega
   clear hR hg hq1
   have c0 := HS.out.var.cell 0
   have c1 := HS.out.var.cell 1
   have c2 := HS.out.var.cell 2
   have c3 := HS.out.var.cell 3
   have g0 := HS.out.var.free 0
   have g1 := HS.out.var.free 1
   have g2 := HS.out.var.free 2
   have g3 := HS.out.var.free 3
   have cy := HS.out.var.lt
   simp at c0 c1 c2 c3
   have HS0 := Lib.hid (HS.out.setS (r24 - 1))
   have HL0 := Lib.hid (HL.out.safe (r24 - 1))
   have hlt2 := HS.out.l2
   have r0 := HS.out.res.cell 0
   have r1 := HS.out.res.cell 1
   have r2 := HS.out.res.cell 2
   have r3 := HS.out.res.cell 3
   have f0 := HS.out.res.free 0
   have f1 := HS.out.res.free 1
   have f2 := HS.out.res.free 2
   have f3 := HS.out.res.free 3
   have ry := HS.out.res.lt
   simp at r0 r1 r2 r3
   have hne : ¬ lb = w.heap.size := by omega
   go_wp2
   have ho := HS0.out.out (k' := k) (d := 50000) (DrawnL.more HL0.out (Nat.le_succ _)) (by omega)
   refine bodyPost_ret (results_cell_row rfl _ _ w.heap.size 44 _ (0, 0) _ rfl (HS0.out.res.set4 _ _ _ _) Tryz.underlying44 rfl (by kernel_rfl)) rfl ?_
   exact ho
  by_cases hrb : r30 = 1
  ·subst hrb
   have c0 := HS.out.var.cell 0
   have c1 := HS.out.var.cell 1
   have c2 := HS.out.var.cell 2
   have c3 := HS.out.var.cell 3
   have g0 := HS.out.var.free 0
   have g1 := HS.out.var.free 1
   have g2 := HS.out.var.free 2
   have g3 := HS.out.var.free 3
   have cy := HS.out.var.lt
   simp at c0 c1 c2 c3
   go_wp2
   have HS1 := Lib.hid (HS.out.bel (Below.refl _ _).drew)
   clear c0 c1 c3 g0 g1 g3
   have hl20 := HL.out.len
   refine start_ (n := 8) (S := fun w' => w'.cell? ⟨lb, 2, none⟩ = some (.slice C l.ops.length c)) (ds := [7]) #[bF, bF, bF, bF, bF, bF, bF, bF] (by kernel_rfl) rfl rfl (c2) (fun hHeld => ?_)
   refine pure_ (i := 0) (N := some 44) (v := ?_) (a' := ?_) #[bT, bF, bF, bF, bF, bF, bF, bF] rfl rfl (by kernel_rfl) (fun _ _ _ h => h) (Or.inl ⟨by rfl, ?_⟩) ?_ ?_
   rotate_left
   ·intro w'
    go_simp
    with_reducible rfl
   rotate_left
   ·simp only [Act.put, lA, lB, lC, i64_w, i32_w]
    rfl
   refine pure_ (i := 2) (N := some 46) (v := ?_) (a' := ?_) #[bT, bF, bT, bF, bF, bF, bF, bF] rfl rfl (by kernel_rfl) (fun _ _ _ h => h) (Or.inl ⟨by rfl, ?_⟩) ?_ ?_
   rotate_left
   ·intro w'
    go_simp
    with_reducible rfl
   rotate_left
   ·simp only [Act.put, lA, lB, lC, i64_w, i32_w]
    rfl
   refine take_ (i := 1) (N := some 45) (v := ?_) (a' := ?_) #[bT, bT, bT, bF, bF, bF, bF, bF] rfl rfl (by kernel_rfl) (fun _ _ _ h => h) (Or.inl ⟨by rfl, ?_⟩) hHeld ?_ ?_
   rotate_left
   ·intro w' s0
    go_simp
    with_reducible rfl
   rotate_left
   ·simp only [Act.put, lA, lB, lC, i64_w, i32_w]
    rfl
   refine one_ (i := 3) (N := some 47) #[bT, bT, bT, bT, bF, bF, bF, bF] rfl rfl (by kernel_rfl) (by decide) (fun K hK => ?_)
   refine goes_ Tryz.func88 (by kernel_rfl) rfl #[.pointer (some ⟨rb, 0, none⟩)] (by rfl) rfl rfl (by simp only [List.map_toArray, List.map_cons, List.map_nil]; rfl) ?_
   with_reducible refine (op_c (w := wp.drew) HS1.out.rd (by omega)).mono ?_
   rintro e wa ⟨v, rfl, ⟨o, ho, hso, _⟩, hR, hg⟩
   unfold opV at ho
   subst ho
   have HS2 := Lib.hid (HS1.out.step hR hg)
   have HSO := Lib.hid hso
   clear hR hg hso
   have d2 := HS2.out.var.cell 2
   simp at d2
   refine ⟨_, rfl, ?_⟩
   refine hK.out _ _ (d2) (fun hHeld => ?_)
   clear hK K
   refine norm_ (a' := ?_) ?_ ?_
   rotate_left
   ·show Act.put _ (some 47) _ = _
    simp only [Act.put, lA, lB, lC, i64_w, i32_w]
    rfl
   refine one_ (i := 4) (N := some 48) #[bT, bT, bT, bT, bT, bF, bF, bF] rfl rfl (by kernel_rfl) (by decide) (fun K hK => ?_)
   refine value_ (w1 := ?_) (v := ?_) (by rfl) rfl ?_ ?_
   rotate_left 2
   ·go_simp
    constructor
    ·rfl
    ·rfl
   have HS3 := Lib.hid (HS2.out.bel (bel_alloc (Below.refl _ _) (.cells #[.int .i64 o.kind, .string o.name, .string o.dest, .int .i64 o.n, .string o.text] 27)))
   have hB : Blk (wa.alloc (.cells #[.int .i64 o.kind, .string o.name, .string o.dest, .int .i64 o.n, .string o.text] 27)) wa.heap.size #[.int .i64 o.kind, .string o.name, .string o.dest, .int .i64 o.n, .string o.text] 27 := Blk.new _ _ _
   have e2 := HS3.out.var.cell 2
   simp at e2
   refine hK.out _ _ (e2) (fun hHeld => ?_)
   clear hK K
   refine norm_ (a' := ?_) ?_ ?_
   rotate_left
   ·show Act.put _ (some 48) _ = _
    simp only [Act.put, lA, lB, lC, i64_w, i32_w]
    rfl
   refine one_ (i := 5) (N := some 49) #[bT, bT, bT, bT, bT, bT, bF, bF] rfl rfl (by kernel_rfl) (by decide) (fun K hK => ?_)
   refine tail_append_step (by rfl) (.tmp 45) (.tmp 48) rfl rfl o ⟨wa.heap.size, 0, none⟩ 1 rfl ?hc HS3.out.ops (by omega) HS3.out.g.size ?_
   case hc => exact blk_cells5 hB
   intro v1 wb hv1 hgr
   obtain ⟨no, hno⟩ : ∃ no, l.ops ++ [o] = no := ⟨_, rfl⟩
   rw [hno] at hv1
   have HNO := Lib.hid hno
   clear hno
   obtain ⟨C4, c4, rfl, hc4, hC4⟩ := hv1.reads
   have HS4 := Lib.hid (HS3.out.app hgr hv1)
   have hv := HS3.out.var.grown hgr (blk_otherT HS3.out.ops HS3.out.var (by decide))
   have k2 := hv.cell 2
   have kf := hv.free 2
   have ky := hv.lt
   simp at k2
   refine hK.out _ _ (k2) (fun hHeld => ?_)
   clear hK K
   refine norm_ (a' := ?_) ?_ ?_
   rotate_left
   ·show Act.put _ (some 49) _ = _
    simp only [Act.put, lA, lB, lC, i64_w, i32_w]
    rfl
   refine pure_ (i := 6) (N := some 50) (v := ?_) (a' := ?_) #[bT, bT, bT, bT, bT, bT, bT, bF] rfl rfl (by kernel_rfl) (fun _ _ _ h => h) (Or.inl ⟨by rfl, ?_⟩) ?_ ?_
   rotate_left
   ·intro w'
    go_simp
    with_reducible rfl
   rotate_left
   ·simp only [Act.put, lA, lB, lC, i64_w, i32_w]
    rfl
   refine last_ (i := 7) (N := none) #[bT, bT, bT, bT, bT, bT, bT, bT] rfl rfl (by kernel_rfl) (by decide) (fun K hK => ?_)
   refine skip_ (w1 := ?_) (by rfl) rfl ?_ ?_
   rotate_left
   ·go_simp
    rfl
   refine hK.out _ _ ?_
   clear hK K
   refine done_ (by kernel_rfl) ?_
   have hl4 := HL.out.snoc (by omega) HSO.out
   rw [HNO.out] at hl4
   have HL4 := Lib.hid hl4
   clear hl4 hc4 hC4 k2 kf ky hv hv1 hgr hB d2 e2 c2 g2 cy HS HS1 HS2 HS3
   generalize wb.setCell ⟨lb, 2, none⟩ (.slice C4 no.length c4) = wc at HS4 ⊢
   have HS := HS4
   have r0 := HS.out.res.cell 0
   have r1 := HS.out.res.cell 1
   have r2 := HS.out.res.cell 2
   have r3 := HS.out.res.cell 3
   have f0 := HS.out.res.free 0
   have f1 := HS.out.res.free 1
   have f2 := HS.out.res.free 2
   have f3 := HS.out.res.free 3
   have ry := HS.out.res.lt
   have c0 := HS.out.var.cell 0
   have c1 := HS.out.var.cell 1
   have c2 := HS.out.var.cell 2
   have c3 := HS.out.var.cell 3
   have g0 := HS.out.var.free 0
   have g1 := HS.out.var.free 1
   have g2 := HS.out.var.free 2
   have g3 := HS.out.var.free 3
   have cy := HS.out.var.lt
   simp at r0 r1 r2 r3 c0 c1 c2 c3
   have hne : ¬ lb = w.heap.size := by have := HS.out.l2; omega
   go_wp2
   have ho := HS4.out.out (k' := k) (d := 50000) HL4.out (by omega)
   refine bodyPost_ret (results_cell_row rfl _ _ w.heap.size 44 _ (0, 0) _ rfl (HS4.out.res.set4 _ _ _ _) Tryz.underlying44 rfl (by kernel_rfl)) rfl ?_
   exact ho
  by_cases hrc : r30 = 2
  ·subst hrc
   go_wp2_with fail
   refine (pool_c HS.out.rd (by omega)).mono ?_
   rintro e wq ⟨u0, u1, q, bq, rfl, hdq, hq, hR, hg⟩
   obtain ⟨A5, B5, a5, b5, rfl, rfl, hpi⟩ := hq.reads
   have hsz := HS.out.g.size
   have HS0 := Lib.hid (HS.out.step hR hg)
   have HS5 := Lib.hid (HS0.out.setP (hq.lower hsz))
   have HL5 := Lib.hid (HL.out.basis hdq.small)
   clear hpi hq hR hg hsz hdq HS
   have HS := HS0
   have c0 := HS.out.var.cell 0
   have c1 := HS.out.var.cell 1
   have c2 := HS.out.var.cell 2
   have c3 := HS.out.var.cell 3
   have g0 := HS.out.var.free 0
   have g1 := HS.out.var.free 1
   have g2 := HS.out.var.free 2
   have g3 := HS.out.var.free 3
   have cy := HS.out.var.lt
   simp at c0 c1 c2 c3
   have hlt2 := HS.out.l2
   have r0 := HS.out.res.cell 0
   have r1 := HS.out.res.cell 1
   have r2 := HS.out.res.cell 2
   have r3 := HS.out.res.cell 3
   have f0 := HS.out.res.free 0
   have f1 := HS.out.res.free 1
   have f2 := HS.out.res.free 2
   have f3 := HS.out.res.free 3
   have ry := HS.out.res.lt
   simp at r0 r1 r2 r3
   have hne : ¬ lb = w.heap.size := by omega
   go_wp2
   have ho := HS5.out.out (k' := k) (d := 50000) (DrawnL.more HL5.out (Nat.le_succ _)) (by omega)
   refine bodyPost_ret (results_cell_row rfl _ _ w.heap.size 44 _ (0, 0) _ rfl (HS5.out.res.set4 _ _ _ _) Tryz.underlying44 rfl (by kernel_rfl)) rfl ?_
   exact ho
  have r0 := HS.out.res.cell 0
  have r1 := HS.out.res.cell 1
  have r2 := HS.out.res.cell 2
  have r3 := HS.out.res.cell 3
  have f0 := HS.out.res.free 0
  have f1 := HS.out.res.free 1
  have f2 := HS.out.res.free 2
  have f3 := HS.out.res.free 3
  have ry := HS.out.res.lt
  have c0 := HS.out.var.cell 0
  have c1 := HS.out.var.cell 1
  have c2 := HS.out.var.cell 2
  have c3 := HS.out.var.cell 3
  have g0 := HS.out.var.free 0
  have g1 := HS.out.var.free 1
  have g2 := HS.out.var.free 2
  have g3 := HS.out.var.free 3
  have cy := HS.out.var.lt
  simp at r0 r1 r2 r3 c0 c1 c2 c3
  have hne : ¬ lb = w.heap.size := by have := HS.out.l2; omega
  go_wp2
  have ho := HS.out.out (k' := k) (d := 50000) (DrawnL.more HL.out (Nat.le_succ _)) (by omega)
  refine bodyPost_ret (results_cell_row rfl _ _ w.heap.size 44 _ (0, 0) _ rfl (HS.out.res.set4 _ _ _ _) Tryz.underlying44 rfl (by kernel_rfl)) rfl ?_
  exact ho
 ·obtain ⟨l, hl⟩ : ∃ l : Log, (⟨np, os, sf⟩ : Log) = l := ⟨_, rfl⟩
  have HS2 : Hid (LgSt w w9 rb (k + 1 + 20000 + 1 + 1) (.slice E0 l.base.slots.length k0) (.slice E1 l.base.vols.length k1) (.slice C l.ops.length c) l bu lb) := by rw [← hl]; exact HS
  have HL2 : Hid (DrawnL l 20) := by rw [← hl]; exact HL
  go_wp2_with fail
  rw [show np = l.base by rw [← hl], show os = l.ops by rw [← hl]]
  clear HS HL hl hs0 ht0 hp0 hp2 hol hoc
  have HS := HS2
  have HL := HL2
  clear HS2 HL2
  refine (pick_c HS.out.rd (by omega) 30 (by omega)).mono ?_
  rintro e wp ⟨v, rfl, ⟨r30, rfl, hr0, hr1, -⟩, hR, hg⟩
  replace HS := Lib.hid (HS.out.step hR hg)
  clear hR hg hr1
  by_cases hra : r30 = 0
  ·subst hra
   go_wp2_with fail
   refine (pick_c HS.out.rd (by omega) 24 (by omega)).mono ?_
   rintro e wq ⟨v, rfl, ⟨r24, rfl, hq0, hq1, -⟩, hR, hg⟩
   have hq2 := hq1 (by omega)
   replace HS := Lib.hid (HS.out.step hR hg)
   have hws : wrap64 (r24 - 1) = r24 - 1 := by unfold wrap64; omega
   clear hR hg hq1
   have c0 := HS.out.var.cell 0
   have c1 := HS.out.var.cell 1
   have c2 := HS.out.var.cell 2
   have c3 := HS.out.var.cell 3
   have g0 := HS.out.var.free 0
   have g1 := HS.out.var.free 1
   have g2 := HS.out.var.free 2
   have g3 := HS.out.var.free 3
   have cy := HS.out.var.lt
   simp at c0 c1 c2 c3
   have HS0 := Lib.hid (HS.out.setS (r24 - 1))
   have HL0 := Lib.hid (HL.out.safe (r24 - 1))
   have hlt2 := HS.out.l2
   have r0 := HS.out.res.cell 0
   have r1 := HS.out.res.cell 1
   have r2 := HS.out.res.cell 2
   have r3 := HS.out.res.cell 3
   have f0 := HS.out.res.free 0
   have f1 := HS.out.res.free 1
   have f2 := HS.out.res.free 2
   have f3 := HS.out.res.free 3
   have ry := HS.out.res.lt
   simp at r0 r1 r2 r3
   have hne : ¬ lb = w.heap.size := by omega
   go_wp2
   have ho := HS0.out.out (k' := k) (d := 50000) (DrawnL.more HL0.out (Nat.le_succ _)) (by omega)
   refine bodyPost_ret (results_cell_row rfl _ _ w.heap.size 44 _ (0, 0) _ rfl (HS0.out.res.set4 _ _ _ _) Tryz.underlying44 rfl (by kernel_rfl)) rfl ?_
   exact ho
  by_cases hrb : r30 = 1
  ·subst hrb
   have c0 := HS.out.var.cell 0
   have c1 := HS.out.var.cell 1
   have c2 := HS.out.var.cell 2
   have c3 := HS.out.var.cell 3
   have g0 := HS.out.var.free 0
   have g1 := HS.out.var.free 1
   have g2 := HS.out.var.free 2
   have g3 := HS.out.var.free 3
   have cy := HS.out.var.lt
   simp at c0 c1 c2 c3
   go_wp2
   have HS1 := Lib.hid (HS.out.bel (Below.refl _ _).drew)
   clear c0 c1 c3 g0 g1 g3
   have hl20 := HL.out.len
   refine start_ (n := 8) (S := fun w' => w'.cell? ⟨lb, 2, none⟩ = some (.slice C l.ops.length c)) (ds := [7]) #[bF, bF, bF, bF, bF, bF, bF, bF] (by kernel_rfl) rfl rfl (c2) (fun hHeld => ?_)
   refine pure_ (i := 0) (N := some 44) (v := ?_) (a' := ?_) #[bT, bF, bF, bF, bF, bF, bF, bF] rfl rfl (by kernel_rfl) (fun _ _ _ h => h) (Or.inl ⟨by rfl, ?_⟩) ?_ ?_
   rotate_left
   ·intro w'
    go_simp
    with_reducible rfl
   rotate_left
   ·simp only [Act.put, lA, lB, lC, i64_w, i32_w]
    rfl
   refine pure_ (i := 2) (N := some 46) (v := ?_) (a' := ?_) #[bT, bF, bT, bF, bF, bF, bF, bF] rfl rfl (by kernel_rfl) (fun _ _ _ h => h) (Or.inl ⟨by rfl, ?_⟩) ?_ ?_
   rotate_left
   ·intro w'
    go_simp
    with_reducible rfl
   rotate_left
   ·simp only [Act.put, lA, lB, lC, i64_w, i32_w]
    rfl
   refine take_ (i := 1) (N := some 45) (v := ?_) (a' := ?_) #[bT, bT, bT, bF, bF, bF, bF, bF] rfl rfl (by kernel_rfl) (fun _ _ _ h => h) (Or.inl ⟨by rfl, ?_⟩) hHeld ?_ ?_
   rotate_left
   ·intro w' s0
    go_simp
    with_reducible rfl
   rotate_left
   ·simp only [Act.put, lA, lB, lC, i64_w, i32_w]
    rfl
   refine one_ (i := 3) (N := some 47) #[bT, bT, bT, bT, bF, bF, bF, bF] rfl rfl (by kernel_rfl) (by decide) (fun K hK => ?_)
   refine goes_ Tryz.func88 (by kernel_rfl) rfl #[.pointer (some ⟨rb, 0, none⟩)] (by rfl) rfl rfl (by simp only [List.map_toArray, List.map_cons, List.map_nil]; rfl) ?_
   with_reducible refine (op_c (w := wp.drew) HS1.out.rd (by omega)).mono ?_
   rintro e wa ⟨v, rfl, ⟨o, ho, hso, _⟩, hR, hg⟩
   unfold opV at ho
   subst ho
   have HS2 := Lib.hid (HS1.out.step hR hg)
   have HSO := Lib.hid hso
   clear hR hg hso
   have d2 := HS2.out.var.cell 2
   simp at d2
   refine ⟨_, rfl, ?_⟩
   refine hK.out _ _ (d2) (fun hHeld => ?_)
   clear hK K
   refine norm_ (a' := ?_) ?_ ?_
   rotate_left
   ·show Act.put _ (some 47) _ = _
    simp only [Act.put, lA, lB, lC, i64_w, i32_w]
    rfl
   refine one_ (i := 4) (N := some 48) #[bT, bT, bT, bT, bT, bF, bF, bF] rfl rfl (by kernel_rfl) (by decide) (fun K hK => ?_)
   refine value_ (w1 := ?_) (v := ?_) (by rfl) rfl ?_ ?_
   rotate_left 2
   ·go_simp
    constructor
    ·rfl
    ·rfl
   have HS3 := Lib.hid (HS2.out.bel (bel_alloc (Below.refl _ _) (.cells #[.int .i64 o.kind, .string o.name, .string o.dest, .int .i64 o.n, .string o.text] 27)))
   have hB : Blk (wa.alloc (.cells #[.int .i64 o.kind, .string o.name, .string o.dest, .int .i64 o.n, .string o.text] 27)) wa.heap.size #[.int .i64 o.kind, .string o.name, .string o.dest, .int .i64 o.n, .string o.text] 27 := Blk.new _ _ _
   have e2 := HS3.out.var.cell 2
   simp at e2
   refine hK.out _ _ (e2) (fun hHeld => ?_)
   clear hK K
   refine norm_ (a' := ?_) ?_ ?_
   rotate_left
   ·show Act.put _ (some 48) _ = _
    simp only [Act.put, lA, lB, lC, i64_w, i32_w]
    rfl
   refine one_ (i := 5) (N := some 49) #[bT, bT, bT, bT, bT, bT, bF, bF] rfl rfl (by kernel_rfl) (by decide) (fun K hK => ?_)
   refine tail_append_step (by rfl) (.tmp 45) (.tmp 48) rfl rfl o ⟨wa.heap.size, 0, none⟩ 1 rfl ?hc HS3.out.ops (by omega) HS3.out.g.size ?_
   case hc => exact blk_cells5 hB
   intro v1 wb hv1 hgr
   obtain ⟨no, hno⟩ : ∃ no, l.ops ++ [o] = no := ⟨_, rfl⟩
   rw [hno] at hv1
   have HNO := Lib.hid hno
   clear hno
   obtain ⟨C4, c4, rfl, hc4, hC4⟩ := hv1.reads
   have HS4 := Lib.hid (HS3.out.app hgr hv1)
   have hv := HS3.out.var.grown hgr (blk_otherT HS3.out.ops HS3.out.var (by decide))
   have k2 := hv.cell 2
   have kf := hv.free 2
   have ky := hv.lt
   simp at k2
   refine hK.out _ _ (k2) (fun hHeld => ?_)
   clear hK K
   refine norm_ (a' := ?_) ?_ ?_
   rotate_left
   ·show Act.put _ (some 49) _ = _
    simp only [Act.put, lA, lB, lC, i64_w, i32_w]
    rfl
   refine pure_ (i := 6) (N := some 50) (v := ?_) (a' := ?_) #[bT, bT, bT, bT, bT, bT, bT, bF] rfl rfl (by kernel_rfl) (fun _ _ _ h => h) (Or.inl ⟨by rfl, ?_⟩) ?_ ?_
   rotate_left
   ·intro w'
    go_simp
    with_reducible rfl
   rotate_left
   ·simp only [Act.put, lA, lB, lC, i64_w, i32_w]
    rfl
   refine last_ (i := 7) (N := none) #[bT, bT, bT, bT, bT, bT, bT, bT] rfl rfl (by kernel_rfl) (by decide) (fun K hK => ?_)
   refine skip_ (w1 := ?_) (by rfl) rfl ?_ ?_
   rotate_left
   ·go_simp
    rfl
   refine hK.out _ _ ?_
   clear hK K
   refine done_ (by kernel_rfl) ?_
   have hl4 := HL.out.snoc (by omega) HSO.out
   rw [HNO.out] at hl4
   have HL4 := Lib.hid hl4
   clear hl4 hc4 hC4 k2 kf ky hv hv1 hgr hB d2 e2 c2 g2 cy HS HS1 HS2 HS3
   generalize wb.setCell ⟨lb, 2, none⟩ (.slice C4 no.length c4) = wc at HS4 ⊢
   have HS := HS4
   have r0 := HS.out.res.cell 0
   have r1 := HS.out.res.cell 1
   have r2 := HS.out.res.cell 2
   have r3 := HS.out.res.cell 3
   have f0 := HS.out.res.free 0
   have f1 := HS.out.res.free 1
   have f2 := HS.out.res.free 2
   have f3 := HS.out.res.free 3
   have ry := HS.out.res.lt
   have c0 := HS.out.var.cell 0
   have c1 := HS.out.var.cell 1
   have c2 := HS.out.var.cell 2
   have c3 := HS.out.var.cell 3
   have g0 := HS.out.var.free 0
   have g1 := HS.out.var.free 1
   have g2 := HS.out.var.free 2
   have g3 := HS.out.var.free 3
   have cy := HS.out.var.lt
   simp at r0 r1 r2 r3 c0 c1 c2 c3
   have hne : ¬ lb = w.heap.size := by have := HS.out.l2; omega
   go_wp2
   have ho := HS4.out.out (k' := k) (d := 50000) HL4.out (by omega)
   refine bodyPost_ret (results_cell_row rfl _ _ w.heap.size 44 _ (0, 0) _ rfl (HS4.out.res.set4 _ _ _ _) Tryz.underlying44 rfl (by kernel_rfl)) rfl ?_
   exact ho
  by_cases hrc : r30 = 2
  ·subst hrc
   go_wp2_with fail
   refine (pool_c HS.out.rd (by omega)).mono ?_
   rintro e wq ⟨u0, u1, q, bq, rfl, hdq, hq, hR, hg⟩
   obtain ⟨A5, B5, a5, b5, rfl, rfl, hpi⟩ := hq.reads
   have hsz := HS.out.g.size
   have HS0 := Lib.hid (HS.out.step hR hg)
   have HS5 := Lib.hid (HS0.out.setP (hq.lower hsz))
   have HL5 := Lib.hid (HL.out.basis hdq.small)
   clear hpi hq hR hg hsz hdq HS
   have HS := HS0
   have c0 := HS.out.var.cell 0
   have c1 := HS.out.var.cell 1
   have c2 := HS.out.var.cell 2
   have c3 := HS.out.var.cell 3
   have g0 := HS.out.var.free 0
   have g1 := HS.out.var.free 1
   have g2 := HS.out.var.free 2
   have g3 := HS.out.var.free 3
   have cy := HS.out.var.lt
   simp at c0 c1 c2 c3
   have hlt2 := HS.out.l2
   have r0 := HS.out.res.cell 0
   have r1 := HS.out.res.cell 1
   have r2 := HS.out.res.cell 2
   have r3 := HS.out.res.cell 3
   have f0 := HS.out.res.free 0
   have f1 := HS.out.res.free 1
   have f2 := HS.out.res.free 2
   have f3 := HS.out.res.free 3
   have ry := HS.out.res.lt
   simp at r0 r1 r2 r3
   have hne : ¬ lb = w.heap.size := by omega
   go_wp2
   have ho := HS5.out.out (k' := k) (d := 50000) (DrawnL.more HL5.out (Nat.le_succ _)) (by omega)
   refine bodyPost_ret (results_cell_row rfl _ _ w.heap.size 44 _ (0, 0) _ rfl (HS5.out.res.set4 _ _ _ _) Tryz.underlying44 rfl (by kernel_rfl)) rfl ?_
   exact ho
  have r0 := HS.out.res.cell 0
  have r1 := HS.out.res.cell 1
  have r2 := HS.out.res.cell 2
  have r3 := HS.out.res.cell 3
  have f0 := HS.out.res.free 0
  have f1 := HS.out.res.free 1
  have f2 := HS.out.res.free 2
  have f3 := HS.out.res.free 3
  have ry := HS.out.res.lt
  have c0 := HS.out.var.cell 0
  have c1 := HS.out.var.cell 1
  have c2 := HS.out.var.cell 2
  have c3 := HS.out.var.cell 3
  have g0 := HS.out.var.free 0
  have g1 := HS.out.var.free 1
  have g2 := HS.out.var.free 2
  have g3 := HS.out.var.free 3
  have cy := HS.out.var.lt
  simp at r0 r1 r2 r3 c0 c1 c2 c3
  have hne : ¬ lb = w.heap.size := by have := HS.out.l2; omega
  go_wp2
  have ho := HS.out.out (k' := k) (d := 50000) (DrawnL.more HL.out (Nat.le_succ _)) (by omega)
  refine bodyPost_ret (results_cell_row rfl _ _ w.heap.size 44 _ (0, 0) _ rfl (HS.out.res.set4 _ _ _ _) Tryz.underlying44 rfl (by kernel_rfl)) rfl ?_
  exact ho
end Go.Proofs.YtccllgpaafgjaaaGreat

namespace Go.Proofs.YtccllgpaafgjaaaGreat
open Go.RowKit Go.Proofs.YtccllgpaafgjaaaGreatW.PrintWords Go.Proofs.YtccllgpaafgjaaaGreatW.PrintLast
theorem belGrown {w w1 w2 : World} (h : Bel w w1) {rb : Nat} (hg : w1.grownBy w2 (some rb)) (hr : w.heap.size ≤ rb) : Bel w w2 := h.grown hg h.size (fun k e => by injection e with e; omega)
structure LgB (w : World) (base : Nat) (W : World) (rb k : Nat) (v0 v1 v2 : Value) (l : Log) (bvs : List Value) (lb : Nat) : Prop where
  res : Blk W w.heap.size #[.slice none 0 0, .slice none 0 0, .slice none 0 0, .int .i64 0] 44
  var : Blk W lb #[v0, v1, v2, .int .i64 l.safe] 44
  rd : Rd W rb k
  own : OwnP W base v0 v1 l.base bvs
  ops : OwnT W base v2 l.ops
  b : Bel w W
  l1 : w.heap.size < rb
  l2 : rb < base
  l3 : base ≤ lb
  l4 : base ≤ W.heap.size
section
variable {w W W' : World} {rb k k' lb base : Nat} {v0 v1 v2 : Value} {l : Log} {bvs : List Value}
theorem LgB.step (h : LgB w base W rb k v0 v1 v2 l bvs lb) (hR : Rd W' rb k') (hg : W.grownBy W' (some rb)) : LgB w base W' rb k' v0 v1 v2 l bvs lb :=
 ⟨h.res.grown hg (fun e => by injection e with e; have := h.l1; omega), h.var.grown hg (fun e => by injection e with e; have := h.l2; have := h.l3; omega), hR, h.own.rd h.rd hg, h.ops.rd h.rd hg, belGrown h.b hg (Nat.le_of_lt h.l1), h.l1, h.l2, h.l3, Nat.le_trans h.l4 hg.size⟩
theorem LgB.bel (h : LgB w base W rb k v0 v1 v2 l bvs lb) (hb : Bel W W') : LgB w base W' rb k v0 v1 v2 l bvs lb :=
 ⟨h.res.bel hb, h.var.bel hb, h.rd.bel hb, h.own.bel hb, h.ops.bel hb, h.b.tr hb, h.l1, h.l2, h.l3, Nat.le_trans h.l4 hb.size⟩
theorem LgB.ne (h : LgB w base W rb k v0 v1 v2 l bvs lb) : w.heap.size < lb := by have := h.l1; have := h.l2; have := h.l3; omega
theorem LgB.app (h : LgB w base W rb k v0 v1 v2 l bvs lb) (hg : W.grownBy W' v2.ownBlock) {u : Value} {os : List Op} (hu : OwnT W' base u os) : LgB w base (W'.setCell ⟨lb, 2, none⟩ u) rb k v0 v1 u ⟨l.base, os, l.safe⟩ bvs lb := by
 have hv := h.var.grown hg (blk_otherT h.ops h.var (by decide))
 have hr := h.res.grown hg (blk_otherT h.ops h.res (by decide))
 have hne := h.ne
 have hrd := h.rd.grown hg (fun b e => by have := (h.ops.base b e).1; have := h.l2; omega)
 have hbw : Bel w W' := h.b.grown hg h.b.size (fun b e => by have := (h.ops.base b e).1; have := h.l1; have := h.l2; omega)
 exact ⟨hr.apart (by omega) 2 _, hv.set 2 _ rfl, hrd.set (by have := h.l2; have := h.l3; omega) 2 _, (h.own.otherT h.ops hg).far hv (by decide) (by decide) (by decide) 2 _, hu.far hv (by decide) 2 _, bel_set hbw (Nat.le_of_lt hne) 2 _, h.l1, h.l2, h.l3, by have := hg.size; have := h.l4; simp; omega⟩
theorem LgB.lit (h : LgB w base W rb k v0 v1 v2 l bvs lb) : ∃ (A B C : Option Addr) (a b c : Nat), v0 = .slice A l.base.slots.length a ∧ v1 = .slice B l.base.vols.length b ∧ v2 = .slice C l.ops.length c ∧ LogIn W A B C a b c l := by
 obtain ⟨A, B, a, b, rfl, rfl, hi⟩ := h.own.reads
 obtain ⟨C, c, rfl, hc, hC⟩ := h.ops.reads
 exact ⟨A, B, C, a, b, c, rfl, rfl, rfl, ⟨hi, hC, hc⟩⟩
end
def DrewL (n : Nat) (w : World) (e : Ending) (w' : World) : Prop := ∃ (A B C : Option Addr) (a b c : Nat) (l : Log), e = .returned (.agg #[.slice A l.base.slots.length a, .slice B l.base.vols.length b, .slice C l.ops.length c, .int .i64 l.safe]) ∧ DrawnL l n ∧ LogIn w' A B C a b c l ∧ Bel w w'
def DrewLF (n : Nat) (w : World) (e : Ending) (w' : World) : Prop := ∃ (A B C : Option Addr) (a b c : Nat) (l : Log) (left : Int), e = .returned (.tuple #[.agg #[.slice A l.base.slots.length a, .slice B l.base.vols.length b, .slice C l.ops.length c, .int .i64 l.safe], .int .i64 left]) ∧ DrawnL l n ∧ -100 ≤ left ∧ left ≤ 100 ∧ LogIn w' A B C a b c l ∧ Bel w w'
end Go.Proofs.YtccllgpaafgjaaaGreat

namespace Go.Proofs.YtccllgpaafgjaaaGreat
open Go.RowKit Go.Proofs.YtccllgpaafgjaaaGreatW.PrintWords
def blksOf (vs : List Vol) (t : ByteArray) : List Int := if volIdx vs t < 0 then [] else (volAt vs (volIdx vs t)).blocks
theorem lgBlks_len (vs : List Vol) (t : ByteArray) : lgBlks vs t = (blksOf vs t).length := by unfold lgBlks blksOf; split <;> rfl
/-! ### pieces -/
def pc (s : List Slot) (pl : Int) : ByteArray := if 0 < pl then slotText s pl else e0
def pieces (p : Pool) (t : ByteArray) : List ByteArray := (blksOf p.vols t).map (pc p.slots)
def Keeps (s t : List Slot) : Prop := ∀ (m : Nat) (y : Slot), t[m]? = some y → ∃ x, s[m]? = some x ∧ (y.text = x.text ∨ y.uses = 0)
theorem Keeps.refl (s : List Slot) : Keeps s s := fun m y hy => ⟨y, hy, .inl rfl⟩
/-! ### the four changes -/
def freeP (p : Pool) (name : ByteArray) (b : Int) (i : Nat) (v : Vol) : Pool := ⟨backS p name b, p.vols.set i ⟨name, v.blocks.set b.toNat 0⟩⟩
/-! ### reading -/
def RdEq (a : Pool) (x : ByteArray) (b : Pool) (y : ByteArray) : Prop := lgBlks a.vols x = lgBlks b.vols y ∧ ∀ i : Nat, (i : Int) < lgBlks a.vols x → readOk a x i = true ∧ readOk b y i = true ∧ readV a x i = readV b y i
def OthEq (a b : Pool) (n : ByteArray) : Prop := ∀ x ∈ a.vols, x.name ≠ n → RdEq a x.name b x.name
end Go.Proofs.YtccllgpaafgjaaaGreat

namespace Go.Proofs.YtccllgpaafgjaaaGreat
open Go.RowKit Go.Proofs.YtccllgpaafgjaaaGreatW.PrintWords
/-! ### free places -/
theorem PoolP.free {p : Pool} (h : PoolP p) : storeFree p.slots = freeN p.slots := storeFree_yes (storeOk_iff.2 h.s)
/-! ### a clone that is gone -/
/-! ### rows by name -/
/-! ### two volumes made -/
/-! ### all gone -/
/-! ### room for a piece -/
theorem hasBlk_iff {vs : List Vol} (h : VolsP vs) {t : ByteArray} {b : Int} : 0 ≤ hasBlk vs t b ↔ 0 ≤ b ∧ b < (blksOf vs t).length := by
 unfold hasBlk blksOf
 by_cases hv : volIdx vs t < 0
 ·rw [if_pos hv, if_pos hv]; simp
 ·rw [if_neg hv, if_neg hv]
  cases hr : inR b 0 ((volAt vs (volIdx vs t)).blocks.length - 1)
  ·rw [inR_no] at hr
   simp only [Bool.false_eq_true, if_false]
   omega
  ·rw [inR_iff] at hr
   rw [if_pos rfl]
   omega
theorem PoolP.wr {p : Pool} (h : PoolP p) {t : ByteArray} {b : Int} (h0 : 0 ≤ b) (h1 : b < lgBlks p.vols t) : ∃ i v x, Wr p t b i v x :=
 hasBlk_wr ((hasBlk_iff h.v).2 ⟨h0, by rw [lgBlks_len] at h1; exact h1⟩)
def there (s : List Slot) (t : ByteArray) : Bool := decide (0 ≤ idx (fun o : Slot => o.text.toList == t.toList) s)
/-! the places behind a block's piece given back -/
end Go.Proofs.YtccllgpaafgjaaaGreat

namespace Go.Proofs.YtccllgpaafgjaaaGreat
open Go.RowKit Go.Proofs.YtccllgpaafgjaaaGreatW.PrintWords
end Go.Proofs.YtccllgpaafgjaaaGreat

namespace Go.Proofs.YtccllgpaafgjaaaGreat
open Go.RowKit Go.Proofs.YtccllgpaafgjaaaGreatW.PrintWords
/-! ### texts -/
def spB : ByteArray := ⟨#[32]⟩
def dashB : ByteArray := ⟨#[45]⟩
def nlB : ByteArray := ⟨#[10]⟩
def blkT (s : List Slot) (pl : Int) : ByteArray := if 0 < pl ∧ 0 < (s.getD (pl - 1).toNat Slot.z).uses then slotText s pl else dashB
def volRun (s : List Slot) (a : ByteArray) (bs : List Int) : ByteArray := bs.foldl (fun a pl => a ++ (spB ++ blkT s pl)) a
def volT (v : Vol) (s : List Slot) : ByteArray := if volOk v && storeOk s then volRun s v.name v.blocks else e0
def poolRun (s : List Slot) (a : ByteArray) (vs : List Vol) : ByteArray := vs.foldl (fun a v => a ++ (volT v s ++ nlB)) a
def poolT (p : Pool) : ByteArray := if poolOk p then poolRun p.slots e0 p.vols else e0
def tagT (t : ByteArray) (ps : List ByteArray) : ByteArray := ps.foldl (fun a x => a ++ (spB ++ if x = e0 then dashB else x)) t
def tags (p : Pool) : List (ByteArray × List ByteArray) := p.vols.map fun v => (v.name, v.blocks.map (pc p.slots))
/-! ### changes -/
def opPieces (o : Op) (f : ByteArray → List ByteArray) (t : ByteArray) : List ByteArray :=
 if o.kind = 1 then (if t = o.name then List.replicate o.n.toNat e0 else f t)
 else if o.kind = 2 then (if t = o.name then (f o.name).set o.n.toNat o.text else f t)
 else if o.kind = 3 then (if t = o.dest then f o.name else f t)
 else (if t = o.name then [] else f t)
/-! ### how many pieces -/
def kstep (seen : List ByteArray) (t : ByteArray) : List ByteArray := if (t.toList == []) || seen.any (fun o => o.toList == t.toList) then seen else seen ++ [t]
def usedT : List Slot → List ByteArray
 | [] => []
 | x :: s => if x.uses = 0 then usedT s else x.text :: usedT s
def allT (p : Pool) (vs : List Vol) : List ByteArray := vs.flatMap fun v => pieces p v.name
end Go.Proofs.YtccllgpaafgjaaaGreat

namespace Go.Proofs.YtccllgpaafgjaaaGreat
open Go.RowKit Go.Proofs.YtccllgpaafgjaaaGreatW.PrintWords
end Go.Proofs.YtccllgpaafgjaaaGreat

namespace Go.Proofs.YtccllgpaafgjaaaGreat
open Go.RowKit Go.Proofs.YtccllgpaafgjaaaGreatW.PrintWords
end Go.Proofs.YtccllgpaafgjaaaGreat

namespace Go.Proofs.YtccllgpaafgjaaaGreat
open Go.RowKit Go.Proofs.YtccllgpaafgjaaaGreatW.PrintWords Go.Proofs.YtccllgpaafgjaaaGreatW.PrintLast
def NameV (v : Value) : Prop := ∃ s : ByteArray, v = .string s ∧ s.size ≤ 1048576
structure NmSt (w W : World) (rb k base : Nat) (v0 v1 : Value) (p : Pool) (bvs : List Value) : Prop where
  box : Blk W w.heap.size #[v0, v1] 42
  rd : Rd W rb k
  own : OwnP W base v0 v1 p bvs
  g : w.grownBy W (some rb)
  l3 : rb < w.heap.size
theorem NmSt.step {w W W' : World} {rb k k' base : Nat} {v0 v1 : Value} {p : Pool} {bvs : List Value} (h : NmSt w W rb k base v0 v1 p bvs) (hR : Rd W' rb k') (hg : W.grownBy W' (some rb)) : NmSt w W' rb k' base v0 v1 p bvs :=
 ⟨h.box.grown hg (fun e => by injection e with e; have := h.l3; omega), hR, h.own.rd h.rd hg, grown_tr h.g hg, h.l3⟩
theorem NmSt.bel {w W W' : World} {rb k base : Nat} {v0 v1 : Value} {p : Pool} {bvs : List Value} (h : NmSt w W rb k base v0 v1 p bvs) (hb : Bel W W') : NmSt w W' rb k base v0 v1 p bvs :=
 ⟨h.box.bel hb, h.rd.bel hb, h.own.bel hb, grown_tr h.g (grown_of_bel hb _), h.l3⟩
def five : List ByteArray := [sOf [65], sOf [66], sOf [67], sOf [68], sOf [69]]
end Go.Proofs.YtccllgpaafgjaaaGreat

namespace Go.Proofs.YtccllgpaafgjaaaGreat
open Go.RowKit Go.Proofs.YtccllgpaafgjaaaGreatW.PrintWords Go.Proofs.YtccllgpaafgjaaaGreatW.PrintLast
theorem bel_of_grown {w w1 w2 : World} (h : Bel w w1) {rb : Nat} (hg : w1.grownBy w2 (some rb)) (hr : w.heap.size ≤ rb) : Bel w w2 := h.grown hg h.size (fun k e => by injection e with e; omega)
def DrewT (w : World) (e : Ending) (w' : World) : Prop := ∃ (v0 v1 : Value) (p : Pool) (bvs : List Value), e = .returned (.agg #[v0, v1]) ∧ DrawnP p ∧ OwnP w' w.heap.size v0 v1 p bvs ∧ Bel w w'
structure DrSt (w W : World) (rb k : Nat) (v0 v1 : Value) (p : Pool) (bvs : List Value) (pb : Nat) : Prop where
  res : Blk W w.heap.size #[.slice none 0 0, .slice none 0 0] 42
  pool : Blk W pb #[v0, v1] 42
  rd : Rd W rb k
  own : OwnP W w.heap.size v0 v1 p bvs
  bel : Bel w W
  l1 : w.heap.size < rb
  l2 : rb < pb
theorem DrSt.step {w W W' : World} {rb k k' : Nat} {v0 v1 : Value} {p : Pool} {bvs : List Value} {pb : Nat} (h : DrSt w W rb k v0 v1 p bvs pb) (hR : Rd W' rb k') (hg : W.grownBy W' (some rb)) : DrSt w W' rb k' v0 v1 p bvs pb :=
 ⟨h.res.grown hg (fun e => by injection e with e; have := h.l1; omega), h.pool.grown hg (fun e => by injection e with e; have := h.l2; omega), hR, h.own.rd h.rd hg, bel_of_grown h.bel hg (Nat.le_of_lt h.l1), h.l1, h.l2⟩
theorem DrSt.below {w W W' : World} {rb k : Nat} {v0 v1 : Value} {p : Pool} {bvs : List Value} {pb : Nat} (h : DrSt w W rb k v0 v1 p bvs pb) (hb : Bel W W') : DrSt w W' rb k v0 v1 p bvs pb :=
 ⟨h.res.bel hb, h.pool.bel hb, h.rd.bel hb, h.own.bel hb, h.bel.tr hb, h.l1, h.l2⟩
def DrewG (w : World) (e : Ending) (w' : World) : Prop := ∃ (v0 v1 : Value) (p : Pool) (bvs : List Value) (s : ByteArray), e = .returned (.tuple #[.agg #[v0, v1], .string s]) ∧ s.size ≤ 1048576 ∧ DrawnP p ∧ OwnP w' w.heap.size v0 v1 p bvs ∧ Bel w w'
end Go.Proofs.YtccllgpaafgjaaaGreat

namespace Go.Proofs.YtccllgpaafgjaaaGreat
open Go.RowKit Go.Proofs.YtccllgpaafgjaaaGreatW.PrintWords Go.Proofs.YtccllgpaafgjaaaGreatW.PrintLast
def eight : List ByteArray := [sOf [65], sOf [66], sOf [67], sOf [68], sOf [68], sOf [67], sOf [69], sOf []]
def DrewM (w : World) (e : Ending) (w' : World) : Prop := ∃ (v0 v1 : Value) (p : Pool) (bvs : List Value) (s : ByteArray) (n : Int), e = .returned (.tuple #[.agg #[v0, v1], .string s, .int .i64 n]) ∧ s ∈ eight ∧ 1 ≤ n ∧ n ≤ 100 ∧ DrawnP p ∧ OwnP w' w.heap.size v0 v1 p bvs ∧ Bel w w'
end Go.Proofs.YtccllgpaafgjaaaGreat

namespace Go.Proofs.YtccllgpaafgjaaaGreat
open Go.RowKit Go.Proofs.YtccllgpaafgjaaaGreatW.PrintWords Go.Proofs.YtccllgpaafgjaaaGreatW.PrintLast
def DrewC (w : World) (e : Ending) (w' : World) : Prop := ∃ (v0 v1 : Value) (p : Pool) (bvs : List Value) (s d : ByteArray), e = .returned (.tuple #[.agg #[v0, v1], .string s, .string d]) ∧ s.size ≤ 1048576 ∧ d ∈ five ∧ DrawnP p ∧ OwnP w' w.heap.size v0 v1 p bvs ∧ Bel w w'
end Go.Proofs.YtccllgpaafgjaaaGreat

namespace Go.Proofs.YtccllgpaafgjaaaGreat
open Go.RowKit Go.Proofs.YtccllgpaafgjaaaGreatW.PrintWords
def four : List ByteArray := [sOf [97], sOf [98, 99, 100], sOf [], sOf [100, 100]]
def fourB : List ByteArray := [sOf [97], sOf [98, 98], sOf [], sOf [99, 100]]
/-! ### gone -/
/-! ### make -/
/-! ### clone -/
/-! ### write -/
end Go.Proofs.YtccllgpaafgjaaaGreat

namespace Go.Proofs.YtccllgpaafgjaaaGreat
open Go.RowKit Go.Proofs.YtccllgpaafgjaaaGreatW.PrintWords Go.Proofs.YtccllgpaafgjaaaGreatW.PrintLast
def DrewW (w : World) (e : Ending) (w' : World) : Prop := ∃ (v0 v1 : Value) (p : Pool) (bvs : List Value) (s : ByteArray) (n : Int) (tx : ByteArray), e = .returned (.tuple #[.agg #[v0, v1], .string s, .int .i64 n, .string tx]) ∧ s.size ≤ 1048576 ∧ -100 ≤ n ∧ n ≤ 100 ∧ tx.size ≤ 1048576 ∧ DrawnP p ∧ OwnP w' w.heap.size v0 v1 p bvs ∧ Bel w w'
end Go.Proofs.YtccllgpaafgjaaaGreat

namespace Go.Proofs.YtccllgpaafgjaaaGreat
open Go.RowKit Go.Proofs.YtccllgpaafgjaaaGreatW.PrintWords
def NewP (w : World) (q : Pool) (ok : Bool) (e : Ending) (w' : World) : Prop := ∃ A0 A1 c0 c1, e = .returned (.tuple #[.agg #[.slice A0 q.slots.length c0, .slice A1 q.vols.length c1], .bool ok]) ∧ PoolIn w' A0 A1 c0 c1 q ∧ Bel w w'
theorem MadePB.new {w : World} {q : Pool} {ok : Bool} {e : Ending} {w' : World} (h : MadePB w q ok e w') : NewP w q ok e w' := by
 obtain ⟨v0, v1, bvs, rfl, ho, hb⟩ := h
 obtain ⟨A0, A1, c0, c1, rfl, rfl, hi⟩ := ho.reads
 exact ⟨A0, A1, c0, c1, rfl, hi, hb⟩
structure PVar (w : World) (b : Nat) (A0 A1 : Option Addr) (c0 c1 : Nat) (q : Pool) : Prop where
  blk : Blk w b #[.slice A0 q.slots.length c0, .slice A1 q.vols.length c1] 42
  inn : PoolIn w A0 A1 c0 c1 q
theorem PVar.bel {w w' : World} {b : Nat} {A0 A1 : Option Addr} {c0 c1 : Nat} {q : Pool} (h : PVar w b A0 A1 c0 c1 q) (hb : Bel w w') : PVar w' b A0 A1 c0 c1 q := ⟨h.blk.bel hb, h.inn.bel hb⟩
theorem PVar.new {w : World} {A0 A1 : Option Addr} {c0 c1 : Nat} {q : Pool} (h : PoolIn w A0 A1 c0 c1 q) : PVar (w.alloc (.cells #[.slice A0 q.slots.length c0, .slice A1 q.vols.length c1] 42)) w.heap.size A0 A1 c0 c1 q := ⟨Blk.new _ _ _, h.alloc _⟩
theorem PVar.c0 {w : World} {b : Nat} {A0 A1 : Option Addr} {c0 c1 : Nat} {q : Pool} (h : PVar w b A0 A1 c0 c1 q) : w.cell? ⟨b, 0, none⟩ = some (.slice A0 q.slots.length c0) := by have := h.blk.cell 0; simpa using this
theorem PVar.c1 {w : World} {b : Nat} {A0 A1 : Option Addr} {c0 c1 : Nat} {q : Pool} (h : PVar w b A0 A1 c0 c1 q) : w.cell? ⟨b, 1, none⟩ = some (.slice A1 q.vols.length c1) := by have := h.blk.cell 1; simpa using this
theorem PVar.lt {w : World} {b : Nat} {A0 A1 : Option Addr} {c0 c1 : Nat} {q : Pool} (h : PVar w b A0 A1 c0 c1 q) : b < w.heap.size := h.blk.lt
/-! ### cases of a change -/
section
variable {w : World} {A0 A1 : Option Addr} {c0 c1 : Nat} {p q : Pool} {ok : Bool}
abbrev poolV (A0 A1 : Option Addr) (c0 c1 : Nat) (p : Pool) : Value := .agg #[.slice A0 p.slots.length c0, .slice A1 p.vols.length c1]
end
/-! ### drawn pools -/
def DrewG' (w : World) (e : Ending) (w' : World) : Prop := ∃ A0 A1 c0 c1, ∃ (p : Pool) (s : ByteArray), e = .returned (.tuple #[.agg #[.slice A0 p.slots.length c0, .slice A1 p.vols.length c1], .string s]) ∧ s.size ≤ 1048576 ∧ DrawnP p ∧ PoolIn w' A0 A1 c0 c1 p ∧ Bel w w'
theorem DrewG.new {w : World} {e : Ending} {w' : World} (h : DrewG w e w') : DrewG' w e w' := by
 obtain ⟨v0, v1, p, bvs, s, rfl, hs, hp, ho, hb⟩ := h
 obtain ⟨A0, A1, c0, c1, rfl, rfl, hi⟩ := ho.reads
 exact ⟨A0, A1, c0, c1, p, s, rfl, hs, hp, hi, hb⟩
def DrewT' (w : World) (e : Ending) (w' : World) : Prop := ∃ A0 A1 c0 c1, ∃ (p : Pool), e = .returned (.agg #[.slice A0 p.slots.length c0, .slice A1 p.vols.length c1]) ∧ DrawnP p ∧ PoolIn w' A0 A1 c0 c1 p ∧ Bel w w'
theorem DrewT.new {w : World} {e : Ending} {w' : World} (h : DrewT w e w') : DrewT' w e w' := by
 obtain ⟨v0, v1, p, bvs, rfl, hp, ho, hb⟩ := h
 obtain ⟨A0, A1, c0, c1, rfl, rfl, hi⟩ := ho.reads
 exact ⟨A0, A1, c0, c1, p, rfl, hp, hi, hb⟩
def DrewM' (w : World) (e : Ending) (w' : World) : Prop := ∃ A0 A1 c0 c1, ∃ (p : Pool) (s : ByteArray) (n : Int), e = .returned (.tuple #[.agg #[.slice A0 p.slots.length c0, .slice A1 p.vols.length c1], .string s, .int .i64 n]) ∧ s ∈ eight ∧ 1 ≤ n ∧ n ≤ 100 ∧ DrawnP p ∧ PoolIn w' A0 A1 c0 c1 p ∧ Bel w w'
theorem DrewM.new {w : World} {e : Ending} {w' : World} (h : DrewM w e w') : DrewM' w e w' := by
 obtain ⟨v0, v1, p, bvs, s, n, rfl, hs, h1, h2, hp, ho, hb⟩ := h
 obtain ⟨A0, A1, c0, c1, rfl, rfl, hi⟩ := ho.reads
 exact ⟨A0, A1, c0, c1, p, s, n, rfl, hs, h1, h2, hp, hi, hb⟩
def DrewC' (w : World) (e : Ending) (w' : World) : Prop := ∃ A0 A1 c0 c1, ∃ (p : Pool) (s d : ByteArray), e = .returned (.tuple #[.agg #[.slice A0 p.slots.length c0, .slice A1 p.vols.length c1], .string s, .string d]) ∧ s.size ≤ 1048576 ∧ d ∈ five ∧ DrawnP p ∧ PoolIn w' A0 A1 c0 c1 p ∧ Bel w w'
theorem DrewC.new {w : World} {e : Ending} {w' : World} (h : DrewC w e w') : DrewC' w e w' := by
 obtain ⟨v0, v1, p, bvs, s, d, rfl, hs, hd, hp, ho, hb⟩ := h
 obtain ⟨A0, A1, c0, c1, rfl, rfl, hi⟩ := ho.reads
 exact ⟨A0, A1, c0, c1, p, s, d, rfl, hs, hd, hp, hi, hb⟩
def DrewW' (w : World) (e : Ending) (w' : World) : Prop := ∃ A0 A1 c0 c1, ∃ (p : Pool) (s : ByteArray) (n : Int) (tx : ByteArray), e = .returned (.tuple #[.agg #[.slice A0 p.slots.length c0, .slice A1 p.vols.length c1], .string s, .int .i64 n, .string tx]) ∧ s.size ≤ 1048576 ∧ -100 ≤ n ∧ n ≤ 100 ∧ tx.size ≤ 1048576 ∧ DrawnP p ∧ PoolIn w' A0 A1 c0 c1 p ∧ Bel w w'
theorem DrewW.new {w : World} {e : Ending} {w' : World} (h : DrewW w e w') : DrewW' w e w' := by
 obtain ⟨v0, v1, p, bvs, s, n, tx, rfl, hs, h1, h2, ht, hp, ho, hb⟩ := h
 obtain ⟨A0, A1, c0, c1, rfl, rfl, hi⟩ := ho.reads
 exact ⟨A0, A1, c0, c1, p, s, n, tx, rfl, hs, h1, h2, ht, hp, hi, hb⟩
/-! ### StoreFind -/
def findB (s : List Slot) (t : ByteArray) : Bool := storeOk s && (tOk t && !t.toList.isEmpty)
def FoundB (s : List Slot) (t : ByteArray) (w : World) (e : Ending) (w' : World) : Prop := ∃ n : Int, e = .returned (.tuple #[.int .i64 n, .bool (findB s t && there s t)]) ∧ Bel w w'
end Go.Proofs.YtccllgpaafgjaaaGreat

namespace Go.Proofs.YtccllgpaafgjaaaGreat
open Go.RowKit Go.Proofs.YtccllgpaafgjaaaGreatW.PrintWords
section
variable {w : World} {A B C : Option Addr} {a b c : Nat} {l x : Log} {q : Pool} {ok : Bool}
theorem implLogOk_n (h : LogIn w A B C a b c l) (hs : SmallL l) (he : logOk l = ok) : Calls Tryz.prog 37 #[.agg #[.slice A l.base.slots.length a, .slice B l.base.vols.length b, .slice C l.ops.length c, .int .i64 l.safe]] w (Ret (.bool ok) w) := he ▸ implLogOk_c h hs
theorem specLogOk_n (h : LogIn w A B C a b c l) (hs : SmallL l) (he : logOk l = ok) : Calls Tryz.prog 34 #[.agg #[.slice A l.base.slots.length a, .slice B l.base.vols.length b, .slice C l.ops.length c, .int .i64 l.safe]] w (Ret (.bool ok) w) := he ▸ specLogOk_c h hs
theorem implLogPool_n (h : LogIn w A B C a b c l) (hs : SmallL l) (he : poolF l = q) : Calls Tryz.prog 36 #[.agg #[.slice A l.base.slots.length a, .slice B l.base.vols.length b, .slice C l.ops.length c, .int .i64 l.safe]] w (NewP1 w q) := (he ▸ implLogPool_c h hs).mono fun _ _ h => h.new1
end
theorem poolF_small {l : Log} : SmallP (poolF l) := by
 unfold poolF
 split
 ·exact runV_small
 ·exact noP_small
theorem LogIn.cutTo {w : World} {A B C : Option Addr} {a b c : Nat} {l : Log} (h : LogIn w A B C a b c l) {k : Nat} (hk : k ≤ l.ops.length) {os : List Op} (ho : l.ops.take k = os) (s : Int) : LogIn w A B C a b c ⟨l.base, os, s⟩ := by
 subst ho
 have e : (l.ops.take k).length = k := by rw [List.length_take]; omega
 exact ⟨h.p, by show kOp.C w C (l.ops.take k).length (l.ops.take k); rw [e]; exact C_take h.o k hk, by show (l.ops.take k).length ≤ c; have := h.oc; omega⟩
end Go.Proofs.YtccllgpaafgjaaaGreat

namespace Go.Proofs.YtccllgpaafgjaaaGreat
open Go.RowKit Go.Proofs.YtccllgpaafgjaaaGreatW.PrintWords Go.Proofs.YtccllgpaafgjaaaGreatW.PrintLast
section
variable {w : World} {A B C : Option Addr} {a b c : Nat} {l : Log}
end
end Go.Proofs.YtccllgpaafgjaaaGreat

namespace Go.Proofs.YtccllgpaafgjaaaGreat
open Go.RowKit Go.Proofs.YtccllgpaafgjaaaGreatW.PrintWords
section
variable {w : World} {A B C : Option Addr} {a b c : Nat} {l x : Log} {q : Pool} {ok : Bool}
end
theorem LogP.small {l : Log} {q : Pool} (h : LogP l q) (hs : SmallOs l.ops) : SmallL l := ⟨h.base.small, hs⟩
end Go.Proofs.YtccllgpaafgjaaaGreat

namespace Go.Proofs.YtccllgpaafgjaaaGreat
open Go.RowKit Go.Proofs.YtccllgpaafgjaaaGreatW.PrintWords
def SeenS (W : World) (base : Nat) (v : Value) (seen : List ByteArray) : Prop := W.ownsRow base 9 1 v seen.length (seen.map Value.string)
theorem SeenS.bel {w w' : World} {base : Nat} {v : Value} {s : List ByteArray} (h : SeenS w base v s) (hb : Bel w w') : SeenS w' base v s := pw_own_below h hb
theorem SeenS.reads {w : World} {base : Nat} {v : Value} {s : List ByteArray} (h : SeenS w base v s) : ∃ A c, v = .slice A s.length c ∧ s.length ≤ c ∧ Kd.string.C w A s.length s := by
 have hr : Reps (Kd.string.K w) 1 s (s.map Value.string) := by
  refine ⟨by simp, fun j p hp => ?_⟩
  show _ = [Value.string p]
  rw [Nat.mul_one]
  apply List.ext_getElem?
  intro k
  rw [List.getElem?_take]
  cases k with
  | zero => simp [hp]
  | succ k => simp
 obtain ⟨A, c, e, hr⟩ := own_reads_row h hr rfl
 obtain ⟨A', c', e', hc⟩ := own_cap h
 rw [e] at e'
 injection e' with _ _ e3
 exact ⟨A, c, e, e3 ▸ hc, hr⟩
def seenB (t : ByteArray) (seen : List ByteArray) (m : Nat) : Bool := (t.toList == []) || (seen.take m).any fun o => o.toList == t.toList
end Go.Proofs.YtccllgpaafgjaaaGreat

namespace Go.Proofs.YtccllgpaafgjaaaGreat
open Go.RowKit Go.Proofs.YtccllgpaafgjaaaGreatW.PrintWords Go.Proofs.YtccllgpaafgjaaaGreatW.PrintLast
theorem tail_append {ops rest : List Oper} {P : Array Oper} {o : Oper} {a : Act} {Q : Exit → Act → World → Prop} {W : World} {base : Nat} {v : Value} {os : List Op} (hgd : o.guard = none) (s x : Operand)
  (ho : o.op = .call { callee := .builtin .append, args := #[s, x], argTypes := #[23, 23] }) (hs : a.eval s = v) (y : Op) (ad : Addr) (c : Nat) (hx : a.eval x = .slice (some ad) 1 c)
  (hc : ∀ j u, (encO y)[j]? = some u → W.cell? (ad.add j) = some u) (h : OwnT W base v os) (hl : os.length ≤ 1048576) (hbase : base ≤ W.heap.size)
  (K : ∀ v1 w1, OwnT w1 base v1 (os ++ [y]) → W.grownBy w1 v.ownBlock → wpList Tryz.prog P Q rest (a.put o.dst v1) w1) :
  wpList Tryz.prog P Q (o :: rest) a W := by
 obtain ⟨v1, w1, hr1, h1, hg, hat⟩ := run_append_tail h o.type y ad c hc hl hbase
 refine wpList_plain hgd fun K' hK => ?_
 unfold Oper.wp execOp
 simp only [ho, resolve, invoke, builtin, Sem.run_bind, Sem.run_pure, Result.andThen_ok, List.map_toArray, List.map_cons, List.map_nil, hs, hx, hr1]
 exact hK _ _ (K v1 w1 h1 hg)
theorem blk_op5 {w : World} {b : Nat} {o : Op} (hB : Blk w b #[.int .i64 o.kind, .string o.name, .string o.dest, .int .i64 o.n, .string o.text] 27) : ∀ j u, (encO o)[j]? = some u → w.cell? ((⟨b, 0, none⟩ : Addr).add j) = some u := by
 intro j u hj
 rw [Addr.add_lit, Nat.zero_add, hB.cell]
 simpa [encO] using hj
theorem blkc {w : World} {b : Nat} {cs : Array Value} {t : TypeId} (h : Blk w b cs t) (j : Nat) (v : Value) (hv : cs[j]? = some v) : w.cell? ⟨b, j, none⟩ = some v := by rw [h.cell]; exact hv
section
variable {w : World} {A B C : Option Addr} {a b c : Nat} {l : Log} {o : Op}
set_option maxHeartbeats 8000000 in
theorem implLogAdd_bad (h : LogIn w A B C a b c l) (hs : SmallL l) (ho : SmallO o) (hbad : logOk l = false ∨ (logOk l = true ∧ opOk o = false)) :
  Calls Tryz.prog 63 #[.agg #[.slice A l.base.slots.length a, .slice B l.base.vols.length b, .slice C l.ops.length c, .int .i64 l.safe], .agg #[.int .i64 o.kind, .string o.name, .string o.dest, .int .i64 o.n, .string o.text]] w (NewLB w noL false) := by
 have HI := Lib.hid h
 have HS := Lib.hid hs
 have HSO := Lib.hid ho
 clear h hs ho
 go_enter Tryz.func63, Tryz.ntmps63
 go_wp2_with fail
 have hV : LVar (((w.alloc (.cells #[.slice A l.base.slots.length a, .slice B l.base.vols.length b, .slice C l.ops.length c, .int .i64 l.safe] 44)).alloc (.cells #[.int .i64 o.kind, .string o.name, .string o.dest, .int .i64 o.n, .string o.text] 27)).alloc (.cells #[.slice none 0 0, .slice none 0 0, .slice none 0 0, .int .i64 0] 44)) w.heap.size A B C a b c l := ((LVar.new HI.out).bel (bel_alloc (Below.refl _ _) (.cells #[.int .i64 o.kind, .string o.name, .string o.dest, .int .i64 o.n, .string o.text] 27))).bel (bel_alloc (Below.refl _ _) (.cells #[.slice none 0 0, .slice none 0 0, .slice none 0 0, .int .i64 0] 44))
 have hO : Blk (((w.alloc (.cells #[.slice A l.base.slots.length a, .slice B l.base.vols.length b, .slice C l.ops.length c, .int .i64 l.safe] 44)).alloc (.cells #[.int .i64 o.kind, .string o.name, .string o.dest, .int .i64 o.n, .string o.text] 27)).alloc (.cells #[.slice none 0 0, .slice none 0 0, .slice none 0 0, .int .i64 0] 44)) (w.heap.size + 1) #[.int .i64 o.kind, .string o.name, .string o.dest, .int .i64 o.n, .string o.text] 27 := (Blk.nw2 w _ _ _).alloc _
 have hR : Blk (((w.alloc (.cells #[.slice A l.base.slots.length a, .slice B l.base.vols.length b, .slice C l.ops.length c, .int .i64 l.safe] 44)).alloc (.cells #[.int .i64 o.kind, .string o.name, .string o.dest, .int .i64 o.n, .string o.text] 27)).alloc (.cells #[.slice none 0 0, .slice none 0 0, .slice none 0 0, .int .i64 0] 44)) (w.heap.size + 2) #[.slice none 0 0, .slice none 0 0, .slice none 0 0, .int .i64 0] 44 := by have := Blk.new ((w.alloc (.cells #[.slice A l.base.slots.length a, .slice B l.base.vols.length b, .slice C l.ops.length c, .int .i64 l.safe] 44)).alloc (.cells #[.int .i64 o.kind, .string o.name, .string o.dest, .int .i64 o.n, .string o.text] 27)) #[.slice none 0 0, .slice none 0 0, .slice none 0 0, .int .i64 0] 44; simpa using this
 have hW : Bel w (((w.alloc (.cells #[.slice A l.base.slots.length a, .slice B l.base.vols.length b, .slice C l.ops.length c, .int .i64 l.safe] 44)).alloc (.cells #[.int .i64 o.kind, .string o.name, .string o.dest, .int .i64 o.n, .string o.text] 27)).alloc (.cells #[.slice none 0 0, .slice none 0 0, .slice none 0 0, .int .i64 0] 44)) := bel_alloc (bel_alloc (bel_alloc (Below.refl _ _) _) _) _
 generalize (((w.alloc (.cells #[.slice A l.base.slots.length a, .slice B l.base.vols.length b, .slice C l.ops.length c, .int .i64 l.safe] 44)).alloc (.cells #[.int .i64 o.kind, .string o.name, .string o.dest, .int .i64 o.n, .string o.text] 27)).alloc (.cells #[.slice none 0 0, .slice none 0 0, .slice none 0 0, .int .i64 0] 44)) = W0 at hV hO hR hW ⊢
 have HK := Lib.hid (implLogOk_c hV.inn HS.out)
 have HO1 := Lib.hid (fun W => implOpOk_c o HSO.out W)
 rcases hbad with hok | ⟨hok, hop⟩
 ·rw [hok] at HK
  clear hok HO1
  refine HK.out.mono ?_
  rintro e w1 ⟨rfl, hb1⟩
  have HR := Lib.hid (hR.bel hb1)
  have HB := Lib.hid (hW.tr hb1)
  clear hV hO hR hb1 hW
  have r0 := HR.out.cell 0
  have r1 := HR.out.cell 1
  have r2 := HR.out.cell 2
  have r3 := HR.out.cell 3
  have f0 := HR.out.free 0
  have f1 := HR.out.free 1
  have f2 := HR.out.free 2
  have f3 := HR.out.free 3
  have ry := HR.out.lt
  simp at r0 r1 r2 r3
  go_wp2
  have hR4 := HR.out.set4 (.slice none 0 0) (.slice none 0 0) (.slice none 0 0) (.int .i64 0)
  refine bodyPost_ret (results_ct rfl _ _ (w.heap.size + 2) 44 #[.slice none 0 0, .slice none 0 0, .slice none 0 0, .int .i64 0] (0, 0) _ rfl hR4 Tryz.underlying44 rfl (by kernel_rfl)) rfl ?_
  exact ⟨none, none, none, 0, 0, 0, rfl, noL_in _, bel_set4 HB.out (by omega) _ _ _ _⟩
 ·rw [hok] at HK
  rw [hop] at HO1
  clear hok hop
  refine HK.out.mono ?_
  rintro e w1 ⟨rfl, hb1⟩
  have KO := Lib.hid (hO.bel hb1)
  have KR := Lib.hid (hR.bel hb1)
  have KW := Lib.hid (hW.tr hb1)
  clear hV hO hR hb1 hW
  have o0 := KO.out.cell 0
  have o1 := KO.out.cell 1
  have o2 := KO.out.cell 2
  have o3 := KO.out.cell 3
  have o4 := KO.out.cell 4
  have oy := KO.out.lt
  simp at o0 o1 o2 o3 o4
  go_wp2_with fail
  refine (HO1.out _).mono ?_
  rintro e w2 ⟨rfl, hb2⟩
  have HR := Lib.hid (KR.out.bel hb2)
  have HB := Lib.hid (KW.out.tr hb2)
  clear hb2 o0 o1 o2 o3 o4 oy
  have r0 := HR.out.cell 0
  have r1 := HR.out.cell 1
  have r2 := HR.out.cell 2
  have r3 := HR.out.cell 3
  have f0 := HR.out.free 0
  have f1 := HR.out.free 1
  have f2 := HR.out.free 2
  have f3 := HR.out.free 3
  have ry := HR.out.lt
  simp at r0 r1 r2 r3
  go_wp2
  have hR4 := HR.out.set4 (.slice none 0 0) (.slice none 0 0) (.slice none 0 0) (.int .i64 0)
  refine bodyPost_ret (results_ct rfl _ _ (w.heap.size + 2) 44 #[.slice none 0 0, .slice none 0 0, .slice none 0 0, .int .i64 0] (0, 0) _ rfl hR4 Tryz.underlying44 rfl (by kernel_rfl)) rfl ?_
  exact ⟨none, none, none, 0, 0, 0, rfl, noL_in _, bel_set4 HB.out (by omega) _ _ _ _⟩
set_option maxHeartbeats 8000000 in
theorem specLogAdd_bad (h : LogIn w A B C a b c l) (hs : SmallL l) (ho : SmallO o) (hbad : logOk l = false ∨ (logOk l = true ∧ opOk o = false)) :
  Calls Tryz.prog 62 #[.agg #[.slice A l.base.slots.length a, .slice B l.base.vols.length b, .slice C l.ops.length c, .int .i64 l.safe], .agg #[.int .i64 o.kind, .string o.name, .string o.dest, .int .i64 o.n, .string o.text]] w (NewLB w noL false) := by
 have HI := Lib.hid h
 have HS := Lib.hid hs
 have HSO := Lib.hid ho
 clear h hs ho
 go_enter Tryz.func62, Tryz.ntmps62
 go_wp2_with fail
 have hV : LVar (((w.alloc (.cells #[.slice A l.base.slots.length a, .slice B l.base.vols.length b, .slice C l.ops.length c, .int .i64 l.safe] 44)).alloc (.cells #[.int .i64 o.kind, .string o.name, .string o.dest, .int .i64 o.n, .string o.text] 27)).alloc (.cells #[.slice none 0 0, .slice none 0 0, .slice none 0 0, .int .i64 0] 44)) w.heap.size A B C a b c l := ((LVar.new HI.out).bel (bel_alloc (Below.refl _ _) (.cells #[.int .i64 o.kind, .string o.name, .string o.dest, .int .i64 o.n, .string o.text] 27))).bel (bel_alloc (Below.refl _ _) (.cells #[.slice none 0 0, .slice none 0 0, .slice none 0 0, .int .i64 0] 44))
 have hO : Blk (((w.alloc (.cells #[.slice A l.base.slots.length a, .slice B l.base.vols.length b, .slice C l.ops.length c, .int .i64 l.safe] 44)).alloc (.cells #[.int .i64 o.kind, .string o.name, .string o.dest, .int .i64 o.n, .string o.text] 27)).alloc (.cells #[.slice none 0 0, .slice none 0 0, .slice none 0 0, .int .i64 0] 44)) (w.heap.size + 1) #[.int .i64 o.kind, .string o.name, .string o.dest, .int .i64 o.n, .string o.text] 27 := (Blk.nw2 w _ _ _).alloc _
 have hR : Blk (((w.alloc (.cells #[.slice A l.base.slots.length a, .slice B l.base.vols.length b, .slice C l.ops.length c, .int .i64 l.safe] 44)).alloc (.cells #[.int .i64 o.kind, .string o.name, .string o.dest, .int .i64 o.n, .string o.text] 27)).alloc (.cells #[.slice none 0 0, .slice none 0 0, .slice none 0 0, .int .i64 0] 44)) (w.heap.size + 2) #[.slice none 0 0, .slice none 0 0, .slice none 0 0, .int .i64 0] 44 := by have := Blk.new ((w.alloc (.cells #[.slice A l.base.slots.length a, .slice B l.base.vols.length b, .slice C l.ops.length c, .int .i64 l.safe] 44)).alloc (.cells #[.int .i64 o.kind, .string o.name, .string o.dest, .int .i64 o.n, .string o.text] 27)) #[.slice none 0 0, .slice none 0 0, .slice none 0 0, .int .i64 0] 44; simpa using this
 have hW : Bel w (((w.alloc (.cells #[.slice A l.base.slots.length a, .slice B l.base.vols.length b, .slice C l.ops.length c, .int .i64 l.safe] 44)).alloc (.cells #[.int .i64 o.kind, .string o.name, .string o.dest, .int .i64 o.n, .string o.text] 27)).alloc (.cells #[.slice none 0 0, .slice none 0 0, .slice none 0 0, .int .i64 0] 44)) := bel_alloc (bel_alloc (bel_alloc (Below.refl _ _) _) _) _
 generalize (((w.alloc (.cells #[.slice A l.base.slots.length a, .slice B l.base.vols.length b, .slice C l.ops.length c, .int .i64 l.safe] 44)).alloc (.cells #[.int .i64 o.kind, .string o.name, .string o.dest, .int .i64 o.n, .string o.text] 27)).alloc (.cells #[.slice none 0 0, .slice none 0 0, .slice none 0 0, .int .i64 0] 44)) = W0 at hV hO hR hW ⊢
 have HK := Lib.hid (specLogOk_c hV.inn HS.out)
 have HO1 := Lib.hid (fun W => specOpOk_c o HSO.out W)
 rcases hbad with hok | ⟨hok, hop⟩
 ·rw [hok] at HK
  clear hok HO1
  refine HK.out.mono ?_
  rintro e w1 ⟨rfl, hb1⟩
  have HR := Lib.hid (hR.bel hb1)
  have HB := Lib.hid (hW.tr hb1)
  clear hV hO hR hb1 hW
  have r0 := HR.out.cell 0
  have r1 := HR.out.cell 1
  have r2 := HR.out.cell 2
  have r3 := HR.out.cell 3
  have f0 := HR.out.free 0
  have f1 := HR.out.free 1
  have f2 := HR.out.free 2
  have f3 := HR.out.free 3
  have ry := HR.out.lt
  simp at r0 r1 r2 r3
  go_wp2
  have hR4 := HR.out.set4 (.slice none 0 0) (.slice none 0 0) (.slice none 0 0) (.int .i64 0)
  refine bodyPost_ret (results_ct rfl _ _ (w.heap.size + 2) 44 #[.slice none 0 0, .slice none 0 0, .slice none 0 0, .int .i64 0] (0, 0) _ rfl hR4 Tryz.underlying44 rfl (by kernel_rfl)) rfl ?_
  exact ⟨none, none, none, 0, 0, 0, rfl, noL_in _, bel_set4 HB.out (by omega) _ _ _ _⟩
 ·rw [hok] at HK
  rw [hop] at HO1
  clear hok hop
  refine HK.out.mono ?_
  rintro e w1 ⟨rfl, hb1⟩
  have KO := Lib.hid (hO.bel hb1)
  have KR := Lib.hid (hR.bel hb1)
  have KW := Lib.hid (hW.tr hb1)
  clear hV hO hR hb1 hW
  have o0 := KO.out.cell 0
  have o1 := KO.out.cell 1
  have o2 := KO.out.cell 2
  have o3 := KO.out.cell 3
  have o4 := KO.out.cell 4
  have oy := KO.out.lt
  simp at o0 o1 o2 o3 o4
  go_wp2_with fail
  refine (HO1.out _).mono ?_
  rintro e w2 ⟨rfl, hb2⟩
  have HR := Lib.hid (KR.out.bel hb2)
  have HB := Lib.hid (KW.out.tr hb2)
  clear hb2 o0 o1 o2 o3 o4 oy
  have r0 := HR.out.cell 0
  have r1 := HR.out.cell 1
  have r2 := HR.out.cell 2
  have r3 := HR.out.cell 3
  have f0 := HR.out.free 0
  have f1 := HR.out.free 1
  have f2 := HR.out.free 2
  have f3 := HR.out.free 3
  have ry := HR.out.lt
  simp at r0 r1 r2 r3
  go_wp2
  have hR4 := HR.out.set4 (.slice none 0 0) (.slice none 0 0) (.slice none 0 0) (.int .i64 0)
  refine bodyPost_ret (results_ct rfl _ _ (w.heap.size + 2) 44 #[.slice none 0 0, .slice none 0 0, .slice none 0 0, .int .i64 0] (0, 0) _ rfl hR4 Tryz.underlying44 rfl (by kernel_rfl)) rfl ?_
  exact ⟨none, none, none, 0, 0, 0, rfl, noL_in _, bel_set4 HB.out (by omega) _ _ _ _⟩
set_option maxHeartbeats 16000000 in
set_option maxRecDepth 10000 in
theorem implLogAdd_ok {q : Pool} (h : LogIn w A B C a b c l) (hs : SmallL l) (ho : SmallO o) (hq : LogP l q) (hop : opOk o = true) :
  Calls Tryz.prog 63 #[.agg #[.slice A l.base.slots.length a, .slice B l.base.vols.length b, .slice C l.ops.length c, .int .i64 l.safe], .agg #[.int .i64 o.kind, .string o.name, .string o.dest, .int .i64 o.n, .string o.text]] w (NewLB w (addF l o) (addB l o)) := by
 obtain ⟨x, hx⟩ : ∃ x, addF l o = x := ⟨_, rfl⟩
 obtain ⟨z, hz⟩ : ∃ z, addB l o = z := ⟨_, rfl⟩
 rw [hx, hz]
 have HXZ := Lib.hid (And.intro hx hz)
 have HLP := Lib.hid hq
 have HOP := Lib.hid hop
 have h20 := hq.len
 clear hx hz hq hop
 have HI := Lib.hid h
 have HS := Lib.hid hs
 have HSO := Lib.hid ho
 clear h hs ho
 go_enter Tryz.func63, Tryz.ntmps63
 go_wp2_with fail
 have hV : LVar (((w.alloc (.cells #[.slice A l.base.slots.length a, .slice B l.base.vols.length b, .slice C l.ops.length c, .int .i64 l.safe] 44)).alloc (.cells #[.int .i64 o.kind, .string o.name, .string o.dest, .int .i64 o.n, .string o.text] 27)).alloc (.cells #[.slice none 0 0, .slice none 0 0, .slice none 0 0, .int .i64 0] 44)) w.heap.size A B C a b c l := ((LVar.new HI.out).bel (bel_alloc (Below.refl _ _) (.cells #[.int .i64 o.kind, .string o.name, .string o.dest, .int .i64 o.n, .string o.text] 27))).bel (bel_alloc (Below.refl _ _) (.cells #[.slice none 0 0, .slice none 0 0, .slice none 0 0, .int .i64 0] 44))
 have hO : Blk (((w.alloc (.cells #[.slice A l.base.slots.length a, .slice B l.base.vols.length b, .slice C l.ops.length c, .int .i64 l.safe] 44)).alloc (.cells #[.int .i64 o.kind, .string o.name, .string o.dest, .int .i64 o.n, .string o.text] 27)).alloc (.cells #[.slice none 0 0, .slice none 0 0, .slice none 0 0, .int .i64 0] 44)) (w.heap.size + 1) #[.int .i64 o.kind, .string o.name, .string o.dest, .int .i64 o.n, .string o.text] 27 := (Blk.nw2 w _ _ _).alloc _
 have hR : Blk (((w.alloc (.cells #[.slice A l.base.slots.length a, .slice B l.base.vols.length b, .slice C l.ops.length c, .int .i64 l.safe] 44)).alloc (.cells #[.int .i64 o.kind, .string o.name, .string o.dest, .int .i64 o.n, .string o.text] 27)).alloc (.cells #[.slice none 0 0, .slice none 0 0, .slice none 0 0, .int .i64 0] 44)) (w.heap.size + 2) #[.slice none 0 0, .slice none 0 0, .slice none 0 0, .int .i64 0] 44 := by have := Blk.new ((w.alloc (.cells #[.slice A l.base.slots.length a, .slice B l.base.vols.length b, .slice C l.ops.length c, .int .i64 l.safe] 44)).alloc (.cells #[.int .i64 o.kind, .string o.name, .string o.dest, .int .i64 o.n, .string o.text] 27)) #[.slice none 0 0, .slice none 0 0, .slice none 0 0, .int .i64 0] 44; simpa using this
 have hW : Bel w (((w.alloc (.cells #[.slice A l.base.slots.length a, .slice B l.base.vols.length b, .slice C l.ops.length c, .int .i64 l.safe] 44)).alloc (.cells #[.int .i64 o.kind, .string o.name, .string o.dest, .int .i64 o.n, .string o.text] 27)).alloc (.cells #[.slice none 0 0, .slice none 0 0, .slice none 0 0, .int .i64 0] 44)) := bel_alloc (bel_alloc (bel_alloc (Below.refl _ _) _) _) _
 generalize (((w.alloc (.cells #[.slice A l.base.slots.length a, .slice B l.base.vols.length b, .slice C l.ops.length c, .int .i64 l.safe] 44)).alloc (.cells #[.int .i64 o.kind, .string o.name, .string o.dest, .int .i64 o.n, .string o.text] 27)).alloc (.cells #[.slice none 0 0, .slice none 0 0, .slice none 0 0, .int .i64 0] 44)) = W0 at hV hO hR hW ⊢
 have HK := implLogOk_c hV.inn HS.out
 rw [HLP.out.ok] at HK
 refine HK.mono ?_
 rintro e w1 ⟨rfl, hb1⟩
 have KV := Lib.hid (hV.bel hb1)
 have KO := Lib.hid (hO.bel hb1)
 have KR := Lib.hid (hR.bel hb1)
 have KW := Lib.hid (hW.tr hb1)
 clear hV hO hR hb1 hW HK
 have o0 := KO.out.cell 0
 have o1 := KO.out.cell 1
 have o2 := KO.out.cell 2
 have o3 := KO.out.cell 3
 have o4 := KO.out.cell 4
 have oy := KO.out.lt
 simp at o0 o1 o2 o3 o4
 go_wp2_with fail
 have HK2 := implOpOk_c o HSO.out w1
 rw [HOP.out] at HK2
 refine HK2.mono ?_
 rintro e w2 ⟨rfl, hb2⟩
 replace KV := Lib.hid (KV.out.bel hb2)
 replace KO := Lib.hid (KO.out.bel hb2)
 replace KR := Lib.hid (KR.out.bel hb2)
 replace KW := Lib.hid (KW.out.tr hb2)
 clear hb2 HK2 o0 o1 o2 o3 o4 oy
 have q0 := KV.out.c0
 have q1 := KV.out.c1
 have q2 := KV.out.c2
 have q3 := KV.out.c3
 have y := KV.out.lt
 go_wp2_with fail
 clear q0 q1 q2 q3 y
 refine (implLogClone_c KV.out.inn HS.out).mono ?_
 rintro e w3 ⟨A2, B2, C2, a2, b2, c2, bvs, rfl, hp, ho, hb3⟩
 replace KV := Lib.hid (KV.out.bel hb3)
 replace KO := Lib.hid (KO.out.bel hb3)
 replace KR := Lib.hid (KR.out.bel hb3)
 have hsz := KW.out.size
 replace KW := Lib.hid (KW.out.tr hb3)
 have HP := Lib.hid (hp.lower hsz)
 have HO := Lib.hid (show OwnO w3 w.heap.size (.slice C2 l.ops.length c2) l.ops from own_lower ho hsz)
 clear hp ho hb3 hsz
 go_wp2
 have hX : Blk (w3.alloc (.cells #[.slice A2 l.base.slots.length a2, .slice B2 l.base.vols.length b2, .slice C2 l.ops.length c2, .int .i64 l.safe] 44)) w3.heap.size #[.slice A2 l.base.slots.length a2, .slice B2 l.base.vols.length b2, .slice C2 l.ops.length c2, .int .i64 l.safe] 44 := Blk.new _ _ _
 have hb4 : Bel w3 (w3.alloc (.cells #[.slice A2 l.base.slots.length a2, .slice B2 l.base.vols.length b2, .slice C2 l.ops.length c2, .int .i64 l.safe] 44)) := bel_alloc (Below.refl _ _) _
 have hlr := KR.out.lt
 generalize (w3.alloc (.cells #[.slice A2 l.base.slots.length a2, .slice B2 l.base.vols.length b2, .slice C2 l.ops.length c2, .int .i64 l.safe] 44)) = W3 at hX hb4 ⊢
 obtain ⟨xb, hxb⟩ : ∃ xb, w3.heap.size = xb := ⟨_, rfl⟩
 rw [hxb] at hX hlr ⊢
 clear hxb
 have hd : Bel W3 W3.drew := (Below.refl _ _).drew
 have V0 : Hid (LVar W3.drew w.heap.size A B C a b c l) := Lib.hid ((KV.out.bel hb4).bel hd)
 have HOC : Hid (Blk W3.drew (w.heap.size + 1) #[.int .i64 o.kind, .string o.name, .string o.dest, .int .i64 o.n, .string o.text] 27) := Lib.hid ((KO.out.bel hb4).bel hd)
 have HRS : Hid (Blk W3.drew (w.heap.size + 2) #[.slice none 0 0, .slice none 0 0, .slice none 0 0, .int .i64 0] 44) := Lib.hid ((KR.out.bel hb4).bel hd)
 have HX : Hid (Blk W3.drew xb #[.slice A2 l.base.slots.length a2, .slice B2 l.base.vols.length b2, .slice C2 l.ops.length c2, .int .i64 l.safe] 44) := Lib.hid (hX.bel hd)
 have HPx : Hid (OwnP W3.drew w.heap.size (.slice A2 l.base.slots.length a2) (.slice B2 l.base.vols.length b2) l.base bvs) := Lib.hid ((HP.out.bel hb4).bel hd)
 have HOx : Hid (OwnO W3.drew w.heap.size (.slice C2 l.ops.length c2) l.ops) := Lib.hid ((HO.out.bel hb4).bel hd)
 have HWB : Hid (Bel w W3.drew) := Lib.hid ((KW.out.tr hb4).tr hd)
 have HLT := Lib.hid (show w.heap.size + 2 < xb from hlr)
 have HXS := Lib.hid (show xb < W3.drew.heap.size from hX.lt)
 have D0 : Hid (Bel W3.drew W3.drew) := Lib.hid (Below.refl _ _)
 clear hX hb4 hd hlr KV KO KR KW HP HO
 obtain ⟨qq, hqq⟩ : ∃ qq, chO q o = qq := ⟨_, rfl⟩
 obtain ⟨ok, hok⟩ : ∃ ok, chOB q o = ok := ⟨_, rfl⟩
 have hch := chO_opR HLP.out.out o
 rw [hok] at hch
 have HCH := Lib.hid hch
 have hdo := Lib.hid (fun (W : World) (A0 A1 : Option Addr) (c0 c1 : Nat) (h : PoolIn W A0 A1 c0 c1 q) => (hqq ▸ hok ▸ implOpDo_c (o := o) h HLP.out.out.small HSO.out : Calls Tryz.prog 65 #[.agg #[.slice A0 q.slots.length c0, .slice A1 q.vols.length c1], .agg #[.int .i64 o.kind, .string o.name, .string o.dest, .int .i64 o.n, .string o.text]] W (MadePB W qq ok)))
 have hrp := Lib.hid (fun (W : World) (hW : Bel W3.drew W) => (HLP.out.runE ▸ implLogRun_c (V0.out.bel hW).inn HS.out : Calls Tryz.prog 109 #[.agg #[.slice A l.base.slots.length a, .slice B l.base.vols.length b, .slice C l.ops.length c, .int .i64 l.safe]] W (MadeP W q)))
 clear hch hqq hok
 refine start_ (n := 10) (S := fun w' => w'.cell? ⟨w.heap.size, 0, none⟩ = some (.slice A l.base.slots.length a) ∧ w'.cell? ⟨w.heap.size, 1, none⟩ = some (.slice B l.base.vols.length b) ∧ w'.cell? ⟨w.heap.size, 2, none⟩ = some (.slice C l.ops.length c) ∧ w'.cell? ⟨w.heap.size, 3, none⟩ = some (.int .i64 l.safe) ∧ w'.cell? ⟨w.heap.size + 1, 0, none⟩ = some (.int .i64 o.kind) ∧ w'.cell? ⟨w.heap.size + 1, 1, none⟩ = some (.string o.name) ∧ w'.cell? ⟨w.heap.size + 1, 2, none⟩ = some (.string o.dest) ∧ w'.cell? ⟨w.heap.size + 1, 3, none⟩ = some (.int .i64 o.n) ∧ w'.cell? ⟨w.heap.size + 1, 4, none⟩ = some (.string o.text)) (ds := [8]) #[bF, bF, bF, bF, bF, bF, bF, bF, bF, bF] (by kernel_rfl) rfl rfl ⟨V0.out.c0, V0.out.c1, V0.out.c2, V0.out.c3, (blkc HOC.out 0 _ rfl), (blkc HOC.out 1 _ rfl), (blkc HOC.out 2 _ rfl), (blkc HOC.out 3 _ rfl), (blkc HOC.out 4 _ rfl)⟩ (fun hHeld => ?_)
 refine take_ (i := 0) (N := some 21) (v := ?_) (a' := ?_) #[bT, bF, bF, bF, bF, bF, bF, bF, bF, bF] rfl rfl (by kernel_rfl) (fun _ _ _ h => h) (Or.inl ⟨by rfl, ?_⟩) hHeld ?_ ?_
 rotate_left
 ·rintro w' ⟨s0, s1, s2, s3, s4, s5, s6, s7, s8⟩
  go_simp
  with_reducible rfl
 rotate_left
 ·simp only [Act.put, lA, lB, lC, i64_w, i32_w]
  rfl
 refine take_ (i := 2) (N := some 23) (v := ?_) (a' := ?_) #[bT, bF, bT, bF, bF, bF, bF, bF, bF, bF] rfl rfl (by kernel_rfl) (fun _ _ _ h => h) (Or.inl ⟨by rfl, ?_⟩) hHeld ?_ ?_
 rotate_left
 ·rintro w' ⟨s0, s1, s2, s3, s4, s5, s6, s7, s8⟩
  go_simp
  with_reducible rfl
 rotate_left
 ·simp only [Act.put, lA, lB, lC, i64_w, i32_w]
  rfl
 refine join_ (σ := Option Addr × Nat × Option Addr × Nat × Option Addr × Nat × Option Addr × Nat × Nat) 2 #[bT, bT, bT, bT, bT, bT, bT, bT, bF, bF] (fun s => [(22, .agg #[.slice s.1 q.slots.length s.2.1, .slice s.2.2.1 q.vols.length s.2.2.2.1]), (24, .tuple #[.agg #[.slice s.2.2.2.2.1 qq.slots.length s.2.2.2.2.2.1, .slice s.2.2.2.2.2.2.1 qq.vols.length s.2.2.2.2.2.2.2.1], .bool ok]), (20, .tuple #[.agg #[.slice s.2.2.2.2.1 qq.slots.length s.2.2.2.2.2.1, .slice s.2.2.2.2.2.2.1 qq.vols.length s.2.2.2.2.2.2.2.1], .bool ok]), (25, .agg #[.slice s.2.2.2.2.1 qq.slots.length s.2.2.2.2.2.1, .slice s.2.2.2.2.2.2.1 qq.vols.length s.2.2.2.2.2.2.2.1]), (26, .bool ok), (7, .pointer (some ⟨s.2.2.2.2.2.2.2.2, 0, none⟩))]) (fun s w' => (w'.cell? ⟨w.heap.size, 0, none⟩ = some (.slice A l.base.slots.length a) ∧ w'.cell? ⟨w.heap.size, 1, none⟩ = some (.slice B l.base.vols.length b) ∧ w'.cell? ⟨w.heap.size, 2, none⟩ = some (.slice C l.ops.length c) ∧ w'.cell? ⟨w.heap.size, 3, none⟩ = some (.int .i64 l.safe) ∧ w'.cell? ⟨w.heap.size + 1, 0, none⟩ = some (.int .i64 o.kind) ∧ w'.cell? ⟨w.heap.size + 1, 1, none⟩ = some (.string o.name) ∧ w'.cell? ⟨w.heap.size + 1, 2, none⟩ = some (.string o.dest) ∧ w'.cell? ⟨w.heap.size + 1, 3, none⟩ = some (.int .i64 o.n) ∧ w'.cell? ⟨w.heap.size + 1, 4, none⟩ = some (.string o.text)) ∧ Blk w' s.2.2.2.2.2.2.2.2 #[.slice none 0 0, .slice none 0 0] 42 ∧ W3.drew.heap.size ≤ s.2.2.2.2.2.2.2.2 ∧ Bel W3.drew w') ?_ ?_
 rotate_left
 ·intro hCont
  refine two_ (i := 1) (j := 7) (Ni := some 22) (Nj := some 7) #[bT, bT, bT, bF, bF, bF, bF, bF, bF, bF] #[bT, bF, bT, bF, bF, bF, bF, bT, bF, bF] rfl rfl rfl rfl (by kernel_rfl) (by decide) (by decide) (fun K hK => ?_) (fun K hK => ?_)
  ·skip
   refine goes_ Tryz.func109 (by kernel_rfl) rfl #[.agg #[.slice A l.base.slots.length a, .slice B l.base.vols.length b, .slice C l.ops.length c, .int .i64 l.safe]] (by rfl) rfl rfl (by simp only [List.map_toArray, List.map_cons, List.map_nil]; rfl) ?_
   with_reducible refine (hrp.out _ D0.out).mono ?_
   rintro e w1_ ⟨va, vb, bva, rfl, hoo, X1⟩
   have D1 := Lib.hid (Bel.tr D0.out X1)
   obtain ⟨A6, B6, a6, b6, rfl, rfl, hpi⟩ := hoo.reads
   have P1 := Lib.hid hpi
   clear hoo hpi
   refine ⟨_, rfl, ?_⟩
   refine hK.out _ _ ⟨(V0.out.bel D1.out).c0, (V0.out.bel D1.out).c1, (V0.out.bel D1.out).c2, (V0.out.bel D1.out).c3, (blkc (HOC.out.bel D1.out) 0 _ rfl), (blkc (HOC.out.bel D1.out) 1 _ rfl), (blkc (HOC.out.bel D1.out) 2 _ rfl), (blkc (HOC.out.bel D1.out) 3 _ rfl), (blkc (HOC.out.bel D1.out) 4 _ rfl)⟩ (fun hHeld => ?_)
   clear hK K
   refine norm_ (a' := ?_) ?_ ?_
   rotate_left
   ·show Act.put _ (some 22) _ = _
    simp only [Act.put, lA, lB, lC, i64_w, i32_w]
    rfl
   refine two_ (i := 3) (j := 7) (Ni := some 24) (Nj := some 7) #[bT, bT, bT, bT, bF, bF, bF, bF, bF, bF] #[bT, bT, bT, bF, bF, bF, bF, bT, bF, bF] rfl rfl rfl rfl (by kernel_rfl) (by decide) (by decide) (fun K hK => ?_) (fun K hK => ?_)
   ·skip
    refine goes_ Tryz.func65 (by kernel_rfl) rfl #[.agg #[.slice A6 q.slots.length a6, .slice B6 q.vols.length b6], .agg #[.int .i64 o.kind, .string o.name, .string o.dest, .int .i64 o.n, .string o.text]] (by rfl) rfl rfl (by simp only [List.map_toArray, List.map_cons, List.map_nil]; rfl) ?_
    with_reducible refine (hdo.out _ _ _ _ _ P1.out).mono ?_
    rintro e w2_ ⟨vc, vd, bvc, rfl, hoo, X2⟩
    have D2 := Lib.hid (Bel.tr D1.out X2)
    obtain ⟨A7, B7, a7, b7, rfl, rfl, hpi⟩ := hoo.reads
    clear hoo hpi
    refine ⟨_, rfl, ?_⟩
    refine hK.out _ _ ⟨(V0.out.bel D2.out).c0, (V0.out.bel D2.out).c1, (V0.out.bel D2.out).c2, (V0.out.bel D2.out).c3, (blkc (HOC.out.bel D2.out) 0 _ rfl), (blkc (HOC.out.bel D2.out) 1 _ rfl), (blkc (HOC.out.bel D2.out) 2 _ rfl), (blkc (HOC.out.bel D2.out) 3 _ rfl), (blkc (HOC.out.bel D2.out) 4 _ rfl)⟩ (fun hHeld => ?_)
    clear hK K
    refine norm_ (a' := ?_) ?_ ?_
    rotate_left
    ·show Act.put _ (some 24) _ = _
     simp only [Act.put, lA, lB, lC, i64_w, i32_w]
     rfl
    refine pure_ (i := 4) (N := some 20) (v := ?_) (a' := ?_) #[bT, bT, bT, bT, bT, bF, bF, bF, bF, bF] rfl rfl (by kernel_rfl) (fun _ _ _ h => h) (Or.inl ⟨by rfl, ?_⟩) ?_ ?_
    rotate_left
    ·intro w'
     go_simp
     with_reducible rfl
    rotate_left
    ·simp only [Act.put, lA, lB, lC, i64_w, i32_w]
     rfl
    refine pure_ (i := 5) (N := some 25) (v := ?_) (a' := ?_) #[bT, bT, bT, bT, bT, bT, bF, bF, bF, bF] rfl rfl (by kernel_rfl) (fun _ _ _ h => h) (Or.inl ⟨by rfl, ?_⟩) ?_ ?_
    rotate_left
    ·intro w'
     go_simp
     with_reducible rfl
    rotate_left
    ·simp only [Act.put, lA, lB, lC, i64_w, i32_w]
     rfl
    refine pure_ (i := 6) (N := some 26) (v := ?_) (a' := ?_) #[bT, bT, bT, bT, bT, bT, bT, bF, bF, bF] rfl rfl (by kernel_rfl) (fun _ _ _ h => h) (Or.inl ⟨by rfl, ?_⟩) ?_ ?_
    rotate_left
    ·intro w'
     go_simp
     with_reducible rfl
    rotate_left
    ·simp only [Act.put, lA, lB, lC, i64_w, i32_w]
     rfl
    refine one_ (i := 7) (N := some 7) #[bT, bT, bT, bT, bT, bT, bT, bT, bF, bF] rfl rfl (by kernel_rfl) (by decide) (fun K hK => ?_)
    refine value_ (w1 := ?_) (v := ?_) (by rfl) rfl ?_ ?_
    rotate_left 2
    ·go_simp
     constructor
     ·rfl
     ·rfl
    have D3 : Hid (Bel W3.drew (w2_.alloc (.cells #[.slice none 0 0, .slice none 0 0] 42))) := Lib.hid (bel_alloc D2.out (.cells #[.slice none 0 0, .slice none 0 0] 42))
    have O3 : Hid (Blk (w2_.alloc (.cells #[.slice none 0 0, .slice none 0 0] 42)) w2_.heap.size #[.slice none 0 0, .slice none 0 0] 42) := Lib.hid (Blk.new w2_ _ _)
    have L3 := D2.out.size
    refine hK.out _ _ ⟨(V0.out.bel D3.out).c0, (V0.out.bel D3.out).c1, (V0.out.bel D3.out).c2, (V0.out.bel D3.out).c3, (blkc (HOC.out.bel D3.out) 0 _ rfl), (blkc (HOC.out.bel D3.out) 1 _ rfl), (blkc (HOC.out.bel D3.out) 2 _ rfl), (blkc (HOC.out.bel D3.out) 3 _ rfl), (blkc (HOC.out.bel D3.out) 4 _ rfl)⟩ (fun hHeld => ?_)
    clear hK K
    refine norm_ (a' := ?_) ?_ ?_
    rotate_left
    ·show Act.put _ (some 7) _ = _
     simp only [Act.put, lA, lB, lC, i64_w, i32_w]
     rfl
    exact norm_ (by simp only [putAll, Act.put, lA, lB, lC]) (hCont (A6, a6, B6, b6, A7, a7, B7, b7, w2_.heap.size) _ ⟨hHeld, O3.out, L3, D3.out⟩)
   ·skip
    refine value_ (w1 := ?_) (v := ?_) (by rfl) rfl ?_ ?_
    rotate_left 2
    ·go_simp
     constructor
     ·rfl
     ·rfl
    have D2 : Hid (Bel W3.drew (w1_.alloc (.cells #[.slice none 0 0, .slice none 0 0] 42))) := Lib.hid (bel_alloc D1.out (.cells #[.slice none 0 0, .slice none 0 0] 42))
    have P2 := Lib.hid (PoolIn.bel P1.out (bel_alloc (Below.refl _ _) (.cells #[.slice none 0 0, .slice none 0 0] 42)))
    have O2 : Hid (Blk (w1_.alloc (.cells #[.slice none 0 0, .slice none 0 0] 42)) w1_.heap.size #[.slice none 0 0, .slice none 0 0] 42) := Lib.hid (Blk.new w1_ _ _)
    have L2 := D1.out.size
    refine hK.out _ _ ⟨(V0.out.bel D2.out).c0, (V0.out.bel D2.out).c1, (V0.out.bel D2.out).c2, (V0.out.bel D2.out).c3, (blkc (HOC.out.bel D2.out) 0 _ rfl), (blkc (HOC.out.bel D2.out) 1 _ rfl), (blkc (HOC.out.bel D2.out) 2 _ rfl), (blkc (HOC.out.bel D2.out) 3 _ rfl), (blkc (HOC.out.bel D2.out) 4 _ rfl)⟩ (fun hHeld => ?_)
    clear hK K
    refine norm_ (a' := ?_) ?_ ?_
    rotate_left
    ·show Act.put _ (some 7) _ = _
     simp only [Act.put, lA, lB, lC, i64_w, i32_w]
     rfl
    refine one_ (i := 3) (N := some 24) #[bT, bT, bT, bT, bF, bF, bF, bT, bF, bF] rfl rfl (by kernel_rfl) (by decide) (fun K hK => ?_)
    refine goes_ Tryz.func65 (by kernel_rfl) rfl #[.agg #[.slice A6 q.slots.length a6, .slice B6 q.vols.length b6], .agg #[.int .i64 o.kind, .string o.name, .string o.dest, .int .i64 o.n, .string o.text]] (by rfl) rfl rfl (by simp only [List.map_toArray, List.map_cons, List.map_nil]; rfl) ?_
    with_reducible refine (hdo.out _ _ _ _ _ P2.out).mono ?_
    rintro e w3_ ⟨vc, vd, bvc, rfl, hoo, X3⟩
    have D3 := Lib.hid (Bel.tr D2.out X3)
    obtain ⟨A7, B7, a7, b7, rfl, rfl, hpi⟩ := hoo.reads
    clear hoo hpi
    have O3 := Lib.hid (Blk.bel O2.out X3)
    refine ⟨_, rfl, ?_⟩
    refine hK.out _ _ ⟨(V0.out.bel D3.out).c0, (V0.out.bel D3.out).c1, (V0.out.bel D3.out).c2, (V0.out.bel D3.out).c3, (blkc (HOC.out.bel D3.out) 0 _ rfl), (blkc (HOC.out.bel D3.out) 1 _ rfl), (blkc (HOC.out.bel D3.out) 2 _ rfl), (blkc (HOC.out.bel D3.out) 3 _ rfl), (blkc (HOC.out.bel D3.out) 4 _ rfl)⟩ (fun hHeld => ?_)
    clear hK K
    refine norm_ (a' := ?_) ?_ ?_
    rotate_left
    ·show Act.put _ (some 24) _ = _
     simp only [Act.put, lA, lB, lC, i64_w, i32_w]
     rfl
    refine pure_ (i := 4) (N := some 20) (v := ?_) (a' := ?_) #[bT, bT, bT, bT, bT, bF, bF, bT, bF, bF] rfl rfl (by kernel_rfl) (fun _ _ _ h => h) (Or.inl ⟨by rfl, ?_⟩) ?_ ?_
    rotate_left
    ·intro w'
     go_simp
     with_reducible rfl
    rotate_left
    ·simp only [Act.put, lA, lB, lC, i64_w, i32_w]
     rfl
    refine pure_ (i := 5) (N := some 25) (v := ?_) (a' := ?_) #[bT, bT, bT, bT, bT, bT, bF, bT, bF, bF] rfl rfl (by kernel_rfl) (fun _ _ _ h => h) (Or.inl ⟨by rfl, ?_⟩) ?_ ?_
    rotate_left
    ·intro w'
     go_simp
     with_reducible rfl
    rotate_left
    ·simp only [Act.put, lA, lB, lC, i64_w, i32_w]
     rfl
    refine pure_ (i := 6) (N := some 26) (v := ?_) (a' := ?_) #[bT, bT, bT, bT, bT, bT, bT, bT, bF, bF] rfl rfl (by kernel_rfl) (fun _ _ _ h => h) (Or.inl ⟨by rfl, ?_⟩) ?_ ?_
    rotate_left
    ·intro w'
     go_simp
     with_reducible rfl
    rotate_left
    ·simp only [Act.put, lA, lB, lC, i64_w, i32_w]
     rfl
    exact norm_ (by simp only [putAll, Act.put, lA, lB, lC]) (hCont (A6, a6, B6, b6, A7, a7, B7, b7, w1_.heap.size) _ ⟨hHeld, O3.out, L2, D3.out⟩)
  ·skip
   refine value_ (w1 := ?_) (v := ?_) (by rfl) rfl ?_ ?_
   rotate_left 2
   ·go_simp
    constructor
    ·rfl
    ·rfl
   have D1 : Hid (Bel W3.drew (W3.alloc (.cells #[.slice none 0 0, .slice none 0 0] 42)).drew) := Lib.hid (bel_alloc D0.out (.cells #[.slice none 0 0, .slice none 0 0] 42))
   have O1 : Hid (Blk (W3.alloc (.cells #[.slice none 0 0, .slice none 0 0] 42)).drew W3.drew.heap.size #[.slice none 0 0, .slice none 0 0] 42) := Lib.hid (Blk.new W3.drew _ _)
   have L1 := D0.out.size
   refine hK.out _ _ ⟨(V0.out.bel D1.out).c0, (V0.out.bel D1.out).c1, (V0.out.bel D1.out).c2, (V0.out.bel D1.out).c3, (blkc (HOC.out.bel D1.out) 0 _ rfl), (blkc (HOC.out.bel D1.out) 1 _ rfl), (blkc (HOC.out.bel D1.out) 2 _ rfl), (blkc (HOC.out.bel D1.out) 3 _ rfl), (blkc (HOC.out.bel D1.out) 4 _ rfl)⟩ (fun hHeld => ?_)
   clear hK K
   refine norm_ (a' := ?_) ?_ ?_
   rotate_left
   ·show Act.put _ (some 7) _ = _
    simp only [Act.put, lA, lB, lC, i64_w, i32_w]
    rfl
   refine one_ (i := 1) (N := some 22) #[bT, bT, bT, bF, bF, bF, bF, bT, bF, bF] rfl rfl (by kernel_rfl) (by decide) (fun K hK => ?_)
   refine goes_ Tryz.func109 (by kernel_rfl) rfl #[.agg #[.slice A l.base.slots.length a, .slice B l.base.vols.length b, .slice C l.ops.length c, .int .i64 l.safe]] (by rfl) rfl rfl (by simp only [List.map_toArray, List.map_cons, List.map_nil]; rfl) ?_
   with_reducible refine (hrp.out _ D1.out).mono ?_
   rintro e w2_ ⟨va, vb, bva, rfl, hoo, X2⟩
   have D2 := Lib.hid (Bel.tr D1.out X2)
   obtain ⟨A6, B6, a6, b6, rfl, rfl, hpi⟩ := hoo.reads
   have P2 := Lib.hid hpi
   clear hoo hpi
   have O2 := Lib.hid (Blk.bel O1.out X2)
   refine ⟨_, rfl, ?_⟩
   refine hK.out _ _ ⟨(V0.out.bel D2.out).c0, (V0.out.bel D2.out).c1, (V0.out.bel D2.out).c2, (V0.out.bel D2.out).c3, (blkc (HOC.out.bel D2.out) 0 _ rfl), (blkc (HOC.out.bel D2.out) 1 _ rfl), (blkc (HOC.out.bel D2.out) 2 _ rfl), (blkc (HOC.out.bel D2.out) 3 _ rfl), (blkc (HOC.out.bel D2.out) 4 _ rfl)⟩ (fun hHeld => ?_)
   clear hK K
   refine norm_ (a' := ?_) ?_ ?_
   rotate_left
   ·show Act.put _ (some 22) _ = _
    simp only [Act.put, lA, lB, lC, i64_w, i32_w]
    rfl
   refine one_ (i := 3) (N := some 24) #[bT, bT, bT, bT, bF, bF, bF, bT, bF, bF] rfl rfl (by kernel_rfl) (by decide) (fun K hK => ?_)
   refine goes_ Tryz.func65 (by kernel_rfl) rfl #[.agg #[.slice A6 q.slots.length a6, .slice B6 q.vols.length b6], .agg #[.int .i64 o.kind, .string o.name, .string o.dest, .int .i64 o.n, .string o.text]] (by rfl) rfl rfl (by simp only [List.map_toArray, List.map_cons, List.map_nil]; rfl) ?_
   with_reducible refine (hdo.out _ _ _ _ _ P2.out).mono ?_
   rintro e w3_ ⟨vc, vd, bvc, rfl, hoo, X3⟩
   have D3 := Lib.hid (Bel.tr D2.out X3)
   obtain ⟨A7, B7, a7, b7, rfl, rfl, hpi⟩ := hoo.reads
   clear hoo hpi
   have O3 := Lib.hid (Blk.bel O2.out X3)
   refine ⟨_, rfl, ?_⟩
   refine hK.out _ _ ⟨(V0.out.bel D3.out).c0, (V0.out.bel D3.out).c1, (V0.out.bel D3.out).c2, (V0.out.bel D3.out).c3, (blkc (HOC.out.bel D3.out) 0 _ rfl), (blkc (HOC.out.bel D3.out) 1 _ rfl), (blkc (HOC.out.bel D3.out) 2 _ rfl), (blkc (HOC.out.bel D3.out) 3 _ rfl), (blkc (HOC.out.bel D3.out) 4 _ rfl)⟩ (fun hHeld => ?_)
   clear hK K
   refine norm_ (a' := ?_) ?_ ?_
   rotate_left
   ·show Act.put _ (some 24) _ = _
    simp only [Act.put, lA, lB, lC, i64_w, i32_w]
    rfl
   refine pure_ (i := 4) (N := some 20) (v := ?_) (a' := ?_) #[bT, bT, bT, bT, bT, bF, bF, bT, bF, bF] rfl rfl (by kernel_rfl) (fun _ _ _ h => h) (Or.inl ⟨by rfl, ?_⟩) ?_ ?_
   rotate_left
   ·intro w'
    go_simp
    with_reducible rfl
   rotate_left
   ·simp only [Act.put, lA, lB, lC, i64_w, i32_w]
    rfl
   refine pure_ (i := 5) (N := some 25) (v := ?_) (a' := ?_) #[bT, bT, bT, bT, bT, bT, bF, bT, bF, bF] rfl rfl (by kernel_rfl) (fun _ _ _ h => h) (Or.inl ⟨by rfl, ?_⟩) ?_ ?_
   rotate_left
   ·intro w'
    go_simp
    with_reducible rfl
   rotate_left
   ·simp only [Act.put, lA, lB, lC, i64_w, i32_w]
    rfl
   refine pure_ (i := 6) (N := some 26) (v := ?_) (a' := ?_) #[bT, bT, bT, bT, bT, bT, bT, bT, bF, bF] rfl rfl (by kernel_rfl) (fun _ _ _ h => h) (Or.inl ⟨by rfl, ?_⟩) ?_ ?_
   rotate_left
   ·intro w'
    go_simp
    with_reducible rfl
   rotate_left
   ·simp only [Act.put, lA, lB, lC, i64_w, i32_w]
    rfl
   exact norm_ (by simp only [putAll, Act.put, lA, lB, lC]) (hCont (A6, a6, B6, b6, A7, a7, B7, b7, W3.heap.size) _ ⟨hHeld, O3.out, L1, D3.out⟩)
 rintro ⟨A6, a6, B6, b6, A7, a7, B7, b7, nb⟩ w4 ⟨hHeld, hO, hL, hD⟩
 dsimp only at hO hL
 have r0 := hO.cell 0
 have r1 := hO.cell 1
 have f0 := hO.free 0
 have f1 := hO.free 1
 simp at r0 r1
 refine norm_ (a' := ?_) ?_ ?_
 rotate_left
 ·simp only [putAll, Act.put, lA, lB, lC]
  rfl
 refine last_ (i := 8) (N := none) #[bT, bT, bT, bT, bT, bT, bT, bT, bT, bF] rfl rfl (by kernel_rfl) (by decide) (fun K hK => ?_)
 refine skip_ (w1 := ?_) (by rfl) rfl ?_ ?_
 rotate_left
 ·go_simp
  rfl
 refine hK.out _ _ ?_
 clear hK K
 refine pure_ (i := 9) (N := some 8) (v := ?_) (a' := ?_) #[bT, bT, bT, bT, bT, bT, bT, bT, bT, bT] rfl rfl (by kernel_rfl) (fun _ _ _ h => h) (Or.inl ⟨by rfl, ?_⟩) ?_ ?_
 rotate_left
 ·intro w'
  go_simp
  with_reducible rfl
 rotate_left
 ·simp only [Act.put, lA, lB, lC, i64_w, i32_w]
  rfl
 refine done_ (by kernel_rfl) ?_
 have hb5 : Bel W3.drew ((w4.setCell ⟨nb, 0, none⟩ (.slice A7 qq.slots.length a7)).setCell ⟨nb, 1, none⟩ (.slice B7 qq.vols.length b7)) := bel_set (bel_set hD hL 0 (.slice A7 qq.slots.length a7)) hL 1 (.slice B7 qq.vols.length b7)
 clear hO hL hD f0 f1 r0 r1 hHeld D0 hdo hrp
 generalize ((w4.setCell ⟨nb, 0, none⟩ (.slice A7 qq.slots.length a7)).setCell ⟨nb, 1, none⟩ (.slice B7 qq.vols.length b7)) = W5 at hb5 ⊢
 by_cases hadd : ok = true ∧ l.ops.length < 20
 ·obtain ⟨hok, hlen⟩ := hadd
  obtain ⟨rq, hrq⟩ : ∃ r, opR q o = some r := Option.isSome_iff_exists.1 (HCH.out.1.symm.trans hok)
  have hy := addF_yes HLP.out HOP.out hrq hlen
  obtain rfl : ⟨l.base, l.ops ++ [o], l.safe⟩ = x := hy.1.symm.trans HXZ.out.1
  obtain rfl : true = z := hy.2.1.symm.trans HXZ.out.2
  have hl20 : ¬ (l.ops.length : Int) = 20 := by omega
  have hl20' : ¬ (20 : Int) ≤ (l.ops.length : Int) := by omega
  subst hok
  clear hy hrq
  have hx_ := HX.out.bel hb5
  have hr_ := HRS.out.bel hb5
  have ho_ := HOC.out.bel hb5
  have x0 := hx_.cell 0
  have x1 := hx_.cell 1
  have x2 := hx_.cell 2
  have x3 := hx_.cell 3
  have xf0 := hx_.free 0
  have xf1 := hx_.free 1
  have xf2 := hx_.free 2
  have xf3 := hx_.free 3
  have r0 := hr_.cell 0
  have r1 := hr_.cell 1
  have r2 := hr_.cell 2
  have r3 := hr_.cell 3
  have f0 := hr_.free 0
  have f1 := hr_.free 1
  have f2 := hr_.free 2
  have f3 := hr_.free 3
  have o0 := ho_.cell 0
  have o1 := ho_.cell 1
  have o2 := ho_.cell 2
  have o3 := ho_.cell 3
  have o4 := ho_.cell 4
  have q2 := (V0.out.bel hb5).c2
  have xy := hx_.lt
  have ry := hr_.lt
  have oy := ho_.lt
  have vy := (V0.out.bel hb5).lt
  simp at x0 x1 x2 x3 r0 r1 r2 r3 o0 o1 o2 o3 o4
  have hlt := HLT.out
  have hne1 : ¬ xb = w.heap.size + 2 := by omega
  have hne2 : ¬ w.heap.size + 2 = xb := by omega
  go_wp2_with (
   at_builtin
   refine tail_append (ops := []) rfl (.tmp 37) (.tmp 39) rfl rfl o ⟨W5.heap.size, 0, none⟩ 1 rfl (blk_op5 (show Blk (W5.alloc (.cells #[.int .i64 o.kind, .string o.name, .string o.dest, .int .i64 o.n, .string o.text] 27)) (W5.heap.size) #[.int .i64 o.kind, .string o.name, .string o.dest, .int .i64 o.n, .string o.text] 27 from Blk.new _ _ _)) (OwnO.tail (OwnO.bel (HOx.out.bel hb5) (bel_alloc (Below.refl _ _) _))) (by omega) (Nat.le_trans (HWB.out.tr hb5).size (bel_alloc (Below.refl _ _) _ : Bel W5 _).size) ?_
   intro v1 w9 hv1 hgr
   obtain ⟨no, hno⟩ : ∃ no, l.ops ++ [o] = no := ⟨_, rfl⟩
   rw [hno] at hv1
   obtain ⟨C4, c4, rfl, hc4, hC4⟩ := hv1.reads
   have hT0 : OwnT (W5.alloc (.cells #[.int .i64 o.kind, .string o.name, .string o.dest, .int .i64 o.n, .string o.text] 27)) w.heap.size (.slice C2 l.ops.length c2) l.ops := OwnO.tail (OwnO.bel (HOx.out.bel hb5) (bel_alloc (Below.refl _ _) _))
   have ha : Bel W5 (W5.alloc (.cells #[.int .i64 o.kind, .string o.name, .string o.dest, .int .i64 o.n, .string o.text] 27)) := bel_alloc (Below.refl _ _) _
   have hX9 := (hx_.bel ha).grown hgr (blk_otherT hT0 (hx_.bel ha) (by decide))
   have hR9 := (hr_.bel ha).grown hgr (blk_otherT hT0 (hr_.bel ha) (by decide))
   have hP9 := ((HPx.out.bel hb5).bel ha).otherT hT0 hgr
   have hb9 : Bel w w9 := ((HWB.out.tr hb5).tr ha).grown hgr (((HWB.out.tr hb5).tr ha).size) (fun k e => (hT0.base k e).1)
   clear x0 x1 x2 x3 xf0 xf1 xf2 xf3 r0 r1 r2 r3 f0 f1 f2 f3 o0 o1 o2 o3 o4 xy ry oy q2 vy hc4 hC4
   have HX9 := Lib.hid hX9
   have HR9 := Lib.hid hR9
   have HP9 := Lib.hid hP9
   have HB9 := Lib.hid hb9
   have HV9 := Lib.hid hv1
   have x0 := HX9.out.cell 0
   have x1 := HX9.out.cell 1
   have x2 := HX9.out.cell 2
   have x3 := HX9.out.cell 3
   have xf0 := HX9.out.free 0
   have xf1 := HX9.out.free 1
   have xf2 := HX9.out.free 2
   have xf3 := HX9.out.free 3
   have r0 := HR9.out.cell 0
   have r1 := HR9.out.cell 1
   have r2 := HR9.out.cell 2
   have r3 := HR9.out.cell 3
   have f0 := HR9.out.free 0
   have f1 := HR9.out.free 1
   have f2 := HR9.out.free 2
   have f3 := HR9.out.free 3
   have xy := HX9.out.lt
   have ry := HR9.out.lt
   simp at x0 x1 x2 x3 r0 r1 r2 r3
   clear hX9 hR9 hP9 hb9 hv1 hT0 ha hgr hx_ hr_ ho_)
  have hx10 := HX9.out
  have hR10 := HR9.out.apart hne1 2 (.slice C4 no.length c4)
  have hR11 := hR10.set4 (.slice A2 l.base.slots.length a2) (.slice B2 l.base.vols.length b2) (.slice C4 no.length c4) (.int .i64 l.safe)
  have hP11 := (HP9.out.far HX9.out (by decide) (by decide) (by decide) 2 (.slice C4 no.length c4)).far4 hR10 (.slice A2 l.base.slots.length a2) (.slice B2 l.base.vols.length b2) (.slice C4 no.length c4) (.int .i64 l.safe)
  have hT11 := (HV9.out.far HX9.out (by decide) 2 (.slice C4 no.length c4)).far4 hR10 (.slice A2 l.base.slots.length a2) (.slice B2 l.base.vols.length b2) (.slice C4 no.length c4) (.int .i64 l.safe)
  have hb11 := bel_set4 (bel_set HB9.out (show w.heap.size ≤ xb by omega) 2 (.slice C4 no.length c4)) (show w.heap.size ≤ w.heap.size + 2 by omega) (.slice A2 l.base.slots.length a2) (.slice B2 l.base.vols.length b2) (.slice C4 no.length c4) (.int .i64 l.safe)
  obtain ⟨C5, c5, e5, hc5, hC5⟩ := hT11.reads
  have e5 := slice_eq e5
  obtain ⟨rfl, -, rfl⟩ := e5
  refine bodyPost_ret (results_ct rfl _ _ (w.heap.size + 2) 44 #[.slice A2 l.base.slots.length a2, .slice B2 l.base.vols.length b2, .slice C4 no.length c4, .int .i64 l.safe] (0, 0) _ rfl hR11 Tryz.underlying44 rfl (by kernel_rfl)) rfl ?_
  subst hno
  exact ⟨A2, B2, C4, a2, b2, c4, rfl, ⟨hP11.inn, hC5, hc5⟩, hb11⟩
 ·have hn : opR q o = none ∨ 20 ≤ l.ops.length := by
   cases hr : opR q o with
   | none => exact .inl rfl
   | some r => exact .inr (Nat.le_of_not_lt fun h2 => hadd ⟨HCH.out.1.trans (by rw [hr]; rfl), h2⟩)
  have hy := addF_no HLP.out HOP.out hn
  obtain rfl : l = x := hy.1.symm.trans HXZ.out.1
  obtain rfl : false = z := hy.2.symm.trans HXZ.out.2
  clear hy hn
  cases ok with
   | false =>
    clear hadd
    have hx_ := HX.out.bel hb5
    have hr_ := HRS.out.bel hb5
    have ho_ := HOC.out.bel hb5
    have x0 := hx_.cell 0
    have x1 := hx_.cell 1
    have x2 := hx_.cell 2
    have x3 := hx_.cell 3
    have xf0 := hx_.free 0
    have xf1 := hx_.free 1
    have xf2 := hx_.free 2
    have xf3 := hx_.free 3
    have r0 := hr_.cell 0
    have r1 := hr_.cell 1
    have r2 := hr_.cell 2
    have r3 := hr_.cell 3
    have f0 := hr_.free 0
    have f1 := hr_.free 1
    have f2 := hr_.free 2
    have f3 := hr_.free 3
    have o0 := ho_.cell 0
    have o1 := ho_.cell 1
    have o2 := ho_.cell 2
    have o3 := ho_.cell 3
    have o4 := ho_.cell 4
    have q2 := (V0.out.bel hb5).c2
    have xy := hx_.lt
    have ry := hr_.lt
    have oy := ho_.lt
    have vy := (V0.out.bel hb5).lt
    simp at x0 x1 x2 x3 r0 r1 r2 r3 o0 o1 o2 o3 o4
    have hlt := HLT.out
    have hne1 : ¬ xb = w.heap.size + 2 := by omega
    have hne2 : ¬ w.heap.size + 2 = xb := by omega
    go_wp2
    have hR9 := hr_.set4 (.slice A2 l.base.slots.length a2) (.slice B2 l.base.vols.length b2) (.slice C2 l.ops.length c2) (.int .i64 l.safe)
    have hP9 := (HPx.out.bel hb5).far4 hr_ (.slice A2 l.base.slots.length a2) (.slice B2 l.base.vols.length b2) (.slice C2 l.ops.length c2) (.int .i64 l.safe)
    have hO9 := OwnO.far4 (HOx.out.bel hb5) hr_ (.slice A2 l.base.slots.length a2) (.slice B2 l.base.vols.length b2) (.slice C2 l.ops.length c2) (.int .i64 l.safe)
    have hb9 := bel_set4 (HWB.out.tr hb5) (show w.heap.size ≤ w.heap.size + 2 by omega) (.slice A2 l.base.slots.length a2) (.slice B2 l.base.vols.length b2) (.slice C2 l.ops.length c2) (.int .i64 l.safe)
    refine bodyPost_ret (results_ct rfl _ _ (w.heap.size + 2) 44 #[.slice A2 l.base.slots.length a2, .slice B2 l.base.vols.length b2, .slice C2 l.ops.length c2, .int .i64 l.safe] (0, 0) _ rfl hR9 Tryz.underlying44 rfl (by kernel_rfl)) rfl ?_
    exact ⟨A2, B2, C2, a2, b2, c2, rfl, ⟨hP9.inn, (hO9.innC rfl).2, (hO9.innC rfl).1⟩, hb9⟩
   | true =>
    have hl20' : ((l.ops.length : Int) == 20) = true := by have h2 : ¬ l.ops.length < 20 := fun h2 => hadd ⟨rfl, h2⟩; rw [beq_iff_eq]; omega
    clear hadd
    have hx_ := HX.out.bel hb5
    have hr_ := HRS.out.bel hb5
    have ho_ := HOC.out.bel hb5
    have x0 := hx_.cell 0
    have x1 := hx_.cell 1
    have x2 := hx_.cell 2
    have x3 := hx_.cell 3
    have xf0 := hx_.free 0
    have xf1 := hx_.free 1
    have xf2 := hx_.free 2
    have xf3 := hx_.free 3
    have r0 := hr_.cell 0
    have r1 := hr_.cell 1
    have r2 := hr_.cell 2
    have r3 := hr_.cell 3
    have f0 := hr_.free 0
    have f1 := hr_.free 1
    have f2 := hr_.free 2
    have f3 := hr_.free 3
    have o0 := ho_.cell 0
    have o1 := ho_.cell 1
    have o2 := ho_.cell 2
    have o3 := ho_.cell 3
    have o4 := ho_.cell 4
    have q2 := (V0.out.bel hb5).c2
    have xy := hx_.lt
    have ry := hr_.lt
    have oy := ho_.lt
    have vy := (V0.out.bel hb5).lt
    simp at x0 x1 x2 x3 r0 r1 r2 r3 o0 o1 o2 o3 o4
    have hlt := HLT.out
    have hne1 : ¬ xb = w.heap.size + 2 := by omega
    have hne2 : ¬ w.heap.size + 2 = xb := by omega
    go_wp2
    have hR9 := hr_.set4 (.slice A2 l.base.slots.length a2) (.slice B2 l.base.vols.length b2) (.slice C2 l.ops.length c2) (.int .i64 l.safe)
    have hP9 := (HPx.out.bel hb5).far4 hr_ (.slice A2 l.base.slots.length a2) (.slice B2 l.base.vols.length b2) (.slice C2 l.ops.length c2) (.int .i64 l.safe)
    have hO9 := OwnO.far4 (HOx.out.bel hb5) hr_ (.slice A2 l.base.slots.length a2) (.slice B2 l.base.vols.length b2) (.slice C2 l.ops.length c2) (.int .i64 l.safe)
    have hb9 := bel_set4 (HWB.out.tr hb5) (show w.heap.size ≤ w.heap.size + 2 by omega) (.slice A2 l.base.slots.length a2) (.slice B2 l.base.vols.length b2) (.slice C2 l.ops.length c2) (.int .i64 l.safe)
    refine bodyPost_ret (results_ct rfl _ _ (w.heap.size + 2) 44 #[.slice A2 l.base.slots.length a2, .slice B2 l.base.vols.length b2, .slice C2 l.ops.length c2, .int .i64 l.safe] (0, 0) _ rfl hR9 Tryz.underlying44 rfl (by kernel_rfl)) rfl ?_
    exact ⟨A2, B2, C2, a2, b2, c2, rfl, ⟨hP9.inn, (hO9.innC rfl).2, (hO9.innC rfl).1⟩, hb9⟩
theorem implLogAdd_c (h : LogIn w A B C a b c l) (hs : SmallL l) (ho : SmallO o) :
  Calls Tryz.prog 63 #[.agg #[.slice A l.base.slots.length a, .slice B l.base.vols.length b, .slice C l.ops.length c, .int .i64 l.safe], .agg #[.int .i64 o.kind, .string o.name, .string o.dest, .int .i64 o.n, .string o.text]] w (NewLB w (addF l o) (addB l o)) := by
 cases hok : logOk l with
 | false => rw [(addF_bad (.inl hok)).1, (addF_bad (.inl hok)).2]; exact implLogAdd_bad h hs ho (.inl hok)
 | true =>
  cases hop : opOk o with
  | false => rw [(addF_bad (.inr hop)).1, (addF_bad (.inr hop)).2]; exact implLogAdd_bad h hs ho (.inr ⟨hok, hop⟩)
  | true =>
   obtain ⟨q, hq⟩ := logOk_iff.1 hok
   exact implLogAdd_ok h hs ho hq hop
set_option maxHeartbeats 16000000 in
set_option maxRecDepth 10000 in
theorem specLogAdd_ok {q : Pool} (h : LogIn w A B C a b c l) (hs : SmallL l) (ho : SmallO o) (hq : LogP l q) (hop : opOk o = true) :
  Calls Tryz.prog 62 #[.agg #[.slice A l.base.slots.length a, .slice B l.base.vols.length b, .slice C l.ops.length c, .int .i64 l.safe], .agg #[.int .i64 o.kind, .string o.name, .string o.dest, .int .i64 o.n, .string o.text]] w (NewLB w (addF l o) (addB l o)) := by
 obtain ⟨x, hx⟩ : ∃ x, addF l o = x := ⟨_, rfl⟩
 obtain ⟨z, hz⟩ : ∃ z, addB l o = z := ⟨_, rfl⟩
 rw [hx, hz]
 have HXZ := Lib.hid (And.intro hx hz)
 have HLP := Lib.hid hq
 have HOP := Lib.hid hop
 have h20 := hq.len
 clear hx hz hq hop
 have HI := Lib.hid h
 have HS := Lib.hid hs
 have HSO := Lib.hid ho
 clear h hs ho
 go_enter Tryz.func62, Tryz.ntmps62
 go_wp2_with fail
 have hV : LVar (((w.alloc (.cells #[.slice A l.base.slots.length a, .slice B l.base.vols.length b, .slice C l.ops.length c, .int .i64 l.safe] 44)).alloc (.cells #[.int .i64 o.kind, .string o.name, .string o.dest, .int .i64 o.n, .string o.text] 27)).alloc (.cells #[.slice none 0 0, .slice none 0 0, .slice none 0 0, .int .i64 0] 44)) w.heap.size A B C a b c l := ((LVar.new HI.out).bel (bel_alloc (Below.refl _ _) (.cells #[.int .i64 o.kind, .string o.name, .string o.dest, .int .i64 o.n, .string o.text] 27))).bel (bel_alloc (Below.refl _ _) (.cells #[.slice none 0 0, .slice none 0 0, .slice none 0 0, .int .i64 0] 44))
 have hO : Blk (((w.alloc (.cells #[.slice A l.base.slots.length a, .slice B l.base.vols.length b, .slice C l.ops.length c, .int .i64 l.safe] 44)).alloc (.cells #[.int .i64 o.kind, .string o.name, .string o.dest, .int .i64 o.n, .string o.text] 27)).alloc (.cells #[.slice none 0 0, .slice none 0 0, .slice none 0 0, .int .i64 0] 44)) (w.heap.size + 1) #[.int .i64 o.kind, .string o.name, .string o.dest, .int .i64 o.n, .string o.text] 27 := (Blk.nw2 w _ _ _).alloc _
 have hR : Blk (((w.alloc (.cells #[.slice A l.base.slots.length a, .slice B l.base.vols.length b, .slice C l.ops.length c, .int .i64 l.safe] 44)).alloc (.cells #[.int .i64 o.kind, .string o.name, .string o.dest, .int .i64 o.n, .string o.text] 27)).alloc (.cells #[.slice none 0 0, .slice none 0 0, .slice none 0 0, .int .i64 0] 44)) (w.heap.size + 2) #[.slice none 0 0, .slice none 0 0, .slice none 0 0, .int .i64 0] 44 := by have := Blk.new ((w.alloc (.cells #[.slice A l.base.slots.length a, .slice B l.base.vols.length b, .slice C l.ops.length c, .int .i64 l.safe] 44)).alloc (.cells #[.int .i64 o.kind, .string o.name, .string o.dest, .int .i64 o.n, .string o.text] 27)) #[.slice none 0 0, .slice none 0 0, .slice none 0 0, .int .i64 0] 44; simpa using this
 have hW : Bel w (((w.alloc (.cells #[.slice A l.base.slots.length a, .slice B l.base.vols.length b, .slice C l.ops.length c, .int .i64 l.safe] 44)).alloc (.cells #[.int .i64 o.kind, .string o.name, .string o.dest, .int .i64 o.n, .string o.text] 27)).alloc (.cells #[.slice none 0 0, .slice none 0 0, .slice none 0 0, .int .i64 0] 44)) := bel_alloc (bel_alloc (bel_alloc (Below.refl _ _) _) _) _
 generalize (((w.alloc (.cells #[.slice A l.base.slots.length a, .slice B l.base.vols.length b, .slice C l.ops.length c, .int .i64 l.safe] 44)).alloc (.cells #[.int .i64 o.kind, .string o.name, .string o.dest, .int .i64 o.n, .string o.text] 27)).alloc (.cells #[.slice none 0 0, .slice none 0 0, .slice none 0 0, .int .i64 0] 44)) = W0 at hV hO hR hW ⊢
 have HK := specLogOk_c hV.inn HS.out
 rw [HLP.out.ok] at HK
 refine HK.mono ?_
 rintro e w1 ⟨rfl, hb1⟩
 have KV := Lib.hid (hV.bel hb1)
 have KO := Lib.hid (hO.bel hb1)
 have KR := Lib.hid (hR.bel hb1)
 have KW := Lib.hid (hW.tr hb1)
 clear hV hO hR hb1 hW HK
 have o0 := KO.out.cell 0
 have o1 := KO.out.cell 1
 have o2 := KO.out.cell 2
 have o3 := KO.out.cell 3
 have o4 := KO.out.cell 4
 have oy := KO.out.lt
 simp at o0 o1 o2 o3 o4
 go_wp2_with fail
 have HK2 := specOpOk_c o HSO.out w1
 rw [HOP.out] at HK2
 refine HK2.mono ?_
 rintro e w2 ⟨rfl, hb2⟩
 replace KV := Lib.hid (KV.out.bel hb2)
 replace KO := Lib.hid (KO.out.bel hb2)
 replace KR := Lib.hid (KR.out.bel hb2)
 replace KW := Lib.hid (KW.out.tr hb2)
 clear hb2 HK2 o0 o1 o2 o3 o4 oy
 have q0 := KV.out.c0
 have q1 := KV.out.c1
 have q2 := KV.out.c2
 have q3 := KV.out.c3
 have y := KV.out.lt
 go_wp2_with fail
 clear q0 q1 q2 q3 y
 refine (l13Copy_c KV.out.inn HS.out).mono ?_
 rintro e w3 ⟨A2, B2, C2, a2, b2, c2, bvs, rfl, hp, ho, hb3⟩
 replace KV := Lib.hid (KV.out.bel hb3)
 replace KO := Lib.hid (KO.out.bel hb3)
 replace KR := Lib.hid (KR.out.bel hb3)
 have hsz := KW.out.size
 replace KW := Lib.hid (KW.out.tr hb3)
 have HP := Lib.hid (hp.lower hsz)
 have HO := Lib.hid (show OwnO w3 w.heap.size (.slice C2 l.ops.length c2) l.ops from own_lower ho hsz)
 clear hp ho hb3 hsz
 go_wp2
 have hX : Blk (w3.alloc (.cells #[.slice A2 l.base.slots.length a2, .slice B2 l.base.vols.length b2, .slice C2 l.ops.length c2, .int .i64 l.safe] 44)) w3.heap.size #[.slice A2 l.base.slots.length a2, .slice B2 l.base.vols.length b2, .slice C2 l.ops.length c2, .int .i64 l.safe] 44 := Blk.new _ _ _
 have hb4 : Bel w3 (w3.alloc (.cells #[.slice A2 l.base.slots.length a2, .slice B2 l.base.vols.length b2, .slice C2 l.ops.length c2, .int .i64 l.safe] 44)) := bel_alloc (Below.refl _ _) _
 have hlr := KR.out.lt
 generalize (w3.alloc (.cells #[.slice A2 l.base.slots.length a2, .slice B2 l.base.vols.length b2, .slice C2 l.ops.length c2, .int .i64 l.safe] 44)) = W3 at hX hb4 ⊢
 obtain ⟨xb, hxb⟩ : ∃ xb, w3.heap.size = xb := ⟨_, rfl⟩
 rw [hxb] at hX hlr ⊢
 clear hxb
 have hd : Bel W3 W3.drew := (Below.refl _ _).drew
 have V0 : Hid (LVar W3.drew w.heap.size A B C a b c l) := Lib.hid ((KV.out.bel hb4).bel hd)
 have HOC : Hid (Blk W3.drew (w.heap.size + 1) #[.int .i64 o.kind, .string o.name, .string o.dest, .int .i64 o.n, .string o.text] 27) := Lib.hid ((KO.out.bel hb4).bel hd)
 have HRS : Hid (Blk W3.drew (w.heap.size + 2) #[.slice none 0 0, .slice none 0 0, .slice none 0 0, .int .i64 0] 44) := Lib.hid ((KR.out.bel hb4).bel hd)
 have HX : Hid (Blk W3.drew xb #[.slice A2 l.base.slots.length a2, .slice B2 l.base.vols.length b2, .slice C2 l.ops.length c2, .int .i64 l.safe] 44) := Lib.hid (hX.bel hd)
 have HPx : Hid (OwnP W3.drew w.heap.size (.slice A2 l.base.slots.length a2) (.slice B2 l.base.vols.length b2) l.base bvs) := Lib.hid ((HP.out.bel hb4).bel hd)
 have HOx : Hid (OwnO W3.drew w.heap.size (.slice C2 l.ops.length c2) l.ops) := Lib.hid ((HO.out.bel hb4).bel hd)
 have HWB : Hid (Bel w W3.drew) := Lib.hid ((KW.out.tr hb4).tr hd)
 have HLT := Lib.hid (show w.heap.size + 2 < xb from hlr)
 have HXS := Lib.hid (show xb < W3.drew.heap.size from hX.lt)
 have D0 : Hid (Bel W3.drew W3.drew) := Lib.hid (Below.refl _ _)
 clear hX hb4 hd hlr KV KO KR KW HP HO
 have HV := Lib.hid HLP.out.base
 have hrs : (runP l.base l.ops).isSome = true := by rw [HLP.out.run]; rfl
 have hrun := Lib.hid (fun (W' : World) (v0 v1 : Value) (bvs : List Value) (h : OwnP W' W3.drew.heap.size v0 v1 l.base bvs) (hb : Bel W3.drew W') => l13Run_c (c2 := c) h HV.out (Below.size hb) V0.out.inn.o (Nat.le_refl _) hb HS.out.ops)
 unfold RunsP at hrun
 rw [hrs] at hrun
 clear hrs
 have s0 := V0.out.c0
 have s1 := V0.out.c1
 have s2 := V0.out.c2
 have s3 := V0.out.c3
 refine start_ (n := 12) (S := fun w' => w'.cell? ⟨w.heap.size, 0, none⟩ = some (.slice A l.base.slots.length a) ∧ w'.cell? ⟨w.heap.size, 1, none⟩ = some (.slice B l.base.vols.length b) ∧ w'.cell? ⟨w.heap.size, 2, none⟩ = some (.slice C l.ops.length c) ∧ w'.cell? ⟨w.heap.size, 3, none⟩ = some (.int .i64 l.safe)) (ds := [10]) #[bF, bF, bF, bF, bF, bF, bF, bF, bF, bF, bF, bF] (by kernel_rfl) rfl rfl ⟨s0, s1, s2, s3⟩ (fun hHeld => ?_)
 refine pure_ (i := 0) (N := some 23) (v := ?_) (a' := ?_) #[bT, bF, bF, bF, bF, bF, bF, bF, bF, bF, bF, bF] rfl rfl (by kernel_rfl) (fun _ _ _ h => h) (Or.inl ⟨by rfl, ?_⟩) ?_ ?_
 rotate_left
 ·intro w'
  go_simp
  with_reducible rfl
 rotate_left
 ·simp only [Act.put, lA, lB, lC, i64_w, i32_w]
  rfl
 refine pure_ (i := 3) (N := some 26) (v := ?_) (a' := ?_) #[bT, bF, bF, bT, bF, bF, bF, bF, bF, bF, bF, bF] rfl rfl (by kernel_rfl) (fun _ _ _ h => h) (Or.inl ⟨by rfl, ?_⟩) ?_ ?_
 rotate_left
 ·intro w'
  go_simp
  with_reducible rfl
 rotate_left
 ·simp only [Act.put, lA, lB, lC, i64_w, i32_w]
  rfl
 refine take_ (i := 1) (N := some 24) (v := ?_) (a' := ?_) #[bT, bT, bF, bT, bF, bF, bF, bF, bF, bF, bF, bF] rfl rfl (by kernel_rfl) (fun _ _ _ h => h) (Or.inl ⟨by rfl, ?_⟩) hHeld ?_ ?_
 rotate_left
 ·rintro w' ⟨s0, s1, s2, s3⟩
  go_simp
  with_reducible rfl
 rotate_left
 ·simp only [Act.put, lA, lB, lC, i64_w, i32_w]
  rfl
 refine take_ (i := 4) (N := some 27) (v := ?_) (a' := ?_) #[bT, bT, bF, bT, bT, bF, bF, bF, bF, bF, bF, bF] rfl rfl (by kernel_rfl) (fun _ _ _ h => h) (Or.inl ⟨by rfl, ?_⟩) hHeld ?_ ?_
 rotate_left
 ·rintro w' ⟨s0, s1, s2, s3⟩
  go_simp
  with_reducible rfl
 rotate_left
 ·simp only [Act.put, lA, lB, lC, i64_w, i32_w]
  rfl
 refine join_ (σ := Value × Value × Option Addr × Nat × Nat × Option Addr × Nat × Nat × Nat) 2 #[bT, bT, bT, bT, bT, bT, bT, bT, bT, bT, bF, bF] (fun s => [(25, .agg #[s.1, s.2.1]), (28, .tuple #[.agg #[.slice s.2.2.1 s.2.2.2.1 s.2.2.2.2.1, .slice s.2.2.2.2.2.1 s.2.2.2.2.2.2.1 s.2.2.2.2.2.2.2.1], .bool true]), (22, .tuple #[.agg #[.slice s.2.2.1 s.2.2.2.1 s.2.2.2.2.1, .slice s.2.2.2.2.2.1 s.2.2.2.2.2.2.1 s.2.2.2.2.2.2.2.1], .bool true]), (29, .agg #[.slice s.2.2.1 s.2.2.2.1 s.2.2.2.2.1, .slice s.2.2.2.2.2.1 s.2.2.2.2.2.2.1 s.2.2.2.2.2.2.2.1]), (30, .bool true), (7, .pointer (some ⟨s.2.2.2.2.2.2.2.2, 0, none⟩))]) (fun s w' => (w'.cell? ⟨w.heap.size, 0, none⟩ = some (.slice A l.base.slots.length a) ∧ w'.cell? ⟨w.heap.size, 1, none⟩ = some (.slice B l.base.vols.length b) ∧ w'.cell? ⟨w.heap.size, 2, none⟩ = some (.slice C l.ops.length c) ∧ w'.cell? ⟨w.heap.size, 3, none⟩ = some (.int .i64 l.safe)) ∧ Blk w' s.2.2.2.2.2.2.2.2 #[.slice none 0 0, .slice none 0 0] 42 ∧ W3.drew.heap.size ≤ s.2.2.2.2.2.2.2.2 ∧ RunQ (runP l.base l.ops) w' W3.drew.heap.size s.2.2.1 s.2.2.2.1 s.2.2.2.2.1 s.2.2.2.2.2.1 s.2.2.2.2.2.2.1 s.2.2.2.2.2.2.2.1 ∧ Bel W3.drew w') ?_ ?_
 rotate_left
 ·intro hCont
  refine two_ (i := 2) (j := 9) (Ni := some 25) (Nj := some 7) #[bT, bT, bT, bT, bT, bF, bF, bF, bF, bF, bF, bF] #[bT, bT, bF, bT, bT, bF, bF, bF, bF, bT, bF, bF] rfl rfl rfl rfl (by kernel_rfl) (by decide) (by decide) (fun K hK => ?_) (fun K hK => ?_)
  ·skip
   refine goes_ Tryz.func105 (by kernel_rfl) rfl #[.agg #[.slice A l.base.slots.length a, .slice B l.base.vols.length b]] (by rfl) rfl rfl (by simp only [List.map_toArray, List.map_cons, List.map_nil]; rfl) ?_
   with_reducible refine (l11Copy_c (V0.out.bel D0.out).inn.p HS.out.base).mono ?_
   rintro e w1_ ⟨va, vb, bva, rfl, ho, X1⟩
   have D1 := Lib.hid (Bel.tr D0.out X1)
   have P1 : Hid (OwnP w1_ W3.drew.heap.size va vb l.base bva) := Lib.hid (ho.lower D0.out.size)
   clear ho
   refine ⟨_, rfl, ?_⟩
   refine hK.out _ _ ⟨(V0.out.bel D1.out).c0, (V0.out.bel D1.out).c1, (V0.out.bel D1.out).c2, (V0.out.bel D1.out).c3⟩ (fun hHeld => ?_)
   clear hK K
   refine norm_ (a' := ?_) ?_ ?_
   rotate_left
   ·show Act.put _ (some 25) _ = _
    simp only [Act.put, lA, lB, lC, i64_w, i32_w]
    rfl
   refine two_ (i := 5) (j := 9) (Ni := some 28) (Nj := some 7) #[bT, bT, bT, bT, bT, bT, bF, bF, bF, bF, bF, bF] #[bT, bT, bT, bT, bT, bF, bF, bF, bF, bT, bF, bF] rfl rfl rfl rfl (by kernel_rfl) (by decide) (by decide) (fun K hK => ?_) (fun K hK => ?_)
   ·skip
    refine goes_ Tryz.func104 (by kernel_rfl) rfl #[.agg #[va, vb], .slice C l.ops.length c] (by rfl) rfl rfl (by simp only [List.map_toArray, List.map_cons, List.map_nil]; rfl) ?_
    with_reducible refine (hrun.out _ va vb bva P1.out D1.out).mono ?_
    rintro e w2_ ⟨A6, A7, n6, n7, k6, k7, rfl, hq, X2⟩
    have D2 : Hid (Bel W3.drew w2_) := Lib.hid (D1.out.trans X2.b)
    have Q2 := Lib.hid (show RunQ _ w2_ _ A6 n6 k6 A7 n7 k7 from hq)
    clear hq
    refine ⟨_, rfl, ?_⟩
    refine hK.out _ _ ⟨(V0.out.bel D2.out).c0, (V0.out.bel D2.out).c1, (V0.out.bel D2.out).c2, (V0.out.bel D2.out).c3⟩ (fun hHeld => ?_)
    clear hK K
    refine norm_ (a' := ?_) ?_ ?_
    rotate_left
    ·show Act.put _ (some 28) _ = _
     simp only [Act.put, lA, lB, lC, i64_w, i32_w]
     rfl
    refine pure_ (i := 6) (N := some 22) (v := ?_) (a' := ?_) #[bT, bT, bT, bT, bT, bT, bT, bF, bF, bF, bF, bF] rfl rfl (by kernel_rfl) (fun _ _ _ h => h) (Or.inl ⟨by rfl, ?_⟩) ?_ ?_
    rotate_left
    ·intro w'
     go_simp
     with_reducible rfl
    rotate_left
    ·simp only [Act.put, lA, lB, lC, i64_w, i32_w]
     rfl
    refine pure_ (i := 7) (N := some 29) (v := ?_) (a' := ?_) #[bT, bT, bT, bT, bT, bT, bT, bT, bF, bF, bF, bF] rfl rfl (by kernel_rfl) (fun _ _ _ h => h) (Or.inl ⟨by rfl, ?_⟩) ?_ ?_
    rotate_left
    ·intro w'
     go_simp
     with_reducible rfl
    rotate_left
    ·simp only [Act.put, lA, lB, lC, i64_w, i32_w]
     rfl
    refine pure_ (i := 8) (N := some 30) (v := ?_) (a' := ?_) #[bT, bT, bT, bT, bT, bT, bT, bT, bT, bF, bF, bF] rfl rfl (by kernel_rfl) (fun _ _ _ h => h) (Or.inl ⟨by rfl, ?_⟩) ?_ ?_
    rotate_left
    ·intro w'
     go_simp
     with_reducible rfl
    rotate_left
    ·simp only [Act.put, lA, lB, lC, i64_w, i32_w]
     rfl
    refine one_ (i := 9) (N := some 7) #[bT, bT, bT, bT, bT, bT, bT, bT, bT, bT, bF, bF] rfl rfl (by kernel_rfl) (by decide) (fun K hK => ?_)
    refine value_ (w1 := ?_) (v := ?_) (by rfl) rfl ?_ ?_
    rotate_left 2
    ·go_simp
     constructor
     ·rfl
     ·rfl
    have D3 : Hid (Bel W3.drew (w2_.alloc (.cells #[.slice none 0 0, .slice none 0 0] 42))) := Lib.hid (bel_alloc D2.out (.cells #[.slice none 0 0, .slice none 0 0] 42))
    have Q3 := Lib.hid (RunQ.bel Q2.out (bel_alloc (Below.refl _ _) (.cells #[.slice none 0 0, .slice none 0 0] 42)))
    have O3 : Hid (Blk (w2_.alloc (.cells #[.slice none 0 0, .slice none 0 0] 42)) w2_.heap.size #[.slice none 0 0, .slice none 0 0] 42) := Lib.hid (Blk.new w2_ #[.slice none 0 0, .slice none 0 0] 42)
    have L3 := D2.out.size
    refine hK.out _ _ ⟨(V0.out.bel D3.out).c0, (V0.out.bel D3.out).c1, (V0.out.bel D3.out).c2, (V0.out.bel D3.out).c3⟩ (fun hHeld => ?_)
    clear hK K
    refine norm_ (a' := ?_) ?_ ?_
    rotate_left
    ·show Act.put _ (some 7) _ = _
     simp only [Act.put, lA, lB, lC, i64_w, i32_w]
     rfl
    exact norm_ (by simp only [putAll, Act.put, lA, lB, lC]) (hCont (va, vb, A6, n6, k6, A7, n7, k7, w2_.heap.size) _ ⟨hHeld, O3.out, L3, Q3.out, D3.out⟩)
   ·skip
    refine value_ (w1 := ?_) (v := ?_) (by rfl) rfl ?_ ?_
    rotate_left 2
    ·go_simp
     constructor
     ·rfl
     ·rfl
    have D2 : Hid (Bel W3.drew (w1_.alloc (.cells #[.slice none 0 0, .slice none 0 0] 42))) := Lib.hid (bel_alloc D1.out (.cells #[.slice none 0 0, .slice none 0 0] 42))
    have P2 := Lib.hid (OwnP.bel P1.out (bel_alloc (Below.refl _ _) (.cells #[.slice none 0 0, .slice none 0 0] 42)))
    have O2 : Hid (Blk (w1_.alloc (.cells #[.slice none 0 0, .slice none 0 0] 42)) w1_.heap.size #[.slice none 0 0, .slice none 0 0] 42) := Lib.hid (Blk.new w1_ #[.slice none 0 0, .slice none 0 0] 42)
    have L2 := D1.out.size
    refine hK.out _ _ ⟨(V0.out.bel D2.out).c0, (V0.out.bel D2.out).c1, (V0.out.bel D2.out).c2, (V0.out.bel D2.out).c3⟩ (fun hHeld => ?_)
    clear hK K
    refine norm_ (a' := ?_) ?_ ?_
    rotate_left
    ·show Act.put _ (some 7) _ = _
     simp only [Act.put, lA, lB, lC, i64_w, i32_w]
     rfl
    refine one_ (i := 5) (N := some 28) #[bT, bT, bT, bT, bT, bT, bF, bF, bF, bT, bF, bF] rfl rfl (by kernel_rfl) (by decide) (fun K hK => ?_)
    refine goes_ Tryz.func104 (by kernel_rfl) rfl #[.agg #[va, vb], .slice C l.ops.length c] (by rfl) rfl rfl (by simp only [List.map_toArray, List.map_cons, List.map_nil]; rfl) ?_
    with_reducible refine (hrun.out _ va vb bva P2.out D2.out).mono ?_
    rintro e w3_ ⟨A6, A7, n6, n7, k6, k7, rfl, hq, X3⟩
    have D3 : Hid (Bel W3.drew w3_) := Lib.hid (D2.out.trans X3.b)
    have Q3 := Lib.hid (show RunQ _ w3_ _ A6 n6 k6 A7 n7 k7 from hq)
    clear hq
    have O3 := Lib.hid (X3.k _ _ _ (by decide) (by decide) (by decide) O2.out)
    refine ⟨_, rfl, ?_⟩
    refine hK.out _ _ ⟨(V0.out.bel D3.out).c0, (V0.out.bel D3.out).c1, (V0.out.bel D3.out).c2, (V0.out.bel D3.out).c3⟩ (fun hHeld => ?_)
    clear hK K
    refine norm_ (a' := ?_) ?_ ?_
    rotate_left
    ·show Act.put _ (some 28) _ = _
     simp only [Act.put, lA, lB, lC, i64_w, i32_w]
     rfl
    refine pure_ (i := 6) (N := some 22) (v := ?_) (a' := ?_) #[bT, bT, bT, bT, bT, bT, bT, bF, bF, bT, bF, bF] rfl rfl (by kernel_rfl) (fun _ _ _ h => h) (Or.inl ⟨by rfl, ?_⟩) ?_ ?_
    rotate_left
    ·intro w'
     go_simp
     with_reducible rfl
    rotate_left
    ·simp only [Act.put, lA, lB, lC, i64_w, i32_w]
     rfl
    refine pure_ (i := 7) (N := some 29) (v := ?_) (a' := ?_) #[bT, bT, bT, bT, bT, bT, bT, bT, bF, bT, bF, bF] rfl rfl (by kernel_rfl) (fun _ _ _ h => h) (Or.inl ⟨by rfl, ?_⟩) ?_ ?_
    rotate_left
    ·intro w'
     go_simp
     with_reducible rfl
    rotate_left
    ·simp only [Act.put, lA, lB, lC, i64_w, i32_w]
     rfl
    refine pure_ (i := 8) (N := some 30) (v := ?_) (a' := ?_) #[bT, bT, bT, bT, bT, bT, bT, bT, bT, bT, bF, bF] rfl rfl (by kernel_rfl) (fun _ _ _ h => h) (Or.inl ⟨by rfl, ?_⟩) ?_ ?_
    rotate_left
    ·intro w'
     go_simp
     with_reducible rfl
    rotate_left
    ·simp only [Act.put, lA, lB, lC, i64_w, i32_w]
     rfl
    exact norm_ (by simp only [putAll, Act.put, lA, lB, lC]) (hCont (va, vb, A6, n6, k6, A7, n7, k7, w1_.heap.size) _ ⟨hHeld, O3.out, L2, Q3.out, D3.out⟩)
  ·skip
   refine value_ (w1 := ?_) (v := ?_) (by rfl) rfl ?_ ?_
   rotate_left 2
   ·go_simp
    constructor
    ·rfl
    ·rfl
   have D1 : Hid (Bel W3.drew (W3.alloc (.cells #[.slice none 0 0, .slice none 0 0] 42)).drew) := Lib.hid (bel_alloc D0.out (.cells #[.slice none 0 0, .slice none 0 0] 42))
   have O1 : Hid (Blk (W3.alloc (.cells #[.slice none 0 0, .slice none 0 0] 42)).drew W3.drew.heap.size #[.slice none 0 0, .slice none 0 0] 42) := Lib.hid (Blk.new W3.drew #[.slice none 0 0, .slice none 0 0] 42)
   have L1 := D0.out.size
   refine hK.out _ _ ⟨(V0.out.bel D1.out).c0, (V0.out.bel D1.out).c1, (V0.out.bel D1.out).c2, (V0.out.bel D1.out).c3⟩ (fun hHeld => ?_)
   clear hK K
   refine norm_ (a' := ?_) ?_ ?_
   rotate_left
   ·show Act.put _ (some 7) _ = _
    simp only [Act.put, lA, lB, lC, i64_w, i32_w]
    rfl
   refine one_ (i := 2) (N := some 25) #[bT, bT, bT, bT, bT, bF, bF, bF, bF, bT, bF, bF] rfl rfl (by kernel_rfl) (by decide) (fun K hK => ?_)
   refine goes_ Tryz.func105 (by kernel_rfl) rfl #[.agg #[.slice A l.base.slots.length a, .slice B l.base.vols.length b]] (by rfl) rfl rfl (by simp only [List.map_toArray, List.map_cons, List.map_nil]; rfl) ?_
   with_reducible refine (l11Copy_c (V0.out.bel D1.out).inn.p HS.out.base).mono ?_
   rintro e w2_ ⟨va, vb, bva, rfl, ho, X2⟩
   have D2 := Lib.hid (Bel.tr D1.out X2)
   have O2 := Lib.hid (Blk.bel O1.out X2)
   have P2 : Hid (OwnP w2_ W3.drew.heap.size va vb l.base bva) := Lib.hid (ho.lower D1.out.size)
   clear ho
   refine ⟨_, rfl, ?_⟩
   refine hK.out _ _ ⟨(V0.out.bel D2.out).c0, (V0.out.bel D2.out).c1, (V0.out.bel D2.out).c2, (V0.out.bel D2.out).c3⟩ (fun hHeld => ?_)
   clear hK K
   refine norm_ (a' := ?_) ?_ ?_
   rotate_left
   ·show Act.put _ (some 25) _ = _
    simp only [Act.put, lA, lB, lC, i64_w, i32_w]
    rfl
   refine one_ (i := 5) (N := some 28) #[bT, bT, bT, bT, bT, bT, bF, bF, bF, bT, bF, bF] rfl rfl (by kernel_rfl) (by decide) (fun K hK => ?_)
   refine goes_ Tryz.func104 (by kernel_rfl) rfl #[.agg #[va, vb], .slice C l.ops.length c] (by rfl) rfl rfl (by simp only [List.map_toArray, List.map_cons, List.map_nil]; rfl) ?_
   with_reducible refine (hrun.out _ va vb bva P2.out D2.out).mono ?_
   rintro e w3_ ⟨A6, A7, n6, n7, k6, k7, rfl, hq, X3⟩
   have D3 : Hid (Bel W3.drew w3_) := Lib.hid (D2.out.trans X3.b)
   have Q3 := Lib.hid (show RunQ _ w3_ _ A6 n6 k6 A7 n7 k7 from hq)
   clear hq
   have O3 := Lib.hid (X3.k _ _ _ (by decide) (by decide) (by decide) O2.out)
   refine ⟨_, rfl, ?_⟩
   refine hK.out _ _ ⟨(V0.out.bel D3.out).c0, (V0.out.bel D3.out).c1, (V0.out.bel D3.out).c2, (V0.out.bel D3.out).c3⟩ (fun hHeld => ?_)
   clear hK K
   refine norm_ (a' := ?_) ?_ ?_
   rotate_left
   ·show Act.put _ (some 28) _ = _
    simp only [Act.put, lA, lB, lC, i64_w, i32_w]
    rfl
   refine pure_ (i := 6) (N := some 22) (v := ?_) (a' := ?_) #[bT, bT, bT, bT, bT, bT, bT, bF, bF, bT, bF, bF] rfl rfl (by kernel_rfl) (fun _ _ _ h => h) (Or.inl ⟨by rfl, ?_⟩) ?_ ?_
   rotate_left
   ·intro w'
    go_simp
    with_reducible rfl
   rotate_left
   ·simp only [Act.put, lA, lB, lC, i64_w, i32_w]
    rfl
   refine pure_ (i := 7) (N := some 29) (v := ?_) (a' := ?_) #[bT, bT, bT, bT, bT, bT, bT, bT, bF, bT, bF, bF] rfl rfl (by kernel_rfl) (fun _ _ _ h => h) (Or.inl ⟨by rfl, ?_⟩) ?_ ?_
   rotate_left
   ·intro w'
    go_simp
    with_reducible rfl
   rotate_left
   ·simp only [Act.put, lA, lB, lC, i64_w, i32_w]
    rfl
   refine pure_ (i := 8) (N := some 30) (v := ?_) (a' := ?_) #[bT, bT, bT, bT, bT, bT, bT, bT, bT, bT, bF, bF] rfl rfl (by kernel_rfl) (fun _ _ _ h => h) (Or.inl ⟨by rfl, ?_⟩) ?_ ?_
   rotate_left
   ·intro w'
    go_simp
    with_reducible rfl
   rotate_left
   ·simp only [Act.put, lA, lB, lC, i64_w, i32_w]
    rfl
   exact norm_ (by simp only [putAll, Act.put, lA, lB, lC]) (hCont (va, vb, A6, n6, k6, A7, n7, k7, W3.heap.size) _ ⟨hHeld, O3.out, L1, Q3.out, D3.out⟩)
 rintro ⟨va, vb, A6, n6, k6, A7, n7, k7, nb⟩ w4 ⟨hHeld, hO, hL, hQ, hD⟩
 dsimp only at hO hL hQ hD
 have r0 := hO.cell 0
 have r1 := hO.cell 1
 have f0 := hO.free 0
 have f1 := hO.free 1
 simp at r0 r1
 refine norm_ (a' := ?_) ?_ ?_
 rotate_left
 ·simp only [putAll, Act.put, lA, lB, lC]
  rfl
 refine last_ (i := 10) (N := none) #[bT, bT, bT, bT, bT, bT, bT, bT, bT, bT, bT, bF] rfl rfl (by kernel_rfl) (by decide) (fun K hK => ?_)
 refine skip_ (w1 := ?_) (by rfl) rfl ?_ ?_
 rotate_left
 ·go_simp
  rfl
 refine hK.out _ _ ?_
 clear hK K
 refine pure_ (i := 11) (N := some 8) (v := ?_) (a' := ?_) #[bT, bT, bT, bT, bT, bT, bT, bT, bT, bT, bT, bT] rfl rfl (by kernel_rfl) (fun _ _ _ h => h) (Or.inl ⟨by rfl, ?_⟩) ?_ ?_
 rotate_left
 ·intro w'
  go_simp
  with_reducible rfl
 rotate_left
 ·simp only [Act.put, lA, lB, lC, i64_w, i32_w]
  rfl
 refine done_ (by kernel_rfl) ?_
 obtain ⟨bq, hq⟩ := hQ q HLP.out.run
 obtain ⟨E0, E1, d0, d1, e0, e1, hpi⟩ := hq.reads
 have e0 := slice_eq e0
 have e1 := slice_eq e1
 obtain ⟨rfl, rfl, rfl⟩ := e0
 obtain ⟨rfl, rfl, rfl⟩ := e1
 have hO1 := hO.set 0 (.slice A6 q.slots.length k6) (cs' := #[.slice A6 q.slots.length k6, .slice none 0 0]) rfl
 have hO2 := hO1.set 1 (.slice A7 q.vols.length k7) (cs' := #[.slice A6 q.slots.length k6, .slice A7 q.vols.length k7]) rfl
 have hq2 := (hq.far hO (by decide) (by decide) (by decide) 0 (.slice A6 q.slots.length k6)).far hO1 (by decide) (by decide) (by decide) 1 (.slice A7 q.vols.length k7)
 have hb5 : Bel W3.drew ((w4.setCell ⟨nb, 0, none⟩ (.slice A6 q.slots.length k6)).setCell ⟨nb, 1, none⟩ (.slice A7 q.vols.length k7)) := bel_set (bel_set hD hL 0 (.slice A6 q.slots.length k6)) hL 1 (.slice A7 q.vols.length k7)
 clear hO hO1 hD hL hQ hq f0 f1 r0 r1 hHeld D0 s0 s1 s2 s3 hrun hpi
 generalize ((w4.setCell ⟨nb, 0, none⟩ (.slice A6 q.slots.length k6)).setCell ⟨nb, 1, none⟩ (.slice A7 q.vols.length k7)) = W5 at hO2 hq2 hb5 ⊢
 have t0 := hO2.cell 0
 have t1 := hO2.cell 1
 have ty := hO2.lt
 have o0 := (HOC.out.bel hb5).cell 0
 have o1 := (HOC.out.bel hb5).cell 1
 have o2 := (HOC.out.bel hb5).cell 2
 have o3 := (HOC.out.bel hb5).cell 3
 have o4 := (HOC.out.bel hb5).cell 4
 have oy := (HOC.out.bel hb5).lt
 simp at t0 t1 o0 o1 o2 o3 o4
 have hbs := hb5.size
 go_wp2_with fail
 have hdo := l12Do_c (o := o) hq2 HLP.out.out hbs HSO.out
 obtain ⟨qq, hqq⟩ : ∃ qq, (opF q o).getD q = qq := ⟨_, rfl⟩
 obtain ⟨ok, hok⟩ : ∃ ok, (opF q o).isSome = ok := ⟨_, rfl⟩
 have hor : opR q o = opF q o := by unfold opR; rw [if_pos HOP.out]
 have HCH := Lib.hid (show ok = (opR q o).isSome by rw [hor, hok])
 unfold TurnsP at hdo
 rw [hqq, hok] at hdo
 refine hdo.mono ?_
 rintro e w6 ⟨u0, u1, bu, rfl, hu, hfr⟩
 obtain ⟨A8, B8, a8, b8, rfl, rfl, hpi⟩ := hu.reads
 have hb6 : Bel W3.drew w6 := hb5.trans hfr.b
 have HB6 := Lib.hid hb6
 have hb7 : Bel W3.drew (w6.alloc (.cells #[.slice A8 qq.slots.length a8, .slice B8 qq.vols.length b8] 42)) := bel_alloc hb6 _
 have HB7 := Lib.hid hb7
 clear hdo hqq hok hor hu hfr hpi hb5 hbs t0 t1 ty o0 o1 o2 o3 o4 oy hO2 hq2 hb6 hb7
 by_cases hadd : ok = true ∧ l.ops.length < 20
 ·obtain ⟨hok, hlen⟩ := hadd
  obtain ⟨rq, hrq⟩ : ∃ r, opR q o = some r := Option.isSome_iff_exists.1 (HCH.out.symm.trans hok)
  have hy := addF_yes HLP.out HOP.out hrq hlen
  obtain rfl : ⟨l.base, l.ops ++ [o], l.safe⟩ = x := hy.1.symm.trans HXZ.out.1
  obtain rfl : true = z := hy.2.1.symm.trans HXZ.out.2
  have hl20 : ¬ (l.ops.length : Int) = 20 := by omega
  have hl20' : ¬ (20 : Int) ≤ (l.ops.length : Int) := by omega
  subst hok
  clear hy hrq
  have hx_ := HX.out.bel HB6.out
  have hr_ := HRS.out.bel HB6.out
  have ho_ := HOC.out.bel HB6.out
  have x0 := hx_.cell 0
  have x1 := hx_.cell 1
  have x2 := hx_.cell 2
  have x3 := hx_.cell 3
  have xf0 := hx_.free 0
  have xf1 := hx_.free 1
  have xf2 := hx_.free 2
  have xf3 := hx_.free 3
  have r0 := hr_.cell 0
  have r1 := hr_.cell 1
  have r2 := hr_.cell 2
  have r3 := hr_.cell 3
  have f0 := hr_.free 0
  have f1 := hr_.free 1
  have f2 := hr_.free 2
  have f3 := hr_.free 3
  have o0 := ho_.cell 0
  have o1 := ho_.cell 1
  have o2 := ho_.cell 2
  have o3 := ho_.cell 3
  have o4 := ho_.cell 4
  have q2 := (V0.out.bel HB6.out).c2
  have xy := hx_.lt
  have ry := hr_.lt
  have oy := ho_.lt
  have vy := (V0.out.bel HB6.out).lt
  simp at x0 x1 x2 x3 r0 r1 r2 r3 o0 o1 o2 o3 o4
  have hlt := HLT.out
  have hne1 : ¬ xb = w.heap.size + 2 := by omega
  have hne2 : ¬ w.heap.size + 2 = xb := by omega
  go_wp2_with (
   at_builtin
   refine tail_append (ops := []) rfl (.tmp 47) (.tmp 49) rfl rfl o ⟨w6.heap.size + 1, 0, none⟩ 1 rfl (blk_op5 (show Blk ((w6.alloc (.cells #[.slice A8 qq.slots.length a8, .slice B8 qq.vols.length b8] 42)).alloc (.cells #[.int .i64 o.kind, .string o.name, .string o.dest, .int .i64 o.n, .string o.text] 27)) (w6.heap.size + 1) #[.int .i64 o.kind, .string o.name, .string o.dest, .int .i64 o.n, .string o.text] 27 from Blk.nw2 _ _ _ _)) (OwnO.tail (OwnO.bel (HOx.out.bel HB7.out) (bel_alloc (Below.refl _ _) _))) (by omega) (Nat.le_trans (HWB.out.tr HB7.out).size (bel_alloc (Below.refl _ _) _ : Bel (w6.alloc (.cells #[.slice A8 qq.slots.length a8, .slice B8 qq.vols.length b8] 42)) _).size) ?_
   intro v1 w9 hv1 hgr
   obtain ⟨no, hno⟩ : ∃ no, l.ops ++ [o] = no := ⟨_, rfl⟩
   rw [hno] at hv1
   obtain ⟨C4, c4, rfl, hc4, hC4⟩ := hv1.reads
   have hT0 : OwnT ((w6.alloc (.cells #[.slice A8 qq.slots.length a8, .slice B8 qq.vols.length b8] 42)).alloc (.cells #[.int .i64 o.kind, .string o.name, .string o.dest, .int .i64 o.n, .string o.text] 27)) w.heap.size (.slice C2 l.ops.length c2) l.ops := OwnO.tail (OwnO.bel (HOx.out.bel HB7.out) (bel_alloc (Below.refl _ _) _))
   have ha : Bel (w6.alloc (.cells #[.slice A8 qq.slots.length a8, .slice B8 qq.vols.length b8] 42)) ((w6.alloc (.cells #[.slice A8 qq.slots.length a8, .slice B8 qq.vols.length b8] 42)).alloc (.cells #[.int .i64 o.kind, .string o.name, .string o.dest, .int .i64 o.n, .string o.text] 27)) := bel_alloc (Below.refl _ _) _
   have hX9 := ((HX.out.bel HB7.out).bel ha).grown hgr (blk_otherT hT0 ((HX.out.bel HB7.out).bel ha) (by decide))
   have hR9 := ((HRS.out.bel HB7.out).bel ha).grown hgr (blk_otherT hT0 ((HRS.out.bel HB7.out).bel ha) (by decide))
   have hP9 := ((HPx.out.bel HB7.out).bel ha).otherT hT0 hgr
   have hb9 : Bel w w9 := ((HWB.out.tr HB7.out).tr ha).grown hgr (((HWB.out.tr HB7.out).tr ha).size) (fun k e => (hT0.base k e).1)
   clear x0 x1 x2 x3 xf0 xf1 xf2 xf3 r0 r1 r2 r3 f0 f1 f2 f3 o0 o1 o2 o3 o4 xy ry oy q2 vy hc4 hC4
   have HX9 := Lib.hid hX9
   have HR9 := Lib.hid hR9
   have HP9 := Lib.hid hP9
   have HB9 := Lib.hid hb9
   have HV9 := Lib.hid hv1
   have x0 := HX9.out.cell 0
   have x1 := HX9.out.cell 1
   have x2 := HX9.out.cell 2
   have x3 := HX9.out.cell 3
   have xf0 := HX9.out.free 0
   have xf1 := HX9.out.free 1
   have xf2 := HX9.out.free 2
   have xf3 := HX9.out.free 3
   have r0 := HR9.out.cell 0
   have r1 := HR9.out.cell 1
   have r2 := HR9.out.cell 2
   have r3 := HR9.out.cell 3
   have f0 := HR9.out.free 0
   have f1 := HR9.out.free 1
   have f2 := HR9.out.free 2
   have f3 := HR9.out.free 3
   have xy := HX9.out.lt
   have ry := HR9.out.lt
   simp at x0 x1 x2 x3 r0 r1 r2 r3
   clear hX9 hR9 hP9 hb9 hv1 hT0 ha hgr hx_ hr_ ho_)
  have hx10 := HX9.out
  have hR10 := HR9.out.apart hne1 2 (.slice C4 no.length c4)
  have hR11 := hR10.set4 (.slice A2 l.base.slots.length a2) (.slice B2 l.base.vols.length b2) (.slice C4 no.length c4) (.int .i64 l.safe)
  have hP11 := (HP9.out.far HX9.out (by decide) (by decide) (by decide) 2 (.slice C4 no.length c4)).far4 hR10 (.slice A2 l.base.slots.length a2) (.slice B2 l.base.vols.length b2) (.slice C4 no.length c4) (.int .i64 l.safe)
  have hT11 := (HV9.out.far HX9.out (by decide) 2 (.slice C4 no.length c4)).far4 hR10 (.slice A2 l.base.slots.length a2) (.slice B2 l.base.vols.length b2) (.slice C4 no.length c4) (.int .i64 l.safe)
  have hb11 := bel_set4 (bel_set HB9.out (show w.heap.size ≤ xb by omega) 2 (.slice C4 no.length c4)) (show w.heap.size ≤ w.heap.size + 2 by omega) (.slice A2 l.base.slots.length a2) (.slice B2 l.base.vols.length b2) (.slice C4 no.length c4) (.int .i64 l.safe)
  obtain ⟨C5, c5, e5, hc5, hC5⟩ := hT11.reads
  have e5 := slice_eq e5
  obtain ⟨rfl, -, rfl⟩ := e5
  refine bodyPost_ret (results_ct rfl _ _ (w.heap.size + 2) 44 #[.slice A2 l.base.slots.length a2, .slice B2 l.base.vols.length b2, .slice C4 no.length c4, .int .i64 l.safe] (0, 0) _ rfl hR11 Tryz.underlying44 rfl (by kernel_rfl)) rfl ?_
  subst hno
  exact ⟨A2, B2, C4, a2, b2, c4, rfl, ⟨hP11.inn, hC5, hc5⟩, hb11⟩
 ·have hn : opR q o = none ∨ 20 ≤ l.ops.length := by
   cases hr : opR q o with
   | none => exact .inl rfl
   | some r => exact .inr (Nat.le_of_not_lt fun h2 => hadd ⟨HCH.out.trans (by rw [hr]; rfl), h2⟩)
  have hy := addF_no HLP.out HOP.out hn
  obtain rfl : l = x := hy.1.symm.trans HXZ.out.1
  obtain rfl : false = z := hy.2.symm.trans HXZ.out.2
  clear hy hn
  cases ok with
   | false =>
    clear hadd
    have hx_ := HX.out.bel HB6.out
    have hr_ := HRS.out.bel HB6.out
    have ho_ := HOC.out.bel HB6.out
    have x0 := hx_.cell 0
    have x1 := hx_.cell 1
    have x2 := hx_.cell 2
    have x3 := hx_.cell 3
    have xf0 := hx_.free 0
    have xf1 := hx_.free 1
    have xf2 := hx_.free 2
    have xf3 := hx_.free 3
    have r0 := hr_.cell 0
    have r1 := hr_.cell 1
    have r2 := hr_.cell 2
    have r3 := hr_.cell 3
    have f0 := hr_.free 0
    have f1 := hr_.free 1
    have f2 := hr_.free 2
    have f3 := hr_.free 3
    have o0 := ho_.cell 0
    have o1 := ho_.cell 1
    have o2 := ho_.cell 2
    have o3 := ho_.cell 3
    have o4 := ho_.cell 4
    have q2 := (V0.out.bel HB6.out).c2
    have xy := hx_.lt
    have ry := hr_.lt
    have oy := ho_.lt
    have vy := (V0.out.bel HB6.out).lt
    simp at x0 x1 x2 x3 r0 r1 r2 r3 o0 o1 o2 o3 o4
    have hlt := HLT.out
    have hne1 : ¬ xb = w.heap.size + 2 := by omega
    have hne2 : ¬ w.heap.size + 2 = xb := by omega
    go_wp2
    have hR9 := hr_.set4 (.slice A2 l.base.slots.length a2) (.slice B2 l.base.vols.length b2) (.slice C2 l.ops.length c2) (.int .i64 l.safe)
    have hP9 := (HPx.out.bel HB6.out).far4 hr_ (.slice A2 l.base.slots.length a2) (.slice B2 l.base.vols.length b2) (.slice C2 l.ops.length c2) (.int .i64 l.safe)
    have hO9 := OwnO.far4 (HOx.out.bel HB6.out) hr_ (.slice A2 l.base.slots.length a2) (.slice B2 l.base.vols.length b2) (.slice C2 l.ops.length c2) (.int .i64 l.safe)
    have hb9 := bel_set4 (HWB.out.tr HB6.out) (show w.heap.size ≤ w.heap.size + 2 by omega) (.slice A2 l.base.slots.length a2) (.slice B2 l.base.vols.length b2) (.slice C2 l.ops.length c2) (.int .i64 l.safe)
    refine bodyPost_ret (results_ct rfl _ _ (w.heap.size + 2) 44 #[.slice A2 l.base.slots.length a2, .slice B2 l.base.vols.length b2, .slice C2 l.ops.length c2, .int .i64 l.safe] (0, 0) _ rfl (hR9.alloc _) Tryz.underlying44 rfl (by kernel_rfl)) rfl ?_
    exact ⟨A2, B2, C2, a2, b2, c2, rfl, ⟨hP9.inn.alloc _, kOp_alloc (hO9.innC rfl).2 _, (hO9.innC rfl).1⟩, bel_alloc hb9 _⟩
   | true =>
    have hl20' : (20 : Int) ≤ (l.ops.length : Int) := by have h2 : ¬ l.ops.length < 20 := fun h2 => hadd ⟨rfl, h2⟩; omega
    clear hadd
    have hx_ := HX.out.bel HB6.out
    have hr_ := HRS.out.bel HB6.out
    have ho_ := HOC.out.bel HB6.out
    have x0 := hx_.cell 0
    have x1 := hx_.cell 1
    have x2 := hx_.cell 2
    have x3 := hx_.cell 3
    have xf0 := hx_.free 0
    have xf1 := hx_.free 1
    have xf2 := hx_.free 2
    have xf3 := hx_.free 3
    have r0 := hr_.cell 0
    have r1 := hr_.cell 1
    have r2 := hr_.cell 2
    have r3 := hr_.cell 3
    have f0 := hr_.free 0
    have f1 := hr_.free 1
    have f2 := hr_.free 2
    have f3 := hr_.free 3
    have o0 := ho_.cell 0
    have o1 := ho_.cell 1
    have o2 := ho_.cell 2
    have o3 := ho_.cell 3
    have o4 := ho_.cell 4
    have q2 := (V0.out.bel HB6.out).c2
    have xy := hx_.lt
    have ry := hr_.lt
    have oy := ho_.lt
    have vy := (V0.out.bel HB6.out).lt
    simp at x0 x1 x2 x3 r0 r1 r2 r3 o0 o1 o2 o3 o4
    have hlt := HLT.out
    have hne1 : ¬ xb = w.heap.size + 2 := by omega
    have hne2 : ¬ w.heap.size + 2 = xb := by omega
    go_wp2
    have hR9 := hr_.set4 (.slice A2 l.base.slots.length a2) (.slice B2 l.base.vols.length b2) (.slice C2 l.ops.length c2) (.int .i64 l.safe)
    have hP9 := (HPx.out.bel HB6.out).far4 hr_ (.slice A2 l.base.slots.length a2) (.slice B2 l.base.vols.length b2) (.slice C2 l.ops.length c2) (.int .i64 l.safe)
    have hO9 := OwnO.far4 (HOx.out.bel HB6.out) hr_ (.slice A2 l.base.slots.length a2) (.slice B2 l.base.vols.length b2) (.slice C2 l.ops.length c2) (.int .i64 l.safe)
    have hb9 := bel_set4 (HWB.out.tr HB6.out) (show w.heap.size ≤ w.heap.size + 2 by omega) (.slice A2 l.base.slots.length a2) (.slice B2 l.base.vols.length b2) (.slice C2 l.ops.length c2) (.int .i64 l.safe)
    refine bodyPost_ret (results_ct rfl _ _ (w.heap.size + 2) 44 #[.slice A2 l.base.slots.length a2, .slice B2 l.base.vols.length b2, .slice C2 l.ops.length c2, .int .i64 l.safe] (0, 0) _ rfl (hR9.alloc _) Tryz.underlying44 rfl (by kernel_rfl)) rfl ?_
    exact ⟨A2, B2, C2, a2, b2, c2, rfl, ⟨hP9.inn.alloc _, kOp_alloc (hO9.innC rfl).2 _, (hO9.innC rfl).1⟩, bel_alloc hb9 _⟩
theorem specLogAdd_c (h : LogIn w A B C a b c l) (hs : SmallL l) (ho : SmallO o) :
  Calls Tryz.prog 62 #[.agg #[.slice A l.base.slots.length a, .slice B l.base.vols.length b, .slice C l.ops.length c, .int .i64 l.safe], .agg #[.int .i64 o.kind, .string o.name, .string o.dest, .int .i64 o.n, .string o.text]] w (NewLB w (addF l o) (addB l o)) := by
 cases hok : logOk l with
 | false => rw [(addF_bad (.inl hok)).1, (addF_bad (.inl hok)).2]; exact specLogAdd_bad h hs ho (.inl hok)
 | true =>
  cases hop : opOk o with
  | false => rw [(addF_bad (.inr hop)).1, (addF_bad (.inr hop)).2]; exact specLogAdd_bad h hs ho (.inr ⟨hok, hop⟩)
  | true =>
   obtain ⟨q, hq⟩ := logOk_iff.1 hok
   exact specLogAdd_ok h hs ho hq hop
end
end Go.Proofs.YtccllgpaafgjaaaGreat

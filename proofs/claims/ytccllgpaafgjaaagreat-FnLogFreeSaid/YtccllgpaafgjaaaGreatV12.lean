/- Contracts of the program's and the reference's functions, and the plain laws behind them: part 12 of 12. -/
import Derived.Test.YtccllgpaafgjaaaGreatV1
import Derived.Test.YtccllgpaafgjaaaGreatV2
import Derived.Test.YtccllgpaafgjaaaGreatV3
import Derived.Test.YtccllgpaafgjaaaGreatV4
import Derived.Test.YtccllgpaafgjaaaGreatV5
import Derived.Test.YtccllgpaafgjaaaGreatV6
import Derived.Test.YtccllgpaafgjaaaGreatV7
import Derived.Test.YtccllgpaafgjaaaGreatV8
import Derived.Test.YtccllgpaafgjaaaGreatV9
import Derived.Test.YtccllgpaafgjaaaGreatV10
import Derived.Test.YtccllgpaafgjaaaGreatV11
import Derived.Test.YtccllgpaafgjaaaGreatRows
import Derived.JoinedOf
import Derived.KernelRfl
set_option linter.unusedVariables false
set_option linter.unusedSimpArgs false

namespace Go.Proofs.YtccllgpaafgjaaaGreat
open Go.RowKit Go.Proofs.YtccllgpaafgjaaaGreatW.PrintWords Go.Proofs.YtccllgpaafgjaaaGreatW.PrintLast
theorem info_op : (Tryz.prog.info? 27).map (fun i => (i.zero, i.size, i.bytes)) = some (some (.agg #[.int .i64 0, .string ⟨#[]⟩, .string ⟨#[]⟩, .int .i64 0, .string ⟨#[]⟩]), 5, 64) := by kernel_rfl
theorem grown_own {w W W' : World} {rb : Nat} {r : Option Nat} (h : w.grownBy W (some rb)) (hg : W.grownBy W' r) (hr : ∀ k, r = some k → w.heap.size ≤ k) : w.grownBy W' (some rb) :=
  ⟨hg.os.trans h.os, hg.tape.trans h.tape, hg.output.trans h.output, Nat.le_trans h.size hg.size, fun i hi hne => (hg.block i (Nat.lt_of_lt_of_le hi h.size) (fun e => by have := hr i e.symm; omega)).trans (h.block i hi hne)⟩
structure OpsSt (w W : World) (rb k : Nat) (v0 v1 : Value) (p : Pool) (bvs : List Value) (pb n : Nat) (v7 : Value) (xs : List Value) : Prop where
  res : Blk W w.heap.size #[.slice none 0 0, .slice none 0 0] 42
  pool : Blk W pb #[v0, v1] 42
  rd : Rd W rb k
  own : OwnP W w.heap.size v0 v1 p bvs
  row : W.ownsRow w.heap.size 27 5 v7 n xs
  g : w.grownBy W (some rb)
  l2 : w.heap.size < pb
  l3 : rb < w.heap.size
theorem row_rd {w w' : World} {base : Nat} {e : TypeId} {sz n : Nat} {v : Value} {xs : List Value} (h : w.ownsRow base e sz v n xs) (he : e ≠ 164) {rb k : Nat} (hR : Rd w rb k) (hg : w.grownBy w' (some rb)) : w'.ownsRow base e sz v n xs := by
  obtain ⟨A, c, bs, q, hB, _⟩ := hR.h
  exact World.ownsRow.kept h hg (.inr fun e => own_ne h hB he e.symm)
theorem OpsSt.step {w W W' : World} {rb k k' : Nat} {v0 v1 : Value} {p : Pool} {bvs : List Value} {pb n : Nat} {v7 : Value} {xs : List Value} (h : OpsSt w W rb k v0 v1 p bvs pb n v7 xs) (hR : Rd W' rb k') (hg : W.grownBy W' (some rb)) : OpsSt w W' rb k' v0 v1 p bvs pb n v7 xs :=
  ⟨h.res.grown hg (fun e => by injection e with e; have := h.l3; omega), h.pool.grown hg (fun e => by injection e with e; have := h.l3; have := h.l2; omega), hR, h.own.rd h.rd hg, row_rd h.row (by decide) h.rd hg, grown_tr h.g hg, h.l2, h.l3⟩
theorem OpsSt.bel {w W W' : World} {rb k : Nat} {v0 v1 : Value} {p : Pool} {bvs : List Value} {pb n : Nat} {v7 : Value} {xs : List Value} (h : OpsSt w W rb k v0 v1 p bvs pb n v7 xs) (hb : Bel W W') : OpsSt w W' rb k v0 v1 p bvs pb n v7 xs :=
  ⟨h.res.bel hb, h.pool.bel hb, h.rd.bel hb, h.own.bel hb, pw_own_below h.row hb, grown_tr h.g (grown_of_bel hb _), h.l2, h.l3⟩
theorem OpsSt.turn {w W : World} {rb k : Nat} {v0 v1 u0 u1 : Value} {p q : Pool} {bvs bvq : List Value} {pb n : Nat} {v7 : Value} {xs : List Value} (h : OpsSt w W rb k v0 v1 p bvs pb n v7 xs) (hq : OwnP W w.heap.size u0 u1 q bvq) : OpsSt w ((W.setCell ⟨pb, 0, none⟩ u0).setCell ⟨pb, 1, none⟩ u1) rb k u0 u1 q bvq pb n v7 xs := by
  have hp1 := h.pool.set 0 u0 (cs' := #[u0, v1]) rfl
  have hlt : rb < pb := Nat.lt_trans h.l3 h.l2
  exact ⟨(h.res.apart (by have := h.l2; omega) 0 u0).apart (by have := h.l2; omega) 1 u1, hp1.set 1 u1 rfl, (h.rd.set hlt 0 u0).set hlt 1 u1, (hq.far h.pool (by decide) (by decide) (by decide) 0 u0).far hp1 (by decide) (by decide) (by decide) 1 u1,
    own_setCell (p := ⟨pb, 1, none⟩) (own_setCell (p := ⟨pb, 0, none⟩) h.row (own_ne h.row h.pool (by decide)) u0) (own_ne (own_setCell (p := ⟨pb, 0, none⟩) h.row (own_ne h.row h.pool (by decide)) u0) hp1 (by decide)) u1, grown_new (grown_new h.g (Nat.le_of_lt h.l2) 0 u0) (Nat.le_of_lt h.l2) 1 u1, h.l2, h.l3⟩
theorem OpsSt.app {w W W' : World} {rb k : Nat} {v0 v1 : Value} {p : Pool} {bvs : List Value} {pb n m : Nat} {v7 v7' : Value} {xs ys : List Value} (h : OpsSt w W rb k v0 v1 p bvs pb n v7 xs) (hg : W.grownBy W' v7.ownBlock) (hr : W'.ownsRow w.heap.size 27 5 v7' m ys) : OpsSt w W' rb k v0 v1 p bvs pb m v7' ys := by
  have key : ∀ {e : TypeId} {size n : Nat} {v : Value} {xs : List Value}, W.ownsRow w.heap.size e size v n xs → e ≠ 27 → W'.ownsRow w.heap.size e size v n xs := fun h' hne => own_other_type h' h.row hne hg
  exact ⟨h.res.grown hg (own_blk_ne h.row h.res (by decide)), h.pool.grown hg (own_blk_ne h.row h.pool (by decide)), h.rd.grown hg (fun b e => by have := own_base h.row b e; have := h.l3; omega),
    ⟨key h.own.s (by decide), ⟨⟨h.own.v.row.len, key h.own.v.row.row (by decide)⟩, fun m x b hx hb => key (h.own.v.inner m x b hx hb) (by decide), h.own.v.apart⟩⟩, hr, grown_own h.g hg (own_base h.row), h.l2, h.l3⟩
theorem OpsSt.fx {w W : World} {rb k : Nat} {v0 v1 : Value} {p : Pool} {bvs : List Value} {pb n : Nat} {v7 : Value} {xs : List Value} {ob : Nat} {o : Op} (h : OpsSt w W rb k v0 v1 p bvs pb n v7 xs ∧ Blk W ob (opCs o) 27) :
    W.cell? ⟨pb, 0, none⟩ = some v0 ∧ W.cell? ⟨pb, 1, none⟩ = some v1 ∧ W.cell? ⟨ob, 0, none⟩ = some (.int .i64 o.kind) ∧ W.cell? ⟨ob, 1, none⟩ = some (.string o.name) ∧ W.cell? ⟨ob, 2, none⟩ = some (.string o.dest) ∧ W.cell? ⟨ob, 3, none⟩ = some (.int .i64 o.n) ∧ W.cell? ⟨ob, 4, none⟩ = some (.string o.text) :=
  ⟨by rw [h.1.pool.cell]; rfl, by rw [h.1.pool.cell]; rfl, by rw [h.2.cell]; rfl, by rw [h.2.cell]; rfl, by rw [h.2.cell]; rfl, by rw [h.2.cell]; rfl, by rw [h.2.cell]; rfl⟩
structure OpsO (w W : World) (rb k : Nat) (v0 v1 : Value) (p : Pool) (bvs : List Value) (pb n : Nat) (v7 : Value) (xs : List Value) (ob : Nat) (o : Op) : Prop where
  st : OpsSt w W rb k v0 v1 p bvs pb n v7 xs
  op : Blk W ob (opCs o) 27
theorem OpsO.bel {w W W' : World} {rb k : Nat} {v0 v1 : Value} {p : Pool} {bvs : List Value} {pb n : Nat} {v7 : Value} {xs : List Value} {ob : Nat} {o : Op} (h : OpsO w W rb k v0 v1 p bvs pb n v7 xs ob o) (hb : Bel W W') : OpsO w W' rb k v0 v1 p bvs pb n v7 xs ob o := ⟨h.st.bel hb, h.op.bel hb⟩
theorem OpsO.fx {w W : World} {rb k : Nat} {v0 v1 : Value} {p : Pool} {bvs : List Value} {pb n : Nat} {v7 : Value} {xs : List Value} {ob : Nat} {o : Op} (h : OpsO w W rb k v0 v1 p bvs pb n v7 xs ob o) :
    W.cell? ⟨pb, 0, none⟩ = some v0 ∧ W.cell? ⟨pb, 1, none⟩ = some v1 ∧ W.cell? ⟨ob, 0, none⟩ = some (.int .i64 o.kind) ∧ W.cell? ⟨ob, 1, none⟩ = some (.string o.name) ∧ W.cell? ⟨ob, 2, none⟩ = some (.string o.dest) ∧ W.cell? ⟨ob, 3, none⟩ = some (.int .i64 o.n) ∧ W.cell? ⟨ob, 4, none⟩ = some (.string o.text) := OpsSt.fx ⟨h.st, h.op⟩
/-- What l71Ops leaves: a list of changes and a pool that is in form. -/
def OpsOut (rb k d : Nat) (w : World) (e : Ending) (w' : World) : Prop := ∃ (v7 v0 v1 : Value) (p : Pool) (bvs : List Value), e = .returned (.tuple #[v7, .agg #[v0, v1]]) ∧ PoolP p ∧ OwnP w' w.heap.size v0 v1 p bvs ∧ Rd w' rb (k + d) ∧ w.grownBy w' (some rb)
/-- The changes told as well. -/
def OpsOut2 (rb k d n : Nat) (w : World) (e : Ending) (w' : World) : Prop := ∃ (v7 v0 v1 : Value) (p : Pool) (bvs : List Value) (os : List Op), e = .returned (.tuple #[v7, .agg #[v0, v1]]) ∧ (PoolP p ∧ runP newP os = some p ∧ os.length ≤ n ∧ ∀ x ∈ os, SmallO x) ∧ OwnO w' w.heap.size v7 os ∧ OwnP w' w.heap.size v0 v1 p bvs ∧ Rd w' rb (k + d) ∧ w.grownBy w' (some rb)
structure OpsX (os : List Op) (m : Nat) (xs : List Value) (p : Pool) : Prop where
  len : os.length = m
  xs : xs = os.flatMap encO
  op : ∀ x ∈ os, SmallO x
  run : runP newP os = some p
theorem OpsX.snoc {os : List Op} {m : Nat} {xs : List Value} {p q : Pool} {o : Op} (h : OpsX os m xs p) (ho : SmallO o) (hok : opOk o = true) (hq : (opF p o).getD p = q) (hs : (opF p o).isSome = true) : OpsX (os ++ [o]) (m + 1) (xs ++ [.int .i64 o.kind, .string o.name, .string o.dest, .int .i64 o.n, .string o.text]) q := by
  obtain ⟨q', hq'⟩ := Option.isSome_iff_exists.1 hs
  rw [hq'] at hq
  obtain rfl : q' = q := hq
  refine ⟨by rw [List.length_append, h.len]; rfl, by rw [h.xs, List.flatMap_append]; rfl, fun x hx => ?_, ?_⟩
  · rcases List.mem_append.1 hx with hx | hx
    · exact h.op x hx
    · rw [List.mem_singleton.1 hx]; exact ho
  · rw [runP_snoc, h.run]
    show opR p o = _
    unfold opR
    rw [if_pos hok, hq']
set_option maxHeartbeats 16000000 in
set_option maxRecDepth 10000 in
theorem ops2_c {w : World} {rb k : Nat} (h : Rd w rb k) (hk : k ≤ 1099511000000) (n : Nat) (hn : n ≤ 100) :
    Calls Tryz.prog 161 #[.pointer (some ⟨rb, 0, none⟩), .int .i64 (n : Int)] w (OpsOut2 rb k 20000 n w) := by
  have H := Lib.hid h
  have hlt := h.lt
  clear h
  go_enter Tryz.func161, Tryz.ntmps161
  go_wp2_with fail
  refine (specPoolNew_c _).mono ?_
  rintro e w1 ⟨v0, v1, bvs, rfl, ho, hb1⟩
  have hb1' : Bel w w1 := (bel_alloc (Below.refl _ _) _ : Bel w (w.alloc (.cells #[.slice none 0 0, .slice none 0 0] 42))).tr hb1
  have hr1 : Blk w1 w.heap.size #[.slice none 0 0, .slice none 0 0] 42 := (Blk.new w _ _).bel hb1
  obtain ⟨A0, A1, c0, c1, rfl, rfl, hpi⟩ := ho.reads
  clear hpi
  have HS1 := Lib.hid (And.intro hb1' (And.intro hr1 ho))
  clear ho hb1 hb1' hr1
  go_wp2
  have hst : OpsSt w ((w1.alloc (.cells #[.slice A0 newP.slots.length c0, .slice A1 newP.vols.length c1] 42)).alloc (.cells #[] 27)) rb k (.slice A0 newP.slots.length c0) (.slice A1 newP.vols.length c1) newP bvs w1.heap.size 0 (.slice (some ⟨w1.heap.size + 1, 0, none⟩) 0 0) [] :=
    ⟨(HS1.out.2.1.alloc _).alloc _, (Blk.new w1 _ _).alloc _, H.out.bel (bel_alloc (bel_alloc HS1.out.1 _) _), (OwnP.bel (OwnP.lower HS1.out.2.2 (by simp)) (bel_alloc (bel_alloc (Below.refl _ _) _) _)), (show (w1.alloc (.cells #[.slice A0 newP.slots.length c0, .slice A1 newP.vols.length c1] 42)).heap.size = w1.heap.size + 1 by simp) ▸ own_empty _ w.heap.size 27 5 (by have := HS1.out.1.size; simp; omega), grown_of_bel (bel_alloc (bel_alloc HS1.out.1 _) _) _, HS1.out.2.1.lt, hlt⟩
  have HST := Lib.hid hst
  clear hst
  generalize ((w1.alloc (.cells #[.slice A0 newP.slots.length c0, .slice A1 newP.vols.length c1] 42)).alloc (.cells #[] 27)) = W4 at HST ⊢
  obtain ⟨pb, hpb⟩ : ∃ pb, w1.heap.size = pb := ⟨_, rfl⟩
  rw [hpb] at HST ⊢
  clear hpb HS1
  go_loopg [7, 8] n (fun gg v7 v8 W => ∃ (j m : Nat) (v0 v1 : Value) (p : Pool) (bvs : List Value) (xs : List Value) (os : List Op), gg + j = n ∧ v8 = .int .i64 j ∧ m ≤ j ∧ Hid (OpsX os m xs p) ∧ Hid (PoolP p) ∧ Hid (OpsSt w W rb (k + 200 * j) v0 v1 p bvs pb m v7 xs))
  case atStart => exact ⟨0, 0, _, _, newP, bvs, [], [], by omega, rfl, Nat.le_refl _, ⟨rfl, rfl, by simp, rfl⟩, newP_ok, HST.out⟩
  case round =>
    clear HST bvs
    obtain ⟨j, m, v0, v1, p, bvs, xs, os, hj, rfl, hmj, HOS, HP, HST⟩ := hrel
    obtain ⟨Y0, Y1, d0, d1, rfl, rfl, hpi⟩ := HST.out.own.reads
    obtain ⟨A7, c7, rfl, hc7⟩ := own_cap HST.out.row
    clear hpi
    have q0 := HST.out.pool.cell 0
    have q1 := HST.out.pool.cell 1
    simp at q0 q1
    by_cases hjn : j < n
    · have hjn' : (j : Int) < (n : Int) := by omega
      go_wp2_with fail
      refine (fits_c HST.out.rd (by omega) HST.out.own HP.out).mono ?_
      rintro e w2 ⟨v, rfl, ⟨o, rfl, hoi⟩, hR2, hg2⟩
      have hnm : SmallO o := hoi.1
      have HS2 := Lib.hid (HST.out.step hR2 hg2)
      clear q0 q1 hR2 hg2 hoi
      unfold opV
      go_wp2
      have HS3 := Lib.hid (show OpsO w (w2.alloc (.cells #[.int .i64 o.kind, .string o.name, .string o.dest, .int .i64 o.n, .string o.text] 27)) rb (k + 200 * j + 200) (.slice Y0 p.slots.length d0) (.slice Y1 p.vols.length d1) p bvs pb m (.slice A7 m c7) xs w2.heap.size o from ⟨HS2.out.bel (bel_alloc (Below.refl _ _) _), Blk.new w2 _ _⟩)
      generalize w2.alloc (.cells #[.int .i64 o.kind, .string o.name, .string o.dest, .int .i64 o.n, .string o.text] 27) = W3 at HS3 ⊢
      have hobp := HS2.out.pool.lt
      obtain ⟨ob, hob⟩ : ∃ ob, w2.heap.size = ob := ⟨_, rfl⟩
      rw [hob] at HS3 hobp ⊢
      clear hob HS2
      have BB := Lib.hid (HS3.out.bel (Below.refl _ _).drew)
      have D0 := Lib.hid (show Bel W3.drew W3.drew from Below.refl _ _)
      have hfx := Lib.hid (fun W => fun hb : Bel W3.drew W => (BB.out.bel hb).fx)
      have PI := Lib.hid (show PoolIn W3.drew Y0 Y1 d0 d1 p by obtain ⟨a0, a1, k0, k1, e0, e1, hh⟩ := BB.out.st.own.reads; have e0 := slice_eq e0; have e1 := slice_eq e1; obtain ⟨rfl, -, rfl⟩ := e0; obtain ⟨rfl, -, rfl⟩ := e1; exact hh)
      obtain ⟨q, hq⟩ : ∃ q, (opF p o).getD p = q := ⟨_, rfl⟩
      obtain ⟨ok, hokk⟩ : ∃ ok, (opF p o).isSome = ok := ⟨_, rfl⟩
      have hdo := Lib.hid (fun (W : World) (v0 v1 : Value) (bvs : List Value) (h : OwnP W W3.drew.heap.size v0 v1 p bvs) (hb : W3.drew.heap.size ≤ W.heap.size) => l12Do_c (o := o) h HP.out hb hnm)
      unfold TurnsP at hdo
      rw [hq, hokk] at hdo
      have HQ := Lib.hid (And.intro hq hokk)
      clear hq hokk
      obtain ⟨s0, s1, s2, s3, s4, s5, s6⟩ := hfx.out _ D0.out
      have hcp := Lib.hid (fun (W : World) (h : PoolIn W Y0 Y1 d0 d1 p) => l11Copy_c h HP.out.small)
      refine start_ (n := 10) (S := fun w' => w'.cell? ⟨pb, 0, none⟩ = some (.slice Y0 p.slots.length d0) ∧ w'.cell? ⟨pb, 1, none⟩ = some (.slice Y1 p.vols.length d1) ∧ w'.cell? ⟨ob, 0, none⟩ = some (.int .i64 o.kind) ∧ w'.cell? ⟨ob, 1, none⟩ = some (.string o.name) ∧ w'.cell? ⟨ob, 2, none⟩ = some (.string o.dest) ∧ w'.cell? ⟨ob, 3, none⟩ = some (.int .i64 o.n) ∧ w'.cell? ⟨ob, 4, none⟩ = some (.string o.text)) (ds := [8]) #[bF, bF, bF, bF, bF, bF, bF, bF, bF, bF] (by kernel_rfl) rfl rfl ⟨s0, s1, s2, s3, s4, s5, s6⟩ (fun hHeld => ?_)
      refine take_ (i := 0) (N := some 23) (v := ?_) (a' := ?_) #[bT, bF, bF, bF, bF, bF, bF, bF, bF, bF] rfl rfl (by kernel_rfl) (fun _ _ _ h => h) (Or.inl ⟨by rfl, ?_⟩) hHeld ?_ ?_
      rotate_left
      · rintro w' ⟨s0, s1, s2, s3, s4, s5, s6⟩
        go_simp
        with_reducible rfl
      rotate_left
      · simp only [Act.put, lA, lB, lC, i64_w, i32_w]
        rfl
      refine take_ (i := 2) (N := some 25) (v := ?_) (a' := ?_) #[bT, bF, bT, bF, bF, bF, bF, bF, bF, bF] rfl rfl (by kernel_rfl) (fun _ _ _ h => h) (Or.inl ⟨by rfl, ?_⟩) hHeld ?_ ?_
      rotate_left
      · rintro w' ⟨s0, s1, s2, s3, s4, s5, s6⟩
        go_simp
        with_reducible rfl
      rotate_left
      · simp only [Act.put, lA, lB, lC, i64_w, i32_w]
        rfl
      refine join_ (σ := Value × Value × Option Addr × Nat × Option Addr × Nat × List Value × Nat) 2 #[bT, bT, bT, bT, bT, bT, bT, bT, bF, bF] (fun s => [(24, .agg #[s.1, s.2.1]), (26, .tuple #[.agg #[.slice s.2.2.1 q.slots.length s.2.2.2.1, .slice s.2.2.2.2.1 q.vols.length s.2.2.2.2.2.1], .bool ok]), (22, .tuple #[.agg #[.slice s.2.2.1 q.slots.length s.2.2.2.1, .slice s.2.2.2.2.1 q.vols.length s.2.2.2.2.2.1], .bool ok]), (27, .agg #[.slice s.2.2.1 q.slots.length s.2.2.2.1, .slice s.2.2.2.2.1 q.vols.length s.2.2.2.2.2.1]), (28, .bool ok), (10, .pointer (some ⟨s.2.2.2.2.2.2.2, 0, none⟩))]) (fun s w' => (w'.cell? ⟨pb, 0, none⟩ = some (.slice Y0 p.slots.length d0) ∧ w'.cell? ⟨pb, 1, none⟩ = some (.slice Y1 p.vols.length d1) ∧ w'.cell? ⟨ob, 0, none⟩ = some (.int .i64 o.kind) ∧ w'.cell? ⟨ob, 1, none⟩ = some (.string o.name) ∧ w'.cell? ⟨ob, 2, none⟩ = some (.string o.dest) ∧ w'.cell? ⟨ob, 3, none⟩ = some (.int .i64 o.n) ∧ w'.cell? ⟨ob, 4, none⟩ = some (.string o.text)) ∧ OwnP w' W3.drew.heap.size (.slice s.2.2.1 q.slots.length s.2.2.2.1) (.slice s.2.2.2.2.1 q.vols.length s.2.2.2.2.2.1) q s.2.2.2.2.2.2.1 ∧ Blk w' s.2.2.2.2.2.2.2 #[.slice none 0 0, .slice none 0 0] 42 ∧ W3.drew.heap.size ≤ s.2.2.2.2.2.2.2 ∧ Bel W3.drew w') ?_ ?_
      rotate_left
      · intro hCont
        refine two_ (i := 1) (j := 7) (Ni := some 24) (Nj := some 10) #[bT, bT, bT, bF, bF, bF, bF, bF, bF, bF] #[bT, bF, bT, bF, bF, bF, bF, bT, bF, bF] rfl rfl rfl rfl (by kernel_rfl) (by decide) (by decide) (fun K hK => ?_) (fun K hK => ?_)
        · skip
          refine goes_ Tryz.func105 (by kernel_rfl) rfl #[.agg #[.slice Y0 p.slots.length d0, .slice Y1 p.vols.length d1]] (by rfl) rfl rfl (by simp only [List.map_toArray, List.map_cons, List.map_nil]; rfl) ?_
          with_reducible refine (hcp.out _ (PI.out.bel D0.out)).mono ?_
          rintro e w1_ ⟨va, vb, bva, rfl, ho, X1⟩
          have D1 := Lib.hid (Bel.tr D0.out X1)
          have P1 : Hid (OwnP w1_ W3.drew.heap.size va vb p bva) := Lib.hid (ho.lower D0.out.size)
          clear ho
          refine ⟨_, rfl, ?_⟩
          refine hK.out _ _ ⟨(hfx.out _ D1.out).1, (hfx.out _ D1.out).2.1, (hfx.out _ D1.out).2.2.1, (hfx.out _ D1.out).2.2.2.1, (hfx.out _ D1.out).2.2.2.2.1, (hfx.out _ D1.out).2.2.2.2.2.1, (hfx.out _ D1.out).2.2.2.2.2.2⟩ (fun hHeld => ?_)
          clear hK K
          refine norm_ (a' := ?_) ?_ ?_
          rotate_left
          · show Act.put _ (some 24) _ = _
            simp only [Act.put, lA, lB, lC, i64_w, i32_w]
            rfl
          refine two_ (i := 3) (j := 7) (Ni := some 26) (Nj := some 10) #[bT, bT, bT, bT, bF, bF, bF, bF, bF, bF] #[bT, bT, bT, bF, bF, bF, bF, bT, bF, bF] rfl rfl rfl rfl (by kernel_rfl) (by decide) (by decide) (fun K hK => ?_) (fun K hK => ?_)
          · skip
            refine goes_ Tryz.func125 (by kernel_rfl) rfl #[.agg #[va, vb], .agg #[.int .i64 o.kind, .string o.name, .string o.dest, .int .i64 o.n, .string o.text]] (by rfl) rfl rfl (by simp only [List.map_toArray, List.map_cons, List.map_nil]; rfl) ?_
            with_reducible refine (hdo.out _ va vb bva P1.out D1.out.size).mono ?_
            rintro e w2_ ⟨vc, vd, bvc, rfl, ho, X2⟩
            have D2 : Hid (Bel W3.drew w2_) := Lib.hid (D1.out.trans X2.b)
            have Q2 := Lib.hid ho
            obtain ⟨A2, A3, k2, k3, rfl, rfl, hpi⟩ := ho.reads
            clear ho hpi
            refine ⟨_, rfl, ?_⟩
            refine hK.out _ _ ⟨(hfx.out _ D2.out).1, (hfx.out _ D2.out).2.1, (hfx.out _ D2.out).2.2.1, (hfx.out _ D2.out).2.2.2.1, (hfx.out _ D2.out).2.2.2.2.1, (hfx.out _ D2.out).2.2.2.2.2.1, (hfx.out _ D2.out).2.2.2.2.2.2⟩ (fun hHeld => ?_)
            clear hK K
            refine norm_ (a' := ?_) ?_ ?_
            rotate_left
            · show Act.put _ (some 26) _ = _
              simp only [Act.put, lA, lB, lC, i64_w, i32_w]
              rfl
            refine pure_ (i := 4) (N := some 22) (v := ?_) (a' := ?_) #[bT, bT, bT, bT, bT, bF, bF, bF, bF, bF] rfl rfl (by kernel_rfl) (fun _ _ _ h => h) (Or.inl ⟨by rfl, ?_⟩) ?_ ?_
            rotate_left
            · intro w'
              go_simp
              with_reducible rfl
            rotate_left
            · simp only [Act.put, lA, lB, lC, i64_w, i32_w]
              rfl
            refine pure_ (i := 5) (N := some 27) (v := ?_) (a' := ?_) #[bT, bT, bT, bT, bT, bT, bF, bF, bF, bF] rfl rfl (by kernel_rfl) (fun _ _ _ h => h) (Or.inl ⟨by rfl, ?_⟩) ?_ ?_
            rotate_left
            · intro w'
              go_simp
              with_reducible rfl
            rotate_left
            · simp only [Act.put, lA, lB, lC, i64_w, i32_w]
              rfl
            refine pure_ (i := 6) (N := some 28) (v := ?_) (a' := ?_) #[bT, bT, bT, bT, bT, bT, bT, bF, bF, bF] rfl rfl (by kernel_rfl) (fun _ _ _ h => h) (Or.inl ⟨by rfl, ?_⟩) ?_ ?_
            rotate_left
            · intro w'
              go_simp
              with_reducible rfl
            rotate_left
            · simp only [Act.put, lA, lB, lC, i64_w, i32_w]
              rfl
            refine one_ (i := 7) (N := some 10) #[bT, bT, bT, bT, bT, bT, bT, bT, bF, bF] rfl rfl (by kernel_rfl) (by decide) (fun K hK => ?_)
            refine value_ (w1 := ?_) (v := ?_) (by rfl) rfl ?_ ?_
            rotate_left 2
            · go_simp
              constructor
              · rfl
              · rfl
            have D3 : Hid (Bel W3.drew (w2_.alloc (.cells #[.slice none 0 0, .slice none 0 0] 42))) := Lib.hid (bel_alloc D2.out (.cells #[.slice none 0 0, .slice none 0 0] 42))
            have Q3 := Lib.hid (OwnP.bel Q2.out (bel_alloc (Below.refl _ _) (.cells #[.slice none 0 0, .slice none 0 0] 42)))
            have O3 : Hid (Blk (w2_.alloc (.cells #[.slice none 0 0, .slice none 0 0] 42)) w2_.heap.size #[.slice none 0 0, .slice none 0 0] 42) := Lib.hid (Blk.new w2_ #[.slice none 0 0, .slice none 0 0] 42)
            have L3 := D2.out.size
            refine hK.out _ _ ⟨(hfx.out _ D3.out).1, (hfx.out _ D3.out).2.1, (hfx.out _ D3.out).2.2.1, (hfx.out _ D3.out).2.2.2.1, (hfx.out _ D3.out).2.2.2.2.1, (hfx.out _ D3.out).2.2.2.2.2.1, (hfx.out _ D3.out).2.2.2.2.2.2⟩ (fun hHeld => ?_)
            clear hK K
            refine norm_ (a' := ?_) ?_ ?_
            rotate_left
            · show Act.put _ (some 10) _ = _
              simp only [Act.put, lA, lB, lC, i64_w, i32_w]
              rfl
            exact norm_ (by simp only [putAll, Act.put, lA, lB, lC]) (hCont (va, vb, A2, k2, A3, k3, bvc, w2_.heap.size) _ ⟨hHeld, Q3.out, O3.out, L3, D3.out⟩)
          · skip
            refine value_ (w1 := ?_) (v := ?_) (by rfl) rfl ?_ ?_
            rotate_left 2
            · go_simp
              constructor
              · rfl
              · rfl
            have D2 : Hid (Bel W3.drew (w1_.alloc (.cells #[.slice none 0 0, .slice none 0 0] 42))) := Lib.hid (bel_alloc D1.out (.cells #[.slice none 0 0, .slice none 0 0] 42))
            have P2 := Lib.hid (OwnP.bel P1.out (bel_alloc (Below.refl _ _) (.cells #[.slice none 0 0, .slice none 0 0] 42)))
            have O2 : Hid (Blk (w1_.alloc (.cells #[.slice none 0 0, .slice none 0 0] 42)) w1_.heap.size #[.slice none 0 0, .slice none 0 0] 42) := Lib.hid (Blk.new w1_ #[.slice none 0 0, .slice none 0 0] 42)
            have L2 := D1.out.size
            refine hK.out _ _ ⟨(hfx.out _ D2.out).1, (hfx.out _ D2.out).2.1, (hfx.out _ D2.out).2.2.1, (hfx.out _ D2.out).2.2.2.1, (hfx.out _ D2.out).2.2.2.2.1, (hfx.out _ D2.out).2.2.2.2.2.1, (hfx.out _ D2.out).2.2.2.2.2.2⟩ (fun hHeld => ?_)
            clear hK K
            refine norm_ (a' := ?_) ?_ ?_
            rotate_left
            · show Act.put _ (some 10) _ = _
              simp only [Act.put, lA, lB, lC, i64_w, i32_w]
              rfl
            refine one_ (i := 3) (N := some 26) #[bT, bT, bT, bT, bF, bF, bF, bT, bF, bF] rfl rfl (by kernel_rfl) (by decide) (fun K hK => ?_)
            refine goes_ Tryz.func125 (by kernel_rfl) rfl #[.agg #[va, vb], .agg #[.int .i64 o.kind, .string o.name, .string o.dest, .int .i64 o.n, .string o.text]] (by rfl) rfl rfl (by simp only [List.map_toArray, List.map_cons, List.map_nil]; rfl) ?_
            with_reducible refine (hdo.out _ va vb bva P2.out D2.out.size).mono ?_
            rintro e w3_ ⟨vc, vd, bvc, rfl, ho, X3⟩
            have D3 : Hid (Bel W3.drew w3_) := Lib.hid (D2.out.trans X3.b)
            have O3 := Lib.hid (X3.k _ _ _ (by decide) (by decide) (by decide) O2.out)
            have Q3 := Lib.hid ho
            obtain ⟨A2, A3, k2, k3, rfl, rfl, hpi⟩ := ho.reads
            clear ho hpi
            refine ⟨_, rfl, ?_⟩
            refine hK.out _ _ ⟨(hfx.out _ D3.out).1, (hfx.out _ D3.out).2.1, (hfx.out _ D3.out).2.2.1, (hfx.out _ D3.out).2.2.2.1, (hfx.out _ D3.out).2.2.2.2.1, (hfx.out _ D3.out).2.2.2.2.2.1, (hfx.out _ D3.out).2.2.2.2.2.2⟩ (fun hHeld => ?_)
            clear hK K
            refine norm_ (a' := ?_) ?_ ?_
            rotate_left
            · show Act.put _ (some 26) _ = _
              simp only [Act.put, lA, lB, lC, i64_w, i32_w]
              rfl
            refine pure_ (i := 4) (N := some 22) (v := ?_) (a' := ?_) #[bT, bT, bT, bT, bT, bF, bF, bT, bF, bF] rfl rfl (by kernel_rfl) (fun _ _ _ h => h) (Or.inl ⟨by rfl, ?_⟩) ?_ ?_
            rotate_left
            · intro w'
              go_simp
              with_reducible rfl
            rotate_left
            · simp only [Act.put, lA, lB, lC, i64_w, i32_w]
              rfl
            refine pure_ (i := 5) (N := some 27) (v := ?_) (a' := ?_) #[bT, bT, bT, bT, bT, bT, bF, bT, bF, bF] rfl rfl (by kernel_rfl) (fun _ _ _ h => h) (Or.inl ⟨by rfl, ?_⟩) ?_ ?_
            rotate_left
            · intro w'
              go_simp
              with_reducible rfl
            rotate_left
            · simp only [Act.put, lA, lB, lC, i64_w, i32_w]
              rfl
            refine pure_ (i := 6) (N := some 28) (v := ?_) (a' := ?_) #[bT, bT, bT, bT, bT, bT, bT, bT, bF, bF] rfl rfl (by kernel_rfl) (fun _ _ _ h => h) (Or.inl ⟨by rfl, ?_⟩) ?_ ?_
            rotate_left
            · intro w'
              go_simp
              with_reducible rfl
            rotate_left
            · simp only [Act.put, lA, lB, lC, i64_w, i32_w]
              rfl
            exact norm_ (by simp only [putAll, Act.put, lA, lB, lC]) (hCont (va, vb, A2, k2, A3, k3, bvc, w1_.heap.size) _ ⟨hHeld, Q3.out, O3.out, L2, D3.out⟩)
        · skip
          refine value_ (w1 := ?_) (v := ?_) (by rfl) rfl ?_ ?_
          rotate_left 2
          · go_simp
            constructor
            · rfl
            · rfl
          have D1 : Hid (Bel W3.drew (W3.alloc (.cells #[.slice none 0 0, .slice none 0 0] 42)).drew) := Lib.hid (bel_alloc D0.out (.cells #[.slice none 0 0, .slice none 0 0] 42))
          have O1 : Hid (Blk (W3.alloc (.cells #[.slice none 0 0, .slice none 0 0] 42)).drew W3.drew.heap.size #[.slice none 0 0, .slice none 0 0] 42) := Lib.hid (Blk.new W3.drew #[.slice none 0 0, .slice none 0 0] 42)
          have L1 := D0.out.size
          refine hK.out _ _ ⟨(hfx.out _ D1.out).1, (hfx.out _ D1.out).2.1, (hfx.out _ D1.out).2.2.1, (hfx.out _ D1.out).2.2.2.1, (hfx.out _ D1.out).2.2.2.2.1, (hfx.out _ D1.out).2.2.2.2.2.1, (hfx.out _ D1.out).2.2.2.2.2.2⟩ (fun hHeld => ?_)
          clear hK K
          refine norm_ (a' := ?_) ?_ ?_
          rotate_left
          · show Act.put _ (some 10) _ = _
            simp only [Act.put, lA, lB, lC, i64_w, i32_w]
            rfl
          refine one_ (i := 1) (N := some 24) #[bT, bT, bT, bF, bF, bF, bF, bT, bF, bF] rfl rfl (by kernel_rfl) (by decide) (fun K hK => ?_)
          refine goes_ Tryz.func105 (by kernel_rfl) rfl #[.agg #[.slice Y0 p.slots.length d0, .slice Y1 p.vols.length d1]] (by rfl) rfl rfl (by simp only [List.map_toArray, List.map_cons, List.map_nil]; rfl) ?_
          with_reducible refine (hcp.out _ (PI.out.bel D1.out)).mono ?_
          rintro e w2_ ⟨va, vb, bva, rfl, ho, X2⟩
          have D2 := Lib.hid (Bel.tr D1.out X2)
          have O2 := Lib.hid (Blk.bel O1.out X2)
          have P2 : Hid (OwnP w2_ W3.drew.heap.size va vb p bva) := Lib.hid (ho.lower D1.out.size)
          clear ho
          refine ⟨_, rfl, ?_⟩
          refine hK.out _ _ ⟨(hfx.out _ D2.out).1, (hfx.out _ D2.out).2.1, (hfx.out _ D2.out).2.2.1, (hfx.out _ D2.out).2.2.2.1, (hfx.out _ D2.out).2.2.2.2.1, (hfx.out _ D2.out).2.2.2.2.2.1, (hfx.out _ D2.out).2.2.2.2.2.2⟩ (fun hHeld => ?_)
          clear hK K
          refine norm_ (a' := ?_) ?_ ?_
          rotate_left
          · show Act.put _ (some 24) _ = _
            simp only [Act.put, lA, lB, lC, i64_w, i32_w]
            rfl
          refine one_ (i := 3) (N := some 26) #[bT, bT, bT, bT, bF, bF, bF, bT, bF, bF] rfl rfl (by kernel_rfl) (by decide) (fun K hK => ?_)
          refine goes_ Tryz.func125 (by kernel_rfl) rfl #[.agg #[va, vb], .agg #[.int .i64 o.kind, .string o.name, .string o.dest, .int .i64 o.n, .string o.text]] (by rfl) rfl rfl (by simp only [List.map_toArray, List.map_cons, List.map_nil]; rfl) ?_
          with_reducible refine (hdo.out _ va vb bva P2.out D2.out.size).mono ?_
          rintro e w3_ ⟨vc, vd, bvc, rfl, ho, X3⟩
          have D3 : Hid (Bel W3.drew w3_) := Lib.hid (D2.out.trans X3.b)
          have O3 := Lib.hid (X3.k _ _ _ (by decide) (by decide) (by decide) O2.out)
          have Q3 := Lib.hid ho
          obtain ⟨A2, A3, k2, k3, rfl, rfl, hpi⟩ := ho.reads
          clear ho hpi
          refine ⟨_, rfl, ?_⟩
          refine hK.out _ _ ⟨(hfx.out _ D3.out).1, (hfx.out _ D3.out).2.1, (hfx.out _ D3.out).2.2.1, (hfx.out _ D3.out).2.2.2.1, (hfx.out _ D3.out).2.2.2.2.1, (hfx.out _ D3.out).2.2.2.2.2.1, (hfx.out _ D3.out).2.2.2.2.2.2⟩ (fun hHeld => ?_)
          clear hK K
          refine norm_ (a' := ?_) ?_ ?_
          rotate_left
          · show Act.put _ (some 26) _ = _
            simp only [Act.put, lA, lB, lC, i64_w, i32_w]
            rfl
          refine pure_ (i := 4) (N := some 22) (v := ?_) (a' := ?_) #[bT, bT, bT, bT, bT, bF, bF, bT, bF, bF] rfl rfl (by kernel_rfl) (fun _ _ _ h => h) (Or.inl ⟨by rfl, ?_⟩) ?_ ?_
          rotate_left
          · intro w'
            go_simp
            with_reducible rfl
          rotate_left
          · simp only [Act.put, lA, lB, lC, i64_w, i32_w]
            rfl
          refine pure_ (i := 5) (N := some 27) (v := ?_) (a' := ?_) #[bT, bT, bT, bT, bT, bT, bF, bT, bF, bF] rfl rfl (by kernel_rfl) (fun _ _ _ h => h) (Or.inl ⟨by rfl, ?_⟩) ?_ ?_
          rotate_left
          · intro w'
            go_simp
            with_reducible rfl
          rotate_left
          · simp only [Act.put, lA, lB, lC, i64_w, i32_w]
            rfl
          refine pure_ (i := 6) (N := some 28) (v := ?_) (a' := ?_) #[bT, bT, bT, bT, bT, bT, bT, bT, bF, bF] rfl rfl (by kernel_rfl) (fun _ _ _ h => h) (Or.inl ⟨by rfl, ?_⟩) ?_ ?_
          rotate_left
          · intro w'
            go_simp
            with_reducible rfl
          rotate_left
          · simp only [Act.put, lA, lB, lC, i64_w, i32_w]
            rfl
          exact norm_ (by simp only [putAll, Act.put, lA, lB, lC]) (hCont (va, vb, A2, k2, A3, k3, bvc, W3.heap.size) _ ⟨hHeld, Q3.out, O3.out, L1, D3.out⟩)
      rintro ⟨va, vb, A2, k2, A3, k3, bvc, nb⟩ w3 ⟨hHeld, hQ, hO, hL, hD⟩
      dsimp only at hQ hO hL
      have r0 := hO.cell 0
      have r1 := hO.cell 1
      have f0 := hO.free 0
      have f1 := hO.free 1
      simp at r0 r1
      refine norm_ (a' := ?_) ?_ ?_
      rotate_left
      · simp only [putAll, Act.put, lA, lB, lC]
        rfl
      refine last_ (i := 8) (N := none) #[bT, bT, bT, bT, bT, bT, bT, bT, bT, bF] rfl rfl (by kernel_rfl) (by decide) (fun K hK => ?_)
      refine skip_ (w1 := ?_) (by rfl) rfl ?_ ?_
      rotate_left
      · go_simp
        rfl
      refine hK.out _ _ ?_
      clear hK K
      refine pure_ (i := 9) (N := some 11) (v := ?_) (a' := ?_) #[bT, bT, bT, bT, bT, bT, bT, bT, bT, bT] rfl rfl (by kernel_rfl) (fun _ _ _ h => h) (Or.inl ⟨by rfl, ?_⟩) ?_ ?_
      rotate_left
      · intro w'
        go_simp
        with_reducible rfl
      rotate_left
      · simp only [Act.put, lA, lB, lC, i64_w, i32_w]
        rfl
      refine done_ (by kernel_rfl) ?_
      have hO4 := hO.set 0 (.slice A2 q.slots.length k2) (cs' := #[.slice A2 q.slots.length k2, .slice none 0 0]) rfl
      have HO5 := Lib.hid (hO4.set 1 (.slice A3 q.vols.length k3) (cs' := #[.slice A2 q.slots.length k2, .slice A3 q.vols.length k3]) rfl)
      have HQ5 := Lib.hid ((hQ.far hO (by decide) (by decide) (by decide) 0 (.slice A2 q.slots.length k2)).far hO4 (by decide) (by decide) (by decide) 1 (.slice A3 q.vols.length k3))
      have HS8 := Lib.hid (BB.out.bel (bel_set (bel_set hD hL 0 (.slice A2 q.slots.length k2)) hL 1 (.slice A3 q.vols.length k3)))
      have HQP := Lib.hid (show PoolP q from HQ.out.1 ▸ opF_getD HP.out)
      have hbase : w.heap.size ≤ W3.drew.heap.size := BB.out.st.g.size
      have HQ6 := Lib.hid (HQ5.out.lower hbase)
      clear hQ hO hO4 hL hD f0 f1 r0 r1 hHeld s0 s1 s2 s3 s4 s5 s6 hcp hdo hfx D0 PI BB HQ5 hbase
      generalize ((w3.setCell ⟨nb, 0, none⟩ (.slice A2 q.slots.length k2)).setCell ⟨nb, 1, none⟩ (.slice A3 q.vols.length k3)) = W8 at HS8 HO5 HQ6 ⊢
      have y0 := HS8.out.fx
      obtain ⟨s0, s1, s2, s3, s4, s5, s6⟩ := y0
      go_wp2_with fail
      refine (specOpOk_c o hnm _).mono ?_
      rintro e w9 ⟨rfl, hb9⟩
      have HS9 := Lib.hid (HS8.out.bel hb9)
      have HO9 := Lib.hid (HO5.out.bel hb9)
      have HQ9 := Lib.hid (HQ6.out.bel hb9)
      clear s0 s1 s2 s3 s4 s5 s6 HS8 HO5 HQ6 hb9
      cases hok : opOk o with
      | false =>
        go_wp2
        go_roundg (n - (j + 1))
        case measure => omega
        case rel => exact ⟨j + 1, m, _, _, p, bvs, xs, os, by omega, int_eq (by omega), by omega, HOS.out, HP.out, ⟨HS9.out.st.res, HS9.out.st.pool, HS9.out.st.rd.more (by omega), HS9.out.st.own, HS9.out.st.row, HS9.out.st.g, HS9.out.st.l2, HS9.out.st.l3⟩⟩
      | true =>
        cases ok with
        | false =>
          go_wp2
          go_roundg (n - (j + 1))
          case measure => omega
          case rel => exact ⟨j + 1, m, _, _, p, bvs, xs, os, by omega, int_eq (by omega), by omega, HOS.out, HP.out, ⟨HS9.out.st.res, HS9.out.st.pool, HS9.out.st.rd.more (by omega), HS9.out.st.own, HS9.out.st.row, HS9.out.st.g, HS9.out.st.l2, HS9.out.st.l3⟩⟩
        | true =>
          obtain ⟨s0, s1, s2, s3, s4, s5, s6⟩ := HS9.out.fx
          have f0 := HS9.out.st.pool.free 0
          have f1 := HS9.out.st.pool.free 1
          have hz9 := HS9.out.st.pool.lt
          have t0 := HO9.out.cell 0
          have t1 := HO9.out.cell 1
          simp at t0 t1
          have HT := Lib.hid (HS9.out.st.turn HQ9.out)
          have HX := Lib.hid (HOS.out.snoc hnm hok HQ.out.1 HQ.out.2)
          have hsz := HT.out.g.size
          have hm100 : m ≤ 100 := by omega
          have hn1 : ¬ ob = pb := by omega
          have hn2 : ¬ pb = ob := by omega
          go_wp2_with (at_builtin; refine print_append_cells (w0 := ((w9.setCell ⟨pb, 0, none⟩ (.slice A2 q.slots.length k2)).setCell ⟨pb, 1, none⟩ (.slice A3 q.vols.length k3))) w.heap.size rfl (.tmp 35) (.tmp 37) 23 27 (.agg #[.int .i64 0, .string ⟨#[]⟩, .string ⟨#[]⟩, .int .i64 0, .string ⟨#[]⟩]) 5 64 rfl Tryz.underlying23 info_op rfl (by decide) (by decide) _ m xs [.int .i64 o.kind, .string o.name, .string o.dest, .int .i64 o.n, .string o.text] rfl (by show Value.slice (some ⟨_, 0, none⟩) 1 1 = Value.slice (some ⟨_, 0, none⟩) 1 1; simp) rfl (by intro u hu; simp at hu; rcases hu with rfl | rfl | rfl | rfl | rfl <;> rfl) HT.out.row (Below.refl _ _) hsz (by omega) ?_; intro v2 w5 hr2 hbq hgq hat2)
          have HA := Lib.hid (HT.out.app hgq hr2)
          clear s0 s1 s2 s3 s4 s5 s6 f0 f1 t0 t1 hr2 hbq hgq hat2
          go_wp2
          go_roundg (n - (j + 1))
          case measure => omega
          case rel => exact ⟨j + 1, m + 1, _, _, q, _, _, os ++ [o], by omega, int_eq (by omega), by omega, HX.out, HQP.out, ⟨HA.out.res, HA.out.pool, HA.out.rd.more (by omega), HA.out.own, HA.out.row, HA.out.g, HA.out.l2, HA.out.l3⟩⟩
    · have hjn' : ¬ (j : Int) < (n : Int) := by omega
      go_wp2
      have HD := Lib.hid (HST.out.bel (Below.refl _ _).drew)
      have e0 := HD.out.res.cell 0
      have e1 := HD.out.res.cell 1
      have f0 := HST.out.res.free 0
      have f1 := HST.out.res.free 1
      have zr := HST.out.res.lt
      have p0 := HD.out.pool.cell 0
      have p1 := HD.out.pool.cell 1
      simp at e0 e1 p0 p1
      refine start_ (n := 4) (S := fun w' => w'.cell? ⟨pb, 0, none⟩ = some (.slice Y0 p.slots.length d0) ∧ w'.cell? ⟨pb, 1, none⟩ = some (.slice Y1 p.vols.length d1)) (ds := [3]) #[bF, bF, bF, bF] (by kernel_rfl) rfl rfl ⟨p0, p1⟩ (fun hHeld => ?_)
      refine pure_ (i := 0) (N := some 39) (v := ?_) (a' := ?_) #[bT, bF, bF, bF] rfl rfl (by kernel_rfl) (fun _ _ _ h => h) (Or.inl ⟨by rfl, ?_⟩) ?_ ?_
      rotate_left
      · intro w'
        go_simp
        with_reducible rfl
      rotate_left
      · simp only [Act.put, lA, lB, lC, i64_w, i32_w]
        rfl
      refine pure_ (i := 2) (N := some 4) (v := ?_) (a' := ?_) #[bT, bF, bT, bF] rfl rfl (by kernel_rfl) (fun _ _ _ h => h) (Or.inl ⟨by rfl, ?_⟩) ?_ ?_
      rotate_left
      · intro w'
        go_simp
        with_reducible rfl
      rotate_left
      · simp only [Act.put, lA, lB, lC, i64_w, i32_w]
        rfl
      refine take_ (i := 1) (N := some 40) (v := ?_) (a' := ?_) #[bT, bT, bT, bF] rfl rfl (by kernel_rfl) (fun _ _ _ h => h) (Or.inl ⟨by rfl, ?_⟩) hHeld ?_ ?_
      rotate_left
      · rintro w' ⟨s0, s1⟩
        go_simp
        with_reducible rfl
      rotate_left
      · simp only [Act.put, lA, lB, lC, i64_w, i32_w]
        rfl
      refine last_ (i := 3) (N := none) #[bT, bT, bT, bT] rfl rfl (by kernel_rfl) (by decide) (fun K hK => ?_)
      refine skip_ (w1 := ?_) (by rfl) rfl ?_ ?_
      rotate_left
      · go_simp
        rfl
      refine hK.out _ _ ?_
      clear hK K
      refine done_ (by kernel_rfl) ?_
      clear p0 p1 e0 e1 f0 f1 zr hHeld HD
      have hl0 := HST.out.l3
      have hx1 := HST.out.res.set 0 (.slice Y0 p.slots.length d0) (cs' := #[.slice Y0 p.slots.length d0, .slice none 0 0]) rfl
      have hx2 := (hx1.set 1 (.slice Y1 p.vols.length d1) (cs' := #[.slice Y0 p.slots.length d0, .slice Y1 p.vols.length d1]) rfl).bel (Below.refl _ _).drew
      have ho2 := ((HST.out.own.far HST.out.res (by decide) (by decide) (by decide) 0 (.slice Y0 p.slots.length d0)).far hx1 (by decide) (by decide) (by decide) 1 (.slice Y1 p.vols.length d1)).bel (Below.refl _ _).drew
      have hr2 := ((HST.out.rd.set (b := w.heap.size) hl0 0 (.slice Y0 p.slots.length d0)).set (b := w.heap.size) hl0 1 (.slice Y1 p.vols.length d1)).bel (Below.refl _ _).drew
      have hw1 := own_setCell (p := ⟨w.heap.size, 0, none⟩) HST.out.row (own_ne HST.out.row HST.out.res (by decide)) (.slice Y0 p.slots.length d0)
      have hw2 := pw_own_below (own_setCell (p := ⟨w.heap.size, 1, none⟩) hw1 (own_ne hw1 hx1 (by decide)) (.slice Y1 p.vols.length d1)) (Below.refl _ _).drew
      have hg2 := grown_tr (grown_new (grown_new HST.out.g (Nat.le_refl _) 0 (.slice Y0 p.slots.length d0)) (Nat.le_refl _) 1 (.slice Y1 p.vols.length d1)) (grown_drew _ _)
      go_wp2
      refine bodyPost_ret (results_tc rfl _ _ w.heap.size 42 #[.slice Y0 p.slots.length d0, .slice Y1 p.vols.length d1] (0, 0) _ rfl hx2 Tryz.underlying42 rfl (by kernel_rfl)) rfl ?_
      exact ⟨_, _, _, p, bvs, os, rfl, ⟨HP.out, HOS.out.run, by have := HOS.out.len; omega, HOS.out.op⟩, by unfold OwnO; rw [HOS.out.len, ← HOS.out.xs]; exact hw2, ho2, hr2.more (by omega), hg2⟩
theorem ops_c {w : World} {rb k : Nat} (h : Rd w rb k) (hk : k ≤ 1099511000000) (n : Nat) (hn : n ≤ 100) :
    Calls Tryz.prog 161 #[.pointer (some ⟨rb, 0, none⟩), .int .i64 (n : Int)] w (OpsOut rb k 20000 w) :=
  (ops2_c h hk n hn).mono fun e w' ⟨v7, v0, v1, p, bvs, os, h1, h2, h3, h4, h5, h6⟩ => ⟨v7, v0, v1, p, bvs, h1, h2.1, h4, h5, h6⟩
end Go.Proofs.YtccllgpaafgjaaaGreat

namespace Go.Proofs.YtccllgpaafgjaaaGreat
end Go.Proofs.YtccllgpaafgjaaaGreat

namespace Go.Proofs.YtccllgpaafgjaaaGreat
open Go.RowKit Go.Proofs.YtccllgpaafgjaaaGreatW.PrintWords Go.Proofs.YtccllgpaafgjaaaGreatW.PrintLast
/-- What is known of a pool that is drawn: it may be out of form. -/
structure DrawnP (p : Pool) : Prop where
  small : SmallP p
  sl : p.slots.length = 8
  vl : p.vols.length ≤ 5
theorem PoolP.drawn {p : Pool} (h : PoolP p) : DrawnP p := ⟨h.small, h.s.len, by have := h.v.len; omega⟩
theorem DrawnP.setU {p : Pool} (h : DrawnP p) {m : Nat} {x : Slot} (hx : p.slots[m]? = some x) (u : Int) : DrawnP ⟨p.slots.set m ⟨x.text, u⟩, p.vols⟩ :=
  ⟨⟨⟨by rw [List.length_set]; exact h.small.slots.len, fun y hy => by
    rcases List.mem_or_eq_of_mem_set hy with hy | rfl
    · exact h.small.slots.text y hy
    · exact h.small.slots.text x (List.mem_of_getElem? hx)⟩, h.small.vols⟩, by show (p.slots.set m _).length = 8; rw [List.length_set]; exact h.sl, h.vl⟩
theorem DrawnP.setB {p : Pool} (h : DrawnP p) {m : Nat} {x : Vol} (hx : p.vols[m]? = some x) (b : Int) : DrawnP ⟨p.slots, p.vols.set m ⟨x.name, x.blocks.set 0 b⟩⟩ := by
  have hs := h.small.vols
  refine ⟨⟨h.small.slots, ⟨by rw [List.length_set]; exact hs.len, fun y hy => ?_, fun y hy => ?_⟩⟩, h.sl, by show (p.vols.set m _).length ≤ 5; rw [List.length_set]; exact h.vl⟩
  · rcases List.mem_or_eq_of_mem_set hy with hy | rfl
    · exact hs.blocks y hy
    · show (x.blocks.set 0 b).length ≤ _
      rw [List.length_set]; exact hs.blocks x (List.mem_of_getElem? hx)
  · rcases List.mem_or_eq_of_mem_set hy with hy | rfl
    · exact hs.name y hy
    · exact hs.name x (List.mem_of_getElem? hx)
theorem PoolP.addA {p : Pool} (h : PoolP p) : DrawnP ⟨p.slots, p.vols ++ [⟨⟨#[65]⟩, [0]⟩]⟩ := by
  have hs := h.small.vols
  have hl := h.v.len
  refine ⟨⟨h.small.slots, ⟨by simp; omega, fun y hy => ?_, fun y hy => ?_⟩⟩, h.s.len, by simp; omega⟩
  · rcases List.mem_append.1 hy with hy | hy
    · exact hs.blocks y hy
    · obtain rfl := List.mem_singleton.1 hy; decide
  · rcases List.mem_append.1 hy with hy | hy
    · exact hs.name y hy
    · obtain rfl := List.mem_singleton.1 hy; decide
/-- What l71Pool leaves. -/
def PoolOut (rb k d : Nat) (w : World) (e : Ending) (w' : World) : Prop := ∃ (v0 v1 : Value) (p : Pool) (bvs : List Value), e = .returned (.agg #[v0, v1]) ∧ DrawnP p ∧ OwnP w' w.heap.size v0 v1 p bvs ∧ Rd w' rb (k + d) ∧ w.grownBy w' (some rb)
theorem OpsSt.own' {w W W' : World} {rb k : Nat} {v0 v1 : Value} {p q : Pool} {bvs bvq : List Value} {pb : Nat} (h : OpsSt w W rb k v0 v1 p bvs pb 0 (.slice none 0 0) []) {g : Nat} {cs : Array Value} {t : TypeId} (hB : Blk W g cs t) (ht : t ≠ 42) (hw : w.heap.size ≤ g) (hg : W.grownBy W' (some g)) (hq : OwnP W' w.heap.size v0 v1 q bvq) : OpsSt w W' rb k v0 v1 q bvq pb 0 (.slice none 0 0) [] := by
  have ne : ∀ {b : Nat} {ds : Array Value}, Blk W b ds 42 → some b ≠ some g := fun hb e => by
    injection e with e
    subst e
    have := hB.symm.trans hb
    injection this with this
    injection this with _ this
    exact ht this
  have hl := h.l3
  exact ⟨h.res.grown hg (ne h.res), h.pool.grown hg (ne h.pool), h.rd.grown hg (fun b e => by injection e with e; omega), hq, World.ownsRow_nil _ _ _ _, grown_own h.g hg (fun k e => by injection e with e; omega), h.l2, h.l3⟩
set_option maxHeartbeats 16000000 in
set_option maxRecDepth 10000 in
theorem pool_c {w : World} {rb k : Nat} (h : Rd w rb k) (hk : k ≤ 1099510000000) :
    Calls Tryz.prog 162 #[.pointer (some ⟨rb, 0, none⟩)] w (PoolOut rb k 20010 w) := by
  have H := Lib.hid h
  have hlt := h.lt
  clear h
  go_enter Tryz.func162, Tryz.ntmps162
  go_wp2_with fail
  have hr0 : Blk (w.alloc (.cells #[.slice none 0 0, .slice none 0 0] 42)) w.heap.size #[.slice none 0 0, .slice none 0 0] 42 := Blk.new _ _ _
  have hW : Bel w (w.alloc (.cells #[.slice none 0 0, .slice none 0 0] 42)) := bel_alloc (Below.refl _ _) _
  generalize (w.alloc (.cells #[.slice none 0 0, .slice none 0 0] 42)) = W0 at hr0 hW ⊢
  refine (pick_c (H.out.bel hW) (by omega) 22 (by omega)).mono ?_
  rintro e w1 ⟨v, rfl, ⟨r, rfl, hp0, hp1, -⟩, hR1, hg1⟩
  have hp2 := hp1 (by omega)
  obtain ⟨n, rfl⟩ : ∃ n : Nat, r = n := ⟨r.toNat, by omega⟩
  have HR1 := Lib.hid (And.intro (hr0.grown hg1 (by intro e; injection e with e; omega)) (And.intro hR1 (grown_tr (grown_of_bel hW _) hg1)))
  have hwn : wrap64 (3 + (n : Int)) = 3 + (n : Int) := by unfold wrap64; omega
  clear hr0 hW hR1 hg1 hp1
  go_wp2_with fail
  have hops := ops_c HR1.out.2.1 (by omega) (3 + n) (by omega)
  rw [show (((3 + n : Nat) : Int)) = 3 + (n : Int) by omega] at hops
  refine hops.mono ?_
  rintro e w3 ⟨v7, v0, v1, p, bvs, rfl, hp, ho, hR3, hg3⟩
  obtain ⟨A0, A1, c0, c1, rfl, rfl, hpi⟩ := ho.reads
  obtain ⟨nv, hnv⟩ : ∃ nv, p.vols.length = nv := ⟨_, rfl⟩
  obtain ⟨ns, hns⟩ : ∃ ns, p.slots.length = ns := ⟨_, rfl⟩
  have hst : OpsSt w (w3.alloc (.cells #[.slice A0 p.slots.length c0, .slice A1 p.vols.length c1] 42)) rb (k + 20001) (.slice A0 p.slots.length c0) (.slice A1 p.vols.length c1) p bvs w3.heap.size 0 (.slice none 0 0) [] :=
    ⟨(HR1.out.1.grown hg3 (by intro e; injection e with e; omega)).alloc _, Blk.new _ _ _, (hR3.bel (bel_alloc (Below.refl _ _) _)).more (by omega), (ho.lower (HR1.out.2.2.size)).bel (bel_alloc (Below.refl _ _) _), World.ownsRow_nil _ _ _ _, grown_tr (grown_tr HR1.out.2.2 hg3) (grown_of_bel (bel_alloc (Below.refl _ _) _) _), (HR1.out.1.grown hg3 (by intro e; injection e with e; omega)).lt, hlt⟩
  have hns1 : 1 ≤ ns := by rw [← hns, hp.s.len]; omega
  have hns2 : ns ≤ 8 := by rw [← hns, hp.s.len]; omega
  have hnv2 : nv ≤ 4 := by rw [← hnv]; exact hp.v.len
  rw [hns, hnv] at hst ⊢
  have HN := Lib.hid (And.intro hns hnv)
  have HP := Lib.hid hp
  have HST := Lib.hid hst
  clear ho hpi hR3 hg3 hst hns hnv hp hops hwn
  go_wp2_with fail
  generalize (w3.alloc (.cells #[.slice A0 ns c0, .slice A1 nv c1] 42)) = W4 at HST ⊢
  obtain ⟨pb, hpb⟩ : ∃ pb, w3.heap.size = pb := ⟨_, rfl⟩
  rw [hpb] at HST ⊢
  clear hpb
  refine (pick_c HST.out.rd (by omega) 30 (by omega)).mono ?_
  rintro e w5 ⟨v, rfl, ⟨r, rfl, hr0, hr1, -⟩, hR5, hg5⟩
  have hr2 := hr1 (by omega)
  have HS5 := Lib.hid (HST.out.step hR5 hg5)
  clear hr1 hR5 hg5 HST HR1
  by_cases hra : r = 0
  · subst hra
    have hs5 := HS5.out
    have y0 := hs5.pool.cell 0
    have y1 := hs5.pool.cell 1
    simp at y0 y1
    clear hs5
    go_wp2
    have HS6 := Lib.hid (HS5.out.bel (Below.refl _ _).drew)
    refine start_ (n := 12) (S := fun w' => w'.cell? ⟨pb, 0, none⟩ = some (.slice A0 ns c0)) (ds := [11]) #[bF, bF, bF, bF, bF, bF, bF, bF, bF, bF, bF, bF] (by kernel_rfl) rfl rfl (y0) (fun hHeld => ?_)
    refine pure_ (i := 0) (N := some 18) (v := ?_) (a' := ?_) #[bT, bF, bF, bF, bF, bF, bF, bF, bF, bF, bF, bF] rfl rfl (by kernel_rfl) (fun _ _ _ h => h) (Or.inl ⟨by rfl, ?_⟩) ?_ ?_
    rotate_left
    · intro w'
      go_simp
      with_reducible rfl
    rotate_left
    · simp only [Act.put, lA, lB, lC, i64_w, i32_w]
      rfl
    refine pure_ (i := 2) (N := some 20) (v := ?_) (a' := ?_) #[bT, bF, bT, bF, bF, bF, bF, bF, bF, bF, bF, bF] rfl rfl (by kernel_rfl) (fun _ _ _ h => h) (Or.inl ⟨by rfl, ?_⟩) ?_ ?_
    rotate_left
    · intro w'
      go_simp
      with_reducible rfl
    rotate_left
    · simp only [Act.put, lA, lB, lC, i64_w, i32_w]
      rfl
    refine pure_ (i := 3) (N := some 21) (v := ?_) (a' := ?_) #[bT, bF, bT, bT, bF, bF, bF, bF, bF, bF, bF, bF] rfl rfl (by kernel_rfl) (fun _ _ _ h => h) (Or.inl ⟨by rfl, ?_⟩) ?_ ?_
    rotate_left
    · intro w'
      go_simp
      with_reducible rfl
    rotate_left
    · simp only [Act.put, lA, lB, lC, i64_w, i32_w]
      rfl
    refine pure_ (i := 7) (N := some 25) (v := ?_) (a' := ?_) #[bT, bF, bT, bT, bF, bF, bF, bT, bF, bF, bF, bF] rfl rfl (by kernel_rfl) (fun _ _ _ h => h) (Or.inl ⟨by rfl, ?_⟩) ?_ ?_
    rotate_left
    · intro w'
      go_simp
      with_reducible rfl
    rotate_left
    · simp only [Act.put, lA, lB, lC, i64_w, i32_w]
      rfl
    refine take_ (i := 1) (N := some 19) (v := ?_) (a' := ?_) #[bT, bT, bT, bT, bF, bF, bF, bT, bF, bF, bF, bF] rfl rfl (by kernel_rfl) (fun _ _ _ h => h) (Or.inl ⟨by rfl, ?_⟩) hHeld ?_ ?_
    rotate_left
    · intro w' s0
      go_simp
      with_reducible rfl
    rotate_left
    · simp only [Act.put, lA, lB, lC, i64_w, i32_w]
      rfl
    refine take_ (i := 4) (N := some 22) (v := ?_) (a' := ?_) #[bT, bT, bT, bT, bT, bF, bF, bT, bF, bF, bF, bF] rfl rfl (by kernel_rfl) (fun _ _ _ h => h) (Or.inl ⟨by rfl, ?_⟩) hHeld ?_ ?_
    rotate_left
    · intro w' s0
      go_simp
      with_reducible rfl
    rotate_left
    · simp only [Act.put, lA, lB, lC, i64_w, i32_w]
      rfl
    refine pure_ (i := 5) (N := some 23) (v := ?_) (a' := ?_) #[bT, bT, bT, bT, bT, bT, bF, bT, bF, bF, bF, bF] rfl rfl (by kernel_rfl) (fun _ _ _ h => h) (Or.inl ⟨by rfl, ?_⟩) ?_ ?_
    rotate_left
    · intro w'
      go_simp
      with_reducible rfl
    rotate_left
    · simp only [Act.put, lA, lB, lC, i64_w, i32_w]
      rfl
    refine one_ (i := 6) (N := some 24) #[bT, bT, bT, bT, bT, bT, bT, bT, bF, bF, bF, bF] rfl rfl (by kernel_rfl) (by decide) (fun K hK => ?_)
    refine goes_ Tryz.func87 (by kernel_rfl) rfl #[.pointer (some ⟨rb, 0, none⟩), .int .i64 ns] (by rfl) rfl rfl (by simp only [List.map_toArray, List.map_cons, List.map_nil]; rfl) ?_
    with_reducible refine (pick_c (w := w5.drew) HS6.out.rd (by omega) ns (by omega)).mono ?_
    rintro e w7 ⟨v, rfl, ⟨r2, rfl, hr20, hr21, -⟩, hR7, hg7⟩
    have hr22 := hr21 (by omega)
    obtain ⟨i, rfl⟩ : ∃ i : Nat, r2 = i := ⟨r2.toNat, by omega⟩
    have hi : i < ns := by omega
    have HS7 := Lib.hid (HS6.out.step hR7 hg7)
    have z0 := HS7.out.pool.cell 0
    simp at z0
    clear hR7 hg7 hr21
    refine ⟨_, rfl, ?_⟩
    refine hK.out _ _ (z0) (fun hHeld => ?_)
    clear hK K
    refine norm_ (a' := ?_) ?_ ?_
    rotate_left
    · show Act.put _ (some 24) _ = _
      simp only [Act.put, lA, lB, lC, i64_w, i32_w]
      rfl
    refine one_ (i := 8) (N := some 26) #[bT, bT, bT, bT, bT, bT, bT, bT, bT, bF, bF, bF] rfl rfl (by kernel_rfl) (by decide) (fun K hK => ?_)
    refine goes_ Tryz.func87 (by kernel_rfl) rfl #[.pointer (some ⟨rb, 0, none⟩), .int .i64 4] (by rfl) rfl rfl (by simp only [List.map_toArray, List.map_cons, List.map_nil]; rfl) ?_
    with_reducible refine (pick_c HS7.out.rd (by omega) 4 (by omega)).mono ?_
    rintro e w8 ⟨v, rfl, ⟨r3, rfl, hr30, hr31, -⟩, hR8, hg8⟩
    have hr32 := hr31 (by omega)
    have HS8 := Lib.hid (HS7.out.step hR8 hg8)
    obtain ⟨x, hx⟩ := getQ (show i < p.slots.length by rw [HN.out.1]; exact hi)
    obtain ⟨g, cap, ev, hg1, hg2, hcap, hc, hc', hf, hf'⟩ := HS8.out.own.s.at hx
    have ev2 := slice_eq ev
    clear ev hcap
    obtain ⟨rfl, -, rfl⟩ := ev2
    have z1 := HS8.out.pool.cell 0
    simp at z1
    have HX := Lib.hid hx
    clear hR8 hg8 hr31 hx
    refine ⟨_, rfl, ?_⟩
    refine hK.out _ _ (z1) (fun hHeld => ?_)
    clear hK K
    refine norm_ (a' := ?_) ?_ ?_
    rotate_left
    · show Act.put _ (some 26) _ = _
      simp only [Act.put, lA, lB, lC, i64_w, i32_w]
      rfl
    refine pure_ (i := 9) (N := some 27) (v := ?_) (a' := ?_) #[bT, bT, bT, bT, bT, bT, bT, bT, bT, bT, bF, bF] rfl rfl (by kernel_rfl) (fun _ _ _ h => h) (Or.inl ⟨by rfl, ?_⟩) ?_ ?_
    rotate_left
    · intro w'
      go_simp
      with_reducible rfl
    rotate_left
    · simp only [Act.put, lA, lB, lC, i64_w, i32_w]
      rfl
    refine pure_ (i := 10) (N := some 28) (v := ?_) (a' := ?_) #[bT, bT, bT, bT, bT, bT, bT, bT, bT, bT, bT, bF] rfl rfl (by kernel_rfl) (fun _ _ _ h => h) (Or.inl ⟨by rfl, ?_⟩) ?_ ?_
    rotate_left
    · intro w'
      go_simp
      with_reducible rfl
    rotate_left
    · simp only [Act.put, lA, lB, lC, i64_w, i32_w]
      rfl
    refine last_ (i := 11) (N := none) #[bT, bT, bT, bT, bT, bT, bT, bT, bT, bT, bT, bT] rfl rfl (by kernel_rfl) (by decide) (fun K hK => ?_)
    refine skip_ (w1 := ?_) (by rfl) rfl ?_ ?_
    rotate_left
    · go_simp
      rfl
    refine hK.out _ _ ?_
    clear hK K
    refine done_ (by kernel_rfl) ?_
    have hos := HS8.out.own.s
    rw [← HN.out.1] at hos
    have hu := OwnS.setU hos HX.out r3
    obtain ⟨cs, hcs⟩ := own_type hos rfl
    have hq : OwnP _ w.heap.size _ _ ⟨p.slots.set i ⟨x.text, r3⟩, p.vols⟩ bvs := ⟨hu.1, HS8.out.own.v.otherS hos hu.2⟩
    rw [HN.out.1] at hq
    have HS9 := Lib.hid (HS8.out.own' hcs (by decide) hg1 hu.2 hq)
    have DP := Lib.hid (HP.out.drawn.setU HX.out r3)
    clear hos hu hcs hq z1 z0 y0 y1 hf hf' hc hc' hHeld
    generalize w8.setCell ⟨g, i * 2 + 1, none⟩ (.int .i64 r3) = W9 at HS9 ⊢
    have hsf := HS9.out
    have x0 := hsf.res.cell 0
    have x1 := hsf.res.cell 1
    have f0 := hsf.res.free 0
    have f1 := hsf.res.free 1
    have y0 := hsf.pool.cell 0
    have y1 := hsf.pool.cell 1
    have zr := hsf.res.lt
    simp at x0 x1 y0 y1
    clear hsf
    go_wp2
    have hsf := HS9.out
    have hl0 := hsf.l3
    have hx1 := hsf.res.set 0 (.slice (some ⟨g, 0, none⟩) ns c0) (cs' := #[.slice (some ⟨g, 0, none⟩) ns c0, .slice none 0 0]) rfl
    have hx2 := hx1.set 1 (.slice A1 nv c1) (cs' := #[.slice (some ⟨g, 0, none⟩) ns c0, .slice A1 nv c1]) rfl
    have ho2 := (hsf.own.far hsf.res (by decide) (by decide) (by decide) 0 (.slice (some ⟨g, 0, none⟩) ns c0)).far hx1 (by decide) (by decide) (by decide) 1 (.slice A1 nv c1)
    have hr2 := (hsf.rd.set (b := w.heap.size) hl0 0 (.slice (some ⟨g, 0, none⟩) ns c0)).set (b := w.heap.size) hl0 1 (.slice A1 nv c1)
    have hg2 := grown_new (grown_new hsf.g (Nat.le_refl _) 0 (.slice (some ⟨g, 0, none⟩) ns c0)) (Nat.le_refl _) 1 (.slice A1 nv c1)
    refine bodyPost_ret (results_cell_row rfl _ _ w.heap.size 42 #[.slice (some ⟨g, 0, none⟩) ns c0, .slice A1 nv c1] (0, 0) _ rfl hx2 Tryz.underlying42 rfl (by kernel_rfl)) rfl ?_
    exact ⟨_, _, _, bvs, rfl, DP.out, ho2, hr2.more (by omega), hg2⟩
  by_cases hrb : r = 1
  · subst hrb
    by_cases hv0 : nv = 0
    · subst hv0
      have DP := Lib.hid HP.out.drawn
      have hsf := HS5.out
      have x0 := hsf.res.cell 0
      have x1 := hsf.res.cell 1
      have f0 := hsf.res.free 0
      have f1 := hsf.res.free 1
      have y0 := hsf.pool.cell 0
      have y1 := hsf.pool.cell 1
      have zr := hsf.res.lt
      simp at x0 x1 y0 y1
      clear hsf
      go_wp2
      have hsf := HS5.out
      have hl0 := hsf.l3
      have hx1 := hsf.res.set 0 (.slice A0 ns c0) (cs' := #[.slice A0 ns c0, .slice none 0 0]) rfl
      have hx2 := hx1.set 1 (.slice A1 0 c1) (cs' := #[.slice A0 ns c0, .slice A1 0 c1]) rfl
      have ho2 := (hsf.own.far hsf.res (by decide) (by decide) (by decide) 0 (.slice A0 ns c0)).far hx1 (by decide) (by decide) (by decide) 1 (.slice A1 0 c1)
      have hr2 := (hsf.rd.set (b := w.heap.size) hl0 0 (.slice A0 ns c0)).set (b := w.heap.size) hl0 1 (.slice A1 0 c1)
      have hg2 := grown_new (grown_new hsf.g (Nat.le_refl _) 0 (.slice A0 ns c0)) (Nat.le_refl _) 1 (.slice A1 0 c1)
      refine bodyPost_ret (results_cell_row rfl _ _ w.heap.size 42 #[.slice A0 ns c0, .slice A1 0 c1] (0, 0) _ rfl hx2 Tryz.underlying42 rfl (by kernel_rfl)) rfl ?_
      exact ⟨_, _, p, bvs, rfl, DP.out, ho2, hr2.more (by omega), hg2⟩
    have hs5 := HS5.out
    have hv1 : 0 < nv := by omega
    have y0 := hs5.pool.cell 0
    have y1 := hs5.pool.cell 1
    simp at y0 y1
    clear hs5
    go_wp2_with fail
    refine (pick_c HS5.out.rd (by omega) nv (by omega)).mono ?_
    rintro e w6 ⟨v, rfl, ⟨r2, rfl, hr20, hr21, -⟩, hR6, hg6⟩
    have hr22 := hr21 (by omega)
    obtain ⟨i, rfl⟩ : ∃ i : Nat, r2 = i := ⟨r2.toNat, by omega⟩
    have hi : i < nv := by omega
    obtain ⟨x, hx⟩ := getQ (show i < p.vols.length by rw [HN.out.2]; exact hi)
    have HS6 := Lib.hid (HS5.out.step hR6 hg6)
    clear y0 y1 hR6 hg6 hr21
    obtain ⟨g, cap, bv, hbv, ev, hg1, hg2, hcap, hc, hc', hf, hf'⟩ := HS6.out.own.v.row.at hx
    have ev2 := slice_eq ev
    clear ev hcap
    obtain ⟨rfl, -, rfl⟩ := ev2
    obtain ⟨b0, hb0⟩ := getQ (show 0 < x.blocks.length by have := volOk_parts (HP.out.v.v i x hx); omega)
    obtain ⟨gb, cb, eb, hgb1, hgb2, hcb, hcc, hff⟩ := (HS6.out.own.v.inner i x bv hx hbv).at hb0
    subst eb
    obtain ⟨bl, hbl⟩ : ∃ bl, x.blocks.length = bl := ⟨_, rfl⟩
    have hbl1 : 0 < bl := by rw [← hbl]; have := volOk_parts (HP.out.v.v i x hx); omega
    rw [hbl] at hc' hbv
    have HX := Lib.hid (And.intro hx (And.intro hbv (And.intro hb0 hbl)))
    have y0 := HS6.out.pool.cell 0
    have y1 := HS6.out.pool.cell 1
    simp at y0 y1
    have hc2 : w6.drew.cell? ⟨g, i * 2 + 1, none⟩ = some (.slice (some ⟨gb, 0, none⟩) bl cb) := hc'
    clear hx hbv hb0 hbl hcb hcc hff hf hf' hc
    go_wp2
    have HS7 := Lib.hid (HS6.out.bel (Below.refl _ _).drew)
    refine start_ (n := 10) (S := fun w' => w'.cell? ⟨pb, 1, none⟩ = some (.slice (some ⟨g, 0, none⟩) nv c1) ∧ w'.cell? ⟨g, i * 2 + 1, none⟩ = some (.slice (some ⟨gb, 0, none⟩) bl cb)) (ds := [9]) #[bF, bF, bF, bF, bF, bF, bF, bF, bF, bF] (by kernel_rfl) rfl rfl ⟨y1, hc'⟩ (fun hHeld => ?_)
    refine pure_ (i := 0) (N := some 40) (v := ?_) (a' := ?_) #[bT, bF, bF, bF, bF, bF, bF, bF, bF, bF] rfl rfl (by kernel_rfl) (fun _ _ _ h => h) (Or.inl ⟨by rfl, ?_⟩) ?_ ?_
    rotate_left
    · intro w'
      go_simp
      with_reducible rfl
    rotate_left
    · simp only [Act.put, lA, lB, lC, i64_w, i32_w]
      rfl
    refine pure_ (i := 2) (N := some 42) (v := ?_) (a' := ?_) #[bT, bF, bT, bF, bF, bF, bF, bF, bF, bF] rfl rfl (by kernel_rfl) (fun _ _ _ h => h) (Or.inl ⟨by rfl, ?_⟩) ?_ ?_
    rotate_left
    · intro w'
      go_simp
      with_reducible rfl
    rotate_left
    · simp only [Act.put, lA, lB, lC, i64_w, i32_w]
      rfl
    refine pure_ (i := 6) (N := some 46) (v := ?_) (a' := ?_) #[bT, bF, bT, bF, bF, bF, bT, bF, bF, bF] rfl rfl (by kernel_rfl) (fun _ _ _ h => h) (Or.inl ⟨by rfl, ?_⟩) ?_ ?_
    rotate_left
    · intro w'
      go_simp
      with_reducible rfl
    rotate_left
    · simp only [Act.put, lA, lB, lC, i64_w, i32_w]
      rfl
    refine take_ (i := 1) (N := some 41) (v := ?_) (a' := ?_) #[bT, bT, bT, bF, bF, bF, bT, bF, bF, bF] rfl rfl (by kernel_rfl) (fun _ _ _ h => h) (Or.inl ⟨by rfl, ?_⟩) hHeld ?_ ?_
    rotate_left
    · rintro w' ⟨s0, s1⟩
      go_simp
      with_reducible rfl
    rotate_left
    · simp only [Act.put, lA, lB, lC, i64_w, i32_w]
      rfl
    refine pure_ (i := 3) (N := some 43) (v := ?_) (a' := ?_) #[bT, bT, bT, bT, bF, bF, bT, bF, bF, bF] rfl rfl (by kernel_rfl) (fun _ _ _ h => h) (Or.inl ⟨by rfl, ?_⟩) ?_ ?_
    rotate_left
    · intro w'
      go_simp
      with_reducible rfl
    rotate_left
    · simp only [Act.put, lA, lB, lC, i64_w, i32_w]
      rfl
    refine pure_ (i := 4) (N := some 44) (v := ?_) (a' := ?_) #[bT, bT, bT, bT, bT, bF, bT, bF, bF, bF] rfl rfl (by kernel_rfl) (fun _ _ _ h => h) (Or.inl ⟨by rfl, ?_⟩) ?_ ?_
    rotate_left
    · intro w'
      go_simp
      with_reducible rfl
    rotate_left
    · simp only [Act.put, lA, lB, lC, i64_w, i32_w]
      rfl
    refine take_ (i := 5) (N := some 45) (v := ?_) (a' := ?_) #[bT, bT, bT, bT, bT, bT, bT, bF, bF, bF] rfl rfl (by kernel_rfl) (fun _ _ _ h => h) (Or.inl ⟨by rfl, ?_⟩) hHeld ?_ ?_
    rotate_left
    · rintro w' ⟨s0, s1⟩
      go_simp
      with_reducible rfl
    rotate_left
    · simp only [Act.put, lA, lB, lC, i64_w, i32_w]
      rfl
    refine one_ (i := 7) (N := some 47) #[bT, bT, bT, bT, bT, bT, bT, bT, bF, bF] rfl rfl (by kernel_rfl) (by decide) (fun K hK => ?_)
    refine goes_ Tryz.func87 (by kernel_rfl) rfl #[.pointer (some ⟨rb, 0, none⟩), .int .i64 10] (by rfl) rfl rfl (by simp only [List.map_toArray, List.map_cons, List.map_nil]; rfl) ?_
    with_reducible refine (pick_c (w := w6.drew) HS7.out.rd (by omega) 10 (by omega)).mono ?_
    rintro e w8 ⟨v, rfl, ⟨r3, rfl, hr30, hr31, -⟩, hR8, hg8⟩
    have hr32 := hr31 (by omega)
    have HS8 := Lib.hid (HS7.out.step hR8 hg8)
    obtain ⟨hx, hbv, hb0, hbl⟩ := HX.out
    rw [← hbl] at hbv
    obtain ⟨g', cap', bv', e1, e2, _, _, _, _, z2, _, _⟩ := HS8.out.own.v.row.at hx
    have e3 := slice_eq e2
    clear e2
    obtain ⟨e2, -, -⟩ := e3
    obtain rfl : g = g' := by simpa using e2
    obtain rfl := Option.some.inj (hbv.symm.trans e1)
    rw [hbl] at z2
    have hoi := HS8.out.own.v.inner i x _ hx hbv
    obtain ⟨gb', cb', eb, hgb3, hgb4, _, hcc, hff⟩ := hoi.at hb0
    have eb2 := slice_eq eb
    clear eb
    obtain ⟨eb3, -, -⟩ := eb2
    obtain rfl : gb = gb' := by simpa using eb3
    have z1 := HS8.out.pool.cell 1
    simp at z1
    clear hx hbv hb0 hbl e1 e2 eb3 hoi hR8 hg8 hr31
    refine ⟨_, rfl, ?_⟩
    refine hK.out _ _ ⟨z1, z2⟩ (fun hHeld => ?_)
    clear hK K
    refine norm_ (a' := ?_) ?_ ?_
    rotate_left
    · show Act.put _ (some 47) _ = _
      simp only [Act.put, lA, lB, lC, i64_w, i32_w]
      rfl
    refine pure_ (i := 8) (N := some 48) (v := ?_) (a' := ?_) #[bT, bT, bT, bT, bT, bT, bT, bT, bT, bF] rfl rfl (by kernel_rfl) (fun _ _ _ h => h) (Or.inl ⟨by rfl, ?_⟩) ?_ ?_
    rotate_left
    · intro w'
      go_simp
      with_reducible rfl
    rotate_left
    · simp only [Act.put, lA, lB, lC, i64_w, i32_w]
      rfl
    refine last_ (i := 9) (N := none) #[bT, bT, bT, bT, bT, bT, bT, bT, bT, bT] rfl rfl (by kernel_rfl) (by decide) (fun K hK => ?_)
    refine skip_ (w1 := ?_) (by rfl) rfl ?_ ?_
    rotate_left
    · go_simp
      rfl
    refine hK.out _ _ ?_
    clear hK K
    refine done_ (by kernel_rfl) ?_
    obtain ⟨hx, hbv, hb0, hbl⟩ := HX.out
    rw [← hbl] at hbv
    have hoi := HS8.out.own.v.inner i x _ hx hbv
    have hu := OwnI.set hoi hb0 r3
    obtain ⟨cs, hcs⟩ := own_type hoi rfl
    have hv2 := HS8.out.own.v.setI hx hbv (by have := hu.1; unfold OwnI at this ⊢; rw [List.length_set] at this ⊢; exact this) hu.2
    have hq : OwnP _ w.heap.size _ _ ⟨p.slots, p.vols.set i ⟨x.name, x.blocks.set 0 r3⟩⟩ bvs := ⟨own_other_type HS8.out.own.s hoi (by decide) hu.2, hv2⟩
    have HS9 := Lib.hid (HS8.out.own' hcs (by decide) hgb3 hu.2 hq)
    have DP := Lib.hid (HP.out.drawn.setB hx r3)
    clear hx hbv hb0 hbl hoi hu hcs hv2 hq z1 z2 y0 y1 hcc hff hc' hc2 hHeld
    generalize w8.setCell ⟨gb, 0, none⟩ (.int .i64 r3) = W9 at HS9 ⊢
    have hsf := HS9.out
    have x0 := hsf.res.cell 0
    have x1 := hsf.res.cell 1
    have f0 := hsf.res.free 0
    have f1 := hsf.res.free 1
    have y0 := hsf.pool.cell 0
    have y1 := hsf.pool.cell 1
    have zr := hsf.res.lt
    simp at x0 x1 y0 y1
    clear hsf
    go_wp2
    have hsf := HS9.out
    have hl0 := hsf.l3
    have hx1 := hsf.res.set 0 (.slice A0 ns c0) (cs' := #[.slice A0 ns c0, .slice none 0 0]) rfl
    have hx2 := hx1.set 1 (.slice (some ⟨g, 0, none⟩) nv c1) (cs' := #[.slice A0 ns c0, .slice (some ⟨g, 0, none⟩) nv c1]) rfl
    have ho2 := (hsf.own.far hsf.res (by decide) (by decide) (by decide) 0 (.slice A0 ns c0)).far hx1 (by decide) (by decide) (by decide) 1 (.slice (some ⟨g, 0, none⟩) nv c1)
    have hr2 := (hsf.rd.set (b := w.heap.size) hl0 0 (.slice A0 ns c0)).set (b := w.heap.size) hl0 1 (.slice (some ⟨g, 0, none⟩) nv c1)
    have hg2 := grown_new (grown_new hsf.g (Nat.le_refl _) 0 (.slice A0 ns c0)) (Nat.le_refl _) 1 (.slice (some ⟨g, 0, none⟩) nv c1)
    refine bodyPost_ret (results_cell_row rfl _ _ w.heap.size 42 #[.slice A0 ns c0, .slice (some ⟨g, 0, none⟩) nv c1] (0, 0) _ rfl hx2 Tryz.underlying42 rfl (by kernel_rfl)) rfl ?_
    exact ⟨_, _, _, bvs, rfl, DP.out, ho2, hr2.more (by omega), hg2⟩
  by_cases hrc : r = 2
  · subst hrc
    have hs5 := HS5.out
    have y0 := hs5.pool.cell 0
    have y1 := hs5.pool.cell 1
    have f0 := hs5.pool.free 0
    have f1 := hs5.pool.free 1
    have hzp := hs5.pool.lt
    simp at y0 y1
    have hl2 := hs5.l2
    have hsz := hs5.g.size
    have hn1 : ¬ pb = w.heap.size := by omega
    have hn2 : ¬ w.heap.size = pb := by omega
    have hrow : (w5.alloc (.cells #[.int .i64 0] 3)).ownsRow w.heap.size 128 2 (.slice A1 nv c1) nv ((p.vols.zip bvs).flatMap encV) := by
      have := (hs5.own.bel (bel_alloc (Below.refl _ _) (.cells #[.int .i64 0] 3))).v.row.row
      rw [HN.out.2] at this
      exact this
    have HROW := Lib.hid hrow
    have hoi : OwnI (w5.alloc (.cells #[.int .i64 0] 3)) w.heap.size (.slice (some ⟨w5.heap.size, 0, none⟩) 1 1) [0] := World.ownsRow_lit (base := w.heap.size) (e := 3) (size := 1) w5 #[.int .i64 0] 1 hsz (by unfold maxLen; omega) rfl
    have HOI := Lib.hid hoi
    clear hs5 hrow hoi
    go_wp2_with (at_builtin; refine print_append_cells (w0 := (w5.alloc (.cells #[.int .i64 0] 3))) w.heap.size rfl (.tmp 52) (.tmp 55) 40 128 (.agg #[.string ⟨#[]⟩, .slice none 0 0]) 2 40 rfl Tryz.underlying40 info_vol rfl (by decide) (by decide) _ nv ((p.vols.zip bvs).flatMap encV) [.string ⟨#[65]⟩, .slice (some ⟨w5.heap.size, 0, none⟩) 1 1] rfl (by show Value.slice (some ⟨_, 0, none⟩) 1 1 = Value.slice (some ⟨_, 0, none⟩) 1 1; simp) rfl (by intro u hu; simp at hu; rcases hu with rfl | rfl <;> rfl) HROW.out (Below.refl _ _) (by simp; omega) (by omega) ?_; intro v2 w8 hr2 hbq hgq hat2; obtain ⟨A9, c9, rfl, hc9⟩ := own_cap hr2; have hp8 := Blk.grown (HS5.out.pool.alloc (.cells #[.int .i64 0] 3)) hgq (own_blk_ne HROW.out (HS5.out.pool.alloc _) (by decide)); have hs8 := Blk.grown (HS5.out.res.alloc (.cells #[.int .i64 0] 3)) hgq (own_blk_ne HROW.out (HS5.out.res.alloc _) (by decide)); have g0 := hp8.free 0; have g1 := hp8.free 1; have z0 := hp8.cell 0; have z1 := hp8.cell 1; have zl := hp8.lt; have x0 := hs8.cell 0; have x1 := hs8.cell 1; have u0 := hs8.free 0; have u1 := hs8.free 1; have zr := hs8.lt; simp at z0 z1 x0 x1; have HX8 := Lib.hid (And.intro (And.intro hp8 hs8) (And.intro hr2 hgq)); clear hp8 hs8 hr2 hbq hgq hat2)
    have hl3 := HS5.out.l3
    obtain ⟨⟨hp8, hs8⟩, hr2, hgq⟩ := HX8.out
    have hb5 : Bel w5 (w5.alloc (.cells #[.int .i64 0] 3)) := bel_alloc (Below.refl _ _) _
    have hov : OwnV w8 w.heap.size (.slice A9 (nv + 1) c9) (p.vols ++ [⟨⟨#[65]⟩, [0]⟩]) (bvs ++ [.slice (some ⟨w5.heap.size, 0, none⟩) 1 1]) :=
      OwnV.push (HS5.out.own.v.bel hb5) HOI.out (fun m b' k' hb hk e => by
        have h1 := HS5.out.own.v.inner_lt hb hk
        have h2 : w5.heap.size = k' := by simpa [Value.ownBlock] using e
        omega) hgq (by rw [HN.out.2]; exact hr2)
    have hos : OwnS w8 w.heap.size (.slice A0 ns c0) p.slots := own_other_type (HS5.out.own.s.bel hb5) HROW.out (by decide) hgq
    have HS9 : OpsSt w (w8.setCell ⟨pb, 1, none⟩ (.slice A9 (nv + 1) c9)) rb _ (.slice A0 ns c0) (.slice A9 (nv + 1) c9) ⟨p.slots, p.vols ++ [⟨⟨#[65]⟩, [0]⟩]⟩ (bvs ++ [.slice (some ⟨w5.heap.size, 0, none⟩) 1 1]) pb 0 (.slice none 0 0) [] :=
      ⟨hs8.apart (by omega) 1 _, hp8.set 1 (.slice A9 (nv + 1) c9) rfl, ((HS5.out.rd.bel hb5).grown hgq (fun b e => by have := own_base HROW.out b e; omega)).set (Nat.lt_trans hl3 hl2) 1 (.slice A9 (nv + 1) c9), (show OwnP w8 w.heap.size (.slice A0 ns c0) (.slice A9 (nv + 1) c9) ⟨p.slots, p.vols ++ [⟨⟨#[65]⟩, [0]⟩]⟩ (bvs ++ [.slice (some ⟨w5.heap.size, 0, none⟩) 1 1]) from ⟨hos, hov⟩).far hp8 (by decide) (by decide) (by decide) 1 (.slice A9 (nv + 1) c9), World.ownsRow_nil _ _ _ _, grown_new (grown_own (grown_tr HS5.out.g (grown_of_bel hb5 _)) hgq (own_base HROW.out)) (Nat.le_of_lt hl2) 1 (.slice A9 (nv + 1) c9), hl2, hl3⟩
    have DP := HP.out.addA
    have hsf := HS9
    have hl0 := hsf.l3
    have hx1 := hsf.res.set 0 (.slice A0 ns c0) (cs' := #[.slice A0 ns c0, .slice none 0 0]) rfl
    have hx2 := hx1.set 1 (.slice A9 (nv + 1) c9) (cs' := #[.slice A0 ns c0, .slice A9 (nv + 1) c9]) rfl
    have ho2 := (hsf.own.far hsf.res (by decide) (by decide) (by decide) 0 (.slice A0 ns c0)).far hx1 (by decide) (by decide) (by decide) 1 (.slice A9 (nv + 1) c9)
    have hr2 := (hsf.rd.set (b := w.heap.size) hl0 0 (.slice A0 ns c0)).set (b := w.heap.size) hl0 1 (.slice A9 (nv + 1) c9)
    have hg2 := grown_new (grown_new hsf.g (Nat.le_refl _) 0 (.slice A0 ns c0)) (Nat.le_refl _) 1 (.slice A9 (nv + 1) c9)
    refine bodyPost_ret (results_cell_row rfl _ _ w.heap.size 42 #[.slice A0 ns c0, .slice A9 (nv + 1) c9] (0, 0) _ rfl hx2 Tryz.underlying42 rfl (by kernel_rfl)) rfl ?_
    exact ⟨_, _, _, _, rfl, DP, ho2, hr2.more (by omega), hg2⟩
  have DP := Lib.hid HP.out.drawn
  have hsf := HS5.out
  have x0 := hsf.res.cell 0
  have x1 := hsf.res.cell 1
  have f0 := hsf.res.free 0
  have f1 := hsf.res.free 1
  have y0 := hsf.pool.cell 0
  have y1 := hsf.pool.cell 1
  have zr := hsf.res.lt
  simp at x0 x1 y0 y1
  clear hsf
  go_wp2
  have hsf := HS5.out
  have hl0 := hsf.l3
  have hx1 := hsf.res.set 0 (.slice A0 ns c0) (cs' := #[.slice A0 ns c0, .slice none 0 0]) rfl
  have hx2 := hx1.set 1 (.slice A1 nv c1) (cs' := #[.slice A0 ns c0, .slice A1 nv c1]) rfl
  have ho2 := (hsf.own.far hsf.res (by decide) (by decide) (by decide) 0 (.slice A0 ns c0)).far hx1 (by decide) (by decide) (by decide) 1 (.slice A1 nv c1)
  have hr2 := (hsf.rd.set (b := w.heap.size) hl0 0 (.slice A0 ns c0)).set (b := w.heap.size) hl0 1 (.slice A1 nv c1)
  have hg2 := grown_new (grown_new hsf.g (Nat.le_refl _) 0 (.slice A0 ns c0)) (Nat.le_refl _) 1 (.slice A1 nv c1)
  refine bodyPost_ret (results_cell_row rfl _ _ w.heap.size 42 #[.slice A0 ns c0, .slice A1 nv c1] (0, 0) _ rfl hx2 Tryz.underlying42 rfl (by kernel_rfl)) rfl ?_
  exact ⟨_, _, p, bvs, rfl, DP.out, ho2, hr2.more (by omega), hg2⟩
end Go.Proofs.YtccllgpaafgjaaaGreat

namespace Go.Proofs.YtccllgpaafgjaaaGreat
open Go.RowKit Go.Proofs.YtccllgpaafgjaaaGreatW.PrintWords Go.Proofs.YtccllgpaafgjaaaGreatW.PrintLast
theorem tail_append_step {ops : Array Oper} {o : Oper} {a : Act} {Q : Exit → Act → World → Prop} {Kc : Act → World → Prop} {W : World} {base : Nat} {v : Value} {os : List Op} (hw : Region.wanted o (yielded ops a.tmps) = true) (s x : Operand)
    (ho : o.op = .call { callee := .builtin .append, args := #[s, x], argTypes := #[23, 23] }) (hs : a.eval s = v) (y : Op) (ad : Addr) (c : Nat) (hx : a.eval x = .slice (some ad) 1 c)
    (hc : ∀ j u, (encO y)[j]? = some u → W.cell? (ad.add j) = some u) (h : OwnT W base v os) (hl : os.length ≤ 1048576) (hbase : base ≤ W.heap.size)
    (K : ∀ v1 w1, OwnT w1 base v1 (os ++ [y]) → W.grownBy w1 v.ownBlock → Kc (a.put o.dst v1) w1) :
    if Region.wanted o (yielded ops a.tmps) = true then Oper.wp Tryz.prog o a W Kc Q else Kc (a.put o.dst undef) W := by
  obtain ⟨v1, w1, hr1, h1, hg, hat⟩ := run_append_tail h o.type y ad c hc hl hbase
  rw [if_pos hw]
  unfold Oper.wp execOp
  simp only [ho, resolve, invoke, builtin, Sem.run_bind, Sem.run_pure, Result.andThen_ok, List.map_toArray, List.map_cons, List.map_nil, hs, hx, hr1]
  exact K v1 w1 h1 hg
theorem OwnT.rd {w w' : World} {base : Nat} {v : Value} {os : List Op} (h : OwnT w base v os) {rb k : Nat} (hR : Rd w rb k) (hg : w.grownBy w' (some rb)) : OwnT w' base v os := by
  obtain ⟨A, c, bs, q, hB, _⟩ := hR.h
  refine h.kept hg fun k hk e => ?_
  injection e with e
  subst e
  obtain ⟨_, _, cs', hc⟩ := h.base _ hk
  have h2 := hB.symm.trans hc
  injection h2 with h2
  injection h2 with _ h2
  exact absurd h2 (by decide)
theorem OwnT.lower {w : World} {b b' : Nat} {v : Value} {os : List Op} (h : OwnT w b v os) (hb : b' ≤ b) : OwnT w b' v os := by
  rcases h with ⟨rfl, A, rfl, ha⟩ | ⟨g, cap, pre, rfl, hpl, ho⟩
  · exact .inl ⟨rfl, A, rfl, fun a e => ⟨Nat.le_trans hb (ha a e).1, (ha a e).2⟩⟩
  · exact .inr ⟨g, cap, pre, rfl, hpl, own_lower ho hb⟩
theorem row_otherT {w w' : World} {b1 b2 : Nat} {e1 : TypeId} {s1 n1 : Nat} {v1 v2 : Value} {x1 : List Value} {os : List Op} (h1 : w.ownsRow b1 e1 s1 v1 n1 x1) (h2 : OwnT w b2 v2 os) (hne : e1 ≠ 27) (hg : w.grownBy w' v2.ownBlock) : w'.ownsRow b1 e1 s1 v1 n1 x1 := by
  refine World.ownsRow.kept h1 hg ?_
  cases hk : v1.ownBlock with
  | none => exact .inl rfl
  | some k =>
    refine .inr fun e => ?_
    obtain ⟨c1, hc1⟩ := own_type h1 hk
    obtain ⟨_, _, c2, hc2⟩ := h2.base k e.symm
    rw [hc1] at hc2
    injection hc2 with hc2
    injection hc2 with _ ht
    exact hne ht
theorem blk_otherT {w : World} {b2 : Nat} {v2 : Value} {os : List Op} (h2 : OwnT w b2 v2 os) {b : Nat} {cs : Array Value} {t : TypeId} (hB : Blk w b cs t) (hne : 27 ≠ t) : some b ≠ v2.ownBlock := fun e => by
  obtain ⟨_, _, c2, hc2⟩ := h2.base b e.symm
  have h3 := hB.symm.trans hc2
  injection h3 with h3
  injection h3 with _ h3
  exact hne h3.symm
theorem OwnP.otherT {w w' : World} {b2 : Nat} {v2 : Value} {os : List Op} {base : Nat} {v0 v1 : Value} {p : Pool} {bvs : List Value} (h : OwnP w base v0 v1 p bvs) (h2 : OwnT w b2 v2 os) (hg : w.grownBy w' v2.ownBlock) : OwnP w' base v0 v1 p bvs :=
  ⟨row_otherT h.s h2 (by decide) hg, ⟨⟨h.v.row.len, row_otherT h.v.row.row h2 (by decide) hg⟩, fun m x b hx hb => row_otherT (h.v.inner m x b hx hb) h2 (by decide) hg, h.v.apart⟩⟩
theorem packF_small {l : Log} (h : SmallL l) : SmallL (packF l) := by
  unfold packF
  split
  · exact ⟨runV_small, h.ops.drop _⟩
  · exact noL_small
theorem packF_len {l : Log} : (packF l).ops.length ≤ l.ops.length := by
  unfold packF
  split
  · exact Nat.le_trans (by rw [List.length_drop]; exact Nat.sub_le _ _) (Nat.le_refl _)
  · exact Nat.zero_le _
/-- What is known of a log that is drawn. -/
structure DrawnL (l : Log) (n : Nat) : Prop where
  small : SmallL l
  len : l.ops.length ≤ n
theorem DrawnL.pack {l : Log} {n : Nat} (h : DrawnL l n) : DrawnL (packF l) n := ⟨packF_small h.small, Nat.le_trans packF_len h.len⟩
theorem DrawnL.safe {l : Log} {n : Nat} (h : DrawnL l n) (s : Int) : DrawnL ⟨l.base, l.ops, s⟩ n := ⟨⟨h.small.base, h.small.ops⟩, h.len⟩
theorem DrawnL.basis {l : Log} {n : Nat} (h : DrawnL l n) {p : Pool} (hp : SmallP p) : DrawnL ⟨p, l.ops, l.safe⟩ n := ⟨⟨hp, h.small.ops⟩, h.len⟩
theorem DrawnL.snoc {l : Log} {n : Nat} (h : DrawnL l n) (hn : n ≤ 1000) {o : Op} (ho : SmallO o) : DrawnL ⟨l.base, l.ops ++ [o], l.safe⟩ (n + 1) := by
  have hl := h.len
  have e : (l.ops ++ [o]).length = l.ops.length + 1 := by rw [List.length_append]; rfl
  refine ⟨⟨h.small.base, ⟨by show (l.ops ++ [o]).length ≤ _; omega, fun x hx => ?_⟩⟩, by show (l.ops ++ [o]).length ≤ _; omega⟩
  rcases List.mem_append.1 hx with hx | hx
  · exact h.small.ops.op x hx
  · rw [List.mem_singleton.1 hx]; exact ho
/-- A log in a variable that is being drawn. -/
structure LgSt (w W : World) (rb k : Nat) (v0 v1 v2 : Value) (l : Log) (bvs : List Value) (lb : Nat) : Prop where
  res : Blk W w.heap.size #[.slice none 0 0, .slice none 0 0, .slice none 0 0, .int .i64 0] 44
  var : Blk W lb #[v0, v1, v2, .int .i64 l.safe] 44
  rd : Rd W rb k
  own : OwnP W w.heap.size v0 v1 l.base bvs
  ops : OwnT W w.heap.size v2 l.ops
  g : w.grownBy W (some rb)
  l2 : w.heap.size < lb
  l3 : rb < w.heap.size
section
variable {w W W' : World} {rb k k' lb : Nat} {v0 v1 v2 : Value} {l : Log} {bvs : List Value}
theorem LgSt.step (h : LgSt w W rb k v0 v1 v2 l bvs lb) (hR : Rd W' rb k') (hg : W.grownBy W' (some rb)) : LgSt w W' rb k' v0 v1 v2 l bvs lb :=
  ⟨h.res.grown hg (fun e => by injection e with e; have := h.l3; omega), h.var.grown hg (fun e => by injection e with e; have := h.l3; have := h.l2; omega), hR, h.own.rd h.rd hg, h.ops.rd h.rd hg, grown_tr h.g hg, h.l2, h.l3⟩
theorem LgSt.bel (h : LgSt w W rb k v0 v1 v2 l bvs lb) (hb : Bel W W') : LgSt w W' rb k v0 v1 v2 l bvs lb :=
  ⟨h.res.bel hb, h.var.bel hb, h.rd.bel hb, h.own.bel hb, h.ops.bel hb, grown_tr h.g (grown_of_bel hb _), h.l2, h.l3⟩
theorem LgSt.setS (h : LgSt w W rb k v0 v1 v2 l bvs lb) (s : Int) : LgSt w (W.setCell ⟨lb, 3, none⟩ (.int .i64 s)) rb k v0 v1 v2 ⟨l.base, l.ops, s⟩ bvs lb :=
  ⟨h.res.apart (by have := h.l2; omega) 3 _, h.var.set 3 _ rfl, h.rd.set (Nat.lt_trans h.l3 h.l2) 3 _, h.own.far h.var (by decide) (by decide) (by decide) 3 _, h.ops.far h.var (by decide) 3 _, grown_new h.g (Nat.le_of_lt h.l2) 3 _, h.l2, h.l3⟩
theorem LgSt.setP (h : LgSt w W rb k v0 v1 v2 l bvs lb) {u0 u1 : Value} {q : Pool} {bq : List Value} (hq : OwnP W w.heap.size u0 u1 q bq) : LgSt w ((W.setCell ⟨lb, 0, none⟩ u0).setCell ⟨lb, 1, none⟩ u1) rb k u0 u1 v2 ⟨q, l.ops, l.safe⟩ bq lb := by
  have hv := h.var.set 0 u0 (cs' := #[u0, v1, v2, .int .i64 l.safe]) rfl
  have hlt := Nat.lt_trans h.l3 h.l2
  exact ⟨(h.res.apart (by have := h.l2; omega) 0 _).apart (by have := h.l2; omega) 1 _, hv.set 1 _ rfl, (h.rd.set hlt 0 _).set hlt 1 _, (hq.far h.var (by decide) (by decide) (by decide) 0 _).far hv (by decide) (by decide) (by decide) 1 _, (h.ops.far h.var (by decide) 0 _).far hv (by decide) 1 _, grown_new (grown_new h.g (Nat.le_of_lt h.l2) 0 _) (Nat.le_of_lt h.l2) 1 _, h.l2, h.l3⟩
theorem LgSt.set4 (h : LgSt w W rb k v0 v1 v2 l bvs lb) {u0 u1 u2 : Value} {q : Log} {bq : List Value} (hq : OwnP W w.heap.size u0 u1 q.base bq) (hu : OwnT W w.heap.size u2 q.ops) : LgSt w (wset4 W lb u0 u1 u2 (.int .i64 q.safe)) rb k u0 u1 u2 q bq lb := by
  have hlt := Nat.lt_trans h.l3 h.l2
  exact ⟨h.res.apart4 (by have := h.l2; omega) _ _ _ _, h.var.set4 _ _ _ _, (((h.rd.set hlt 0 _).set hlt 1 _).set hlt 2 _).set hlt 3 _, hq.far4 h.var _ _ _ _, hu.far4 h.var _ _ _ _, grown_new (grown_new (grown_new (grown_new h.g (Nat.le_of_lt h.l2) 0 _) (Nat.le_of_lt h.l2) 1 _) (Nat.le_of_lt h.l2) 2 _) (Nat.le_of_lt h.l2) 3 _, h.l2, h.l3⟩
/-- The row of changes has turned. -/
theorem LgSt.app (h : LgSt w W rb k v0 v1 v2 l bvs lb) (hg : W.grownBy W' v2.ownBlock) {u : Value} {os : List Op} (hu : OwnT W' w.heap.size u os) : LgSt w (W'.setCell ⟨lb, 2, none⟩ u) rb k v0 v1 u ⟨l.base, os, l.safe⟩ bvs lb := by
  have hv := h.var.grown hg (blk_otherT h.ops h.var (by decide))
  have hr := h.res.grown hg (blk_otherT h.ops h.res (by decide))
  have hlt := Nat.lt_trans h.l3 h.l2
  have hrd := h.rd.grown hg (fun b e => by have := (h.ops.base b e).1; have := h.l3; omega)
  exact ⟨hr.apart (by have := h.l2; omega) 2 _, hv.set 2 _ rfl, hrd.set hlt 2 _, (h.own.otherT h.ops hg).far hv (by decide) (by decide) (by decide) 2 _, hu.far hv (by decide) 2 _, grown_new (grown_own h.g hg (fun b e => (h.ops.base b e).1)) (Nat.le_of_lt h.l2) 2 _, h.l2, h.l3⟩
theorem LgSt.lit (h : LgSt w W rb k v0 v1 v2 l bvs lb) : ∃ (A B C : Option Addr) (a b c : Nat), v0 = .slice A l.base.slots.length a ∧ v1 = .slice B l.base.vols.length b ∧ v2 = .slice C l.ops.length c ∧ LogIn W A B C a b c l := by
  obtain ⟨A, B, a, b, rfl, rfl, hi⟩ := h.own.reads
  obtain ⟨C, c, rfl, hc, hC⟩ := h.ops.reads
  exact ⟨A, B, C, a, b, c, rfl, rfl, rfl, ⟨hi, hC, hc⟩⟩
end
/-- What l72Log leaves. -/
def LogOut (rb k d n : Nat) (w : World) (e : Ending) (w' : World) : Prop := ∃ (v0 v1 v2 : Value) (l : Log) (bvs : List Value), e = .returned (.agg #[v0, v1, v2, .int .i64 l.safe]) ∧ DrawnL l n ∧ OwnP w' w.heap.size v0 v1 l.base bvs ∧ OwnT w' w.heap.size v2 l.ops ∧ Rd w' rb (k + d) ∧ w.grownBy w' (some rb)
theorem LgSt.out {w W : World} {rb k k' lb n d : Nat} {v0 v1 v2 : Value} {l : Log} {bvs : List Value} (h : LgSt w W rb k v0 v1 v2 l bvs lb) (hl : DrawnL l n) (hd : k ≤ k' + d) : LogOut rb k' d n w (.returned (.agg #[v0, v1, v2, .int .i64 l.safe])) (wset4 W w.heap.size v0 v1 v2 (.int .i64 l.safe)) := by
  have hlt := h.l3
  refine ⟨v0, v1, v2, l, bvs, rfl, hl, h.own.far4 h.res _ _ _ _, h.ops.far4 h.res _ _ _ _, ((((h.rd.set hlt 0 _).set hlt 1 _).set hlt 2 _).set hlt 3 _).more hd, ?_⟩
  exact grown_new (grown_new (grown_new (grown_new h.g (Nat.le_refl _) 0 _) (Nat.le_refl _) 1 _) (Nat.le_refl _) 2 _) (Nat.le_refl _) 3 _
end Go.Proofs.YtccllgpaafgjaaaGreat

namespace Go.Proofs.YtccllgpaafgjaaaGreat
open Go.RowKit Go.Proofs.YtccllgpaafgjaaaGreatW.PrintWords Go.Proofs.YtccllgpaafgjaaaGreatW.PrintLast
theorem blk_cells5 {w : World} {b : Nat} {o : Op} (hB : Blk w b #[.int .i64 o.kind, .string o.name, .string o.dest, .int .i64 o.n, .string o.text] 27) : ∀ j u, (encO o)[j]? = some u → w.cell? ((⟨b, 0, none⟩ : Addr).add j) = some u := by
  intro j u hj
  rw [Addr.add_lit, Nat.zero_add, hB.cell]
  simpa [encO] using hj
theorem DrawnL.more {l : Log} {n m : Nat} (h : DrawnL l n) (hm : n ≤ m) : DrawnL l m := ⟨h.small, Nat.le_trans h.len hm⟩
set_option maxHeartbeats 32000000 in
set_option maxRecDepth 10000 in
theorem log_c {w : World} {rb k : Nat} (h : Rd w rb k) (hk : k ≤ 1000000000000) :
    Calls Tryz.prog 100 #[.pointer (some ⟨rb, 0, none⟩)] w (LogOut rb k 50000 21 w) := by
  have H := Lib.hid h
  have hlt := h.lt
  clear h
  go_enter Tryz.func100, Tryz.ntmps100
  go_wp2_with fail
  have hr0 : Blk (w.alloc (.cells #[.slice none 0 0, .slice none 0 0, .slice none 0 0, .int .i64 0] 44)) w.heap.size #[.slice none 0 0, .slice none 0 0, .slice none 0 0, .int .i64 0] 44 := Blk.new _ _ _
  have hW : Bel w (w.alloc (.cells #[.slice none 0 0, .slice none 0 0, .slice none 0 0, .int .i64 0] 44)) := bel_alloc (Below.refl _ _) _
  generalize (w.alloc (.cells #[.slice none 0 0, .slice none 0 0, .slice none 0 0, .int .i64 0] 44)) = W0 at hr0 hW ⊢
  refine (pick_c (H.out.bel hW) (by omega) 21 (by omega)).mono ?_
  rintro e w1 ⟨v, rfl, ⟨r, rfl, hp0, hp1, -⟩, hR1, hg1⟩
  have hp2 := hp1 (by omega)
  obtain ⟨n, rfl⟩ : ∃ n : Nat, r = n := ⟨r.toNat, by omega⟩
  have HR1 := Lib.hid (And.intro (hr0.grown hg1 (by intro e; injection e with e; omega)) (And.intro hR1 (grown_tr (grown_of_bel hW _) hg1)))
  clear hr0 hW hR1 hg1 hp1
  go_wp2_with fail
  refine (ops2_c HR1.out.2.1 (by omega) n (by omega)).mono ?_
  rintro e w3 ⟨v7, v0, v1, p, bvs, os, rfl, ⟨_, _, hol, hos⟩, hoo, ho, hR3, hg3⟩
  obtain ⟨A0, A1, c0, c1, rfl, rfl, hpi⟩ := ho.reads
  obtain ⟨C, c, rfl, hoc, hC⟩ := hoo.reads
  have HR3 := Lib.hid (And.intro (HR1.out.1.grown hg3 (by intro e; injection e with e; omega)) (And.intro hR3 (grown_tr HR1.out.2.2 hg3)))
  have HOO := Lib.hid (show OwnO w3 w.heap.size (.slice C os.length c) os from own_lower hoo HR1.out.2.2.size)
  have HL0 := Lib.hid (show DrawnL ⟨newP, os, 0⟩ 20 from ⟨⟨newP_ok.small, ⟨by show os.length ≤ _; omega, hos⟩⟩, by show os.length ≤ _; omega⟩)
  clear hpi ho hC hoo hR3 hg3 hos HR1
  go_wp2_with fail
  have hb4 : Bel w3 (w3.alloc (.cells #[.slice A0 p.slots.length c0, .slice A1 p.vols.length c1] 42)) := bel_alloc (Below.refl _ _) _
  generalize (w3.alloc (.cells #[.slice A0 p.slots.length c0, .slice A1 p.vols.length c1] 42)) = W4 at hb4 ⊢
  have HN := Lib.hid (specPoolNew_c W4)
  have HL1 := Lib.hid (And.intro HL0.out (rfl : newP = newP))
  obtain ⟨np, hnp⟩ : ∃ np, newP = np := ⟨_, rfl⟩
  rw [hnp] at HN HL0
  clear hnp HL1
  refine HN.out.mono ?_
  rintro e w5 ⟨u0, u1, bu, rfl, hu, hb5⟩
  obtain ⟨E0, E1, k0, k1, rfl, rfl, hpi⟩ := hu.reads
  have hst : LgSt w (w5.alloc (.cells #[.slice E0 np.slots.length k0, .slice E1 np.vols.length k1, .slice C os.length c, .int .i64 0] 44)) rb (k + 1 + 20000) (.slice E0 np.slots.length k0) (.slice E1 np.vols.length k1) (.slice C os.length c) ⟨np, os, 0⟩ bu w5.heap.size := by
    have hba : Bel w3 (w5.alloc (.cells #[.slice E0 np.slots.length k0, .slice E1 np.vols.length k1, .slice C os.length c, .int .i64 0] 44)) := bel_alloc (hb4.tr hb5) _
    have hsz := HR3.out.2.2.size
    exact ⟨HR3.out.1.bel hba, Blk.new _ _ _, HR3.out.2.1.bel hba, (hu.lower (Nat.le_trans hsz hb4.size)).bel (bel_alloc (Below.refl _ _) _), (OwnO.tail (HOO.out.bel hba)), grown_tr HR3.out.2.2 (grown_of_bel hba _), Nat.lt_of_lt_of_le HR3.out.1.lt (hb4.tr hb5).size, hlt⟩
  have HS := Lib.hid hst
  have HL := HL0
  have hwn : wrap64 ((os.length : Int) + 1) = (os.length : Int) + 1 := by unfold wrap64; omega
  clear hst hu hb4 hb5 hpi HN HR3 HOO HL0
  go_wp2_with fail
  generalize (w5.alloc (.cells #[.slice E0 np.slots.length k0, .slice E1 np.vols.length k1, .slice C os.length c, .int .i64 0] 44)) = W6 at HS ⊢
  obtain ⟨lb, hlb⟩ : ∃ lb, w5.heap.size = lb := ⟨_, rfl⟩
  rw [hlb] at HS ⊢
  clear hlb
  refine (pick_c HS.out.rd (by omega) ((os.length : Int) + 1) (by omega)).mono ?_
  rintro e w7 ⟨v, rfl, ⟨sf, rfl, hs0, hs1, -⟩, hR, hg⟩
  replace HS := Lib.hid (HS.out.step hR hg)
  clear hR hg hs1 hwn
  have c0 := HS.out.var.cell 0
  have c1 := HS.out.var.cell 1
  have c2 := HS.out.var.cell 2
  have c3 := HS.out.var.cell 3
  have g0 := HS.out.var.free 0
  have g1 := HS.out.var.free 1
  have g2 := HS.out.var.free 2
  have g3 := HS.out.var.free 3
  have cy := HS.out.var.lt
  simp at c0 c1 c2 c3
  have HS0 := Lib.hid (HS.out.setS sf)
  have HL0 := Lib.hid (HL.out.safe sf)
  go_wp2_with fail
  clear c0 c1 c2 c3 g0 g1 g2 g3 cy HS HL
  have HS := HS0
  have HL := HL0
  clear HS0 HL0
  generalize w7.setCell ⟨lb, 3, none⟩ (.int .i64 sf) = W8 at HS ⊢
  refine (pick_c HS.out.rd (by omega) 3 (by omega)).mono ?_
  rintro e w9 ⟨v, rfl, ⟨r3, rfl, ht0, ht1, -⟩, hR, hg⟩
  replace HS := Lib.hid (HS.out.step hR hg)
  clear hR hg ht1
  by_cases hr3 : r3 = 0
  · subst hr3
    have c0 := HS.out.var.cell 0
    have c1 := HS.out.var.cell 1
    have c2 := HS.out.var.cell 2
    have c3 := HS.out.var.cell 3
    have g0 := HS.out.var.free 0
    have g1 := HS.out.var.free 1
    have g2 := HS.out.var.free 2
    have g3 := HS.out.var.free 3
    have cy := HS.out.var.lt
    simp at c0 c1 c2 c3
    go_wp2_with fail
    clear c0 c1 c2 c3 g0 g1 g2 g3 cy
    obtain ⟨X0, X1, X2, x0, x1, x2, e0, e1, e2, hin⟩ := HS.out.lit
    have e0 := slice_eq e0
    have e1 := slice_eq e1
    have e2 := slice_eq e2
    obtain ⟨rfl, -, rfl⟩ := e0
    obtain ⟨rfl, -, rfl⟩ := e1
    obtain ⟨rfl, -, rfl⟩ := e2
    have HK := specLogPack_c hin HL.out.small
    have HLP := Lib.hid (HL.out.pack)
    generalize packF ⟨np, os, sf⟩ = q at HK HLP
    refine HK.mono ?_
    rintro e w10 ⟨y0, y1, y2, by0, rfl, hp10, ho10, hb10⟩
    clear hin HK
    obtain ⟨A, B, a, b, rfl, rfl, hpi⟩ := hp10.reads
    obtain ⟨C, c, rfl, hy2, hyC⟩ := ho10.reads
    have hsz := HS.out.g.size
    replace HS := Lib.hid (HS.out.bel hb10)
    have HS0 := Lib.hid (HS.out.set4 (hp10.lower hsz) (ho10.lower hsz))
    have hl20 := HLP.out.len
    have hwn : wrap64 ((q.ops.length : Int) + 1) = (q.ops.length : Int) + 1 := by unfold wrap64; omega
    clear hpi hy2 hyC hp10 ho10 hb10 hsz HL
    unfold wset4 at HS0
    have c0 := HS.out.var.cell 0
    have c1 := HS.out.var.cell 1
    have c2 := HS.out.var.cell 2
    have c3 := HS.out.var.cell 3
    have g0 := HS.out.var.free 0
    have g1 := HS.out.var.free 1
    have g2 := HS.out.var.free 2
    have g3 := HS.out.var.free 3
    have cy := HS.out.var.lt
    simp at c0 c1 c2 c3
    go_wp2_with fail
    clear c0 c1 c2 c3 g0 g1 g2 g3 cy HS
    have HS := HS0
    clear HS0
    generalize ((((w10.setCell ⟨lb, 0, none⟩ (.slice A q.base.slots.length a)).setCell ⟨lb, 1, none⟩ (.slice B q.base.vols.length b)).setCell ⟨lb, 2, none⟩ (.slice C q.ops.length c)).setCell ⟨lb, 3, none⟩ (.int .i64 q.safe)) = W11 at HS ⊢
    refine (pick_c HS.out.rd (by omega) ((q.ops.length : Int) + 1) (by omega)).mono ?_
    rintro e w12 ⟨v, rfl, ⟨sg, rfl, hu0, hu1, -⟩, hR, hg⟩
    replace HS := Lib.hid (HS.out.step hR hg)
    clear hR hg hu1 hwn
    have c0 := HS.out.var.cell 0
    have c1 := HS.out.var.cell 1
    have c2 := HS.out.var.cell 2
    have c3 := HS.out.var.cell 3
    have g0 := HS.out.var.free 0
    have g1 := HS.out.var.free 1
    have g2 := HS.out.var.free 2
    have g3 := HS.out.var.free 3
    have cy := HS.out.var.lt
    simp at c0 c1 c2 c3
    have HS0 := Lib.hid (HS.out.setS sg)
    have HL := Lib.hid (HLP.out.safe sg)
    go_wp2_with fail
    clear c0 c1 c2 c3 g0 g1 g2 g3 cy HS HLP hl20
    have HS := HS0
    clear HS0
    generalize w12.setCell ⟨lb, 3, none⟩ (.int .i64 sg) = W13 at HS ⊢
    obtain ⟨l, hl⟩ : ∃ l : Log, (⟨q.base, q.ops, sg⟩ : Log) = l := ⟨_, rfl⟩
    rw [hl] at HL HS
    rw [show q.base = l.base by rw [← hl], show q.ops = l.ops by rw [← hl]] at HS ⊢
    clear hl hs0 ht0 hu0 hp0 hp2 hol hoc
    refine (pick_c HS.out.rd (by omega) 30 (by omega)).mono ?_
    rintro e wp ⟨v, rfl, ⟨r30, rfl, hr0, hr1, -⟩, hR, hg⟩
    replace HS := Lib.hid (HS.out.step hR hg)
    clear hR hg hr1
    by_cases hra : r30 = 0
    · subst hra
      go_wp2_with fail
      refine (pick_c HS.out.rd (by omega) 24 (by omega)).mono ?_
      rintro e wq ⟨v, rfl, ⟨r24, rfl, hq0, hq1, -⟩, hR, hg⟩
      have hq2 := hq1 (by omega)
      replace HS := Lib.hid (HS.out.step hR hg)
      have hws : wrap64 (r24 - 1) = r24 - 1 := by unfold wrap64; omega
      clear hR hg hq1
      have c0 := HS.out.var.cell 0
      have c1 := HS.out.var.cell 1
      have c2 := HS.out.var.cell 2
      have c3 := HS.out.var.cell 3
      have g0 := HS.out.var.free 0
      have g1 := HS.out.var.free 1
      have g2 := HS.out.var.free 2
      have g3 := HS.out.var.free 3
      have cy := HS.out.var.lt
      simp at c0 c1 c2 c3
      have HS0 := Lib.hid (HS.out.setS (r24 - 1))
      have HL0 := Lib.hid (HL.out.safe (r24 - 1))
      have hlt2 := HS.out.l2
      have r0 := HS.out.res.cell 0
      have r1 := HS.out.res.cell 1
      have r2 := HS.out.res.cell 2
      have r3 := HS.out.res.cell 3
      have f0 := HS.out.res.free 0
      have f1 := HS.out.res.free 1
      have f2 := HS.out.res.free 2
      have f3 := HS.out.res.free 3
      have ry := HS.out.res.lt
      simp at r0 r1 r2 r3
      have hne : ¬ lb = w.heap.size := by omega
      go_wp2
      have ho := HS0.out.out (k' := k) (d := 50000) (DrawnL.more HL0.out (Nat.le_succ _)) (by omega)
      refine bodyPost_ret (results_cell_row rfl _ _ w.heap.size 44 _ (0, 0) _ rfl (HS0.out.res.set4 _ _ _ _) Tryz.underlying44 rfl (by kernel_rfl)) rfl ?_
      exact ho
    by_cases hrb : r30 = 1
    · subst hrb
      have c0 := HS.out.var.cell 0
      have c1 := HS.out.var.cell 1
      have c2 := HS.out.var.cell 2
      have c3 := HS.out.var.cell 3
      have g0 := HS.out.var.free 0
      have g1 := HS.out.var.free 1
      have g2 := HS.out.var.free 2
      have g3 := HS.out.var.free 3
      have cy := HS.out.var.lt
      simp at c0 c1 c2 c3
      go_wp2
      have HS1 := Lib.hid (HS.out.bel (Below.refl _ _).drew)
      clear c0 c1 c3 g0 g1 g3
      have hl20 := HL.out.len
      refine start_ (n := 8) (S := fun w' => w'.cell? ⟨lb, 2, none⟩ = some (.slice C l.ops.length c)) (ds := [7]) #[bF, bF, bF, bF, bF, bF, bF, bF] (by kernel_rfl) rfl rfl (c2) (fun hHeld => ?_)
      refine pure_ (i := 0) (N := some 44) (v := ?_) (a' := ?_) #[bT, bF, bF, bF, bF, bF, bF, bF] rfl rfl (by kernel_rfl) (fun _ _ _ h => h) (Or.inl ⟨by rfl, ?_⟩) ?_ ?_
      rotate_left
      · intro w'
        go_simp
        with_reducible rfl
      rotate_left
      · simp only [Act.put, lA, lB, lC, i64_w, i32_w]
        rfl
      refine pure_ (i := 2) (N := some 46) (v := ?_) (a' := ?_) #[bT, bF, bT, bF, bF, bF, bF, bF] rfl rfl (by kernel_rfl) (fun _ _ _ h => h) (Or.inl ⟨by rfl, ?_⟩) ?_ ?_
      rotate_left
      · intro w'
        go_simp
        with_reducible rfl
      rotate_left
      · simp only [Act.put, lA, lB, lC, i64_w, i32_w]
        rfl
      refine take_ (i := 1) (N := some 45) (v := ?_) (a' := ?_) #[bT, bT, bT, bF, bF, bF, bF, bF] rfl rfl (by kernel_rfl) (fun _ _ _ h => h) (Or.inl ⟨by rfl, ?_⟩) hHeld ?_ ?_
      rotate_left
      · intro w' s0
        go_simp
        with_reducible rfl
      rotate_left
      · simp only [Act.put, lA, lB, lC, i64_w, i32_w]
        rfl
      refine one_ (i := 3) (N := some 47) #[bT, bT, bT, bT, bF, bF, bF, bF] rfl rfl (by kernel_rfl) (by decide) (fun K hK => ?_)
      refine goes_ Tryz.func88 (by kernel_rfl) rfl #[.pointer (some ⟨rb, 0, none⟩)] (by rfl) rfl rfl (by simp only [List.map_toArray, List.map_cons, List.map_nil]; rfl) ?_
      with_reducible refine (op_c (w := wp.drew) HS1.out.rd (by omega)).mono ?_
      rintro e wa ⟨v, rfl, ⟨o, ho, hso, _⟩, hR, hg⟩
      unfold opV at ho
      subst ho
      have HS2 := Lib.hid (HS1.out.step hR hg)
      have HSO := Lib.hid hso
      clear hR hg hso
      have d2 := HS2.out.var.cell 2
      simp at d2
      refine ⟨_, rfl, ?_⟩
      refine hK.out _ _ (d2) (fun hHeld => ?_)
      clear hK K
      refine norm_ (a' := ?_) ?_ ?_
      rotate_left
      · show Act.put _ (some 47) _ = _
        simp only [Act.put, lA, lB, lC, i64_w, i32_w]
        rfl
      refine one_ (i := 4) (N := some 48) #[bT, bT, bT, bT, bT, bF, bF, bF] rfl rfl (by kernel_rfl) (by decide) (fun K hK => ?_)
      refine value_ (w1 := ?_) (v := ?_) (by rfl) rfl ?_ ?_
      rotate_left 2
      · go_simp
        constructor
        · rfl
        · rfl
      have HS3 := Lib.hid (HS2.out.bel (bel_alloc (Below.refl _ _) (.cells #[.int .i64 o.kind, .string o.name, .string o.dest, .int .i64 o.n, .string o.text] 27)))
      have hB : Blk (wa.alloc (.cells #[.int .i64 o.kind, .string o.name, .string o.dest, .int .i64 o.n, .string o.text] 27)) wa.heap.size #[.int .i64 o.kind, .string o.name, .string o.dest, .int .i64 o.n, .string o.text] 27 := Blk.new _ _ _
      have e2 := HS3.out.var.cell 2
      simp at e2
      refine hK.out _ _ (e2) (fun hHeld => ?_)
      clear hK K
      refine norm_ (a' := ?_) ?_ ?_
      rotate_left
      · show Act.put _ (some 48) _ = _
        simp only [Act.put, lA, lB, lC, i64_w, i32_w]
        rfl
      refine one_ (i := 5) (N := some 49) #[bT, bT, bT, bT, bT, bT, bF, bF] rfl rfl (by kernel_rfl) (by decide) (fun K hK => ?_)
      refine tail_append_step (by rfl) (.tmp 45) (.tmp 48) rfl rfl o ⟨wa.heap.size, 0, none⟩ 1 rfl ?hc HS3.out.ops (by omega) HS3.out.g.size ?_
      case hc => exact blk_cells5 hB
      intro v1 wb hv1 hgr
      obtain ⟨no, hno⟩ : ∃ no, l.ops ++ [o] = no := ⟨_, rfl⟩
      rw [hno] at hv1
      have HNO := Lib.hid hno
      clear hno
      obtain ⟨C4, c4, rfl, hc4, hC4⟩ := hv1.reads
      have HS4 := Lib.hid (HS3.out.app hgr hv1)
      have hv := HS3.out.var.grown hgr (blk_otherT HS3.out.ops HS3.out.var (by decide))
      have k2 := hv.cell 2
      have kf := hv.free 2
      have ky := hv.lt
      simp at k2
      refine hK.out _ _ (k2) (fun hHeld => ?_)
      clear hK K
      refine norm_ (a' := ?_) ?_ ?_
      rotate_left
      · show Act.put _ (some 49) _ = _
        simp only [Act.put, lA, lB, lC, i64_w, i32_w]
        rfl
      refine pure_ (i := 6) (N := some 50) (v := ?_) (a' := ?_) #[bT, bT, bT, bT, bT, bT, bT, bF] rfl rfl (by kernel_rfl) (fun _ _ _ h => h) (Or.inl ⟨by rfl, ?_⟩) ?_ ?_
      rotate_left
      · intro w'
        go_simp
        with_reducible rfl
      rotate_left
      · simp only [Act.put, lA, lB, lC, i64_w, i32_w]
        rfl
      refine last_ (i := 7) (N := none) #[bT, bT, bT, bT, bT, bT, bT, bT] rfl rfl (by kernel_rfl) (by decide) (fun K hK => ?_)
      refine skip_ (w1 := ?_) (by rfl) rfl ?_ ?_
      rotate_left
      · go_simp
        rfl
      refine hK.out _ _ ?_
      clear hK K
      refine done_ (by kernel_rfl) ?_
      have hl4 := HL.out.snoc (by omega) HSO.out
      rw [HNO.out] at hl4
      have HL4 := Lib.hid hl4
      clear hl4 hc4 hC4 k2 kf ky hv hv1 hgr hB d2 e2 c2 g2 cy HS HS1 HS2 HS3
      generalize wb.setCell ⟨lb, 2, none⟩ (.slice C4 no.length c4) = wc at HS4 ⊢
      have HS := HS4
      have r0 := HS.out.res.cell 0
      have r1 := HS.out.res.cell 1
      have r2 := HS.out.res.cell 2
      have r3 := HS.out.res.cell 3
      have f0 := HS.out.res.free 0
      have f1 := HS.out.res.free 1
      have f2 := HS.out.res.free 2
      have f3 := HS.out.res.free 3
      have ry := HS.out.res.lt
      have c0 := HS.out.var.cell 0
      have c1 := HS.out.var.cell 1
      have c2 := HS.out.var.cell 2
      have c3 := HS.out.var.cell 3
      have g0 := HS.out.var.free 0
      have g1 := HS.out.var.free 1
      have g2 := HS.out.var.free 2
      have g3 := HS.out.var.free 3
      have cy := HS.out.var.lt
      simp at r0 r1 r2 r3 c0 c1 c2 c3
      have hne : ¬ lb = w.heap.size := by have := HS.out.l2; omega
      go_wp2
      have ho := HS4.out.out (k' := k) (d := 50000) HL4.out (by omega)
      refine bodyPost_ret (results_cell_row rfl _ _ w.heap.size 44 _ (0, 0) _ rfl (HS4.out.res.set4 _ _ _ _) Tryz.underlying44 rfl (by kernel_rfl)) rfl ?_
      exact ho
    by_cases hrc : r30 = 2
    · subst hrc
      go_wp2_with fail
      refine (pool_c HS.out.rd (by omega)).mono ?_
      rintro e wq ⟨u0, u1, q, bq, rfl, hdq, hq, hR, hg⟩
      obtain ⟨A5, B5, a5, b5, rfl, rfl, hpi⟩ := hq.reads
      have hsz := HS.out.g.size
      have HS0 := Lib.hid (HS.out.step hR hg)
      have HS5 := Lib.hid (HS0.out.setP (hq.lower hsz))
      have HL5 := Lib.hid (HL.out.basis hdq.small)
      clear hpi hq hR hg hsz hdq HS
      have HS := HS0
      have c0 := HS.out.var.cell 0
      have c1 := HS.out.var.cell 1
      have c2 := HS.out.var.cell 2
      have c3 := HS.out.var.cell 3
      have g0 := HS.out.var.free 0
      have g1 := HS.out.var.free 1
      have g2 := HS.out.var.free 2
      have g3 := HS.out.var.free 3
      have cy := HS.out.var.lt
      simp at c0 c1 c2 c3
      have hlt2 := HS.out.l2
      have r0 := HS.out.res.cell 0
      have r1 := HS.out.res.cell 1
      have r2 := HS.out.res.cell 2
      have r3 := HS.out.res.cell 3
      have f0 := HS.out.res.free 0
      have f1 := HS.out.res.free 1
      have f2 := HS.out.res.free 2
      have f3 := HS.out.res.free 3
      have ry := HS.out.res.lt
      simp at r0 r1 r2 r3
      have hne : ¬ lb = w.heap.size := by omega
      go_wp2
      have ho := HS5.out.out (k' := k) (d := 50000) (DrawnL.more HL5.out (Nat.le_succ _)) (by omega)
      refine bodyPost_ret (results_cell_row rfl _ _ w.heap.size 44 _ (0, 0) _ rfl (HS5.out.res.set4 _ _ _ _) Tryz.underlying44 rfl (by kernel_rfl)) rfl ?_
      exact ho
    have r0 := HS.out.res.cell 0
    have r1 := HS.out.res.cell 1
    have r2 := HS.out.res.cell 2
    have r3 := HS.out.res.cell 3
    have f0 := HS.out.res.free 0
    have f1 := HS.out.res.free 1
    have f2 := HS.out.res.free 2
    have f3 := HS.out.res.free 3
    have ry := HS.out.res.lt
    have c0 := HS.out.var.cell 0
    have c1 := HS.out.var.cell 1
    have c2 := HS.out.var.cell 2
    have c3 := HS.out.var.cell 3
    have g0 := HS.out.var.free 0
    have g1 := HS.out.var.free 1
    have g2 := HS.out.var.free 2
    have g3 := HS.out.var.free 3
    have cy := HS.out.var.lt
    simp at r0 r1 r2 r3 c0 c1 c2 c3
    have hne : ¬ lb = w.heap.size := by have := HS.out.l2; omega
    go_wp2
    have ho := HS.out.out (k' := k) (d := 50000) (DrawnL.more HL.out (Nat.le_succ _)) (by omega)
    refine bodyPost_ret (results_cell_row rfl _ _ w.heap.size 44 _ (0, 0) _ rfl (HS.out.res.set4 _ _ _ _) Tryz.underlying44 rfl (by kernel_rfl)) rfl ?_
    exact ho
  · obtain ⟨l, hl⟩ : ∃ l : Log, (⟨np, os, sf⟩ : Log) = l := ⟨_, rfl⟩
    have HS2 : Hid (LgSt w w9 rb (k + 1 + 20000 + 1 + 1) (.slice E0 l.base.slots.length k0) (.slice E1 l.base.vols.length k1) (.slice C l.ops.length c) l bu lb) := by rw [← hl]; exact HS
    have HL2 : Hid (DrawnL l 20) := by rw [← hl]; exact HL
    go_wp2_with fail
    rw [show np = l.base by rw [← hl], show os = l.ops by rw [← hl]]
    clear HS HL hl hs0 ht0 hp0 hp2 hol hoc
    have HS := HS2
    have HL := HL2
    clear HS2 HL2
    refine (pick_c HS.out.rd (by omega) 30 (by omega)).mono ?_
    rintro e wp ⟨v, rfl, ⟨r30, rfl, hr0, hr1, -⟩, hR, hg⟩
    replace HS := Lib.hid (HS.out.step hR hg)
    clear hR hg hr1
    by_cases hra : r30 = 0
    · subst hra
      go_wp2_with fail
      refine (pick_c HS.out.rd (by omega) 24 (by omega)).mono ?_
      rintro e wq ⟨v, rfl, ⟨r24, rfl, hq0, hq1, -⟩, hR, hg⟩
      have hq2 := hq1 (by omega)
      replace HS := Lib.hid (HS.out.step hR hg)
      have hws : wrap64 (r24 - 1) = r24 - 1 := by unfold wrap64; omega
      clear hR hg hq1
      have c0 := HS.out.var.cell 0
      have c1 := HS.out.var.cell 1
      have c2 := HS.out.var.cell 2
      have c3 := HS.out.var.cell 3
      have g0 := HS.out.var.free 0
      have g1 := HS.out.var.free 1
      have g2 := HS.out.var.free 2
      have g3 := HS.out.var.free 3
      have cy := HS.out.var.lt
      simp at c0 c1 c2 c3
      have HS0 := Lib.hid (HS.out.setS (r24 - 1))
      have HL0 := Lib.hid (HL.out.safe (r24 - 1))
      have hlt2 := HS.out.l2
      have r0 := HS.out.res.cell 0
      have r1 := HS.out.res.cell 1
      have r2 := HS.out.res.cell 2
      have r3 := HS.out.res.cell 3
      have f0 := HS.out.res.free 0
      have f1 := HS.out.res.free 1
      have f2 := HS.out.res.free 2
      have f3 := HS.out.res.free 3
      have ry := HS.out.res.lt
      simp at r0 r1 r2 r3
      have hne : ¬ lb = w.heap.size := by omega
      go_wp2
      have ho := HS0.out.out (k' := k) (d := 50000) (DrawnL.more HL0.out (Nat.le_succ _)) (by omega)
      refine bodyPost_ret (results_cell_row rfl _ _ w.heap.size 44 _ (0, 0) _ rfl (HS0.out.res.set4 _ _ _ _) Tryz.underlying44 rfl (by kernel_rfl)) rfl ?_
      exact ho
    by_cases hrb : r30 = 1
    · subst hrb
      have c0 := HS.out.var.cell 0
      have c1 := HS.out.var.cell 1
      have c2 := HS.out.var.cell 2
      have c3 := HS.out.var.cell 3
      have g0 := HS.out.var.free 0
      have g1 := HS.out.var.free 1
      have g2 := HS.out.var.free 2
      have g3 := HS.out.var.free 3
      have cy := HS.out.var.lt
      simp at c0 c1 c2 c3
      go_wp2
      have HS1 := Lib.hid (HS.out.bel (Below.refl _ _).drew)
      clear c0 c1 c3 g0 g1 g3
      have hl20 := HL.out.len
      refine start_ (n := 8) (S := fun w' => w'.cell? ⟨lb, 2, none⟩ = some (.slice C l.ops.length c)) (ds := [7]) #[bF, bF, bF, bF, bF, bF, bF, bF] (by kernel_rfl) rfl rfl (c2) (fun hHeld => ?_)
      refine pure_ (i := 0) (N := some 44) (v := ?_) (a' := ?_) #[bT, bF, bF, bF, bF, bF, bF, bF] rfl rfl (by kernel_rfl) (fun _ _ _ h => h) (Or.inl ⟨by rfl, ?_⟩) ?_ ?_
      rotate_left
      · intro w'
        go_simp
        with_reducible rfl
      rotate_left
      · simp only [Act.put, lA, lB, lC, i64_w, i32_w]
        rfl
      refine pure_ (i := 2) (N := some 46) (v := ?_) (a' := ?_) #[bT, bF, bT, bF, bF, bF, bF, bF] rfl rfl (by kernel_rfl) (fun _ _ _ h => h) (Or.inl ⟨by rfl, ?_⟩) ?_ ?_
      rotate_left
      · intro w'
        go_simp
        with_reducible rfl
      rotate_left
      · simp only [Act.put, lA, lB, lC, i64_w, i32_w]
        rfl
      refine take_ (i := 1) (N := some 45) (v := ?_) (a' := ?_) #[bT, bT, bT, bF, bF, bF, bF, bF] rfl rfl (by kernel_rfl) (fun _ _ _ h => h) (Or.inl ⟨by rfl, ?_⟩) hHeld ?_ ?_
      rotate_left
      · intro w' s0
        go_simp
        with_reducible rfl
      rotate_left
      · simp only [Act.put, lA, lB, lC, i64_w, i32_w]
        rfl
      refine one_ (i := 3) (N := some 47) #[bT, bT, bT, bT, bF, bF, bF, bF] rfl rfl (by kernel_rfl) (by decide) (fun K hK => ?_)
      refine goes_ Tryz.func88 (by kernel_rfl) rfl #[.pointer (some ⟨rb, 0, none⟩)] (by rfl) rfl rfl (by simp only [List.map_toArray, List.map_cons, List.map_nil]; rfl) ?_
      with_reducible refine (op_c (w := wp.drew) HS1.out.rd (by omega)).mono ?_
      rintro e wa ⟨v, rfl, ⟨o, ho, hso, _⟩, hR, hg⟩
      unfold opV at ho
      subst ho
      have HS2 := Lib.hid (HS1.out.step hR hg)
      have HSO := Lib.hid hso
      clear hR hg hso
      have d2 := HS2.out.var.cell 2
      simp at d2
      refine ⟨_, rfl, ?_⟩
      refine hK.out _ _ (d2) (fun hHeld => ?_)
      clear hK K
      refine norm_ (a' := ?_) ?_ ?_
      rotate_left
      · show Act.put _ (some 47) _ = _
        simp only [Act.put, lA, lB, lC, i64_w, i32_w]
        rfl
      refine one_ (i := 4) (N := some 48) #[bT, bT, bT, bT, bT, bF, bF, bF] rfl rfl (by kernel_rfl) (by decide) (fun K hK => ?_)
      refine value_ (w1 := ?_) (v := ?_) (by rfl) rfl ?_ ?_
      rotate_left 2
      · go_simp
        constructor
        · rfl
        · rfl
      have HS3 := Lib.hid (HS2.out.bel (bel_alloc (Below.refl _ _) (.cells #[.int .i64 o.kind, .string o.name, .string o.dest, .int .i64 o.n, .string o.text] 27)))
      have hB : Blk (wa.alloc (.cells #[.int .i64 o.kind, .string o.name, .string o.dest, .int .i64 o.n, .string o.text] 27)) wa.heap.size #[.int .i64 o.kind, .string o.name, .string o.dest, .int .i64 o.n, .string o.text] 27 := Blk.new _ _ _
      have e2 := HS3.out.var.cell 2
      simp at e2
      refine hK.out _ _ (e2) (fun hHeld => ?_)
      clear hK K
      refine norm_ (a' := ?_) ?_ ?_
      rotate_left
      · show Act.put _ (some 48) _ = _
        simp only [Act.put, lA, lB, lC, i64_w, i32_w]
        rfl
      refine one_ (i := 5) (N := some 49) #[bT, bT, bT, bT, bT, bT, bF, bF] rfl rfl (by kernel_rfl) (by decide) (fun K hK => ?_)
      refine tail_append_step (by rfl) (.tmp 45) (.tmp 48) rfl rfl o ⟨wa.heap.size, 0, none⟩ 1 rfl ?hc HS3.out.ops (by omega) HS3.out.g.size ?_
      case hc => exact blk_cells5 hB
      intro v1 wb hv1 hgr
      obtain ⟨no, hno⟩ : ∃ no, l.ops ++ [o] = no := ⟨_, rfl⟩
      rw [hno] at hv1
      have HNO := Lib.hid hno
      clear hno
      obtain ⟨C4, c4, rfl, hc4, hC4⟩ := hv1.reads
      have HS4 := Lib.hid (HS3.out.app hgr hv1)
      have hv := HS3.out.var.grown hgr (blk_otherT HS3.out.ops HS3.out.var (by decide))
      have k2 := hv.cell 2
      have kf := hv.free 2
      have ky := hv.lt
      simp at k2
      refine hK.out _ _ (k2) (fun hHeld => ?_)
      clear hK K
      refine norm_ (a' := ?_) ?_ ?_
      rotate_left
      · show Act.put _ (some 49) _ = _
        simp only [Act.put, lA, lB, lC, i64_w, i32_w]
        rfl
      refine pure_ (i := 6) (N := some 50) (v := ?_) (a' := ?_) #[bT, bT, bT, bT, bT, bT, bT, bF] rfl rfl (by kernel_rfl) (fun _ _ _ h => h) (Or.inl ⟨by rfl, ?_⟩) ?_ ?_
      rotate_left
      · intro w'
        go_simp
        with_reducible rfl
      rotate_left
      · simp only [Act.put, lA, lB, lC, i64_w, i32_w]
        rfl
      refine last_ (i := 7) (N := none) #[bT, bT, bT, bT, bT, bT, bT, bT] rfl rfl (by kernel_rfl) (by decide) (fun K hK => ?_)
      refine skip_ (w1 := ?_) (by rfl) rfl ?_ ?_
      rotate_left
      · go_simp
        rfl
      refine hK.out _ _ ?_
      clear hK K
      refine done_ (by kernel_rfl) ?_
      have hl4 := HL.out.snoc (by omega) HSO.out
      rw [HNO.out] at hl4
      have HL4 := Lib.hid hl4
      clear hl4 hc4 hC4 k2 kf ky hv hv1 hgr hB d2 e2 c2 g2 cy HS HS1 HS2 HS3
      generalize wb.setCell ⟨lb, 2, none⟩ (.slice C4 no.length c4) = wc at HS4 ⊢
      have HS := HS4
      have r0 := HS.out.res.cell 0
      have r1 := HS.out.res.cell 1
      have r2 := HS.out.res.cell 2
      have r3 := HS.out.res.cell 3
      have f0 := HS.out.res.free 0
      have f1 := HS.out.res.free 1
      have f2 := HS.out.res.free 2
      have f3 := HS.out.res.free 3
      have ry := HS.out.res.lt
      have c0 := HS.out.var.cell 0
      have c1 := HS.out.var.cell 1
      have c2 := HS.out.var.cell 2
      have c3 := HS.out.var.cell 3
      have g0 := HS.out.var.free 0
      have g1 := HS.out.var.free 1
      have g2 := HS.out.var.free 2
      have g3 := HS.out.var.free 3
      have cy := HS.out.var.lt
      simp at r0 r1 r2 r3 c0 c1 c2 c3
      have hne : ¬ lb = w.heap.size := by have := HS.out.l2; omega
      go_wp2
      have ho := HS4.out.out (k' := k) (d := 50000) HL4.out (by omega)
      refine bodyPost_ret (results_cell_row rfl _ _ w.heap.size 44 _ (0, 0) _ rfl (HS4.out.res.set4 _ _ _ _) Tryz.underlying44 rfl (by kernel_rfl)) rfl ?_
      exact ho
    by_cases hrc : r30 = 2
    · subst hrc
      go_wp2_with fail
      refine (pool_c HS.out.rd (by omega)).mono ?_
      rintro e wq ⟨u0, u1, q, bq, rfl, hdq, hq, hR, hg⟩
      obtain ⟨A5, B5, a5, b5, rfl, rfl, hpi⟩ := hq.reads
      have hsz := HS.out.g.size
      have HS0 := Lib.hid (HS.out.step hR hg)
      have HS5 := Lib.hid (HS0.out.setP (hq.lower hsz))
      have HL5 := Lib.hid (HL.out.basis hdq.small)
      clear hpi hq hR hg hsz hdq HS
      have HS := HS0
      have c0 := HS.out.var.cell 0
      have c1 := HS.out.var.cell 1
      have c2 := HS.out.var.cell 2
      have c3 := HS.out.var.cell 3
      have g0 := HS.out.var.free 0
      have g1 := HS.out.var.free 1
      have g2 := HS.out.var.free 2
      have g3 := HS.out.var.free 3
      have cy := HS.out.var.lt
      simp at c0 c1 c2 c3
      have hlt2 := HS.out.l2
      have r0 := HS.out.res.cell 0
      have r1 := HS.out.res.cell 1
      have r2 := HS.out.res.cell 2
      have r3 := HS.out.res.cell 3
      have f0 := HS.out.res.free 0
      have f1 := HS.out.res.free 1
      have f2 := HS.out.res.free 2
      have f3 := HS.out.res.free 3
      have ry := HS.out.res.lt
      simp at r0 r1 r2 r3
      have hne : ¬ lb = w.heap.size := by omega
      go_wp2
      have ho := HS5.out.out (k' := k) (d := 50000) (DrawnL.more HL5.out (Nat.le_succ _)) (by omega)
      refine bodyPost_ret (results_cell_row rfl _ _ w.heap.size 44 _ (0, 0) _ rfl (HS5.out.res.set4 _ _ _ _) Tryz.underlying44 rfl (by kernel_rfl)) rfl ?_
      exact ho
    have r0 := HS.out.res.cell 0
    have r1 := HS.out.res.cell 1
    have r2 := HS.out.res.cell 2
    have r3 := HS.out.res.cell 3
    have f0 := HS.out.res.free 0
    have f1 := HS.out.res.free 1
    have f2 := HS.out.res.free 2
    have f3 := HS.out.res.free 3
    have ry := HS.out.res.lt
    have c0 := HS.out.var.cell 0
    have c1 := HS.out.var.cell 1
    have c2 := HS.out.var.cell 2
    have c3 := HS.out.var.cell 3
    have g0 := HS.out.var.free 0
    have g1 := HS.out.var.free 1
    have g2 := HS.out.var.free 2
    have g3 := HS.out.var.free 3
    have cy := HS.out.var.lt
    simp at r0 r1 r2 r3 c0 c1 c2 c3
    have hne : ¬ lb = w.heap.size := by have := HS.out.l2; omega
    go_wp2
    have ho := HS.out.out (k' := k) (d := 50000) (DrawnL.more HL.out (Nat.le_succ _)) (by omega)
    refine bodyPost_ret (results_cell_row rfl _ _ w.heap.size 44 _ (0, 0) _ rfl (HS.out.res.set4 _ _ _ _) Tryz.underlying44 rfl (by kernel_rfl)) rfl ?_
    exact ho
end Go.Proofs.YtccllgpaafgjaaaGreat

namespace Go.Proofs.YtccllgpaafgjaaaGreat
open Go.RowKit Go.Proofs.YtccllgpaafgjaaaGreatW.PrintWords Go.Proofs.YtccllgpaafgjaaaGreatW.PrintLast
theorem belGrown {w w1 w2 : World} (h : Bel w w1) {rb : Nat} (hg : w1.grownBy w2 (some rb)) (hr : w.heap.size ≤ rb) : Bel w w2 := h.grown hg h.size (fun k e => by injection e with e; omega)
/-- A log that is drawn, at the outer level: the result's block rs, the reader rb, the log's own blocks from base on. -/
structure LgB (w : World) (base : Nat) (W : World) (rb k : Nat) (v0 v1 v2 : Value) (l : Log) (bvs : List Value) (lb : Nat) : Prop where
  res : Blk W w.heap.size #[.slice none 0 0, .slice none 0 0, .slice none 0 0, .int .i64 0] 44
  var : Blk W lb #[v0, v1, v2, .int .i64 l.safe] 44
  rd : Rd W rb k
  own : OwnP W base v0 v1 l.base bvs
  ops : OwnT W base v2 l.ops
  b : Bel w W
  l1 : w.heap.size < rb
  l2 : rb < base
  l3 : base ≤ lb
  l4 : base ≤ W.heap.size
section
variable {w W W' : World} {rb k k' lb base : Nat} {v0 v1 v2 : Value} {l : Log} {bvs : List Value}
theorem LgB.step (h : LgB w base W rb k v0 v1 v2 l bvs lb) (hR : Rd W' rb k') (hg : W.grownBy W' (some rb)) : LgB w base W' rb k' v0 v1 v2 l bvs lb :=
  ⟨h.res.grown hg (fun e => by injection e with e; have := h.l1; omega), h.var.grown hg (fun e => by injection e with e; have := h.l2; have := h.l3; omega), hR, h.own.rd h.rd hg, h.ops.rd h.rd hg, belGrown h.b hg (Nat.le_of_lt h.l1), h.l1, h.l2, h.l3, Nat.le_trans h.l4 hg.size⟩
theorem LgB.bel (h : LgB w base W rb k v0 v1 v2 l bvs lb) (hb : Bel W W') : LgB w base W' rb k v0 v1 v2 l bvs lb :=
  ⟨h.res.bel hb, h.var.bel hb, h.rd.bel hb, h.own.bel hb, h.ops.bel hb, h.b.tr hb, h.l1, h.l2, h.l3, Nat.le_trans h.l4 hb.size⟩
theorem LgB.ne (h : LgB w base W rb k v0 v1 v2 l bvs lb) : w.heap.size < lb := by have := h.l1; have := h.l2; have := h.l3; omega
theorem LgB.app (h : LgB w base W rb k v0 v1 v2 l bvs lb) (hg : W.grownBy W' v2.ownBlock) {u : Value} {os : List Op} (hu : OwnT W' base u os) : LgB w base (W'.setCell ⟨lb, 2, none⟩ u) rb k v0 v1 u ⟨l.base, os, l.safe⟩ bvs lb := by
  have hv := h.var.grown hg (blk_otherT h.ops h.var (by decide))
  have hr := h.res.grown hg (blk_otherT h.ops h.res (by decide))
  have hne := h.ne
  have hrd := h.rd.grown hg (fun b e => by have := (h.ops.base b e).1; have := h.l2; omega)
  have hbw : Bel w W' := h.b.grown hg h.b.size (fun b e => by have := (h.ops.base b e).1; have := h.l1; have := h.l2; omega)
  exact ⟨hr.apart (by omega) 2 _, hv.set 2 _ rfl, hrd.set (by have := h.l2; have := h.l3; omega) 2 _, (h.own.otherT h.ops hg).far hv (by decide) (by decide) (by decide) 2 _, hu.far hv (by decide) 2 _, bel_set hbw (Nat.le_of_lt hne) 2 _, h.l1, h.l2, h.l3, by have := hg.size; have := h.l4; simp; omega⟩
theorem LgB.lit (h : LgB w base W rb k v0 v1 v2 l bvs lb) : ∃ (A B C : Option Addr) (a b c : Nat), v0 = .slice A l.base.slots.length a ∧ v1 = .slice B l.base.vols.length b ∧ v2 = .slice C l.ops.length c ∧ LogIn W A B C a b c l := by
  obtain ⟨A, B, a, b, rfl, rfl, hi⟩ := h.own.reads
  obtain ⟨C, c, rfl, hc, hC⟩ := h.ops.reads
  exact ⟨A, B, C, a, b, c, rfl, rfl, rfl, ⟨hi, hC, hc⟩⟩
end
/-- A log that was drawn. -/
def DrewL (n : Nat) (w : World) (e : Ending) (w' : World) : Prop := ∃ (A B C : Option Addr) (a b c : Nat) (l : Log), e = .returned (.agg #[.slice A l.base.slots.length a, .slice B l.base.vols.length b, .slice C l.ops.length c, .int .i64 l.safe]) ∧ DrawnL l n ∧ LogIn w' A B C a b c l ∧ Bel w w'
theorem LgB.fin {w W : World} {base rb k lb : Nat} {A B C : Option Addr} {a b c : Nat} {l : Log} {bvs : List Value} (h : LgB w base W rb k (.slice A l.base.slots.length a) (.slice B l.base.vols.length b) (.slice C l.ops.length c) l bvs lb) :
    LogIn (wset4 W w.heap.size (.slice A l.base.slots.length a) (.slice B l.base.vols.length b) (.slice C l.ops.length c) (.int .i64 l.safe)) A B C a b c l ∧ Bel w (wset4 W w.heap.size (.slice A l.base.slots.length a) (.slice B l.base.vols.length b) (.slice C l.ops.length c) (.int .i64 l.safe)) := by
  have hp := h.own.far4 h.res (.slice A l.base.slots.length a) (.slice B l.base.vols.length b) (.slice C l.ops.length c) (.int .i64 l.safe)
  have ho := h.ops.far4 h.res (.slice A l.base.slots.length a) (.slice B l.base.vols.length b) (.slice C l.ops.length c) (.int .i64 l.safe)
  obtain ⟨C', c', e, hc, hC⟩ := ho.reads
  have e := slice_eq e
  obtain ⟨rfl, -, rfl⟩ := e
  exact ⟨⟨hp.inn, hC, hc⟩, bel_set4 h.b (Nat.le_refl _) _ _ _ _⟩
set_option maxHeartbeats 8000000 in
theorem drawLogPool_c {w : World} {A : Option Addr} {n c : Nat} {bs : List Int} (h : CodeIn w A n c bs) (hn : n ≤ 9223372036854775807) :
    Calls Tryz.prog 56 #[.slice A n c] w (DrewL 21 w) := by
  have H := Lib.hid h
  clear h
  go_enter Tryz.func56, Tryz.ntmps56
  go_wp2_with fail
  have hr0 : Blk (w.alloc (.cells #[.slice none 0 0, .slice none 0 0, .slice none 0 0, .int .i64 0] 44)) w.heap.size #[.slice none 0 0, .slice none 0 0, .slice none 0 0, .int .i64 0] 44 := Blk.new _ _ _
  have hW : Bel w (w.alloc (.cells #[.slice none 0 0, .slice none 0 0, .slice none 0 0, .int .i64 0] 44)) := bel_alloc (Below.refl _ _) _
  generalize (w.alloc (.cells #[.slice none 0 0, .slice none 0 0, .slice none 0 0, .int .i64 0] 44)) = W0 at hr0 hW ⊢
  refine (open_c (H.out.bel hW) hn).mono ?_
  rintro e w1 ⟨rb, rfl, hR1, hrb, hb1⟩
  have hrb2 : w.heap.size < rb := Nat.lt_of_lt_of_le hr0.lt hrb
  have HR1 := Lib.hid (And.intro (hr0.bel hb1) (And.intro hR1 (hW.tr hb1)))
  clear hr0 hW hR1 hb1 hrb
  go_wp2_with fail
  refine (log_c HR1.out.2.1 (by omega)).mono ?_
  rintro e w2 ⟨v0, v1, v2, l, bvs, rfl, hl, ho, hT, hR2, hg2⟩
  obtain ⟨A, B, a, b, rfl, rfl, hpi⟩ := ho.reads
  obtain ⟨C, c, rfl, hoc, hC⟩ := hT.reads
  have HL := Lib.hid hl
  have hB2 := HR1.out.1.grown hg2 (by intro e; injection e with e; omega)
  have hb2 := belGrown HR1.out.2.2 hg2 (by omega)
  have HB2 := Lib.hid hB2
  have HP2 := Lib.hid (And.intro ho (And.intro hT hb2))
  clear ho hT hR2 hg2 hb2 hpi hoc hC hl hB2
  have r0 := HB2.out.cell 0
  have r1 := HB2.out.cell 1
  have r2 := HB2.out.cell 2
  have r3 := HB2.out.cell 3
  have f0 := HB2.out.free 0
  have f1 := HB2.out.free 1
  have f2 := HB2.out.free 2
  have f3 := HB2.out.free 3
  have ry := HB2.out.lt
  simp at r0 r1 r2 r3
  go_wp2
  have hp := HP2.out.1.far4 HB2.out (.slice A l.base.slots.length a) (.slice B l.base.vols.length b) (.slice C l.ops.length c) (.int .i64 l.safe)
  have hT := HP2.out.2.1.far4 HB2.out (.slice A l.base.slots.length a) (.slice B l.base.vols.length b) (.slice C l.ops.length c) (.int .i64 l.safe)
  obtain ⟨C', c', e, hc, hC⟩ := hT.reads
  have e := slice_eq e
  obtain ⟨rfl, -, rfl⟩ := e
  refine bodyPost_ret (results_cell_row rfl _ _ w.heap.size 44 _ (0, 0) _ rfl (HB2.out.set4 _ _ _ _) Tryz.underlying44 rfl (by kernel_rfl)) rfl ?_
  exact ⟨A, B, C, a, b, c, l, rfl, HL.out, ⟨hp.inn, hC, hc⟩, bel_set4 HP2.out.2.2 (Nat.le_refl _) _ _ _ _⟩
set_option maxHeartbeats 8000000 in
theorem drawLogKeep_c {w : World} {A : Option Addr} {n c : Nat} {bs : List Int} (h : CodeIn w A n c bs) (hn : n ≤ 9223372036854775807) :
    Calls Tryz.prog 50 #[.slice A n c] w (DrewL 21 w) := by
  have H := Lib.hid h
  clear h
  go_enter Tryz.func50, Tryz.ntmps50
  go_wp2_with fail
  have hr0 : Blk (w.alloc (.cells #[.slice none 0 0, .slice none 0 0, .slice none 0 0, .int .i64 0] 44)) w.heap.size #[.slice none 0 0, .slice none 0 0, .slice none 0 0, .int .i64 0] 44 := Blk.new _ _ _
  have hW : Bel w (w.alloc (.cells #[.slice none 0 0, .slice none 0 0, .slice none 0 0, .int .i64 0] 44)) := bel_alloc (Below.refl _ _) _
  generalize (w.alloc (.cells #[.slice none 0 0, .slice none 0 0, .slice none 0 0, .int .i64 0] 44)) = W0 at hr0 hW ⊢
  refine (open_c (H.out.bel hW) hn).mono ?_
  rintro e w1 ⟨rb, rfl, hR1, hrb, hb1⟩
  have hrb2 : w.heap.size < rb := Nat.lt_of_lt_of_le hr0.lt hrb
  have HR1 := Lib.hid (And.intro (hr0.bel hb1) (And.intro hR1 (hW.tr hb1)))
  clear hr0 hW hR1 hb1 hrb
  go_wp2_with fail
  refine (log_c HR1.out.2.1 (by omega)).mono ?_
  rintro e w2 ⟨v0, v1, v2, l, bvs, rfl, hl, ho, hT, hR2, hg2⟩
  obtain ⟨A, B, a, b, rfl, rfl, hpi⟩ := ho.reads
  obtain ⟨C, c, rfl, hoc, hC⟩ := hT.reads
  have HL := Lib.hid hl
  have hB2 := HR1.out.1.grown hg2 (by intro e; injection e with e; omega)
  have hb2 := belGrown HR1.out.2.2 hg2 (by omega)
  have HB2 := Lib.hid hB2
  have HP2 := Lib.hid (And.intro ho (And.intro hT hb2))
  clear ho hT hR2 hg2 hb2 hpi hoc hC hl hB2
  have r0 := HB2.out.cell 0
  have r1 := HB2.out.cell 1
  have r2 := HB2.out.cell 2
  have r3 := HB2.out.cell 3
  have f0 := HB2.out.free 0
  have f1 := HB2.out.free 1
  have f2 := HB2.out.free 2
  have f3 := HB2.out.free 3
  have ry := HB2.out.lt
  simp at r0 r1 r2 r3
  go_wp2
  have hp := HP2.out.1.far4 HB2.out (.slice A l.base.slots.length a) (.slice B l.base.vols.length b) (.slice C l.ops.length c) (.int .i64 l.safe)
  have hT := HP2.out.2.1.far4 HB2.out (.slice A l.base.slots.length a) (.slice B l.base.vols.length b) (.slice C l.ops.length c) (.int .i64 l.safe)
  obtain ⟨C', c', e, hc, hC⟩ := hT.reads
  have e := slice_eq e
  obtain ⟨rfl, -, rfl⟩ := e
  refine bodyPost_ret (results_cell_row rfl _ _ w.heap.size 44 _ (0, 0) _ rfl (HB2.out.set4 _ _ _ _) Tryz.underlying44 rfl (by kernel_rfl)) rfl ?_
  exact ⟨A, B, C, a, b, c, l, rfl, HL.out, ⟨hp.inn, hC, hc⟩, bel_set4 HP2.out.2.2 (Nat.le_refl _) _ _ _ _⟩
set_option maxHeartbeats 8000000 in
theorem drawLogPack_c {w : World} {A : Option Addr} {n c : Nat} {bs : List Int} (h : CodeIn w A n c bs) (hn : n ≤ 9223372036854775807) :
    Calls Tryz.prog 30 #[.slice A n c] w (DrewL 21 w) := by
  have H := Lib.hid h
  clear h
  go_enter Tryz.func30, Tryz.ntmps30
  go_wp2_with fail
  have hr0 : Blk (w.alloc (.cells #[.slice none 0 0, .slice none 0 0, .slice none 0 0, .int .i64 0] 44)) w.heap.size #[.slice none 0 0, .slice none 0 0, .slice none 0 0, .int .i64 0] 44 := Blk.new _ _ _
  have hW : Bel w (w.alloc (.cells #[.slice none 0 0, .slice none 0 0, .slice none 0 0, .int .i64 0] 44)) := bel_alloc (Below.refl _ _) _
  generalize (w.alloc (.cells #[.slice none 0 0, .slice none 0 0, .slice none 0 0, .int .i64 0] 44)) = W0 at hr0 hW ⊢
  refine (open_c (H.out.bel hW) hn).mono ?_
  rintro e w1 ⟨rb, rfl, hR1, hrb, hb1⟩
  have hrb2 : w.heap.size < rb := Nat.lt_of_lt_of_le hr0.lt hrb
  have HR1 := Lib.hid (And.intro (hr0.bel hb1) (And.intro hR1 (hW.tr hb1)))
  clear hr0 hW hR1 hb1 hrb
  go_wp2_with fail
  refine (log_c HR1.out.2.1 (by omega)).mono ?_
  rintro e w2 ⟨v0, v1, v2, l, bvs, rfl, hl, ho, hT, hR2, hg2⟩
  obtain ⟨A, B, a, b, rfl, rfl, hpi⟩ := ho.reads
  obtain ⟨C, c, rfl, hoc, hC⟩ := hT.reads
  have HL := Lib.hid hl
  have hB2 := HR1.out.1.grown hg2 (by intro e; injection e with e; omega)
  have hb2 := belGrown HR1.out.2.2 hg2 (by omega)
  have HB2 := Lib.hid hB2
  have HP2 := Lib.hid (And.intro ho (And.intro hT hb2))
  clear ho hT hR2 hg2 hb2 hpi hoc hC hl hB2
  have r0 := HB2.out.cell 0
  have r1 := HB2.out.cell 1
  have r2 := HB2.out.cell 2
  have r3 := HB2.out.cell 3
  have f0 := HB2.out.free 0
  have f1 := HB2.out.free 1
  have f2 := HB2.out.free 2
  have f3 := HB2.out.free 3
  have ry := HB2.out.lt
  simp at r0 r1 r2 r3
  go_wp2
  have hp := HP2.out.1.far4 HB2.out (.slice A l.base.slots.length a) (.slice B l.base.vols.length b) (.slice C l.ops.length c) (.int .i64 l.safe)
  have hT := HP2.out.2.1.far4 HB2.out (.slice A l.base.slots.length a) (.slice B l.base.vols.length b) (.slice C l.ops.length c) (.int .i64 l.safe)
  obtain ⟨C', c', e, hc, hC⟩ := hT.reads
  have e := slice_eq e
  obtain ⟨rfl, -, rfl⟩ := e
  refine bodyPost_ret (results_cell_row rfl _ _ w.heap.size 44 _ (0, 0) _ rfl (HB2.out.set4 _ _ _ _) Tryz.underlying44 rfl (by kernel_rfl)) rfl ?_
  exact ⟨A, B, C, a, b, c, l, rfl, HL.out, ⟨hp.inn, hC, hc⟩, bel_set4 HP2.out.2.2 (Nat.le_refl _) _ _ _ _⟩
/-- A log that was drawn, and how many changes are left. -/
def DrewLF (n : Nat) (w : World) (e : Ending) (w' : World) : Prop := ∃ (A B C : Option Addr) (a b c : Nat) (l : Log) (left : Int), e = .returned (.tuple #[.agg #[.slice A l.base.slots.length a, .slice B l.base.vols.length b, .slice C l.ops.length c, .int .i64 l.safe], .int .i64 left]) ∧ DrawnL l n ∧ -100 ≤ left ∧ left ≤ 100 ∧ LogIn w' A B C a b c l ∧ Bel w w'
set_option maxHeartbeats 16000000 in
set_option maxRecDepth 10000 in
theorem drawLogFall_c {w : World} {A : Option Addr} {n c : Nat} {bs : List Int} (h : CodeIn w A n c bs) (hn : n ≤ 9223372036854775807) :
    Calls Tryz.prog 54 #[.slice A n c] w (DrewLF 21 w) := by
  have H := Lib.hid h
  clear h
  go_enter Tryz.func54, Tryz.ntmps54
  go_wp2_with fail
  have hr0 : Blk (w.alloc (.cells #[.slice none 0 0, .slice none 0 0, .slice none 0 0, .int .i64 0] 44)) w.heap.size #[.slice none 0 0, .slice none 0 0, .slice none 0 0, .int .i64 0] 44 := Blk.new _ _ _
  have hW : Bel w (w.alloc (.cells #[.slice none 0 0, .slice none 0 0, .slice none 0 0, .int .i64 0] 44)) := bel_alloc (Below.refl _ _) _
  generalize (w.alloc (.cells #[.slice none 0 0, .slice none 0 0, .slice none 0 0, .int .i64 0] 44)) = W0 at hr0 hW ⊢
  refine (open_c (H.out.bel hW) hn).mono ?_
  rintro e w1 ⟨rb, rfl, hR1, hrb, hb1⟩
  have hrb2 : w.heap.size < rb := Nat.lt_of_lt_of_le hr0.lt hrb
  have HR1 := Lib.hid (And.intro (hr0.bel hb1) (And.intro hR1 (hW.tr hb1)))
  clear hr0 hW hR1 hb1 hrb
  go_wp2_with fail
  refine (log_c HR1.out.2.1 (by omega)).mono ?_
  rintro e w2 ⟨v0, v1, v2, l, bvs, rfl, hl, ho, hT, hR2, hg2⟩
  obtain ⟨A, B, a, b, rfl, rfl, hpi⟩ := ho.reads
  obtain ⟨C, c, rfl, hoc, hC⟩ := hT.reads
  have HL := Lib.hid hl
  have hB2 := HR1.out.1.grown hg2 (by intro e; injection e with e; omega)
  have hb2 := belGrown HR1.out.2.2 hg2 (by omega)
  have hbx : Bel w2 (w2.alloc (.cells #[.slice A l.base.slots.length a, .slice B l.base.vols.length b, .slice C l.ops.length c, .int .i64 l.safe] 44)) := bel_alloc (Below.refl _ _) _
  have hst : LgB w w1.heap.size (w2.alloc (.cells #[.slice A l.base.slots.length a, .slice B l.base.vols.length b, .slice C l.ops.length c, .int .i64 l.safe] 44)) rb (0 + 50000) (.slice A l.base.slots.length a) (.slice B l.base.vols.length b) (.slice C l.ops.length c) l bvs w2.heap.size :=
    ⟨hB2.bel hbx, Blk.new _ _ _, hR2.bel hbx, ho.bel hbx, hT.bel hbx, hb2.tr hbx, hrb2, HR1.out.2.1.lt, hg2.size, Nat.le_trans hg2.size hbx.size⟩
  have HS := Lib.hid hst
  clear ho hT hR2 hg2 hB2 hb2 hbx hst hpi hoc hC hl HR1
  go_wp2
  generalize (w2.alloc (.cells #[.slice A l.base.slots.length a, .slice B l.base.vols.length b, .slice C l.ops.length c, .int .i64 l.safe] 44)) = W4 at HS ⊢
  obtain ⟨lb, hlb⟩ : ∃ lb, w2.heap.size = lb := ⟨_, rfl⟩
  rw [hlb] at HS ⊢
  clear hlb
  have HS1 := Lib.hid (HS.out.bel (Below.refl _ _).drew)
  have hl20 := HL.out.len
  have s0 := HS1.out.var.cell 0
  have s1 := HS1.out.var.cell 1
  have s2 := HS1.out.var.cell 2
  have s3 := HS1.out.var.cell 3
  simp at s0 s1 s2 s3
  have hwl : wrap64 ((l.ops.length : Int) + 3) = (l.ops.length : Int) + 3 := by unfold wrap64; omega
  have hpk := pick_c (w := W4.drew) HS1.out.rd (by omega) ((l.ops.length : Int) + 3) (by omega)
  rw [← hwl] at hpk
  have HPK := Lib.hid hpk
  clear hpk
  refine start_ (n := 14) (S := fun w' => w'.cell? ⟨lb, 0, none⟩ = some (.slice A l.base.slots.length a) ∧ w'.cell? ⟨lb, 1, none⟩ = some (.slice B l.base.vols.length b) ∧ w'.cell? ⟨lb, 2, none⟩ = some (.slice C l.ops.length c) ∧ w'.cell? ⟨lb, 3, none⟩ = some (.int .i64 l.safe)) (ds := [12]) #[bF, bF, bF, bF, bF, bF, bF, bF, bF, bF, bF, bF, bF, bF] (by kernel_rfl) rfl rfl ⟨s0, s1, s2, s3⟩ (fun hHeld => ?_)
  refine pure_ (i := 1) (N := some 11) (v := ?_) (a' := ?_) #[bF, bT, bF, bF, bF, bF, bF, bF, bF, bF, bF, bF, bF, bF] rfl rfl (by kernel_rfl) (fun _ _ _ h => h) (Or.inl ⟨by rfl, ?_⟩) ?_ ?_
  rotate_left
  · intro w'
    go_simp
    with_reducible rfl
  rotate_left
  · simp only [Act.put, lA, lB, lC, i64_w, i32_w]
    rfl
  refine pure_ (i := 2) (N := some 12) (v := ?_) (a' := ?_) #[bF, bT, bT, bF, bF, bF, bF, bF, bF, bF, bF, bF, bF, bF] rfl rfl (by kernel_rfl) (fun _ _ _ h => h) (Or.inl ⟨by rfl, ?_⟩) ?_ ?_
  rotate_left
  · intro w'
    go_simp
    with_reducible rfl
  rotate_left
  · simp only [Act.put, lA, lB, lC, i64_w, i32_w]
    rfl
  refine pure_ (i := 7) (N := some 17) (v := ?_) (a' := ?_) #[bF, bT, bT, bF, bF, bF, bF, bT, bF, bF, bF, bF, bF, bF] rfl rfl (by kernel_rfl) (fun _ _ _ h => h) (Or.inl ⟨by rfl, ?_⟩) ?_ ?_
  rotate_left
  · intro w'
    go_simp
    with_reducible rfl
  rotate_left
  · simp only [Act.put, lA, lB, lC, i64_w, i32_w]
    rfl
  refine take_ (i := 0) (N := some 10) (v := ?_) (a' := ?_) #[bT, bT, bT, bF, bF, bF, bF, bT, bF, bF, bF, bF, bF, bF] rfl rfl (by kernel_rfl) (fun _ _ _ h => h) (Or.inl ⟨by rfl, ?_⟩) hHeld ?_ ?_
  rotate_left
  · rintro w' ⟨s0, s1, s2, s3⟩
    go_simp
    with_reducible rfl
  rotate_left
  · simp only [Act.put, lA, lB, lC, i64_w, i32_w]
    rfl
  refine take_ (i := 3) (N := some 13) (v := ?_) (a' := ?_) #[bT, bT, bT, bT, bF, bF, bF, bT, bF, bF, bF, bF, bF, bF] rfl rfl (by kernel_rfl) (fun _ _ _ h => h) (Or.inl ⟨by rfl, ?_⟩) hHeld ?_ ?_
  rotate_left
  · rintro w' ⟨s0, s1, s2, s3⟩
    go_simp
    with_reducible rfl
  rotate_left
  · simp only [Act.put, lA, lB, lC, i64_w, i32_w]
    rfl
  refine pure_ (i := 4) (N := some 14) (v := ?_) (a' := ?_) #[bT, bT, bT, bT, bT, bF, bF, bT, bF, bF, bF, bF, bF, bF] rfl rfl (by kernel_rfl) (fun _ _ _ h => h) (Or.inl ⟨by rfl, ?_⟩) ?_ ?_
  rotate_left
  · intro w'
    go_simp
    with_reducible rfl
  rotate_left
  · simp only [Act.put, lA, lB, lC, i64_w, i32_w]
    rfl
  refine pure_ (i := 5) (N := some 15) (v := ?_) (a' := ?_) #[bT, bT, bT, bT, bT, bT, bF, bT, bF, bF, bF, bF, bF, bF] rfl rfl (by kernel_rfl) (fun _ _ _ h => h) (Or.inl ⟨by rfl, ?_⟩) ?_ ?_
  rotate_left
  · intro w'
    go_simp
    with_reducible rfl
  rotate_left
  · simp only [Act.put, lA, lB, lC, i64_w, i32_w]
    rfl
  refine one_ (i := 6) (N := some 16) #[bT, bT, bT, bT, bT, bT, bT, bT, bF, bF, bF, bF, bF, bF] rfl rfl (by kernel_rfl) (by decide) (fun K hK => ?_)
  refine goes_ Tryz.func87 (by kernel_rfl) rfl #[.pointer (some ⟨rb, 0, none⟩), .int .i64 (wrap64 ((l.ops.length : Int) + 3))] (by rfl) rfl rfl (by simp only [List.map_toArray, List.map_cons, List.map_nil]; rfl) ?_
  with_reducible refine (HPK.out).mono ?_
  rintro e wa ⟨v, rfl, ⟨r1, rfl, hr10, hr11, -⟩, hR, hg⟩
  have hr12 := hr11 (by rw [hwl]; omega)
  rw [hwl] at hr12
  have HS2 := Lib.hid (HS1.out.step hR hg)
  clear hR hg hr11
  have d0 := HS2.out.var.cell 0
  have d1 := HS2.out.var.cell 1
  have d2 := HS2.out.var.cell 2
  have d3 := HS2.out.var.cell 3
  simp at d0 d1 d2 d3
  refine ⟨_, rfl, ?_⟩
  refine hK.out _ _ ⟨d0, d1, d2, d3⟩ (fun hHeld => ?_)
  clear hK K
  refine norm_ (a' := ?_) ?_ ?_
  rotate_left
  · show Act.put _ (some 16) _ = _
    simp only [Act.put, lA, lB, lC, i64_w, i32_w]
    rfl
  refine one_ (i := 8) (N := some 18) #[bT, bT, bT, bT, bT, bT, bT, bT, bT, bF, bF, bF, bF, bF] rfl rfl (by kernel_rfl) (by decide) (fun K hK => ?_)
  refine goes_ Tryz.func87 (by kernel_rfl) rfl #[.pointer (some ⟨rb, 0, none⟩), .int .i64 24] (by rfl) rfl rfl (by simp only [List.map_toArray, List.map_cons, List.map_nil]; rfl) ?_
  with_reducible refine (pick_c HS2.out.rd (by omega) 24 (by omega)).mono ?_
  rintro e wb ⟨v, rfl, ⟨r2, rfl, hr20, hr21, -⟩, hR, hg⟩
  have hr22 := hr21 (by omega)
  have HS3 := Lib.hid (HS2.out.step hR hg)
  clear hR hg hr21
  obtain ⟨dv, hdv⟩ : ∃ dv : Int, r2.tdiv 23 = dv := ⟨_, rfl⟩
  have hd0 : 0 ≤ dv ∧ dv ≤ 1 := by rw [← hdv, Int.tdiv_eq_ediv_of_nonneg hr20]; omega
  have hwa : wrap64 (r2.tdiv 23) = dv := by rw [hdv]; unfold wrap64; omega
  have hwb : wrap64 (dv * 30) = dv * 30 := by unfold wrap64; omega
  have hwc : wrap64 (r1 - dv * 30) = r1 - dv * 30 := by unfold wrap64; omega
  have e0 := HS3.out.var.cell 0
  have e1 := HS3.out.var.cell 1
  have e2 := HS3.out.var.cell 2
  have e3 := HS3.out.var.cell 3
  simp at e0 e1 e2 e3
  have t0 := HS3.out.res.cell 0
  have t1 := HS3.out.res.cell 1
  have t2 := HS3.out.res.cell 2
  have t3 := HS3.out.res.cell 3
  have f0 := HS3.out.res.free 0
  have f1 := HS3.out.res.free 1
  have f2 := HS3.out.res.free 2
  have f3 := HS3.out.res.free 3
  simp at t0 t1 t2 t3
  have hlt2 := HS3.out.ne
  have hne : ¬ lb = w.heap.size := by omega
  have ry := HS3.out.res.lt
  refine ⟨_, rfl, ?_⟩
  refine hK.out _ _ ⟨e0, e1, e2, e3⟩ (fun hHeld => ?_)
  clear hK K
  refine norm_ (a' := ?_) ?_ ?_
  rotate_left
  · show Act.put _ (some 18) _ = _
    simp only [Act.put, lA, lB, lC, i64_w, i32_w]
    rfl
  refine pure_ (i := 9) (N := some 19) (v := ?_) (a' := ?_) #[bT, bT, bT, bT, bT, bT, bT, bT, bT, bT, bF, bF, bF, bF] rfl rfl (by kernel_rfl) (fun _ _ _ h => h) (Or.inl ⟨by rfl, ?_⟩) ?_ ?_
  rotate_left
  · intro w'
    go_simp
    with_reducible rfl
  rotate_left
  · simp only [Act.put, lA, lB, lC, i64_w, i32_w]
    rfl
  refine pure_ (i := 10) (N := some 20) (v := ?_) (a' := ?_) #[bT, bT, bT, bT, bT, bT, bT, bT, bT, bT, bT, bF, bF, bF] rfl rfl (by kernel_rfl) (fun _ _ _ h => h) (Or.inl ⟨by rfl, ?_⟩) ?_ ?_
  rotate_left
  · intro w'
    go_simp
    with_reducible rfl
  rotate_left
  · simp only [Act.put, lA, lB, lC, i64_w, i32_w]
    rfl
  refine pure_ (i := 11) (N := some 21) (v := ?_) (a' := ?_) #[bT, bT, bT, bT, bT, bT, bT, bT, bT, bT, bT, bT, bF, bF] rfl rfl (by kernel_rfl) (fun _ _ _ h => h) (Or.inl ⟨by rfl, ?_⟩) ?_ ?_
  rotate_left
  · intro w'
    go_simp
    with_reducible rfl
  rotate_left
  · simp only [Act.put, lA, lB, lC, i64_w, i32_w]
    rfl
  refine last_ (i := 12) (N := none) #[bT, bT, bT, bT, bT, bT, bT, bT, bT, bT, bT, bT, bT, bF] rfl rfl (by kernel_rfl) (by decide) (fun K hK => ?_)
  refine skip_ (w1 := ?_) (by rfl) rfl ?_ ?_
  rotate_left
  · go_simp
    rfl
  refine hK.out _ _ ?_
  clear hK K
  refine pure_ (i := 13) (N := some 3) (v := ?_) (a' := ?_) #[bT, bT, bT, bT, bT, bT, bT, bT, bT, bT, bT, bT, bT, bT] rfl rfl (by kernel_rfl) (fun _ _ _ h => h) (Or.inl ⟨by rfl, ?_⟩) ?_ ?_
  rotate_left
  · intro w'
    go_simp
    with_reducible rfl
  rotate_left
  · simp only [Act.put, lA, lB, lC, i64_w, i32_w]
    rfl
  refine done_ (by kernel_rfl) ?_
  have ho := HS3.out.fin
  have HO := Lib.hid ho
  have hE : wrap64 (r1 - wrap64 (wrap64 dv * 30)) = r1 - dv * 30 := by unfold wrap64; omega
  have HLB := Lib.hid (show -100 ≤ wrap64 (r1 - wrap64 (wrap64 dv * 30)) ∧ wrap64 (r1 - wrap64 (wrap64 dv * 30)) ≤ 100 by rw [hE]; omega)
  clear hE
  have hB4 := HS3.out.res.set4 (.slice A l.base.slots.length a) (.slice B l.base.vols.length b) (.slice C l.ops.length c) (.int .i64 l.safe)
  go_wp2
  refine bodyPost_ret (results_ct rfl _ _ w.heap.size 44 _ (0, 0) _ rfl hB4 Tryz.underlying44 rfl (by kernel_rfl)) rfl ?_
  exact ⟨_, _, _, _, _, _, _, _, rfl, HL.out, HLB.out.1, HLB.out.2, HO.out.1, HO.out.2⟩
end Go.Proofs.YtccllgpaafgjaaaGreat

namespace Go.Proofs.YtccllgpaafgjaaaGreat
open Go.RowKit Go.Proofs.YtccllgpaafgjaaaGreatW.PrintWords
def blksOf (vs : List Vol) (t : ByteArray) : List Int := if volIdx vs t < 0 then [] else (volAt vs (volIdx vs t)).blocks
theorem lgBlks_len (vs : List Vol) (t : ByteArray) : lgBlks vs t = (blksOf vs t).length := by unfold lgBlks blksOf; split <;> rfl
theorem blksOf_at {vs : List Vol} {t : ByteArray} {i : Nat} {v : Vol} (hi : volIdx vs t = i) (hv : vs[i]? = some v) : blksOf vs t = v.blocks := by
  unfold blksOf volAt
  rw [hi, if_neg (by omega), Int.toNat_natCast, getD_of hv]
theorem blksOf_mem {vs : List Vol} (h : VolsP vs) {x : Vol} (hx : x ∈ vs) : blksOf vs x.name = x.blocks := by
  obtain ⟨m, hm⟩ := List.getElem?_of_mem hx
  exact blksOf_at (h.idx hm) hm
theorem VolsP.okM {vs : List Vol} (h : VolsP vs) {x : Vol} (hx : x ∈ vs) : volOk x = true := by
  obtain ⟨m, hm⟩ := List.getElem?_of_mem hx
  exact h.v m x hm
theorem volIdx_blks {vs : List Vol} (h : VolsP vs) {t : ByteArray} : volIdx vs t < 0 ↔ blksOf vs t = [] := by
  constructor
  · intro hi; unfold blksOf; rw [if_pos hi]
  · intro hb
    refine volIdx_no.2 fun m x hx e => ?_
    subst e
    have h1 := blksOf_mem h (List.mem_of_getElem? hx)
    have h2 := (volOk_parts (h.v m x hx)).2.2.1
    rw [← h1, hb] at h2
    simp at h2
/-! ### pieces -/
def pc (s : List Slot) (pl : Int) : ByteArray := if 0 < pl then slotText s pl else e0
def pieces (p : Pool) (t : ByteArray) : List ByteArray := (blksOf p.vols t).map (pc p.slots)
theorem slotText_at {s : List Slot} {pl : Int} {x : Slot} (h : s[(pl - 1).toNat]? = some x) : slotText s pl = x.text := by unfold slotText; rw [getD_of h]
/-- A block of a valid pool: free, or at a slot that is used. -/
theorem PoolP.blkM {p : Pool} (h : PoolP p) {x : Vol} (hx : x ∈ p.vols) {pl : Int} (hpl : pl ∈ x.blocks) (h0 : 0 < pl) : ∃ y, p.slots[(pl - 1).toNat]? = some y ∧ 1 ≤ y.uses ∧ y.text ≠ e0 ∧ pc p.slots pl = y.text := by
  have h8 := (volOk_parts (h.v.okM hx)).1 pl hpl
  obtain ⟨y, hy⟩ := h.slot (show (pl - 1).toNat < 8 by omega)
  obtain ⟨m, hm⟩ := List.getElem?_of_mem hx
  have h1 := h.uses _ y hy
  have h2 := uses_mem (p := pl) hm
  have h3 := cnt_pos hpl
  rw [show (((pl - 1).toNat : Nat) : Int) + 1 = pl by omega] at h1
  have h4 := h.s.ok _ y hy
  refine ⟨y, hy, by omega, fun e => ?_, ?_⟩
  · have := h4.2.2.2.1 e; omega
  · unfold pc; rw [if_pos h0, slotText_at hy]
/-- The slots of q say what p's say, where they are used. -/
def Keeps (s t : List Slot) : Prop := ∀ (m : Nat) (y : Slot), t[m]? = some y → ∃ x, s[m]? = some x ∧ (y.text = x.text ∨ y.uses = 0)
theorem Keeps.refl (s : List Slot) : Keeps s s := fun m y hy => ⟨y, hy, .inl rfl⟩
/-! ### the four changes -/
/-- The pool behind a write of the empty piece. -/
def freeP (p : Pool) (name : ByteArray) (b : Int) (i : Nat) (v : Vol) : Pool := ⟨backS p name b, p.vols.set i ⟨name, v.blocks.set b.toNat 0⟩⟩
/-! ### reading -/
theorem readV_pieces {p : Pool} (hp : PoolP p) {t : ByteArray} {i : Nat} (hi : i < (pieces p t).length) : readOk p t i = true ∧ some (readV p t i) = (pieces p t)[i]? := by
  have hl : i < (blksOf p.vols t).length := by rw [pieces, List.length_map] at hi; exact hi
  have hn : ¬ volIdx p.vols t < 0 := fun h => by rw [(volIdx_blks hp.v).1 h] at hl; simp at hl
  obtain ⟨k, v, hk, hv, hvn⟩ := volIdx_yes hn
  have hb := blksOf_at hk hv
  rw [hb] at hl
  have hva : volAt p.vols (volIdx p.vols t) = v := by unfold volAt; rw [hk, Int.toNat_natCast, getD_of hv]
  have hh : hasBlk p.vols t i = k := by
    unfold hasBlk
    rw [if_neg hn, hva, if_pos (inR_iff.2 (by omega)), hk]
  have hok : readOk p t i = true := by unfold readOk; rw [hh, poolOk_iff.2 hp]; simp
  refine ⟨hok, ?_⟩
  obtain ⟨x, hx⟩ := getQ hl
  have hpa : placeAt p.vols t i = x := by unfold placeAt; rw [hva, Int.toNat_natCast, getD_of hx]
  unfold readV pieces
  rw [hok, if_pos rfl, hb, List.getElem?_map, hx]
  unfold readOf pc
  rw [hpa]
  rfl
/-- A volume of one pool reads as one of another pool does. -/
def RdEq (a : Pool) (x : ByteArray) (b : Pool) (y : ByteArray) : Prop := lgBlks a.vols x = lgBlks b.vols y ∧ ∀ i : Nat, (i : Int) < lgBlks a.vols x → readOk a x i = true ∧ readOk b y i = true ∧ readV a x i = readV b y i
/-- All volumes but one read as they did. -/
def OthEq (a b : Pool) (n : ByteArray) : Prop := ∀ x ∈ a.vols, x.name ≠ n → RdEq a x.name b x.name
end Go.Proofs.YtccllgpaafgjaaaGreat

namespace Go.Proofs.YtccllgpaafgjaaaGreat
open Go.RowKit Go.Proofs.YtccllgpaafgjaaaGreatW.PrintWords
/-! ### free places -/
theorem PoolP.free {p : Pool} (h : PoolP p) : storeFree p.slots = freeN p.slots := storeFree_yes (storeOk_iff.2 h.s)
/-! ### a clone that is gone -/
/-! ### rows by name -/
/-! ### two volumes made -/
/-! ### all gone -/
/-! ### room for a piece -/
theorem hasBlk_iff {vs : List Vol} (h : VolsP vs) {t : ByteArray} {b : Int} : 0 ≤ hasBlk vs t b ↔ 0 ≤ b ∧ b < (blksOf vs t).length := by
  unfold hasBlk blksOf
  by_cases hv : volIdx vs t < 0
  · rw [if_pos hv, if_pos hv]; simp
  · rw [if_neg hv, if_neg hv]
    cases hr : inR b 0 ((volAt vs (volIdx vs t)).blocks.length - 1)
    · rw [inR_no] at hr
      simp only [Bool.false_eq_true, if_false]
      omega
    · rw [inR_iff] at hr
      rw [if_pos rfl]
      omega
theorem PoolP.wr {p : Pool} (h : PoolP p) {t : ByteArray} {b : Int} (h0 : 0 ≤ b) (h1 : b < lgBlks p.vols t) : ∃ i v x, Wr p t b i v x :=
  hasBlk_wr ((hasBlk_iff h.v).2 ⟨h0, by rw [lgBlks_len] at h1; exact h1⟩)
/-- Is a piece at some place? -/
def there (s : List Slot) (t : ByteArray) : Bool := decide (0 ≤ idx (fun o : Slot => o.text.toList == t.toList) s)
/-! the places behind a block's piece given back -/
end Go.Proofs.YtccllgpaafgjaaaGreat

namespace Go.Proofs.YtccllgpaafgjaaaGreat
open Go.RowKit Go.Proofs.YtccllgpaafgjaaaGreatW.PrintWords
end Go.Proofs.YtccllgpaafgjaaaGreat

namespace Go.Proofs.YtccllgpaafgjaaaGreat
open Go.RowKit Go.Proofs.YtccllgpaafgjaaaGreatW.PrintWords
/-! ### texts -/
def spB : ByteArray := ⟨#[32]⟩
def dashB : ByteArray := ⟨#[45]⟩
def nlB : ByteArray := ⟨#[10]⟩
def blkT (s : List Slot) (pl : Int) : ByteArray := if 0 < pl ∧ 0 < (s.getD (pl - 1).toNat Slot.z).uses then slotText s pl else dashB
def volRun (s : List Slot) (a : ByteArray) (bs : List Int) : ByteArray := bs.foldl (fun a pl => a ++ (spB ++ blkT s pl)) a
def volT (v : Vol) (s : List Slot) : ByteArray := if volOk v && storeOk s then volRun s v.name v.blocks else e0
def poolRun (s : List Slot) (a : ByteArray) (vs : List Vol) : ByteArray := vs.foldl (fun a v => a ++ (volT v s ++ nlB)) a
def poolT (p : Pool) : ByteArray := if poolOk p then poolRun p.slots e0 p.vols else e0
def tagT (t : ByteArray) (ps : List ByteArray) : ByteArray := ps.foldl (fun a x => a ++ (spB ++ if x = e0 then dashB else x)) t
def tags (p : Pool) : List (ByteArray × List ByteArray) := p.vols.map fun v => (v.name, v.blocks.map (pc p.slots))
/-! ### changes -/
def opPieces (o : Op) (f : ByteArray → List ByteArray) (t : ByteArray) : List ByteArray :=
  if o.kind = 1 then (if t = o.name then List.replicate o.n.toNat e0 else f t)
  else if o.kind = 2 then (if t = o.name then (f o.name).set o.n.toNat o.text else f t)
  else if o.kind = 3 then (if t = o.dest then f o.name else f t)
  else (if t = o.name then [] else f t)
/-! ### how many pieces -/
def kstep (seen : List ByteArray) (t : ByteArray) : List ByteArray := if (t.toList == []) || seen.any (fun o => o.toList == t.toList) then seen else seen ++ [t]
theorem kstep_eq (seen : List ByteArray) (t : ByteArray) : kstep seen t = seen ∨ (t ≠ e0 ∧ t ∉ seen ∧ kstep seen t = seen ++ [t]) := by
  unfold kstep
  split
  · exact .inl rfl
  · rename_i h
    simp only [Bool.or_eq_true, not_or, Bool.not_eq_true, List.any_eq_false] at h
    refine .inr ⟨fun e => ?_, fun hm => ?_, rfl⟩
    · subst e; rw [toList_nil.2 rfl] at h; simp at h
    · have := h.2 t hm; simp at this
theorem kstep_mem (seen : List ByteArray) (t x : ByteArray) : x ∈ kstep seen t ↔ x ∈ seen ∨ (x = t ∧ t ≠ e0) := by
  unfold kstep
  split
  · rename_i h
    rw [Bool.or_eq_true, List.any_eq_true] at h
    constructor
    · exact .inl
    · rintro (h1 | ⟨rfl, h2⟩)
      · exact h1
      · rcases h with h | ⟨o, ho, he⟩
        · exact absurd (toList_nil.1 (by simpa using h)) h2
        · rw [← textB.1 he]; exact ho
  · rename_i h
    simp only [Bool.or_eq_true, not_or, Bool.not_eq_true] at h
    rw [List.mem_append, List.mem_singleton]
    constructor
    · rintro (h1 | rfl)
      · exact .inl h1
      · refine .inr ⟨rfl, fun e => ?_⟩
        subst e; rw [toList_nil.2 rfl] at h; simp at h
    · rintro (h1 | ⟨h1, _⟩)
      · exact .inl h1
      · exact .inr h1
theorem kstep_nodup {seen : List ByteArray} (h : seen.Nodup) (t : ByteArray) : (kstep seen t).Nodup := by
  rcases kstep_eq seen t with e | ⟨_, h1, e⟩
  · rw [e]; exact h
  · rw [e, List.nodup_append]
    refine ⟨h, by simp, fun a ha b hb => ?_⟩
    rw [List.mem_singleton] at hb
    subst hb
    exact fun e => h1 (e ▸ ha)
theorem kfold : ∀ (ts seen : List ByteArray), seen.Nodup → (ts.foldl kstep seen).Nodup ∧ ∀ x, x ∈ ts.foldl kstep seen ↔ x ∈ seen ∨ (x ∈ ts ∧ x ≠ e0)
  | [], seen, h => ⟨h, fun x => by simp⟩
  | t :: ts, seen, h => by
    obtain ⟨h1, h2⟩ := kfold ts (kstep seen t) (kstep_nodup h t)
    refine ⟨h1, fun x => ?_⟩
    rw [List.foldl_cons, h2, kstep_mem, List.mem_cons]
    constructor
    · rintro ((h | ⟨rfl, h⟩) | ⟨h, h3⟩)
      · exact .inl h
      · exact .inr ⟨.inl rfl, h⟩
      · exact .inr ⟨.inr h, h3⟩
    · rintro (h | ⟨rfl | h, h3⟩)
      · exact .inl (.inl h)
      · exact .inl (.inr ⟨rfl, h3⟩)
      · exact .inr ⟨h, h3⟩
theorem nodup_len {α : Type} : ∀ (l u : List α), l.Nodup → (∀ x ∈ l, x ∈ u) → l.length ≤ u.length
  | [], _, _, _ => Nat.zero_le _
  | a :: l, u, h, hs => by
    obtain ⟨h1, h2⟩ := List.nodup_cons.1 h
    obtain ⟨u1, u2, rfl⟩ := List.append_of_mem (hs a List.mem_cons_self)
    have := nodup_len l (u1 ++ u2) h2 fun x hx => by
      have := hs x (List.mem_cons_of_mem _ hx)
      rcases List.mem_append.1 this with h3 | h3
      · exact List.mem_append.2 (.inl h3)
      · rcases List.mem_cons.1 h3 with rfl | h3
        · exact absurd hx h1
        · exact List.mem_append.2 (.inr h3)
    simp only [List.length_append, List.length_cons] at this ⊢
    omega
def usedT : List Slot → List ByteArray
  | [] => []
  | x :: s => if x.uses = 0 then usedT s else x.text :: usedT s
theorem usedT_cons (x : Slot) (s : List Slot) : usedT (x :: s) = if x.uses = 0 then usedT s else x.text :: usedT s := rfl
theorem usedT_len : ∀ s : List Slot, ((usedT s).length : Int) = s.length - freeN s
  | [] => rfl
  | x :: s => by
    have := usedT_len s
    rw [usedT_cons]
    unfold freeN
    split <;> simp only [List.length_cons] <;> omega
theorem usedT_mem : ∀ (s : List Slot) (t : ByteArray), t ∈ usedT s ↔ ∃ (m : Nat) (x : Slot), s[m]? = some x ∧ x.uses ≠ 0 ∧ x.text = t
  | [], t => by simp [usedT]
  | y :: s, t => by
    have ih := usedT_mem s t
    have key : (∃ (m : Nat) (x : Slot), (y :: s)[m]? = some x ∧ x.uses ≠ 0 ∧ x.text = t) ↔ (y.uses ≠ 0 ∧ y.text = t) ∨ ∃ (m : Nat) (x : Slot), s[m]? = some x ∧ x.uses ≠ 0 ∧ x.text = t := by
      constructor
      · rintro ⟨m, x, hx, h⟩
        cases m with
        | zero => simp at hx; subst hx; exact .inl h
        | succ m => exact .inr ⟨m, x, by simpa using hx, h⟩
      · rintro (h | ⟨m, x, hx, h⟩)
        · exact ⟨0, y, rfl, h⟩
        · exact ⟨m + 1, x, by simpa using hx, h⟩
    rw [key, ← ih]
    rw [usedT_cons]
    split
    · rename_i h; simp [h]
    · rename_i h
      rw [List.mem_cons]
      constructor
      · rintro (h1 | h1)
        · exact .inl ⟨h, h1.symm⟩
        · exact .inr h1
      · rintro (⟨_, h1⟩ | h1)
        · exact .inl h1.symm
        · exact .inr h1
theorem usedT_nodup : ∀ s : List Slot, (∀ (i j : Nat) (x y : Slot), s[i]? = some x → s[j]? = some y → x.uses ≠ 0 → y.uses ≠ 0 → x.text = y.text → i = j) → (usedT s).Nodup
  | [], _ => List.nodup_nil
  | y :: s, h => by
    have ih := usedT_nodup s fun i j a b ha hb h1 h2 h3 => by
      have := h (i + 1) (j + 1) a b (by simpa using ha) (by simpa using hb) h1 h2 h3
      omega
    rw [usedT_cons]
    split
    · exact ih
    · rename_i hy
      rw [List.nodup_cons]
      refine ⟨fun hm => ?_, ih⟩
      obtain ⟨m, x, hx, hu, ht⟩ := (usedT_mem s _).1 hm
      have := h 0 (m + 1) y x rfl (by simpa using hx) hy hu ht.symm
      omega
theorem cnt_mem {p : Int} {bs : List Int} (h : 0 < cnt p bs) : p ∈ bs := by
  induction bs with
  | nil => simp [cnt] at h
  | cons a bs ih =>
    simp only [cnt] at h
    by_cases e : a = p
    · subst e; exact List.mem_cons_self
    · rw [if_neg e] at h; exact List.mem_cons_of_mem _ (ih (by omega))
theorem uses_get {p : Int} {vs : List Vol} (h : 0 < uses p vs) : ∃ x ∈ vs, p ∈ x.blocks := by
  induction vs with
  | nil => simp [uses] at h
  | cons a vs ih =>
    simp only [uses] at h
    by_cases e : 0 < cnt p a.blocks
    · exact ⟨a, List.mem_cons_self, cnt_mem e⟩
    · obtain ⟨x, hx, h1⟩ := ih (by omega)
      exact ⟨x, List.mem_cons_of_mem _ hx, h1⟩
def allT (p : Pool) (vs : List Vol) : List ByteArray := vs.flatMap fun v => pieces p v.name
theorem kinds_eq {p : Pool} (hp : PoolP p) : (((allT p p.vols).foldl kstep []).length : Int) = 8 - freeN p.slots := by
  obtain ⟨h1, h2⟩ := kfold (allT p p.vols) [] List.nodup_nil
  have h3 : (usedT p.slots).Nodup := usedT_nodup _ fun i j x y hx hy hxu _ he => by
    refine hp.s.uniq i j x y hx hy he fun e => hxu ?_
    exact (hp.s.ok i x hx).2.2.2.1 e
  have h4 : ∀ t, t ∈ (allT p p.vols).foldl kstep [] ↔ t ∈ usedT p.slots := by
    intro t
    rw [h2, usedT_mem]
    simp only [List.not_mem_nil, false_or]
    constructor
    · rintro ⟨ht, hne⟩
      unfold allT at ht
      rw [List.mem_flatMap] at ht
      obtain ⟨v, hv, ht⟩ := ht
      unfold pieces at ht
      rw [blksOf_mem hp.v hv, List.mem_map] at ht
      obtain ⟨pl, hpl, rfl⟩ := ht
      by_cases h0 : 0 < pl
      · obtain ⟨y, hy, hu, _, he⟩ := hp.blkM hv hpl h0
        exact ⟨_, y, hy, by omega, he.symm⟩
      · unfold pc at hne; rw [if_neg h0] at hne; exact absurd rfl hne
    · rintro ⟨m, x, hx, hu, rfl⟩
      have hxo := hp.s.ok m x hx
      have hxu := hp.uses m x hx
      obtain ⟨v, hv, hpl⟩ := uses_get (p := (m : Int) + 1) (vs := p.vols) (by omega)
      refine ⟨?_, fun e => hu (hxo.2.2.2.1 e)⟩
      unfold allT
      rw [List.mem_flatMap]
      refine ⟨v, hv, ?_⟩
      unfold pieces
      rw [blksOf_mem hp.v hv, List.mem_map]
      refine ⟨_, hpl, ?_⟩
      unfold pc
      rw [if_pos (by omega), slotText_at (x := x) (by rw [show ((m : Int) + 1 - 1).toNat = m by omega]; exact hx)]
  have h5 := nodup_len _ _ h1 fun x hx => (h4 x).1 hx
  have h6 := nodup_len _ _ h3 fun x hx => (h4 x).2 hx
  have h7 := usedT_len p.slots
  rw [hp.s.len] at h7
  omega
end Go.Proofs.YtccllgpaafgjaaaGreat

namespace Go.Proofs.YtccllgpaafgjaaaGreat
open Go.RowKit Go.Proofs.YtccllgpaafgjaaaGreatW.PrintWords
end Go.Proofs.YtccllgpaafgjaaaGreat

namespace Go.Proofs.YtccllgpaafgjaaaGreat
open Go.RowKit Go.Proofs.YtccllgpaafgjaaaGreatW.PrintWords
end Go.Proofs.YtccllgpaafgjaaaGreat

namespace Go.Proofs.YtccllgpaafgjaaaGreat
open Go.RowKit Go.Proofs.YtccllgpaafgjaaaGreatW.PrintWords Go.Proofs.YtccllgpaafgjaaaGreatW.PrintLast
def NameV (v : Value) : Prop := ∃ s : ByteArray, v = .string s ∧ s.size ≤ 1048576
structure NmSt (w W : World) (rb k base : Nat) (v0 v1 : Value) (p : Pool) (bvs : List Value) : Prop where
  box : Blk W w.heap.size #[v0, v1] 42
  rd : Rd W rb k
  own : OwnP W base v0 v1 p bvs
  g : w.grownBy W (some rb)
  l3 : rb < w.heap.size
theorem NmSt.step {w W W' : World} {rb k k' base : Nat} {v0 v1 : Value} {p : Pool} {bvs : List Value} (h : NmSt w W rb k base v0 v1 p bvs) (hR : Rd W' rb k') (hg : W.grownBy W' (some rb)) : NmSt w W' rb k' base v0 v1 p bvs :=
  ⟨h.box.grown hg (fun e => by injection e with e; have := h.l3; omega), hR, h.own.rd h.rd hg, grown_tr h.g hg, h.l3⟩
theorem NmSt.bel {w W W' : World} {rb k base : Nat} {v0 v1 : Value} {p : Pool} {bvs : List Value} (h : NmSt w W rb k base v0 v1 p bvs) (hb : Bel W W') : NmSt w W' rb k base v0 v1 p bvs :=
  ⟨h.box.bel hb, h.rd.bel hb, h.own.bel hb, grown_tr h.g (grown_of_bel hb _), h.l3⟩
def five : List ByteArray := [sOf [65], sOf [66], sOf [67], sOf [68], sOf [69]]
end Go.Proofs.YtccllgpaafgjaaaGreat

namespace Go.Proofs.YtccllgpaafgjaaaGreat
open Go.RowKit Go.Proofs.YtccllgpaafgjaaaGreatW.PrintWords Go.Proofs.YtccllgpaafgjaaaGreatW.PrintLast
theorem bel_of_grown {w w1 w2 : World} (h : Bel w w1) {rb : Nat} (hg : w1.grownBy w2 (some rb)) (hr : w.heap.size ≤ rb) : Bel w w2 := h.grown hg h.size (fun k e => by injection e with e; omega)
/-- What DrawPoolText leaves. -/
def DrewT (w : World) (e : Ending) (w' : World) : Prop := ∃ (v0 v1 : Value) (p : Pool) (bvs : List Value), e = .returned (.agg #[v0, v1]) ∧ DrawnP p ∧ OwnP w' w.heap.size v0 v1 p bvs ∧ Bel w w'
structure DrSt (w W : World) (rb k : Nat) (v0 v1 : Value) (p : Pool) (bvs : List Value) (pb : Nat) : Prop where
  res : Blk W w.heap.size #[.slice none 0 0, .slice none 0 0] 42
  pool : Blk W pb #[v0, v1] 42
  rd : Rd W rb k
  own : OwnP W w.heap.size v0 v1 p bvs
  bel : Bel w W
  l1 : w.heap.size < rb
  l2 : rb < pb
theorem DrSt.step {w W W' : World} {rb k k' : Nat} {v0 v1 : Value} {p : Pool} {bvs : List Value} {pb : Nat} (h : DrSt w W rb k v0 v1 p bvs pb) (hR : Rd W' rb k') (hg : W.grownBy W' (some rb)) : DrSt w W' rb k' v0 v1 p bvs pb :=
  ⟨h.res.grown hg (fun e => by injection e with e; have := h.l1; omega), h.pool.grown hg (fun e => by injection e with e; have := h.l2; omega), hR, h.own.rd h.rd hg, bel_of_grown h.bel hg (Nat.le_of_lt h.l1), h.l1, h.l2⟩
theorem DrSt.below {w W W' : World} {rb k : Nat} {v0 v1 : Value} {p : Pool} {bvs : List Value} {pb : Nat} (h : DrSt w W rb k v0 v1 p bvs pb) (hb : Bel W W') : DrSt w W' rb k v0 v1 p bvs pb :=
  ⟨h.res.bel hb, h.pool.bel hb, h.rd.bel hb, h.own.bel hb, h.bel.tr hb, h.l1, h.l2⟩
/-- What DrawPoolGone leaves. -/
def DrewG (w : World) (e : Ending) (w' : World) : Prop := ∃ (v0 v1 : Value) (p : Pool) (bvs : List Value) (s : ByteArray), e = .returned (.tuple #[.agg #[v0, v1], .string s]) ∧ s.size ≤ 1048576 ∧ DrawnP p ∧ OwnP w' w.heap.size v0 v1 p bvs ∧ Bel w w'
end Go.Proofs.YtccllgpaafgjaaaGreat

namespace Go.Proofs.YtccllgpaafgjaaaGreat
open Go.RowKit Go.Proofs.YtccllgpaafgjaaaGreatW.PrintWords Go.Proofs.YtccllgpaafgjaaaGreatW.PrintLast
def eight : List ByteArray := [sOf [65], sOf [66], sOf [67], sOf [68], sOf [68], sOf [67], sOf [69], sOf []]
/-- What DrawPoolMake leaves. -/
def DrewM (w : World) (e : Ending) (w' : World) : Prop := ∃ (v0 v1 : Value) (p : Pool) (bvs : List Value) (s : ByteArray) (n : Int), e = .returned (.tuple #[.agg #[v0, v1], .string s, .int .i64 n]) ∧ s ∈ eight ∧ 1 ≤ n ∧ n ≤ 100 ∧ DrawnP p ∧ OwnP w' w.heap.size v0 v1 p bvs ∧ Bel w w'
end Go.Proofs.YtccllgpaafgjaaaGreat

namespace Go.Proofs.YtccllgpaafgjaaaGreat
open Go.RowKit Go.Proofs.YtccllgpaafgjaaaGreatW.PrintWords Go.Proofs.YtccllgpaafgjaaaGreatW.PrintLast
/-- What DrawPoolClone leaves. -/
def DrewC (w : World) (e : Ending) (w' : World) : Prop := ∃ (v0 v1 : Value) (p : Pool) (bvs : List Value) (s d : ByteArray), e = .returned (.tuple #[.agg #[v0, v1], .string s, .string d]) ∧ s.size ≤ 1048576 ∧ d ∈ five ∧ DrawnP p ∧ OwnP w' w.heap.size v0 v1 p bvs ∧ Bel w w'
end Go.Proofs.YtccllgpaafgjaaaGreat

namespace Go.Proofs.YtccllgpaafgjaaaGreat
open Go.RowKit Go.Proofs.YtccllgpaafgjaaaGreatW.PrintWords
def four : List ByteArray := [sOf [97], sOf [98, 99, 100], sOf [], sOf [100, 100]]
def fourB : List ByteArray := [sOf [97], sOf [98, 98], sOf [], sOf [99, 100]]
/-! ### gone -/
/-! ### make -/
/-! ### clone -/
/-! ### write -/
end Go.Proofs.YtccllgpaafgjaaaGreat

namespace Go.Proofs.YtccllgpaafgjaaaGreat
open Go.RowKit Go.Proofs.YtccllgpaafgjaaaGreatW.PrintWords Go.Proofs.YtccllgpaafgjaaaGreatW.PrintLast
/-- What DrawPoolWrite leaves. -/
def DrewW (w : World) (e : Ending) (w' : World) : Prop := ∃ (v0 v1 : Value) (p : Pool) (bvs : List Value) (s : ByteArray) (n : Int) (tx : ByteArray), e = .returned (.tuple #[.agg #[v0, v1], .string s, .int .i64 n, .string tx]) ∧ s.size ≤ 1048576 ∧ -100 ≤ n ∧ n ≤ 100 ∧ tx.size ≤ 1048576 ∧ DrawnP p ∧ OwnP w' w.heap.size v0 v1 p bvs ∧ Bel w w'
end Go.Proofs.YtccllgpaafgjaaaGreat

namespace Go.Proofs.YtccllgpaafgjaaaGreat
open Go.RowKit Go.Proofs.YtccllgpaafgjaaaGreatW.PrintWords
/-- A new pool and whether all went well. -/
def NewP (w : World) (q : Pool) (ok : Bool) (e : Ending) (w' : World) : Prop := ∃ A0 A1 c0 c1, e = .returned (.tuple #[.agg #[.slice A0 q.slots.length c0, .slice A1 q.vols.length c1], .bool ok]) ∧ PoolIn w' A0 A1 c0 c1 q ∧ Bel w w'
theorem MadePB.new {w : World} {q : Pool} {ok : Bool} {e : Ending} {w' : World} (h : MadePB w q ok e w') : NewP w q ok e w' := by
  obtain ⟨v0, v1, bvs, rfl, ho, hb⟩ := h
  obtain ⟨A0, A1, c0, c1, rfl, rfl, hi⟩ := ho.reads
  exact ⟨A0, A1, c0, c1, rfl, hi, hb⟩
/-- A pool in a variable. -/
structure PVar (w : World) (b : Nat) (A0 A1 : Option Addr) (c0 c1 : Nat) (q : Pool) : Prop where
  blk : Blk w b #[.slice A0 q.slots.length c0, .slice A1 q.vols.length c1] 42
  inn : PoolIn w A0 A1 c0 c1 q
theorem PVar.bel {w w' : World} {b : Nat} {A0 A1 : Option Addr} {c0 c1 : Nat} {q : Pool} (h : PVar w b A0 A1 c0 c1 q) (hb : Bel w w') : PVar w' b A0 A1 c0 c1 q := ⟨h.blk.bel hb, h.inn.bel hb⟩
theorem PVar.new {w : World} {A0 A1 : Option Addr} {c0 c1 : Nat} {q : Pool} (h : PoolIn w A0 A1 c0 c1 q) : PVar (w.alloc (.cells #[.slice A0 q.slots.length c0, .slice A1 q.vols.length c1] 42)) w.heap.size A0 A1 c0 c1 q := ⟨Blk.new _ _ _, h.alloc _⟩
theorem PVar.c0 {w : World} {b : Nat} {A0 A1 : Option Addr} {c0 c1 : Nat} {q : Pool} (h : PVar w b A0 A1 c0 c1 q) : w.cell? ⟨b, 0, none⟩ = some (.slice A0 q.slots.length c0) := by have := h.blk.cell 0; simpa using this
theorem PVar.c1 {w : World} {b : Nat} {A0 A1 : Option Addr} {c0 c1 : Nat} {q : Pool} (h : PVar w b A0 A1 c0 c1 q) : w.cell? ⟨b, 1, none⟩ = some (.slice A1 q.vols.length c1) := by have := h.blk.cell 1; simpa using this
theorem PVar.lt {w : World} {b : Nat} {A0 A1 : Option Addr} {c0 c1 : Nat} {q : Pool} (h : PVar w b A0 A1 c0 c1 q) : b < w.heap.size := h.blk.lt
/-! ### cases of a change -/
section
variable {w : World} {A0 A1 : Option Addr} {c0 c1 : Nat} {p q : Pool} {ok : Bool}
abbrev poolV (A0 A1 : Option Addr) (c0 c1 : Nat) (p : Pool) : Value := .agg #[.slice A0 p.slots.length c0, .slice A1 p.vols.length c1]
theorem implOk_n {b : Bool} (h : PoolIn w A0 A1 c0 c1 p) (hs : SmallP p) (he : poolOk p = b) :
    Calls Tryz.prog 58 #[.agg #[.slice A0 p.slots.length c0, .slice A1 p.vols.length c1]] w (Ret (.bool b) w) := he ▸ implPoolOk_in h hs
theorem free_n {n : Int} (h : PoolIn w A0 A1 c0 c1 p) (hs : SmallP p) (he : storeFree p.slots = n) :
    Calls Tryz.prog 59 #[.slice A0 p.slots.length c0] w (Ret (.int .i64 n) w) := he ▸ storeFree_c p.slots A0 c0 w h.s h.sc hs.slots
theorem read_n {t : ByteArray} {b : Int} {u : ByteArray} {ok : Bool} (h : PoolIn w A0 A1 c0 c1 p) (hs : SmallP p) (he : readV p t b = u ∧ readOk p t b = ok) :
    Calls Tryz.prog 123 #[.agg #[.slice A0 p.slots.length c0, .slice A1 p.vols.length c1], .string t, .int .i64 b] w (Ret (.tuple #[.string u, .bool ok]) w) := he.1 ▸ he.2 ▸ poolRead_c h hs t b
end
/-! ### drawn pools -/
def DrewG' (w : World) (e : Ending) (w' : World) : Prop := ∃ A0 A1 c0 c1, ∃ (p : Pool) (s : ByteArray), e = .returned (.tuple #[.agg #[.slice A0 p.slots.length c0, .slice A1 p.vols.length c1], .string s]) ∧ s.size ≤ 1048576 ∧ DrawnP p ∧ PoolIn w' A0 A1 c0 c1 p ∧ Bel w w'
theorem DrewG.new {w : World} {e : Ending} {w' : World} (h : DrewG w e w') : DrewG' w e w' := by
  obtain ⟨v0, v1, p, bvs, s, rfl, hs, hp, ho, hb⟩ := h
  obtain ⟨A0, A1, c0, c1, rfl, rfl, hi⟩ := ho.reads
  exact ⟨A0, A1, c0, c1, p, s, rfl, hs, hp, hi, hb⟩
def DrewT' (w : World) (e : Ending) (w' : World) : Prop := ∃ A0 A1 c0 c1, ∃ (p : Pool), e = .returned (.agg #[.slice A0 p.slots.length c0, .slice A1 p.vols.length c1]) ∧ DrawnP p ∧ PoolIn w' A0 A1 c0 c1 p ∧ Bel w w'
theorem DrewT.new {w : World} {e : Ending} {w' : World} (h : DrewT w e w') : DrewT' w e w' := by
  obtain ⟨v0, v1, p, bvs, rfl, hp, ho, hb⟩ := h
  obtain ⟨A0, A1, c0, c1, rfl, rfl, hi⟩ := ho.reads
  exact ⟨A0, A1, c0, c1, p, rfl, hp, hi, hb⟩
def DrewM' (w : World) (e : Ending) (w' : World) : Prop := ∃ A0 A1 c0 c1, ∃ (p : Pool) (s : ByteArray) (n : Int), e = .returned (.tuple #[.agg #[.slice A0 p.slots.length c0, .slice A1 p.vols.length c1], .string s, .int .i64 n]) ∧ s ∈ eight ∧ 1 ≤ n ∧ n ≤ 100 ∧ DrawnP p ∧ PoolIn w' A0 A1 c0 c1 p ∧ Bel w w'
theorem DrewM.new {w : World} {e : Ending} {w' : World} (h : DrewM w e w') : DrewM' w e w' := by
  obtain ⟨v0, v1, p, bvs, s, n, rfl, hs, h1, h2, hp, ho, hb⟩ := h
  obtain ⟨A0, A1, c0, c1, rfl, rfl, hi⟩ := ho.reads
  exact ⟨A0, A1, c0, c1, p, s, n, rfl, hs, h1, h2, hp, hi, hb⟩
def DrewC' (w : World) (e : Ending) (w' : World) : Prop := ∃ A0 A1 c0 c1, ∃ (p : Pool) (s d : ByteArray), e = .returned (.tuple #[.agg #[.slice A0 p.slots.length c0, .slice A1 p.vols.length c1], .string s, .string d]) ∧ s.size ≤ 1048576 ∧ d ∈ five ∧ DrawnP p ∧ PoolIn w' A0 A1 c0 c1 p ∧ Bel w w'
theorem DrewC.new {w : World} {e : Ending} {w' : World} (h : DrewC w e w') : DrewC' w e w' := by
  obtain ⟨v0, v1, p, bvs, s, d, rfl, hs, hd, hp, ho, hb⟩ := h
  obtain ⟨A0, A1, c0, c1, rfl, rfl, hi⟩ := ho.reads
  exact ⟨A0, A1, c0, c1, p, s, d, rfl, hs, hd, hp, hi, hb⟩
def DrewW' (w : World) (e : Ending) (w' : World) : Prop := ∃ A0 A1 c0 c1, ∃ (p : Pool) (s : ByteArray) (n : Int) (tx : ByteArray), e = .returned (.tuple #[.agg #[.slice A0 p.slots.length c0, .slice A1 p.vols.length c1], .string s, .int .i64 n, .string tx]) ∧ s.size ≤ 1048576 ∧ -100 ≤ n ∧ n ≤ 100 ∧ tx.size ≤ 1048576 ∧ DrawnP p ∧ PoolIn w' A0 A1 c0 c1 p ∧ Bel w w'
theorem DrewW.new {w : World} {e : Ending} {w' : World} (h : DrewW w e w') : DrewW' w e w' := by
  obtain ⟨v0, v1, p, bvs, s, n, tx, rfl, hs, h1, h2, ht, hp, ho, hb⟩ := h
  obtain ⟨A0, A1, c0, c1, rfl, rfl, hi⟩ := ho.reads
  exact ⟨A0, A1, c0, c1, p, s, n, tx, rfl, hs, h1, h2, ht, hp, hi, hb⟩
/-! ### StoreFind -/
def findB (s : List Slot) (t : ByteArray) : Bool := storeOk s && (tOk t && !t.toList.isEmpty)
def FoundB (s : List Slot) (t : ByteArray) (w : World) (e : Ending) (w' : World) : Prop := ∃ n : Int, e = .returned (.tuple #[.int .i64 n, .bool (findB s t && there s t)]) ∧ Bel w w'
end Go.Proofs.YtccllgpaafgjaaaGreat

namespace Go.Proofs.YtccllgpaafgjaaaGreat
open Go.RowKit Go.Proofs.YtccllgpaafgjaaaGreatW.PrintWords
section
variable {w : World} {A B C : Option Addr} {a b c : Nat} {l x : Log} {q : Pool} {ok : Bool}
theorem implLogOk_n (h : LogIn w A B C a b c l) (hs : SmallL l) (he : logOk l = ok) : Calls Tryz.prog 37 #[.agg #[.slice A l.base.slots.length a, .slice B l.base.vols.length b, .slice C l.ops.length c, .int .i64 l.safe]] w (Ret (.bool ok) w) := he ▸ implLogOk_c h hs
theorem specLogOk_n (h : LogIn w A B C a b c l) (hs : SmallL l) (he : logOk l = ok) : Calls Tryz.prog 34 #[.agg #[.slice A l.base.slots.length a, .slice B l.base.vols.length b, .slice C l.ops.length c, .int .i64 l.safe]] w (Ret (.bool ok) w) := he ▸ specLogOk_c h hs
theorem implLogPool_n (h : LogIn w A B C a b c l) (hs : SmallL l) (he : poolF l = q) : Calls Tryz.prog 36 #[.agg #[.slice A l.base.slots.length a, .slice B l.base.vols.length b, .slice C l.ops.length c, .int .i64 l.safe]] w (NewP1 w q) := (he ▸ implLogPool_c h hs).mono fun _ _ h => h.new1
theorem specLogPool_n (h : LogIn w A B C a b c l) (hs : SmallL l) (he : poolF l = q) : Calls Tryz.prog 57 #[.agg #[.slice A l.base.slots.length a, .slice B l.base.vols.length b, .slice C l.ops.length c, .int .i64 l.safe]] w (NewP1 w q) := (he ▸ specLogPool_c h hs).mono fun _ _ h => h.new1
theorem implLogFall_n {left : Int} (h : LogIn w A B C a b c l) (hs : SmallL l) (he : fallF l left = x) : Calls Tryz.prog 53 #[.agg #[.slice A l.base.slots.length a, .slice B l.base.vols.length b, .slice C l.ops.length c, .int .i64 l.safe], .int .i64 left] w (NewL w x) := (he ▸ implLogFall_c h hs).mono fun _ _ h => h.new
theorem specLogFall_n {left : Int} (h : LogIn w A B C a b c l) (hs : SmallL l) (he : fallF l left = x) : Calls Tryz.prog 55 #[.agg #[.slice A l.base.slots.length a, .slice B l.base.vols.length b, .slice C l.ops.length c, .int .i64 l.safe], .int .i64 left] w (NewL w x) := he ▸ specLogFall_c h hs
end
theorem poolF_small {l : Log} : SmallP (poolF l) := by
  unfold poolF
  split
  · exact runV_small
  · exact noP_small
theorem fallF_small {l : Log} {left : Int} (h : SmallL l) : SmallL (fallF l left) := by
  unfold fallF
  split
  · exact ⟨h.base, h.ops.take _⟩
  · exact noL_small
theorem LogP.fallX {l : Log} {q : Pool} (h : LogP l q) {left : Int} (hl : 0 ≤ left) : ∃ tk r, fallF l left = ⟨l.base, tk, l.safe⟩ ∧ LogP ⟨l.base, tk, l.safe⟩ r ∧ l.ops.take tk.length = tk ∧ tk.length ≤ l.ops.length ∧ l.safe ≤ tk.length ∧ (tk.length : Int) = max l.safe (min left l.ops.length) := by
  have hc := h.cut hl
  obtain ⟨r, hr⟩ := h.fall hl
  have he := h.fallE hl
  rw [he] at hr
  have hk : (l.ops.take (cutL l left)).length = cutL l left := by rw [List.length_take]; omega
  refine ⟨_, r, he, hr, by rw [hk], by rw [hk]; exact hc.2.1, by rw [hk]; exact hc.1, by rw [hk]; exact hc.2.2⟩
theorem LogIn.dropTo {w : World} {A B C : Option Addr} {a b c : Nat} {l : Log} (h : LogIn w A B C a b c l) {k : Nat} (hk : k ≤ l.ops.length) {os : List Op} (ho : l.ops.drop k = os) :
    ∃ (D : Option Addr) (d : Nat), Value.slice (if c = k then C else Option.map (fun x => x.add (k * 5)) C) (l.ops.length - k) (c - k) = .slice D os.length d ∧ os.length ≤ d ∧ kOp.C w D os.length os := by
  subst ho
  refine ⟨_, c - k, ?_, ?_, Kd.C_drop (c := c) h.o hk h.oc⟩
  · rw [List.length_drop]; rfl
  · rw [List.length_drop]; have := h.oc; omega
end Go.Proofs.YtccllgpaafgjaaaGreat

namespace Go.Proofs.YtccllgpaafgjaaaGreat
open Go.RowKit Go.Proofs.YtccllgpaafgjaaaGreatW.PrintWords Go.Proofs.YtccllgpaafgjaaaGreatW.PrintLast
theorem kOp_keep {w w' : World} {A : Option Addr} {n : Nat} {os : List Op} (h : kOp.C w A n os) (hb : Bel w w') : kOp.C w' A n os := Kd.C_below h hb
section
variable {w : World} {A B C : Option Addr} {a b c : Nat} {l : Log}
theorem keepF_no (h : logOk l = false) : keepF l = noL := by unfold keepF; rw [h]; rfl
theorem keepF_yes (h : logOk l = true) : keepF l = ⟨l.base, l.ops, l.ops.length⟩ := by unfold keepF; rw [h]; rfl
set_option maxHeartbeats 8000000 in
theorem implLogKeep_c (h : LogIn w A B C a b c l) (hs : SmallL l) :
    Calls Tryz.prog 51 #[.agg #[.slice A l.base.slots.length a, .slice B l.base.vols.length b, .slice C l.ops.length c, .int .i64 l.safe]] w (NewL w (keepF l)) := by
  have HI := Lib.hid h
  have HS := Lib.hid hs
  obtain ⟨x, hx⟩ : ∃ x, keepF l = x := ⟨_, rfl⟩
  rw [hx]
  clear h hs
  go_enter Tryz.func51, Tryz.ntmps51
  go_wp2_with fail
  have hV := (LVar.new HI.out).bel (bel_alloc (Below.refl _ _) (.cells #[.slice none 0 0, .slice none 0 0, .slice none 0 0, .int .i64 0] 44))
  have hR : Blk ((w.alloc (.cells #[.slice A l.base.slots.length a, .slice B l.base.vols.length b, .slice C l.ops.length c, .int .i64 l.safe] 44)).alloc (.cells #[.slice none 0 0, .slice none 0 0, .slice none 0 0, .int .i64 0] 44)) (w.heap.size + 1) #[.slice none 0 0, .slice none 0 0, .slice none 0 0, .int .i64 0] 44 := Blk.nw2 _ _ _ _
  have hW : Bel w ((w.alloc (.cells #[.slice A l.base.slots.length a, .slice B l.base.vols.length b, .slice C l.ops.length c, .int .i64 l.safe] 44)).alloc (.cells #[.slice none 0 0, .slice none 0 0, .slice none 0 0, .int .i64 0] 44)) := bel_alloc (bel_alloc (Below.refl _ _) _) _
  generalize ((w.alloc (.cells #[.slice A l.base.slots.length a, .slice B l.base.vols.length b, .slice C l.ops.length c, .int .i64 l.safe] 44)).alloc (.cells #[.slice none 0 0, .slice none 0 0, .slice none 0 0, .int .i64 0] 44)) = W0 at hV hR hW ⊢
  have HK := Lib.hid (implLogOk_c hV.inn HS.out)
  cases hok : logOk l with
  | false =>
    obtain rfl : noL = x := by rw [← hx, keepF_no hok]
    rw [hok] at HK
    clear hok hx
    refine HK.out.mono ?_
    rintro e w1 ⟨rfl, hb1⟩
    have HR := Lib.hid (hR.bel hb1)
    have HB := Lib.hid (hW.tr hb1)
    clear hV hR hb1 hW
    have r0 := HR.out.cell 0
    have r1 := HR.out.cell 1
    have r2 := HR.out.cell 2
    have r3 := HR.out.cell 3
    have f0 := HR.out.free 0
    have f1 := HR.out.free 1
    have f2 := HR.out.free 2
    have f3 := HR.out.free 3
    have ry := HR.out.lt
    simp at r0 r1 r2 r3
    go_wp2
    have hR4 := HR.out.set4 (.slice none 0 0) (.slice none 0 0) (.slice none 0 0) (.int .i64 0)
    refine bodyPost_ret (results_cell_row rfl _ _ (w.heap.size + 1) 44 #[.slice none 0 0, .slice none 0 0, .slice none 0 0, .int .i64 0] (0, 0) _ rfl hR4 Tryz.underlying44 rfl (by kernel_rfl)) rfl ?_
    exact ⟨none, none, none, 0, 0, 0, rfl, noL_in _, bel_set4 HB.out (Nat.le_succ _) _ _ _ _⟩
  | true =>
    obtain rfl : ⟨l.base, l.ops, l.ops.length⟩ = x := by rw [← hx, keepF_yes hok]
    rw [hok] at HK
    clear hok hx
    refine HK.out.mono ?_
    rintro e w1 ⟨rfl, hb1⟩
    have KV := Lib.hid (hV.bel hb1)
    have KR := Lib.hid (hR.bel hb1)
    have KW := Lib.hid (hW.tr hb1)
    clear hV hR hb1 hW
    have q0 := KV.out.c0
    have q1 := KV.out.c1
    have q2 := KV.out.c2
    have q3 := KV.out.c3
    have y := KV.out.lt
    go_wp2_with fail
    clear q0 q1 q2 q3 y
    refine (implLogClone_c KV.out.inn HS.out).mono ?_
    rintro e w2 ⟨A2, B2, C2, a2, b2, c2, bvs, rfl, hp, ho, hb2⟩
    have HR := Lib.hid (KR.out.bel hb2)
    have hsz := KW.out.size
    replace KW := Lib.hid (KW.out.tr hb2)
    have HP := Lib.hid (hp.lower hsz)
    have HO := Lib.hid (show OwnO w2 w.heap.size (.slice C2 l.ops.length c2) l.ops from own_lower ho hsz)
    clear hp ho hb2 hsz
    have r0 := HR.out.cell 0
    have r1 := HR.out.cell 1
    have r2 := HR.out.cell 2
    have r3 := HR.out.cell 3
    have f0 := HR.out.free 0
    have f1 := HR.out.free 1
    have f2 := HR.out.free 2
    have f3 := HR.out.free 3
    have ry := HR.out.lt
    simp at r0 r1 r2 r3
    have hne : ¬ w2.heap.size = w.heap.size + 1 := by omega
    have hne2 : ¬ w.heap.size + 1 = w2.heap.size := by omega
    go_wp2
    have hR4 := HR.out.set4 (.slice A2 l.base.slots.length a2) (.slice B2 l.base.vols.length b2) (.slice C2 l.ops.length c2) (.int .i64 l.ops.length)
    have hP4 := HP.out.far4 HR.out (.slice A2 l.base.slots.length a2) (.slice B2 l.base.vols.length b2) (.slice C2 l.ops.length c2) (.int .i64 l.ops.length)
    have hO4 := OwnO.far4 HO.out HR.out (.slice A2 l.base.slots.length a2) (.slice B2 l.base.vols.length b2) (.slice C2 l.ops.length c2) (.int .i64 l.ops.length)
    have hb4 := bel_set4 KW.out (Nat.le_succ _) (.slice A2 l.base.slots.length a2) (.slice B2 l.base.vols.length b2) (.slice C2 l.ops.length c2) (.int .i64 l.ops.length)
    refine bodyPost_ret (results_cell_row rfl _ _ (w.heap.size + 1) 44 #[.slice A2 l.base.slots.length a2, .slice B2 l.base.vols.length b2, .slice C2 l.ops.length c2, .int .i64 l.ops.length] (0, 0) _ rfl (hR4.alloc _) Tryz.underlying44 rfl (by kernel_rfl)) rfl ?_
    exact ⟨A2, B2, C2, a2, b2, c2, rfl, ⟨hP4.inn.alloc _, kOp_alloc (hO4.innC rfl).2 _, (hO4.innC rfl).1⟩, bel_alloc hb4 _⟩
set_option maxHeartbeats 8000000 in
theorem specLogKeep_c (h : LogIn w A B C a b c l) (hs : SmallL l) :
    Calls Tryz.prog 52 #[.agg #[.slice A l.base.slots.length a, .slice B l.base.vols.length b, .slice C l.ops.length c, .int .i64 l.safe]] w (NewL w (keepF l)) := by
  have HI := Lib.hid h
  have HS := Lib.hid hs
  obtain ⟨x, hx⟩ : ∃ x, keepF l = x := ⟨_, rfl⟩
  rw [hx]
  clear h hs
  go_enter Tryz.func52, Tryz.ntmps52
  go_wp2_with fail
  have hV := (LVar.new HI.out).bel (bel_alloc (Below.refl _ _) (.cells #[.slice none 0 0, .slice none 0 0, .slice none 0 0, .int .i64 0] 44))
  have hR : Blk ((w.alloc (.cells #[.slice A l.base.slots.length a, .slice B l.base.vols.length b, .slice C l.ops.length c, .int .i64 l.safe] 44)).alloc (.cells #[.slice none 0 0, .slice none 0 0, .slice none 0 0, .int .i64 0] 44)) (w.heap.size + 1) #[.slice none 0 0, .slice none 0 0, .slice none 0 0, .int .i64 0] 44 := Blk.nw2 _ _ _ _
  have hW : Bel w ((w.alloc (.cells #[.slice A l.base.slots.length a, .slice B l.base.vols.length b, .slice C l.ops.length c, .int .i64 l.safe] 44)).alloc (.cells #[.slice none 0 0, .slice none 0 0, .slice none 0 0, .int .i64 0] 44)) := bel_alloc (bel_alloc (Below.refl _ _) _) _
  generalize ((w.alloc (.cells #[.slice A l.base.slots.length a, .slice B l.base.vols.length b, .slice C l.ops.length c, .int .i64 l.safe] 44)).alloc (.cells #[.slice none 0 0, .slice none 0 0, .slice none 0 0, .int .i64 0] 44)) = W0 at hV hR hW ⊢
  have HK := Lib.hid (specLogOk_c hV.inn HS.out)
  cases hok : logOk l with
  | false =>
    obtain rfl : noL = x := by rw [← hx, keepF_no hok]
    rw [hok] at HK
    clear hok hx
    refine HK.out.mono ?_
    rintro e w1 ⟨rfl, hb1⟩
    have HR := Lib.hid (hR.bel hb1)
    have HB := Lib.hid (hW.tr hb1)
    clear hV hR hb1 hW
    have r0 := HR.out.cell 0
    have r1 := HR.out.cell 1
    have r2 := HR.out.cell 2
    have r3 := HR.out.cell 3
    have f0 := HR.out.free 0
    have f1 := HR.out.free 1
    have f2 := HR.out.free 2
    have f3 := HR.out.free 3
    have ry := HR.out.lt
    simp at r0 r1 r2 r3
    go_wp2
    have hR4 := HR.out.set4 (.slice none 0 0) (.slice none 0 0) (.slice none 0 0) (.int .i64 0)
    refine bodyPost_ret (results_cell_row rfl _ _ (w.heap.size + 1) 44 #[.slice none 0 0, .slice none 0 0, .slice none 0 0, .int .i64 0] (0, 0) _ rfl hR4 Tryz.underlying44 rfl (by kernel_rfl)) rfl ?_
    exact ⟨none, none, none, 0, 0, 0, rfl, noL_in _, bel_set4 HB.out (Nat.le_succ _) _ _ _ _⟩
  | true =>
    obtain rfl : ⟨l.base, l.ops, l.ops.length⟩ = x := by rw [← hx, keepF_yes hok]
    rw [hok] at HK
    clear hok hx
    refine HK.out.mono ?_
    rintro e w1 ⟨rfl, hb1⟩
    have KV := Lib.hid (hV.bel hb1)
    have KR := Lib.hid (hR.bel hb1)
    have KW := Lib.hid (hW.tr hb1)
    clear hV hR hb1 hW
    have q0 := KV.out.c0
    have q1 := KV.out.c1
    have q2 := KV.out.c2
    have q3 := KV.out.c3
    have y := KV.out.lt
    go_wp2_with fail
    clear q0 q1 q2 q3 y
    refine (l13Copy_c KV.out.inn HS.out).mono ?_
    rintro e w2 ⟨A2, B2, C2, a2, b2, c2, bvs, rfl, hp, ho, hb2⟩
    have HR := Lib.hid (KR.out.bel hb2)
    have hsz := KW.out.size
    replace KW := Lib.hid (KW.out.tr hb2)
    have HP := Lib.hid (hp.lower hsz)
    have HO := Lib.hid (show OwnO w2 w.heap.size (.slice C2 l.ops.length c2) l.ops from own_lower ho hsz)
    clear hp ho hb2 hsz
    have r0 := HR.out.cell 0
    have r1 := HR.out.cell 1
    have r2 := HR.out.cell 2
    have r3 := HR.out.cell 3
    have f0 := HR.out.free 0
    have f1 := HR.out.free 1
    have f2 := HR.out.free 2
    have f3 := HR.out.free 3
    have ry := HR.out.lt
    simp at r0 r1 r2 r3
    have hne : ¬ w2.heap.size = w.heap.size + 1 := by omega
    have hne2 : ¬ w.heap.size + 1 = w2.heap.size := by omega
    go_wp2
    have hR4 := HR.out.set4 (.slice A2 l.base.slots.length a2) (.slice B2 l.base.vols.length b2) (.slice C2 l.ops.length c2) (.int .i64 l.ops.length)
    have hP4 := HP.out.far4 HR.out (.slice A2 l.base.slots.length a2) (.slice B2 l.base.vols.length b2) (.slice C2 l.ops.length c2) (.int .i64 l.ops.length)
    have hO4 := OwnO.far4 HO.out HR.out (.slice A2 l.base.slots.length a2) (.slice B2 l.base.vols.length b2) (.slice C2 l.ops.length c2) (.int .i64 l.ops.length)
    have hb4 := bel_set4 KW.out (Nat.le_succ _) (.slice A2 l.base.slots.length a2) (.slice B2 l.base.vols.length b2) (.slice C2 l.ops.length c2) (.int .i64 l.ops.length)
    refine bodyPost_ret (results_cell_row rfl _ _ (w.heap.size + 1) 44 #[.slice A2 l.base.slots.length a2, .slice B2 l.base.vols.length b2, .slice C2 l.ops.length c2, .int .i64 l.ops.length] (0, 0) _ rfl (hR4.alloc _) Tryz.underlying44 rfl (by kernel_rfl)) rfl ?_
    exact ⟨A2, B2, C2, a2, b2, c2, rfl, ⟨hP4.inn.alloc _, kOp_alloc (hO4.innC rfl).2 _, (hO4.innC rfl).1⟩, bel_alloc hb4 _⟩
set_option maxHeartbeats 8000000 in
theorem implLogPack_no (h : LogIn w A B C a b c l) (hs : SmallL l) (hok0 : logOk l = false) :
    Calls Tryz.prog 31 #[.agg #[.slice A l.base.slots.length a, .slice B l.base.vols.length b, .slice C l.ops.length c, .int .i64 l.safe]] w (NewL w noL) := by
  have HOK := Lib.hid hok0
  have HI := Lib.hid h
  have HS := Lib.hid hs
  obtain ⟨x, hx⟩ : ∃ x, packF l = x := ⟨_, rfl⟩
  obtain rfl : noL = x := by rw [← hx, packF_no hok0]
  clear h hs hok0 hx
  go_enter Tryz.func31, Tryz.ntmps31
  go_wp2_with fail
  have hV := (LVar.new HI.out).bel (bel_alloc (Below.refl _ _) (.cells #[.slice none 0 0, .slice none 0 0, .slice none 0 0, .int .i64 0] 44))
  have hR : Blk ((w.alloc (.cells #[.slice A l.base.slots.length a, .slice B l.base.vols.length b, .slice C l.ops.length c, .int .i64 l.safe] 44)).alloc (.cells #[.slice none 0 0, .slice none 0 0, .slice none 0 0, .int .i64 0] 44)) (w.heap.size + 1) #[.slice none 0 0, .slice none 0 0, .slice none 0 0, .int .i64 0] 44 := Blk.nw2 _ _ _ _
  have hW : Bel w ((w.alloc (.cells #[.slice A l.base.slots.length a, .slice B l.base.vols.length b, .slice C l.ops.length c, .int .i64 l.safe] 44)).alloc (.cells #[.slice none 0 0, .slice none 0 0, .slice none 0 0, .int .i64 0] 44)) := bel_alloc (bel_alloc (Below.refl _ _) _) _
  generalize ((w.alloc (.cells #[.slice A l.base.slots.length a, .slice B l.base.vols.length b, .slice C l.ops.length c, .int .i64 l.safe] 44)).alloc (.cells #[.slice none 0 0, .slice none 0 0, .slice none 0 0, .int .i64 0] 44)) = W0 at hV hR hW ⊢
  have HK := Lib.hid (implLogOk_c hV.inn HS.out)
  rw [HOK.out] at HK
  refine HK.out.mono ?_
  rintro e w1 ⟨rfl, hb1⟩
  have HR := Lib.hid (hR.bel hb1)
  have HB := Lib.hid (hW.tr hb1)
  clear hV hR hb1 hW
  have r0 := HR.out.cell 0
  have r1 := HR.out.cell 1
  have r2 := HR.out.cell 2
  have r3 := HR.out.cell 3
  have f0 := HR.out.free 0
  have f1 := HR.out.free 1
  have f2 := HR.out.free 2
  have f3 := HR.out.free 3
  have ry := HR.out.lt
  simp at r0 r1 r2 r3
  go_wp2
  have hR4 := HR.out.set4 (.slice none 0 0) (.slice none 0 0) (.slice none 0 0) (.int .i64 0)
  refine bodyPost_ret (results_cell_row rfl _ _ (w.heap.size + 1) 44 #[.slice none 0 0, .slice none 0 0, .slice none 0 0, .int .i64 0] (0, 0) _ rfl hR4 Tryz.underlying44 rfl (by kernel_rfl)) rfl ?_
  exact ⟨none, none, none, 0, 0, 0, rfl, noL_in _, bel_set4 HB.out (Nat.le_succ _) _ _ _ _⟩
set_option maxHeartbeats 16000000 in
set_option maxRecDepth 10000 in
theorem implLogPack_yes {p q r : Pool} {os : List Op} {sn : Nat} (h : LogIn w A B C a b c ⟨p, os, sn⟩) (hs : SmallL ⟨p, os, sn⟩) (hq : LogP ⟨p, os, sn⟩ q) (hr : runP p (os.take sn) = some r) :
    Calls Tryz.prog 31 #[.agg #[.slice A p.slots.length a, .slice B p.vols.length b, .slice C os.length c, .int .i64 (sn : Int)]] w (NewL w ⟨r, os.drop sn, 0⟩) := by
  have HI := Lib.hid h
  have HS := Lib.hid hs
  have HOK := Lib.hid hq.ok
  have HV := Lib.hid (show PoolP p from hq.base)
  have hrv := runV_ok (show PoolP p from hq.base) hr
  have HRR := Lib.hid hrv
  have h20 : os.length ≤ 20 := hq.len
  have hsl : sn ≤ os.length := by have := hq.s1; simpa using this
  have hlk : (os.take sn).length = sn := by rw [List.length_take]; omega
  have HLK := Lib.hid hlk
  obtain ⟨dk, hdk⟩ : ∃ dk, os.drop sn = dk := ⟨_, rfl⟩
  have HDK := Lib.hid hdk
  rw [hdk]
  have hdl : dk.length = os.length - sn := by rw [← hdk, List.length_drop]
  have HDL := Lib.hid hdl
  clear h hs hq hr hlk hrv hdk hdl
  go_enter Tryz.func31, Tryz.ntmps31
  go_wp2_with fail
  have hV : LVar ((w.alloc (.cells #[.slice A p.slots.length a, .slice B p.vols.length b, .slice C os.length c, .int .i64 (sn : Int)] 44)).alloc (.cells #[.slice none 0 0, .slice none 0 0, .slice none 0 0, .int .i64 0] 44)) w.heap.size A B C a b c ⟨p, os, sn⟩ := (LVar.new HI.out).bel (bel_alloc (Below.refl _ _) (.cells #[.slice none 0 0, .slice none 0 0, .slice none 0 0, .int .i64 0] 44))
  have hR : Blk ((w.alloc (.cells #[.slice A p.slots.length a, .slice B p.vols.length b, .slice C os.length c, .int .i64 (sn : Int)] 44)).alloc (.cells #[.slice none 0 0, .slice none 0 0, .slice none 0 0, .int .i64 0] 44)) (w.heap.size + 1) #[.slice none 0 0, .slice none 0 0, .slice none 0 0, .int .i64 0] 44 := Blk.nw2 _ _ _ _
  have hW : Bel w ((w.alloc (.cells #[.slice A p.slots.length a, .slice B p.vols.length b, .slice C os.length c, .int .i64 (sn : Int)] 44)).alloc (.cells #[.slice none 0 0, .slice none 0 0, .slice none 0 0, .int .i64 0] 44)) := bel_alloc (bel_alloc (Below.refl _ _) _) _
  generalize ((w.alloc (.cells #[.slice A p.slots.length a, .slice B p.vols.length b, .slice C os.length c, .int .i64 (sn : Int)] 44)).alloc (.cells #[.slice none 0 0, .slice none 0 0, .slice none 0 0, .int .i64 0] 44)) = W0 at hV hR hW ⊢
  have HK := implLogOk_c hV.inn HS.out
  rw [HOK.out] at HK
  refine HK.mono ?_
  rintro e w1 ⟨rfl, hb1⟩
  have KV := Lib.hid (hV.bel hb1)
  have KR := Lib.hid (hR.bel hb1)
  have KW := Lib.hid (hW.tr hb1)
  clear hV hR hb1 hW HK
  go_wp2
  have V0 : Hid (LVar w1.drew w.heap.size A B C a b c ⟨p, os, sn⟩) := Lib.hid (KV.out.bel (Below.refl _ _).drew)
  have D0 : Hid (Bel w1.drew w1.drew) := Lib.hid (Below.refl _ _)
  have s0 := V0.out.c0
  have s1 := V0.out.c1
  have s2 := V0.out.c2
  have s3 := V0.out.c3
  try dsimp only at s0 s1 s2 s3
  have hCs : kOp.C w1.drew C (os.take sn).length (os.take sn) := by
    have hh := C_take V0.out.inn.o sn hsl
    rw [← HLK.out] at hh
    rw [HLK.out] at hh ⊢
    exact hh
  have hsc : sn ≤ c := Nat.le_trans hsl V0.out.inn.oc
  have hsc2 : os.length ≤ c := V0.out.inn.oc
  have hrun := Lib.hid (fun (W' : World) (hb : Bel w1.drew W') => doAll_c (c2 := c) (V0.out.bel hb).inn.p HS.out.base (kOp_keep hCs hb) (HS.out.ops.take sn))
  rw [HRR.out.1, HRR.out.2] at hrun
  try dsimp only at hrun
  rw [HLK.out] at hrun
  clear hCs
  refine start_ (n := 14) (S := fun w' => w'.cell? ⟨w.heap.size, 0, none⟩ = some (.slice A p.slots.length a) ∧ w'.cell? ⟨w.heap.size, 1, none⟩ = some (.slice B p.vols.length b) ∧ w'.cell? ⟨w.heap.size, 2, none⟩ = some (.slice C os.length c) ∧ w'.cell? ⟨w.heap.size, 3, none⟩ = some (.int .i64 (sn : Int))) (ds := [12]) #[bF, bF, bF, bF, bF, bF, bF, bF, bF, bF, bF, bF, bF, bF] (by kernel_rfl) rfl rfl ⟨s0, s1, s2, s3⟩ (fun hHeld => ?_)
  refine pure_ (i := 0) (N := some 10) (v := ?_) (a' := ?_) #[bT, bF, bF, bF, bF, bF, bF, bF, bF, bF, bF, bF, bF, bF] rfl rfl (by kernel_rfl) (fun _ _ _ h => h) (Or.inl ⟨by rfl, ?_⟩) ?_ ?_
  rotate_left
  · intro w'
    go_simp
    with_reducible rfl
  rotate_left
  · simp only [Act.put, lA, lB, lC, i64_w, i32_w]
    rfl
  refine pure_ (i := 2) (N := some 12) (v := ?_) (a' := ?_) #[bT, bF, bT, bF, bF, bF, bF, bF, bF, bF, bF, bF, bF, bF] rfl rfl (by kernel_rfl) (fun _ _ _ h => h) (Or.inl ⟨by rfl, ?_⟩) ?_ ?_
  rotate_left
  · intro w'
    go_simp
    with_reducible rfl
  rotate_left
  · simp only [Act.put, lA, lB, lC, i64_w, i32_w]
    rfl
  refine pure_ (i := 4) (N := some 14) (v := ?_) (a' := ?_) #[bT, bF, bT, bF, bT, bF, bF, bF, bF, bF, bF, bF, bF, bF] rfl rfl (by kernel_rfl) (fun _ _ _ h => h) (Or.inl ⟨by rfl, ?_⟩) ?_ ?_
  rotate_left
  · intro w'
    go_simp
    with_reducible rfl
  rotate_left
  · simp only [Act.put, lA, lB, lC, i64_w, i32_w]
    rfl
  refine take_ (i := 1) (N := some 11) (v := ?_) (a' := ?_) #[bT, bT, bT, bF, bT, bF, bF, bF, bF, bF, bF, bF, bF, bF] rfl rfl (by kernel_rfl) (fun _ _ _ h => h) (Or.inl ⟨by rfl, ?_⟩) hHeld ?_ ?_
  rotate_left
  · rintro w' ⟨s0, s1, s2, s3⟩
    go_simp
    with_reducible rfl
  rotate_left
  · simp only [Act.put, lA, lB, lC, i64_w, i32_w]
    rfl
  refine take_ (i := 3) (N := some 13) (v := ?_) (a' := ?_) #[bT, bT, bT, bT, bT, bF, bF, bF, bF, bF, bF, bF, bF, bF] rfl rfl (by kernel_rfl) (fun _ _ _ h => h) (Or.inl ⟨by rfl, ?_⟩) hHeld ?_ ?_
  rotate_left
  · rintro w' ⟨s0, s1, s2, s3⟩
    go_simp
    with_reducible rfl
  rotate_left
  · simp only [Act.put, lA, lB, lC, i64_w, i32_w]
    rfl
  refine take_ (i := 5) (N := some 15) (v := ?_) (a' := ?_) #[bT, bT, bT, bT, bT, bT, bF, bF, bF, bF, bF, bF, bF, bF] rfl rfl (by kernel_rfl) (fun _ _ _ h => h) (Or.inl ⟨by rfl, ?_⟩) hHeld ?_ ?_
  rotate_left
  · rintro w' ⟨s0, s1, s2, s3⟩
    go_simp
    with_reducible rfl
  rotate_left
  · simp only [Act.put, lA, lB, lC, i64_w, i32_w]
    rfl
  refine pure_ (i := 6) (N := some 16) (v := ?_) (a' := ?_) #[bT, bT, bT, bT, bT, bT, bT, bF, bF, bF, bF, bF, bF, bF] rfl rfl (by kernel_rfl) (fun _ _ _ h => h) (Or.inl ⟨by rfl, ?_⟩) ?_ ?_
  rotate_left
  · intro w'
    go_simp
    with_reducible rfl
  rotate_left
  · simp only [Act.put, lA, lB, lC, i64_w, i32_w]
    rfl
  refine join_ (σ := Option Addr × Nat × Option Addr × Nat × List Value × Nat) 2 #[bT, bT, bT, bT, bT, bT, bT, bT, bT, bT, bT, bT, bF, bF] (fun s => [(17, .tuple #[.agg #[.slice s.1 r.slots.length s.2.1, .slice s.2.2.1 r.vols.length s.2.2.2.1], .bool true]), (9, .tuple #[.agg #[.slice s.1 r.slots.length s.2.1, .slice s.2.2.1 r.vols.length s.2.2.2.1], .bool true]), (18, .agg #[.slice s.1 r.slots.length s.2.1, .slice s.2.2.1 r.vols.length s.2.2.2.1]), (19, .bool true), (3, .pointer (some ⟨s.2.2.2.2.2, 0, none⟩))]) (fun s w' => (w'.cell? ⟨w.heap.size, 0, none⟩ = some (.slice A p.slots.length a) ∧ w'.cell? ⟨w.heap.size, 1, none⟩ = some (.slice B p.vols.length b) ∧ w'.cell? ⟨w.heap.size, 2, none⟩ = some (.slice C os.length c) ∧ w'.cell? ⟨w.heap.size, 3, none⟩ = some (.int .i64 (sn : Int))) ∧ OwnP w' w1.drew.heap.size (.slice s.1 r.slots.length s.2.1) (.slice s.2.2.1 r.vols.length s.2.2.2.1) r s.2.2.2.2.1 ∧ Blk w' s.2.2.2.2.2 #[.slice none 0 0, .slice none 0 0] 42 ∧ w1.drew.heap.size ≤ s.2.2.2.2.2 ∧ Bel w1.drew w') ?_ ?_
  rotate_left
  · intro hCont
    refine two_ (i := 7) (j := 11) (Ni := some 17) (Nj := some 3) #[bT, bT, bT, bT, bT, bT, bT, bT, bF, bF, bF, bF, bF, bF] #[bT, bT, bT, bT, bT, bT, bT, bF, bF, bF, bF, bT, bF, bF] rfl rfl rfl rfl (by kernel_rfl) (by decide) (by decide) (fun K hK => ?_) (fun K hK => ?_)
    · skip
      refine goes_ Tryz.func101 (by kernel_rfl) rfl #[.agg #[.slice A p.slots.length a, .slice B p.vols.length b], .slice C sn c] (by rfl) rfl rfl (by simp only [List.map_toArray, List.map_cons, List.map_nil]; rfl) ?_
      with_reducible refine (hrun.out _ D0.out).mono ?_
      rintro e w1_ ⟨va, vb, bva, rfl, ho, X1⟩
      have D1 := Lib.hid (Bel.tr D0.out X1)
      have Q1 : Hid (OwnP w1_ w1.drew.heap.size va vb r bva) := Lib.hid (ho.lower D0.out.size)
      obtain ⟨A2, A3, k2, k3, rfl, rfl, hpi⟩ := ho.reads
      clear ho hpi
      refine ⟨_, rfl, ?_⟩
      refine hK.out _ _ ⟨(V0.out.bel D1.out).c0, (V0.out.bel D1.out).c1, (V0.out.bel D1.out).c2, (V0.out.bel D1.out).c3⟩ (fun hHeld => ?_)
      clear hK K
      refine norm_ (a' := ?_) ?_ ?_
      rotate_left
      · show Act.put _ (some 17) _ = _
        simp only [Act.put, lA, lB, lC, i64_w, i32_w]
        rfl
      refine pure_ (i := 8) (N := some 9) (v := ?_) (a' := ?_) #[bT, bT, bT, bT, bT, bT, bT, bT, bT, bF, bF, bF, bF, bF] rfl rfl (by kernel_rfl) (fun _ _ _ h => h) (Or.inl ⟨by rfl, ?_⟩) ?_ ?_
      rotate_left
      · intro w'
        go_simp
        with_reducible rfl
      rotate_left
      · simp only [Act.put, lA, lB, lC, i64_w, i32_w]
        rfl
      refine pure_ (i := 9) (N := some 18) (v := ?_) (a' := ?_) #[bT, bT, bT, bT, bT, bT, bT, bT, bT, bT, bF, bF, bF, bF] rfl rfl (by kernel_rfl) (fun _ _ _ h => h) (Or.inl ⟨by rfl, ?_⟩) ?_ ?_
      rotate_left
      · intro w'
        go_simp
        with_reducible rfl
      rotate_left
      · simp only [Act.put, lA, lB, lC, i64_w, i32_w]
        rfl
      refine pure_ (i := 10) (N := some 19) (v := ?_) (a' := ?_) #[bT, bT, bT, bT, bT, bT, bT, bT, bT, bT, bT, bF, bF, bF] rfl rfl (by kernel_rfl) (fun _ _ _ h => h) (Or.inl ⟨by rfl, ?_⟩) ?_ ?_
      rotate_left
      · intro w'
        go_simp
        with_reducible rfl
      rotate_left
      · simp only [Act.put, lA, lB, lC, i64_w, i32_w]
        rfl
      refine one_ (i := 11) (N := some 3) #[bT, bT, bT, bT, bT, bT, bT, bT, bT, bT, bT, bT, bF, bF] rfl rfl (by kernel_rfl) (by decide) (fun K hK => ?_)
      refine value_ (w1 := ?_) (v := ?_) (by rfl) rfl ?_ ?_
      rotate_left 2
      · go_simp
        constructor
        · rfl
        · rfl
      have D2 : Hid (Bel w1.drew (w1_.alloc (.cells #[.slice none 0 0, .slice none 0 0] 42))) := Lib.hid (bel_alloc D1.out (.cells #[.slice none 0 0, .slice none 0 0] 42))
      have Q2 := Lib.hid (OwnP.bel Q1.out (bel_alloc (Below.refl _ _) (.cells #[.slice none 0 0, .slice none 0 0] 42)))
      have O2 : Hid (Blk (w1_.alloc (.cells #[.slice none 0 0, .slice none 0 0] 42)) w1_.heap.size #[.slice none 0 0, .slice none 0 0] 42) := Lib.hid (Blk.new w1_ _ _)
      have L2 := D1.out.size
      refine hK.out _ _ ⟨(V0.out.bel D2.out).c0, (V0.out.bel D2.out).c1, (V0.out.bel D2.out).c2, (V0.out.bel D2.out).c3⟩ (fun hHeld => ?_)
      clear hK K
      refine norm_ (a' := ?_) ?_ ?_
      rotate_left
      · show Act.put _ (some 3) _ = _
        simp only [Act.put, lA, lB, lC, i64_w, i32_w]
        rfl
      exact norm_ (by simp only [putAll, Act.put, lA, lB, lC]) (hCont (A2, k2, A3, k3, bva, w1_.heap.size) _ ⟨hHeld, Q2.out, O2.out, L2, D2.out⟩)
    · skip
      refine value_ (w1 := ?_) (v := ?_) (by rfl) rfl ?_ ?_
      rotate_left 2
      · go_simp
        constructor
        · rfl
        · rfl
      have D1 : Hid (Bel w1.drew (w1.alloc (.cells #[.slice none 0 0, .slice none 0 0] 42)).drew) := Lib.hid (bel_alloc D0.out (.cells #[.slice none 0 0, .slice none 0 0] 42))
      have O1 : Hid (Blk (w1.alloc (.cells #[.slice none 0 0, .slice none 0 0] 42)).drew w1.drew.heap.size #[.slice none 0 0, .slice none 0 0] 42) := Lib.hid (Blk.new w1.drew _ _)
      have L1 := D0.out.size
      refine hK.out _ _ ⟨(V0.out.bel D1.out).c0, (V0.out.bel D1.out).c1, (V0.out.bel D1.out).c2, (V0.out.bel D1.out).c3⟩ (fun hHeld => ?_)
      clear hK K
      refine norm_ (a' := ?_) ?_ ?_
      rotate_left
      · show Act.put _ (some 3) _ = _
        simp only [Act.put, lA, lB, lC, i64_w, i32_w]
        rfl
      refine one_ (i := 7) (N := some 17) #[bT, bT, bT, bT, bT, bT, bT, bT, bF, bF, bF, bT, bF, bF] rfl rfl (by kernel_rfl) (by decide) (fun K hK => ?_)
      refine goes_ Tryz.func101 (by kernel_rfl) rfl #[.agg #[.slice A p.slots.length a, .slice B p.vols.length b], .slice C sn c] (by rfl) rfl rfl (by simp only [List.map_toArray, List.map_cons, List.map_nil]; rfl) ?_
      with_reducible refine (hrun.out _ D1.out).mono ?_
      rintro e w2_ ⟨va, vb, bva, rfl, ho, X2⟩
      have D2 := Lib.hid (Bel.tr D1.out X2)
      have O2 := Lib.hid (Blk.bel O1.out X2)
      have Q2 : Hid (OwnP w2_ w1.drew.heap.size va vb r bva) := Lib.hid (ho.lower D1.out.size)
      obtain ⟨A2, A3, k2, k3, rfl, rfl, hpi⟩ := ho.reads
      clear ho hpi
      refine ⟨_, rfl, ?_⟩
      refine hK.out _ _ ⟨(V0.out.bel D2.out).c0, (V0.out.bel D2.out).c1, (V0.out.bel D2.out).c2, (V0.out.bel D2.out).c3⟩ (fun hHeld => ?_)
      clear hK K
      refine norm_ (a' := ?_) ?_ ?_
      rotate_left
      · show Act.put _ (some 17) _ = _
        simp only [Act.put, lA, lB, lC, i64_w, i32_w]
        rfl
      refine pure_ (i := 8) (N := some 9) (v := ?_) (a' := ?_) #[bT, bT, bT, bT, bT, bT, bT, bT, bT, bF, bF, bT, bF, bF] rfl rfl (by kernel_rfl) (fun _ _ _ h => h) (Or.inl ⟨by rfl, ?_⟩) ?_ ?_
      rotate_left
      · intro w'
        go_simp
        with_reducible rfl
      rotate_left
      · simp only [Act.put, lA, lB, lC, i64_w, i32_w]
        rfl
      refine pure_ (i := 9) (N := some 18) (v := ?_) (a' := ?_) #[bT, bT, bT, bT, bT, bT, bT, bT, bT, bT, bF, bT, bF, bF] rfl rfl (by kernel_rfl) (fun _ _ _ h => h) (Or.inl ⟨by rfl, ?_⟩) ?_ ?_
      rotate_left
      · intro w'
        go_simp
        with_reducible rfl
      rotate_left
      · simp only [Act.put, lA, lB, lC, i64_w, i32_w]
        rfl
      refine pure_ (i := 10) (N := some 19) (v := ?_) (a' := ?_) #[bT, bT, bT, bT, bT, bT, bT, bT, bT, bT, bT, bT, bF, bF] rfl rfl (by kernel_rfl) (fun _ _ _ h => h) (Or.inl ⟨by rfl, ?_⟩) ?_ ?_
      rotate_left
      · intro w'
        go_simp
        with_reducible rfl
      rotate_left
      · simp only [Act.put, lA, lB, lC, i64_w, i32_w]
        rfl
      exact norm_ (by simp only [putAll, Act.put, lA, lB, lC]) (hCont (A2, k2, A3, k3, bva, w1.heap.size) _ ⟨hHeld, Q2.out, O2.out, L1, D2.out⟩)
  rintro ⟨A2, k2, A3, k3, bvc, nb⟩ w3 ⟨hHeld, hQ, hO, hL, hD⟩
  dsimp only at hQ hO hL
  have r0 := hO.cell 0
  have r1 := hO.cell 1
  have f0 := hO.free 0
  have f1 := hO.free 1
  simp at r0 r1
  refine norm_ (a' := ?_) ?_ ?_
  rotate_left
  · simp only [putAll, Act.put, lA, lB, lC]
    rfl
  refine last_ (i := 12) (N := none) #[bT, bT, bT, bT, bT, bT, bT, bT, bT, bT, bT, bT, bT, bF] rfl rfl (by kernel_rfl) (by decide) (fun K hK => ?_)
  refine skip_ (w1 := ?_) (by rfl) rfl ?_ ?_
  rotate_left
  · go_simp
    rfl
  refine hK.out _ _ ?_
  clear hK K
  refine pure_ (i := 13) (N := some 4) (v := ?_) (a' := ?_) #[bT, bT, bT, bT, bT, bT, bT, bT, bT, bT, bT, bT, bT, bT] rfl rfl (by kernel_rfl) (fun _ _ _ h => h) (Or.inl ⟨by rfl, ?_⟩) ?_ ?_
  rotate_left
  · intro w'
    go_simp
    with_reducible rfl
  rotate_left
  · simp only [Act.put, lA, lB, lC, i64_w, i32_w]
    rfl
  refine done_ (by kernel_rfl) ?_
  have hO4 := hO.set 0 (.slice A2 r.slots.length k2) (cs' := #[.slice A2 r.slots.length k2, .slice none 0 0]) rfl
  have hO5 := hO4.set 1 (.slice A3 r.vols.length k3) (cs' := #[.slice A2 r.slots.length k2, .slice A3 r.vols.length k3]) rfl
  have hQ5 := (hQ.far hO (by decide) (by decide) (by decide) 0 (.slice A2 r.slots.length k2)).far hO4 (by decide) (by decide) (by decide) 1 (.slice A3 r.vols.length k3)
  have hb5 : Bel w1.drew ((w3.setCell ⟨nb, 0, none⟩ (.slice A2 r.slots.length k2)).setCell ⟨nb, 1, none⟩ (.slice A3 r.vols.length k3)) := bel_set (bel_set hD hL 0 (.slice A2 r.slots.length k2)) hL 1 (.slice A3 r.vols.length k3)
  clear hQ hO hO4 hL hD f0 f1 r0 r1 hHeld D0 s0 s1 s2 s3 hrun
  generalize ((w3.setCell ⟨nb, 0, none⟩ (.slice A2 r.slots.length k2)).setCell ⟨nb, 1, none⟩ (.slice A3 r.vols.length k3)) = W6 at hO5 hQ5 hb5 ⊢
  go_wp2
  have HV6 := Lib.hid ((V0.out.bel hb5).bel (w' := W6.drew) (Below.refl _ _).drew)
  have HO6 : Hid (Blk W6.drew nb #[.slice A2 r.slots.length k2, .slice A3 r.vols.length k3] 42) := Lib.hid (hO5.bel (Below.refl _ _).drew)
  have HQ6 : Hid (OwnP W6.drew w1.drew.heap.size (.slice A2 r.slots.length k2) (.slice A3 r.vols.length k3) r bvc) := Lib.hid (hQ5.bel (Below.refl _ _).drew)
  have HB6 : Hid (Bel w W6.drew) := Lib.hid ((Bel.tr (b := w1.drew) (KW.out.tr (Below.refl _ _).drew) hb5).tr (Below.refl _ _).drew)
  have HR6 : Hid (Blk W6.drew (w.heap.size + 1) #[.slice none 0 0, .slice none 0 0, .slice none 0 0, .int .i64 0] 44) := Lib.hid ((Blk.bel (w := w1.drew) (KR.out.bel (Below.refl _ _).drew) hb5).bel (Below.refl _ _).drew)
  have HSZ := Lib.hid (show w.heap.size ≤ w1.drew.heap.size from (KW.out.tr (Below.refl _ _).drew).size)
  clear hO5 hQ5 hb5 V0 KV KR KW
  have s0 := HO6.out.cell 0
  have s1 := HO6.out.cell 1
  have s2 := HV6.out.c2
  have s3 := HV6.out.c3
  try dsimp only at s2 s3
  simp at s0 s1
  have hcl := cloneO_c (c := c - sn) (s := dk) (A := if c = sn then C else Option.map (fun x => x.add (sn * 5)) C) (by have hh := Kd.C_drop (c := c) HV6.out.inn.o (m := sn) hsl hsc2; rw [HDK.out] at hh; exact hh) (by have := HDL.out; omega)
  rw [HDL.out] at hcl
  have HCL := Lib.hid hcl
  clear hcl
  refine start_ (n := 9) (S := fun w' => w'.cell? ⟨nb, 0, none⟩ = some (.slice A2 r.slots.length k2) ∧ w'.cell? ⟨nb, 1, none⟩ = some (.slice A3 r.vols.length k3) ∧ w'.cell? ⟨w.heap.size, 2, none⟩ = some (.slice C os.length c) ∧ w'.cell? ⟨w.heap.size, 3, none⟩ = some (.int .i64 (sn : Int))) (ds := [8]) #[bF, bF, bF, bF, bF, bF, bF, bF, bF] (by kernel_rfl) rfl rfl ⟨s0, s1, s2, s3⟩ (fun hHeld => ?_)
  refine pure_ (i := 1) (N := some 21) (v := ?_) (a' := ?_) #[bF, bT, bF, bF, bF, bF, bF, bF, bF] rfl rfl (by kernel_rfl) (fun _ _ _ h => h) (Or.inl ⟨by rfl, ?_⟩) ?_ ?_
  rotate_left
  · intro w'
    go_simp
    with_reducible rfl
  rotate_left
  · simp only [Act.put, lA, lB, lC, i64_w, i32_w]
    rfl
  refine pure_ (i := 3) (N := some 23) (v := ?_) (a' := ?_) #[bF, bT, bF, bT, bF, bF, bF, bF, bF] rfl rfl (by kernel_rfl) (fun _ _ _ h => h) (Or.inl ⟨by rfl, ?_⟩) ?_ ?_
  rotate_left
  · intro w'
    go_simp
    with_reducible rfl
  rotate_left
  · simp only [Act.put, lA, lB, lC, i64_w, i32_w]
    rfl
  refine take_ (i := 0) (N := some 20) (v := ?_) (a' := ?_) #[bT, bT, bF, bT, bF, bF, bF, bF, bF] rfl rfl (by kernel_rfl) (fun _ _ _ h => h) (Or.inl ⟨by rfl, ?_⟩) hHeld ?_ ?_
  rotate_left
  · rintro w' ⟨s0, s1, s2, s3⟩
    go_simp
    with_reducible rfl
  rotate_left
  · simp only [Act.put, lA, lB, lC, i64_w, i32_w]
    rfl
  refine take_ (i := 2) (N := some 22) (v := ?_) (a' := ?_) #[bT, bT, bT, bT, bF, bF, bF, bF, bF] rfl rfl (by kernel_rfl) (fun _ _ _ h => h) (Or.inl ⟨by rfl, ?_⟩) hHeld ?_ ?_
  rotate_left
  · rintro w' ⟨s0, s1, s2, s3⟩
    go_simp
    with_reducible rfl
  rotate_left
  · simp only [Act.put, lA, lB, lC, i64_w, i32_w]
    rfl
  refine take_ (i := 4) (N := some 24) (v := ?_) (a' := ?_) #[bT, bT, bT, bT, bT, bF, bF, bF, bF] rfl rfl (by kernel_rfl) (fun _ _ _ h => h) (Or.inl ⟨by rfl, ?_⟩) hHeld ?_ ?_
  rotate_left
  · rintro w' ⟨s0, s1, s2, s3⟩
    go_simp
    with_reducible rfl
  rotate_left
  · simp only [Act.put, lA, lB, lC, i64_w, i32_w]
    rfl
  refine pure_ (i := 5) (N := some 25) (v := ?_) (a' := ?_) #[bT, bT, bT, bT, bT, bT, bF, bF, bF] rfl rfl (by kernel_rfl) (fun _ _ _ h => h) (Or.inl ⟨by rfl, ?_⟩) ?_ ?_
  rotate_left
  · intro w'
    go_simp
    with_reducible rfl
  rotate_left
  · simp only [Act.put, lA, lB, lC, i64_w, i32_w]
    rfl
  refine one_ (i := 6) (N := some 26) #[bT, bT, bT, bT, bT, bT, bT, bF, bF] rfl rfl (by kernel_rfl) (by decide) (fun K hK => ?_)
  refine goes_ Tryz.func102 (by kernel_rfl) rfl #[.slice (if c = sn then C else Option.map (fun x => x.add (sn * 5)) C) (os.length - sn) (c - sn)] (by rfl) rfl rfl (by simp only [List.map_toArray, List.map_cons, List.map_nil]; rfl) ?_
  with_reducible refine (HCL.out).mono ?_
  rintro e w7 ⟨v, rfl, ho, X⟩
  obtain ⟨C4, c4, rfl, hc4, hC4⟩ := ho.reads
  have HO7 := Lib.hid (show OwnO w7 w.heap.size (.slice C4 dk.length c4) dk from own_lower ho HB6.out.size)
  have HR := Lib.hid (HR6.out.bel X)
  have HQ7 := Lib.hid ((OwnP.bel HQ6.out X).lower HSZ.out)
  have HB := Lib.hid (HB6.out.tr X)
  have t0 := (HO6.out.bel X).cell 0
  have t1 := (HO6.out.bel X).cell 1
  have t2 := (HV6.out.bel X).c2
  have t3 := (HV6.out.bel X).c3
  try dsimp only at t2 t3
  simp at t0 t1
  clear ho hc4 hC4
  have r0 := HR.out.cell 0
  have r1 := HR.out.cell 1
  have r2 := HR.out.cell 2
  have r3 := HR.out.cell 3
  have f0 := HR.out.free 0
  have f1 := HR.out.free 1
  have f2 := HR.out.free 2
  have f3 := HR.out.free 3
  have ry := HR.out.lt
  simp at r0 r1 r2 r3
  refine ⟨_, rfl, ?_⟩
  refine hK.out _ _ ⟨t0, t1, t2, t3⟩ (fun hHeld => ?_)
  clear hK K
  refine norm_ (a' := ?_) ?_ ?_
  rotate_left
  · show Act.put _ (some 26) _ = _
    simp only [Act.put, lA, lB, lC, i64_w, i32_w]
    rfl
  refine pure_ (i := 7) (N := some 27) (v := ?_) (a' := ?_) #[bT, bT, bT, bT, bT, bT, bT, bT, bF] rfl rfl (by kernel_rfl) (fun _ _ _ h => h) (Or.inl ⟨by rfl, ?_⟩) ?_ ?_
  rotate_left
  · intro w'
    go_simp
    with_reducible rfl
  rotate_left
  · simp only [Act.put, lA, lB, lC, i64_w, i32_w]
    rfl
  refine last_ (i := 8) (N := none) #[bT, bT, bT, bT, bT, bT, bT, bT, bT] rfl rfl (by kernel_rfl) (by decide) (fun K hK => ?_)
  refine skip_ (w1 := ?_) (by rfl) rfl ?_ ?_
  rotate_left
  · go_simp
    rfl
  refine hK.out _ _ ?_
  clear hK K
  refine done_ (by kernel_rfl) ?_
  have hR4 := HR.out.set4 (.slice A2 r.slots.length k2) (.slice A3 r.vols.length k3) (.slice C4 dk.length c4) (.int .i64 0)
  have hP4 := HQ7.out.far4 HR.out (.slice A2 r.slots.length k2) (.slice A3 r.vols.length k3) (.slice C4 dk.length c4) (.int .i64 0)
  have hO4 := OwnO.far4 HO7.out HR.out (.slice A2 r.slots.length k2) (.slice A3 r.vols.length k3) (.slice C4 dk.length c4) (.int .i64 0)
  have hb4 := bel_set4 HB.out (Nat.le_succ _) (.slice A2 r.slots.length k2) (.slice A3 r.vols.length k3) (.slice C4 dk.length c4) (.int .i64 0)
  go_wp2
  all_goals
    refine bodyPost_ret (results_cell_row rfl _ _ (w.heap.size + 1) 44 #[.slice A2 r.slots.length k2, .slice A3 r.vols.length k3, .slice C4 dk.length c4, .int .i64 0] (0, 0) _ rfl hR4 Tryz.underlying44 rfl (by kernel_rfl)) rfl ?_
    exact ⟨A2, A3, C4, k2, k3, c4, rfl, ⟨hP4.inn, (hO4.innC rfl).2, (hO4.innC rfl).1⟩, hb4⟩
theorem implLogPack_c (h : LogIn w A B C a b c l) (hs : SmallL l) :
    Calls Tryz.prog 31 #[.agg #[.slice A l.base.slots.length a, .slice B l.base.vols.length b, .slice C l.ops.length c, .int .i64 l.safe]] w (NewL w (packF l)) := by
  cases hok : logOk l with
  | false => rw [packF_no hok]; exact implLogPack_no h hs hok
  | true =>
    obtain ⟨q, hq⟩ := logOk_iff.1 hok
    obtain ⟨p, os, safe⟩ := l
    obtain ⟨sn, rfl⟩ : ∃ sn : Nat, safe = sn := ⟨safe.toNat, by have := hq.s0; simp only at this; omega⟩
    obtain ⟨r, he, _, hr⟩ := hq.packE
    rw [he]
    exact implLogPack_yes h hs hq hr
end
end Go.Proofs.YtccllgpaafgjaaaGreat

namespace Go.Proofs.YtccllgpaafgjaaaGreat
open Go.RowKit Go.Proofs.YtccllgpaafgjaaaGreatW.PrintWords
section
variable {w : World} {A B C : Option Addr} {a b c : Nat} {l x : Log} {q : Pool} {ok : Bool}
theorem implLogPack_n (h : LogIn w A B C a b c l) (hs : SmallL l) (he : packF l = x) : Calls Tryz.prog 31 #[.agg #[.slice A l.base.slots.length a, .slice B l.base.vols.length b, .slice C l.ops.length c, .int .i64 l.safe]] w (NewL w x) := he ▸ implLogPack_c h hs
theorem specLogPack_n (h : LogIn w A B C a b c l) (hs : SmallL l) (he : packF l = x) : Calls Tryz.prog 33 #[.agg #[.slice A l.base.slots.length a, .slice B l.base.vols.length b, .slice C l.ops.length c, .int .i64 l.safe]] w (NewL w x) := (he ▸ specLogPack_c h hs).mono fun _ _ h => h.new
theorem implLogKeep_n (h : LogIn w A B C a b c l) (hs : SmallL l) (he : keepF l = x) : Calls Tryz.prog 51 #[.agg #[.slice A l.base.slots.length a, .slice B l.base.vols.length b, .slice C l.ops.length c, .int .i64 l.safe]] w (NewL w x) := he ▸ implLogKeep_c h hs
theorem specLogKeep_n (h : LogIn w A B C a b c l) (hs : SmallL l) (he : keepF l = x) : Calls Tryz.prog 52 #[.agg #[.slice A l.base.slots.length a, .slice B l.base.vols.length b, .slice C l.ops.length c, .int .i64 l.safe]] w (NewL w x) := he ▸ specLogKeep_c h hs
theorem implLogFall_m {left : Int} (h : LogIn w A B C a b c l) (hs : SmallL l) (he : fallF l left = x) : Calls Tryz.prog 53 #[.agg #[.slice A l.base.slots.length a, .slice B l.base.vols.length b, .slice C l.ops.length c, .int .i64 l.safe], .int .i64 left] w (MadeL w x) := he ▸ implLogFall_c h hs
end
theorem LogIn.dropC {w : World} {A B C D : Option Addr} {a b c d : Nat} {l : Log} (h : LogIn w A B C a b c l) {k : Nat} (hk : k ≤ l.ops.length) {os : List Op} (ho : l.ops.drop k = os) (hr : Value.slice (if c = k then C else Option.map (fun x => x.add (k * 5)) C) (l.ops.length - k) (c - k) = .slice D os.length d) : kOp.C w D os.length os := by
  subst ho
  injection hr with e1 e2 e3
  rw [← e1]
  exact Kd.C_drop (c := c) h.o hk h.oc
theorem keepF_small {l : Log} (h : SmallL l) : SmallL (keepF l) := by
  unfold keepF
  split
  · exact ⟨h.base, h.ops⟩
  · exact noL_small
theorem LogP.small {l : Log} {q : Pool} (h : LogP l q) (hs : SmallOs l.ops) : SmallL l := ⟨h.base.small, hs⟩
end Go.Proofs.YtccllgpaafgjaaaGreat

namespace Go.Proofs.YtccllgpaafgjaaaGreat
open Go.RowKit Go.Proofs.YtccllgpaafgjaaaGreatW.PrintWords
/-- A row of words of one's own. -/
def SeenS (W : World) (base : Nat) (v : Value) (seen : List ByteArray) : Prop := W.ownsRow base 9 1 v seen.length (seen.map Value.string)
theorem info_str : (Tryz.prog.info? 9).map (fun i => (i.zero, i.size, i.bytes)) = some (some (.string ⟨#[]⟩), 1, 16) := by kernel_rfl
theorem SeenS.bel {w w' : World} {base : Nat} {v : Value} {s : List ByteArray} (h : SeenS w base v s) (hb : Bel w w') : SeenS w' base v s := pw_own_below h hb
theorem SeenS.reads {w : World} {base : Nat} {v : Value} {s : List ByteArray} (h : SeenS w base v s) : ∃ A c, v = .slice A s.length c ∧ s.length ≤ c ∧ Kd.string.C w A s.length s := by
  have hr : Reps (Kd.string.K w) 1 s (s.map Value.string) := by
    refine ⟨by simp, fun j p hp => ?_⟩
    show _ = [Value.string p]
    rw [Nat.mul_one]
    apply List.ext_getElem?
    intro k
    rw [List.getElem?_take]
    cases k with
    | zero => simp [hp]
    | succ k => simp
  obtain ⟨A, c, e, hr⟩ := own_reads_row h hr rfl
  obtain ⟨A', c', e', hc⟩ := own_cap h
  rw [e] at e'
  injection e' with _ _ e3
  exact ⟨A, c, e, e3 ▸ hc, hr⟩
theorem at_str {w : World} {A : Option Addr} {n : Nat} {xs : List ByteArray} (h : Kd.string.C w A n xs) {i : Nat} {x : ByteArray} (hx : xs[i]? = some x) : ∃ ad, A = some ad ∧ w.cell? (ad.add i) = some (.string x) := by
  have hl := h.1 ▸ ltQ hx
  obtain ⟨ad, c, e, _, hK, hc⟩ := Kd.C_get h e0 i (by omega) (by omega)
  have he : xs.getD (i : Int).toNat e0 = x := by rw [List.getD_eq_getElem?_getD, Int.toNat_natCast, hx]; rfl
  rw [he] at hK
  have hK' : c = [.string x] := hK
  subst hK'
  have := hc 0 _ rfl
  simp only [Nat.add_zero] at this
  refine ⟨ad, e, ?_⟩
  have h1 : Kd.string.sz = 1 := rfl
  simpa [h1] using this
def seenB (t : ByteArray) (seen : List ByteArray) (m : Nat) : Bool := (t.toList == []) || (seen.take m).any fun o => o.toList == t.toList
theorem seenB_zero (t : ByteArray) (seen : List ByteArray) : seenB t seen 0 = (t.toList == []) := by simp [seenB]
theorem seenB_succ {t o : ByteArray} {seen : List ByteArray} {m : Nat} (h : seen[m]? = some o) : seenB t seen (m + 1) = (seenB t seen m || (o.toList == t.toList)) := by
  unfold seenB; rw [any_snoc h, Bool.or_assoc]
theorem seenB_end {t : ByteArray} {seen : List ByteArray} {m : Nat} (h : ¬ m < seen.length) : kstep seen t = if seenB t seen m then seen else seen ++ [t] := by
  unfold kstep seenB; rw [take_all h]
theorem fold_take {ts : List ByteArray} {k : Nat} {t : ByteArray} (h : ts[k]? = some t) (s : List ByteArray) : (ts.take (k + 1)).foldl kstep s = kstep ((ts.take k).foldl kstep s) t := by
  rw [take_snoc h, List.foldl_append]; rfl
theorem allT_take {p : Pool} {vs : List Vol} {i : Nat} {x : Vol} (h : vs[i]? = some x) (s : List ByteArray) : (allT p (vs.take (i + 1))).foldl kstep s = (pieces p x.name).foldl kstep ((allT p (vs.take i)).foldl kstep s) := by
  unfold allT
  rw [take_snoc h, List.flatMap_append, List.foldl_append]
  simp
set_option maxHeartbeats 8000000 in
set_option maxRecDepth 10000 in
theorem lgKinds_c {w : World} {A0 A1 : Option Addr} {c0 c1 : Nat} {p : Pool} (h : PoolIn w A0 A1 c0 c1 p) (hp : PoolP p) :
    Calls Tryz.prog 60 #[.agg #[.slice A0 p.slots.length c0, .slice A1 p.vols.length c1]] w (Ret (.int .i64 (8 - freeN p.slots)) w) := by
  have H := Lib.hid h
  have HP := Lib.hid hp
  have HS := Lib.hid hp.small
  have hl4 := hp.v.len
  have HK := Lib.hid (kinds_eq hp)
  clear h hp
  go_enter Tryz.func60, Tryz.ntmps60
  go_wp2
  have hB := Blk.new w #[.slice A0 p.slots.length c0, .slice A1 p.vols.length c1] 42
  have hW : Bel w (w.alloc (.cells #[.slice A0 p.slots.length c0, .slice A1 p.vols.length c1] 42)) := bel_alloc (Below.refl _ _) _
  have hsz : (w.alloc (.cells #[.slice A0 p.slots.length c0, .slice A1 p.vols.length c1] 42)).heap.size = w.heap.size + 1 := by simp
  generalize (w.alloc (.cells #[.slice A0 p.slots.length c0, .slice A1 p.vols.length c1] 42)) = W0 at hB hW hsz ⊢
  have hS : SeenS (W0.alloc (.cells #[] 9)) W0.heap.size (.slice (some ⟨W0.heap.size, 0, none⟩) 0 0) [] := own_empty W0 _ _ _ (Nat.le_refl _)
  have hb1 : Bel W0 (W0.alloc (.cells #[] 9)) := bel_alloc (Below.refl _ _) _
  rw [hsz] at hS
  have KB := Lib.hid hB
  have KW := Lib.hid hW
  have KZ := Lib.hid hsz
  have HIN := Lib.hid (H.out.bel hW)
  generalize (W0.alloc (.cells #[] 9)) = W1 at hS hb1 ⊢
  have KS := Lib.hid hS
  have K1 := Lib.hid hb1
  clear hB hW hsz hS hb1
  go_loopg [3, 4] p.vols.length (fun gg v3 v4 W => ∃ (i : Nat) (seen : List ByteArray), gg + i = p.vols.length ∧ v4 = .int .i64 i ∧ SeenS W (w.heap.size + 1) v3 seen ∧ seen.length ≤ 6 * i ∧ Hid (seen = (allT p (p.vols.take i)).foldl kstep []) ∧ Bel W0 W)
  case atStart => exact ⟨0, [], rfl, rfl, KS.out, Nat.zero_le _, rfl, K1.out⟩
  case round =>
    obtain ⟨i, seen, hi, rfl, hsn, hsl, hse, hbW⟩ := hrel
    have KSN := Lib.hid hsn
    have KBW := Lib.hid hbW
    clear hsn hbW
    have q1 := (KB.out.bel KBW.out).cell 1
    simp at q1
    by_cases hlt : i < p.vols.length
    · obtain ⟨x, hx⟩ := getQ hlt
      have hxm := List.mem_of_getElem? hx
      have hx6 := (volOk_parts (HP.out.v.okM hxm)).2.2.2
      have hpl : (pieces p x.name).length = x.blocks.length := by unfold pieces; rw [blksOf_mem HP.out.v hxm, List.length_map]
      have HPL := Lib.hid hpl
      have HX := Lib.hid hx
      clear hx hxm hpl
      go_wp2
      clear q1
      go_loopg [3, 5] x.blocks.length (fun gg v3 v5 W => ∃ (k : Nat) (sn : List ByteArray), gg + k = x.blocks.length ∧ v5 = .int .i64 k ∧ SeenS W (w.heap.size + 1) v3 sn ∧ sn.length ≤ 6 * i + k ∧ Hid (sn = ((pieces p x.name).take k).foldl kstep seen) ∧ Bel W0 W)
      case atStart => exact ⟨0, seen, rfl, rfl, KSN.out, by omega, rfl, KBW.out⟩
      case round =>
        clear KSN KBW
        obtain ⟨k, sn, hk, rfl, hsn, hsnl, hsne, hbW⟩ := hrel
        have KSN := Lib.hid hsn
        have KBW := Lib.hid hbW
        clear hsn hbW
        obtain ⟨ad, A2, n2, hA1, hc, hd, hn2, _⟩ := at_vol (HIN.out.bel KBW.out).v HX.out
        subst hA1
        have q0 := (KB.out.bel KBW.out).cell 0
        have q1 := (KB.out.bel KBW.out).cell 1
        simp at q0 q1
        by_cases hkn : k < x.blocks.length
        · obtain ⟨t, ht⟩ := getQ (show k < (pieces p x.name).length by rw [HPL.out]; exact hkn)
          have hrd := readV_pieces HP.out (t := x.name) (i := k) (by rw [HPL.out]; exact hkn)
          rw [ht] at hrd
          have hrd2 : readV p x.name k = t ∧ readOk p x.name k = true := ⟨Option.some.inj hrd.2, hrd.1⟩
          have HE : Hid (∀ q : GB wr, Calls Tryz.prog 123 #[.agg #[.slice A0 p.slots.length c0, .slice (some ad) p.vols.length c1], .string x.name, .int .i64 k] q.W (Ret (.tuple #[.string t, .bool true]) q.W)) := fun q => read_n (HIN.out.bel (KBW.out.tr q.h)) HS.out hrd2
          have HT := Lib.hid ht
          have g0 := gb_cell hc
          have g1 := gb_cell q0
          have g2 := gb_cell q1
          clear ht hrd hrd2
          go_wp2
          clear q0 q1 hc hd
          refine wp_region_gb (by kernel_rfl) (by kernel_rfl) ?_
          repeat (first | go_big_quiet_skip | (go_big_quiet_want; go_big_quiet_op; first | go_big_quiet_on | (apply Exists.intro; refine ⟨fun _ => ?_, ?_⟩; (go_at_call 123; exact gb_call (HE.out _)); go_big_quiet_on)))
          refine wpQuiet_nil ?_
          rintro w4 ⟨⟨_, hb⟩, rfl⟩
          replace hb : Bel wr w4 := hb
          replace KSN := Lib.hid (KSN.out.bel hb)
          replace KBW := Lib.hid (KBW.out.tr hb)
          clear hb g0 g1 g2
          obtain ⟨A3, c3, rfl, hc3, hC3⟩ := KSN.out.reads
          have HC3 := Lib.hid hC3
          clear hC3
          have he : (if t.toList = [] then true else false) = (t.toList == []) := by by_cases h : t.toList = [] <;> simp [h]
          cases hem : t.toList.isEmpty
          all_goals
            have hz := Lib.hid (show (t.toList == []) = t.toList.isEmpty by cases t.toList <;> rfl)
            first | (have hne : t.toList = [] := by simpa using hem) | (have hne : ¬ t.toList = [] := by simpa using hem)
            have hb0 := Lib.hid ((seenB_zero t sn).trans (hz.out.trans hem))
            clear he
            go_wp2
            go_loopg [8, 9] sn.length (fun gg v8 v9 W => ∃ (m : Nat) (b : Bool), gg + m = sn.length ∧ v9 = .int .i64 m ∧ v8 = .bool b ∧ Hid (b = seenB t sn m) ∧ Bel w4 W)
            case atStart => exact ⟨0, _, rfl, rfl, rfl, hb0.out.symm, Below.refl _ _⟩
            case round =>
              obtain ⟨m, b, hm, rfl, rfl, hbb, hb4⟩ := hrel
              by_cases hmn : m < sn.length
              · obtain ⟨o, ho⟩ := getQ hmn
                obtain ⟨ad3, rfl, hc4⟩ := at_str (Kd.C_below HC3.out hb4) ho
                have HB1 := Lib.hid (seenB_succ (t := t) ho)
                clear ho
                cases b
                · by_cases hte : t.toList = []
                  · exfalso
                    have hbx := hbb.out
                    unfold seenB at hbx
                    rw [hte] at hbx
                    simp at hbx
                  · first
                      | exact absurd hne hte
                      | (cases hot : o.toList == t.toList
                         all_goals
                           have HB2 := Lib.hid (HB1.out.trans (by rw [← hbb.out, hot]))
                           go_wp2
                           go_roundg (sn.length - (m + 1))
                           case measure => omega
                           case rel => exact ⟨m + 1, _, by omega, by go_num, rfl, HB2.out.symm, hb4⟩)
                · have HB2 := Lib.hid (HB1.out.trans (by rw [← hbb.out, Bool.true_or]))
                  go_wp2
                  go_roundg (sn.length - (m + 1))
                  case measure => omega
                  case rel => exact ⟨m + 1, _, by omega, by go_num, rfl, HB2.out.symm, hb4⟩
              · have hks := seenB_end (t := t) (seen := sn) hmn
                rw [← hbb.out] at hks
                have hfk := fold_take HT.out seen
                rw [← hsne.out, hks] at hfk
                have KSM := Lib.hid (KSN.out.bel hb4)
                have KBM := Lib.hid (KBW.out.tr hb4)
                cases b
                · have HFK := Lib.hid hfk
                  clear hks hfk hbb
                  have hbase : w.heap.size + 1 ≤ wr.heap.size := by have := KBM.out.size; have := KZ.out; omega
                  have hbel : Below (w.heap.size + 1) W0 wr := by have := KBM.out; unfold Bel at this; rw [KZ.out] at this; exact this
                  have HBL := Lib.hid hbel
                  clear hbel
                  go_wp2_with (at_builtin; refine print_append_cells (w0 := W0) (w.heap.size + 1) rfl (.tmp 60) (.tmp 62) 138 9 (.string ⟨#[]⟩) 1 16 rfl Tryz.underlying138 info_str rfl (by decide) (by decide) _ sn.length (sn.map Value.string) [.string t] rfl (by show Value.slice (some ⟨_, 0, none⟩) 1 1 = Value.slice (some ⟨_, 0, none⟩) 1 1; simp) rfl (by intro u hu; simp at hu; subst hu; rfl) KSM.out HBL.out hbase (by omega) ?_; intro v2 w5 hr2 hbq hgq hat2)
                  have hsn2 : SeenS w5 (w.heap.size + 1) v2 (sn ++ [t]) := by unfold SeenS; rw [List.length_append, List.length_singleton, List.map_append]; exact hr2
                  have hbq2 : Bel W0 w5 := by unfold Bel; rw [KZ.out]; exact hbq
                  go_roundg (x.blocks.length - (k + 1))
                  case measure => omega
                  case rel => exact ⟨k + 1, sn ++ [t], by omega, by go_num, hsn2, by rw [List.length_append, List.length_singleton]; omega, HFK.out.symm, hbq2⟩
                · have HFK := Lib.hid hfk
                  clear hks hfk hbb
                  go_wp2
                  go_roundg (x.blocks.length - (k + 1))
                  case measure => omega
                  case rel => exact ⟨k + 1, sn, by omega, by go_num, KSM.out, by omega, HFK.out.symm, KBM.out⟩
        · have hfin : sn = (allT p (p.vols.take (i + 1))).foldl kstep [] := by
            rw [allT_take HX.out, ← hse.out, hsne.out, List.take_of_length_le (by rw [HPL.out]; omega)]
          have HFIN := Lib.hid hfin
          clear hfin
          go_wp2
          go_roundg (p.vols.length - (i + 1))
          case measure => omega
          case rel => exact ⟨i + 1, sn, by omega, by go_num, KSN.out, by omega, HFIN.out, KBW.out⟩
    · have hfin : ((seen.length : Nat) : Int) = 8 - freeN p.slots := by rw [hse.out, take_all hlt]; exact HK.out
      have HFIN := Lib.hid hfin
      obtain ⟨A3, c3, rfl, hc3, hC3⟩ := KSN.out.reads
      clear hC3 hfin
      go_wp2
      go_ret
      exact ⟨ret_int HFIN.out, KW.out.tr KBW.out⟩
theorem lgKinds_n {w : World} {A0 A1 : Option Addr} {c0 c1 : Nat} {p : Pool} {f : Int} (h : PoolIn w A0 A1 c0 c1 p) (hp : PoolP p) (hf : storeFree p.slots = f) :
    Calls Tryz.prog 60 #[.agg #[.slice A0 p.slots.length c0, .slice A1 p.vols.length c1]] w (Ret (.int .i64 (8 - f)) w) := by
  have := lgKinds_c h hp
  rw [← hp.free, hf] at this
  exact this
end Go.Proofs.YtccllgpaafgjaaaGreat

namespace Go.Proofs.YtccllgpaafgjaaaGreat
open Go.ChangeShapes Go.WideShapes
theorem joined_of {P : Program} {f : FuncId} {fn : Func} {s : ChangeSpec} {c : OpenClaim}
    (h0 : (c.wf (OpenSpec.ofChange s)) = true)
    (h1 : (laidOutB P) = true)
    (h2 : (mapsRowed P) = true)
    (h3 : (fn.params.all (P.readableRec ·)) = true)
    (h4 : (namedTie P c.named s.vars) = true)
    (h5 : (c.stops == []) = true)
    (h6 : (P.stops == []) = true)
    (h7 : (c.knobs == []) = true)
    (h8 : (P.stopKnobs == []) = true)
    (h9 : (c.inPlace == P.inPlace f) = true)
    (h10 : (c.unfollowed == P.unfollowed f) = true)
    (h11 : (c.recurses == P.recurses f) = true)
    (h12 : (c.named == P.varsNamed f) = true)
    (h13 : (c.maps == (fn.params.toList ++ s.plain.varTypes P).any (P.mapsRec ·)) = true)
    (h14 : (c.ifaces == (fn.params.toList ++ s.plain.varTypes P).any (P.ifacesRec ·)) = true)
    (h15 : (c.mapsOut == P.mapsAmong fn.resultTypes.toList) = true)
    (h16 : (c.loops == (fn.params.toList ++ s.plain.varTypes P).any (P.loopsFrom ·)) = true)
    (h17 : (c.wideKeys == (fn.params.toList ++ s.plain.varTypes P ++ fn.resultTypes.toList).any (P.wideKeysFrom ·)) = true)
    (h18 : (s.vars.all (P.varReadable ·)) = true)
    (h19 : (fn.resultTypes.all (fun t => P.readableRec t && decide (t < P.types.size))) = true)
    (h20 : (c.ifacesOut == fn.resultTypes.toList.any (P.ifacesRec ·)) = true)
    (h21 : (c.loopsOut == fn.resultTypes.toList.any (P.loopsFrom ·)) = true)
    (h22 : (c.plainKeys == P.plainKeys) = true)
    (h23 : (c.shortTexts.isNone) = true)
    (h24 : (P.stopsHeard) = true)
    (h25 : (P.mayEnter) = true)
    (h26 : (c.lifted == P.liftsFinal) = true)
    (h27 : (P.make == some c.make) = true)
    (h28 : (c.kinds == (if c.domain.isEmpty then [] else fn.params.toList.map fun t => match P.underlying t with | some (.int k) => some k | _ => none)) = true)
    (h29 : (c.pinned == c.pinnedBy) = true)
    (h30 : (c.veiled == (fn.params.toList ++ s.plain.varTypes P ++ fn.resultTypes.toList).any (P.veiledRec ·)) = true)
    (h31 : (c.veiledFits P fn.params.toList (fn.params.toList ++ s.plain.varTypes P ++ fn.resultTypes.toList)) = true) : joinedFacts P f fn s c = true := by
  unfold joinedFacts
  simp only [Bool.and_eq_true]
  exact ⟨⟨⟨⟨⟨⟨⟨⟨⟨⟨⟨⟨⟨⟨⟨⟨⟨⟨⟨⟨⟨⟨⟨⟨⟨⟨⟨⟨⟨⟨⟨h0, h1⟩, h2⟩, h3⟩, h4⟩, h5⟩, h6⟩, h7⟩, h8⟩, h9⟩, h10⟩, h11⟩, h12⟩, h13⟩, h14⟩, h15⟩, h16⟩, h17⟩, h18⟩, h19⟩, h20⟩, h21⟩, h22⟩, h23⟩, h24⟩, h25⟩, h26⟩, h27⟩, h28⟩, h29⟩, h30⟩, h31⟩
def ordN : List Nat := [104, 97, 114, 110, 101, 115, 115, 32, 102, 49, 50, 48, 98, 98, 97, 51, 102, 53, 55, 102, 97, 55, 97, 55, 100, 50, 50, 100, 54, 99, 50, 53, 55, 102, 99, 101, 50, 101, 52, 54,
  102, 102, 57, 100, 52, 51, 102, 52, 54, 98, 56, 55, 100, 50, 51, 99, 101, 101, 51, 53, 49, 100, 52, 55, 54, 51, 55, 102, 55, 101, 52, 98, 32, 99, 117, 116, 32, 97, 116, 32,
  108, 111, 111, 112, 46, 101, 120, 97, 109, 112, 108, 101, 47, 103, 97, 114, 110, 101, 114, 47, 108, 97, 119, 115, 46, 70, 110, 72, 101, 97, 114, 71, 97, 112, 32, 108, 111, 111, 112, 46,
  101, 120, 97, 109, 112, 108, 101, 47, 103, 97, 114, 110, 101, 114, 47, 108, 97, 119, 115, 46, 70, 110, 72, 101, 97, 114, 74, 111, 105, 110, 32, 108, 111, 111, 112, 46, 101, 120, 97, 109,
  112, 108, 101, 47, 103, 97, 114, 110, 101, 114, 47, 108, 97, 119, 115, 46, 70, 110, 72, 101, 97, 114, 67, 111, 112, 121, 32, 108, 111, 111, 112, 46, 101, 120, 97, 109, 112, 108, 101, 47,
  103, 97, 114, 110, 101, 114, 47, 108, 97, 119, 115, 46, 70, 110, 76, 111, 103, 80, 97, 99, 107, 32, 108, 111, 111, 112, 46, 101, 120, 97, 109, 112, 108, 101, 47, 103, 97, 114, 110, 101,
  114, 47, 108, 97, 119, 115, 46, 70, 110, 69, 120, 97, 99, 116, 78, 111, 100, 101, 65, 115, 107, 32, 108, 111, 111, 112, 46, 101, 120, 97, 109, 112, 108, 101, 47, 103, 97, 114, 110, 101,
  114, 47, 108, 97, 119, 115, 46, 70, 110, 76, 111, 103, 75, 101, 101, 112, 32, 108, 111, 111, 112, 46, 101, 120, 97, 109, 112, 108, 101, 47, 103, 97, 114, 110, 101, 114, 47, 108, 97, 119,
  115, 46, 70, 110, 80, 97, 99, 107, 70, 97, 108, 108, 32, 108, 111, 111, 112, 46, 101, 120, 97, 109, 112, 108, 101, 47, 103, 97, 114, 110, 101, 114, 47, 108, 97, 119, 115, 46, 70, 110,
  76, 111, 103, 70, 114, 101, 101, 32, 108, 111, 111, 112, 46, 101, 120, 97, 109, 112, 108, 101, 47, 103, 97, 114, 110, 101, 114, 47, 108, 97, 119, 115, 46, 70, 110, 76, 111, 103, 65, 100,
  100, 32, 108, 111, 111, 112, 46, 101, 120, 97, 109, 112, 108, 101, 47, 103, 97, 114, 110, 101, 114, 47, 108, 97, 119, 115, 46, 70, 110, 75, 101, 101, 112, 65, 100, 100, 32, 108, 111, 111,
  112, 46, 101, 120, 97, 109, 112, 108, 101, 47, 103, 97, 114, 110, 101, 114, 47, 108, 97, 119, 115, 46, 70, 110, 69, 120, 97, 99, 116, 78, 111, 100, 101, 80, 111, 111, 108, 32, 108, 111,
  111, 112, 46, 101, 120, 97, 109, 112, 108, 101, 47, 103, 97, 114, 110, 101, 114, 47, 108, 97, 119, 115, 46, 70, 110, 69, 120, 97, 99, 116, 76, 111, 103, 79, 107, 32, 108, 111, 111, 112,
  46, 101, 120, 97, 109, 112, 108, 101, 47, 103, 97, 114, 110, 101, 114, 47, 108, 97, 119, 115, 46, 70, 110, 78, 111, 100, 101, 76, 101, 115, 115, 32, 108, 111, 111, 112, 46, 101, 120, 97,
  109, 112, 108, 101, 47, 103, 97, 114, 110, 101, 114, 47, 108, 97, 119, 115, 46, 70, 110, 69, 120, 97, 99, 116, 78, 111, 100, 101, 72, 101, 97, 114, 32, 108, 111, 111, 112, 46, 101, 120,
  97, 109, 112, 108, 101, 47, 103, 97, 114, 110, 101, 114, 47, 108, 97, 119, 115, 46, 70, 110, 78, 111, 100, 101, 80, 111, 111, 108, 32, 108, 111, 111, 112, 46, 101, 120, 97, 109, 112, 108,
  101, 47, 103, 97, 114, 110, 101, 114, 47, 108, 97, 119, 115, 46, 70, 110, 69, 120, 97, 99, 116, 87, 111, 114, 108, 100, 79, 107, 32, 108, 111, 111, 112, 46, 101, 120, 97, 109, 112, 108,
  101, 47, 103, 97, 114, 110, 101, 114, 47, 108, 97, 119, 115, 46, 70, 110, 72, 101, 97, 114, 65, 103, 97, 105, 110, 32, 108, 111, 111, 112, 46, 101, 120, 97, 109, 112, 108, 101, 47, 103,
  97, 114, 110, 101, 114, 47, 108, 97, 119, 115, 46, 70, 110, 72, 101, 97, 114, 68, 111, 119, 110, 32, 108, 111, 111, 112, 46, 101, 120, 97, 109, 112, 108, 101, 47, 103, 97, 114, 110, 101,
  114, 47, 108, 97, 119, 115, 46, 70, 110, 72, 101, 97, 114, 69, 108, 100, 101, 114]
theorem ord_eq : Tryz.prog.initOrder = String.ofList (ordN.map Char.ofNat) := by kernel_rfl
theorem ord_list : Tryz.prog.initOrder.toList = ordN.map Char.ofNat := by rw [ord_eq, String.toList_ofList]
theorem jo_laid : laidOutB Tryz.prog = true := by kernel_rfl
theorem jo_maps : mapsRowed Tryz.prog = true := by kernel_rfl
theorem jo_stops : (Tryz.prog.stops == []) = true := by kernel_rfl
theorem jo_knobs : (Tryz.prog.stopKnobs == []) = true := by kernel_rfl
theorem jo_keys : (true == Tryz.prog.plainKeys) = true := by kernel_rfl
theorem jo_heard : Tryz.prog.stopsHeard = true := by kernel_rfl
theorem ord_words : behindMainWord (wordsSigns (ordN.map Char.ofNat)) = "cut".toList :: (behindMainWord (wordsSigns (ordN.map Char.ofNat))).tail := by kernel_rfl
theorem strip_cut (W : List (List Char)) : stripLifts liftWords ("cut".toList :: W) = ([], "cut".toList :: W) := by kernel_rfl
theorem jo_later : Tryz.prog.laysLater = false := by kernel_rfl
theorem jo_reflect : Tryz.prog.bearsReflect = false := by kernel_rfl
theorem jo_door : Tryz.prog.doorFits [] = true := by kernel_rfl
theorem cut_gc : ("cut".toList == "gc".toList) = false := by kernel_rfl
theorem cut_spec : ("cut".toList == "spec".toList) = false := by kernel_rfl
theorem cut_carried : ("cut".toList == "carried".toList) = false := by kernel_rfl
theorem cut_cut : ("cut".toList == "cut".toList) = true := by kernel_rfl
theorem some_cut : (some "cut".toList == some "cut".toList) = true := by kernel_rfl
theorem jo_enter : Tryz.prog.mayEnter = true := by
  rw [Program.mayEnter, ord_list, ord_words]
  generalize (behindMainWord (wordsSigns (ordN.map Char.ofNat))).tail = W
  simp only [strip_cut, cut_gc, cut_spec, cut_carried, List.head?_cons, some_cut, jo_later, jo_reflect, jo_door, Bool.or_self, Bool.false_and, Bool.not_false, Bool.or_true, Bool.and_self, List.contains_nil]
theorem jo_lifts : Tryz.prog.headLifts = [] := by
  unfold Program.headLifts
  rw [ord_list, ord_words]
  generalize (behindMainWord (wordsSigns (ordN.map Char.ofNat))).tail = W
  simp only [strip_cut, List.head?_cons, some_cut, if_true]
theorem jo_final : (false == Tryz.prog.liftsFinal) = true := by
  unfold Program.liftsFinal
  rw [jo_lifts, ord_list, ord_words]
  generalize (behindMainWord (wordsSigns (ordN.map Char.ofNat))).tail = W
  kernel_rfl
theorem jo_make : (Tryz.prog.make == some .cut) = true := by
  rw [Program.make, ord_list, ord_words]
  generalize (behindMainWord (wordsSigns (ordN.map Char.ofNat))).tail = W
  simp only [cut_gc, cut_spec, cut_cut, Bool.or_self, Bool.true_or, if_true, Bool.false_eq_true, if_false]
  kernel_rfl
end Go.Proofs.YtccllgpaafgjaaaGreat

namespace Go.Proofs.YtccllgpaafgjaaaGreat
open Go.RowKit Go.Proofs.YtccllgpaafgjaaaGreatW.PrintWords Go.Joins Go.ChangeShapes Go.WideShapes Go.Deep
section
variable {H : Type} {enc : TypeId × Value → H} {w : World} {base : Nat} {spare : Nat → Bool} {held : Bool}
theorem open_byteE {n : Nat} {c : List Value} {y : DataW H × List MemPlace} (h : DataW.trod enc Tryz.prog w base spare held n 5 c = some y) : ∃ z : Int, kByte.K w z c ∧ 0 ≤ z ∧ z ≤ 255 := by
  obtain ⟨z, rfl, _, hw⟩ := DataW.trod_int Tryz.underlying5 h
  have hb := bounds_u8 hw
  exact ⟨z, rfl, hb.1, hb.2⟩
theorem cells_byte : Tryz.prog.cellsOf 5 = 1 := by kernel_rfl
set_option maxRecDepth 100000 in
theorem bytes_lt {r : Reach} {b0 : Nat} {ad : Addr} {n c : Nat} (h : Value.okWide Tryz.prog w r b0 22 (.slice (some ad) n c)) : ad.block < w.heap.size := by
  simp only [Value.okWide, Tryz.underlying22, Cell.okWide, Cell.ok, World.has] at h
  obtain ⟨_, _, _, _, row, cells, hs, _⟩ := h
  unfold World.shape? at hs
  by_cases hl : ad.block < w.heap.size
  · exact hl
  · rw [Array.getElem?_eq_none (by omega)] at hs
    cases hs
set_option maxRecDepth 100000 in
theorem open_bytes {r : Reach} {b0 : Nat} {v : Value} {d : DataW H} {p : List MemPlace} (hv : Value.okWide Tryz.prog w r b0 22 v) (h : DataW.Trod enc Tryz.prog w base spare held 22 v d p) :
    ∃ A n c, ∃ bs : List Int, v = .slice A n c ∧ CodeIn w A n c bs ∧ n ≤ 9223372036854775807 := by
  obtain ⟨a, len, cap, rfl⟩ := okWide_slice Tryz.underlying22 hv
  obtain ⟨fuel, hf⟩ := h
  obtain ⟨A, c, xs, e, hc, hC, hQ, hm⟩ := open_row kByte (Q := fun z => 0 ≤ z ∧ z ≤ 255) Tryz.underlying22 cells_byte (fun n c y hl h => by
    obtain ⟨z, hz, h0, h1⟩ := open_byteE h
    exact ⟨z, hz, h0, h1⟩) hf
  simp [Value.cells] at e
  obtain ⟨rfl, rfl, rfl⟩ := e
  have := big_max
  exact ⟨_, _, _, xs, rfl, ⟨rfl, hc, hC, hQ, fun ad e => by subst e; exact bytes_lt hv⟩, by omega⟩
end
end Go.Proofs.YtccllgpaafgjaaaGreat

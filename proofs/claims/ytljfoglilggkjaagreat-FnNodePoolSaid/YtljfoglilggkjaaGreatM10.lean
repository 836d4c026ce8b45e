/- Contracts of the program's and the reference's functions, and the plain laws behind them: part 10 of 13. -/
import Derived.Test.YtljfoglilggkjaaGreatM1
import Derived.Test.YtljfoglilggkjaaGreatM2
import Derived.Test.YtljfoglilggkjaaGreatM3
import Derived.Test.YtljfoglilggkjaaGreatM4
import Derived.Test.YtljfoglilggkjaaGreatM5
import Derived.Test.YtljfoglilggkjaaGreatM6
import Derived.Test.YtljfoglilggkjaaGreatM7
import Derived.Test.YtljfoglilggkjaaGreatM8
import Derived.Test.YtljfoglilggkjaaGreatM9
set_option linter.unusedVariables false
set_option linter.unusedSimpArgs false
set_option maxHeartbeats 64000000
set_option maxRecDepth 10000
namespace Go.Proofs.YtljfoglilggkjaaGreat
open Go.RowKit Go.Proofs.YtljfoglilggkjaaGreatW.PrintWords Go.Proofs.YtljfoglilggkjaaGreatW.PrintLast
def OpIn (o : Op) : Prop := SmallO o ∧ -100 ≤ o.n ∧ o.n ≤ 100 ∧ 0 ≤ o.kind ∧ o.kind ≤ 100
def opCs (o : Op) : Array Value := (oC o)
def z5 : Array Value := #[.int .i64 0, .string ⟨#[]⟩, .string ⟨#[]⟩, .int .i64 0, .string ⟨#[]⟩]
theorem OwnP.rd {w w' : World} {base : Nat} {v0 v1 : Value} {p : Pool} {bvs : List Value} (h : OwnP w base v0 v1 p bvs) {rb k : Nat} (hR : Rd w rb k) (hg : w.grownBy w' (some rb)) : OwnP w' base v0 v1 p bvs := by
 obtain ⟨A, c, bs, q, hB, _⟩ := hR.h
 exact h.grown hB (by decide) (by decide) (by decide) hg
structure FitSt (w W : World) (rb k base : Nat) (v0 v1 : Value) (p : Pool) (bvs : List Value) (ob : Nat) (cs : Array Value) : Prop where
  box : Blk W w.heap.size #[v0, v1] 44
  res : Blk W (w.heap.size + 1) z5 27
  op : Blk W ob cs 27
  rd : Rd W rb k
  own : OwnP W base v0 v1 p bvs
  g : w.grownBy W (some rb)
  l2 : w.heap.size + 1 < ob
  l3 : rb < w.heap.size
theorem FitSt.step {w W W' : World} {rb k k' base : Nat} {v0 v1 : Value} {p : Pool} {bvs : List Value} {ob : Nat} {cs : Array Value} (h : FitSt w W rb k base v0 v1 p bvs ob cs) (hR : Rd W' rb k') (hg : W.grownBy W' (some rb)) : FitSt w W' rb k' base v0 v1 p bvs ob cs :=
 ⟨h.box.grown hg (fun e => by injection e with e; have := h.l3; omega), h.res.grown hg (fun e => by injection e with e; have := h.l3; omega), h.op.grown hg (fun e => by injection e with e; have := h.l3; have := h.l2; omega), hR, h.own.rd h.rd hg, grown_tr h.g hg, h.l2, h.l3⟩
theorem FitSt.bel {w W W' : World} {rb k base : Nat} {v0 v1 : Value} {p : Pool} {bvs : List Value} {ob : Nat} {cs : Array Value} (h : FitSt w W rb k base v0 v1 p bvs ob cs) (hb : Bel W W') : FitSt w W' rb k base v0 v1 p bvs ob cs :=
 ⟨h.box.bel hb, h.res.bel hb, h.op.bel hb, h.rd.bel hb, h.own.bel hb, grown_tr h.g (grown_of_bel hb _), h.l2, h.l3⟩
theorem FitSt.set {w W : World} {rb k base : Nat} {v0 v1 : Value} {p : Pool} {bvs : List Value} {ob : Nat} {cs cs' : Array Value} (h : FitSt w W rb k base v0 v1 p bvs ob cs) (i : Nat) (u : Value) (e : cs.setIfInBounds i u = cs') : FitSt w (W.setCell ⟨ob, i, none⟩ u) rb k base v0 v1 p bvs ob cs' :=
 ⟨h.box.apart (by have := h.l2; omega) i u, h.res.apart (by have := h.l2; omega) i u, h.op.set i u e, h.rd.set (by have := h.l2; have := h.l3; omega) i u, h.own.far h.op (by decide) (by decide) (by decide) i u, grown_new h.g (by have := h.l2; omega) i u, h.l2, h.l3⟩
theorem FitSt.more {w W : World} {rb k k' base : Nat} {v0 v1 : Value} {p : Pool} {bvs : List Value} {ob : Nat} {cs : Array Value} (h : FitSt w W rb k base v0 v1 p bvs ob cs) (hk : k ≤ k') : FitSt w W rb k' base v0 v1 p bvs ob cs := ⟨h.box, h.res, h.op, h.rd.more hk, h.own, h.g, h.l2, h.l3⟩
theorem FitSt.fx {w W : World} {rb k base : Nat} {v0 v1 : Value} {p : Pool} {bvs : List Value} {ob : Nat} {o : Op} (h : FitSt w W rb k base v0 v1 p bvs ob (opCs o)) :
  W.cell? ⟨w.heap.size, 0, none⟩ = some v0 ∧ W.cell? ⟨w.heap.size, 1, none⟩ = some v1 ∧ W.cell? ⟨ob, 0, none⟩ = some (.int .i64 o.kind) ∧ W.cell? ⟨ob, 1, none⟩ = some (.string o.name) ∧ W.cell? ⟨ob, 2, none⟩ = some (.string o.dest) ∧ W.cell? ⟨ob, 3, none⟩ = some (.int .i64 o.n) ∧ W.cell? ⟨ob, 4, none⟩ = some (.string o.text) :=
 ⟨by rw [h.box.cell]; rfl, by rw [h.box.cell]; rfl, by rw [h.op.cell]; rfl, by rw [h.op.cell]; rfl, by rw [h.op.cell]; rfl, by rw [h.op.cell]; rfl, by rw [h.op.cell]; rfl⟩
theorem fits_c {w : World} {rb k base : Nat} {v0 v1 : Value} {p : Pool} {bvs : List Value} (h : Rd w rb k) (hk : k ≤ 1099511400000) (ho : OwnP w base v0 v1 p bvs) (hp : PoolP p) :
  Calls Tryz.prog 121 #[.pointer (some ⟨rb, 0, none⟩), .agg #[v0, v1]] w (Drawn rb k 200 OpV w) := by
 have H := Lib.hid h
 have hlt := h.lt
 obtain ⟨A0, A1, c0, c1, rfl, rfl, hpi⟩ := ho.reads
 obtain ⟨nv, hnv⟩ : ∃ nv, p.vols.length = nv := ⟨_, rfl⟩
 rw [hnv] at ho ⊢
 have HNV := Lib.hid hnv
 clear hnv
 have HO := Lib.hid ho
 have HP := Lib.hid hp
 have hnv4 : nv ≤ 4 := by rw [← HNV.out]; exact hp.v.len
 clear h ho hp hpi
 go_enter Tryz.func121, Tryz.ntmps121
 go_wp2_with fail
 have hbox : Blk ((w.alloc (.cells #[.slice A0 p.slots.length c0, .slice A1 nv c1] 44)).alloc (.cells #[.int .i64 0, .string ⟨#[]⟩, .string ⟨#[]⟩, .int .i64 0, .string ⟨#[]⟩] 27)) w.heap.size #[.slice A0 p.slots.length c0, .slice A1 nv c1] 44 := (Blk.new _ _ _).alloc _
 have hres : Blk ((w.alloc (.cells #[.slice A0 p.slots.length c0, .slice A1 nv c1] 44)).alloc (.cells #[.int .i64 0, .string ⟨#[]⟩, .string ⟨#[]⟩, .int .i64 0, .string ⟨#[]⟩] 27)) (w.heap.size + 1) z5 27 := Blk.nw2 _ _ _ _
 have hW : Bel w ((w.alloc (.cells #[.slice A0 p.slots.length c0, .slice A1 nv c1] 44)).alloc (.cells #[.int .i64 0, .string ⟨#[]⟩, .string ⟨#[]⟩, .int .i64 0, .string ⟨#[]⟩] 27)) := bel_alloc (bel_alloc (Below.refl _ _) _) _
 generalize ((w.alloc (.cells #[.slice A0 p.slots.length c0, .slice A1 nv c1] 44)).alloc (.cells #[.int .i64 0, .string ⟨#[]⟩, .string ⟨#[]⟩, .int .i64 0, .string ⟨#[]⟩] 27)) = W0 at hbox hres hW ⊢
 refine (op_c (H.out.bel hW) (by omega)).mono ?_
 rintro e w1 ⟨v, rfl, ⟨o0, rfl, hoi⟩, hR1, hg1⟩
 have hst : FitSt w (w1.alloc (.cells (opCs o0) 27)) rb (k + 20) base (.slice A0 p.slots.length c0) (.slice A1 nv c1) p bvs w1.heap.size (opCs o0) :=
  ⟨(hbox.grown hg1 (by intro e; injection e with e; omega)).alloc _, (hres.grown hg1 (by intro e; injection e with e; omega)).alloc _, Blk.new _ _ _, hR1.bel (bel_alloc (Below.refl _ _) _), ((HO.out.bel hW).rd (H.out.bel hW) hg1).bel (bel_alloc (Below.refl _ _) _), grown_tr (grown_tr (grown_of_bel hW _) hg1) (grown_of_bel (bel_alloc (Below.refl _ _) _) _), (hres.grown hg1 (by intro e; injection e with e; omega)).lt, hlt⟩
 have HOI := Lib.hid (show OpIn o0 from hoi)
 have HST := Lib.hid hst
 clear hbox hres hW hoi hR1 hg1 hst
 unfold opV
 unfold opCs at HST
 go_wp2_with fail
 generalize w1.alloc (.cells (oC o0) 27) = W4 at HST ⊢
 obtain ⟨ob, hob⟩ : ∃ ob, w1.heap.size = ob := ⟨_, rfl⟩
 rw [hob] at HST ⊢
 clear hob
 go_loopg [6] 8 (fun gg v6 W => ∃ (j : Nat) (o : Op), gg + j = 8 ∧ v6 = .int .i64 j ∧ Hid (OpIn o) ∧ Hid (FitSt w W rb (k + 20 + 22 * j) base (.slice A0 p.slots.length c0) (.slice A1 nv c1) p bvs ob (opCs o)))
 case atStart => exact ⟨0, o0, rfl, rfl, HOI.out, HST.out⟩
 case round =>
  clear HST HOI
  obtain ⟨j, o, hj, rfl, hoi, hst⟩ := hrel
  have HOI := hoi
  have HST := hst
  clear hoi hst
  have hnm := HOI.out.1
  by_cases hj8 : j < 8
  ·have hcs := HST.out.op
   have c0' := HST.out.op.cell 0
   have c1' := HST.out.op.cell 1
   have c2' := HST.out.op.cell 2
   have c3' := HST.out.op.cell 3
   have c4' := HST.out.op.cell 4
   simp [opCs] at c0' c1' c2' c3' c4'
   clear hcs
   go_wp2_with fail
   refine (specOpOk_c o hnm _).mono ?_
   rintro e w2 ⟨rfl, hb2⟩
   have HS2 := Lib.hid (HST.out.bel hb2)
   clear c0' c1' c2' c3' c4' hb2
   cases hok : opOk o with
   | true =>
    clear hok
    go_wp2
    have BB := Lib.hid (HS2.out.bel (Below.refl _ _).drew)
    have D0 := Lib.hid (show Bel w2.drew w2.drew from Below.refl _ _)
    have hfx := Lib.hid (fun W => fun hb : Bel w2.drew W => (BB.out.bel hb).fx)
    have PI := Lib.hid (show PoolIn w2.drew A0 A1 c0 c1 p by obtain ⟨a0, a1, k0, k1, e0, e1, hh⟩ := BB.out.own.reads; have e0 := slice_eq e0; have e1 := slice_eq e1; obtain ⟨rfl, -, rfl⟩ := e0; obtain ⟨rfl, -, rfl⟩ := e1; exact hh)
    obtain ⟨q, hq⟩ : ∃ q, (opF p o).getD p = q := ⟨_, rfl⟩
    obtain ⟨ok, hokk⟩ : ∃ ok, (opF p o).isSome = ok := ⟨_, rfl⟩
    have hdo := Lib.hid (fun (W : World) (v0 v1 : Value) (bvs : List Value) (h : OwnP W w2.drew.heap.size v0 v1 p bvs) (hb : w2.drew.heap.size ≤ W.heap.size) => l12Do_c (o := o) h HP.out hb hnm)
    unfold TurnsP at hdo
    rw [hq, hokk] at hdo
    have HQ := Lib.hid (And.intro hq hokk)
    clear hq hokk
    obtain ⟨s0, s1, s2, s3, s4, s5, s6⟩ := hfx.out _ D0.out
    have hcp := Lib.hid (fun (W : World) (h : PoolIn W A0 A1 c0 c1 p) => l11Copy_c h HP.out.small)
    rw [HNV.out] at hcp
    refine start_ (n := 10) (S := fun w' => w'.cell? ⟨w.heap.size, 0, none⟩ = some (.slice A0 p.slots.length c0) ∧ w'.cell? ⟨w.heap.size, 1, none⟩ = some (.slice A1 nv c1) ∧ w'.cell? ⟨ob, 0, none⟩ = some (.int .i64 o.kind) ∧ w'.cell? ⟨ob, 1, none⟩ = some (.string o.name) ∧ w'.cell? ⟨ob, 2, none⟩ = some (.string o.dest) ∧ w'.cell? ⟨ob, 3, none⟩ = some (.int .i64 o.n) ∧ w'.cell? ⟨ob, 4, none⟩ = some (.string o.text)) (ds := [8]) #[F, F, F, F, F, F, F, F, F, F] (by kernel_rfl) rfl rfl ⟨s0, s1, s2, s3, s4, s5, s6⟩ (fun hHeld => ?_)
    refine ty 0 (some 18) #[T, F, F, F, F, F, F, F, F, F] (hS := hHeld) (hz := by rintro w' ⟨s0, s1, s2, s3, s4, s5, s6⟩; go_simp; with_reducible rfl) (h := ?_)
    refine ty 2 (some 20) #[T, F, T, F, F, F, F, F, F, F] (hS := hHeld) (hz := by rintro w' ⟨s0, s1, s2, s3, s4, s5, s6⟩; go_simp; with_reducible rfl) (h := ?_)
    refine join_ (σ := Value × Value × Option Addr × Nat × Option Addr × Nat × List Value × Nat) 2 #[T, T, T, T, T, T, T, T, F, F] (fun s => [(19, .agg #[s.1, s.2.1]), (21, .tuple #[.agg #[.slice s.2.2.1 q.slots.length s.2.2.2.1, .slice s.2.2.2.2.1 q.vols.length s.2.2.2.2.2.1], .bool ok]), (17, .tuple #[.agg #[.slice s.2.2.1 q.slots.length s.2.2.2.1, .slice s.2.2.2.2.1 q.vols.length s.2.2.2.2.2.1], .bool ok]), (22, .agg #[.slice s.2.2.1 q.slots.length s.2.2.2.1, .slice s.2.2.2.2.1 q.vols.length s.2.2.2.2.2.1]), (23, .bool ok), (7, .pointer (some ⟨s.2.2.2.2.2.2.2, 0, none⟩))]) (fun s w' => (w'.cell? ⟨w.heap.size, 0, none⟩ = some (.slice A0 p.slots.length c0) ∧ w'.cell? ⟨w.heap.size, 1, none⟩ = some (.slice A1 nv c1) ∧ w'.cell? ⟨ob, 0, none⟩ = some (.int .i64 o.kind) ∧ w'.cell? ⟨ob, 1, none⟩ = some (.string o.name) ∧ w'.cell? ⟨ob, 2, none⟩ = some (.string o.dest) ∧ w'.cell? ⟨ob, 3, none⟩ = some (.int .i64 o.n) ∧ w'.cell? ⟨ob, 4, none⟩ = some (.string o.text)) ∧ OwnP w' w2.drew.heap.size (.slice s.2.2.1 q.slots.length s.2.2.2.1) (.slice s.2.2.2.2.1 q.vols.length s.2.2.2.2.2.1) q s.2.2.2.2.2.2.1 ∧ Blk w' s.2.2.2.2.2.2.2 #[.slice none 0 0, .slice none 0 0] 44 ∧ w2.drew.heap.size ≤ s.2.2.2.2.2.2.2 ∧ Bel w2.drew w') ?_ ?_
    rotate_left
    ·intro hCont
     refine two_ (i := 1) (j := 7) (Ni := some 19) (Nj := some 7) #[T, T, T, F, F, F, F, F, F, F] #[T, F, T, F, F, F, F, T, F, F] rfl rfl rfl rfl (by kernel_rfl) (by decide) (by decide) (fun K hK => ?_) (fun K hK => ?_)
     ·skip
      refine gox Tryz.func135 #[.agg #[.slice A0 p.slots.length c0, .slice A1 nv c1]] ?_
      with_reducible refine (hcp.out _ (PI.out.bel D0.out)).mono ?_
      rintro e w1_ ⟨va, vb, bva, rfl, ho, X1⟩
      have D1 := Lib.hid (Bel.tr D0.out X1)
      have P1 : Hid (OwnP w1_ w2.drew.heap.size va vb p bva) := Lib.hid (ho.lower D0.out.size)
      clear ho
      refine ⟨_, rfl, ?_⟩
      refine hK.out _ _ ⟨(hfx.out _ D1.out).1, (hfx.out _ D1.out).2.1, (hfx.out _ D1.out).2.2.1, (hfx.out _ D1.out).2.2.2.1, (hfx.out _ D1.out).2.2.2.2.1, (hfx.out _ D1.out).2.2.2.2.2.1, (hfx.out _ D1.out).2.2.2.2.2.2⟩ (fun hHeld => ?_)
      clear hK K
      refine nox 19 (h := ?_)
      refine two_ (i := 3) (j := 7) (Ni := some 21) (Nj := some 7) #[T, T, T, T, F, F, F, F, F, F] #[T, T, T, F, F, F, F, T, F, F] rfl rfl rfl rfl (by kernel_rfl) (by decide) (by decide) (fun K hK => ?_) (fun K hK => ?_)
      ·skip
       refine gox Tryz.func86 #[.agg #[va, vb], .agg #[.int .i64 o.kind, .string o.name, .string o.dest, .int .i64 o.n, .string o.text]] ?_
       with_reducible refine (hdo.out _ va vb bva P1.out D1.out.size).mono ?_
       rintro e w2_ ⟨vc, vd, bvc, rfl, ho, X2⟩
       have D2 : Hid (Bel w2.drew w2_) := Lib.hid (D1.out.trans X2.b)
       have Q2 := Lib.hid ho
       obtain ⟨A2, A3, k2, k3, rfl, rfl, hpi⟩ := ho.reads
       clear ho hpi
       refine ⟨_, rfl, ?_⟩
       refine hK.out _ _ ⟨(hfx.out _ D2.out).1, (hfx.out _ D2.out).2.1, (hfx.out _ D2.out).2.2.1, (hfx.out _ D2.out).2.2.2.1, (hfx.out _ D2.out).2.2.2.2.1, (hfx.out _ D2.out).2.2.2.2.2.1, (hfx.out _ D2.out).2.2.2.2.2.2⟩ (fun hHeld => ?_)
       clear hK K
       refine nox 21 (h := ?_)
       refine py 4 (some 17) #[T, T, T, T, T, F, F, F, F, F] ?_
       refine py 5 (some 22) #[T, T, T, T, T, T, F, F, F, F] ?_
       refine py 6 (some 23) #[T, T, T, T, T, T, T, F, F, F] ?_
       refine ox 7 (some 7) #[T, T, T, T, T, T, T, T, F, F] fun K hK => ?_
       refine vx ?_
       have D3 : Hid (Bel w2.drew (w2_.alloc (.cells #[.slice none 0 0, .slice none 0 0] 44))) := Lib.hid (bel_alloc D2.out (.cells #[.slice none 0 0, .slice none 0 0] 44))
       have Q3 := Lib.hid (OwnP.bel Q2.out (bel_alloc (Below.refl _ _) (.cells #[.slice none 0 0, .slice none 0 0] 44)))
       have O3 : Hid (Blk (w2_.alloc (.cells #[.slice none 0 0, .slice none 0 0] 44)) w2_.heap.size #[.slice none 0 0, .slice none 0 0] 44) := Lib.hid (Blk.new w2_ #[.slice none 0 0, .slice none 0 0] 44)
       have L3 := D2.out.size
       refine hK.out _ _ ⟨(hfx.out _ D3.out).1, (hfx.out _ D3.out).2.1, (hfx.out _ D3.out).2.2.1, (hfx.out _ D3.out).2.2.2.1, (hfx.out _ D3.out).2.2.2.2.1, (hfx.out _ D3.out).2.2.2.2.2.1, (hfx.out _ D3.out).2.2.2.2.2.2⟩ (fun hHeld => ?_)
       clear hK K
       refine nox 7 (h := ?_)
       exact nof (hCont (va, vb, A2, k2, A3, k3, bvc, w2_.heap.size) _ ⟨hHeld, Q3.out, O3.out, L3, D3.out⟩)
      ·skip
       refine vx ?_
       have D2 : Hid (Bel w2.drew (w1_.alloc (.cells #[.slice none 0 0, .slice none 0 0] 44))) := Lib.hid (bel_alloc D1.out (.cells #[.slice none 0 0, .slice none 0 0] 44))
       have P2 := Lib.hid (OwnP.bel P1.out (bel_alloc (Below.refl _ _) (.cells #[.slice none 0 0, .slice none 0 0] 44)))
       have O2 : Hid (Blk (w1_.alloc (.cells #[.slice none 0 0, .slice none 0 0] 44)) w1_.heap.size #[.slice none 0 0, .slice none 0 0] 44) := Lib.hid (Blk.new w1_ #[.slice none 0 0, .slice none 0 0] 44)
       have L2 := D1.out.size
       refine hK.out _ _ ⟨(hfx.out _ D2.out).1, (hfx.out _ D2.out).2.1, (hfx.out _ D2.out).2.2.1, (hfx.out _ D2.out).2.2.2.1, (hfx.out _ D2.out).2.2.2.2.1, (hfx.out _ D2.out).2.2.2.2.2.1, (hfx.out _ D2.out).2.2.2.2.2.2⟩ (fun hHeld => ?_)
       clear hK K
       refine nox 7 (h := ?_)
       refine ox 3 (some 21) #[T, T, T, T, F, F, F, T, F, F] fun K hK => ?_
       refine gox Tryz.func86 #[.agg #[va, vb], .agg #[.int .i64 o.kind, .string o.name, .string o.dest, .int .i64 o.n, .string o.text]] ?_
       with_reducible refine (hdo.out _ va vb bva P2.out D2.out.size).mono ?_
       rintro e w3_ ⟨vc, vd, bvc, rfl, ho, X3⟩
       have D3 : Hid (Bel w2.drew w3_) := Lib.hid (D2.out.trans X3.b)
       have O3 := Lib.hid (X3.k _ _ _ (by decide) (by decide) (by decide) O2.out)
       have Q3 := Lib.hid ho
       obtain ⟨A2, A3, k2, k3, rfl, rfl, hpi⟩ := ho.reads
       clear ho hpi
       refine ⟨_, rfl, ?_⟩
       refine hK.out _ _ ⟨(hfx.out _ D3.out).1, (hfx.out _ D3.out).2.1, (hfx.out _ D3.out).2.2.1, (hfx.out _ D3.out).2.2.2.1, (hfx.out _ D3.out).2.2.2.2.1, (hfx.out _ D3.out).2.2.2.2.2.1, (hfx.out _ D3.out).2.2.2.2.2.2⟩ (fun hHeld => ?_)
       clear hK K
       refine nox 21 (h := ?_)
       refine py 4 (some 17) #[T, T, T, T, T, F, F, T, F, F] ?_
       refine py 5 (some 22) #[T, T, T, T, T, T, F, T, F, F] ?_
       refine py 6 (some 23) #[T, T, T, T, T, T, T, T, F, F] ?_
       exact nof (hCont (va, vb, A2, k2, A3, k3, bvc, w1_.heap.size) _ ⟨hHeld, Q3.out, O3.out, L2, D3.out⟩)
     ·skip
      refine vx ?_
      have D1 : Hid (Bel w2.drew (w2.alloc (.cells #[.slice none 0 0, .slice none 0 0] 44)).drew) := Lib.hid (bel_alloc D0.out (.cells #[.slice none 0 0, .slice none 0 0] 44))
      have O1 : Hid (Blk (w2.alloc (.cells #[.slice none 0 0, .slice none 0 0] 44)).drew w2.drew.heap.size #[.slice none 0 0, .slice none 0 0] 44) := Lib.hid (Blk.new w2.drew #[.slice none 0 0, .slice none 0 0] 44)
      have L1 := D0.out.size
      refine hK.out _ _ ⟨(hfx.out _ D1.out).1, (hfx.out _ D1.out).2.1, (hfx.out _ D1.out).2.2.1, (hfx.out _ D1.out).2.2.2.1, (hfx.out _ D1.out).2.2.2.2.1, (hfx.out _ D1.out).2.2.2.2.2.1, (hfx.out _ D1.out).2.2.2.2.2.2⟩ (fun hHeld => ?_)
      clear hK K
      refine nox 7 (h := ?_)
      refine ox 1 (some 19) #[T, T, T, F, F, F, F, T, F, F] fun K hK => ?_
      refine gox Tryz.func135 #[.agg #[.slice A0 p.slots.length c0, .slice A1 nv c1]] ?_
      with_reducible refine (hcp.out _ (PI.out.bel D1.out)).mono ?_
      rintro e w2_ ⟨va, vb, bva, rfl, ho, X2⟩
      have D2 := Lib.hid (Bel.tr D1.out X2)
      have O2 := Lib.hid (Blk.bel O1.out X2)
      have P2 : Hid (OwnP w2_ w2.drew.heap.size va vb p bva) := Lib.hid (ho.lower D1.out.size)
      clear ho
      refine ⟨_, rfl, ?_⟩
      refine hK.out _ _ ⟨(hfx.out _ D2.out).1, (hfx.out _ D2.out).2.1, (hfx.out _ D2.out).2.2.1, (hfx.out _ D2.out).2.2.2.1, (hfx.out _ D2.out).2.2.2.2.1, (hfx.out _ D2.out).2.2.2.2.2.1, (hfx.out _ D2.out).2.2.2.2.2.2⟩ (fun hHeld => ?_)
      clear hK K
      refine nox 19 (h := ?_)
      refine ox 3 (some 21) #[T, T, T, T, F, F, F, T, F, F] fun K hK => ?_
      refine gox Tryz.func86 #[.agg #[va, vb], .agg #[.int .i64 o.kind, .string o.name, .string o.dest, .int .i64 o.n, .string o.text]] ?_
      with_reducible refine (hdo.out _ va vb bva P2.out D2.out.size).mono ?_
      rintro e w3_ ⟨vc, vd, bvc, rfl, ho, X3⟩
      have D3 : Hid (Bel w2.drew w3_) := Lib.hid (D2.out.trans X3.b)
      have O3 := Lib.hid (X3.k _ _ _ (by decide) (by decide) (by decide) O2.out)
      have Q3 := Lib.hid ho
      obtain ⟨A2, A3, k2, k3, rfl, rfl, hpi⟩ := ho.reads
      clear ho hpi
      refine ⟨_, rfl, ?_⟩
      refine hK.out _ _ ⟨(hfx.out _ D3.out).1, (hfx.out _ D3.out).2.1, (hfx.out _ D3.out).2.2.1, (hfx.out _ D3.out).2.2.2.1, (hfx.out _ D3.out).2.2.2.2.1, (hfx.out _ D3.out).2.2.2.2.2.1, (hfx.out _ D3.out).2.2.2.2.2.2⟩ (fun hHeld => ?_)
      clear hK K
      refine nox 21 (h := ?_)
      refine py 4 (some 17) #[T, T, T, T, T, F, F, T, F, F] ?_
      refine py 5 (some 22) #[T, T, T, T, T, T, F, T, F, F] ?_
      refine py 6 (some 23) #[T, T, T, T, T, T, T, T, F, F] ?_
      exact nof (hCont (va, vb, A2, k2, A3, k3, bvc, w2.heap.size) _ ⟨hHeld, Q3.out, O3.out, L1, D3.out⟩)
    rintro ⟨va, vb, A2, k2, A3, k3, bvc, nb⟩ w3 ⟨hHeld, hQ, hO, hL, hD⟩
    dsimp only at hQ hO hL
    obtain ⟨r0, r1, f0, f1, -⟩ := k2f hO
    refine norm_ (a' := ?_) ?_ ?_
    rotate_left
    ·simp only [putAll, Act.put, lA, lB, lC]
     rfl
    refine lx 8 none #[T, T, T, T, T, T, T, T, T, F] fun K hK => ?_
    refine sx ?_
    refine hK.out _ _ ?_
    clear hK K
    refine py 9 (some 8) #[T, T, T, T, T, T, T, T, T, T] ?_
    refine done_ (by kernel_rfl) ?_
    have HS8 := Lib.hid (BB.out.bel (bel_set (bel_set hD hL 0 (.slice A2 q.slots.length k2)) hL 1 (.slice A3 q.vols.length k3)))
    clear hQ hO hL hD f0 f1 r0 r1 hHeld s0 s1 s2 s3 s4 s5 s6 hcp hdo hfx D0 PI BB HQ
    generalize ((w3.setCell ⟨nb, 0, none⟩ (.slice A2 q.slots.length k2)).setCell ⟨nb, 1, none⟩ (.slice A3 q.vols.length k3)) = W8 at HS8 ⊢
    cases ok with
    | true =>
     have hsf := HS8.out
     have x0 := hsf.res.cell 0
     have x1 := hsf.res.cell 1
     have x2 := hsf.res.cell 2
     have x3 := hsf.res.cell 3
     have x4 := hsf.res.cell 4
     have f0 := hsf.res.free 0
     have f1 := hsf.res.free 1
     have f2 := hsf.res.free 2
     have f3 := hsf.res.free 3
     have f4 := hsf.res.free 4
     have y0 := hsf.op.cell 0
     have y1 := hsf.op.cell 1
     have y2 := hsf.op.cell 2
     have y3 := hsf.op.cell 3
     have y4 := hsf.op.cell 4
     have zr := hsf.res.lt
     have hne5 := hsf.l2
     simp [opCs, z5] at x0 x1 x2 x3 x4 y0 y1 y2 y3 y4
     clear hsf
     go_wp2
     have hsf := HS8.out
     have hl4 : rb < w.heap.size + 1 := by omega
     have hf := (((((hsf.res.set 0 (.int .i64 o.kind) (cs' := #[.int .i64 o.kind, .string ⟨#[]⟩, .string ⟨#[]⟩, .int .i64 0, .string ⟨#[]⟩]) rfl).set 1 (.string o.name) (cs' := #[.int .i64 o.kind, .string o.name, .string ⟨#[]⟩, .int .i64 0, .string ⟨#[]⟩]) rfl).set 2 (.string o.dest) (cs' := #[.int .i64 o.kind, .string o.name, .string o.dest, .int .i64 0, .string ⟨#[]⟩]) rfl).set 3 (.int .i64 o.n) (cs' := #[.int .i64 o.kind, .string o.name, .string o.dest, .int .i64 o.n, .string ⟨#[]⟩]) rfl).set 4 (.string o.text) (cs' := (oC o)) rfl)
     have hgf := (grown_new (grown_new (grown_new (grown_new (grown_new hsf.g (Nat.le_succ w.heap.size) 0 (.int .i64 o.kind)) (Nat.le_succ w.heap.size) 1 (.string o.name)) (Nat.le_succ w.heap.size) 2 (.string o.dest)) (Nat.le_succ w.heap.size) 3 (.int .i64 o.n)) (Nat.le_succ w.heap.size) 4 (.string o.text))
     have hrf := (((((hsf.rd.set (b := w.heap.size + 1) hl4 0 (.int .i64 o.kind)).set (b := w.heap.size + 1) hl4 1 (.string o.name)).set (b := w.heap.size + 1) hl4 2 (.string o.dest)).set (b := w.heap.size + 1) hl4 3 (.int .i64 o.n)).set (b := w.heap.size + 1) hl4 4 (.string o.text))
     refine bodyPost_ret (results_cell_row rfl _ _ (w.heap.size + 1) 27 (opCs o) (0, 0) _ rfl hf Tryz.underlying27 rfl (by kernel_rfl)) rfl ?_
     exact ⟨_, rfl, ⟨o, rfl, HOI.out⟩, hrf.more (by omega), hgf⟩
    | false =>
     go_wp2_with fail
     refine (op_c HS8.out.rd (by omega)).mono ?_
     rintro e w5 ⟨v, rfl, ⟨o2, rfl, ho2⟩, hR5, hg5⟩
     have HOJ := Lib.hid (show OpIn o2 from ho2)
     have hs5 := HS8.out.step hR5 hg5
     clear ho2 hR5 hg5
     unfold opV
     have hz5 := hs5.op.lt
     have cz0 := hs5.op.cell 0
     have cz1 := hs5.op.cell 1
     have cz2 := hs5.op.cell 2
     have cz3 := hs5.op.cell 3
     have cz4 := hs5.op.cell 4
     have fz0 := hs5.op.free 0
     have fz1 := hs5.op.free 1
     have fz2 := hs5.op.free 2
     have fz3 := hs5.op.free 3
     have fz4 := hs5.op.free 4
     have bz0 := hs5.box.cell 0
     have bz1 := hs5.box.cell 1
     simp [opCs] at cz0 cz1 cz2 cz3 cz4 bz0 bz1
     unfold opCs at hs5
     have hs6 := (((((hs5.set 0 (.int .i64 o2.kind) (cs' := #[.int .i64 o2.kind, .string o.name, .string o.dest, .int .i64 o.n, .string o.text]) rfl).set 1 (.string o2.name) (cs' := #[.int .i64 o2.kind, .string o2.name, .string o.dest, .int .i64 o.n, .string o.text]) rfl).set 2 (.string o2.dest) (cs' := #[.int .i64 o2.kind, .string o2.name, .string o2.dest, .int .i64 o.n, .string o.text]) rfl).set 3 (.int .i64 o2.n) (cs' := #[.int .i64 o2.kind, .string o2.name, .string o2.dest, .int .i64 o2.n, .string o.text]) rfl).set 4 (.string o2.text) (cs' := (oC o2)) rfl)
     clear hs5
     have hne7 := hs6.l2
     by_cases hv0 : nv = 0
     ·subst hv0
      have HS6 := Lib.hid hs6
      clear hs6
      go_wp2
      go_roundg (8 - (j + 1))
      case measure => omega
      case rel => exact ⟨j + 1, o2, by omega, int_eq (by omega), HOJ.out, HS6.out.more (by omega)⟩
     have hv1 : 0 < nv := by omega
     have HS6 := Lib.hid hs6
     clear hs6
     go_wp2_with fail
     clear cz0 cz1 cz2 cz3 cz4 fz0 fz1 fz2 fz3 fz4 bz0 bz1 hz5
     generalize (((((w5.setCell ⟨ob, 0, none⟩ (.int .i64 o2.kind)).setCell ⟨ob, 1, none⟩ (.string o2.name)).setCell ⟨ob, 2, none⟩ (.string o2.dest)).setCell ⟨ob, 3, none⟩ (.int .i64 o2.n)).setCell ⟨ob, 4, none⟩ (.string o2.text)) = W6 at HS6 ⊢
     refine (pick_c HS6.out.rd (by omega) 3 (by omega)).mono ?_
     rintro e w7 ⟨v, rfl, ⟨r, rfl, hr0, hr1, -⟩, hR7, hg7⟩
     have hr2 := hr1 (by omega)
     have HS7 := Lib.hid (HS6.out.step hR7 hg7)
     clear hR7 hg7 hr1 HS6
     by_cases hr : r = 0
     ·subst hr
      go_wp2
      go_roundg (8 - (j + 1))
      case measure => omega
      case rel => exact ⟨j + 1, o2, by omega, int_eq (by omega), HOJ.out, HS7.out.more (by omega)⟩
     have hr3 : 0 < r := by omega
     go_wp2
     have hs7 := HS7.out
     have bz0 := hs7.box.cell 0
     have bz1 := hs7.box.cell 1
     simp at bz0 bz1
     have hzo := hs7.op.lt
     clear hs7
     have HS8 := Lib.hid (HS7.out.bel (Below.refl _ _).drew)
     refine start_ (n := 12) (S := fun w' => w'.cell? ⟨w.heap.size, 1, none⟩ = some (.slice A1 nv c1)) (ds := [11]) #[F, F, F, F, F, F, F, F, F, F, F, F] (by kernel_rfl) rfl rfl (bz1) (fun hHeld => ?_)
     refine py 0 (some 37) #[T, F, F, F, F, F, F, F, F, F, F, F] ?_
     refine py 2 (some 39) #[T, F, T, F, F, F, F, F, F, F, F, F] ?_
     refine py 3 (some 40) #[T, F, T, T, F, F, F, F, F, F, F, F] ?_
     refine ty 1 (some 38) #[T, T, T, T, F, F, F, F, F, F, F, F] (hS := hHeld) (hz := by intro w' s0; go_simp; with_reducible rfl) (h := ?_)
     refine ty 4 (some 41) #[T, T, T, T, T, F, F, F, F, F, F, F] (hS := hHeld) (hz := by intro w' s0; go_simp; with_reducible rfl) (h := ?_)
     refine py 5 (some 42) #[T, T, T, T, T, T, F, F, F, F, F, F] ?_
     refine ox 6 (some 43) #[T, T, T, T, T, T, T, F, F, F, F, F] fun K hK => ?_
     refine gox Tryz.func36 #[.pointer (some ⟨rb, 0, none⟩), .int .i64 nv] ?_
     with_reducible refine (pick_c (w := w7.drew) HS8.out.rd (by omega) nv (by omega)).mono ?_
     rintro e w8 ⟨v, rfl, ⟨r2, rfl, hr20, hr21, -⟩, hR8, hg8⟩
     have hr22 := hr21 (by omega)
     obtain ⟨i, rfl⟩ : ∃ i : Nat, r2 = i := ⟨r2.toNat, by omega⟩
     have hi : i < nv := by omega
     obtain ⟨x, hx⟩ := getQ (show i < p.vols.length by rw [HNV.out]; exact hi)
     have hs8 := HS8.out.step hR8 hg8
     obtain ⟨g, cap, bv, hbv, ev, hg1, hg2, hcap, hc, hc', hf, hf'⟩ := hs8.own.v.row.at hx
     have ev2 := slice_eq ev
     clear ev hcap
     obtain ⟨rfl, -, rfl⟩ := ev2
     have by1 := hs8.box.cell 1
     have hop1 := hs8.op.cell 1
     have hfo1 := hs8.op.free 1
     have hzo8 := hs8.op.lt
     simp [opCs] at by1 hop1
     have HS9 := Lib.hid hs8
     have HX := Lib.hid hx
     clear hs8 hR8 hg8 hr21 hbv hc' hf hf' hx
     refine ⟨_, rfl, ?_⟩
     refine hK.out _ _ (by1) (fun hHeld => ?_)
     clear hK K
     refine nox 43 (h := ?_)
     refine py 7 (some 44) #[T, T, T, T, T, T, T, T, F, F, F, F] ?_
     refine py 8 (some 45) #[T, T, T, T, T, T, T, T, T, F, F, F] ?_
     refine ox 9 (some 46) #[T, T, T, T, T, T, T, T, T, T, F, F] fun K hK => ?_
     refine vx ?_
     refine hK.out _ _ (by1) (fun hHeld => ?_)
     clear hK K
     refine nox 46 (h := ?_)
     refine py 10 (some 47) #[T, T, T, T, T, T, T, T, T, T, T, F] ?_
     refine lx 11 none #[T, T, T, T, T, T, T, T, T, T, T, T] fun K hK => ?_
     refine sx ?_
     refine hK.out _ _ ?_
     clear hK K
     refine done_ (by kernel_rfl) ?_
     have hs9 := HS9.out
     unfold opCs at hs9
     have hs10 := hs9.set 1 (.string x.name) (cs' := #[.int .i64 o2.kind, .string x.name, .string o2.dest, .int .i64 o2.n, .string o2.text]) rfl
     have HS10 := Lib.hid hs10
     clear hs9 hs10 hHeld bz1 by1 hop1 hc bz0
     have HOK := Lib.hid (show OpIn ⟨o2.kind, x.name, o2.dest, o2.n, o2.text⟩ from ⟨⟨HP.out.small.vols.name x (List.mem_of_getElem? HX.out), HOJ.out.1.dest, HOJ.out.1.text⟩, HOJ.out.2⟩)
     go_wp2
     go_roundg (8 - (j + 1))
     case measure => omega
     case rel => exact ⟨j + 1, ⟨o2.kind, x.name, o2.dest, o2.n, o2.text⟩, by omega, int_eq (by omega), HOK.out, HS10.out.more (by omega)⟩
   | false =>
    go_wp2_with fail
    refine (op_c HS2.out.rd (by omega)).mono ?_
    rintro e w5 ⟨v, rfl, ⟨o2, rfl, ho2⟩, hR5, hg5⟩
    have HOJ := Lib.hid (show OpIn o2 from ho2)
    have hs5 := HS2.out.step hR5 hg5
    clear ho2 hR5 hg5
    unfold opV
    have hz5 := hs5.op.lt
    have cz0 := hs5.op.cell 0
    have cz1 := hs5.op.cell 1
    have cz2 := hs5.op.cell 2
    have cz3 := hs5.op.cell 3
    have cz4 := hs5.op.cell 4
    have fz0 := hs5.op.free 0
    have fz1 := hs5.op.free 1
    have fz2 := hs5.op.free 2
    have fz3 := hs5.op.free 3
    have fz4 := hs5.op.free 4
    have bz0 := hs5.box.cell 0
    have bz1 := hs5.box.cell 1
    simp [opCs] at cz0 cz1 cz2 cz3 cz4 bz0 bz1
    unfold opCs at hs5
    have hs6 := (((((hs5.set 0 (.int .i64 o2.kind) (cs' := #[.int .i64 o2.kind, .string o.name, .string o.dest, .int .i64 o.n, .string o.text]) rfl).set 1 (.string o2.name) (cs' := #[.int .i64 o2.kind, .string o2.name, .string o.dest, .int .i64 o.n, .string o.text]) rfl).set 2 (.string o2.dest) (cs' := #[.int .i64 o2.kind, .string o2.name, .string o2.dest, .int .i64 o.n, .string o.text]) rfl).set 3 (.int .i64 o2.n) (cs' := #[.int .i64 o2.kind, .string o2.name, .string o2.dest, .int .i64 o2.n, .string o.text]) rfl).set 4 (.string o2.text) (cs' := (oC o2)) rfl)
    clear hs5
    have hne7 := hs6.l2
    by_cases hv0 : nv = 0
    ·subst hv0
     have HS6 := Lib.hid hs6
     clear hs6
     go_wp2
     go_roundg (8 - (j + 1))
     case measure => omega
     case rel => exact ⟨j + 1, o2, by omega, int_eq (by omega), HOJ.out, HS6.out.more (by omega)⟩
    have hv1 : 0 < nv := by omega
    have HS6 := Lib.hid hs6
    clear hs6
    go_wp2_with fail
    clear cz0 cz1 cz2 cz3 cz4 fz0 fz1 fz2 fz3 fz4 bz0 bz1 hz5
    generalize (((((w5.setCell ⟨ob, 0, none⟩ (.int .i64 o2.kind)).setCell ⟨ob, 1, none⟩ (.string o2.name)).setCell ⟨ob, 2, none⟩ (.string o2.dest)).setCell ⟨ob, 3, none⟩ (.int .i64 o2.n)).setCell ⟨ob, 4, none⟩ (.string o2.text)) = W6 at HS6 ⊢
    refine (pick_c HS6.out.rd (by omega) 3 (by omega)).mono ?_
    rintro e w7 ⟨v, rfl, ⟨r, rfl, hr0, hr1, -⟩, hR7, hg7⟩
    have hr2 := hr1 (by omega)
    have HS7 := Lib.hid (HS6.out.step hR7 hg7)
    clear hR7 hg7 hr1 HS6
    by_cases hr : r = 0
    ·subst hr
     go_wp2
     go_roundg (8 - (j + 1))
     case measure => omega
     case rel => exact ⟨j + 1, o2, by omega, int_eq (by omega), HOJ.out, HS7.out.more (by omega)⟩
    have hr3 : 0 < r := by omega
    go_wp2
    have hs7 := HS7.out
    have bz0 := hs7.box.cell 0
    have bz1 := hs7.box.cell 1
    simp at bz0 bz1
    have hzo := hs7.op.lt
    clear hs7
    have HS8 := Lib.hid (HS7.out.bel (Below.refl _ _).drew)
    refine start_ (n := 12) (S := fun w' => w'.cell? ⟨w.heap.size, 1, none⟩ = some (.slice A1 nv c1)) (ds := [11]) #[F, F, F, F, F, F, F, F, F, F, F, F] (by kernel_rfl) rfl rfl (bz1) (fun hHeld => ?_)
    refine py 0 (some 37) #[T, F, F, F, F, F, F, F, F, F, F, F] ?_
    refine py 2 (some 39) #[T, F, T, F, F, F, F, F, F, F, F, F] ?_
    refine py 3 (some 40) #[T, F, T, T, F, F, F, F, F, F, F, F] ?_
    refine ty 1 (some 38) #[T, T, T, T, F, F, F, F, F, F, F, F] (hS := hHeld) (hz := by intro w' s0; go_simp; with_reducible rfl) (h := ?_)
    refine ty 4 (some 41) #[T, T, T, T, T, F, F, F, F, F, F, F] (hS := hHeld) (hz := by intro w' s0; go_simp; with_reducible rfl) (h := ?_)
    refine py 5 (some 42) #[T, T, T, T, T, T, F, F, F, F, F, F] ?_
    refine ox 6 (some 43) #[T, T, T, T, T, T, T, F, F, F, F, F] fun K hK => ?_
    refine gox Tryz.func36 #[.pointer (some ⟨rb, 0, none⟩), .int .i64 nv] ?_
    with_reducible refine (pick_c (w := w7.drew) HS8.out.rd (by omega) nv (by omega)).mono ?_
    rintro e w8 ⟨v, rfl, ⟨r2, rfl, hr20, hr21, -⟩, hR8, hg8⟩
    have hr22 := hr21 (by omega)
    obtain ⟨i, rfl⟩ : ∃ i : Nat, r2 = i := ⟨r2.toNat, by omega⟩
    have hi : i < nv := by omega
    obtain ⟨x, hx⟩ := getQ (show i < p.vols.length by rw [HNV.out]; exact hi)
    have hs8 := HS8.out.step hR8 hg8
    obtain ⟨g, cap, bv, hbv, ev, hg1, hg2, hcap, hc, hc', hf, hf'⟩ := hs8.own.v.row.at hx
    have ev2 := slice_eq ev
    clear ev hcap
    obtain ⟨rfl, -, rfl⟩ := ev2
    have by1 := hs8.box.cell 1
    have hop1 := hs8.op.cell 1
    have hfo1 := hs8.op.free 1
    have hzo8 := hs8.op.lt
    simp [opCs] at by1 hop1
    have HS9 := Lib.hid hs8
    have HX := Lib.hid hx
    clear hs8 hR8 hg8 hr21 hbv hc' hf hf' hx
    refine ⟨_, rfl, ?_⟩
    refine hK.out _ _ (by1) (fun hHeld => ?_)
    clear hK K
    refine nox 43 (h := ?_)
    refine py 7 (some 44) #[T, T, T, T, T, T, T, T, F, F, F, F] ?_
    refine py 8 (some 45) #[T, T, T, T, T, T, T, T, T, F, F, F] ?_
    refine ox 9 (some 46) #[T, T, T, T, T, T, T, T, T, T, F, F] fun K hK => ?_
    refine vx ?_
    refine hK.out _ _ (by1) (fun hHeld => ?_)
    clear hK K
    refine nox 46 (h := ?_)
    refine py 10 (some 47) #[T, T, T, T, T, T, T, T, T, T, T, F] ?_
    refine lx 11 none #[T, T, T, T, T, T, T, T, T, T, T, T] fun K hK => ?_
    refine sx ?_
    refine hK.out _ _ ?_
    clear hK K
    refine done_ (by kernel_rfl) ?_
    have hs9 := HS9.out
    unfold opCs at hs9
    have hs10 := hs9.set 1 (.string x.name) (cs' := #[.int .i64 o2.kind, .string x.name, .string o2.dest, .int .i64 o2.n, .string o2.text]) rfl
    have HS10 := Lib.hid hs10
    clear hs9 hs10 hHeld bz1 by1 hop1 hc bz0
    have HOK := Lib.hid (show OpIn ⟨o2.kind, x.name, o2.dest, o2.n, o2.text⟩ from ⟨⟨HP.out.small.vols.name x (List.mem_of_getElem? HX.out), HOJ.out.1.dest, HOJ.out.1.text⟩, HOJ.out.2⟩)
    go_wp2
    go_roundg (8 - (j + 1))
    case measure => omega
    case rel => exact ⟨j + 1, ⟨o2.kind, x.name, o2.dest, o2.n, o2.text⟩, by omega, int_eq (by omega), HOK.out, HS10.out.more (by omega)⟩
  ·have hj9 : j = 8 := by omega
   have hsf := HST.out
   have x0 := hsf.res.cell 0
   have x1 := hsf.res.cell 1
   have x2 := hsf.res.cell 2
   have x3 := hsf.res.cell 3
   have x4 := hsf.res.cell 4
   have f0 := hsf.res.free 0
   have f1 := hsf.res.free 1
   have f2 := hsf.res.free 2
   have f3 := hsf.res.free 3
   have f4 := hsf.res.free 4
   have y0 := hsf.op.cell 0
   have y1 := hsf.op.cell 1
   have y2 := hsf.op.cell 2
   have y3 := hsf.op.cell 3
   have y4 := hsf.op.cell 4
   have zr := hsf.res.lt
   have hne5 := hsf.l2
   simp [opCs, z5] at x0 x1 x2 x3 x4 y0 y1 y2 y3 y4
   clear hsf
   go_wp2
   have hsf := HST.out
   have hl4 : rb < w.heap.size + 1 := by omega
   have hf := (((((hsf.res.set 0 (.int .i64 o.kind) (cs' := #[.int .i64 o.kind, .string ⟨#[]⟩, .string ⟨#[]⟩, .int .i64 0, .string ⟨#[]⟩]) rfl).set 1 (.string o.name) (cs' := #[.int .i64 o.kind, .string o.name, .string ⟨#[]⟩, .int .i64 0, .string ⟨#[]⟩]) rfl).set 2 (.string o.dest) (cs' := #[.int .i64 o.kind, .string o.name, .string o.dest, .int .i64 0, .string ⟨#[]⟩]) rfl).set 3 (.int .i64 o.n) (cs' := #[.int .i64 o.kind, .string o.name, .string o.dest, .int .i64 o.n, .string ⟨#[]⟩]) rfl).set 4 (.string o.text) (cs' := (oC o)) rfl)
   have hgf := (grown_new (grown_new (grown_new (grown_new (grown_new hsf.g (Nat.le_succ w.heap.size) 0 (.int .i64 o.kind)) (Nat.le_succ w.heap.size) 1 (.string o.name)) (Nat.le_succ w.heap.size) 2 (.string o.dest)) (Nat.le_succ w.heap.size) 3 (.int .i64 o.n)) (Nat.le_succ w.heap.size) 4 (.string o.text))
   have hrf := (((((hsf.rd.set (b := w.heap.size + 1) hl4 0 (.int .i64 o.kind)).set (b := w.heap.size + 1) hl4 1 (.string o.name)).set (b := w.heap.size + 1) hl4 2 (.string o.dest)).set (b := w.heap.size + 1) hl4 3 (.int .i64 o.n)).set (b := w.heap.size + 1) hl4 4 (.string o.text))
   refine bodyPost_ret (results_cell_row rfl _ _ (w.heap.size + 1) 27 (opCs o) (0, 0) _ rfl hf Tryz.underlying27 rfl (by kernel_rfl)) rfl ?_
   exact ⟨_, rfl, ⟨o, rfl, HOI.out⟩, hrf.more (by omega), hgf⟩
end Go.Proofs.YtljfoglilggkjaaGreat

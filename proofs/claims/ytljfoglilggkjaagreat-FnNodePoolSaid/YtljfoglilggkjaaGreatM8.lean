/- Contracts of the program's and the reference's functions, and the plain laws behind them: part 8 of 13. -/
import Derived.Test.YtljfoglilggkjaaGreatM1
import Derived.Test.YtljfoglilggkjaaGreatM2
import Derived.Test.YtljfoglilggkjaaGreatM3
import Derived.Test.YtljfoglilggkjaaGreatM5
import Derived.Test.YtljfoglilggkjaaGreatM6
import Derived.Test.YtljfoglilggkjaaGreatM7
set_option linter.unusedVariables false
set_option linter.unusedSimpArgs false
set_option maxHeartbeats 64000000
set_option maxRecDepth 10000
namespace Go.Proofs.YtljfoglilggkjaaGreat
open Go.RowKit Go.Proofs.YtljfoglilggkjaaGreatW.PrintWords Go.Proofs.YtljfoglilggkjaaGreatW.PrintLast
theorem grown_new {w W : World} {r : Option Nat} (h : w.grownBy W r) {b : Nat} (hb : w.heap.size ≤ b) (i : Nat) (u : Value) : w.grownBy (W.setCell ⟨b, i, none⟩ u) r :=
 ⟨h.os, h.tape, h.output, by have := h.size; simpa using this, fun k hk hr => (heap_setCell_other W ⟨b, i, none⟩ k u (by show k ≠ b; omega)).trans (h.block k hk hr)⟩
theorem Rd.set {W : World} {rb k : Nat} (h : Rd W rb k) {b : Nat} (hb : rb < b) (i : Nat) (u : Value) : Rd (W.setCell ⟨b, i, none⟩ u) rb k := by
 obtain ⟨A, c, bs, p, h1, h2, h3, h4, h5, h6⟩ := h.h
 exact ⟨⟨A, c, bs, p, h1.apart (by omega) i u, byte_kept h2 (grown_setCell W b i u) (fun ad e => by have := h6 ad e; omega), h3, h4, h5, h6⟩⟩
theorem Rd.grown {W W' : World} {rb k : Nat} (h : Rd W rb k) {r : Option Nat} (hg : W.grownBy W' r) (hr : ∀ b, r = some b → rb < b) : Rd W' rb k := by
 obtain ⟨A, c, bs, p, h1, h2, h3, h4, h5, h6⟩ := h.h
 refine ⟨⟨A, c, bs, p, h1.grown hg (fun e => by have := hr rb e.symm; omega), ?_, h3, h4, h5, h6⟩⟩
 refine ⟨h2.1, h2.2.1, fun h0 => ?_⟩
 obtain ⟨ad, e, hh⟩ := h2.2.2 h0
 refine ⟨ad, e, fun j q hj => ?_⟩
 obtain ⟨c, g1, g2, g3⟩ := hh j q hj
 refine ⟨c, g1, g2, fun i u hu => World.grownBy.cell hg (g3 i u hu) ?_⟩
 rw [add_block]
 intro he
 have a1 := h6 ad e
 have a2 := hr _ he.symm
 omega
structure OpSt (w W : World) (rb rs ob k : Nat) (cs : Array Value) : Prop where
  res : Blk W rs #[.int .i64 0, .string ⟨#[]⟩, .string ⟨#[]⟩, .int .i64 0, .string ⟨#[]⟩] 27
  op : Blk W ob cs 27
  rd : Rd W rb k
  g : w.grownBy W (some rb)
  l1 : w.heap.size ≤ rs
  l2 : rs < ob
  l3 : rb < w.heap.size
theorem OpSt.step {w W W' : World} {rb rs ob k k' : Nat} {cs : Array Value} (h : OpSt w W rb rs ob k cs) (hR : Rd W' rb k') (hg : W.grownBy W' (some rb)) : OpSt w W' rb rs ob k' cs :=
 ⟨h.res.grown hg (fun e => by injection e with e; have := h.l1; have := h.l3; omega), h.op.grown hg (fun e => by injection e with e; have := h.l1; have := h.l2; have := h.l3; omega), hR, grown_tr h.g hg, h.l1, h.l2, h.l3⟩
theorem OpSt.bel {w W W' : World} {rb rs ob k : Nat} {cs : Array Value} (h : OpSt w W rb rs ob k cs) (hb : Bel W W') : OpSt w W' rb rs ob k cs :=
 ⟨h.res.bel hb, h.op.bel hb, h.rd.bel hb, grown_tr h.g (grown_of_bel hb _), h.l1, h.l2, h.l3⟩
theorem OpSt.set {w W : World} {rb rs ob k : Nat} {cs cs' : Array Value} (h : OpSt w W rb rs ob k cs) (i : Nat) (u : Value) (e : cs.setIfInBounds i u = cs') : OpSt w (W.setCell ⟨ob, i, none⟩ u) rb rs ob k cs' :=
 ⟨h.res.apart (by have := h.l2; omega) i u, h.op.set i u e, h.rd.set (by have := h.l1; have := h.l2; have := h.l3; omega) i u, grown_new h.g (by have := h.l1; have := h.l2; omega) i u, h.l1, h.l2, h.l3⟩
theorem OpSt.more {w W : World} {rb rs ob k k' : Nat} {cs : Array Value} (h : OpSt w W rb rs ob k cs) (hk : k ≤ k') : OpSt w W rb rs ob k' cs := ⟨h.res, h.op, h.rd.more hk, h.g, h.l1, h.l2, h.l3⟩
def OpV (v : Value) : Prop := ∃ o : Op, v = opV o ∧ SmallO o ∧ -100 ≤ o.n ∧ o.n ≤ 100 ∧ 0 ≤ o.kind ∧ o.kind ≤ 100
def nms : List ByteArray := [sOf [65], sOf [66], sOf [67], sOf [68]]
def bad : List ByteArray := [sOf [], sOf [69], sOf [65, 65]]
theorem nms_size {s : ByteArray} (h : s ∈ nms) : s.size ≤ 7 := by
 simp only [nms, List.mem_cons, List.not_mem_nil, or_false] at h
 rcases h with rfl | rfl | rfl | rfl <;> decide
theorem bad_size {s : ByteArray} (h : s ∈ bad) : s.size ≤ 7 := by
 simp only [bad, List.mem_cons, List.not_mem_nil, or_false] at h
 rcases h with rfl | rfl | rfl <;> decide
theorem OpSt.fin {w W : World} {rb ob k k0 : Nat} {cs : Array Value} (h : OpSt w W rb w.heap.size ob k0 cs) (o : Op) (hk : k0 ≤ k + 20) (hs : SmallO o ∧ -100 ≤ o.n ∧ o.n ≤ 100 ∧ 0 ≤ o.kind ∧ o.kind ≤ 100) :
  Blk (((((W.setCell ⟨w.heap.size, 0, none⟩ (.int .i64 o.kind)).setCell ⟨w.heap.size, 1, none⟩ (.string o.name)).setCell ⟨w.heap.size, 2, none⟩ (.string o.dest)).setCell ⟨w.heap.size, 3, none⟩ (.int .i64 o.n)).setCell ⟨w.heap.size, 4, none⟩ (.string o.text)) w.heap.size (oC o) 27 ∧
  Drawn rb k 20 OpV w (.returned (opV o)) (((((W.setCell ⟨w.heap.size, 0, none⟩ (.int .i64 o.kind)).setCell ⟨w.heap.size, 1, none⟩ (.string o.name)).setCell ⟨w.heap.size, 2, none⟩ (.string o.dest)).setCell ⟨w.heap.size, 3, none⟩ (.int .i64 o.n)).setCell ⟨w.heap.size, 4, none⟩ (.string o.text)) := by
 refine ⟨((((h.res.set 0 _ rfl).set 1 _ rfl).set 2 _ rfl).set 3 _ rfl).set 4 _ rfl, _, rfl, ⟨o, rfl, hs⟩, (((((h.rd.set h.l3 0 _).set h.l3 1 _).set h.l3 2 _).set h.l3 3 _).set h.l3 4 _).more hk, grown_new (grown_new (grown_new (grown_new (grown_new h.g h.l1 0 _) h.l1 1 _) h.l1 2 _) h.l1 3 _) h.l1 4 _⟩
theorem e_size : (⟨#[]⟩ : ByteArray).size ≤ 7 := by decide
theorem op_c {w : World} {rb k : Nat} (h : Rd w rb k) (hk : k ≤ 1099511500000) :
  Calls Tryz.prog 37 #[.pointer (some ⟨rb, 0, none⟩)] w (Drawn rb k 20 OpV w) := by
 have H := Lib.hid h
 have hlt := h.lt
 clear h
 go_enter Tryz.func37, Tryz.ntmps37
 go_wp2_with fail
 have hB : Blk ((w.alloc (.cells #[.int .i64 0, .string ⟨#[]⟩, .string ⟨#[]⟩, .int .i64 0, .string ⟨#[]⟩] 27)).alloc (.cells #[.string ⟨#[65]⟩, .string ⟨#[66]⟩, .string ⟨#[67]⟩, .string ⟨#[68]⟩] 9)) (w.heap.size + 1) (nms.map Value.string).toArray 9 := Blk.nw2 w _ _ _
 have hres : Blk ((w.alloc (.cells #[.int .i64 0, .string ⟨#[]⟩, .string ⟨#[]⟩, .int .i64 0, .string ⟨#[]⟩] 27)).alloc (.cells #[.string ⟨#[65]⟩, .string ⟨#[66]⟩, .string ⟨#[67]⟩, .string ⟨#[68]⟩] 9)) w.heap.size #[.int .i64 0, .string ⟨#[]⟩, .string ⟨#[]⟩, .int .i64 0, .string ⟨#[]⟩] 27 := (Blk.new _ _ _).alloc _
 have hW : Bel w ((w.alloc (.cells #[.int .i64 0, .string ⟨#[]⟩, .string ⟨#[]⟩, .int .i64 0, .string ⟨#[]⟩] 27)).alloc (.cells #[.string ⟨#[65]⟩, .string ⟨#[66]⟩, .string ⟨#[67]⟩, .string ⟨#[68]⟩] 9)) := bel_alloc (bel_alloc (Below.refl _ _) _) _
 generalize ((w.alloc (.cells #[.int .i64 0, .string ⟨#[]⟩, .string ⟨#[]⟩, .int .i64 0, .string ⟨#[]⟩] 27)).alloc (.cells #[.string ⟨#[65]⟩, .string ⟨#[66]⟩, .string ⟨#[67]⟩, .string ⟨#[68]⟩] 9)) = W0 at hB hres hW ⊢
 refine (of_c (H.out.bel hW) (by omega) hB (by omega) (by decide) (by decide) 4 4 rfl (by omega)).mono ?_
 rintro e w1 ⟨v, rfl, ⟨nm, rfl, hnm⟩, hR1, hg1⟩
 have hnz := nms_size hnm
 have HS1 := Lib.hid (And.intro (hres.grown hg1 (by intro e; injection e with e; omega)) (And.intro hR1 (grown_tr (grown_of_bel hW _) hg1)))
 clear hB hres hW hnm hR1 hg1
 go_wp2_with fail
 refine (pick_c HS1.out.2.1 (by omega) 3 (by omega)).mono ?_
 rintro e w2 ⟨v, rfl, ⟨n0, rfl, hn0, hn1, -⟩, hR2, hg2⟩
 have hn2 := hn1 (by omega)
 have HS2 := Lib.hid (And.intro (HS1.out.1.grown hg2 (by intro e; injection e with e; omega)) (And.intro hR2 (grown_tr HS1.out.2.2 hg2)))
 clear hR2 hg2 hn1
 go_wp2_with fail
 refine (text_c HS2.out.2.1 (by omega)).mono ?_
 rintro e w3 ⟨v, rfl, ⟨tx, rfl, htx⟩, hR3, hg3⟩
 have HS3 := Lib.hid (And.intro (HS2.out.1.grown hg3 (by intro e; injection e with e; omega)) (And.intro hR3 (grown_tr HS2.out.2.2 hg3)))
 clear hR3 hg3
 go_wp2_with fail
 have hst : OpSt w (w3.alloc (.cells #[.int .i64 2, .string nm, .string ⟨#[]⟩, .int .i64 n0, .string tx] 27)) rb w.heap.size w3.heap.size (k + 1 + 1 + 6) #[.int .i64 2, .string nm, .string ⟨#[]⟩, .int .i64 n0, .string tx] := ⟨HS3.out.1.alloc _, Blk.new _ _ _, HS3.out.2.1.bel (bel_alloc (Below.refl _ _) _), grown_tr HS3.out.2.2 (grown_of_bel (bel_alloc (Below.refl _ _) _) _), Nat.le_refl _, HS3.out.1.lt, hlt⟩
 generalize w3.alloc (.cells #[.int .i64 2, .string nm, .string ⟨#[]⟩, .int .i64 n0, .string tx] 27) = W4 at hst ⊢
 obtain ⟨ob, hob⟩ : ∃ ob, w3.heap.size = ob := ⟨_, rfl⟩
 rw [hob] at hst ⊢
 have HST := Lib.hid hst
 clear hst hob
 have hez := e_size
 refine (pick_c HST.out.rd (by omega) 12 (by omega)).mono ?_
 rintro e w5 ⟨v, rfl, ⟨r, rfl, hr0, hr1, -⟩, hR5, hg5⟩
 have HS5 := Lib.hid (HST.out.step hR5 hg5)
 have hr2 := hr1 (by omega)
 clear hR5 hg5 hr1
 by_cases hra : r = 0
 ·subst hra
  have hs5 := HS5.out
  obtain ⟨c0, c1, c2, c3, c4, g0, g1, g2, g3, g4, zo⟩ := k5f hs5.op
  have hne1 : ¬ ob = w.heap.size := by have := hs5.l2; omega
  have hne2 : ¬ w.heap.size = ob := by have := hs5.l2; omega
  have HRD := Lib.hid hs5.rd
  clear hs5
  go_wp2
  have HP6 := Lib.hid (pick_c (w := w5.drew) (HRD.out.bel (Below.refl _ _).drew) (by omega) 6 (by omega))
  refine start_ (n := 7) (S := fun w' => w'.cell? ⟨ob, 1, none⟩ = some (.string nm)) (ds := [6]) #[F, F, F, F, F, F, F] (by kernel_rfl) rfl rfl (c1) (fun hHeld => ?_)
  refine py 0 (some 17) #[T, F, F, F, F, F, F] ?_
  refine py 2 (some 19) #[T, F, T, F, F, F, F] ?_
  refine ty 1 (some 18) #[T, T, T, F, F, F, F] (hS := hHeld) (hz := by intro w' s0; go_simp; with_reducible rfl) (h := ?_)
  refine ox 3 (some 20) #[T, T, T, T, F, F, F] fun K hK => ?_
  refine gox Tryz.func36 #[.pointer (some ⟨rb, 0, none⟩), .int .i64 6] ?_
  with_reducible refine (HP6.out).mono ?_
  rintro e w6 ⟨v, rfl, ⟨n6, rfl, hn60, hn61, -⟩, hR6, hg6⟩
  have hn62 := hn61 (by omega)
  have hs6 := OpSt.step (W := w5.drew) (HS5.out.bel (Below.refl _ _).drew) hR6 hg6
  have HS6 := Lib.hid hs6
  obtain ⟨c0, c1, c2, c3, c4, g0, g1, g2, g3, g4, zo⟩ := k5f hs6.op
  have hne1 : ¬ ob = w.heap.size := by have := hs6.l2; omega
  have hne2 : ¬ w.heap.size = ob := by have := hs6.l2; omega
  have hwn : wrap64 (1 + n6) = 1 + n6 := by unfold wrap64; omega
  clear hR6 hg6 hn61 hs6
  refine ⟨_, rfl, ?_⟩
  refine hK.out _ _ (c1) (fun hHeld => ?_)
  clear hK K
  refine nox 20 (h := ?_)
  refine py 4 (some 21) #[T, T, T, T, T, F, F] ?_
  refine py 5 (some 22) #[T, T, T, T, T, T, F] ?_
  refine lx 6 none #[T, T, T, T, T, T, T] fun K hK => ?_
  refine sx ?_
  refine hK.out _ _ ?_
  clear hK K
  refine done_ (by kernel_rfl) ?_
  clear hHeld hwn
  have hs := (((((HS6.out.set 0 (.int .i64 (1)) (cs' := #[.int .i64 (1), .string nm, .string ⟨#[]⟩, .int .i64 n0, .string tx]) rfl).set 1 (.string nm) (cs' := #[.int .i64 (1), .string nm, .string ⟨#[]⟩, .int .i64 n0, .string tx]) rfl).set 2 (.string (⟨#[]⟩ : ByteArray)) (cs' := #[.int .i64 (1), .string nm, .string (⟨#[]⟩ : ByteArray), .int .i64 n0, .string tx]) rfl).set 3 (.int .i64 (1 + n6)) (cs' := #[.int .i64 (1), .string nm, .string (⟨#[]⟩ : ByteArray), .int .i64 (1 + n6), .string tx]) rfl).set 4 (.string (⟨#[]⟩ : ByteArray)) (cs' := #[.int .i64 (1), .string nm, .string (⟨#[]⟩ : ByteArray), .int .i64 (1 + n6), .string (⟨#[]⟩ : ByteArray)]) rfl)
  clear c0 c1 c2 c3 c4 g0 g1 g2 g3 g4
  generalize (((((w6.setCell ⟨ob, 0, none⟩ (.int .i64 (1))).setCell ⟨ob, 1, none⟩ (.string nm)).setCell ⟨ob, 2, none⟩ (.string (⟨#[]⟩ : ByteArray))).setCell ⟨ob, 3, none⟩ (.int .i64 (1 + n6))).setCell ⟨ob, 4, none⟩ (.string (⟨#[]⟩ : ByteArray))) = WW at hs ⊢
  have HSS := Lib.hid hs
  clear hs
  go_wp2_with fail
  refine (pick_c HSS.out.rd (by omega) 30 (by omega)).mono ?_
  rintro e w7 ⟨v, rfl, ⟨q, rfl, hq0, hq1, -⟩, hR7, hg7⟩
  have HS7 := Lib.hid (HSS.out.step hR7 hg7)
  have hq2 := hq1 (by omega)
  clear hR7 hg7 hq1
  by_cases hqa : q = 0
  ·subst hqa
   go_wp2_with fail
   have hB : Blk (w7.alloc (.cells #[.string ⟨#[]⟩, .string ⟨#[69]⟩, .string ⟨#[65, 65]⟩] 9)) w7.heap.size (bad.map Value.string).toArray 9 := Blk.new w7 _ _
   have hne : w7.heap.size ≠ rb := by have := HS7.out.rd.lt; omega
   have hst8 := HS7.out.bel (bel_alloc (Below.refl _ _) (.cells #[.string ⟨#[]⟩, .string ⟨#[69]⟩, .string ⟨#[65, 65]⟩] 9))
   refine (of_c hst8.rd (by omega) hB hne (by decide) (by decide) 3 3 rfl (by omega)).mono ?_
   rintro e w8 ⟨v, rfl, ⟨nm2, rfl, hnm2⟩, hR8, hg8⟩
   have hnz2 := bad_size hnm2
   have hs8 := hst8.step hR8 hg8
   have HS9 := Lib.hid (hs8.set 1 (.string nm2) (cs' := #[.int .i64 1, .string nm2, .string ⟨#[]⟩, .int .i64 (1 + n6), .string ⟨#[]⟩]) rfl)
   have sf1 := hs8.op.free 1
   have c0 := hs8.op.cell 0
   have c1 := hs8.op.cell 1
   have c2 := hs8.op.cell 2
   have c3 := hs8.op.cell 3
   have c4 := hs8.op.cell 4
   have zo := hs8.op.lt
   obtain ⟨r0, r1, r2', r3, r4, f0, f1, f2, f3, f4, zr⟩ := k5f hs8.res
   have hne1 : ¬ ob = w.heap.size := by have := hs8.l2; omega
   have hne2 : ¬ w.heap.size = ob := by have := hs8.l2; omega
   simp at c0 c1 c2 c3 c4
   clear hB hne hst8 hnm2 hR8 hg8 hs8
   go_wp2
   have hE := HS9.out.fin (k := k) ⟨1, nm2, (⟨#[]⟩ : ByteArray), (1 + n6), (⟨#[]⟩ : ByteArray)⟩ (by omega) (by refine ⟨⟨?_, ?_, ?_⟩, ?_, ?_, ?_, ?_⟩ <;> (dsimp only; omega))
   exact bodyPost_ret (results_cell_row rfl _ _ w.heap.size 27 _ (0, 0) _ rfl hE.1 Tryz.underlying27 rfl (by kernel_rfl)) rfl hE.2
  ·by_cases hqb : q = 1
   ·subst hqb
    go_wp2_with fail
    refine (pick_c HS7.out.rd (by omega) 9 (by omega)).mono ?_
    rintro e w8 ⟨v, rfl, ⟨n2, rfl, hn20, hn21, -⟩, hR8, hg8⟩
    have hn22 := hn21 (by omega)
    have hs8 := HS7.out.step hR8 hg8
    have HS9 := Lib.hid (hs8.set 3 (.int .i64 (n2 - 1)) (cs' := #[.int .i64 1, .string nm, .string ⟨#[]⟩, .int .i64 (n2 - 1), .string ⟨#[]⟩]) rfl)
    have sf3 := hs8.op.free 3
    have c0 := hs8.op.cell 0
    have c1 := hs8.op.cell 1
    have c2 := hs8.op.cell 2
    have c3 := hs8.op.cell 3
    have c4 := hs8.op.cell 4
    have zo := hs8.op.lt
    obtain ⟨r0, r1, r2', r3, r4, f0, f1, f2, f3, f4, zr⟩ := k5f hs8.res
    have hne1 : ¬ ob = w.heap.size := by have := hs8.l2; omega
    have hne2 : ¬ w.heap.size = ob := by have := hs8.l2; omega
    simp at c0 c1 c2 c3 c4
    clear hR8 hg8 hs8 hn21
    go_wp2
    have hE := HS9.out.fin (k := k) ⟨1, nm, (⟨#[]⟩ : ByteArray), n2 - 1, (⟨#[]⟩ : ByteArray)⟩ (by omega) (by refine ⟨⟨?_, ?_, ?_⟩, ?_, ?_, ?_, ?_⟩ <;> (dsimp only; omega))
    exact bodyPost_ret (results_cell_row rfl _ _ w.heap.size 27 _ (0, 0) _ rfl hE.1 Tryz.underlying27 rfl (by kernel_rfl)) rfl hE.2
   ·by_cases hqc : q = 2
    ·subst hqc
     go_wp2_with fail
     refine (pick_c HS7.out.rd (by omega) 6 (by omega)).mono ?_
     rintro e w8 ⟨v, rfl, ⟨kd2, rfl, hk20, hk21, -⟩, hR8, hg8⟩
     have hk22 := hk21 (by omega)
     have hs8 := HS7.out.step hR8 hg8
     have HS9 := Lib.hid (hs8.set 0 (.int .i64 kd2) (cs' := #[.int .i64 kd2, .string nm, .string ⟨#[]⟩, .int .i64 (1 + n6), .string ⟨#[]⟩]) rfl)
     have sf0 := hs8.op.free 0
     have c0 := hs8.op.cell 0
     have c1 := hs8.op.cell 1
     have c2 := hs8.op.cell 2
     have c3 := hs8.op.cell 3
     have c4 := hs8.op.cell 4
     have zo := hs8.op.lt
     obtain ⟨r0, r1, r2', r3, r4, f0, f1, f2, f3, f4, zr⟩ := k5f hs8.res
     have hne1 : ¬ ob = w.heap.size := by have := hs8.l2; omega
     have hne2 : ¬ w.heap.size = ob := by have := hs8.l2; omega
     simp at c0 c1 c2 c3 c4
     clear hR8 hg8 hs8 hk21
     go_wp2
     have hE := HS9.out.fin (k := k) ⟨kd2, nm, (⟨#[]⟩ : ByteArray), (1 + n6), (⟨#[]⟩ : ByteArray)⟩ (by omega) (by refine ⟨⟨?_, ?_, ?_⟩, ?_, ?_, ?_, ?_⟩ <;> (dsimp only; omega))
     exact bodyPost_ret (results_cell_row rfl _ _ w.heap.size 27 _ (0, 0) _ rfl hE.1 Tryz.underlying27 rfl (by kernel_rfl)) rfl hE.2
    ·skip
     have hs8 := HS7.out
     obtain ⟨r0, r1, r2', r3, r4, f0, f1, f2, f3, f4, zr⟩ := k5f hs8.res
     obtain ⟨c0, c1, c2, c3, c4, zo⟩ := k5c hs8.op
     have hne1 : ¬ ob = w.heap.size := by have := hs8.l2; omega
     have hne2 : ¬ w.heap.size = ob := by have := hs8.l2; omega
     clear hs8
     go_wp2
     have hE := HS7.out.fin (k := k) ⟨1, nm, (⟨#[]⟩ : ByteArray), (1 + n6), (⟨#[]⟩ : ByteArray)⟩ (by omega) (by refine ⟨⟨?_, ?_, ?_⟩, ?_, ?_, ?_, ?_⟩ <;> (dsimp only; omega))
     exact bodyPost_ret (results_cell_row rfl _ _ w.heap.size 27 _ (0, 0) _ rfl hE.1 Tryz.underlying27 rfl (by kernel_rfl)) rfl hE.2
 by_cases hrz : r = 1
 ·subst hrz
  have hs5 := HS5.out
  obtain ⟨c0, c1, c2, c3, c4, g0, g1, g2, g3, g4, zo⟩ := k5f hs5.op
  have hne1 : ¬ ob = w.heap.size := by have := hs5.l2; omega
  have hne2 : ¬ w.heap.size = ob := by have := hs5.l2; omega
  have HRD := Lib.hid hs5.rd
  clear hs5
  go_wp2
  have HP6 := Lib.hid (pick_c (w := w5.drew) (HRD.out.bel (Below.refl _ _).drew) (by omega) 6 (by omega))
  refine start_ (n := 7) (S := fun w' => w'.cell? ⟨ob, 1, none⟩ = some (.string nm)) (ds := [6]) #[F, F, F, F, F, F, F] (by kernel_rfl) rfl rfl (c1) (fun hHeld => ?_)
  refine py 0 (some 17) #[T, F, F, F, F, F, F] ?_
  refine py 2 (some 19) #[T, F, T, F, F, F, F] ?_
  refine ty 1 (some 18) #[T, T, T, F, F, F, F] (hS := hHeld) (hz := by intro w' s0; go_simp; with_reducible rfl) (h := ?_)
  refine ox 3 (some 20) #[T, T, T, T, F, F, F] fun K hK => ?_
  refine gox Tryz.func36 #[.pointer (some ⟨rb, 0, none⟩), .int .i64 6] ?_
  with_reducible refine (HP6.out).mono ?_
  rintro e w6 ⟨v, rfl, ⟨n6, rfl, hn60, hn61, -⟩, hR6, hg6⟩
  have hn62 := hn61 (by omega)
  have hs6 := OpSt.step (W := w5.drew) (HS5.out.bel (Below.refl _ _).drew) hR6 hg6
  have HS6 := Lib.hid hs6
  obtain ⟨c0, c1, c2, c3, c4, g0, g1, g2, g3, g4, zo⟩ := k5f hs6.op
  have hne1 : ¬ ob = w.heap.size := by have := hs6.l2; omega
  have hne2 : ¬ w.heap.size = ob := by have := hs6.l2; omega
  have hwn : wrap64 (1 + n6) = 1 + n6 := by unfold wrap64; omega
  clear hR6 hg6 hn61 hs6
  refine ⟨_, rfl, ?_⟩
  refine hK.out _ _ (c1) (fun hHeld => ?_)
  clear hK K
  refine nox 20 (h := ?_)
  refine py 4 (some 21) #[T, T, T, T, T, F, F] ?_
  refine py 5 (some 22) #[T, T, T, T, T, T, F] ?_
  refine lx 6 none #[T, T, T, T, T, T, T] fun K hK => ?_
  refine sx ?_
  refine hK.out _ _ ?_
  clear hK K
  refine done_ (by kernel_rfl) ?_
  clear hHeld hwn
  have hs := (((((HS6.out.set 0 (.int .i64 (1)) (cs' := #[.int .i64 (1), .string nm, .string ⟨#[]⟩, .int .i64 n0, .string tx]) rfl).set 1 (.string nm) (cs' := #[.int .i64 (1), .string nm, .string ⟨#[]⟩, .int .i64 n0, .string tx]) rfl).set 2 (.string (⟨#[]⟩ : ByteArray)) (cs' := #[.int .i64 (1), .string nm, .string (⟨#[]⟩ : ByteArray), .int .i64 n0, .string tx]) rfl).set 3 (.int .i64 (1 + n6)) (cs' := #[.int .i64 (1), .string nm, .string (⟨#[]⟩ : ByteArray), .int .i64 (1 + n6), .string tx]) rfl).set 4 (.string (⟨#[]⟩ : ByteArray)) (cs' := #[.int .i64 (1), .string nm, .string (⟨#[]⟩ : ByteArray), .int .i64 (1 + n6), .string (⟨#[]⟩ : ByteArray)]) rfl)
  clear c0 c1 c2 c3 c4 g0 g1 g2 g3 g4
  generalize (((((w6.setCell ⟨ob, 0, none⟩ (.int .i64 (1))).setCell ⟨ob, 1, none⟩ (.string nm)).setCell ⟨ob, 2, none⟩ (.string (⟨#[]⟩ : ByteArray))).setCell ⟨ob, 3, none⟩ (.int .i64 (1 + n6))).setCell ⟨ob, 4, none⟩ (.string (⟨#[]⟩ : ByteArray))) = WW at hs ⊢
  have HSS := Lib.hid hs
  clear hs
  go_wp2_with fail
  refine (pick_c HSS.out.rd (by omega) 30 (by omega)).mono ?_
  rintro e w7 ⟨v, rfl, ⟨q, rfl, hq0, hq1, -⟩, hR7, hg7⟩
  have HS7 := Lib.hid (HSS.out.step hR7 hg7)
  have hq2 := hq1 (by omega)
  clear hR7 hg7 hq1
  by_cases hqa : q = 0
  ·subst hqa
   go_wp2_with fail
   have hB : Blk (w7.alloc (.cells #[.string ⟨#[]⟩, .string ⟨#[69]⟩, .string ⟨#[65, 65]⟩] 9)) w7.heap.size (bad.map Value.string).toArray 9 := Blk.new w7 _ _
   have hne : w7.heap.size ≠ rb := by have := HS7.out.rd.lt; omega
   have hst8 := HS7.out.bel (bel_alloc (Below.refl _ _) (.cells #[.string ⟨#[]⟩, .string ⟨#[69]⟩, .string ⟨#[65, 65]⟩] 9))
   refine (of_c hst8.rd (by omega) hB hne (by decide) (by decide) 3 3 rfl (by omega)).mono ?_
   rintro e w8 ⟨v, rfl, ⟨nm2, rfl, hnm2⟩, hR8, hg8⟩
   have hnz2 := bad_size hnm2
   have hs8 := hst8.step hR8 hg8
   have HS9 := Lib.hid (hs8.set 1 (.string nm2) (cs' := #[.int .i64 1, .string nm2, .string ⟨#[]⟩, .int .i64 (1 + n6), .string ⟨#[]⟩]) rfl)
   have sf1 := hs8.op.free 1
   have c0 := hs8.op.cell 0
   have c1 := hs8.op.cell 1
   have c2 := hs8.op.cell 2
   have c3 := hs8.op.cell 3
   have c4 := hs8.op.cell 4
   have zo := hs8.op.lt
   obtain ⟨r0, r1, r2', r3, r4, f0, f1, f2, f3, f4, zr⟩ := k5f hs8.res
   have hne1 : ¬ ob = w.heap.size := by have := hs8.l2; omega
   have hne2 : ¬ w.heap.size = ob := by have := hs8.l2; omega
   simp at c0 c1 c2 c3 c4
   clear hB hne hst8 hnm2 hR8 hg8 hs8
   go_wp2
   have hE := HS9.out.fin (k := k) ⟨1, nm2, (⟨#[]⟩ : ByteArray), (1 + n6), (⟨#[]⟩ : ByteArray)⟩ (by omega) (by refine ⟨⟨?_, ?_, ?_⟩, ?_, ?_, ?_, ?_⟩ <;> (dsimp only; omega))
   exact bodyPost_ret (results_cell_row rfl _ _ w.heap.size 27 _ (0, 0) _ rfl hE.1 Tryz.underlying27 rfl (by kernel_rfl)) rfl hE.2
  ·by_cases hqb : q = 1
   ·subst hqb
    go_wp2_with fail
    refine (pick_c HS7.out.rd (by omega) 9 (by omega)).mono ?_
    rintro e w8 ⟨v, rfl, ⟨n2, rfl, hn20, hn21, -⟩, hR8, hg8⟩
    have hn22 := hn21 (by omega)
    have hs8 := HS7.out.step hR8 hg8
    have HS9 := Lib.hid (hs8.set 3 (.int .i64 (n2 - 1)) (cs' := #[.int .i64 1, .string nm, .string ⟨#[]⟩, .int .i64 (n2 - 1), .string ⟨#[]⟩]) rfl)
    have sf3 := hs8.op.free 3
    have c0 := hs8.op.cell 0
    have c1 := hs8.op.cell 1
    have c2 := hs8.op.cell 2
    have c3 := hs8.op.cell 3
    have c4 := hs8.op.cell 4
    have zo := hs8.op.lt
    obtain ⟨r0, r1, r2', r3, r4, f0, f1, f2, f3, f4, zr⟩ := k5f hs8.res
    have hne1 : ¬ ob = w.heap.size := by have := hs8.l2; omega
    have hne2 : ¬ w.heap.size = ob := by have := hs8.l2; omega
    simp at c0 c1 c2 c3 c4
    clear hR8 hg8 hs8 hn21
    go_wp2
    have hE := HS9.out.fin (k := k) ⟨1, nm, (⟨#[]⟩ : ByteArray), n2 - 1, (⟨#[]⟩ : ByteArray)⟩ (by omega) (by refine ⟨⟨?_, ?_, ?_⟩, ?_, ?_, ?_, ?_⟩ <;> (dsimp only; omega))
    exact bodyPost_ret (results_cell_row rfl _ _ w.heap.size 27 _ (0, 0) _ rfl hE.1 Tryz.underlying27 rfl (by kernel_rfl)) rfl hE.2
   ·by_cases hqc : q = 2
    ·subst hqc
     go_wp2_with fail
     refine (pick_c HS7.out.rd (by omega) 6 (by omega)).mono ?_
     rintro e w8 ⟨v, rfl, ⟨kd2, rfl, hk20, hk21, -⟩, hR8, hg8⟩
     have hk22 := hk21 (by omega)
     have hs8 := HS7.out.step hR8 hg8
     have HS9 := Lib.hid (hs8.set 0 (.int .i64 kd2) (cs' := #[.int .i64 kd2, .string nm, .string ⟨#[]⟩, .int .i64 (1 + n6), .string ⟨#[]⟩]) rfl)
     have sf0 := hs8.op.free 0
     have c0 := hs8.op.cell 0
     have c1 := hs8.op.cell 1
     have c2 := hs8.op.cell 2
     have c3 := hs8.op.cell 3
     have c4 := hs8.op.cell 4
     have zo := hs8.op.lt
     obtain ⟨r0, r1, r2', r3, r4, f0, f1, f2, f3, f4, zr⟩ := k5f hs8.res
     have hne1 : ¬ ob = w.heap.size := by have := hs8.l2; omega
     have hne2 : ¬ w.heap.size = ob := by have := hs8.l2; omega
     simp at c0 c1 c2 c3 c4
     clear hR8 hg8 hs8 hk21
     go_wp2
     have hE := HS9.out.fin (k := k) ⟨kd2, nm, (⟨#[]⟩ : ByteArray), (1 + n6), (⟨#[]⟩ : ByteArray)⟩ (by omega) (by refine ⟨⟨?_, ?_, ?_⟩, ?_, ?_, ?_, ?_⟩ <;> (dsimp only; omega))
     exact bodyPost_ret (results_cell_row rfl _ _ w.heap.size 27 _ (0, 0) _ rfl hE.1 Tryz.underlying27 rfl (by kernel_rfl)) rfl hE.2
    ·skip
     have hs8 := HS7.out
     obtain ⟨r0, r1, r2', r3, r4, f0, f1, f2, f3, f4, zr⟩ := k5f hs8.res
     obtain ⟨c0, c1, c2, c3, c4, zo⟩ := k5c hs8.op
     have hne1 : ¬ ob = w.heap.size := by have := hs8.l2; omega
     have hne2 : ¬ w.heap.size = ob := by have := hs8.l2; omega
     clear hs8
     go_wp2
     have hE := HS7.out.fin (k := k) ⟨1, nm, (⟨#[]⟩ : ByteArray), (1 + n6), (⟨#[]⟩ : ByteArray)⟩ (by omega) (by refine ⟨⟨?_, ?_, ?_⟩, ?_, ?_, ?_, ?_⟩ <;> (dsimp only; omega))
     exact bodyPost_ret (results_cell_row rfl _ _ w.heap.size 27 _ (0, 0) _ rfl hE.1 Tryz.underlying27 rfl (by kernel_rfl)) rfl hE.2
 by_cases hrb : r = 2
 ·subst hrb
  have hs5 := HS5.out
  obtain ⟨c0, c1, c2, c3, c4, g0, g1, g2, g3, g4, zo⟩ := k5f hs5.op
  have hne1 : ¬ ob = w.heap.size := by have := hs5.l2; omega
  have hne2 : ¬ w.heap.size = ob := by have := hs5.l2; omega
  have HRD := Lib.hid hs5.rd
  clear hs5
  go_wp2
  have HP6 := Lib.hid (of_c (w := (w5.alloc (.cells #[.string ⟨#[65]⟩, .string ⟨#[66]⟩, .string ⟨#[67]⟩, .string ⟨#[68]⟩] 9)).drew) (xs := nms) (T := 9) (lb := w5.heap.size) (HRD.out.bel (bel_alloc (Below.refl _ _) _).drew) (by omega) ((Blk.new w5 _ _).bel (Below.refl _ _).drew) (by have := HRD.out.lt; omega) (by decide) (by decide) 4 4 rfl (by omega))
  refine start_ (n := 7) (S := fun w' => w'.cell? ⟨ob, 1, none⟩ = some (.string nm)) (ds := [6]) #[F, F, F, F, F, F, F] (by kernel_rfl) rfl rfl (c1) (fun hHeld => ?_)
  refine py 0 (some 25) #[T, F, F, F, F, F, F] ?_
  refine py 2 (some 27) #[T, F, T, F, F, F, F] ?_
  refine ty 1 (some 26) #[T, T, T, F, F, F, F] (hS := hHeld) (hz := by intro w' s0; go_simp; with_reducible rfl) (h := ?_)
  refine ox 3 (some 28) #[T, T, T, T, F, F, F] fun K hK => ?_
  refine vx ?_
  have c1b := (HS5.out.bel (bel_alloc (Below.refl _ _) (.cells #[.string ⟨#[65]⟩, .string ⟨#[66]⟩, .string ⟨#[67]⟩, .string ⟨#[68]⟩] 9)).drew).op.cell 1
  simp at c1b
  refine hK.out _ _ (c1b) (fun hHeld => ?_)
  clear hK K
  refine nox 28 (h := ?_)
  refine ox 4 (some 29) #[T, T, T, T, T, F, F] fun K hK => ?_
  refine gox Tryz.func77 #[.pointer (some ⟨rb, 0, none⟩), .slice (some ⟨w5.heap.size, 0, none⟩) 4 4] ?_
  with_reducible refine (HP6.out).mono ?_
  rintro e w6 ⟨v, rfl, ⟨d6, rfl, hd6⟩, hR6, hg6⟩
  have hdz := nms_size hd6
  have hs6 := OpSt.step (HS5.out.bel (bel_alloc (Below.refl _ _) (.cells #[.string ⟨#[65]⟩, .string ⟨#[66]⟩, .string ⟨#[67]⟩, .string ⟨#[68]⟩] 9)).drew) hR6 hg6
  have HS6 := Lib.hid hs6
  obtain ⟨c0, c1, c2, c3, c4, g0, g1, g2, g3, g4, zo⟩ := k5f hs6.op
  have hne1 : ¬ ob = w.heap.size := by have := hs6.l2; omega
  have hne2 : ¬ w.heap.size = ob := by have := hs6.l2; omega
  clear hR6 hg6 hd6 hs6
  refine ⟨_, rfl, ?_⟩
  refine hK.out _ _ (c1) (fun hHeld => ?_)
  clear hK K
  refine nox 29 (h := ?_)
  refine py 5 (some 30) #[T, T, T, T, T, T, F] ?_
  refine lx 6 none #[T, T, T, T, T, T, T] fun K hK => ?_
  refine sx ?_
  refine hK.out _ _ ?_
  clear hK K
  refine done_ (by kernel_rfl) ?_
  clear hHeld
  have hs := (((((HS6.out.set 0 (.int .i64 (3)) (cs' := #[.int .i64 (3), .string nm, .string ⟨#[]⟩, .int .i64 n0, .string tx]) rfl).set 1 (.string nm) (cs' := #[.int .i64 (3), .string nm, .string ⟨#[]⟩, .int .i64 n0, .string tx]) rfl).set 2 (.string d6) (cs' := #[.int .i64 (3), .string nm, .string d6, .int .i64 n0, .string tx]) rfl).set 3 (.int .i64 (0)) (cs' := #[.int .i64 (3), .string nm, .string d6, .int .i64 (0), .string tx]) rfl).set 4 (.string (⟨#[]⟩ : ByteArray)) (cs' := #[.int .i64 (3), .string nm, .string d6, .int .i64 (0), .string (⟨#[]⟩ : ByteArray)]) rfl)
  clear c0 c1 c2 c3 c4 g0 g1 g2 g3 g4
  generalize (((((w6.setCell ⟨ob, 0, none⟩ (.int .i64 (3))).setCell ⟨ob, 1, none⟩ (.string nm)).setCell ⟨ob, 2, none⟩ (.string d6)).setCell ⟨ob, 3, none⟩ (.int .i64 (0))).setCell ⟨ob, 4, none⟩ (.string (⟨#[]⟩ : ByteArray))) = WW at hs ⊢
  have HSS := Lib.hid hs
  clear hs
  go_wp2_with fail
  refine (pick_c HSS.out.rd (by omega) 30 (by omega)).mono ?_
  rintro e w7 ⟨v, rfl, ⟨q, rfl, hq0, hq1, -⟩, hR7, hg7⟩
  have HS7 := Lib.hid (HSS.out.step hR7 hg7)
  have hq2 := hq1 (by omega)
  clear hR7 hg7 hq1
  by_cases hqa : q = 0
  ·subst hqa
   go_wp2_with fail
   have hB : Blk (w7.alloc (.cells #[.string ⟨#[]⟩, .string ⟨#[69]⟩, .string ⟨#[65, 65]⟩] 9)) w7.heap.size (bad.map Value.string).toArray 9 := Blk.new w7 _ _
   have hne : w7.heap.size ≠ rb := by have := HS7.out.rd.lt; omega
   have hst8 := HS7.out.bel (bel_alloc (Below.refl _ _) (.cells #[.string ⟨#[]⟩, .string ⟨#[69]⟩, .string ⟨#[65, 65]⟩] 9))
   refine (of_c hst8.rd (by omega) hB hne (by decide) (by decide) 3 3 rfl (by omega)).mono ?_
   rintro e w8 ⟨v, rfl, ⟨nm2, rfl, hnm2⟩, hR8, hg8⟩
   have hnz2 := bad_size hnm2
   have hs8 := hst8.step hR8 hg8
   have HS9 := Lib.hid (hs8.set 1 (.string nm2) (cs' := #[.int .i64 3, .string nm2, .string d6, .int .i64 0, .string ⟨#[]⟩]) rfl)
   have sf1 := hs8.op.free 1
   have c0 := hs8.op.cell 0
   have c1 := hs8.op.cell 1
   have c2 := hs8.op.cell 2
   have c3 := hs8.op.cell 3
   have c4 := hs8.op.cell 4
   have zo := hs8.op.lt
   obtain ⟨r0, r1, r2', r3, r4, f0, f1, f2, f3, f4, zr⟩ := k5f hs8.res
   have hne1 : ¬ ob = w.heap.size := by have := hs8.l2; omega
   have hne2 : ¬ w.heap.size = ob := by have := hs8.l2; omega
   simp at c0 c1 c2 c3 c4
   clear hB hne hst8 hnm2 hR8 hg8 hs8
   go_wp2
   have hE := HS9.out.fin (k := k) ⟨3, nm2, d6, 0, (⟨#[]⟩ : ByteArray)⟩ (by omega) (by refine ⟨⟨?_, ?_, ?_⟩, ?_, ?_, ?_, ?_⟩ <;> (dsimp only; omega))
   exact bodyPost_ret (results_cell_row rfl _ _ w.heap.size 27 _ (0, 0) _ rfl hE.1 Tryz.underlying27 rfl (by kernel_rfl)) rfl hE.2
  ·by_cases hqb : q = 1
   ·subst hqb
    go_wp2_with fail
    refine (pick_c HS7.out.rd (by omega) 9 (by omega)).mono ?_
    rintro e w8 ⟨v, rfl, ⟨n2, rfl, hn20, hn21, -⟩, hR8, hg8⟩
    have hn22 := hn21 (by omega)
    have hs8 := HS7.out.step hR8 hg8
    have HS9 := Lib.hid (hs8.set 3 (.int .i64 (n2 - 1)) (cs' := #[.int .i64 3, .string nm, .string d6, .int .i64 (n2 - 1), .string ⟨#[]⟩]) rfl)
    have sf3 := hs8.op.free 3
    have c0 := hs8.op.cell 0
    have c1 := hs8.op.cell 1
    have c2 := hs8.op.cell 2
    have c3 := hs8.op.cell 3
    have c4 := hs8.op.cell 4
    have zo := hs8.op.lt
    obtain ⟨r0, r1, r2', r3, r4, f0, f1, f2, f3, f4, zr⟩ := k5f hs8.res
    have hne1 : ¬ ob = w.heap.size := by have := hs8.l2; omega
    have hne2 : ¬ w.heap.size = ob := by have := hs8.l2; omega
    simp at c0 c1 c2 c3 c4
    clear hR8 hg8 hs8 hn21
    go_wp2
    have hE := HS9.out.fin (k := k) ⟨3, nm, d6, n2 - 1, (⟨#[]⟩ : ByteArray)⟩ (by omega) (by refine ⟨⟨?_, ?_, ?_⟩, ?_, ?_, ?_, ?_⟩ <;> (dsimp only; omega))
    exact bodyPost_ret (results_cell_row rfl _ _ w.heap.size 27 _ (0, 0) _ rfl hE.1 Tryz.underlying27 rfl (by kernel_rfl)) rfl hE.2
   ·by_cases hqc : q = 2
    ·subst hqc
     go_wp2_with fail
     refine (pick_c HS7.out.rd (by omega) 6 (by omega)).mono ?_
     rintro e w8 ⟨v, rfl, ⟨kd2, rfl, hk20, hk21, -⟩, hR8, hg8⟩
     have hk22 := hk21 (by omega)
     have hs8 := HS7.out.step hR8 hg8
     have HS9 := Lib.hid (hs8.set 0 (.int .i64 kd2) (cs' := #[.int .i64 kd2, .string nm, .string d6, .int .i64 0, .string ⟨#[]⟩]) rfl)
     have sf0 := hs8.op.free 0
     have c0 := hs8.op.cell 0
     have c1 := hs8.op.cell 1
     have c2 := hs8.op.cell 2
     have c3 := hs8.op.cell 3
     have c4 := hs8.op.cell 4
     have zo := hs8.op.lt
     obtain ⟨r0, r1, r2', r3, r4, f0, f1, f2, f3, f4, zr⟩ := k5f hs8.res
     have hne1 : ¬ ob = w.heap.size := by have := hs8.l2; omega
     have hne2 : ¬ w.heap.size = ob := by have := hs8.l2; omega
     simp at c0 c1 c2 c3 c4
     clear hR8 hg8 hs8 hk21
     go_wp2
     have hE := HS9.out.fin (k := k) ⟨kd2, nm, d6, 0, (⟨#[]⟩ : ByteArray)⟩ (by omega) (by refine ⟨⟨?_, ?_, ?_⟩, ?_, ?_, ?_, ?_⟩ <;> (dsimp only; omega))
     exact bodyPost_ret (results_cell_row rfl _ _ w.heap.size 27 _ (0, 0) _ rfl hE.1 Tryz.underlying27 rfl (by kernel_rfl)) rfl hE.2
    ·skip
     have hs8 := HS7.out
     obtain ⟨r0, r1, r2', r3, r4, f0, f1, f2, f3, f4, zr⟩ := k5f hs8.res
     obtain ⟨c0, c1, c2, c3, c4, zo⟩ := k5c hs8.op
     have hne1 : ¬ ob = w.heap.size := by have := hs8.l2; omega
     have hne2 : ¬ w.heap.size = ob := by have := hs8.l2; omega
     clear hs8
     go_wp2
     have hE := HS7.out.fin (k := k) ⟨3, nm, d6, 0, (⟨#[]⟩ : ByteArray)⟩ (by omega) (by refine ⟨⟨?_, ?_, ?_⟩, ?_, ?_, ?_, ?_⟩ <;> (dsimp only; omega))
     exact bodyPost_ret (results_cell_row rfl _ _ w.heap.size 27 _ (0, 0) _ rfl hE.1 Tryz.underlying27 rfl (by kernel_rfl)) rfl hE.2
 by_cases hrc : r = 3
 ·subst hrc
  have hs5 := HS5.out
  obtain ⟨c0, c1, c2, c3, c4, g0, g1, g2, g3, g4, zo⟩ := k5f hs5.op
  have hne1 : ¬ ob = w.heap.size := by have := hs5.l2; omega
  have hne2 : ¬ w.heap.size = ob := by have := hs5.l2; omega
  clear hs5
  have hs := (((((HS5.out.set 0 (.int .i64 (4)) (cs' := #[.int .i64 (4), .string nm, .string ⟨#[]⟩, .int .i64 n0, .string tx]) rfl).set 1 (.string nm) (cs' := #[.int .i64 (4), .string nm, .string ⟨#[]⟩, .int .i64 n0, .string tx]) rfl).set 2 (.string (⟨#[]⟩ : ByteArray)) (cs' := #[.int .i64 (4), .string nm, .string (⟨#[]⟩ : ByteArray), .int .i64 n0, .string tx]) rfl).set 3 (.int .i64 (0)) (cs' := #[.int .i64 (4), .string nm, .string (⟨#[]⟩ : ByteArray), .int .i64 (0), .string tx]) rfl).set 4 (.string (⟨#[]⟩ : ByteArray)) (cs' := #[.int .i64 (4), .string nm, .string (⟨#[]⟩ : ByteArray), .int .i64 (0), .string (⟨#[]⟩ : ByteArray)]) rfl)
  go_wp2_with fail
  generalize (((((w5.setCell ⟨ob, 0, none⟩ (.int .i64 (4))).setCell ⟨ob, 1, none⟩ (.string nm)).setCell ⟨ob, 2, none⟩ (.string (⟨#[]⟩ : ByteArray))).setCell ⟨ob, 3, none⟩ (.int .i64 (0))).setCell ⟨ob, 4, none⟩ (.string (⟨#[]⟩ : ByteArray))) = WW at hs ⊢
  have HSS := Lib.hid hs
  clear hs c0 c1 c2 c3 c4 g0 g1 g2 g3 g4
  refine (pick_c HSS.out.rd (by omega) 30 (by omega)).mono ?_
  rintro e w7 ⟨v, rfl, ⟨q, rfl, hq0, hq1, -⟩, hR7, hg7⟩
  have HS7 := Lib.hid (HSS.out.step hR7 hg7)
  have hq2 := hq1 (by omega)
  clear hR7 hg7 hq1
  by_cases hqa : q = 0
  ·subst hqa
   go_wp2_with fail
   have hB : Blk (w7.alloc (.cells #[.string ⟨#[]⟩, .string ⟨#[69]⟩, .string ⟨#[65, 65]⟩] 9)) w7.heap.size (bad.map Value.string).toArray 9 := Blk.new w7 _ _
   have hne : w7.heap.size ≠ rb := by have := HS7.out.rd.lt; omega
   have hst8 := HS7.out.bel (bel_alloc (Below.refl _ _) (.cells #[.string ⟨#[]⟩, .string ⟨#[69]⟩, .string ⟨#[65, 65]⟩] 9))
   refine (of_c hst8.rd (by omega) hB hne (by decide) (by decide) 3 3 rfl (by omega)).mono ?_
   rintro e w8 ⟨v, rfl, ⟨nm2, rfl, hnm2⟩, hR8, hg8⟩
   have hnz2 := bad_size hnm2
   have hs8 := hst8.step hR8 hg8
   have HS9 := Lib.hid (hs8.set 1 (.string nm2) (cs' := #[.int .i64 4, .string nm2, .string ⟨#[]⟩, .int .i64 0, .string ⟨#[]⟩]) rfl)
   have sf1 := hs8.op.free 1
   have c0 := hs8.op.cell 0
   have c1 := hs8.op.cell 1
   have c2 := hs8.op.cell 2
   have c3 := hs8.op.cell 3
   have c4 := hs8.op.cell 4
   have zo := hs8.op.lt
   obtain ⟨r0, r1, r2', r3, r4, f0, f1, f2, f3, f4, zr⟩ := k5f hs8.res
   have hne1 : ¬ ob = w.heap.size := by have := hs8.l2; omega
   have hne2 : ¬ w.heap.size = ob := by have := hs8.l2; omega
   simp at c0 c1 c2 c3 c4
   clear hB hne hst8 hnm2 hR8 hg8 hs8
   go_wp2
   have hE := HS9.out.fin (k := k) ⟨4, nm2, (⟨#[]⟩ : ByteArray), 0, (⟨#[]⟩ : ByteArray)⟩ (by omega) (by refine ⟨⟨?_, ?_, ?_⟩, ?_, ?_, ?_, ?_⟩ <;> (dsimp only; omega))
   exact bodyPost_ret (results_cell_row rfl _ _ w.heap.size 27 _ (0, 0) _ rfl hE.1 Tryz.underlying27 rfl (by kernel_rfl)) rfl hE.2
  ·by_cases hqb : q = 1
   ·subst hqb
    go_wp2_with fail
    refine (pick_c HS7.out.rd (by omega) 9 (by omega)).mono ?_
    rintro e w8 ⟨v, rfl, ⟨n2, rfl, hn20, hn21, -⟩, hR8, hg8⟩
    have hn22 := hn21 (by omega)
    have hs8 := HS7.out.step hR8 hg8
    have HS9 := Lib.hid (hs8.set 3 (.int .i64 (n2 - 1)) (cs' := #[.int .i64 4, .string nm, .string ⟨#[]⟩, .int .i64 (n2 - 1), .string ⟨#[]⟩]) rfl)
    have sf3 := hs8.op.free 3
    have c0 := hs8.op.cell 0
    have c1 := hs8.op.cell 1
    have c2 := hs8.op.cell 2
    have c3 := hs8.op.cell 3
    have c4 := hs8.op.cell 4
    have zo := hs8.op.lt
    obtain ⟨r0, r1, r2', r3, r4, f0, f1, f2, f3, f4, zr⟩ := k5f hs8.res
    have hne1 : ¬ ob = w.heap.size := by have := hs8.l2; omega
    have hne2 : ¬ w.heap.size = ob := by have := hs8.l2; omega
    simp at c0 c1 c2 c3 c4
    clear hR8 hg8 hs8 hn21
    go_wp2
    have hE := HS9.out.fin (k := k) ⟨4, nm, (⟨#[]⟩ : ByteArray), n2 - 1, (⟨#[]⟩ : ByteArray)⟩ (by omega) (by refine ⟨⟨?_, ?_, ?_⟩, ?_, ?_, ?_, ?_⟩ <;> (dsimp only; omega))
    exact bodyPost_ret (results_cell_row rfl _ _ w.heap.size 27 _ (0, 0) _ rfl hE.1 Tryz.underlying27 rfl (by kernel_rfl)) rfl hE.2
   ·by_cases hqc : q = 2
    ·subst hqc
     go_wp2_with fail
     refine (pick_c HS7.out.rd (by omega) 6 (by omega)).mono ?_
     rintro e w8 ⟨v, rfl, ⟨kd2, rfl, hk20, hk21, -⟩, hR8, hg8⟩
     have hk22 := hk21 (by omega)
     have hs8 := HS7.out.step hR8 hg8
     have HS9 := Lib.hid (hs8.set 0 (.int .i64 kd2) (cs' := #[.int .i64 kd2, .string nm, .string ⟨#[]⟩, .int .i64 0, .string ⟨#[]⟩]) rfl)
     have sf0 := hs8.op.free 0
     have c0 := hs8.op.cell 0
     have c1 := hs8.op.cell 1
     have c2 := hs8.op.cell 2
     have c3 := hs8.op.cell 3
     have c4 := hs8.op.cell 4
     have zo := hs8.op.lt
     obtain ⟨r0, r1, r2', r3, r4, f0, f1, f2, f3, f4, zr⟩ := k5f hs8.res
     have hne1 : ¬ ob = w.heap.size := by have := hs8.l2; omega
     have hne2 : ¬ w.heap.size = ob := by have := hs8.l2; omega
     simp at c0 c1 c2 c3 c4
     clear hR8 hg8 hs8 hk21
     go_wp2
     have hE := HS9.out.fin (k := k) ⟨kd2, nm, (⟨#[]⟩ : ByteArray), 0, (⟨#[]⟩ : ByteArray)⟩ (by omega) (by refine ⟨⟨?_, ?_, ?_⟩, ?_, ?_, ?_, ?_⟩ <;> (dsimp only; omega))
     exact bodyPost_ret (results_cell_row rfl _ _ w.heap.size 27 _ (0, 0) _ rfl hE.1 Tryz.underlying27 rfl (by kernel_rfl)) rfl hE.2
    ·skip
     have hs8 := HS7.out
     obtain ⟨r0, r1, r2', r3, r4, f0, f1, f2, f3, f4, zr⟩ := k5f hs8.res
     obtain ⟨c0, c1, c2, c3, c4, zo⟩ := k5c hs8.op
     have hne1 : ¬ ob = w.heap.size := by have := hs8.l2; omega
     have hne2 : ¬ w.heap.size = ob := by have := hs8.l2; omega
     clear hs8
     go_wp2
     have hE := HS7.out.fin (k := k) ⟨4, nm, (⟨#[]⟩ : ByteArray), 0, (⟨#[]⟩ : ByteArray)⟩ (by omega) (by refine ⟨⟨?_, ?_, ?_⟩, ?_, ?_, ?_, ?_⟩ <;> (dsimp only; omega))
     exact bodyPost_ret (results_cell_row rfl _ _ w.heap.size 27 _ (0, 0) _ rfl hE.1 Tryz.underlying27 rfl (by kernel_rfl)) rfl hE.2
 go_wp2_with fail
 refine (pick_c HS5.out.rd (by omega) 30 (by omega)).mono ?_
 rintro e w7 ⟨v, rfl, ⟨q, rfl, hq0, hq1, -⟩, hR7, hg7⟩
 have HS7 := Lib.hid (HS5.out.step hR7 hg7)
 have hq2 := hq1 (by omega)
 clear hR7 hg7 hq1
 by_cases hqa : q = 0
 ·subst hqa
  go_wp2_with fail
  have hB : Blk (w7.alloc (.cells #[.string ⟨#[]⟩, .string ⟨#[69]⟩, .string ⟨#[65, 65]⟩] 9)) w7.heap.size (bad.map Value.string).toArray 9 := Blk.new w7 _ _
  have hne : w7.heap.size ≠ rb := by have := HS7.out.rd.lt; omega
  have hst8 := HS7.out.bel (bel_alloc (Below.refl _ _) (.cells #[.string ⟨#[]⟩, .string ⟨#[69]⟩, .string ⟨#[65, 65]⟩] 9))
  refine (of_c hst8.rd (by omega) hB hne (by decide) (by decide) 3 3 rfl (by omega)).mono ?_
  rintro e w8 ⟨v, rfl, ⟨nm2, rfl, hnm2⟩, hR8, hg8⟩
  have hnz2 := bad_size hnm2
  have hs8 := hst8.step hR8 hg8
  have HS9 := Lib.hid (hs8.set 1 (.string nm2) (cs' := #[.int .i64 2, .string nm2, .string ⟨#[]⟩, .int .i64 n0, .string tx]) rfl)
  have sf1 := hs8.op.free 1
  have c0 := hs8.op.cell 0
  have c1 := hs8.op.cell 1
  have c2 := hs8.op.cell 2
  have c3 := hs8.op.cell 3
  have c4 := hs8.op.cell 4
  have zo := hs8.op.lt
  obtain ⟨r0, r1, r2', r3, r4, f0, f1, f2, f3, f4, zr⟩ := k5f hs8.res
  have hne1 : ¬ ob = w.heap.size := by have := hs8.l2; omega
  have hne2 : ¬ w.heap.size = ob := by have := hs8.l2; omega
  simp at c0 c1 c2 c3 c4
  clear hB hne hst8 hnm2 hR8 hg8 hs8
  go_wp2
  have hE := HS9.out.fin (k := k) ⟨2, nm2, (⟨#[]⟩ : ByteArray), n0, tx⟩ (by omega) (by refine ⟨⟨?_, ?_, ?_⟩, ?_, ?_, ?_, ?_⟩ <;> (dsimp only; omega))
  exact bodyPost_ret (results_cell_row rfl _ _ w.heap.size 27 _ (0, 0) _ rfl hE.1 Tryz.underlying27 rfl (by kernel_rfl)) rfl hE.2
 ·by_cases hqb : q = 1
  ·subst hqb
   go_wp2_with fail
   refine (pick_c HS7.out.rd (by omega) 9 (by omega)).mono ?_
   rintro e w8 ⟨v, rfl, ⟨n2, rfl, hn20, hn21, -⟩, hR8, hg8⟩
   have hn22 := hn21 (by omega)
   have hs8 := HS7.out.step hR8 hg8
   have HS9 := Lib.hid (hs8.set 3 (.int .i64 (n2 - 1)) (cs' := #[.int .i64 2, .string nm, .string ⟨#[]⟩, .int .i64 (n2 - 1), .string tx]) rfl)
   have sf3 := hs8.op.free 3
   have c0 := hs8.op.cell 0
   have c1 := hs8.op.cell 1
   have c2 := hs8.op.cell 2
   have c3 := hs8.op.cell 3
   have c4 := hs8.op.cell 4
   have zo := hs8.op.lt
   obtain ⟨r0, r1, r2', r3, r4, f0, f1, f2, f3, f4, zr⟩ := k5f hs8.res
   have hne1 : ¬ ob = w.heap.size := by have := hs8.l2; omega
   have hne2 : ¬ w.heap.size = ob := by have := hs8.l2; omega
   simp at c0 c1 c2 c3 c4
   clear hR8 hg8 hs8 hn21
   go_wp2
   have hE := HS9.out.fin (k := k) ⟨2, nm, (⟨#[]⟩ : ByteArray), n2 - 1, tx⟩ (by omega) (by refine ⟨⟨?_, ?_, ?_⟩, ?_, ?_, ?_, ?_⟩ <;> (dsimp only; omega))
   exact bodyPost_ret (results_cell_row rfl _ _ w.heap.size 27 _ (0, 0) _ rfl hE.1 Tryz.underlying27 rfl (by kernel_rfl)) rfl hE.2
  ·by_cases hqc : q = 2
   ·subst hqc
    go_wp2_with fail
    refine (pick_c HS7.out.rd (by omega) 6 (by omega)).mono ?_
    rintro e w8 ⟨v, rfl, ⟨kd2, rfl, hk20, hk21, -⟩, hR8, hg8⟩
    have hk22 := hk21 (by omega)
    have hs8 := HS7.out.step hR8 hg8
    have HS9 := Lib.hid (hs8.set 0 (.int .i64 kd2) (cs' := #[.int .i64 kd2, .string nm, .string ⟨#[]⟩, .int .i64 n0, .string tx]) rfl)
    have sf0 := hs8.op.free 0
    have c0 := hs8.op.cell 0
    have c1 := hs8.op.cell 1
    have c2 := hs8.op.cell 2
    have c3 := hs8.op.cell 3
    have c4 := hs8.op.cell 4
    have zo := hs8.op.lt
    obtain ⟨r0, r1, r2', r3, r4, f0, f1, f2, f3, f4, zr⟩ := k5f hs8.res
    have hne1 : ¬ ob = w.heap.size := by have := hs8.l2; omega
    have hne2 : ¬ w.heap.size = ob := by have := hs8.l2; omega
    simp at c0 c1 c2 c3 c4
    clear hR8 hg8 hs8 hk21
    go_wp2
    have hE := HS9.out.fin (k := k) ⟨kd2, nm, (⟨#[]⟩ : ByteArray), n0, tx⟩ (by omega) (by refine ⟨⟨?_, ?_, ?_⟩, ?_, ?_, ?_, ?_⟩ <;> (dsimp only; omega))
    exact bodyPost_ret (results_cell_row rfl _ _ w.heap.size 27 _ (0, 0) _ rfl hE.1 Tryz.underlying27 rfl (by kernel_rfl)) rfl hE.2
   ·skip
    have hs8 := HS7.out
    obtain ⟨r0, r1, r2', r3, r4, f0, f1, f2, f3, f4, zr⟩ := k5f hs8.res
    obtain ⟨c0, c1, c2, c3, c4, zo⟩ := k5c hs8.op
    have hne1 : ¬ ob = w.heap.size := by have := hs8.l2; omega
    have hne2 : ¬ w.heap.size = ob := by have := hs8.l2; omega
    clear hs8
    go_wp2
    have hE := HS7.out.fin (k := k) ⟨2, nm, (⟨#[]⟩ : ByteArray), n0, tx⟩ (by omega) (by refine ⟨⟨?_, ?_, ?_⟩, ?_, ?_, ?_, ?_⟩ <;> (dsimp only; omega))
    exact bodyPost_ret (results_cell_row rfl _ _ w.heap.size 27 _ (0, 0) _ rfl hE.1 Tryz.underlying27 rfl (by kernel_rfl)) rfl hE.2
end Go.Proofs.YtljfoglilggkjaaGreat

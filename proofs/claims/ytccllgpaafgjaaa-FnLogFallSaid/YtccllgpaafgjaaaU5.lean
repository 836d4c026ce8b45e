/- Contracts of the program's and the reference's functions, and the plain laws behind them: part 5 of 6. -/
import Derived.Test.YtccllgpaafgjaaaU4
/- l71Op: a change that is drawn. -/

namespace Go.Proofs.Ytccllgpaafgjaaa
open Go.RowKit Go.Proofs.YtccllgpaafgjaaaW.PrintWords Go.Proofs.YtccllgpaafgjaaaW.PrintLast
set_option linter.unusedVariables false
set_option linter.unusedSimpArgs false

theorem grown_new {w W : World} {r : Option Nat} (h : w.grownBy W r) {b : Nat} (hb : w.heap.size ≤ b) (i : Nat) (u : Value) : w.grownBy (W.setCell ⟨b, i, none⟩ u) r :=
  ⟨h.os, h.tape, h.output, by have := h.size; simpa using this, fun k hk hr => (heap_setCell_other W ⟨b, i, none⟩ k u (by show k ≠ b; omega)).trans (h.block k hk hr)⟩
theorem Rd.set {W : World} {rb k : Nat} (h : Rd W rb k) {b : Nat} (hb : rb < b) (i : Nat) (u : Value) : Rd (W.setCell ⟨b, i, none⟩ u) rb k := by
  obtain ⟨A, c, bs, p, h1, h2, h3, h4, h5, h6⟩ := h.h
  exact ⟨⟨A, c, bs, p, h1.apart (by omega) i u, byte_kept h2 (grown_setCell W b i u) (fun ad e => by have := h6 ad e; omega), h3, h4, h5, h6⟩⟩
theorem Rd.grown {W W' : World} {rb k : Nat} (h : Rd W rb k) {r : Option Nat} (hg : W.grownBy W' r) (hr : ∀ b, r = some b → rb < b) : Rd W' rb k := by
  obtain ⟨A, c, bs, p, h1, h2, h3, h4, h5, h6⟩ := h.h
  refine ⟨⟨A, c, bs, p, h1.grown hg (fun e => by have := hr rb e.symm; omega), ?_, h3, h4, h5, h6⟩⟩
  refine ⟨h2.1, h2.2.1, fun h0 => ?_⟩
  obtain ⟨ad, e, hh⟩ := h2.2.2 h0
  refine ⟨ad, e, fun j q hj => ?_⟩
  obtain ⟨c, g1, g2, g3⟩ := hh j q hj
  refine ⟨c, g1, g2, fun i u hu => World.grownBy.cell hg (g3 i u hu) ?_⟩
  rw [add_block]
  intro he
  have a1 := h6 ad e
  have a2 := hr _ he.symm
  omega
/-- The state of a draw of a change: the result's block, the change's own block, the reader. -/
structure OpSt (w W : World) (rb rs ob k : Nat) (cs : Array Value) : Prop where
  res : Blk W rs #[.int .i64 0, .string ⟨#[]⟩, .string ⟨#[]⟩, .int .i64 0, .string ⟨#[]⟩] 61
  op : Blk W ob cs 61
  rd : Rd W rb k
  g : w.grownBy W (some rb)
  l1 : w.heap.size ≤ rs
  l2 : rs < ob
  l3 : rb < w.heap.size
theorem OpSt.step {w W W' : World} {rb rs ob k k' : Nat} {cs : Array Value} (h : OpSt w W rb rs ob k cs) (hR : Rd W' rb k') (hg : W.grownBy W' (some rb)) : OpSt w W' rb rs ob k' cs :=
  ⟨h.res.grown hg (fun e => by injection e with e; have := h.l1; have := h.l3; omega), h.op.grown hg (fun e => by injection e with e; have := h.l1; have := h.l2; have := h.l3; omega), hR, grown_tr h.g hg, h.l1, h.l2, h.l3⟩
theorem OpSt.bel {w W W' : World} {rb rs ob k : Nat} {cs : Array Value} (h : OpSt w W rb rs ob k cs) (hb : Bel W W') : OpSt w W' rb rs ob k cs :=
  ⟨h.res.bel hb, h.op.bel hb, h.rd.bel hb, grown_tr h.g (grown_of_bel hb _), h.l1, h.l2, h.l3⟩
theorem OpSt.set {w W : World} {rb rs ob k : Nat} {cs cs' : Array Value} (h : OpSt w W rb rs ob k cs) (i : Nat) (u : Value) (e : cs.setIfInBounds i u = cs') : OpSt w (W.setCell ⟨ob, i, none⟩ u) rb rs ob k cs' :=
  ⟨h.res.apart (by have := h.l2; omega) i u, h.op.set i u e, h.rd.set (by have := h.l1; have := h.l2; have := h.l3; omega) i u, grown_new h.g (by have := h.l1; have := h.l2; omega) i u, h.l1, h.l2, h.l3⟩
theorem OpSt.more {w W : World} {rb rs ob k k' : Nat} {cs : Array Value} (h : OpSt w W rb rs ob k cs) (hk : k ≤ k') : OpSt w W rb rs ob k' cs := ⟨h.res, h.op, h.rd.more hk, h.g, h.l1, h.l2, h.l3⟩
/-- What a draw of a change hands back. -/
def OpV (v : Value) : Prop := ∃ o : Op, v = opV o ∧ SmallO o ∧ -100 ≤ o.n ∧ o.n ≤ 100 ∧ 0 ≤ o.kind ∧ o.kind ≤ 100
def nms : List ByteArray := [sOf [65], sOf [66], sOf [67], sOf [68]]
def bad : List ByteArray := [sOf [], sOf [69], sOf [65, 65]]
theorem nms_size {s : ByteArray} (h : s ∈ nms) : s.size ≤ 7 := by
  simp only [nms, List.mem_cons, List.not_mem_nil, or_false] at h
  rcases h with rfl | rfl | rfl | rfl <;> decide
theorem bad_size {s : ByteArray} (h : s ∈ bad) : s.size ≤ 7 := by
  simp only [bad, List.mem_cons, List.not_mem_nil, or_false] at h
  rcases h with rfl | rfl | rfl <;> decide
theorem e_size : (⟨#[]⟩ : ByteArray).size ≤ 7 := by decide
set_option maxHeartbeats 16000000 in
set_option maxRecDepth 10000 in
theorem op_c {w : World} {rb k : Nat} (h : Rd w rb k) (hk : k ≤ 1099511500000) :
    Calls Try.prog 58 #[.pointer (some ⟨rb, 0, none⟩)] w (Drawn rb k 20 OpV w) := by
  have H := Lib.hid h
  have hlt := h.lt
  clear h
  go_enter Try.func58, Try.ntmps58
  go_wp2_with fail
  have hB : Blk ((w.alloc (.cells #[.int .i64 0, .string ⟨#[]⟩, .string ⟨#[]⟩, .int .i64 0, .string ⟨#[]⟩] 61)).alloc (.cells #[.string ⟨#[65]⟩, .string ⟨#[66]⟩, .string ⟨#[67]⟩, .string ⟨#[68]⟩] 9)) (w.heap.size + 1) (nms.map Value.string).toArray 9 := Blk.nw2 w _ _ _
  have hres : Blk ((w.alloc (.cells #[.int .i64 0, .string ⟨#[]⟩, .string ⟨#[]⟩, .int .i64 0, .string ⟨#[]⟩] 61)).alloc (.cells #[.string ⟨#[65]⟩, .string ⟨#[66]⟩, .string ⟨#[67]⟩, .string ⟨#[68]⟩] 9)) w.heap.size #[.int .i64 0, .string ⟨#[]⟩, .string ⟨#[]⟩, .int .i64 0, .string ⟨#[]⟩] 61 := (Blk.new _ _ _).alloc _
  have hW : Bel w ((w.alloc (.cells #[.int .i64 0, .string ⟨#[]⟩, .string ⟨#[]⟩, .int .i64 0, .string ⟨#[]⟩] 61)).alloc (.cells #[.string ⟨#[65]⟩, .string ⟨#[66]⟩, .string ⟨#[67]⟩, .string ⟨#[68]⟩] 9)) := bel_alloc (bel_alloc (Below.refl _ _) _) _
  generalize ((w.alloc (.cells #[.int .i64 0, .string ⟨#[]⟩, .string ⟨#[]⟩, .int .i64 0, .string ⟨#[]⟩] 61)).alloc (.cells #[.string ⟨#[65]⟩, .string ⟨#[66]⟩, .string ⟨#[67]⟩, .string ⟨#[68]⟩] 9)) = W0 at hB hres hW ⊢
  refine (of_c (H.out.bel hW) (by omega) hB (by omega) (by decide) (by decide) 4 4 rfl (by omega)).mono ?_
  rintro e w1 ⟨v, rfl, ⟨nm, rfl, hnm⟩, hR1, hg1⟩
  have hnz := nms_size hnm
  have HS1 := Lib.hid (And.intro (hres.grown hg1 (by intro e; injection e with e; omega)) (And.intro hR1 (grown_tr (grown_of_bel hW _) hg1)))
  clear hB hres hW hnm hR1 hg1
  go_wp2_with fail
  refine (pick_c HS1.out.2.1 (by omega) 3 (by omega)).mono ?_
  rintro e w2 ⟨v, rfl, ⟨n0, rfl, hn0, hn1, -⟩, hR2, hg2⟩
  have hn2 := hn1 (by omega)
  have HS2 := Lib.hid (And.intro (HS1.out.1.grown hg2 (by intro e; injection e with e; omega)) (And.intro hR2 (grown_tr HS1.out.2.2 hg2)))
  clear hR2 hg2 hn1
  go_wp2_with fail
  refine (text_c HS2.out.2.1 (by omega)).mono ?_
  rintro e w3 ⟨v, rfl, ⟨tx, rfl, htx⟩, hR3, hg3⟩
  have HS3 := Lib.hid (And.intro (HS2.out.1.grown hg3 (by intro e; injection e with e; omega)) (And.intro hR3 (grown_tr HS2.out.2.2 hg3)))
  clear hR3 hg3
  go_wp2_with fail
  have hst : OpSt w (w3.alloc (.cells #[.int .i64 2, .string nm, .string ⟨#[]⟩, .int .i64 n0, .string tx] 61)) rb w.heap.size w3.heap.size (k + 1 + 1 + 6) #[.int .i64 2, .string nm, .string ⟨#[]⟩, .int .i64 n0, .string tx] := ⟨HS3.out.1.alloc _, Blk.new _ _ _, HS3.out.2.1.bel (bel_alloc (Below.refl _ _) _), grown_tr HS3.out.2.2 (grown_of_bel (bel_alloc (Below.refl _ _) _) _), Nat.le_refl _, HS3.out.1.lt, hlt⟩
  generalize w3.alloc (.cells #[.int .i64 2, .string nm, .string ⟨#[]⟩, .int .i64 n0, .string tx] 61) = W4 at hst ⊢
  obtain ⟨ob, hob⟩ : ∃ ob, w3.heap.size = ob := ⟨_, rfl⟩
  rw [hob] at hst ⊢
  have HST := Lib.hid hst
  clear hst hob
  have hez := e_size
  refine (pick_c HST.out.rd (by omega) 12 (by omega)).mono ?_
  rintro e w5 ⟨v, rfl, ⟨r, rfl, hr0, hr1, -⟩, hR5, hg5⟩
  have HS5 := Lib.hid (HST.out.step hR5 hg5)
  have hr2 := hr1 (by omega)
  clear hR5 hg5 hr1
  by_cases hra : r = 0
  · subst hra
    have hs5 := HS5.out
    have c0 := hs5.op.cell 0
    have g0 := hs5.op.free 0
    have c1 := hs5.op.cell 1
    have g1 := hs5.op.free 1
    have c2 := hs5.op.cell 2
    have g2 := hs5.op.free 2
    have c3 := hs5.op.cell 3
    have g3 := hs5.op.free 3
    have c4 := hs5.op.cell 4
    have g4 := hs5.op.free 4
    have zo := hs5.op.lt
    have hne1 : ¬ ob = w.heap.size := by have := hs5.l2; omega
    have hne2 : ¬ w.heap.size = ob := by have := hs5.l2; omega
    simp at c0 c1 c2 c3 c4
    have HRD := Lib.hid hs5.rd
    clear hs5
    go_wp2
    have HP6 := Lib.hid (pick_c (w := w5.drew) (HRD.out.bel (Below.refl _ _).drew) (by omega) 6 (by omega))
    refine start_ (n := 7) (S := fun w' => w'.cell? ⟨ob, 1, none⟩ = some (.string nm)) (ds := [6]) #[false, false, false, false, false, false, false] (by kernel_rfl) rfl rfl (c1) (fun hHeld => ?_)
    refine pure_ (i := 0) (N := some 17) (v := ?_) (a' := ?_) #[true, false, false, false, false, false, false] rfl rfl (by kernel_rfl) (fun _ _ _ h => h) (Or.inl ⟨by rfl, ?_⟩) ?_ ?_
    rotate_left
    · intro w'
      go_simp
      with_reducible rfl
    rotate_left
    · simp only [Act.put, List.setIfInBounds_toArray, List.set_cons_zero, List.set_cons_succ, i64_w, i32_w]
      rfl
    refine pure_ (i := 2) (N := some 19) (v := ?_) (a' := ?_) #[true, false, true, false, false, false, false] rfl rfl (by kernel_rfl) (fun _ _ _ h => h) (Or.inl ⟨by rfl, ?_⟩) ?_ ?_
    rotate_left
    · intro w'
      go_simp
      with_reducible rfl
    rotate_left
    · simp only [Act.put, List.setIfInBounds_toArray, List.set_cons_zero, List.set_cons_succ, i64_w, i32_w]
      rfl
    refine take_ (i := 1) (N := some 18) (v := ?_) (a' := ?_) #[true, true, true, false, false, false, false] rfl rfl (by kernel_rfl) (fun _ _ _ h => h) (Or.inl ⟨by rfl, ?_⟩) hHeld ?_ ?_
    rotate_left
    · intro w' s0
      go_simp
      with_reducible rfl
    rotate_left
    · simp only [Act.put, List.setIfInBounds_toArray, List.set_cons_zero, List.set_cons_succ, i64_w, i32_w]
      rfl
    refine one_ (i := 3) (N := some 20) #[true, true, true, true, false, false, false] rfl rfl (by kernel_rfl) (by decide) (fun K hK => ?_)
    refine goes_ Try.func49 (by kernel_rfl) rfl #[.pointer (some ⟨rb, 0, none⟩), .int .i64 6] (by rfl) rfl rfl (by simp only [List.map_toArray, List.map_cons, List.map_nil]; rfl) ?_
    with_reducible refine (HP6.out).mono ?_
    rintro e w6 ⟨v, rfl, ⟨n6, rfl, hn60, hn61, -⟩, hR6, hg6⟩
    have hn62 := hn61 (by omega)
    have hs6 := OpSt.step (W := w5.drew) (HS5.out.bel (Below.refl _ _).drew) hR6 hg6
    have HS6 := Lib.hid hs6
    have c0 := hs6.op.cell 0
    have g0 := hs6.op.free 0
    have c1 := hs6.op.cell 1
    have g1 := hs6.op.free 1
    have c2 := hs6.op.cell 2
    have g2 := hs6.op.free 2
    have c3 := hs6.op.cell 3
    have g3 := hs6.op.free 3
    have c4 := hs6.op.cell 4
    have g4 := hs6.op.free 4
    have zo := hs6.op.lt
    have hne1 : ¬ ob = w.heap.size := by have := hs6.l2; omega
    have hne2 : ¬ w.heap.size = ob := by have := hs6.l2; omega
    simp at c0 c1 c2 c3 c4
    have hwn : wrap64 (1 + n6) = 1 + n6 := by unfold wrap64; omega
    clear hR6 hg6 hn61 hs6
    refine ⟨_, rfl, ?_⟩
    refine hK.out _ _ (c1) (fun hHeld => ?_)
    clear hK K
    refine norm_ (a' := ?_) ?_ ?_
    rotate_left
    · show Act.put _ (some 20) _ = _
      simp only [Act.put, List.setIfInBounds_toArray, List.set_cons_zero, List.set_cons_succ, i64_w, i32_w]
      rfl
    refine pure_ (i := 4) (N := some 21) (v := ?_) (a' := ?_) #[true, true, true, true, true, false, false] rfl rfl (by kernel_rfl) (fun _ _ _ h => h) (Or.inl ⟨by rfl, ?_⟩) ?_ ?_
    rotate_left
    · intro w'
      go_simp
      with_reducible rfl
    rotate_left
    · simp only [Act.put, List.setIfInBounds_toArray, List.set_cons_zero, List.set_cons_succ, i64_w, i32_w]
      rfl
    refine pure_ (i := 5) (N := some 22) (v := ?_) (a' := ?_) #[true, true, true, true, true, true, false] rfl rfl (by kernel_rfl) (fun _ _ _ h => h) (Or.inl ⟨by rfl, ?_⟩) ?_ ?_
    rotate_left
    · intro w'
      go_simp
      with_reducible rfl
    rotate_left
    · simp only [Act.put, List.setIfInBounds_toArray, List.set_cons_zero, List.set_cons_succ, i64_w, i32_w]
      rfl
    refine last_ (i := 6) (N := none) #[true, true, true, true, true, true, true] rfl rfl (by kernel_rfl) (by decide) (fun K hK => ?_)
    refine skip_ (w1 := ?_) (by rfl) rfl ?_ ?_
    rotate_left
    · go_simp
      rfl
    refine hK.out _ _ ?_
    clear hK K
    refine done_ (by kernel_rfl) ?_
    clear hHeld hwn
    have hs := (((((HS6.out.set 0 (.int .i64 (1)) (cs' := #[.int .i64 (1), .string nm, .string ⟨#[]⟩, .int .i64 n0, .string tx]) rfl).set 1 (.string nm) (cs' := #[.int .i64 (1), .string nm, .string ⟨#[]⟩, .int .i64 n0, .string tx]) rfl).set 2 (.string (⟨#[]⟩ : ByteArray)) (cs' := #[.int .i64 (1), .string nm, .string (⟨#[]⟩ : ByteArray), .int .i64 n0, .string tx]) rfl).set 3 (.int .i64 (1 + n6)) (cs' := #[.int .i64 (1), .string nm, .string (⟨#[]⟩ : ByteArray), .int .i64 (1 + n6), .string tx]) rfl).set 4 (.string (⟨#[]⟩ : ByteArray)) (cs' := #[.int .i64 (1), .string nm, .string (⟨#[]⟩ : ByteArray), .int .i64 (1 + n6), .string (⟨#[]⟩ : ByteArray)]) rfl)
    clear c0 c1 c2 c3 c4 g0 g1 g2 g3 g4
    generalize (((((w6.setCell ⟨ob, 0, none⟩ (.int .i64 (1))).setCell ⟨ob, 1, none⟩ (.string nm)).setCell ⟨ob, 2, none⟩ (.string (⟨#[]⟩ : ByteArray))).setCell ⟨ob, 3, none⟩ (.int .i64 (1 + n6))).setCell ⟨ob, 4, none⟩ (.string (⟨#[]⟩ : ByteArray))) = WW at hs ⊢
    have HSS := Lib.hid hs
    clear hs
    go_wp2_with fail
    refine (pick_c HSS.out.rd (by omega) 30 (by omega)).mono ?_
    rintro e w7 ⟨v, rfl, ⟨q, rfl, hq0, hq1, -⟩, hR7, hg7⟩
    have HS7 := Lib.hid (HSS.out.step hR7 hg7)
    have hq2 := hq1 (by omega)
    clear hR7 hg7 hq1
    by_cases hqa : q = 0
    · subst hqa
      go_wp2_with fail
      have hB : Blk (w7.alloc (.cells #[.string ⟨#[]⟩, .string ⟨#[69]⟩, .string ⟨#[65, 65]⟩] 9)) w7.heap.size (bad.map Value.string).toArray 9 := Blk.new w7 _ _
      have hne : w7.heap.size ≠ rb := by have := HS7.out.rd.lt; omega
      have hst8 := HS7.out.bel (bel_alloc (Below.refl _ _) (.cells #[.string ⟨#[]⟩, .string ⟨#[69]⟩, .string ⟨#[65, 65]⟩] 9))
      refine (of_c hst8.rd (by omega) hB hne (by decide) (by decide) 3 3 rfl (by omega)).mono ?_
      rintro e w8 ⟨v, rfl, ⟨nm2, rfl, hnm2⟩, hR8, hg8⟩
      have hnz2 := bad_size hnm2
      have hs8 := hst8.step hR8 hg8
      have HS9 := Lib.hid (hs8.set 1 (.string nm2) (cs' := #[.int .i64 1, .string nm2, .string ⟨#[]⟩, .int .i64 (1 + n6), .string ⟨#[]⟩]) rfl)
      have sf1 := hs8.op.free 1
      have r0 := hs8.res.cell 0
      have f0 := hs8.res.free 0
      have c0 := hs8.op.cell 0
      have r1 := hs8.res.cell 1
      have f1 := hs8.res.free 1
      have c1 := hs8.op.cell 1
      have r2' := hs8.res.cell 2
      have f2 := hs8.res.free 2
      have c2 := hs8.op.cell 2
      have r3 := hs8.res.cell 3
      have f3 := hs8.res.free 3
      have c3 := hs8.op.cell 3
      have r4 := hs8.res.cell 4
      have f4 := hs8.res.free 4
      have c4 := hs8.op.cell 4
      have zr := hs8.res.lt
      have zo := hs8.op.lt
      have hne1 : ¬ ob = w.heap.size := by have := hs8.l2; omega
      have hne2 : ¬ w.heap.size = ob := by have := hs8.l2; omega
      simp at r0 r1 r2' r3 r4 c0 c1 c2 c3 c4
      clear hB hne hst8 hnm2 hR8 hg8 hs8
      go_wp2
      have hf := (((((HS9.out.res.set 0 (.int .i64 (1)) (cs' := #[.int .i64 (1), .string ⟨#[]⟩, .string ⟨#[]⟩, .int .i64 0, .string ⟨#[]⟩]) rfl).set 1 (.string nm2) (cs' := #[.int .i64 (1), .string nm2, .string ⟨#[]⟩, .int .i64 0, .string ⟨#[]⟩]) rfl).set 2 (.string (⟨#[]⟩ : ByteArray)) (cs' := #[.int .i64 (1), .string nm2, .string (⟨#[]⟩ : ByteArray), .int .i64 0, .string ⟨#[]⟩]) rfl).set 3 (.int .i64 ((1 + n6))) (cs' := #[.int .i64 (1), .string nm2, .string (⟨#[]⟩ : ByteArray), .int .i64 ((1 + n6)), .string ⟨#[]⟩]) rfl).set 4 (.string (⟨#[]⟩ : ByteArray)) (cs' := #[.int .i64 (1), .string nm2, .string ⟨#[]⟩, .int .i64 ((1 + n6)), .string ⟨#[]⟩]) rfl)
      have hgf := grown_new (grown_new (grown_new (grown_new (grown_new HS9.out.g HS9.out.l1 0 (.int .i64 (1))) HS9.out.l1 1 (.string nm2)) HS9.out.l1 2 (.string (⟨#[]⟩ : ByteArray))) HS9.out.l1 3 (.int .i64 ((1 + n6)))) HS9.out.l1 4 (.string (⟨#[]⟩ : ByteArray))
      have hl4 := HS9.out.l3
      have hrf := (((((HS9.out.rd.set (b := w.heap.size) hl4 0 (.int .i64 (1))).set (b := w.heap.size) hl4 1 (.string nm2)).set (b := w.heap.size) hl4 2 (.string (⟨#[]⟩ : ByteArray))).set (b := w.heap.size) hl4 3 (.int .i64 ((1 + n6)))).set (b := w.heap.size) hl4 4 (.string (⟨#[]⟩ : ByteArray)))
      refine bodyPost_ret (results_cell_row rfl _ _ w.heap.size 61 #[.int .i64 (1), .string nm2, .string ⟨#[]⟩, .int .i64 ((1 + n6)), .string ⟨#[]⟩] (0, 0) _ rfl hf Try.underlying61 rfl (by kernel_rfl)) rfl ?_
      exact ⟨_, rfl, ⟨⟨1, nm2, (⟨#[]⟩ : ByteArray), (1 + n6), (⟨#[]⟩ : ByteArray)⟩, rfl, ⟨by show ByteArray.size nm2 ≤ _; omega, by show ByteArray.size (⟨#[]⟩ : ByteArray) ≤ _; omega, by show ByteArray.size (⟨#[]⟩ : ByteArray) ≤ _; omega⟩, by show (-100 : Int) ≤ (1 + n6); omega, by show ((1 + n6) : Int) ≤ 100; omega, by show (0 : Int) ≤ 1; omega, by show (1 : Int) ≤ 100; omega⟩, hrf.more (by omega), hgf⟩
    · by_cases hqb : q = 1
      · subst hqb
        go_wp2_with fail
        refine (pick_c HS7.out.rd (by omega) 9 (by omega)).mono ?_
        rintro e w8 ⟨v, rfl, ⟨n2, rfl, hn20, hn21, -⟩, hR8, hg8⟩
        have hn22 := hn21 (by omega)
        have hs8 := HS7.out.step hR8 hg8
        have HS9 := Lib.hid (hs8.set 3 (.int .i64 (n2 - 1)) (cs' := #[.int .i64 1, .string nm, .string ⟨#[]⟩, .int .i64 (n2 - 1), .string ⟨#[]⟩]) rfl)
        have sf3 := hs8.op.free 3
        have r0 := hs8.res.cell 0
        have f0 := hs8.res.free 0
        have c0 := hs8.op.cell 0
        have r1 := hs8.res.cell 1
        have f1 := hs8.res.free 1
        have c1 := hs8.op.cell 1
        have r2' := hs8.res.cell 2
        have f2 := hs8.res.free 2
        have c2 := hs8.op.cell 2
        have r3 := hs8.res.cell 3
        have f3 := hs8.res.free 3
        have c3 := hs8.op.cell 3
        have r4 := hs8.res.cell 4
        have f4 := hs8.res.free 4
        have c4 := hs8.op.cell 4
        have zr := hs8.res.lt
        have zo := hs8.op.lt
        have hne1 : ¬ ob = w.heap.size := by have := hs8.l2; omega
        have hne2 : ¬ w.heap.size = ob := by have := hs8.l2; omega
        simp at r0 r1 r2' r3 r4 c0 c1 c2 c3 c4
        clear hR8 hg8 hs8 hn21
        go_wp2
        have hf := (((((HS9.out.res.set 0 (.int .i64 (1)) (cs' := #[.int .i64 (1), .string ⟨#[]⟩, .string ⟨#[]⟩, .int .i64 0, .string ⟨#[]⟩]) rfl).set 1 (.string nm) (cs' := #[.int .i64 (1), .string nm, .string ⟨#[]⟩, .int .i64 0, .string ⟨#[]⟩]) rfl).set 2 (.string (⟨#[]⟩ : ByteArray)) (cs' := #[.int .i64 (1), .string nm, .string (⟨#[]⟩ : ByteArray), .int .i64 0, .string ⟨#[]⟩]) rfl).set 3 (.int .i64 (n2 - 1)) (cs' := #[.int .i64 (1), .string nm, .string (⟨#[]⟩ : ByteArray), .int .i64 (n2 - 1), .string ⟨#[]⟩]) rfl).set 4 (.string (⟨#[]⟩ : ByteArray)) (cs' := #[.int .i64 (1), .string nm, .string ⟨#[]⟩, .int .i64 (n2 - 1), .string ⟨#[]⟩]) rfl)
        have hgf := grown_new (grown_new (grown_new (grown_new (grown_new HS9.out.g HS9.out.l1 0 (.int .i64 (1))) HS9.out.l1 1 (.string nm)) HS9.out.l1 2 (.string (⟨#[]⟩ : ByteArray))) HS9.out.l1 3 (.int .i64 (n2 - 1))) HS9.out.l1 4 (.string (⟨#[]⟩ : ByteArray))
        have hl4 := HS9.out.l3
        have hrf := (((((HS9.out.rd.set (b := w.heap.size) hl4 0 (.int .i64 (1))).set (b := w.heap.size) hl4 1 (.string nm)).set (b := w.heap.size) hl4 2 (.string (⟨#[]⟩ : ByteArray))).set (b := w.heap.size) hl4 3 (.int .i64 (n2 - 1))).set (b := w.heap.size) hl4 4 (.string (⟨#[]⟩ : ByteArray)))
        refine bodyPost_ret (results_cell_row rfl _ _ w.heap.size 61 #[.int .i64 (1), .string nm, .string ⟨#[]⟩, .int .i64 (n2 - 1), .string ⟨#[]⟩] (0, 0) _ rfl hf Try.underlying61 rfl (by kernel_rfl)) rfl ?_
        exact ⟨_, rfl, ⟨⟨1, nm, (⟨#[]⟩ : ByteArray), n2 - 1, (⟨#[]⟩ : ByteArray)⟩, rfl, ⟨by show ByteArray.size nm ≤ _; omega, by show ByteArray.size (⟨#[]⟩ : ByteArray) ≤ _; omega, by show ByteArray.size (⟨#[]⟩ : ByteArray) ≤ _; omega⟩, by show (-100 : Int) ≤ n2 - 1; omega, by show (n2 - 1 : Int) ≤ 100; omega, by show (0 : Int) ≤ 1; omega, by show (1 : Int) ≤ 100; omega⟩, hrf.more (by omega), hgf⟩
      · by_cases hqc : q = 2
        · subst hqc
          go_wp2_with fail
          refine (pick_c HS7.out.rd (by omega) 6 (by omega)).mono ?_
          rintro e w8 ⟨v, rfl, ⟨kd2, rfl, hk20, hk21, -⟩, hR8, hg8⟩
          have hk22 := hk21 (by omega)
          have hs8 := HS7.out.step hR8 hg8
          have HS9 := Lib.hid (hs8.set 0 (.int .i64 kd2) (cs' := #[.int .i64 kd2, .string nm, .string ⟨#[]⟩, .int .i64 (1 + n6), .string ⟨#[]⟩]) rfl)
          have sf0 := hs8.op.free 0
          have r0 := hs8.res.cell 0
          have f0 := hs8.res.free 0
          have c0 := hs8.op.cell 0
          have r1 := hs8.res.cell 1
          have f1 := hs8.res.free 1
          have c1 := hs8.op.cell 1
          have r2' := hs8.res.cell 2
          have f2 := hs8.res.free 2
          have c2 := hs8.op.cell 2
          have r3 := hs8.res.cell 3
          have f3 := hs8.res.free 3
          have c3 := hs8.op.cell 3
          have r4 := hs8.res.cell 4
          have f4 := hs8.res.free 4
          have c4 := hs8.op.cell 4
          have zr := hs8.res.lt
          have zo := hs8.op.lt
          have hne1 : ¬ ob = w.heap.size := by have := hs8.l2; omega
          have hne2 : ¬ w.heap.size = ob := by have := hs8.l2; omega
          simp at r0 r1 r2' r3 r4 c0 c1 c2 c3 c4
          clear hR8 hg8 hs8 hk21
          go_wp2
          have hf := (((((HS9.out.res.set 0 (.int .i64 (kd2)) (cs' := #[.int .i64 (kd2), .string ⟨#[]⟩, .string ⟨#[]⟩, .int .i64 0, .string ⟨#[]⟩]) rfl).set 1 (.string nm) (cs' := #[.int .i64 (kd2), .string nm, .string ⟨#[]⟩, .int .i64 0, .string ⟨#[]⟩]) rfl).set 2 (.string (⟨#[]⟩ : ByteArray)) (cs' := #[.int .i64 (kd2), .string nm, .string (⟨#[]⟩ : ByteArray), .int .i64 0, .string ⟨#[]⟩]) rfl).set 3 (.int .i64 ((1 + n6))) (cs' := #[.int .i64 (kd2), .string nm, .string (⟨#[]⟩ : ByteArray), .int .i64 ((1 + n6)), .string ⟨#[]⟩]) rfl).set 4 (.string (⟨#[]⟩ : ByteArray)) (cs' := #[.int .i64 (kd2), .string nm, .string ⟨#[]⟩, .int .i64 ((1 + n6)), .string ⟨#[]⟩]) rfl)
          have hgf := grown_new (grown_new (grown_new (grown_new (grown_new HS9.out.g HS9.out.l1 0 (.int .i64 (kd2))) HS9.out.l1 1 (.string nm)) HS9.out.l1 2 (.string (⟨#[]⟩ : ByteArray))) HS9.out.l1 3 (.int .i64 ((1 + n6)))) HS9.out.l1 4 (.string (⟨#[]⟩ : ByteArray))
          have hl4 := HS9.out.l3
          have hrf := (((((HS9.out.rd.set (b := w.heap.size) hl4 0 (.int .i64 (kd2))).set (b := w.heap.size) hl4 1 (.string nm)).set (b := w.heap.size) hl4 2 (.string (⟨#[]⟩ : ByteArray))).set (b := w.heap.size) hl4 3 (.int .i64 ((1 + n6)))).set (b := w.heap.size) hl4 4 (.string (⟨#[]⟩ : ByteArray)))
          refine bodyPost_ret (results_cell_row rfl _ _ w.heap.size 61 #[.int .i64 (kd2), .string nm, .string ⟨#[]⟩, .int .i64 ((1 + n6)), .string ⟨#[]⟩] (0, 0) _ rfl hf Try.underlying61 rfl (by kernel_rfl)) rfl ?_
          exact ⟨_, rfl, ⟨⟨kd2, nm, (⟨#[]⟩ : ByteArray), (1 + n6), (⟨#[]⟩ : ByteArray)⟩, rfl, ⟨by show ByteArray.size nm ≤ _; omega, by show ByteArray.size (⟨#[]⟩ : ByteArray) ≤ _; omega, by show ByteArray.size (⟨#[]⟩ : ByteArray) ≤ _; omega⟩, by show (-100 : Int) ≤ (1 + n6); omega, by show ((1 + n6) : Int) ≤ 100; omega, by show (0 : Int) ≤ kd2; omega, by show (kd2 : Int) ≤ 100; omega⟩, hrf.more (by omega), hgf⟩
        · skip
          have hs8 := HS7.out
          have r0 := hs8.res.cell 0
          have f0 := hs8.res.free 0
          have c0 := hs8.op.cell 0
          have r1 := hs8.res.cell 1
          have f1 := hs8.res.free 1
          have c1 := hs8.op.cell 1
          have r2' := hs8.res.cell 2
          have f2 := hs8.res.free 2
          have c2 := hs8.op.cell 2
          have r3 := hs8.res.cell 3
          have f3 := hs8.res.free 3
          have c3 := hs8.op.cell 3
          have r4 := hs8.res.cell 4
          have f4 := hs8.res.free 4
          have c4 := hs8.op.cell 4
          have zr := hs8.res.lt
          have zo := hs8.op.lt
          have hne1 : ¬ ob = w.heap.size := by have := hs8.l2; omega
          have hne2 : ¬ w.heap.size = ob := by have := hs8.l2; omega
          simp at r0 r1 r2' r3 r4 c0 c1 c2 c3 c4
          clear hs8
          go_wp2
          have hf := (((((HS7.out.res.set 0 (.int .i64 (1)) (cs' := #[.int .i64 (1), .string ⟨#[]⟩, .string ⟨#[]⟩, .int .i64 0, .string ⟨#[]⟩]) rfl).set 1 (.string nm) (cs' := #[.int .i64 (1), .string nm, .string ⟨#[]⟩, .int .i64 0, .string ⟨#[]⟩]) rfl).set 2 (.string (⟨#[]⟩ : ByteArray)) (cs' := #[.int .i64 (1), .string nm, .string (⟨#[]⟩ : ByteArray), .int .i64 0, .string ⟨#[]⟩]) rfl).set 3 (.int .i64 ((1 + n6))) (cs' := #[.int .i64 (1), .string nm, .string (⟨#[]⟩ : ByteArray), .int .i64 ((1 + n6)), .string ⟨#[]⟩]) rfl).set 4 (.string (⟨#[]⟩ : ByteArray)) (cs' := #[.int .i64 (1), .string nm, .string ⟨#[]⟩, .int .i64 ((1 + n6)), .string ⟨#[]⟩]) rfl)
          have hgf := grown_new (grown_new (grown_new (grown_new (grown_new HS7.out.g HS7.out.l1 0 (.int .i64 (1))) HS7.out.l1 1 (.string nm)) HS7.out.l1 2 (.string (⟨#[]⟩ : ByteArray))) HS7.out.l1 3 (.int .i64 ((1 + n6)))) HS7.out.l1 4 (.string (⟨#[]⟩ : ByteArray))
          have hl4 := HS7.out.l3
          have hrf := (((((HS7.out.rd.set (b := w.heap.size) hl4 0 (.int .i64 (1))).set (b := w.heap.size) hl4 1 (.string nm)).set (b := w.heap.size) hl4 2 (.string (⟨#[]⟩ : ByteArray))).set (b := w.heap.size) hl4 3 (.int .i64 ((1 + n6)))).set (b := w.heap.size) hl4 4 (.string (⟨#[]⟩ : ByteArray)))
          refine bodyPost_ret (results_cell_row rfl _ _ w.heap.size 61 #[.int .i64 (1), .string nm, .string ⟨#[]⟩, .int .i64 ((1 + n6)), .string ⟨#[]⟩] (0, 0) _ rfl hf Try.underlying61 rfl (by kernel_rfl)) rfl ?_
          exact ⟨_, rfl, ⟨⟨1, nm, (⟨#[]⟩ : ByteArray), (1 + n6), (⟨#[]⟩ : ByteArray)⟩, rfl, ⟨by show ByteArray.size nm ≤ _; omega, by show ByteArray.size (⟨#[]⟩ : ByteArray) ≤ _; omega, by show ByteArray.size (⟨#[]⟩ : ByteArray) ≤ _; omega⟩, by show (-100 : Int) ≤ (1 + n6); omega, by show ((1 + n6) : Int) ≤ 100; omega, by show (0 : Int) ≤ 1; omega, by show (1 : Int) ≤ 100; omega⟩, hrf.more (by omega), hgf⟩
  by_cases hrz : r = 1
  · subst hrz
    have hs5 := HS5.out
    have c0 := hs5.op.cell 0
    have g0 := hs5.op.free 0
    have c1 := hs5.op.cell 1
    have g1 := hs5.op.free 1
    have c2 := hs5.op.cell 2
    have g2 := hs5.op.free 2
    have c3 := hs5.op.cell 3
    have g3 := hs5.op.free 3
    have c4 := hs5.op.cell 4
    have g4 := hs5.op.free 4
    have zo := hs5.op.lt
    have hne1 : ¬ ob = w.heap.size := by have := hs5.l2; omega
    have hne2 : ¬ w.heap.size = ob := by have := hs5.l2; omega
    simp at c0 c1 c2 c3 c4
    have HRD := Lib.hid hs5.rd
    clear hs5
    go_wp2
    have HP6 := Lib.hid (pick_c (w := w5.drew) (HRD.out.bel (Below.refl _ _).drew) (by omega) 6 (by omega))
    refine start_ (n := 7) (S := fun w' => w'.cell? ⟨ob, 1, none⟩ = some (.string nm)) (ds := [6]) #[false, false, false, false, false, false, false] (by kernel_rfl) rfl rfl (c1) (fun hHeld => ?_)
    refine pure_ (i := 0) (N := some 17) (v := ?_) (a' := ?_) #[true, false, false, false, false, false, false] rfl rfl (by kernel_rfl) (fun _ _ _ h => h) (Or.inl ⟨by rfl, ?_⟩) ?_ ?_
    rotate_left
    · intro w'
      go_simp
      with_reducible rfl
    rotate_left
    · simp only [Act.put, List.setIfInBounds_toArray, List.set_cons_zero, List.set_cons_succ, i64_w, i32_w]
      rfl
    refine pure_ (i := 2) (N := some 19) (v := ?_) (a' := ?_) #[true, false, true, false, false, false, false] rfl rfl (by kernel_rfl) (fun _ _ _ h => h) (Or.inl ⟨by rfl, ?_⟩) ?_ ?_
    rotate_left
    · intro w'
      go_simp
      with_reducible rfl
    rotate_left
    · simp only [Act.put, List.setIfInBounds_toArray, List.set_cons_zero, List.set_cons_succ, i64_w, i32_w]
      rfl
    refine take_ (i := 1) (N := some 18) (v := ?_) (a' := ?_) #[true, true, true, false, false, false, false] rfl rfl (by kernel_rfl) (fun _ _ _ h => h) (Or.inl ⟨by rfl, ?_⟩) hHeld ?_ ?_
    rotate_left
    · intro w' s0
      go_simp
      with_reducible rfl
    rotate_left
    · simp only [Act.put, List.setIfInBounds_toArray, List.set_cons_zero, List.set_cons_succ, i64_w, i32_w]
      rfl
    refine one_ (i := 3) (N := some 20) #[true, true, true, true, false, false, false] rfl rfl (by kernel_rfl) (by decide) (fun K hK => ?_)
    refine goes_ Try.func49 (by kernel_rfl) rfl #[.pointer (some ⟨rb, 0, none⟩), .int .i64 6] (by rfl) rfl rfl (by simp only [List.map_toArray, List.map_cons, List.map_nil]; rfl) ?_
    with_reducible refine (HP6.out).mono ?_
    rintro e w6 ⟨v, rfl, ⟨n6, rfl, hn60, hn61, -⟩, hR6, hg6⟩
    have hn62 := hn61 (by omega)
    have hs6 := OpSt.step (W := w5.drew) (HS5.out.bel (Below.refl _ _).drew) hR6 hg6
    have HS6 := Lib.hid hs6
    have c0 := hs6.op.cell 0
    have g0 := hs6.op.free 0
    have c1 := hs6.op.cell 1
    have g1 := hs6.op.free 1
    have c2 := hs6.op.cell 2
    have g2 := hs6.op.free 2
    have c3 := hs6.op.cell 3
    have g3 := hs6.op.free 3
    have c4 := hs6.op.cell 4
    have g4 := hs6.op.free 4
    have zo := hs6.op.lt
    have hne1 : ¬ ob = w.heap.size := by have := hs6.l2; omega
    have hne2 : ¬ w.heap.size = ob := by have := hs6.l2; omega
    simp at c0 c1 c2 c3 c4
    have hwn : wrap64 (1 + n6) = 1 + n6 := by unfold wrap64; omega
    clear hR6 hg6 hn61 hs6
    refine ⟨_, rfl, ?_⟩
    refine hK.out _ _ (c1) (fun hHeld => ?_)
    clear hK K
    refine norm_ (a' := ?_) ?_ ?_
    rotate_left
    · show Act.put _ (some 20) _ = _
      simp only [Act.put, List.setIfInBounds_toArray, List.set_cons_zero, List.set_cons_succ, i64_w, i32_w]
      rfl
    refine pure_ (i := 4) (N := some 21) (v := ?_) (a' := ?_) #[true, true, true, true, true, false, false] rfl rfl (by kernel_rfl) (fun _ _ _ h => h) (Or.inl ⟨by rfl, ?_⟩) ?_ ?_
    rotate_left
    · intro w'
      go_simp
      with_reducible rfl
    rotate_left
    · simp only [Act.put, List.setIfInBounds_toArray, List.set_cons_zero, List.set_cons_succ, i64_w, i32_w]
      rfl
    refine pure_ (i := 5) (N := some 22) (v := ?_) (a' := ?_) #[true, true, true, true, true, true, false] rfl rfl (by kernel_rfl) (fun _ _ _ h => h) (Or.inl ⟨by rfl, ?_⟩) ?_ ?_
    rotate_left
    · intro w'
      go_simp
      with_reducible rfl
    rotate_left
    · simp only [Act.put, List.setIfInBounds_toArray, List.set_cons_zero, List.set_cons_succ, i64_w, i32_w]
      rfl
    refine last_ (i := 6) (N := none) #[true, true, true, true, true, true, true] rfl rfl (by kernel_rfl) (by decide) (fun K hK => ?_)
    refine skip_ (w1 := ?_) (by rfl) rfl ?_ ?_
    rotate_left
    · go_simp
      rfl
    refine hK.out _ _ ?_
    clear hK K
    refine done_ (by kernel_rfl) ?_
    clear hHeld hwn
    have hs := (((((HS6.out.set 0 (.int .i64 (1)) (cs' := #[.int .i64 (1), .string nm, .string ⟨#[]⟩, .int .i64 n0, .string tx]) rfl).set 1 (.string nm) (cs' := #[.int .i64 (1), .string nm, .string ⟨#[]⟩, .int .i64 n0, .string tx]) rfl).set 2 (.string (⟨#[]⟩ : ByteArray)) (cs' := #[.int .i64 (1), .string nm, .string (⟨#[]⟩ : ByteArray), .int .i64 n0, .string tx]) rfl).set 3 (.int .i64 (1 + n6)) (cs' := #[.int .i64 (1), .string nm, .string (⟨#[]⟩ : ByteArray), .int .i64 (1 + n6), .string tx]) rfl).set 4 (.string (⟨#[]⟩ : ByteArray)) (cs' := #[.int .i64 (1), .string nm, .string (⟨#[]⟩ : ByteArray), .int .i64 (1 + n6), .string (⟨#[]⟩ : ByteArray)]) rfl)
    clear c0 c1 c2 c3 c4 g0 g1 g2 g3 g4
    generalize (((((w6.setCell ⟨ob, 0, none⟩ (.int .i64 (1))).setCell ⟨ob, 1, none⟩ (.string nm)).setCell ⟨ob, 2, none⟩ (.string (⟨#[]⟩ : ByteArray))).setCell ⟨ob, 3, none⟩ (.int .i64 (1 + n6))).setCell ⟨ob, 4, none⟩ (.string (⟨#[]⟩ : ByteArray))) = WW at hs ⊢
    have HSS := Lib.hid hs
    clear hs
    go_wp2_with fail
    refine (pick_c HSS.out.rd (by omega) 30 (by omega)).mono ?_
    rintro e w7 ⟨v, rfl, ⟨q, rfl, hq0, hq1, -⟩, hR7, hg7⟩
    have HS7 := Lib.hid (HSS.out.step hR7 hg7)
    have hq2 := hq1 (by omega)
    clear hR7 hg7 hq1
    by_cases hqa : q = 0
    · subst hqa
      go_wp2_with fail
      have hB : Blk (w7.alloc (.cells #[.string ⟨#[]⟩, .string ⟨#[69]⟩, .string ⟨#[65, 65]⟩] 9)) w7.heap.size (bad.map Value.string).toArray 9 := Blk.new w7 _ _
      have hne : w7.heap.size ≠ rb := by have := HS7.out.rd.lt; omega
      have hst8 := HS7.out.bel (bel_alloc (Below.refl _ _) (.cells #[.string ⟨#[]⟩, .string ⟨#[69]⟩, .string ⟨#[65, 65]⟩] 9))
      refine (of_c hst8.rd (by omega) hB hne (by decide) (by decide) 3 3 rfl (by omega)).mono ?_
      rintro e w8 ⟨v, rfl, ⟨nm2, rfl, hnm2⟩, hR8, hg8⟩
      have hnz2 := bad_size hnm2
      have hs8 := hst8.step hR8 hg8
      have HS9 := Lib.hid (hs8.set 1 (.string nm2) (cs' := #[.int .i64 1, .string nm2, .string ⟨#[]⟩, .int .i64 (1 + n6), .string ⟨#[]⟩]) rfl)
      have sf1 := hs8.op.free 1
      have r0 := hs8.res.cell 0
      have f0 := hs8.res.free 0
      have c0 := hs8.op.cell 0
      have r1 := hs8.res.cell 1
      have f1 := hs8.res.free 1
      have c1 := hs8.op.cell 1
      have r2' := hs8.res.cell 2
      have f2 := hs8.res.free 2
      have c2 := hs8.op.cell 2
      have r3 := hs8.res.cell 3
      have f3 := hs8.res.free 3
      have c3 := hs8.op.cell 3
      have r4 := hs8.res.cell 4
      have f4 := hs8.res.free 4
      have c4 := hs8.op.cell 4
      have zr := hs8.res.lt
      have zo := hs8.op.lt
      have hne1 : ¬ ob = w.heap.size := by have := hs8.l2; omega
      have hne2 : ¬ w.heap.size = ob := by have := hs8.l2; omega
      simp at r0 r1 r2' r3 r4 c0 c1 c2 c3 c4
      clear hB hne hst8 hnm2 hR8 hg8 hs8
      go_wp2
      have hf := (((((HS9.out.res.set 0 (.int .i64 (1)) (cs' := #[.int .i64 (1), .string ⟨#[]⟩, .string ⟨#[]⟩, .int .i64 0, .string ⟨#[]⟩]) rfl).set 1 (.string nm2) (cs' := #[.int .i64 (1), .string nm2, .string ⟨#[]⟩, .int .i64 0, .string ⟨#[]⟩]) rfl).set 2 (.string (⟨#[]⟩ : ByteArray)) (cs' := #[.int .i64 (1), .string nm2, .string (⟨#[]⟩ : ByteArray), .int .i64 0, .string ⟨#[]⟩]) rfl).set 3 (.int .i64 ((1 + n6))) (cs' := #[.int .i64 (1), .string nm2, .string (⟨#[]⟩ : ByteArray), .int .i64 ((1 + n6)), .string ⟨#[]⟩]) rfl).set 4 (.string (⟨#[]⟩ : ByteArray)) (cs' := #[.int .i64 (1), .string nm2, .string ⟨#[]⟩, .int .i64 ((1 + n6)), .string ⟨#[]⟩]) rfl)
      have hgf := grown_new (grown_new (grown_new (grown_new (grown_new HS9.out.g HS9.out.l1 0 (.int .i64 (1))) HS9.out.l1 1 (.string nm2)) HS9.out.l1 2 (.string (⟨#[]⟩ : ByteArray))) HS9.out.l1 3 (.int .i64 ((1 + n6)))) HS9.out.l1 4 (.string (⟨#[]⟩ : ByteArray))
      have hl4 := HS9.out.l3
      have hrf := (((((HS9.out.rd.set (b := w.heap.size) hl4 0 (.int .i64 (1))).set (b := w.heap.size) hl4 1 (.string nm2)).set (b := w.heap.size) hl4 2 (.string (⟨#[]⟩ : ByteArray))).set (b := w.heap.size) hl4 3 (.int .i64 ((1 + n6)))).set (b := w.heap.size) hl4 4 (.string (⟨#[]⟩ : ByteArray)))
      refine bodyPost_ret (results_cell_row rfl _ _ w.heap.size 61 #[.int .i64 (1), .string nm2, .string ⟨#[]⟩, .int .i64 ((1 + n6)), .string ⟨#[]⟩] (0, 0) _ rfl hf Try.underlying61 rfl (by kernel_rfl)) rfl ?_
      exact ⟨_, rfl, ⟨⟨1, nm2, (⟨#[]⟩ : ByteArray), (1 + n6), (⟨#[]⟩ : ByteArray)⟩, rfl, ⟨by show ByteArray.size nm2 ≤ _; omega, by show ByteArray.size (⟨#[]⟩ : ByteArray) ≤ _; omega, by show ByteArray.size (⟨#[]⟩ : ByteArray) ≤ _; omega⟩, by show (-100 : Int) ≤ (1 + n6); omega, by show ((1 + n6) : Int) ≤ 100; omega, by show (0 : Int) ≤ 1; omega, by show (1 : Int) ≤ 100; omega⟩, hrf.more (by omega), hgf⟩
    · by_cases hqb : q = 1
      · subst hqb
        go_wp2_with fail
        refine (pick_c HS7.out.rd (by omega) 9 (by omega)).mono ?_
        rintro e w8 ⟨v, rfl, ⟨n2, rfl, hn20, hn21, -⟩, hR8, hg8⟩
        have hn22 := hn21 (by omega)
        have hs8 := HS7.out.step hR8 hg8
        have HS9 := Lib.hid (hs8.set 3 (.int .i64 (n2 - 1)) (cs' := #[.int .i64 1, .string nm, .string ⟨#[]⟩, .int .i64 (n2 - 1), .string ⟨#[]⟩]) rfl)
        have sf3 := hs8.op.free 3
        have r0 := hs8.res.cell 0
        have f0 := hs8.res.free 0
        have c0 := hs8.op.cell 0
        have r1 := hs8.res.cell 1
        have f1 := hs8.res.free 1
        have c1 := hs8.op.cell 1
        have r2' := hs8.res.cell 2
        have f2 := hs8.res.free 2
        have c2 := hs8.op.cell 2
        have r3 := hs8.res.cell 3
        have f3 := hs8.res.free 3
        have c3 := hs8.op.cell 3
        have r4 := hs8.res.cell 4
        have f4 := hs8.res.free 4
        have c4 := hs8.op.cell 4
        have zr := hs8.res.lt
        have zo := hs8.op.lt
        have hne1 : ¬ ob = w.heap.size := by have := hs8.l2; omega
        have hne2 : ¬ w.heap.size = ob := by have := hs8.l2; omega
        simp at r0 r1 r2' r3 r4 c0 c1 c2 c3 c4
        clear hR8 hg8 hs8 hn21
        go_wp2
        have hf := (((((HS9.out.res.set 0 (.int .i64 (1)) (cs' := #[.int .i64 (1), .string ⟨#[]⟩, .string ⟨#[]⟩, .int .i64 0, .string ⟨#[]⟩]) rfl).set 1 (.string nm) (cs' := #[.int .i64 (1), .string nm, .string ⟨#[]⟩, .int .i64 0, .string ⟨#[]⟩]) rfl).set 2 (.string (⟨#[]⟩ : ByteArray)) (cs' := #[.int .i64 (1), .string nm, .string (⟨#[]⟩ : ByteArray), .int .i64 0, .string ⟨#[]⟩]) rfl).set 3 (.int .i64 (n2 - 1)) (cs' := #[.int .i64 (1), .string nm, .string (⟨#[]⟩ : ByteArray), .int .i64 (n2 - 1), .string ⟨#[]⟩]) rfl).set 4 (.string (⟨#[]⟩ : ByteArray)) (cs' := #[.int .i64 (1), .string nm, .string ⟨#[]⟩, .int .i64 (n2 - 1), .string ⟨#[]⟩]) rfl)
        have hgf := grown_new (grown_new (grown_new (grown_new (grown_new HS9.out.g HS9.out.l1 0 (.int .i64 (1))) HS9.out.l1 1 (.string nm)) HS9.out.l1 2 (.string (⟨#[]⟩ : ByteArray))) HS9.out.l1 3 (.int .i64 (n2 - 1))) HS9.out.l1 4 (.string (⟨#[]⟩ : ByteArray))
        have hl4 := HS9.out.l3
        have hrf := (((((HS9.out.rd.set (b := w.heap.size) hl4 0 (.int .i64 (1))).set (b := w.heap.size) hl4 1 (.string nm)).set (b := w.heap.size) hl4 2 (.string (⟨#[]⟩ : ByteArray))).set (b := w.heap.size) hl4 3 (.int .i64 (n2 - 1))).set (b := w.heap.size) hl4 4 (.string (⟨#[]⟩ : ByteArray)))
        refine bodyPost_ret (results_cell_row rfl _ _ w.heap.size 61 #[.int .i64 (1), .string nm, .string ⟨#[]⟩, .int .i64 (n2 - 1), .string ⟨#[]⟩] (0, 0) _ rfl hf Try.underlying61 rfl (by kernel_rfl)) rfl ?_
        exact ⟨_, rfl, ⟨⟨1, nm, (⟨#[]⟩ : ByteArray), n2 - 1, (⟨#[]⟩ : ByteArray)⟩, rfl, ⟨by show ByteArray.size nm ≤ _; omega, by show ByteArray.size (⟨#[]⟩ : ByteArray) ≤ _; omega, by show ByteArray.size (⟨#[]⟩ : ByteArray) ≤ _; omega⟩, by show (-100 : Int) ≤ n2 - 1; omega, by show (n2 - 1 : Int) ≤ 100; omega, by show (0 : Int) ≤ 1; omega, by show (1 : Int) ≤ 100; omega⟩, hrf.more (by omega), hgf⟩
      · by_cases hqc : q = 2
        · subst hqc
          go_wp2_with fail
          refine (pick_c HS7.out.rd (by omega) 6 (by omega)).mono ?_
          rintro e w8 ⟨v, rfl, ⟨kd2, rfl, hk20, hk21, -⟩, hR8, hg8⟩
          have hk22 := hk21 (by omega)
          have hs8 := HS7.out.step hR8 hg8
          have HS9 := Lib.hid (hs8.set 0 (.int .i64 kd2) (cs' := #[.int .i64 kd2, .string nm, .string ⟨#[]⟩, .int .i64 (1 + n6), .string ⟨#[]⟩]) rfl)
          have sf0 := hs8.op.free 0
          have r0 := hs8.res.cell 0
          have f0 := hs8.res.free 0
          have c0 := hs8.op.cell 0
          have r1 := hs8.res.cell 1
          have f1 := hs8.res.free 1
          have c1 := hs8.op.cell 1
          have r2' := hs8.res.cell 2
          have f2 := hs8.res.free 2
          have c2 := hs8.op.cell 2
          have r3 := hs8.res.cell 3
          have f3 := hs8.res.free 3
          have c3 := hs8.op.cell 3
          have r4 := hs8.res.cell 4
          have f4 := hs8.res.free 4
          have c4 := hs8.op.cell 4
          have zr := hs8.res.lt
          have zo := hs8.op.lt
          have hne1 : ¬ ob = w.heap.size := by have := hs8.l2; omega
          have hne2 : ¬ w.heap.size = ob := by have := hs8.l2; omega
          simp at r0 r1 r2' r3 r4 c0 c1 c2 c3 c4
          clear hR8 hg8 hs8 hk21
          go_wp2
          have hf := (((((HS9.out.res.set 0 (.int .i64 (kd2)) (cs' := #[.int .i64 (kd2), .string ⟨#[]⟩, .string ⟨#[]⟩, .int .i64 0, .string ⟨#[]⟩]) rfl).set 1 (.string nm) (cs' := #[.int .i64 (kd2), .string nm, .string ⟨#[]⟩, .int .i64 0, .string ⟨#[]⟩]) rfl).set 2 (.string (⟨#[]⟩ : ByteArray)) (cs' := #[.int .i64 (kd2), .string nm, .string (⟨#[]⟩ : ByteArray), .int .i64 0, .string ⟨#[]⟩]) rfl).set 3 (.int .i64 ((1 + n6))) (cs' := #[.int .i64 (kd2), .string nm, .string (⟨#[]⟩ : ByteArray), .int .i64 ((1 + n6)), .string ⟨#[]⟩]) rfl).set 4 (.string (⟨#[]⟩ : ByteArray)) (cs' := #[.int .i64 (kd2), .string nm, .string ⟨#[]⟩, .int .i64 ((1 + n6)), .string ⟨#[]⟩]) rfl)
          have hgf := grown_new (grown_new (grown_new (grown_new (grown_new HS9.out.g HS9.out.l1 0 (.int .i64 (kd2))) HS9.out.l1 1 (.string nm)) HS9.out.l1 2 (.string (⟨#[]⟩ : ByteArray))) HS9.out.l1 3 (.int .i64 ((1 + n6)))) HS9.out.l1 4 (.string (⟨#[]⟩ : ByteArray))
          have hl4 := HS9.out.l3
          have hrf := (((((HS9.out.rd.set (b := w.heap.size) hl4 0 (.int .i64 (kd2))).set (b := w.heap.size) hl4 1 (.string nm)).set (b := w.heap.size) hl4 2 (.string (⟨#[]⟩ : ByteArray))).set (b := w.heap.size) hl4 3 (.int .i64 ((1 + n6)))).set (b := w.heap.size) hl4 4 (.string (⟨#[]⟩ : ByteArray)))
          refine bodyPost_ret (results_cell_row rfl _ _ w.heap.size 61 #[.int .i64 (kd2), .string nm, .string ⟨#[]⟩, .int .i64 ((1 + n6)), .string ⟨#[]⟩] (0, 0) _ rfl hf Try.underlying61 rfl (by kernel_rfl)) rfl ?_
          exact ⟨_, rfl, ⟨⟨kd2, nm, (⟨#[]⟩ : ByteArray), (1 + n6), (⟨#[]⟩ : ByteArray)⟩, rfl, ⟨by show ByteArray.size nm ≤ _; omega, by show ByteArray.size (⟨#[]⟩ : ByteArray) ≤ _; omega, by show ByteArray.size (⟨#[]⟩ : ByteArray) ≤ _; omega⟩, by show (-100 : Int) ≤ (1 + n6); omega, by show ((1 + n6) : Int) ≤ 100; omega, by show (0 : Int) ≤ kd2; omega, by show (kd2 : Int) ≤ 100; omega⟩, hrf.more (by omega), hgf⟩
        · skip
          have hs8 := HS7.out
          have r0 := hs8.res.cell 0
          have f0 := hs8.res.free 0
          have c0 := hs8.op.cell 0
          have r1 := hs8.res.cell 1
          have f1 := hs8.res.free 1
          have c1 := hs8.op.cell 1
          have r2' := hs8.res.cell 2
          have f2 := hs8.res.free 2
          have c2 := hs8.op.cell 2
          have r3 := hs8.res.cell 3
          have f3 := hs8.res.free 3
          have c3 := hs8.op.cell 3
          have r4 := hs8.res.cell 4
          have f4 := hs8.res.free 4
          have c4 := hs8.op.cell 4
          have zr := hs8.res.lt
          have zo := hs8.op.lt
          have hne1 : ¬ ob = w.heap.size := by have := hs8.l2; omega
          have hne2 : ¬ w.heap.size = ob := by have := hs8.l2; omega
          simp at r0 r1 r2' r3 r4 c0 c1 c2 c3 c4
          clear hs8
          go_wp2
          have hf := (((((HS7.out.res.set 0 (.int .i64 (1)) (cs' := #[.int .i64 (1), .string ⟨#[]⟩, .string ⟨#[]⟩, .int .i64 0, .string ⟨#[]⟩]) rfl).set 1 (.string nm) (cs' := #[.int .i64 (1), .string nm, .string ⟨#[]⟩, .int .i64 0, .string ⟨#[]⟩]) rfl).set 2 (.string (⟨#[]⟩ : ByteArray)) (cs' := #[.int .i64 (1), .string nm, .string (⟨#[]⟩ : ByteArray), .int .i64 0, .string ⟨#[]⟩]) rfl).set 3 (.int .i64 ((1 + n6))) (cs' := #[.int .i64 (1), .string nm, .string (⟨#[]⟩ : ByteArray), .int .i64 ((1 + n6)), .string ⟨#[]⟩]) rfl).set 4 (.string (⟨#[]⟩ : ByteArray)) (cs' := #[.int .i64 (1), .string nm, .string ⟨#[]⟩, .int .i64 ((1 + n6)), .string ⟨#[]⟩]) rfl)
          have hgf := grown_new (grown_new (grown_new (grown_new (grown_new HS7.out.g HS7.out.l1 0 (.int .i64 (1))) HS7.out.l1 1 (.string nm)) HS7.out.l1 2 (.string (⟨#[]⟩ : ByteArray))) HS7.out.l1 3 (.int .i64 ((1 + n6)))) HS7.out.l1 4 (.string (⟨#[]⟩ : ByteArray))
          have hl4 := HS7.out.l3
          have hrf := (((((HS7.out.rd.set (b := w.heap.size) hl4 0 (.int .i64 (1))).set (b := w.heap.size) hl4 1 (.string nm)).set (b := w.heap.size) hl4 2 (.string (⟨#[]⟩ : ByteArray))).set (b := w.heap.size) hl4 3 (.int .i64 ((1 + n6)))).set (b := w.heap.size) hl4 4 (.string (⟨#[]⟩ : ByteArray)))
          refine bodyPost_ret (results_cell_row rfl _ _ w.heap.size 61 #[.int .i64 (1), .string nm, .string ⟨#[]⟩, .int .i64 ((1 + n6)), .string ⟨#[]⟩] (0, 0) _ rfl hf Try.underlying61 rfl (by kernel_rfl)) rfl ?_
          exact ⟨_, rfl, ⟨⟨1, nm, (⟨#[]⟩ : ByteArray), (1 + n6), (⟨#[]⟩ : ByteArray)⟩, rfl, ⟨by show ByteArray.size nm ≤ _; omega, by show ByteArray.size (⟨#[]⟩ : ByteArray) ≤ _; omega, by show ByteArray.size (⟨#[]⟩ : ByteArray) ≤ _; omega⟩, by show (-100 : Int) ≤ (1 + n6); omega, by show ((1 + n6) : Int) ≤ 100; omega, by show (0 : Int) ≤ 1; omega, by show (1 : Int) ≤ 100; omega⟩, hrf.more (by omega), hgf⟩
  by_cases hrb : r = 2
  · subst hrb
    have hs5 := HS5.out
    have c0 := hs5.op.cell 0
    have g0 := hs5.op.free 0
    have c1 := hs5.op.cell 1
    have g1 := hs5.op.free 1
    have c2 := hs5.op.cell 2
    have g2 := hs5.op.free 2
    have c3 := hs5.op.cell 3
    have g3 := hs5.op.free 3
    have c4 := hs5.op.cell 4
    have g4 := hs5.op.free 4
    have zo := hs5.op.lt
    have hne1 : ¬ ob = w.heap.size := by have := hs5.l2; omega
    have hne2 : ¬ w.heap.size = ob := by have := hs5.l2; omega
    simp at c0 c1 c2 c3 c4
    have HRD := Lib.hid hs5.rd
    clear hs5
    go_wp2
    have HP6 := Lib.hid (of_c (w := (w5.alloc (.cells #[.string ⟨#[65]⟩, .string ⟨#[66]⟩, .string ⟨#[67]⟩, .string ⟨#[68]⟩] 9)).drew) (xs := nms) (T := 9) (lb := w5.heap.size) (HRD.out.bel (bel_alloc (Below.refl _ _) _).drew) (by omega) ((Blk.new w5 _ _).bel (Below.refl _ _).drew) (by have := HRD.out.lt; omega) (by decide) (by decide) 4 4 rfl (by omega))
    refine start_ (n := 7) (S := fun w' => w'.cell? ⟨ob, 1, none⟩ = some (.string nm)) (ds := [6]) #[false, false, false, false, false, false, false] (by kernel_rfl) rfl rfl (c1) (fun hHeld => ?_)
    refine pure_ (i := 0) (N := some 25) (v := ?_) (a' := ?_) #[true, false, false, false, false, false, false] rfl rfl (by kernel_rfl) (fun _ _ _ h => h) (Or.inl ⟨by rfl, ?_⟩) ?_ ?_
    rotate_left
    · intro w'
      go_simp
      with_reducible rfl
    rotate_left
    · simp only [Act.put, List.setIfInBounds_toArray, List.set_cons_zero, List.set_cons_succ, i64_w, i32_w]
      rfl
    refine pure_ (i := 2) (N := some 27) (v := ?_) (a' := ?_) #[true, false, true, false, false, false, false] rfl rfl (by kernel_rfl) (fun _ _ _ h => h) (Or.inl ⟨by rfl, ?_⟩) ?_ ?_
    rotate_left
    · intro w'
      go_simp
      with_reducible rfl
    rotate_left
    · simp only [Act.put, List.setIfInBounds_toArray, List.set_cons_zero, List.set_cons_succ, i64_w, i32_w]
      rfl
    refine take_ (i := 1) (N := some 26) (v := ?_) (a' := ?_) #[true, true, true, false, false, false, false] rfl rfl (by kernel_rfl) (fun _ _ _ h => h) (Or.inl ⟨by rfl, ?_⟩) hHeld ?_ ?_
    rotate_left
    · intro w' s0
      go_simp
      with_reducible rfl
    rotate_left
    · simp only [Act.put, List.setIfInBounds_toArray, List.set_cons_zero, List.set_cons_succ, i64_w, i32_w]
      rfl
    refine one_ (i := 3) (N := some 28) #[true, true, true, true, false, false, false] rfl rfl (by kernel_rfl) (by decide) (fun K hK => ?_)
    refine value_ (w1 := ?_) (v := ?_) (by rfl) rfl ?_ ?_
    rotate_left 2
    · go_simp
      constructor
      · rfl
      · rfl
    have c1b := (HS5.out.bel (bel_alloc (Below.refl _ _) (.cells #[.string ⟨#[65]⟩, .string ⟨#[66]⟩, .string ⟨#[67]⟩, .string ⟨#[68]⟩] 9)).drew).op.cell 1
    simp at c1b
    refine hK.out _ _ (c1b) (fun hHeld => ?_)
    clear hK K
    refine norm_ (a' := ?_) ?_ ?_
    rotate_left
    · show Act.put _ (some 28) _ = _
      simp only [Act.put, List.setIfInBounds_toArray, List.set_cons_zero, List.set_cons_succ, i64_w, i32_w]
      rfl
    refine one_ (i := 4) (N := some 29) #[true, true, true, true, true, false, false] rfl rfl (by kernel_rfl) (by decide) (fun K hK => ?_)
    refine goes_ Try.func89 (by kernel_rfl) rfl #[.pointer (some ⟨rb, 0, none⟩), .slice (some ⟨w5.heap.size, 0, none⟩) 4 4] (by rfl) rfl rfl (by simp only [List.map_toArray, List.map_cons, List.map_nil]; rfl) ?_
    with_reducible refine (HP6.out).mono ?_
    rintro e w6 ⟨v, rfl, ⟨d6, rfl, hd6⟩, hR6, hg6⟩
    have hdz := nms_size hd6
    have hs6 := OpSt.step (HS5.out.bel (bel_alloc (Below.refl _ _) (.cells #[.string ⟨#[65]⟩, .string ⟨#[66]⟩, .string ⟨#[67]⟩, .string ⟨#[68]⟩] 9)).drew) hR6 hg6
    have HS6 := Lib.hid hs6
    have c0 := hs6.op.cell 0
    have g0 := hs6.op.free 0
    have c1 := hs6.op.cell 1
    have g1 := hs6.op.free 1
    have c2 := hs6.op.cell 2
    have g2 := hs6.op.free 2
    have c3 := hs6.op.cell 3
    have g3 := hs6.op.free 3
    have c4 := hs6.op.cell 4
    have g4 := hs6.op.free 4
    have zo := hs6.op.lt
    have hne1 : ¬ ob = w.heap.size := by have := hs6.l2; omega
    have hne2 : ¬ w.heap.size = ob := by have := hs6.l2; omega
    simp at c0 c1 c2 c3 c4
    clear hR6 hg6 hd6 hs6
    refine ⟨_, rfl, ?_⟩
    refine hK.out _ _ (c1) (fun hHeld => ?_)
    clear hK K
    refine norm_ (a' := ?_) ?_ ?_
    rotate_left
    · show Act.put _ (some 29) _ = _
      simp only [Act.put, List.setIfInBounds_toArray, List.set_cons_zero, List.set_cons_succ, i64_w, i32_w]
      rfl
    refine pure_ (i := 5) (N := some 30) (v := ?_) (a' := ?_) #[true, true, true, true, true, true, false] rfl rfl (by kernel_rfl) (fun _ _ _ h => h) (Or.inl ⟨by rfl, ?_⟩) ?_ ?_
    rotate_left
    · intro w'
      go_simp
      with_reducible rfl
    rotate_left
    · simp only [Act.put, List.setIfInBounds_toArray, List.set_cons_zero, List.set_cons_succ, i64_w, i32_w]
      rfl
    refine last_ (i := 6) (N := none) #[true, true, true, true, true, true, true] rfl rfl (by kernel_rfl) (by decide) (fun K hK => ?_)
    refine skip_ (w1 := ?_) (by rfl) rfl ?_ ?_
    rotate_left
    · go_simp
      rfl
    refine hK.out _ _ ?_
    clear hK K
    refine done_ (by kernel_rfl) ?_
    clear hHeld
    have hs := (((((HS6.out.set 0 (.int .i64 (3)) (cs' := #[.int .i64 (3), .string nm, .string ⟨#[]⟩, .int .i64 n0, .string tx]) rfl).set 1 (.string nm) (cs' := #[.int .i64 (3), .string nm, .string ⟨#[]⟩, .int .i64 n0, .string tx]) rfl).set 2 (.string d6) (cs' := #[.int .i64 (3), .string nm, .string d6, .int .i64 n0, .string tx]) rfl).set 3 (.int .i64 (0)) (cs' := #[.int .i64 (3), .string nm, .string d6, .int .i64 (0), .string tx]) rfl).set 4 (.string (⟨#[]⟩ : ByteArray)) (cs' := #[.int .i64 (3), .string nm, .string d6, .int .i64 (0), .string (⟨#[]⟩ : ByteArray)]) rfl)
    clear c0 c1 c2 c3 c4 g0 g1 g2 g3 g4
    generalize (((((w6.setCell ⟨ob, 0, none⟩ (.int .i64 (3))).setCell ⟨ob, 1, none⟩ (.string nm)).setCell ⟨ob, 2, none⟩ (.string d6)).setCell ⟨ob, 3, none⟩ (.int .i64 (0))).setCell ⟨ob, 4, none⟩ (.string (⟨#[]⟩ : ByteArray))) = WW at hs ⊢
    have HSS := Lib.hid hs
    clear hs
    go_wp2_with fail
    refine (pick_c HSS.out.rd (by omega) 30 (by omega)).mono ?_
    rintro e w7 ⟨v, rfl, ⟨q, rfl, hq0, hq1, -⟩, hR7, hg7⟩
    have HS7 := Lib.hid (HSS.out.step hR7 hg7)
    have hq2 := hq1 (by omega)
    clear hR7 hg7 hq1
    by_cases hqa : q = 0
    · subst hqa
      go_wp2_with fail
      have hB : Blk (w7.alloc (.cells #[.string ⟨#[]⟩, .string ⟨#[69]⟩, .string ⟨#[65, 65]⟩] 9)) w7.heap.size (bad.map Value.string).toArray 9 := Blk.new w7 _ _
      have hne : w7.heap.size ≠ rb := by have := HS7.out.rd.lt; omega
      have hst8 := HS7.out.bel (bel_alloc (Below.refl _ _) (.cells #[.string ⟨#[]⟩, .string ⟨#[69]⟩, .string ⟨#[65, 65]⟩] 9))
      refine (of_c hst8.rd (by omega) hB hne (by decide) (by decide) 3 3 rfl (by omega)).mono ?_
      rintro e w8 ⟨v, rfl, ⟨nm2, rfl, hnm2⟩, hR8, hg8⟩
      have hnz2 := bad_size hnm2
      have hs8 := hst8.step hR8 hg8
      have HS9 := Lib.hid (hs8.set 1 (.string nm2) (cs' := #[.int .i64 3, .string nm2, .string d6, .int .i64 0, .string ⟨#[]⟩]) rfl)
      have sf1 := hs8.op.free 1
      have r0 := hs8.res.cell 0
      have f0 := hs8.res.free 0
      have c0 := hs8.op.cell 0
      have r1 := hs8.res.cell 1
      have f1 := hs8.res.free 1
      have c1 := hs8.op.cell 1
      have r2' := hs8.res.cell 2
      have f2 := hs8.res.free 2
      have c2 := hs8.op.cell 2
      have r3 := hs8.res.cell 3
      have f3 := hs8.res.free 3
      have c3 := hs8.op.cell 3
      have r4 := hs8.res.cell 4
      have f4 := hs8.res.free 4
      have c4 := hs8.op.cell 4
      have zr := hs8.res.lt
      have zo := hs8.op.lt
      have hne1 : ¬ ob = w.heap.size := by have := hs8.l2; omega
      have hne2 : ¬ w.heap.size = ob := by have := hs8.l2; omega
      simp at r0 r1 r2' r3 r4 c0 c1 c2 c3 c4
      clear hB hne hst8 hnm2 hR8 hg8 hs8
      go_wp2
      have hf := (((((HS9.out.res.set 0 (.int .i64 (3)) (cs' := #[.int .i64 (3), .string ⟨#[]⟩, .string ⟨#[]⟩, .int .i64 0, .string ⟨#[]⟩]) rfl).set 1 (.string nm2) (cs' := #[.int .i64 (3), .string nm2, .string ⟨#[]⟩, .int .i64 0, .string ⟨#[]⟩]) rfl).set 2 (.string d6) (cs' := #[.int .i64 (3), .string nm2, .string d6, .int .i64 0, .string ⟨#[]⟩]) rfl).set 3 (.int .i64 (0)) (cs' := #[.int .i64 (3), .string nm2, .string d6, .int .i64 (0), .string ⟨#[]⟩]) rfl).set 4 (.string (⟨#[]⟩ : ByteArray)) (cs' := #[.int .i64 (3), .string nm2, .string d6, .int .i64 (0), .string ⟨#[]⟩]) rfl)
      have hgf := grown_new (grown_new (grown_new (grown_new (grown_new HS9.out.g HS9.out.l1 0 (.int .i64 (3))) HS9.out.l1 1 (.string nm2)) HS9.out.l1 2 (.string d6)) HS9.out.l1 3 (.int .i64 (0))) HS9.out.l1 4 (.string (⟨#[]⟩ : ByteArray))
      have hl4 := HS9.out.l3
      have hrf := (((((HS9.out.rd.set (b := w.heap.size) hl4 0 (.int .i64 (3))).set (b := w.heap.size) hl4 1 (.string nm2)).set (b := w.heap.size) hl4 2 (.string d6)).set (b := w.heap.size) hl4 3 (.int .i64 (0))).set (b := w.heap.size) hl4 4 (.string (⟨#[]⟩ : ByteArray)))
      refine bodyPost_ret (results_cell_row rfl _ _ w.heap.size 61 #[.int .i64 (3), .string nm2, .string d6, .int .i64 (0), .string ⟨#[]⟩] (0, 0) _ rfl hf Try.underlying61 rfl (by kernel_rfl)) rfl ?_
      exact ⟨_, rfl, ⟨⟨3, nm2, d6, 0, (⟨#[]⟩ : ByteArray)⟩, rfl, ⟨by show ByteArray.size nm2 ≤ _; omega, by show ByteArray.size d6 ≤ _; omega, by show ByteArray.size (⟨#[]⟩ : ByteArray) ≤ _; omega⟩, by show (-100 : Int) ≤ 0; omega, by show (0 : Int) ≤ 100; omega, by show (0 : Int) ≤ 3; omega, by show (3 : Int) ≤ 100; omega⟩, hrf.more (by omega), hgf⟩
    · by_cases hqb : q = 1
      · subst hqb
        go_wp2_with fail
        refine (pick_c HS7.out.rd (by omega) 9 (by omega)).mono ?_
        rintro e w8 ⟨v, rfl, ⟨n2, rfl, hn20, hn21, -⟩, hR8, hg8⟩
        have hn22 := hn21 (by omega)
        have hs8 := HS7.out.step hR8 hg8
        have HS9 := Lib.hid (hs8.set 3 (.int .i64 (n2 - 1)) (cs' := #[.int .i64 3, .string nm, .string d6, .int .i64 (n2 - 1), .string ⟨#[]⟩]) rfl)
        have sf3 := hs8.op.free 3
        have r0 := hs8.res.cell 0
        have f0 := hs8.res.free 0
        have c0 := hs8.op.cell 0
        have r1 := hs8.res.cell 1
        have f1 := hs8.res.free 1
        have c1 := hs8.op.cell 1
        have r2' := hs8.res.cell 2
        have f2 := hs8.res.free 2
        have c2 := hs8.op.cell 2
        have r3 := hs8.res.cell 3
        have f3 := hs8.res.free 3
        have c3 := hs8.op.cell 3
        have r4 := hs8.res.cell 4
        have f4 := hs8.res.free 4
        have c4 := hs8.op.cell 4
        have zr := hs8.res.lt
        have zo := hs8.op.lt
        have hne1 : ¬ ob = w.heap.size := by have := hs8.l2; omega
        have hne2 : ¬ w.heap.size = ob := by have := hs8.l2; omega
        simp at r0 r1 r2' r3 r4 c0 c1 c2 c3 c4
        clear hR8 hg8 hs8 hn21
        go_wp2
        have hf := (((((HS9.out.res.set 0 (.int .i64 (3)) (cs' := #[.int .i64 (3), .string ⟨#[]⟩, .string ⟨#[]⟩, .int .i64 0, .string ⟨#[]⟩]) rfl).set 1 (.string nm) (cs' := #[.int .i64 (3), .string nm, .string ⟨#[]⟩, .int .i64 0, .string ⟨#[]⟩]) rfl).set 2 (.string d6) (cs' := #[.int .i64 (3), .string nm, .string d6, .int .i64 0, .string ⟨#[]⟩]) rfl).set 3 (.int .i64 (n2 - 1)) (cs' := #[.int .i64 (3), .string nm, .string d6, .int .i64 (n2 - 1), .string ⟨#[]⟩]) rfl).set 4 (.string (⟨#[]⟩ : ByteArray)) (cs' := #[.int .i64 (3), .string nm, .string d6, .int .i64 (n2 - 1), .string ⟨#[]⟩]) rfl)
        have hgf := grown_new (grown_new (grown_new (grown_new (grown_new HS9.out.g HS9.out.l1 0 (.int .i64 (3))) HS9.out.l1 1 (.string nm)) HS9.out.l1 2 (.string d6)) HS9.out.l1 3 (.int .i64 (n2 - 1))) HS9.out.l1 4 (.string (⟨#[]⟩ : ByteArray))
        have hl4 := HS9.out.l3
        have hrf := (((((HS9.out.rd.set (b := w.heap.size) hl4 0 (.int .i64 (3))).set (b := w.heap.size) hl4 1 (.string nm)).set (b := w.heap.size) hl4 2 (.string d6)).set (b := w.heap.size) hl4 3 (.int .i64 (n2 - 1))).set (b := w.heap.size) hl4 4 (.string (⟨#[]⟩ : ByteArray)))
        refine bodyPost_ret (results_cell_row rfl _ _ w.heap.size 61 #[.int .i64 (3), .string nm, .string d6, .int .i64 (n2 - 1), .string ⟨#[]⟩] (0, 0) _ rfl hf Try.underlying61 rfl (by kernel_rfl)) rfl ?_
        exact ⟨_, rfl, ⟨⟨3, nm, d6, n2 - 1, (⟨#[]⟩ : ByteArray)⟩, rfl, ⟨by show ByteArray.size nm ≤ _; omega, by show ByteArray.size d6 ≤ _; omega, by show ByteArray.size (⟨#[]⟩ : ByteArray) ≤ _; omega⟩, by show (-100 : Int) ≤ n2 - 1; omega, by show (n2 - 1 : Int) ≤ 100; omega, by show (0 : Int) ≤ 3; omega, by show (3 : Int) ≤ 100; omega⟩, hrf.more (by omega), hgf⟩
      · by_cases hqc : q = 2
        · subst hqc
          go_wp2_with fail
          refine (pick_c HS7.out.rd (by omega) 6 (by omega)).mono ?_
          rintro e w8 ⟨v, rfl, ⟨kd2, rfl, hk20, hk21, -⟩, hR8, hg8⟩
          have hk22 := hk21 (by omega)
          have hs8 := HS7.out.step hR8 hg8
          have HS9 := Lib.hid (hs8.set 0 (.int .i64 kd2) (cs' := #[.int .i64 kd2, .string nm, .string d6, .int .i64 0, .string ⟨#[]⟩]) rfl)
          have sf0 := hs8.op.free 0
          have r0 := hs8.res.cell 0
          have f0 := hs8.res.free 0
          have c0 := hs8.op.cell 0
          have r1 := hs8.res.cell 1
          have f1 := hs8.res.free 1
          have c1 := hs8.op.cell 1
          have r2' := hs8.res.cell 2
          have f2 := hs8.res.free 2
          have c2 := hs8.op.cell 2
          have r3 := hs8.res.cell 3
          have f3 := hs8.res.free 3
          have c3 := hs8.op.cell 3
          have r4 := hs8.res.cell 4
          have f4 := hs8.res.free 4
          have c4 := hs8.op.cell 4
          have zr := hs8.res.lt
          have zo := hs8.op.lt
          have hne1 : ¬ ob = w.heap.size := by have := hs8.l2; omega
          have hne2 : ¬ w.heap.size = ob := by have := hs8.l2; omega
          simp at r0 r1 r2' r3 r4 c0 c1 c2 c3 c4
          clear hR8 hg8 hs8 hk21
          go_wp2
          have hf := (((((HS9.out.res.set 0 (.int .i64 (kd2)) (cs' := #[.int .i64 (kd2), .string ⟨#[]⟩, .string ⟨#[]⟩, .int .i64 0, .string ⟨#[]⟩]) rfl).set 1 (.string nm) (cs' := #[.int .i64 (kd2), .string nm, .string ⟨#[]⟩, .int .i64 0, .string ⟨#[]⟩]) rfl).set 2 (.string d6) (cs' := #[.int .i64 (kd2), .string nm, .string d6, .int .i64 0, .string ⟨#[]⟩]) rfl).set 3 (.int .i64 (0)) (cs' := #[.int .i64 (kd2), .string nm, .string d6, .int .i64 (0), .string ⟨#[]⟩]) rfl).set 4 (.string (⟨#[]⟩ : ByteArray)) (cs' := #[.int .i64 (kd2), .string nm, .string d6, .int .i64 (0), .string ⟨#[]⟩]) rfl)
          have hgf := grown_new (grown_new (grown_new (grown_new (grown_new HS9.out.g HS9.out.l1 0 (.int .i64 (kd2))) HS9.out.l1 1 (.string nm)) HS9.out.l1 2 (.string d6)) HS9.out.l1 3 (.int .i64 (0))) HS9.out.l1 4 (.string (⟨#[]⟩ : ByteArray))
          have hl4 := HS9.out.l3
          have hrf := (((((HS9.out.rd.set (b := w.heap.size) hl4 0 (.int .i64 (kd2))).set (b := w.heap.size) hl4 1 (.string nm)).set (b := w.heap.size) hl4 2 (.string d6)).set (b := w.heap.size) hl4 3 (.int .i64 (0))).set (b := w.heap.size) hl4 4 (.string (⟨#[]⟩ : ByteArray)))
          refine bodyPost_ret (results_cell_row rfl _ _ w.heap.size 61 #[.int .i64 (kd2), .string nm, .string d6, .int .i64 (0), .string ⟨#[]⟩] (0, 0) _ rfl hf Try.underlying61 rfl (by kernel_rfl)) rfl ?_
          exact ⟨_, rfl, ⟨⟨kd2, nm, d6, 0, (⟨#[]⟩ : ByteArray)⟩, rfl, ⟨by show ByteArray.size nm ≤ _; omega, by show ByteArray.size d6 ≤ _; omega, by show ByteArray.size (⟨#[]⟩ : ByteArray) ≤ _; omega⟩, by show (-100 : Int) ≤ 0; omega, by show (0 : Int) ≤ 100; omega, by show (0 : Int) ≤ kd2; omega, by show (kd2 : Int) ≤ 100; omega⟩, hrf.more (by omega), hgf⟩
        · skip
          have hs8 := HS7.out
          have r0 := hs8.res.cell 0
          have f0 := hs8.res.free 0
          have c0 := hs8.op.cell 0
          have r1 := hs8.res.cell 1
          have f1 := hs8.res.free 1
          have c1 := hs8.op.cell 1
          have r2' := hs8.res.cell 2
          have f2 := hs8.res.free 2
          have c2 := hs8.op.cell 2
          have r3 := hs8.res.cell 3
          have f3 := hs8.res.free 3
          have c3 := hs8.op.cell 3
          have r4 := hs8.res.cell 4
          have f4 := hs8.res.free 4
          have c4 := hs8.op.cell 4
          have zr := hs8.res.lt
          have zo := hs8.op.lt
          have hne1 : ¬ ob = w.heap.size := by have := hs8.l2; omega
          have hne2 : ¬ w.heap.size = ob := by have := hs8.l2; omega
          simp at r0 r1 r2' r3 r4 c0 c1 c2 c3 c4
          clear hs8
          go_wp2
          have hf := (((((HS7.out.res.set 0 (.int .i64 (3)) (cs' := #[.int .i64 (3), .string ⟨#[]⟩, .string ⟨#[]⟩, .int .i64 0, .string ⟨#[]⟩]) rfl).set 1 (.string nm) (cs' := #[.int .i64 (3), .string nm, .string ⟨#[]⟩, .int .i64 0, .string ⟨#[]⟩]) rfl).set 2 (.string d6) (cs' := #[.int .i64 (3), .string nm, .string d6, .int .i64 0, .string ⟨#[]⟩]) rfl).set 3 (.int .i64 (0)) (cs' := #[.int .i64 (3), .string nm, .string d6, .int .i64 (0), .string ⟨#[]⟩]) rfl).set 4 (.string (⟨#[]⟩ : ByteArray)) (cs' := #[.int .i64 (3), .string nm, .string d6, .int .i64 (0), .string ⟨#[]⟩]) rfl)
          have hgf := grown_new (grown_new (grown_new (grown_new (grown_new HS7.out.g HS7.out.l1 0 (.int .i64 (3))) HS7.out.l1 1 (.string nm)) HS7.out.l1 2 (.string d6)) HS7.out.l1 3 (.int .i64 (0))) HS7.out.l1 4 (.string (⟨#[]⟩ : ByteArray))
          have hl4 := HS7.out.l3
          have hrf := (((((HS7.out.rd.set (b := w.heap.size) hl4 0 (.int .i64 (3))).set (b := w.heap.size) hl4 1 (.string nm)).set (b := w.heap.size) hl4 2 (.string d6)).set (b := w.heap.size) hl4 3 (.int .i64 (0))).set (b := w.heap.size) hl4 4 (.string (⟨#[]⟩ : ByteArray)))
          refine bodyPost_ret (results_cell_row rfl _ _ w.heap.size 61 #[.int .i64 (3), .string nm, .string d6, .int .i64 (0), .string ⟨#[]⟩] (0, 0) _ rfl hf Try.underlying61 rfl (by kernel_rfl)) rfl ?_
          exact ⟨_, rfl, ⟨⟨3, nm, d6, 0, (⟨#[]⟩ : ByteArray)⟩, rfl, ⟨by show ByteArray.size nm ≤ _; omega, by show ByteArray.size d6 ≤ _; omega, by show ByteArray.size (⟨#[]⟩ : ByteArray) ≤ _; omega⟩, by show (-100 : Int) ≤ 0; omega, by show (0 : Int) ≤ 100; omega, by show (0 : Int) ≤ 3; omega, by show (3 : Int) ≤ 100; omega⟩, hrf.more (by omega), hgf⟩
  by_cases hrc : r = 3
  · subst hrc
    have hs5 := HS5.out
    have c0 := hs5.op.cell 0
    have g0 := hs5.op.free 0
    have c1 := hs5.op.cell 1
    have g1 := hs5.op.free 1
    have c2 := hs5.op.cell 2
    have g2 := hs5.op.free 2
    have c3 := hs5.op.cell 3
    have g3 := hs5.op.free 3
    have c4 := hs5.op.cell 4
    have g4 := hs5.op.free 4
    have zo := hs5.op.lt
    have hne1 : ¬ ob = w.heap.size := by have := hs5.l2; omega
    have hne2 : ¬ w.heap.size = ob := by have := hs5.l2; omega
    simp at c0 c1 c2 c3 c4
    clear hs5
    have hs := (((((HS5.out.set 0 (.int .i64 (4)) (cs' := #[.int .i64 (4), .string nm, .string ⟨#[]⟩, .int .i64 n0, .string tx]) rfl).set 1 (.string nm) (cs' := #[.int .i64 (4), .string nm, .string ⟨#[]⟩, .int .i64 n0, .string tx]) rfl).set 2 (.string (⟨#[]⟩ : ByteArray)) (cs' := #[.int .i64 (4), .string nm, .string (⟨#[]⟩ : ByteArray), .int .i64 n0, .string tx]) rfl).set 3 (.int .i64 (0)) (cs' := #[.int .i64 (4), .string nm, .string (⟨#[]⟩ : ByteArray), .int .i64 (0), .string tx]) rfl).set 4 (.string (⟨#[]⟩ : ByteArray)) (cs' := #[.int .i64 (4), .string nm, .string (⟨#[]⟩ : ByteArray), .int .i64 (0), .string (⟨#[]⟩ : ByteArray)]) rfl)
    go_wp2_with fail
    generalize (((((w5.setCell ⟨ob, 0, none⟩ (.int .i64 (4))).setCell ⟨ob, 1, none⟩ (.string nm)).setCell ⟨ob, 2, none⟩ (.string (⟨#[]⟩ : ByteArray))).setCell ⟨ob, 3, none⟩ (.int .i64 (0))).setCell ⟨ob, 4, none⟩ (.string (⟨#[]⟩ : ByteArray))) = WW at hs ⊢
    have HSS := Lib.hid hs
    clear hs c0 c1 c2 c3 c4 g0 g1 g2 g3 g4

    refine (pick_c HSS.out.rd (by omega) 30 (by omega)).mono ?_
    rintro e w7 ⟨v, rfl, ⟨q, rfl, hq0, hq1, -⟩, hR7, hg7⟩
    have HS7 := Lib.hid (HSS.out.step hR7 hg7)
    have hq2 := hq1 (by omega)
    clear hR7 hg7 hq1
    by_cases hqa : q = 0
    · subst hqa
      go_wp2_with fail
      have hB : Blk (w7.alloc (.cells #[.string ⟨#[]⟩, .string ⟨#[69]⟩, .string ⟨#[65, 65]⟩] 9)) w7.heap.size (bad.map Value.string).toArray 9 := Blk.new w7 _ _
      have hne : w7.heap.size ≠ rb := by have := HS7.out.rd.lt; omega
      have hst8 := HS7.out.bel (bel_alloc (Below.refl _ _) (.cells #[.string ⟨#[]⟩, .string ⟨#[69]⟩, .string ⟨#[65, 65]⟩] 9))
      refine (of_c hst8.rd (by omega) hB hne (by decide) (by decide) 3 3 rfl (by omega)).mono ?_
      rintro e w8 ⟨v, rfl, ⟨nm2, rfl, hnm2⟩, hR8, hg8⟩
      have hnz2 := bad_size hnm2
      have hs8 := hst8.step hR8 hg8
      have HS9 := Lib.hid (hs8.set 1 (.string nm2) (cs' := #[.int .i64 4, .string nm2, .string ⟨#[]⟩, .int .i64 0, .string ⟨#[]⟩]) rfl)
      have sf1 := hs8.op.free 1
      have r0 := hs8.res.cell 0
      have f0 := hs8.res.free 0
      have c0 := hs8.op.cell 0
      have r1 := hs8.res.cell 1
      have f1 := hs8.res.free 1
      have c1 := hs8.op.cell 1
      have r2' := hs8.res.cell 2
      have f2 := hs8.res.free 2
      have c2 := hs8.op.cell 2
      have r3 := hs8.res.cell 3
      have f3 := hs8.res.free 3
      have c3 := hs8.op.cell 3
      have r4 := hs8.res.cell 4
      have f4 := hs8.res.free 4
      have c4 := hs8.op.cell 4
      have zr := hs8.res.lt
      have zo := hs8.op.lt
      have hne1 : ¬ ob = w.heap.size := by have := hs8.l2; omega
      have hne2 : ¬ w.heap.size = ob := by have := hs8.l2; omega
      simp at r0 r1 r2' r3 r4 c0 c1 c2 c3 c4
      clear hB hne hst8 hnm2 hR8 hg8 hs8
      go_wp2
      have hf := (((((HS9.out.res.set 0 (.int .i64 (4)) (cs' := #[.int .i64 (4), .string ⟨#[]⟩, .string ⟨#[]⟩, .int .i64 0, .string ⟨#[]⟩]) rfl).set 1 (.string nm2) (cs' := #[.int .i64 (4), .string nm2, .string ⟨#[]⟩, .int .i64 0, .string ⟨#[]⟩]) rfl).set 2 (.string (⟨#[]⟩ : ByteArray)) (cs' := #[.int .i64 (4), .string nm2, .string (⟨#[]⟩ : ByteArray), .int .i64 0, .string ⟨#[]⟩]) rfl).set 3 (.int .i64 (0)) (cs' := #[.int .i64 (4), .string nm2, .string (⟨#[]⟩ : ByteArray), .int .i64 (0), .string ⟨#[]⟩]) rfl).set 4 (.string (⟨#[]⟩ : ByteArray)) (cs' := #[.int .i64 (4), .string nm2, .string ⟨#[]⟩, .int .i64 (0), .string ⟨#[]⟩]) rfl)
      have hgf := grown_new (grown_new (grown_new (grown_new (grown_new HS9.out.g HS9.out.l1 0 (.int .i64 (4))) HS9.out.l1 1 (.string nm2)) HS9.out.l1 2 (.string (⟨#[]⟩ : ByteArray))) HS9.out.l1 3 (.int .i64 (0))) HS9.out.l1 4 (.string (⟨#[]⟩ : ByteArray))
      have hl4 := HS9.out.l3
      have hrf := (((((HS9.out.rd.set (b := w.heap.size) hl4 0 (.int .i64 (4))).set (b := w.heap.size) hl4 1 (.string nm2)).set (b := w.heap.size) hl4 2 (.string (⟨#[]⟩ : ByteArray))).set (b := w.heap.size) hl4 3 (.int .i64 (0))).set (b := w.heap.size) hl4 4 (.string (⟨#[]⟩ : ByteArray)))
      refine bodyPost_ret (results_cell_row rfl _ _ w.heap.size 61 #[.int .i64 (4), .string nm2, .string ⟨#[]⟩, .int .i64 (0), .string ⟨#[]⟩] (0, 0) _ rfl hf Try.underlying61 rfl (by kernel_rfl)) rfl ?_
      exact ⟨_, rfl, ⟨⟨4, nm2, (⟨#[]⟩ : ByteArray), 0, (⟨#[]⟩ : ByteArray)⟩, rfl, ⟨by show ByteArray.size nm2 ≤ _; omega, by show ByteArray.size (⟨#[]⟩ : ByteArray) ≤ _; omega, by show ByteArray.size (⟨#[]⟩ : ByteArray) ≤ _; omega⟩, by show (-100 : Int) ≤ 0; omega, by show (0 : Int) ≤ 100; omega, by show (0 : Int) ≤ 4; omega, by show (4 : Int) ≤ 100; omega⟩, hrf.more (by omega), hgf⟩
    · by_cases hqb : q = 1
      · subst hqb
        go_wp2_with fail
        refine (pick_c HS7.out.rd (by omega) 9 (by omega)).mono ?_
        rintro e w8 ⟨v, rfl, ⟨n2, rfl, hn20, hn21, -⟩, hR8, hg8⟩
        have hn22 := hn21 (by omega)
        have hs8 := HS7.out.step hR8 hg8
        have HS9 := Lib.hid (hs8.set 3 (.int .i64 (n2 - 1)) (cs' := #[.int .i64 4, .string nm, .string ⟨#[]⟩, .int .i64 (n2 - 1), .string ⟨#[]⟩]) rfl)
        have sf3 := hs8.op.free 3
        have r0 := hs8.res.cell 0
        have f0 := hs8.res.free 0
        have c0 := hs8.op.cell 0
        have r1 := hs8.res.cell 1
        have f1 := hs8.res.free 1
        have c1 := hs8.op.cell 1
        have r2' := hs8.res.cell 2
        have f2 := hs8.res.free 2
        have c2 := hs8.op.cell 2
        have r3 := hs8.res.cell 3
        have f3 := hs8.res.free 3
        have c3 := hs8.op.cell 3
        have r4 := hs8.res.cell 4
        have f4 := hs8.res.free 4
        have c4 := hs8.op.cell 4
        have zr := hs8.res.lt
        have zo := hs8.op.lt
        have hne1 : ¬ ob = w.heap.size := by have := hs8.l2; omega
        have hne2 : ¬ w.heap.size = ob := by have := hs8.l2; omega
        simp at r0 r1 r2' r3 r4 c0 c1 c2 c3 c4
        clear hR8 hg8 hs8 hn21
        go_wp2
        have hf := (((((HS9.out.res.set 0 (.int .i64 (4)) (cs' := #[.int .i64 (4), .string ⟨#[]⟩, .string ⟨#[]⟩, .int .i64 0, .string ⟨#[]⟩]) rfl).set 1 (.string nm) (cs' := #[.int .i64 (4), .string nm, .string ⟨#[]⟩, .int .i64 0, .string ⟨#[]⟩]) rfl).set 2 (.string (⟨#[]⟩ : ByteArray)) (cs' := #[.int .i64 (4), .string nm, .string (⟨#[]⟩ : ByteArray), .int .i64 0, .string ⟨#[]⟩]) rfl).set 3 (.int .i64 (n2 - 1)) (cs' := #[.int .i64 (4), .string nm, .string (⟨#[]⟩ : ByteArray), .int .i64 (n2 - 1), .string ⟨#[]⟩]) rfl).set 4 (.string (⟨#[]⟩ : ByteArray)) (cs' := #[.int .i64 (4), .string nm, .string ⟨#[]⟩, .int .i64 (n2 - 1), .string ⟨#[]⟩]) rfl)
        have hgf := grown_new (grown_new (grown_new (grown_new (grown_new HS9.out.g HS9.out.l1 0 (.int .i64 (4))) HS9.out.l1 1 (.string nm)) HS9.out.l1 2 (.string (⟨#[]⟩ : ByteArray))) HS9.out.l1 3 (.int .i64 (n2 - 1))) HS9.out.l1 4 (.string (⟨#[]⟩ : ByteArray))
        have hl4 := HS9.out.l3
        have hrf := (((((HS9.out.rd.set (b := w.heap.size) hl4 0 (.int .i64 (4))).set (b := w.heap.size) hl4 1 (.string nm)).set (b := w.heap.size) hl4 2 (.string (⟨#[]⟩ : ByteArray))).set (b := w.heap.size) hl4 3 (.int .i64 (n2 - 1))).set (b := w.heap.size) hl4 4 (.string (⟨#[]⟩ : ByteArray)))
        refine bodyPost_ret (results_cell_row rfl _ _ w.heap.size 61 #[.int .i64 (4), .string nm, .string ⟨#[]⟩, .int .i64 (n2 - 1), .string ⟨#[]⟩] (0, 0) _ rfl hf Try.underlying61 rfl (by kernel_rfl)) rfl ?_
        exact ⟨_, rfl, ⟨⟨4, nm, (⟨#[]⟩ : ByteArray), n2 - 1, (⟨#[]⟩ : ByteArray)⟩, rfl, ⟨by show ByteArray.size nm ≤ _; omega, by show ByteArray.size (⟨#[]⟩ : ByteArray) ≤ _; omega, by show ByteArray.size (⟨#[]⟩ : ByteArray) ≤ _; omega⟩, by show (-100 : Int) ≤ n2 - 1; omega, by show (n2 - 1 : Int) ≤ 100; omega, by show (0 : Int) ≤ 4; omega, by show (4 : Int) ≤ 100; omega⟩, hrf.more (by omega), hgf⟩
      · by_cases hqc : q = 2
        · subst hqc
          go_wp2_with fail
          refine (pick_c HS7.out.rd (by omega) 6 (by omega)).mono ?_
          rintro e w8 ⟨v, rfl, ⟨kd2, rfl, hk20, hk21, -⟩, hR8, hg8⟩
          have hk22 := hk21 (by omega)
          have hs8 := HS7.out.step hR8 hg8
          have HS9 := Lib.hid (hs8.set 0 (.int .i64 kd2) (cs' := #[.int .i64 kd2, .string nm, .string ⟨#[]⟩, .int .i64 0, .string ⟨#[]⟩]) rfl)
          have sf0 := hs8.op.free 0
          have r0 := hs8.res.cell 0
          have f0 := hs8.res.free 0
          have c0 := hs8.op.cell 0
          have r1 := hs8.res.cell 1
          have f1 := hs8.res.free 1
          have c1 := hs8.op.cell 1
          have r2' := hs8.res.cell 2
          have f2 := hs8.res.free 2
          have c2 := hs8.op.cell 2
          have r3 := hs8.res.cell 3
          have f3 := hs8.res.free 3
          have c3 := hs8.op.cell 3
          have r4 := hs8.res.cell 4
          have f4 := hs8.res.free 4
          have c4 := hs8.op.cell 4
          have zr := hs8.res.lt
          have zo := hs8.op.lt
          have hne1 : ¬ ob = w.heap.size := by have := hs8.l2; omega
          have hne2 : ¬ w.heap.size = ob := by have := hs8.l2; omega
          simp at r0 r1 r2' r3 r4 c0 c1 c2 c3 c4
          clear hR8 hg8 hs8 hk21
          go_wp2
          have hf := (((((HS9.out.res.set 0 (.int .i64 (kd2)) (cs' := #[.int .i64 (kd2), .string ⟨#[]⟩, .string ⟨#[]⟩, .int .i64 0, .string ⟨#[]⟩]) rfl).set 1 (.string nm) (cs' := #[.int .i64 (kd2), .string nm, .string ⟨#[]⟩, .int .i64 0, .string ⟨#[]⟩]) rfl).set 2 (.string (⟨#[]⟩ : ByteArray)) (cs' := #[.int .i64 (kd2), .string nm, .string (⟨#[]⟩ : ByteArray), .int .i64 0, .string ⟨#[]⟩]) rfl).set 3 (.int .i64 (0)) (cs' := #[.int .i64 (kd2), .string nm, .string (⟨#[]⟩ : ByteArray), .int .i64 (0), .string ⟨#[]⟩]) rfl).set 4 (.string (⟨#[]⟩ : ByteArray)) (cs' := #[.int .i64 (kd2), .string nm, .string ⟨#[]⟩, .int .i64 (0), .string ⟨#[]⟩]) rfl)
          have hgf := grown_new (grown_new (grown_new (grown_new (grown_new HS9.out.g HS9.out.l1 0 (.int .i64 (kd2))) HS9.out.l1 1 (.string nm)) HS9.out.l1 2 (.string (⟨#[]⟩ : ByteArray))) HS9.out.l1 3 (.int .i64 (0))) HS9.out.l1 4 (.string (⟨#[]⟩ : ByteArray))
          have hl4 := HS9.out.l3
          have hrf := (((((HS9.out.rd.set (b := w.heap.size) hl4 0 (.int .i64 (kd2))).set (b := w.heap.size) hl4 1 (.string nm)).set (b := w.heap.size) hl4 2 (.string (⟨#[]⟩ : ByteArray))).set (b := w.heap.size) hl4 3 (.int .i64 (0))).set (b := w.heap.size) hl4 4 (.string (⟨#[]⟩ : ByteArray)))
          refine bodyPost_ret (results_cell_row rfl _ _ w.heap.size 61 #[.int .i64 (kd2), .string nm, .string ⟨#[]⟩, .int .i64 (0), .string ⟨#[]⟩] (0, 0) _ rfl hf Try.underlying61 rfl (by kernel_rfl)) rfl ?_
          exact ⟨_, rfl, ⟨⟨kd2, nm, (⟨#[]⟩ : ByteArray), 0, (⟨#[]⟩ : ByteArray)⟩, rfl, ⟨by show ByteArray.size nm ≤ _; omega, by show ByteArray.size (⟨#[]⟩ : ByteArray) ≤ _; omega, by show ByteArray.size (⟨#[]⟩ : ByteArray) ≤ _; omega⟩, by show (-100 : Int) ≤ 0; omega, by show (0 : Int) ≤ 100; omega, by show (0 : Int) ≤ kd2; omega, by show (kd2 : Int) ≤ 100; omega⟩, hrf.more (by omega), hgf⟩
        · skip
          have hs8 := HS7.out
          have r0 := hs8.res.cell 0
          have f0 := hs8.res.free 0
          have c0 := hs8.op.cell 0
          have r1 := hs8.res.cell 1
          have f1 := hs8.res.free 1
          have c1 := hs8.op.cell 1
          have r2' := hs8.res.cell 2
          have f2 := hs8.res.free 2
          have c2 := hs8.op.cell 2
          have r3 := hs8.res.cell 3
          have f3 := hs8.res.free 3
          have c3 := hs8.op.cell 3
          have r4 := hs8.res.cell 4
          have f4 := hs8.res.free 4
          have c4 := hs8.op.cell 4
          have zr := hs8.res.lt
          have zo := hs8.op.lt
          have hne1 : ¬ ob = w.heap.size := by have := hs8.l2; omega
          have hne2 : ¬ w.heap.size = ob := by have := hs8.l2; omega
          simp at r0 r1 r2' r3 r4 c0 c1 c2 c3 c4
          clear hs8
          go_wp2
          have hf := (((((HS7.out.res.set 0 (.int .i64 (4)) (cs' := #[.int .i64 (4), .string ⟨#[]⟩, .string ⟨#[]⟩, .int .i64 0, .string ⟨#[]⟩]) rfl).set 1 (.string nm) (cs' := #[.int .i64 (4), .string nm, .string ⟨#[]⟩, .int .i64 0, .string ⟨#[]⟩]) rfl).set 2 (.string (⟨#[]⟩ : ByteArray)) (cs' := #[.int .i64 (4), .string nm, .string (⟨#[]⟩ : ByteArray), .int .i64 0, .string ⟨#[]⟩]) rfl).set 3 (.int .i64 (0)) (cs' := #[.int .i64 (4), .string nm, .string (⟨#[]⟩ : ByteArray), .int .i64 (0), .string ⟨#[]⟩]) rfl).set 4 (.string (⟨#[]⟩ : ByteArray)) (cs' := #[.int .i64 (4), .string nm, .string ⟨#[]⟩, .int .i64 (0), .string ⟨#[]⟩]) rfl)
          have hgf := grown_new (grown_new (grown_new (grown_new (grown_new HS7.out.g HS7.out.l1 0 (.int .i64 (4))) HS7.out.l1 1 (.string nm)) HS7.out.l1 2 (.string (⟨#[]⟩ : ByteArray))) HS7.out.l1 3 (.int .i64 (0))) HS7.out.l1 4 (.string (⟨#[]⟩ : ByteArray))
          have hl4 := HS7.out.l3
          have hrf := (((((HS7.out.rd.set (b := w.heap.size) hl4 0 (.int .i64 (4))).set (b := w.heap.size) hl4 1 (.string nm)).set (b := w.heap.size) hl4 2 (.string (⟨#[]⟩ : ByteArray))).set (b := w.heap.size) hl4 3 (.int .i64 (0))).set (b := w.heap.size) hl4 4 (.string (⟨#[]⟩ : ByteArray)))
          refine bodyPost_ret (results_cell_row rfl _ _ w.heap.size 61 #[.int .i64 (4), .string nm, .string ⟨#[]⟩, .int .i64 (0), .string ⟨#[]⟩] (0, 0) _ rfl hf Try.underlying61 rfl (by kernel_rfl)) rfl ?_
          exact ⟨_, rfl, ⟨⟨4, nm, (⟨#[]⟩ : ByteArray), 0, (⟨#[]⟩ : ByteArray)⟩, rfl, ⟨by show ByteArray.size nm ≤ _; omega, by show ByteArray.size (⟨#[]⟩ : ByteArray) ≤ _; omega, by show ByteArray.size (⟨#[]⟩ : ByteArray) ≤ _; omega⟩, by show (-100 : Int) ≤ 0; omega, by show (0 : Int) ≤ 100; omega, by show (0 : Int) ≤ 4; omega, by show (4 : Int) ≤ 100; omega⟩, hrf.more (by omega), hgf⟩
  go_wp2_with fail
  refine (pick_c HS5.out.rd (by omega) 30 (by omega)).mono ?_
  rintro e w7 ⟨v, rfl, ⟨q, rfl, hq0, hq1, -⟩, hR7, hg7⟩
  have HS7 := Lib.hid (HS5.out.step hR7 hg7)
  have hq2 := hq1 (by omega)
  clear hR7 hg7 hq1
  by_cases hqa : q = 0
  · subst hqa
    go_wp2_with fail
    have hB : Blk (w7.alloc (.cells #[.string ⟨#[]⟩, .string ⟨#[69]⟩, .string ⟨#[65, 65]⟩] 9)) w7.heap.size (bad.map Value.string).toArray 9 := Blk.new w7 _ _
    have hne : w7.heap.size ≠ rb := by have := HS7.out.rd.lt; omega
    have hst8 := HS7.out.bel (bel_alloc (Below.refl _ _) (.cells #[.string ⟨#[]⟩, .string ⟨#[69]⟩, .string ⟨#[65, 65]⟩] 9))
    refine (of_c hst8.rd (by omega) hB hne (by decide) (by decide) 3 3 rfl (by omega)).mono ?_
    rintro e w8 ⟨v, rfl, ⟨nm2, rfl, hnm2⟩, hR8, hg8⟩
    have hnz2 := bad_size hnm2
    have hs8 := hst8.step hR8 hg8
    have HS9 := Lib.hid (hs8.set 1 (.string nm2) (cs' := #[.int .i64 2, .string nm2, .string ⟨#[]⟩, .int .i64 n0, .string tx]) rfl)
    have sf1 := hs8.op.free 1
    have r0 := hs8.res.cell 0
    have f0 := hs8.res.free 0
    have c0 := hs8.op.cell 0
    have r1 := hs8.res.cell 1
    have f1 := hs8.res.free 1
    have c1 := hs8.op.cell 1
    have r2' := hs8.res.cell 2
    have f2 := hs8.res.free 2
    have c2 := hs8.op.cell 2
    have r3 := hs8.res.cell 3
    have f3 := hs8.res.free 3
    have c3 := hs8.op.cell 3
    have r4 := hs8.res.cell 4
    have f4 := hs8.res.free 4
    have c4 := hs8.op.cell 4
    have zr := hs8.res.lt
    have zo := hs8.op.lt
    have hne1 : ¬ ob = w.heap.size := by have := hs8.l2; omega
    have hne2 : ¬ w.heap.size = ob := by have := hs8.l2; omega
    simp at r0 r1 r2' r3 r4 c0 c1 c2 c3 c4
    clear hB hne hst8 hnm2 hR8 hg8 hs8
    go_wp2
    have hf := (((((HS9.out.res.set 0 (.int .i64 (2)) (cs' := #[.int .i64 (2), .string ⟨#[]⟩, .string ⟨#[]⟩, .int .i64 0, .string ⟨#[]⟩]) rfl).set 1 (.string nm2) (cs' := #[.int .i64 (2), .string nm2, .string ⟨#[]⟩, .int .i64 0, .string ⟨#[]⟩]) rfl).set 2 (.string (⟨#[]⟩ : ByteArray)) (cs' := #[.int .i64 (2), .string nm2, .string (⟨#[]⟩ : ByteArray), .int .i64 0, .string ⟨#[]⟩]) rfl).set 3 (.int .i64 (n0)) (cs' := #[.int .i64 (2), .string nm2, .string (⟨#[]⟩ : ByteArray), .int .i64 (n0), .string ⟨#[]⟩]) rfl).set 4 (.string tx) (cs' := #[.int .i64 (2), .string nm2, .string ⟨#[]⟩, .int .i64 (n0), .string tx]) rfl)
    have hgf := grown_new (grown_new (grown_new (grown_new (grown_new HS9.out.g HS9.out.l1 0 (.int .i64 (2))) HS9.out.l1 1 (.string nm2)) HS9.out.l1 2 (.string (⟨#[]⟩ : ByteArray))) HS9.out.l1 3 (.int .i64 (n0))) HS9.out.l1 4 (.string tx)
    have hl4 := HS9.out.l3
    have hrf := (((((HS9.out.rd.set (b := w.heap.size) hl4 0 (.int .i64 (2))).set (b := w.heap.size) hl4 1 (.string nm2)).set (b := w.heap.size) hl4 2 (.string (⟨#[]⟩ : ByteArray))).set (b := w.heap.size) hl4 3 (.int .i64 (n0))).set (b := w.heap.size) hl4 4 (.string tx))
    refine bodyPost_ret (results_cell_row rfl _ _ w.heap.size 61 #[.int .i64 (2), .string nm2, .string ⟨#[]⟩, .int .i64 (n0), .string tx] (0, 0) _ rfl hf Try.underlying61 rfl (by kernel_rfl)) rfl ?_
    exact ⟨_, rfl, ⟨⟨2, nm2, (⟨#[]⟩ : ByteArray), n0, tx⟩, rfl, ⟨by show ByteArray.size nm2 ≤ _; omega, by show ByteArray.size (⟨#[]⟩ : ByteArray) ≤ _; omega, by show ByteArray.size tx ≤ _; omega⟩, by show (-100 : Int) ≤ n0; omega, by show (n0 : Int) ≤ 100; omega, by show (0 : Int) ≤ 2; omega, by show (2 : Int) ≤ 100; omega⟩, hrf.more (by omega), hgf⟩
  · by_cases hqb : q = 1
    · subst hqb
      go_wp2_with fail
      refine (pick_c HS7.out.rd (by omega) 9 (by omega)).mono ?_
      rintro e w8 ⟨v, rfl, ⟨n2, rfl, hn20, hn21, -⟩, hR8, hg8⟩
      have hn22 := hn21 (by omega)
      have hs8 := HS7.out.step hR8 hg8
      have HS9 := Lib.hid (hs8.set 3 (.int .i64 (n2 - 1)) (cs' := #[.int .i64 2, .string nm, .string ⟨#[]⟩, .int .i64 (n2 - 1), .string tx]) rfl)
      have sf3 := hs8.op.free 3
      have r0 := hs8.res.cell 0
      have f0 := hs8.res.free 0
      have c0 := hs8.op.cell 0
      have r1 := hs8.res.cell 1
      have f1 := hs8.res.free 1
      have c1 := hs8.op.cell 1
      have r2' := hs8.res.cell 2
      have f2 := hs8.res.free 2
      have c2 := hs8.op.cell 2
      have r3 := hs8.res.cell 3
      have f3 := hs8.res.free 3
      have c3 := hs8.op.cell 3
      have r4 := hs8.res.cell 4
      have f4 := hs8.res.free 4
      have c4 := hs8.op.cell 4
      have zr := hs8.res.lt
      have zo := hs8.op.lt
      have hne1 : ¬ ob = w.heap.size := by have := hs8.l2; omega
      have hne2 : ¬ w.heap.size = ob := by have := hs8.l2; omega
      simp at r0 r1 r2' r3 r4 c0 c1 c2 c3 c4
      clear hR8 hg8 hs8 hn21
      go_wp2
      have hf := (((((HS9.out.res.set 0 (.int .i64 (2)) (cs' := #[.int .i64 (2), .string ⟨#[]⟩, .string ⟨#[]⟩, .int .i64 0, .string ⟨#[]⟩]) rfl).set 1 (.string nm) (cs' := #[.int .i64 (2), .string nm, .string ⟨#[]⟩, .int .i64 0, .string ⟨#[]⟩]) rfl).set 2 (.string (⟨#[]⟩ : ByteArray)) (cs' := #[.int .i64 (2), .string nm, .string (⟨#[]⟩ : ByteArray), .int .i64 0, .string ⟨#[]⟩]) rfl).set 3 (.int .i64 (n2 - 1)) (cs' := #[.int .i64 (2), .string nm, .string (⟨#[]⟩ : ByteArray), .int .i64 (n2 - 1), .string ⟨#[]⟩]) rfl).set 4 (.string tx) (cs' := #[.int .i64 (2), .string nm, .string ⟨#[]⟩, .int .i64 (n2 - 1), .string tx]) rfl)
      have hgf := grown_new (grown_new (grown_new (grown_new (grown_new HS9.out.g HS9.out.l1 0 (.int .i64 (2))) HS9.out.l1 1 (.string nm)) HS9.out.l1 2 (.string (⟨#[]⟩ : ByteArray))) HS9.out.l1 3 (.int .i64 (n2 - 1))) HS9.out.l1 4 (.string tx)
      have hl4 := HS9.out.l3
      have hrf := (((((HS9.out.rd.set (b := w.heap.size) hl4 0 (.int .i64 (2))).set (b := w.heap.size) hl4 1 (.string nm)).set (b := w.heap.size) hl4 2 (.string (⟨#[]⟩ : ByteArray))).set (b := w.heap.size) hl4 3 (.int .i64 (n2 - 1))).set (b := w.heap.size) hl4 4 (.string tx))
      refine bodyPost_ret (results_cell_row rfl _ _ w.heap.size 61 #[.int .i64 (2), .string nm, .string ⟨#[]⟩, .int .i64 (n2 - 1), .string tx] (0, 0) _ rfl hf Try.underlying61 rfl (by kernel_rfl)) rfl ?_
      exact ⟨_, rfl, ⟨⟨2, nm, (⟨#[]⟩ : ByteArray), n2 - 1, tx⟩, rfl, ⟨by show ByteArray.size nm ≤ _; omega, by show ByteArray.size (⟨#[]⟩ : ByteArray) ≤ _; omega, by show ByteArray.size tx ≤ _; omega⟩, by show (-100 : Int) ≤ n2 - 1; omega, by show (n2 - 1 : Int) ≤ 100; omega, by show (0 : Int) ≤ 2; omega, by show (2 : Int) ≤ 100; omega⟩, hrf.more (by omega), hgf⟩
    · by_cases hqc : q = 2
      · subst hqc
        go_wp2_with fail
        refine (pick_c HS7.out.rd (by omega) 6 (by omega)).mono ?_
        rintro e w8 ⟨v, rfl, ⟨kd2, rfl, hk20, hk21, -⟩, hR8, hg8⟩
        have hk22 := hk21 (by omega)
        have hs8 := HS7.out.step hR8 hg8
        have HS9 := Lib.hid (hs8.set 0 (.int .i64 kd2) (cs' := #[.int .i64 kd2, .string nm, .string ⟨#[]⟩, .int .i64 n0, .string tx]) rfl)
        have sf0 := hs8.op.free 0
        have r0 := hs8.res.cell 0
        have f0 := hs8.res.free 0
        have c0 := hs8.op.cell 0
        have r1 := hs8.res.cell 1
        have f1 := hs8.res.free 1
        have c1 := hs8.op.cell 1
        have r2' := hs8.res.cell 2
        have f2 := hs8.res.free 2
        have c2 := hs8.op.cell 2
        have r3 := hs8.res.cell 3
        have f3 := hs8.res.free 3
        have c3 := hs8.op.cell 3
        have r4 := hs8.res.cell 4
        have f4 := hs8.res.free 4
        have c4 := hs8.op.cell 4
        have zr := hs8.res.lt
        have zo := hs8.op.lt
        have hne1 : ¬ ob = w.heap.size := by have := hs8.l2; omega
        have hne2 : ¬ w.heap.size = ob := by have := hs8.l2; omega
        simp at r0 r1 r2' r3 r4 c0 c1 c2 c3 c4
        clear hR8 hg8 hs8 hk21
        go_wp2
        have hf := (((((HS9.out.res.set 0 (.int .i64 (kd2)) (cs' := #[.int .i64 (kd2), .string ⟨#[]⟩, .string ⟨#[]⟩, .int .i64 0, .string ⟨#[]⟩]) rfl).set 1 (.string nm) (cs' := #[.int .i64 (kd2), .string nm, .string ⟨#[]⟩, .int .i64 0, .string ⟨#[]⟩]) rfl).set 2 (.string (⟨#[]⟩ : ByteArray)) (cs' := #[.int .i64 (kd2), .string nm, .string (⟨#[]⟩ : ByteArray), .int .i64 0, .string ⟨#[]⟩]) rfl).set 3 (.int .i64 (n0)) (cs' := #[.int .i64 (kd2), .string nm, .string (⟨#[]⟩ : ByteArray), .int .i64 (n0), .string ⟨#[]⟩]) rfl).set 4 (.string tx) (cs' := #[.int .i64 (kd2), .string nm, .string ⟨#[]⟩, .int .i64 (n0), .string tx]) rfl)
        have hgf := grown_new (grown_new (grown_new (grown_new (grown_new HS9.out.g HS9.out.l1 0 (.int .i64 (kd2))) HS9.out.l1 1 (.string nm)) HS9.out.l1 2 (.string (⟨#[]⟩ : ByteArray))) HS9.out.l1 3 (.int .i64 (n0))) HS9.out.l1 4 (.string tx)
        have hl4 := HS9.out.l3
        have hrf := (((((HS9.out.rd.set (b := w.heap.size) hl4 0 (.int .i64 (kd2))).set (b := w.heap.size) hl4 1 (.string nm)).set (b := w.heap.size) hl4 2 (.string (⟨#[]⟩ : ByteArray))).set (b := w.heap.size) hl4 3 (.int .i64 (n0))).set (b := w.heap.size) hl4 4 (.string tx))
        refine bodyPost_ret (results_cell_row rfl _ _ w.heap.size 61 #[.int .i64 (kd2), .string nm, .string ⟨#[]⟩, .int .i64 (n0), .string tx] (0, 0) _ rfl hf Try.underlying61 rfl (by kernel_rfl)) rfl ?_
        exact ⟨_, rfl, ⟨⟨kd2, nm, (⟨#[]⟩ : ByteArray), n0, tx⟩, rfl, ⟨by show ByteArray.size nm ≤ _; omega, by show ByteArray.size (⟨#[]⟩ : ByteArray) ≤ _; omega, by show ByteArray.size tx ≤ _; omega⟩, by show (-100 : Int) ≤ n0; omega, by show (n0 : Int) ≤ 100; omega, by show (0 : Int) ≤ kd2; omega, by show (kd2 : Int) ≤ 100; omega⟩, hrf.more (by omega), hgf⟩
      · skip
        have hs8 := HS7.out
        have r0 := hs8.res.cell 0
        have f0 := hs8.res.free 0
        have c0 := hs8.op.cell 0
        have r1 := hs8.res.cell 1
        have f1 := hs8.res.free 1
        have c1 := hs8.op.cell 1
        have r2' := hs8.res.cell 2
        have f2 := hs8.res.free 2
        have c2 := hs8.op.cell 2
        have r3 := hs8.res.cell 3
        have f3 := hs8.res.free 3
        have c3 := hs8.op.cell 3
        have r4 := hs8.res.cell 4
        have f4 := hs8.res.free 4
        have c4 := hs8.op.cell 4
        have zr := hs8.res.lt
        have zo := hs8.op.lt
        have hne1 : ¬ ob = w.heap.size := by have := hs8.l2; omega
        have hne2 : ¬ w.heap.size = ob := by have := hs8.l2; omega
        simp at r0 r1 r2' r3 r4 c0 c1 c2 c3 c4
        clear hs8
        go_wp2
        have hf := (((((HS7.out.res.set 0 (.int .i64 (2)) (cs' := #[.int .i64 (2), .string ⟨#[]⟩, .string ⟨#[]⟩, .int .i64 0, .string ⟨#[]⟩]) rfl).set 1 (.string nm) (cs' := #[.int .i64 (2), .string nm, .string ⟨#[]⟩, .int .i64 0, .string ⟨#[]⟩]) rfl).set 2 (.string (⟨#[]⟩ : ByteArray)) (cs' := #[.int .i64 (2), .string nm, .string (⟨#[]⟩ : ByteArray), .int .i64 0, .string ⟨#[]⟩]) rfl).set 3 (.int .i64 (n0)) (cs' := #[.int .i64 (2), .string nm, .string (⟨#[]⟩ : ByteArray), .int .i64 (n0), .string ⟨#[]⟩]) rfl).set 4 (.string tx) (cs' := #[.int .i64 (2), .string nm, .string ⟨#[]⟩, .int .i64 (n0), .string tx]) rfl)
        have hgf := grown_new (grown_new (grown_new (grown_new (grown_new HS7.out.g HS7.out.l1 0 (.int .i64 (2))) HS7.out.l1 1 (.string nm)) HS7.out.l1 2 (.string (⟨#[]⟩ : ByteArray))) HS7.out.l1 3 (.int .i64 (n0))) HS7.out.l1 4 (.string tx)
        have hl4 := HS7.out.l3
        have hrf := (((((HS7.out.rd.set (b := w.heap.size) hl4 0 (.int .i64 (2))).set (b := w.heap.size) hl4 1 (.string nm)).set (b := w.heap.size) hl4 2 (.string (⟨#[]⟩ : ByteArray))).set (b := w.heap.size) hl4 3 (.int .i64 (n0))).set (b := w.heap.size) hl4 4 (.string tx))
        refine bodyPost_ret (results_cell_row rfl _ _ w.heap.size 61 #[.int .i64 (2), .string nm, .string ⟨#[]⟩, .int .i64 (n0), .string tx] (0, 0) _ rfl hf Try.underlying61 rfl (by kernel_rfl)) rfl ?_
        exact ⟨_, rfl, ⟨⟨2, nm, (⟨#[]⟩ : ByteArray), n0, tx⟩, rfl, ⟨by show ByteArray.size nm ≤ _; omega, by show ByteArray.size (⟨#[]⟩ : ByteArray) ≤ _; omega, by show ByteArray.size tx ≤ _; omega⟩, by show (-100 : Int) ≤ n0; omega, by show (n0 : Int) ≤ 100; omega, by show (0 : Int) ≤ 2; omega, by show (2 : Int) ≤ 100; omega⟩, hrf.more (by omega), hgf⟩
end Go.Proofs.Ytccllgpaafgjaaa
/- A stub: l12Do lies in Vd here, the drawn changes in Dc. -/


namespace Go.Proofs.Ytccllgpaafgjaaa
end Go.Proofs.Ytccllgpaafgjaaa
/- l71Fits: a change that fits a pool. -/


namespace Go.Proofs.Ytccllgpaafgjaaa
open Go.RowKit Go.Proofs.YtccllgpaafgjaaaW.PrintWords Go.Proofs.YtccllgpaafgjaaaW.PrintLast
set_option linter.unusedVariables false
set_option linter.unusedSimpArgs false

def OpIn (o : Op) : Prop := SmallO o ∧ -100 ≤ o.n ∧ o.n ≤ 100 ∧ 0 ≤ o.kind ∧ o.kind ≤ 100
def opCs (o : Op) : Array Value := #[.int .i64 o.kind, .string o.name, .string o.dest, .int .i64 o.n, .string o.text]
def z5 : Array Value := #[.int .i64 0, .string ⟨#[]⟩, .string ⟨#[]⟩, .int .i64 0, .string ⟨#[]⟩]
theorem OwnP.rd {w w' : World} {base : Nat} {v0 v1 : Value} {p : Pool} {bvs : List Value} (h : OwnP w base v0 v1 p bvs) {rb k : Nat} (hR : Rd w rb k) (hg : w.grownBy w' (some rb)) : OwnP w' base v0 v1 p bvs := by
  obtain ⟨A, c, bs, q, hB, _⟩ := hR.h
  exact h.grown hB (by decide) (by decide) (by decide) hg
structure FitSt (w W : World) (rb k base : Nat) (v0 v1 : Value) (p : Pool) (bvs : List Value) (ob : Nat) (cs : Array Value) : Prop where
  box : Blk W w.heap.size #[v0, v1] 49
  res : Blk W (w.heap.size + 1) z5 61
  op : Blk W ob cs 61
  rd : Rd W rb k
  own : OwnP W base v0 v1 p bvs
  g : w.grownBy W (some rb)
  l2 : w.heap.size + 1 < ob
  l3 : rb < w.heap.size
theorem FitSt.step {w W W' : World} {rb k k' base : Nat} {v0 v1 : Value} {p : Pool} {bvs : List Value} {ob : Nat} {cs : Array Value} (h : FitSt w W rb k base v0 v1 p bvs ob cs) (hR : Rd W' rb k') (hg : W.grownBy W' (some rb)) : FitSt w W' rb k' base v0 v1 p bvs ob cs :=
  ⟨h.box.grown hg (fun e => by injection e with e; have := h.l3; omega), h.res.grown hg (fun e => by injection e with e; have := h.l3; omega), h.op.grown hg (fun e => by injection e with e; have := h.l3; have := h.l2; omega), hR, h.own.rd h.rd hg, grown_tr h.g hg, h.l2, h.l3⟩
theorem FitSt.bel {w W W' : World} {rb k base : Nat} {v0 v1 : Value} {p : Pool} {bvs : List Value} {ob : Nat} {cs : Array Value} (h : FitSt w W rb k base v0 v1 p bvs ob cs) (hb : Bel W W') : FitSt w W' rb k base v0 v1 p bvs ob cs :=
  ⟨h.box.bel hb, h.res.bel hb, h.op.bel hb, h.rd.bel hb, h.own.bel hb, grown_tr h.g (grown_of_bel hb _), h.l2, h.l3⟩
theorem FitSt.set {w W : World} {rb k base : Nat} {v0 v1 : Value} {p : Pool} {bvs : List Value} {ob : Nat} {cs cs' : Array Value} (h : FitSt w W rb k base v0 v1 p bvs ob cs) (i : Nat) (u : Value) (e : cs.setIfInBounds i u = cs') : FitSt w (W.setCell ⟨ob, i, none⟩ u) rb k base v0 v1 p bvs ob cs' :=
  ⟨h.box.apart (by have := h.l2; omega) i u, h.res.apart (by have := h.l2; omega) i u, h.op.set i u e, h.rd.set (by have := h.l2; have := h.l3; omega) i u, h.own.far h.op (by decide) (by decide) (by decide) i u, grown_new h.g (by have := h.l2; omega) i u, h.l2, h.l3⟩
theorem FitSt.more {w W : World} {rb k k' base : Nat} {v0 v1 : Value} {p : Pool} {bvs : List Value} {ob : Nat} {cs : Array Value} (h : FitSt w W rb k base v0 v1 p bvs ob cs) (hk : k ≤ k') : FitSt w W rb k' base v0 v1 p bvs ob cs := ⟨h.box, h.res, h.op, h.rd.more hk, h.own, h.g, h.l2, h.l3⟩
theorem FitSt.fx {w W : World} {rb k base : Nat} {v0 v1 : Value} {p : Pool} {bvs : List Value} {ob : Nat} {o : Op} (h : FitSt w W rb k base v0 v1 p bvs ob (opCs o)) :
    W.cell? ⟨w.heap.size, 0, none⟩ = some v0 ∧ W.cell? ⟨w.heap.size, 1, none⟩ = some v1 ∧ W.cell? ⟨ob, 0, none⟩ = some (.int .i64 o.kind) ∧ W.cell? ⟨ob, 1, none⟩ = some (.string o.name) ∧ W.cell? ⟨ob, 2, none⟩ = some (.string o.dest) ∧ W.cell? ⟨ob, 3, none⟩ = some (.int .i64 o.n) ∧ W.cell? ⟨ob, 4, none⟩ = some (.string o.text) :=
  ⟨by rw [h.box.cell]; rfl, by rw [h.box.cell]; rfl, by rw [h.op.cell]; rfl, by rw [h.op.cell]; rfl, by rw [h.op.cell]; rfl, by rw [h.op.cell]; rfl, by rw [h.op.cell]; rfl⟩
set_option maxHeartbeats 16000000 in
set_option maxRecDepth 10000 in
theorem fits_c {w : World} {rb k base : Nat} {v0 v1 : Value} {p : Pool} {bvs : List Value} (h : Rd w rb k) (hk : k ≤ 1099511400000) (ho : OwnP w base v0 v1 p bvs) (hp : PoolP p) :
    Calls Try.prog 121 #[.pointer (some ⟨rb, 0, none⟩), .agg #[v0, v1]] w (Drawn rb k 200 OpV w) := by
  have H := Lib.hid h
  have hlt := h.lt
  obtain ⟨A0, A1, c0, c1, rfl, rfl, hpi⟩ := ho.reads
  obtain ⟨nv, hnv⟩ : ∃ nv, p.vols.length = nv := ⟨_, rfl⟩
  rw [hnv] at ho ⊢
  have HNV := Lib.hid hnv
  clear hnv
  have HO := Lib.hid ho
  have HP := Lib.hid hp
  have hnv4 : nv ≤ 4 := by rw [← HNV.out]; exact hp.v.len
  clear h ho hp hpi
  go_enter Try.func121, Try.ntmps121
  go_wp2_with fail
  have hbox : Blk ((w.alloc (.cells #[.slice A0 p.slots.length c0, .slice A1 nv c1] 49)).alloc (.cells #[.int .i64 0, .string ⟨#[]⟩, .string ⟨#[]⟩, .int .i64 0, .string ⟨#[]⟩] 61)) w.heap.size #[.slice A0 p.slots.length c0, .slice A1 nv c1] 49 := (Blk.new _ _ _).alloc _
  have hres : Blk ((w.alloc (.cells #[.slice A0 p.slots.length c0, .slice A1 nv c1] 49)).alloc (.cells #[.int .i64 0, .string ⟨#[]⟩, .string ⟨#[]⟩, .int .i64 0, .string ⟨#[]⟩] 61)) (w.heap.size + 1) z5 61 := Blk.nw2 _ _ _ _
  have hW : Bel w ((w.alloc (.cells #[.slice A0 p.slots.length c0, .slice A1 nv c1] 49)).alloc (.cells #[.int .i64 0, .string ⟨#[]⟩, .string ⟨#[]⟩, .int .i64 0, .string ⟨#[]⟩] 61)) := bel_alloc (bel_alloc (Below.refl _ _) _) _
  generalize ((w.alloc (.cells #[.slice A0 p.slots.length c0, .slice A1 nv c1] 49)).alloc (.cells #[.int .i64 0, .string ⟨#[]⟩, .string ⟨#[]⟩, .int .i64 0, .string ⟨#[]⟩] 61)) = W0 at hbox hres hW ⊢
  refine (op_c (H.out.bel hW) (by omega)).mono ?_
  rintro e w1 ⟨v, rfl, ⟨o0, rfl, hoi⟩, hR1, hg1⟩
  have hst : FitSt w (w1.alloc (.cells (opCs o0) 61)) rb (k + 20) base (.slice A0 p.slots.length c0) (.slice A1 nv c1) p bvs w1.heap.size (opCs o0) :=
    ⟨(hbox.grown hg1 (by intro e; injection e with e; omega)).alloc _, (hres.grown hg1 (by intro e; injection e with e; omega)).alloc _, Blk.new _ _ _, hR1.bel (bel_alloc (Below.refl _ _) _), ((HO.out.bel hW).rd (H.out.bel hW) hg1).bel (bel_alloc (Below.refl _ _) _), grown_tr (grown_tr (grown_of_bel hW _) hg1) (grown_of_bel (bel_alloc (Below.refl _ _) _) _), (hres.grown hg1 (by intro e; injection e with e; omega)).lt, hlt⟩
  have HOI := Lib.hid (show OpIn o0 from hoi)
  have HST := Lib.hid hst
  clear hbox hres hW hoi hR1 hg1 hst
  unfold opV
  unfold opCs at HST
  go_wp2_with fail
  generalize w1.alloc (.cells #[.int .i64 o0.kind, .string o0.name, .string o0.dest, .int .i64 o0.n, .string o0.text] 61) = W4 at HST ⊢
  obtain ⟨ob, hob⟩ : ∃ ob, w1.heap.size = ob := ⟨_, rfl⟩
  rw [hob] at HST ⊢
  clear hob
  go_loopg [6] 8 (fun gg v6 W => ∃ (j : Nat) (o : Op), gg + j = 8 ∧ v6 = .int .i64 j ∧ Hid (OpIn o) ∧ Hid (FitSt w W rb (k + 20 + 22 * j) base (.slice A0 p.slots.length c0) (.slice A1 nv c1) p bvs ob (opCs o)))
  case atStart => exact ⟨0, o0, rfl, rfl, HOI.out, HST.out⟩
  case round =>
    clear HST HOI
    obtain ⟨j, o, hj, rfl, hoi, hst⟩ := hrel
    have HOI := hoi
    have HST := hst
    clear hoi hst
    have hnm := HOI.out.1
    by_cases hj8 : j < 8
    · have hcs := HST.out.op
      have c0' := HST.out.op.cell 0
      have c1' := HST.out.op.cell 1
      have c2' := HST.out.op.cell 2
      have c3' := HST.out.op.cell 3
      have c4' := HST.out.op.cell 4
      simp [opCs] at c0' c1' c2' c3' c4'
      clear hcs
      go_wp2_with fail
      refine (specOpOk_c o hnm _).mono ?_
      rintro e w2 ⟨rfl, hb2⟩
      have HS2 := Lib.hid (HST.out.bel hb2)
      clear c0' c1' c2' c3' c4' hb2
      cases hok : opOk o with
      | true =>
        clear hok
        go_wp2
        have BB := Lib.hid (HS2.out.bel (Below.refl _ _).drew)
        have D0 := Lib.hid (show Bel w2.drew w2.drew from Below.refl _ _)
        have hfx := Lib.hid (fun W => fun hb : Bel w2.drew W => (BB.out.bel hb).fx)
        have PI := Lib.hid (show PoolIn w2.drew A0 A1 c0 c1 p by obtain ⟨a0, a1, k0, k1, e0, e1, hh⟩ := BB.out.own.reads; have e0 := slice_eq e0; have e1 := slice_eq e1; obtain ⟨rfl, -, rfl⟩ := e0; obtain ⟨rfl, -, rfl⟩ := e1; exact hh)
        obtain ⟨q, hq⟩ : ∃ q, (opF p o).getD p = q := ⟨_, rfl⟩
        obtain ⟨ok, hokk⟩ : ∃ ok, (opF p o).isSome = ok := ⟨_, rfl⟩
        have hdo := Lib.hid (fun (W : World) (v0 v1 : Value) (bvs : List Value) (h : OwnP W w2.drew.heap.size v0 v1 p bvs) (hb : w2.drew.heap.size ≤ W.heap.size) => l12Do_c (o := o) h HP.out hb hnm)
        unfold TurnsP at hdo
        rw [hq, hokk] at hdo
        have HQ := Lib.hid (And.intro hq hokk)
        clear hq hokk
        obtain ⟨s0, s1, s2, s3, s4, s5, s6⟩ := hfx.out _ D0.out
        have hcp := Lib.hid (fun (W : World) (h : PoolIn W A0 A1 c0 c1 p) => l11Copy_c h HP.out.small)
        rw [HNV.out] at hcp
        refine start_ (n := 10) (S := fun w' => w'.cell? ⟨w.heap.size, 0, none⟩ = some (.slice A0 p.slots.length c0) ∧ w'.cell? ⟨w.heap.size, 1, none⟩ = some (.slice A1 nv c1) ∧ w'.cell? ⟨ob, 0, none⟩ = some (.int .i64 o.kind) ∧ w'.cell? ⟨ob, 1, none⟩ = some (.string o.name) ∧ w'.cell? ⟨ob, 2, none⟩ = some (.string o.dest) ∧ w'.cell? ⟨ob, 3, none⟩ = some (.int .i64 o.n) ∧ w'.cell? ⟨ob, 4, none⟩ = some (.string o.text)) (ds := [8]) #[false, false, false, false, false, false, false, false, false, false] (by kernel_rfl) rfl rfl ⟨s0, s1, s2, s3, s4, s5, s6⟩ (fun hHeld => ?_)
        refine take_ (i := 0) (N := some 18) (v := ?_) (a' := ?_) #[true, false, false, false, false, false, false, false, false, false] rfl rfl (by kernel_rfl) (fun _ _ _ h => h) (Or.inl ⟨by rfl, ?_⟩) hHeld ?_ ?_
        rotate_left
        · rintro w' ⟨s0, s1, s2, s3, s4, s5, s6⟩
          go_simp
          with_reducible rfl
        rotate_left
        · simp only [Act.put, List.setIfInBounds_toArray, List.set_cons_zero, List.set_cons_succ, i64_w, i32_w]
          rfl
        refine take_ (i := 2) (N := some 20) (v := ?_) (a' := ?_) #[true, false, true, false, false, false, false, false, false, false] rfl rfl (by kernel_rfl) (fun _ _ _ h => h) (Or.inl ⟨by rfl, ?_⟩) hHeld ?_ ?_
        rotate_left
        · rintro w' ⟨s0, s1, s2, s3, s4, s5, s6⟩
          go_simp
          with_reducible rfl
        rotate_left
        · simp only [Act.put, List.setIfInBounds_toArray, List.set_cons_zero, List.set_cons_succ, i64_w, i32_w]
          rfl
        refine join_ (σ := Value × Value × Option Addr × Nat × Option Addr × Nat × List Value × Nat) 2 #[true, true, true, true, true, true, true, true, false, false] (fun s => [(19, .agg #[s.1, s.2.1]), (21, .tuple #[.agg #[.slice s.2.2.1 q.slots.length s.2.2.2.1, .slice s.2.2.2.2.1 q.vols.length s.2.2.2.2.2.1], .bool ok]), (17, .tuple #[.agg #[.slice s.2.2.1 q.slots.length s.2.2.2.1, .slice s.2.2.2.2.1 q.vols.length s.2.2.2.2.2.1], .bool ok]), (22, .agg #[.slice s.2.2.1 q.slots.length s.2.2.2.1, .slice s.2.2.2.2.1 q.vols.length s.2.2.2.2.2.1]), (23, .bool ok), (7, .pointer (some ⟨s.2.2.2.2.2.2.2, 0, none⟩))]) (fun s w' => (w'.cell? ⟨w.heap.size, 0, none⟩ = some (.slice A0 p.slots.length c0) ∧ w'.cell? ⟨w.heap.size, 1, none⟩ = some (.slice A1 nv c1) ∧ w'.cell? ⟨ob, 0, none⟩ = some (.int .i64 o.kind) ∧ w'.cell? ⟨ob, 1, none⟩ = some (.string o.name) ∧ w'.cell? ⟨ob, 2, none⟩ = some (.string o.dest) ∧ w'.cell? ⟨ob, 3, none⟩ = some (.int .i64 o.n) ∧ w'.cell? ⟨ob, 4, none⟩ = some (.string o.text)) ∧ OwnP w' w2.drew.heap.size (.slice s.2.2.1 q.slots.length s.2.2.2.1) (.slice s.2.2.2.2.1 q.vols.length s.2.2.2.2.2.1) q s.2.2.2.2.2.2.1 ∧ Blk w' s.2.2.2.2.2.2.2 #[.slice none 0 0, .slice none 0 0] 49 ∧ w2.drew.heap.size ≤ s.2.2.2.2.2.2.2 ∧ Bel w2.drew w') ?_ ?_
        rotate_left
        · intro hCont
          refine two_ (i := 1) (j := 7) (Ni := some 19) (Nj := some 7) #[true, true, true, false, false, false, false, false, false, false] #[true, false, true, false, false, false, false, true, false, false] rfl rfl rfl rfl (by kernel_rfl) (by decide) (by decide) (fun K hK => ?_) (fun K hK => ?_)
          · skip
            refine goes_ Try.func62 (by kernel_rfl) rfl #[.agg #[.slice A0 p.slots.length c0, .slice A1 nv c1]] (by rfl) rfl rfl (by simp only [List.map_toArray, List.map_cons, List.map_nil]; rfl) ?_
            with_reducible refine (hcp.out _ (PI.out.bel D0.out)).mono ?_
            rintro e w1_ ⟨va, vb, bva, rfl, ho, X1⟩
            have D1 := Lib.hid (Bel.tr D0.out X1)
            have P1 : Hid (OwnP w1_ w2.drew.heap.size va vb p bva) := Lib.hid (ho.lower D0.out.size)
            clear ho
            refine ⟨_, rfl, ?_⟩
            refine hK.out _ _ ⟨(hfx.out _ D1.out).1, (hfx.out _ D1.out).2.1, (hfx.out _ D1.out).2.2.1, (hfx.out _ D1.out).2.2.2.1, (hfx.out _ D1.out).2.2.2.2.1, (hfx.out _ D1.out).2.2.2.2.2.1, (hfx.out _ D1.out).2.2.2.2.2.2⟩ (fun hHeld => ?_)
            clear hK K
            refine norm_ (a' := ?_) ?_ ?_
            rotate_left
            · show Act.put _ (some 19) _ = _
              simp only [Act.put, List.setIfInBounds_toArray, List.set_cons_zero, List.set_cons_succ, i64_w, i32_w]
              rfl
            refine two_ (i := 3) (j := 7) (Ni := some 21) (Nj := some 7) #[true, true, true, true, false, false, false, false, false, false] #[true, true, true, false, false, false, false, true, false, false] rfl rfl rfl rfl (by kernel_rfl) (by decide) (by decide) (fun K hK => ?_) (fun K hK => ?_)
            · skip
              refine goes_ Try.func82 (by kernel_rfl) rfl #[.agg #[va, vb], .agg #[.int .i64 o.kind, .string o.name, .string o.dest, .int .i64 o.n, .string o.text]] (by rfl) rfl rfl (by simp only [List.map_toArray, List.map_cons, List.map_nil]; rfl) ?_
              with_reducible refine (hdo.out _ va vb bva P1.out D1.out.size).mono ?_
              rintro e w2_ ⟨vc, vd, bvc, rfl, ho, X2⟩
              have D2 : Hid (Bel w2.drew w2_) := Lib.hid (D1.out.trans X2.b)
              have Q2 := Lib.hid ho
              obtain ⟨A2, A3, k2, k3, rfl, rfl, hpi⟩ := ho.reads
              clear ho hpi
              refine ⟨_, rfl, ?_⟩
              refine hK.out _ _ ⟨(hfx.out _ D2.out).1, (hfx.out _ D2.out).2.1, (hfx.out _ D2.out).2.2.1, (hfx.out _ D2.out).2.2.2.1, (hfx.out _ D2.out).2.2.2.2.1, (hfx.out _ D2.out).2.2.2.2.2.1, (hfx.out _ D2.out).2.2.2.2.2.2⟩ (fun hHeld => ?_)
              clear hK K
              refine norm_ (a' := ?_) ?_ ?_
              rotate_left
              · show Act.put _ (some 21) _ = _
                simp only [Act.put, List.setIfInBounds_toArray, List.set_cons_zero, List.set_cons_succ, i64_w, i32_w]
                rfl
              refine pure_ (i := 4) (N := some 17) (v := ?_) (a' := ?_) #[true, true, true, true, true, false, false, false, false, false] rfl rfl (by kernel_rfl) (fun _ _ _ h => h) (Or.inl ⟨by rfl, ?_⟩) ?_ ?_
              rotate_left
              · intro w'
                go_simp
                with_reducible rfl
              rotate_left
              · simp only [Act.put, List.setIfInBounds_toArray, List.set_cons_zero, List.set_cons_succ, i64_w, i32_w]
                rfl
              refine pure_ (i := 5) (N := some 22) (v := ?_) (a' := ?_) #[true, true, true, true, true, true, false, false, false, false] rfl rfl (by kernel_rfl) (fun _ _ _ h => h) (Or.inl ⟨by rfl, ?_⟩) ?_ ?_
              rotate_left
              · intro w'
                go_simp
                with_reducible rfl
              rotate_left
              · simp only [Act.put, List.setIfInBounds_toArray, List.set_cons_zero, List.set_cons_succ, i64_w, i32_w]
                rfl
              refine pure_ (i := 6) (N := some 23) (v := ?_) (a' := ?_) #[true, true, true, true, true, true, true, false, false, false] rfl rfl (by kernel_rfl) (fun _ _ _ h => h) (Or.inl ⟨by rfl, ?_⟩) ?_ ?_
              rotate_left
              · intro w'
                go_simp
                with_reducible rfl
              rotate_left
              · simp only [Act.put, List.setIfInBounds_toArray, List.set_cons_zero, List.set_cons_succ, i64_w, i32_w]
                rfl
              refine one_ (i := 7) (N := some 7) #[true, true, true, true, true, true, true, true, false, false] rfl rfl (by kernel_rfl) (by decide) (fun K hK => ?_)
              refine value_ (w1 := ?_) (v := ?_) (by rfl) rfl ?_ ?_
              rotate_left 2
              · go_simp
                constructor
                · rfl
                · rfl
              have D3 : Hid (Bel w2.drew (w2_.alloc (.cells #[.slice none 0 0, .slice none 0 0] 49))) := Lib.hid (bel_alloc D2.out (.cells #[.slice none 0 0, .slice none 0 0] 49))
              have Q3 := Lib.hid (OwnP.bel Q2.out (bel_alloc (Below.refl _ _) (.cells #[.slice none 0 0, .slice none 0 0] 49)))
              have O3 : Hid (Blk (w2_.alloc (.cells #[.slice none 0 0, .slice none 0 0] 49)) w2_.heap.size #[.slice none 0 0, .slice none 0 0] 49) := Lib.hid (Blk.new w2_ #[.slice none 0 0, .slice none 0 0] 49)
              have L3 := D2.out.size
              refine hK.out _ _ ⟨(hfx.out _ D3.out).1, (hfx.out _ D3.out).2.1, (hfx.out _ D3.out).2.2.1, (hfx.out _ D3.out).2.2.2.1, (hfx.out _ D3.out).2.2.2.2.1, (hfx.out _ D3.out).2.2.2.2.2.1, (hfx.out _ D3.out).2.2.2.2.2.2⟩ (fun hHeld => ?_)
              clear hK K
              refine norm_ (a' := ?_) ?_ ?_
              rotate_left
              · show Act.put _ (some 7) _ = _
                simp only [Act.put, List.setIfInBounds_toArray, List.set_cons_zero, List.set_cons_succ, i64_w, i32_w]
                rfl
              exact norm_ (by simp only [putAll, Act.put, List.setIfInBounds_toArray, List.set_cons_zero, List.set_cons_succ]) (hCont (va, vb, A2, k2, A3, k3, bvc, w2_.heap.size) _ ⟨hHeld, Q3.out, O3.out, L3, D3.out⟩)
            · skip
              refine value_ (w1 := ?_) (v := ?_) (by rfl) rfl ?_ ?_
              rotate_left 2
              · go_simp
                constructor
                · rfl
                · rfl
              have D2 : Hid (Bel w2.drew (w1_.alloc (.cells #[.slice none 0 0, .slice none 0 0] 49))) := Lib.hid (bel_alloc D1.out (.cells #[.slice none 0 0, .slice none 0 0] 49))
              have P2 := Lib.hid (OwnP.bel P1.out (bel_alloc (Below.refl _ _) (.cells #[.slice none 0 0, .slice none 0 0] 49)))
              have O2 : Hid (Blk (w1_.alloc (.cells #[.slice none 0 0, .slice none 0 0] 49)) w1_.heap.size #[.slice none 0 0, .slice none 0 0] 49) := Lib.hid (Blk.new w1_ #[.slice none 0 0, .slice none 0 0] 49)
              have L2 := D1.out.size
              refine hK.out _ _ ⟨(hfx.out _ D2.out).1, (hfx.out _ D2.out).2.1, (hfx.out _ D2.out).2.2.1, (hfx.out _ D2.out).2.2.2.1, (hfx.out _ D2.out).2.2.2.2.1, (hfx.out _ D2.out).2.2.2.2.2.1, (hfx.out _ D2.out).2.2.2.2.2.2⟩ (fun hHeld => ?_)
              clear hK K
              refine norm_ (a' := ?_) ?_ ?_
              rotate_left
              · show Act.put _ (some 7) _ = _
                simp only [Act.put, List.setIfInBounds_toArray, List.set_cons_zero, List.set_cons_succ, i64_w, i32_w]
                rfl
              refine one_ (i := 3) (N := some 21) #[true, true, true, true, false, false, false, true, false, false] rfl rfl (by kernel_rfl) (by decide) (fun K hK => ?_)
              refine goes_ Try.func82 (by kernel_rfl) rfl #[.agg #[va, vb], .agg #[.int .i64 o.kind, .string o.name, .string o.dest, .int .i64 o.n, .string o.text]] (by rfl) rfl rfl (by simp only [List.map_toArray, List.map_cons, List.map_nil]; rfl) ?_
              with_reducible refine (hdo.out _ va vb bva P2.out D2.out.size).mono ?_
              rintro e w3_ ⟨vc, vd, bvc, rfl, ho, X3⟩
              have D3 : Hid (Bel w2.drew w3_) := Lib.hid (D2.out.trans X3.b)
              have O3 := Lib.hid (X3.k _ _ _ (by decide) (by decide) (by decide) O2.out)
              have Q3 := Lib.hid ho
              obtain ⟨A2, A3, k2, k3, rfl, rfl, hpi⟩ := ho.reads
              clear ho hpi
              refine ⟨_, rfl, ?_⟩
              refine hK.out _ _ ⟨(hfx.out _ D3.out).1, (hfx.out _ D3.out).2.1, (hfx.out _ D3.out).2.2.1, (hfx.out _ D3.out).2.2.2.1, (hfx.out _ D3.out).2.2.2.2.1, (hfx.out _ D3.out).2.2.2.2.2.1, (hfx.out _ D3.out).2.2.2.2.2.2⟩ (fun hHeld => ?_)
              clear hK K
              refine norm_ (a' := ?_) ?_ ?_
              rotate_left
              · show Act.put _ (some 21) _ = _
                simp only [Act.put, List.setIfInBounds_toArray, List.set_cons_zero, List.set_cons_succ, i64_w, i32_w]
                rfl
              refine pure_ (i := 4) (N := some 17) (v := ?_) (a' := ?_) #[true, true, true, true, true, false, false, true, false, false] rfl rfl (by kernel_rfl) (fun _ _ _ h => h) (Or.inl ⟨by rfl, ?_⟩) ?_ ?_
              rotate_left
              · intro w'
                go_simp
                with_reducible rfl
              rotate_left
              · simp only [Act.put, List.setIfInBounds_toArray, List.set_cons_zero, List.set_cons_succ, i64_w, i32_w]
                rfl
              refine pure_ (i := 5) (N := some 22) (v := ?_) (a' := ?_) #[true, true, true, true, true, true, false, true, false, false] rfl rfl (by kernel_rfl) (fun _ _ _ h => h) (Or.inl ⟨by rfl, ?_⟩) ?_ ?_
              rotate_left
              · intro w'
                go_simp
                with_reducible rfl
              rotate_left
              · simp only [Act.put, List.setIfInBounds_toArray, List.set_cons_zero, List.set_cons_succ, i64_w, i32_w]
                rfl
              refine pure_ (i := 6) (N := some 23) (v := ?_) (a' := ?_) #[true, true, true, true, true, true, true, true, false, false] rfl rfl (by kernel_rfl) (fun _ _ _ h => h) (Or.inl ⟨by rfl, ?_⟩) ?_ ?_
              rotate_left
              · intro w'
                go_simp
                with_reducible rfl
              rotate_left
              · simp only [Act.put, List.setIfInBounds_toArray, List.set_cons_zero, List.set_cons_succ, i64_w, i32_w]
                rfl
              exact norm_ (by simp only [putAll, Act.put, List.setIfInBounds_toArray, List.set_cons_zero, List.set_cons_succ]) (hCont (va, vb, A2, k2, A3, k3, bvc, w1_.heap.size) _ ⟨hHeld, Q3.out, O3.out, L2, D3.out⟩)
          · skip
            refine value_ (w1 := ?_) (v := ?_) (by rfl) rfl ?_ ?_
            rotate_left 2
            · go_simp
              constructor
              · rfl
              · rfl
            have D1 : Hid (Bel w2.drew (w2.alloc (.cells #[.slice none 0 0, .slice none 0 0] 49)).drew) := Lib.hid (bel_alloc D0.out (.cells #[.slice none 0 0, .slice none 0 0] 49))
            have O1 : Hid (Blk (w2.alloc (.cells #[.slice none 0 0, .slice none 0 0] 49)).drew w2.drew.heap.size #[.slice none 0 0, .slice none 0 0] 49) := Lib.hid (Blk.new w2.drew #[.slice none 0 0, .slice none 0 0] 49)
            have L1 := D0.out.size
            refine hK.out _ _ ⟨(hfx.out _ D1.out).1, (hfx.out _ D1.out).2.1, (hfx.out _ D1.out).2.2.1, (hfx.out _ D1.out).2.2.2.1, (hfx.out _ D1.out).2.2.2.2.1, (hfx.out _ D1.out).2.2.2.2.2.1, (hfx.out _ D1.out).2.2.2.2.2.2⟩ (fun hHeld => ?_)
            clear hK K
            refine norm_ (a' := ?_) ?_ ?_
            rotate_left
            · show Act.put _ (some 7) _ = _
              simp only [Act.put, List.setIfInBounds_toArray, List.set_cons_zero, List.set_cons_succ, i64_w, i32_w]
              rfl
            refine one_ (i := 1) (N := some 19) #[true, true, true, false, false, false, false, true, false, false] rfl rfl (by kernel_rfl) (by decide) (fun K hK => ?_)
            refine goes_ Try.func62 (by kernel_rfl) rfl #[.agg #[.slice A0 p.slots.length c0, .slice A1 nv c1]] (by rfl) rfl rfl (by simp only [List.map_toArray, List.map_cons, List.map_nil]; rfl) ?_
            with_reducible refine (hcp.out _ (PI.out.bel D1.out)).mono ?_
            rintro e w2_ ⟨va, vb, bva, rfl, ho, X2⟩
            have D2 := Lib.hid (Bel.tr D1.out X2)
            have O2 := Lib.hid (Blk.bel O1.out X2)
            have P2 : Hid (OwnP w2_ w2.drew.heap.size va vb p bva) := Lib.hid (ho.lower D1.out.size)
            clear ho
            refine ⟨_, rfl, ?_⟩
            refine hK.out _ _ ⟨(hfx.out _ D2.out).1, (hfx.out _ D2.out).2.1, (hfx.out _ D2.out).2.2.1, (hfx.out _ D2.out).2.2.2.1, (hfx.out _ D2.out).2.2.2.2.1, (hfx.out _ D2.out).2.2.2.2.2.1, (hfx.out _ D2.out).2.2.2.2.2.2⟩ (fun hHeld => ?_)
            clear hK K
            refine norm_ (a' := ?_) ?_ ?_
            rotate_left
            · show Act.put _ (some 19) _ = _
              simp only [Act.put, List.setIfInBounds_toArray, List.set_cons_zero, List.set_cons_succ, i64_w, i32_w]
              rfl
            refine one_ (i := 3) (N := some 21) #[true, true, true, true, false, false, false, true, false, false] rfl rfl (by kernel_rfl) (by decide) (fun K hK => ?_)
            refine goes_ Try.func82 (by kernel_rfl) rfl #[.agg #[va, vb], .agg #[.int .i64 o.kind, .string o.name, .string o.dest, .int .i64 o.n, .string o.text]] (by rfl) rfl rfl (by simp only [List.map_toArray, List.map_cons, List.map_nil]; rfl) ?_
            with_reducible refine (hdo.out _ va vb bva P2.out D2.out.size).mono ?_
            rintro e w3_ ⟨vc, vd, bvc, rfl, ho, X3⟩
            have D3 : Hid (Bel w2.drew w3_) := Lib.hid (D2.out.trans X3.b)
            have O3 := Lib.hid (X3.k _ _ _ (by decide) (by decide) (by decide) O2.out)
            have Q3 := Lib.hid ho
            obtain ⟨A2, A3, k2, k3, rfl, rfl, hpi⟩ := ho.reads
            clear ho hpi
            refine ⟨_, rfl, ?_⟩
            refine hK.out _ _ ⟨(hfx.out _ D3.out).1, (hfx.out _ D3.out).2.1, (hfx.out _ D3.out).2.2.1, (hfx.out _ D3.out).2.2.2.1, (hfx.out _ D3.out).2.2.2.2.1, (hfx.out _ D3.out).2.2.2.2.2.1, (hfx.out _ D3.out).2.2.2.2.2.2⟩ (fun hHeld => ?_)
            clear hK K
            refine norm_ (a' := ?_) ?_ ?_
            rotate_left
            · show Act.put _ (some 21) _ = _
              simp only [Act.put, List.setIfInBounds_toArray, List.set_cons_zero, List.set_cons_succ, i64_w, i32_w]
              rfl
            refine pure_ (i := 4) (N := some 17) (v := ?_) (a' := ?_) #[true, true, true, true, true, false, false, true, false, false] rfl rfl (by kernel_rfl) (fun _ _ _ h => h) (Or.inl ⟨by rfl, ?_⟩) ?_ ?_
            rotate_left
            · intro w'
              go_simp
              with_reducible rfl
            rotate_left
            · simp only [Act.put, List.setIfInBounds_toArray, List.set_cons_zero, List.set_cons_succ, i64_w, i32_w]
              rfl
            refine pure_ (i := 5) (N := some 22) (v := ?_) (a' := ?_) #[true, true, true, true, true, true, false, true, false, false] rfl rfl (by kernel_rfl) (fun _ _ _ h => h) (Or.inl ⟨by rfl, ?_⟩) ?_ ?_
            rotate_left
            · intro w'
              go_simp
              with_reducible rfl
            rotate_left
            · simp only [Act.put, List.setIfInBounds_toArray, List.set_cons_zero, List.set_cons_succ, i64_w, i32_w]
              rfl
            refine pure_ (i := 6) (N := some 23) (v := ?_) (a' := ?_) #[true, true, true, true, true, true, true, true, false, false] rfl rfl (by kernel_rfl) (fun _ _ _ h => h) (Or.inl ⟨by rfl, ?_⟩) ?_ ?_
            rotate_left
            · intro w'
              go_simp
              with_reducible rfl
            rotate_left
            · simp only [Act.put, List.setIfInBounds_toArray, List.set_cons_zero, List.set_cons_succ, i64_w, i32_w]
              rfl
            exact norm_ (by simp only [putAll, Act.put, List.setIfInBounds_toArray, List.set_cons_zero, List.set_cons_succ]) (hCont (va, vb, A2, k2, A3, k3, bvc, w2.heap.size) _ ⟨hHeld, Q3.out, O3.out, L1, D3.out⟩)
        rintro ⟨va, vb, A2, k2, A3, k3, bvc, nb⟩ w3 ⟨hHeld, hQ, hO, hL, hD⟩
        dsimp only at hQ hO hL
        have r0 := hO.cell 0
        have r1 := hO.cell 1
        have f0 := hO.free 0
        have f1 := hO.free 1
        simp at r0 r1
        refine norm_ (a' := ?_) ?_ ?_
        rotate_left
        · simp only [putAll, Act.put, List.setIfInBounds_toArray, List.set_cons_zero, List.set_cons_succ]
          rfl
        refine last_ (i := 8) (N := none) #[true, true, true, true, true, true, true, true, true, false] rfl rfl (by kernel_rfl) (by decide) (fun K hK => ?_)
        refine skip_ (w1 := ?_) (by rfl) rfl ?_ ?_
        rotate_left
        · go_simp
          rfl
        refine hK.out _ _ ?_
        clear hK K
        refine pure_ (i := 9) (N := some 8) (v := ?_) (a' := ?_) #[true, true, true, true, true, true, true, true, true, true] rfl rfl (by kernel_rfl) (fun _ _ _ h => h) (Or.inl ⟨by rfl, ?_⟩) ?_ ?_
        rotate_left
        · intro w'
          go_simp
          with_reducible rfl
        rotate_left
        · simp only [Act.put, List.setIfInBounds_toArray, List.set_cons_zero, List.set_cons_succ, i64_w, i32_w]
          rfl
        refine done_ (by kernel_rfl) ?_
        have HS8 := Lib.hid (BB.out.bel (bel_set (bel_set hD hL 0 (.slice A2 q.slots.length k2)) hL 1 (.slice A3 q.vols.length k3)))
        clear hQ hO hL hD f0 f1 r0 r1 hHeld s0 s1 s2 s3 s4 s5 s6 hcp hdo hfx D0 PI BB HQ
        generalize ((w3.setCell ⟨nb, 0, none⟩ (.slice A2 q.slots.length k2)).setCell ⟨nb, 1, none⟩ (.slice A3 q.vols.length k3)) = W8 at HS8 ⊢
        cases ok with
        | true =>
          have hsf := HS8.out
          have x0 := hsf.res.cell 0
          have x1 := hsf.res.cell 1
          have x2 := hsf.res.cell 2
          have x3 := hsf.res.cell 3
          have x4 := hsf.res.cell 4
          have f0 := hsf.res.free 0
          have f1 := hsf.res.free 1
          have f2 := hsf.res.free 2
          have f3 := hsf.res.free 3
          have f4 := hsf.res.free 4
          have y0 := hsf.op.cell 0
          have y1 := hsf.op.cell 1
          have y2 := hsf.op.cell 2
          have y3 := hsf.op.cell 3
          have y4 := hsf.op.cell 4
          have zr := hsf.res.lt
          have hne5 := hsf.l2
          simp [opCs, z5] at x0 x1 x2 x3 x4 y0 y1 y2 y3 y4
          clear hsf
          go_wp2
          have hsf := HS8.out
          have hl4 : rb < w.heap.size + 1 := by omega
          have hf := (((((hsf.res.set 0 (.int .i64 o.kind) (cs' := #[.int .i64 o.kind, .string ⟨#[]⟩, .string ⟨#[]⟩, .int .i64 0, .string ⟨#[]⟩]) rfl).set 1 (.string o.name) (cs' := #[.int .i64 o.kind, .string o.name, .string ⟨#[]⟩, .int .i64 0, .string ⟨#[]⟩]) rfl).set 2 (.string o.dest) (cs' := #[.int .i64 o.kind, .string o.name, .string o.dest, .int .i64 0, .string ⟨#[]⟩]) rfl).set 3 (.int .i64 o.n) (cs' := #[.int .i64 o.kind, .string o.name, .string o.dest, .int .i64 o.n, .string ⟨#[]⟩]) rfl).set 4 (.string o.text) (cs' := #[.int .i64 o.kind, .string o.name, .string o.dest, .int .i64 o.n, .string o.text]) rfl)
          have hgf := (grown_new (grown_new (grown_new (grown_new (grown_new hsf.g (Nat.le_succ w.heap.size) 0 (.int .i64 o.kind)) (Nat.le_succ w.heap.size) 1 (.string o.name)) (Nat.le_succ w.heap.size) 2 (.string o.dest)) (Nat.le_succ w.heap.size) 3 (.int .i64 o.n)) (Nat.le_succ w.heap.size) 4 (.string o.text))
          have hrf := (((((hsf.rd.set (b := w.heap.size + 1) hl4 0 (.int .i64 o.kind)).set (b := w.heap.size + 1) hl4 1 (.string o.name)).set (b := w.heap.size + 1) hl4 2 (.string o.dest)).set (b := w.heap.size + 1) hl4 3 (.int .i64 o.n)).set (b := w.heap.size + 1) hl4 4 (.string o.text))
          refine bodyPost_ret (results_cell_row rfl _ _ (w.heap.size + 1) 61 (opCs o) (0, 0) _ rfl hf Try.underlying61 rfl (by kernel_rfl)) rfl ?_
          exact ⟨_, rfl, ⟨o, rfl, HOI.out⟩, hrf.more (by omega), hgf⟩
        | false =>
          go_wp2_with fail
          refine (op_c HS8.out.rd (by omega)).mono ?_
          rintro e w5 ⟨v, rfl, ⟨o2, rfl, ho2⟩, hR5, hg5⟩
          have HOJ := Lib.hid (show OpIn o2 from ho2)
          have hs5 := HS8.out.step hR5 hg5
          clear ho2 hR5 hg5
          unfold opV
          have hz5 := hs5.op.lt
          have cz0 := hs5.op.cell 0
          have cz1 := hs5.op.cell 1
          have cz2 := hs5.op.cell 2
          have cz3 := hs5.op.cell 3
          have cz4 := hs5.op.cell 4
          have fz0 := hs5.op.free 0
          have fz1 := hs5.op.free 1
          have fz2 := hs5.op.free 2
          have fz3 := hs5.op.free 3
          have fz4 := hs5.op.free 4
          have bz0 := hs5.box.cell 0
          have bz1 := hs5.box.cell 1
          simp [opCs] at cz0 cz1 cz2 cz3 cz4 bz0 bz1
          unfold opCs at hs5
          have hs6 := (((((hs5.set 0 (.int .i64 o2.kind) (cs' := #[.int .i64 o2.kind, .string o.name, .string o.dest, .int .i64 o.n, .string o.text]) rfl).set 1 (.string o2.name) (cs' := #[.int .i64 o2.kind, .string o2.name, .string o.dest, .int .i64 o.n, .string o.text]) rfl).set 2 (.string o2.dest) (cs' := #[.int .i64 o2.kind, .string o2.name, .string o2.dest, .int .i64 o.n, .string o.text]) rfl).set 3 (.int .i64 o2.n) (cs' := #[.int .i64 o2.kind, .string o2.name, .string o2.dest, .int .i64 o2.n, .string o.text]) rfl).set 4 (.string o2.text) (cs' := #[.int .i64 o2.kind, .string o2.name, .string o2.dest, .int .i64 o2.n, .string o2.text]) rfl)
          clear hs5
          have hne7 := hs6.l2
          by_cases hv0 : nv = 0
          · subst hv0
            have HS6 := Lib.hid hs6
            clear hs6
            go_wp2
            go_roundg (8 - (j + 1))
            case measure => omega
            case rel => exact ⟨j + 1, o2, by omega, int_eq (by omega), HOJ.out, HS6.out.more (by omega)⟩
          have hv1 : 0 < nv := by omega
          have HS6 := Lib.hid hs6
          clear hs6
          go_wp2_with fail
          clear cz0 cz1 cz2 cz3 cz4 fz0 fz1 fz2 fz3 fz4 bz0 bz1 hz5
          generalize (((((w5.setCell ⟨ob, 0, none⟩ (.int .i64 o2.kind)).setCell ⟨ob, 1, none⟩ (.string o2.name)).setCell ⟨ob, 2, none⟩ (.string o2.dest)).setCell ⟨ob, 3, none⟩ (.int .i64 o2.n)).setCell ⟨ob, 4, none⟩ (.string o2.text)) = W6 at HS6 ⊢
          refine (pick_c HS6.out.rd (by omega) 3 (by omega)).mono ?_
          rintro e w7 ⟨v, rfl, ⟨r, rfl, hr0, hr1, -⟩, hR7, hg7⟩
          have hr2 := hr1 (by omega)
          have HS7 := Lib.hid (HS6.out.step hR7 hg7)
          clear hR7 hg7 hr1 HS6
          by_cases hr : r = 0
          · subst hr
            go_wp2
            go_roundg (8 - (j + 1))
            case measure => omega
            case rel => exact ⟨j + 1, o2, by omega, int_eq (by omega), HOJ.out, HS7.out.more (by omega)⟩
          have hr3 : 0 < r := by omega
          go_wp2
          have hs7 := HS7.out
          have bz0 := hs7.box.cell 0
          have bz1 := hs7.box.cell 1
          simp at bz0 bz1
          have hzo := hs7.op.lt
          clear hs7
          have HS8 := Lib.hid (HS7.out.bel (Below.refl _ _).drew)
          refine start_ (n := 12) (S := fun w' => w'.cell? ⟨w.heap.size, 1, none⟩ = some (.slice A1 nv c1)) (ds := [11]) #[false, false, false, false, false, false, false, false, false, false, false, false] (by kernel_rfl) rfl rfl (bz1) (fun hHeld => ?_)
          refine pure_ (i := 0) (N := some 37) (v := ?_) (a' := ?_) #[true, false, false, false, false, false, false, false, false, false, false, false] rfl rfl (by kernel_rfl) (fun _ _ _ h => h) (Or.inl ⟨by rfl, ?_⟩) ?_ ?_
          rotate_left
          · intro w'
            go_simp
            with_reducible rfl
          rotate_left
          · simp only [Act.put, List.setIfInBounds_toArray, List.set_cons_zero, List.set_cons_succ, i64_w, i32_w]
            rfl
          refine pure_ (i := 2) (N := some 39) (v := ?_) (a' := ?_) #[true, false, true, false, false, false, false, false, false, false, false, false] rfl rfl (by kernel_rfl) (fun _ _ _ h => h) (Or.inl ⟨by rfl, ?_⟩) ?_ ?_
          rotate_left
          · intro w'
            go_simp
            with_reducible rfl
          rotate_left
          · simp only [Act.put, List.setIfInBounds_toArray, List.set_cons_zero, List.set_cons_succ, i64_w, i32_w]
            rfl
          refine pure_ (i := 3) (N := some 40) (v := ?_) (a' := ?_) #[true, false, true, true, false, false, false, false, false, false, false, false] rfl rfl (by kernel_rfl) (fun _ _ _ h => h) (Or.inl ⟨by rfl, ?_⟩) ?_ ?_
          rotate_left
          · intro w'
            go_simp
            with_reducible rfl
          rotate_left
          · simp only [Act.put, List.setIfInBounds_toArray, List.set_cons_zero, List.set_cons_succ, i64_w, i32_w]
            rfl
          refine take_ (i := 1) (N := some 38) (v := ?_) (a' := ?_) #[true, true, true, true, false, false, false, false, false, false, false, false] rfl rfl (by kernel_rfl) (fun _ _ _ h => h) (Or.inl ⟨by rfl, ?_⟩) hHeld ?_ ?_
          rotate_left
          · intro w' s0
            go_simp
            with_reducible rfl
          rotate_left
          · simp only [Act.put, List.setIfInBounds_toArray, List.set_cons_zero, List.set_cons_succ, i64_w, i32_w]
            rfl
          refine take_ (i := 4) (N := some 41) (v := ?_) (a' := ?_) #[true, true, true, true, true, false, false, false, false, false, false, false] rfl rfl (by kernel_rfl) (fun _ _ _ h => h) (Or.inl ⟨by rfl, ?_⟩) hHeld ?_ ?_
          rotate_left
          · intro w' s0
            go_simp
            with_reducible rfl
          rotate_left
          · simp only [Act.put, List.setIfInBounds_toArray, List.set_cons_zero, List.set_cons_succ, i64_w, i32_w]
            rfl
          refine pure_ (i := 5) (N := some 42) (v := ?_) (a' := ?_) #[true, true, true, true, true, true, false, false, false, false, false, false] rfl rfl (by kernel_rfl) (fun _ _ _ h => h) (Or.inl ⟨by rfl, ?_⟩) ?_ ?_
          rotate_left
          · intro w'
            go_simp
            with_reducible rfl
          rotate_left
          · simp only [Act.put, List.setIfInBounds_toArray, List.set_cons_zero, List.set_cons_succ, i64_w, i32_w]
            rfl
          refine one_ (i := 6) (N := some 43) #[true, true, true, true, true, true, true, false, false, false, false, false] rfl rfl (by kernel_rfl) (by decide) (fun K hK => ?_)
          refine goes_ Try.func49 (by kernel_rfl) rfl #[.pointer (some ⟨rb, 0, none⟩), .int .i64 nv] (by rfl) rfl rfl (by simp only [List.map_toArray, List.map_cons, List.map_nil]; rfl) ?_
          with_reducible refine (pick_c (w := w7.drew) HS8.out.rd (by omega) nv (by omega)).mono ?_
          rintro e w8 ⟨v, rfl, ⟨r2, rfl, hr20, hr21, -⟩, hR8, hg8⟩
          have hr22 := hr21 (by omega)
          obtain ⟨i, rfl⟩ : ∃ i : Nat, r2 = i := ⟨r2.toNat, by omega⟩
          have hi : i < nv := by omega
          obtain ⟨x, hx⟩ := getQ (show i < p.vols.length by rw [HNV.out]; exact hi)
          have hs8 := HS8.out.step hR8 hg8
          obtain ⟨g, cap, bv, hbv, ev, hg1, hg2, hcap, hc, hc', hf, hf'⟩ := hs8.own.v.row.at hx
          have ev2 := slice_eq ev
          clear ev hcap
          obtain ⟨rfl, -, rfl⟩ := ev2
          have by1 := hs8.box.cell 1
          have hop1 := hs8.op.cell 1
          have hfo1 := hs8.op.free 1
          have hzo8 := hs8.op.lt
          simp [opCs] at by1 hop1
          have HS9 := Lib.hid hs8
          have HX := Lib.hid hx
          clear hs8 hR8 hg8 hr21 hbv hc' hf hf' hx
          refine ⟨_, rfl, ?_⟩
          refine hK.out _ _ (by1) (fun hHeld => ?_)
          clear hK K
          refine norm_ (a' := ?_) ?_ ?_
          rotate_left
          · show Act.put _ (some 43) _ = _
            simp only [Act.put, List.setIfInBounds_toArray, List.set_cons_zero, List.set_cons_succ, i64_w, i32_w]
            rfl
          refine pure_ (i := 7) (N := some 44) (v := ?_) (a' := ?_) #[true, true, true, true, true, true, true, true, false, false, false, false] rfl rfl (by kernel_rfl) (fun _ _ _ h => h) (Or.inl ⟨by rfl, ?_⟩) ?_ ?_
          rotate_left
          · intro w'
            go_simp
            with_reducible rfl
          rotate_left
          · simp only [Act.put, List.setIfInBounds_toArray, List.set_cons_zero, List.set_cons_succ, i64_w, i32_w]
            rfl
          refine pure_ (i := 8) (N := some 45) (v := ?_) (a' := ?_) #[true, true, true, true, true, true, true, true, true, false, false, false] rfl rfl (by kernel_rfl) (fun _ _ _ h => h) (Or.inl ⟨by rfl, ?_⟩) ?_ ?_
          rotate_left
          · intro w'
            go_simp
            with_reducible rfl
          rotate_left
          · simp only [Act.put, List.setIfInBounds_toArray, List.set_cons_zero, List.set_cons_succ, i64_w, i32_w]
            rfl
          refine one_ (i := 9) (N := some 46) #[true, true, true, true, true, true, true, true, true, true, false, false] rfl rfl (by kernel_rfl) (by decide) (fun K hK => ?_)
          refine value_ (w1 := ?_) (v := ?_) (by rfl) rfl ?_ ?_
          rotate_left 2
          · go_simp
            constructor
            · rfl
            · rfl
          refine hK.out _ _ (by1) (fun hHeld => ?_)
          clear hK K
          refine norm_ (a' := ?_) ?_ ?_
          rotate_left
          · show Act.put _ (some 46) _ = _
            simp only [Act.put, List.setIfInBounds_toArray, List.set_cons_zero, List.set_cons_succ, i64_w, i32_w]
            rfl
          refine pure_ (i := 10) (N := some 47) (v := ?_) (a' := ?_) #[true, true, true, true, true, true, true, true, true, true, true, false] rfl rfl (by kernel_rfl) (fun _ _ _ h => h) (Or.inl ⟨by rfl, ?_⟩) ?_ ?_
          rotate_left
          · intro w'
            go_simp
            with_reducible rfl
          rotate_left
          · simp only [Act.put, List.setIfInBounds_toArray, List.set_cons_zero, List.set_cons_succ, i64_w, i32_w]
            rfl
          refine last_ (i := 11) (N := none) #[true, true, true, true, true, true, true, true, true, true, true, true] rfl rfl (by kernel_rfl) (by decide) (fun K hK => ?_)
          refine skip_ (w1 := ?_) (by rfl) rfl ?_ ?_
          rotate_left
          · go_simp
            rfl
          refine hK.out _ _ ?_
          clear hK K
          refine done_ (by kernel_rfl) ?_
          have hs9 := HS9.out
          unfold opCs at hs9
          have hs10 := hs9.set 1 (.string x.name) (cs' := #[.int .i64 o2.kind, .string x.name, .string o2.dest, .int .i64 o2.n, .string o2.text]) rfl
          have HS10 := Lib.hid hs10
          clear hs9 hs10 hHeld bz1 by1 hop1 hc bz0
          have HOK := Lib.hid (show OpIn ⟨o2.kind, x.name, o2.dest, o2.n, o2.text⟩ from ⟨⟨HP.out.small.vols.name x (List.mem_of_getElem? HX.out), HOJ.out.1.dest, HOJ.out.1.text⟩, HOJ.out.2⟩)
          go_wp2
          go_roundg (8 - (j + 1))
          case measure => omega
          case rel => exact ⟨j + 1, ⟨o2.kind, x.name, o2.dest, o2.n, o2.text⟩, by omega, int_eq (by omega), HOK.out, HS10.out.more (by omega)⟩
      | false =>
        go_wp2_with fail
        refine (op_c HS2.out.rd (by omega)).mono ?_
        rintro e w5 ⟨v, rfl, ⟨o2, rfl, ho2⟩, hR5, hg5⟩
        have HOJ := Lib.hid (show OpIn o2 from ho2)
        have hs5 := HS2.out.step hR5 hg5
        clear ho2 hR5 hg5
        unfold opV
        have hz5 := hs5.op.lt
        have cz0 := hs5.op.cell 0
        have cz1 := hs5.op.cell 1
        have cz2 := hs5.op.cell 2
        have cz3 := hs5.op.cell 3
        have cz4 := hs5.op.cell 4
        have fz0 := hs5.op.free 0
        have fz1 := hs5.op.free 1
        have fz2 := hs5.op.free 2
        have fz3 := hs5.op.free 3
        have fz4 := hs5.op.free 4
        have bz0 := hs5.box.cell 0
        have bz1 := hs5.box.cell 1
        simp [opCs] at cz0 cz1 cz2 cz3 cz4 bz0 bz1
        unfold opCs at hs5
        have hs6 := (((((hs5.set 0 (.int .i64 o2.kind) (cs' := #[.int .i64 o2.kind, .string o.name, .string o.dest, .int .i64 o.n, .string o.text]) rfl).set 1 (.string o2.name) (cs' := #[.int .i64 o2.kind, .string o2.name, .string o.dest, .int .i64 o.n, .string o.text]) rfl).set 2 (.string o2.dest) (cs' := #[.int .i64 o2.kind, .string o2.name, .string o2.dest, .int .i64 o.n, .string o.text]) rfl).set 3 (.int .i64 o2.n) (cs' := #[.int .i64 o2.kind, .string o2.name, .string o2.dest, .int .i64 o2.n, .string o.text]) rfl).set 4 (.string o2.text) (cs' := #[.int .i64 o2.kind, .string o2.name, .string o2.dest, .int .i64 o2.n, .string o2.text]) rfl)
        clear hs5
        have hne7 := hs6.l2
        by_cases hv0 : nv = 0
        · subst hv0
          have HS6 := Lib.hid hs6
          clear hs6
          go_wp2
          go_roundg (8 - (j + 1))
          case measure => omega
          case rel => exact ⟨j + 1, o2, by omega, int_eq (by omega), HOJ.out, HS6.out.more (by omega)⟩
        have hv1 : 0 < nv := by omega
        have HS6 := Lib.hid hs6
        clear hs6
        go_wp2_with fail
        clear cz0 cz1 cz2 cz3 cz4 fz0 fz1 fz2 fz3 fz4 bz0 bz1 hz5
        generalize (((((w5.setCell ⟨ob, 0, none⟩ (.int .i64 o2.kind)).setCell ⟨ob, 1, none⟩ (.string o2.name)).setCell ⟨ob, 2, none⟩ (.string o2.dest)).setCell ⟨ob, 3, none⟩ (.int .i64 o2.n)).setCell ⟨ob, 4, none⟩ (.string o2.text)) = W6 at HS6 ⊢
        refine (pick_c HS6.out.rd (by omega) 3 (by omega)).mono ?_
        rintro e w7 ⟨v, rfl, ⟨r, rfl, hr0, hr1, -⟩, hR7, hg7⟩
        have hr2 := hr1 (by omega)
        have HS7 := Lib.hid (HS6.out.step hR7 hg7)
        clear hR7 hg7 hr1 HS6
        by_cases hr : r = 0
        · subst hr
          go_wp2
          go_roundg (8 - (j + 1))
          case measure => omega
          case rel => exact ⟨j + 1, o2, by omega, int_eq (by omega), HOJ.out, HS7.out.more (by omega)⟩
        have hr3 : 0 < r := by omega
        go_wp2
        have hs7 := HS7.out
        have bz0 := hs7.box.cell 0
        have bz1 := hs7.box.cell 1
        simp at bz0 bz1
        have hzo := hs7.op.lt
        clear hs7
        have HS8 := Lib.hid (HS7.out.bel (Below.refl _ _).drew)
        refine start_ (n := 12) (S := fun w' => w'.cell? ⟨w.heap.size, 1, none⟩ = some (.slice A1 nv c1)) (ds := [11]) #[false, false, false, false, false, false, false, false, false, false, false, false] (by kernel_rfl) rfl rfl (bz1) (fun hHeld => ?_)
        refine pure_ (i := 0) (N := some 37) (v := ?_) (a' := ?_) #[true, false, false, false, false, false, false, false, false, false, false, false] rfl rfl (by kernel_rfl) (fun _ _ _ h => h) (Or.inl ⟨by rfl, ?_⟩) ?_ ?_
        rotate_left
        · intro w'
          go_simp
          with_reducible rfl
        rotate_left
        · simp only [Act.put, List.setIfInBounds_toArray, List.set_cons_zero, List.set_cons_succ, i64_w, i32_w]
          rfl
        refine pure_ (i := 2) (N := some 39) (v := ?_) (a' := ?_) #[true, false, true, false, false, false, false, false, false, false, false, false] rfl rfl (by kernel_rfl) (fun _ _ _ h => h) (Or.inl ⟨by rfl, ?_⟩) ?_ ?_
        rotate_left
        · intro w'
          go_simp
          with_reducible rfl
        rotate_left
        · simp only [Act.put, List.setIfInBounds_toArray, List.set_cons_zero, List.set_cons_succ, i64_w, i32_w]
          rfl
        refine pure_ (i := 3) (N := some 40) (v := ?_) (a' := ?_) #[true, false, true, true, false, false, false, false, false, false, false, false] rfl rfl (by kernel_rfl) (fun _ _ _ h => h) (Or.inl ⟨by rfl, ?_⟩) ?_ ?_
        rotate_left
        · intro w'
          go_simp
          with_reducible rfl
        rotate_left
        · simp only [Act.put, List.setIfInBounds_toArray, List.set_cons_zero, List.set_cons_succ, i64_w, i32_w]
          rfl
        refine take_ (i := 1) (N := some 38) (v := ?_) (a' := ?_) #[true, true, true, true, false, false, false, false, false, false, false, false] rfl rfl (by kernel_rfl) (fun _ _ _ h => h) (Or.inl ⟨by rfl, ?_⟩) hHeld ?_ ?_
        rotate_left
        · intro w' s0
          go_simp
          with_reducible rfl
        rotate_left
        · simp only [Act.put, List.setIfInBounds_toArray, List.set_cons_zero, List.set_cons_succ, i64_w, i32_w]
          rfl
        refine take_ (i := 4) (N := some 41) (v := ?_) (a' := ?_) #[true, true, true, true, true, false, false, false, false, false, false, false] rfl rfl (by kernel_rfl) (fun _ _ _ h => h) (Or.inl ⟨by rfl, ?_⟩) hHeld ?_ ?_
        rotate_left
        · intro w' s0
          go_simp
          with_reducible rfl
        rotate_left
        · simp only [Act.put, List.setIfInBounds_toArray, List.set_cons_zero, List.set_cons_succ, i64_w, i32_w]
          rfl
        refine pure_ (i := 5) (N := some 42) (v := ?_) (a' := ?_) #[true, true, true, true, true, true, false, false, false, false, false, false] rfl rfl (by kernel_rfl) (fun _ _ _ h => h) (Or.inl ⟨by rfl, ?_⟩) ?_ ?_
        rotate_left
        · intro w'
          go_simp
          with_reducible rfl
        rotate_left
        · simp only [Act.put, List.setIfInBounds_toArray, List.set_cons_zero, List.set_cons_succ, i64_w, i32_w]
          rfl
        refine one_ (i := 6) (N := some 43) #[true, true, true, true, true, true, true, false, false, false, false, false] rfl rfl (by kernel_rfl) (by decide) (fun K hK => ?_)
        refine goes_ Try.func49 (by kernel_rfl) rfl #[.pointer (some ⟨rb, 0, none⟩), .int .i64 nv] (by rfl) rfl rfl (by simp only [List.map_toArray, List.map_cons, List.map_nil]; rfl) ?_
        with_reducible refine (pick_c (w := w7.drew) HS8.out.rd (by omega) nv (by omega)).mono ?_
        rintro e w8 ⟨v, rfl, ⟨r2, rfl, hr20, hr21, -⟩, hR8, hg8⟩
        have hr22 := hr21 (by omega)
        obtain ⟨i, rfl⟩ : ∃ i : Nat, r2 = i := ⟨r2.toNat, by omega⟩
        have hi : i < nv := by omega
        obtain ⟨x, hx⟩ := getQ (show i < p.vols.length by rw [HNV.out]; exact hi)
        have hs8 := HS8.out.step hR8 hg8
        obtain ⟨g, cap, bv, hbv, ev, hg1, hg2, hcap, hc, hc', hf, hf'⟩ := hs8.own.v.row.at hx
        have ev2 := slice_eq ev
        clear ev hcap
        obtain ⟨rfl, -, rfl⟩ := ev2
        have by1 := hs8.box.cell 1
        have hop1 := hs8.op.cell 1
        have hfo1 := hs8.op.free 1
        have hzo8 := hs8.op.lt
        simp [opCs] at by1 hop1
        have HS9 := Lib.hid hs8
        have HX := Lib.hid hx
        clear hs8 hR8 hg8 hr21 hbv hc' hf hf' hx
        refine ⟨_, rfl, ?_⟩
        refine hK.out _ _ (by1) (fun hHeld => ?_)
        clear hK K
        refine norm_ (a' := ?_) ?_ ?_
        rotate_left
        · show Act.put _ (some 43) _ = _
          simp only [Act.put, List.setIfInBounds_toArray, List.set_cons_zero, List.set_cons_succ, i64_w, i32_w]
          rfl
        refine pure_ (i := 7) (N := some 44) (v := ?_) (a' := ?_) #[true, true, true, true, true, true, true, true, false, false, false, false] rfl rfl (by kernel_rfl) (fun _ _ _ h => h) (Or.inl ⟨by rfl, ?_⟩) ?_ ?_
        rotate_left
        · intro w'
          go_simp
          with_reducible rfl
        rotate_left
        · simp only [Act.put, List.setIfInBounds_toArray, List.set_cons_zero, List.set_cons_succ, i64_w, i32_w]
          rfl
        refine pure_ (i := 8) (N := some 45) (v := ?_) (a' := ?_) #[true, true, true, true, true, true, true, true, true, false, false, false] rfl rfl (by kernel_rfl) (fun _ _ _ h => h) (Or.inl ⟨by rfl, ?_⟩) ?_ ?_
        rotate_left
        · intro w'
          go_simp
          with_reducible rfl
        rotate_left
        · simp only [Act.put, List.setIfInBounds_toArray, List.set_cons_zero, List.set_cons_succ, i64_w, i32_w]
          rfl
        refine one_ (i := 9) (N := some 46) #[true, true, true, true, true, true, true, true, true, true, false, false] rfl rfl (by kernel_rfl) (by decide) (fun K hK => ?_)
        refine value_ (w1 := ?_) (v := ?_) (by rfl) rfl ?_ ?_
        rotate_left 2
        · go_simp
          constructor
          · rfl
          · rfl
        refine hK.out _ _ (by1) (fun hHeld => ?_)
        clear hK K
        refine norm_ (a' := ?_) ?_ ?_
        rotate_left
        · show Act.put _ (some 46) _ = _
          simp only [Act.put, List.setIfInBounds_toArray, List.set_cons_zero, List.set_cons_succ, i64_w, i32_w]
          rfl
        refine pure_ (i := 10) (N := some 47) (v := ?_) (a' := ?_) #[true, true, true, true, true, true, true, true, true, true, true, false] rfl rfl (by kernel_rfl) (fun _ _ _ h => h) (Or.inl ⟨by rfl, ?_⟩) ?_ ?_
        rotate_left
        · intro w'
          go_simp
          with_reducible rfl
        rotate_left
        · simp only [Act.put, List.setIfInBounds_toArray, List.set_cons_zero, List.set_cons_succ, i64_w, i32_w]
          rfl
        refine last_ (i := 11) (N := none) #[true, true, true, true, true, true, true, true, true, true, true, true] rfl rfl (by kernel_rfl) (by decide) (fun K hK => ?_)
        refine skip_ (w1 := ?_) (by rfl) rfl ?_ ?_
        rotate_left
        · go_simp
          rfl
        refine hK.out _ _ ?_
        clear hK K
        refine done_ (by kernel_rfl) ?_
        have hs9 := HS9.out
        unfold opCs at hs9
        have hs10 := hs9.set 1 (.string x.name) (cs' := #[.int .i64 o2.kind, .string x.name, .string o2.dest, .int .i64 o2.n, .string o2.text]) rfl
        have HS10 := Lib.hid hs10
        clear hs9 hs10 hHeld bz1 by1 hop1 hc bz0
        have HOK := Lib.hid (show OpIn ⟨o2.kind, x.name, o2.dest, o2.n, o2.text⟩ from ⟨⟨HP.out.small.vols.name x (List.mem_of_getElem? HX.out), HOJ.out.1.dest, HOJ.out.1.text⟩, HOJ.out.2⟩)
        go_wp2
        go_roundg (8 - (j + 1))
        case measure => omega
        case rel => exact ⟨j + 1, ⟨o2.kind, x.name, o2.dest, o2.n, o2.text⟩, by omega, int_eq (by omega), HOK.out, HS10.out.more (by omega)⟩
    · have hj9 : j = 8 := by omega
      have hsf := HST.out
      have x0 := hsf.res.cell 0
      have x1 := hsf.res.cell 1
      have x2 := hsf.res.cell 2
      have x3 := hsf.res.cell 3
      have x4 := hsf.res.cell 4
      have f0 := hsf.res.free 0
      have f1 := hsf.res.free 1
      have f2 := hsf.res.free 2
      have f3 := hsf.res.free 3
      have f4 := hsf.res.free 4
      have y0 := hsf.op.cell 0
      have y1 := hsf.op.cell 1
      have y2 := hsf.op.cell 2
      have y3 := hsf.op.cell 3
      have y4 := hsf.op.cell 4
      have zr := hsf.res.lt
      have hne5 := hsf.l2
      simp [opCs, z5] at x0 x1 x2 x3 x4 y0 y1 y2 y3 y4
      clear hsf
      go_wp2
      have hsf := HST.out
      have hl4 : rb < w.heap.size + 1 := by omega
      have hf := (((((hsf.res.set 0 (.int .i64 o.kind) (cs' := #[.int .i64 o.kind, .string ⟨#[]⟩, .string ⟨#[]⟩, .int .i64 0, .string ⟨#[]⟩]) rfl).set 1 (.string o.name) (cs' := #[.int .i64 o.kind, .string o.name, .string ⟨#[]⟩, .int .i64 0, .string ⟨#[]⟩]) rfl).set 2 (.string o.dest) (cs' := #[.int .i64 o.kind, .string o.name, .string o.dest, .int .i64 0, .string ⟨#[]⟩]) rfl).set 3 (.int .i64 o.n) (cs' := #[.int .i64 o.kind, .string o.name, .string o.dest, .int .i64 o.n, .string ⟨#[]⟩]) rfl).set 4 (.string o.text) (cs' := #[.int .i64 o.kind, .string o.name, .string o.dest, .int .i64 o.n, .string o.text]) rfl)
      have hgf := (grown_new (grown_new (grown_new (grown_new (grown_new hsf.g (Nat.le_succ w.heap.size) 0 (.int .i64 o.kind)) (Nat.le_succ w.heap.size) 1 (.string o.name)) (Nat.le_succ w.heap.size) 2 (.string o.dest)) (Nat.le_succ w.heap.size) 3 (.int .i64 o.n)) (Nat.le_succ w.heap.size) 4 (.string o.text))
      have hrf := (((((hsf.rd.set (b := w.heap.size + 1) hl4 0 (.int .i64 o.kind)).set (b := w.heap.size + 1) hl4 1 (.string o.name)).set (b := w.heap.size + 1) hl4 2 (.string o.dest)).set (b := w.heap.size + 1) hl4 3 (.int .i64 o.n)).set (b := w.heap.size + 1) hl4 4 (.string o.text))
      refine bodyPost_ret (results_cell_row rfl _ _ (w.heap.size + 1) 61 (opCs o) (0, 0) _ rfl hf Try.underlying61 rfl (by kernel_rfl)) rfl ?_
      exact ⟨_, rfl, ⟨o, rfl, HOI.out⟩, hrf.more (by omega), hgf⟩
end Go.Proofs.Ytccllgpaafgjaaa
/- l71Ops: drawn changes, and the pool that they make. -/




namespace Go.Proofs.Ytccllgpaafgjaaa
open Go.RowKit Go.Proofs.YtccllgpaafgjaaaW.PrintWords Go.Proofs.YtccllgpaafgjaaaW.PrintLast
set_option linter.unusedVariables false
set_option linter.unusedSimpArgs false
theorem info_op : (Try.prog.info? 61).map (fun i => (i.zero, i.size, i.bytes)) = some (some (.agg #[.int .i64 0, .string ⟨#[]⟩, .string ⟨#[]⟩, .int .i64 0, .string ⟨#[]⟩]), 5, 64) := by kernel_rfl
theorem grown_own {w W W' : World} {rb : Nat} {r : Option Nat} (h : w.grownBy W (some rb)) (hg : W.grownBy W' r) (hr : ∀ k, r = some k → w.heap.size ≤ k) : w.grownBy W' (some rb) :=
  ⟨hg.os.trans h.os, hg.tape.trans h.tape, hg.output.trans h.output, Nat.le_trans h.size hg.size, fun i hi hne => (hg.block i (Nat.lt_of_lt_of_le hi h.size) (fun e => by have := hr i e.symm; omega)).trans (h.block i hi hne)⟩
structure OpsSt (w W : World) (rb k : Nat) (v0 v1 : Value) (p : Pool) (bvs : List Value) (pb n : Nat) (v7 : Value) (xs : List Value) : Prop where
  res : Blk W w.heap.size #[.slice none 0 0, .slice none 0 0] 49
  pool : Blk W pb #[v0, v1] 49
  rd : Rd W rb k
  own : OwnP W w.heap.size v0 v1 p bvs
  row : W.ownsRow w.heap.size 61 5 v7 n xs
  g : w.grownBy W (some rb)
  l2 : w.heap.size < pb
  l3 : rb < w.heap.size
theorem row_rd {w w' : World} {base : Nat} {e : TypeId} {sz n : Nat} {v : Value} {xs : List Value} (h : w.ownsRow base e sz v n xs) (he : e ≠ 108) {rb k : Nat} (hR : Rd w rb k) (hg : w.grownBy w' (some rb)) : w'.ownsRow base e sz v n xs := by
  obtain ⟨A, c, bs, q, hB, _⟩ := hR.h
  exact World.ownsRow.kept h hg (.inr fun e => own_ne h hB he e.symm)
theorem OpsSt.step {w W W' : World} {rb k k' : Nat} {v0 v1 : Value} {p : Pool} {bvs : List Value} {pb n : Nat} {v7 : Value} {xs : List Value} (h : OpsSt w W rb k v0 v1 p bvs pb n v7 xs) (hR : Rd W' rb k') (hg : W.grownBy W' (some rb)) : OpsSt w W' rb k' v0 v1 p bvs pb n v7 xs :=
  ⟨h.res.grown hg (fun e => by injection e with e; have := h.l3; omega), h.pool.grown hg (fun e => by injection e with e; have := h.l3; have := h.l2; omega), hR, h.own.rd h.rd hg, row_rd h.row (by decide) h.rd hg, grown_tr h.g hg, h.l2, h.l3⟩
theorem OpsSt.bel {w W W' : World} {rb k : Nat} {v0 v1 : Value} {p : Pool} {bvs : List Value} {pb n : Nat} {v7 : Value} {xs : List Value} (h : OpsSt w W rb k v0 v1 p bvs pb n v7 xs) (hb : Bel W W') : OpsSt w W' rb k v0 v1 p bvs pb n v7 xs :=
  ⟨h.res.bel hb, h.pool.bel hb, h.rd.bel hb, h.own.bel hb, pw_own_below h.row hb, grown_tr h.g (grown_of_bel hb _), h.l2, h.l3⟩
theorem OpsSt.turn {w W : World} {rb k : Nat} {v0 v1 u0 u1 : Value} {p q : Pool} {bvs bvq : List Value} {pb n : Nat} {v7 : Value} {xs : List Value} (h : OpsSt w W rb k v0 v1 p bvs pb n v7 xs) (hq : OwnP W w.heap.size u0 u1 q bvq) : OpsSt w ((W.setCell ⟨pb, 0, none⟩ u0).setCell ⟨pb, 1, none⟩ u1) rb k u0 u1 q bvq pb n v7 xs := by
  have hp1 := h.pool.set 0 u0 (cs' := #[u0, v1]) rfl
  have hlt : rb < pb := Nat.lt_trans h.l3 h.l2
  exact ⟨(h.res.apart (by have := h.l2; omega) 0 u0).apart (by have := h.l2; omega) 1 u1, hp1.set 1 u1 rfl, (h.rd.set hlt 0 u0).set hlt 1 u1, (hq.far h.pool (by decide) (by decide) (by decide) 0 u0).far hp1 (by decide) (by decide) (by decide) 1 u1,
    own_setCell (p := ⟨pb, 1, none⟩) (own_setCell (p := ⟨pb, 0, none⟩) h.row (own_ne h.row h.pool (by decide)) u0) (own_ne (own_setCell (p := ⟨pb, 0, none⟩) h.row (own_ne h.row h.pool (by decide)) u0) hp1 (by decide)) u1, grown_new (grown_new h.g (Nat.le_of_lt h.l2) 0 u0) (Nat.le_of_lt h.l2) 1 u1, h.l2, h.l3⟩
theorem OpsSt.app {w W W' : World} {rb k : Nat} {v0 v1 : Value} {p : Pool} {bvs : List Value} {pb n m : Nat} {v7 v7' : Value} {xs ys : List Value} (h : OpsSt w W rb k v0 v1 p bvs pb n v7 xs) (hg : W.grownBy W' v7.ownBlock) (hr : W'.ownsRow w.heap.size 61 5 v7' m ys) : OpsSt w W' rb k v0 v1 p bvs pb m v7' ys := by
  have key : ∀ {e : TypeId} {size n : Nat} {v : Value} {xs : List Value}, W.ownsRow w.heap.size e size v n xs → e ≠ 61 → W'.ownsRow w.heap.size e size v n xs := fun h' hne => own_other_type h' h.row hne hg
  exact ⟨h.res.grown hg (own_blk_ne h.row h.res (by decide)), h.pool.grown hg (own_blk_ne h.row h.pool (by decide)), h.rd.grown hg (fun b e => by have := own_base h.row b e; have := h.l3; omega),
    ⟨key h.own.s (by decide), ⟨⟨h.own.v.row.len, key h.own.v.row.row (by decide)⟩, fun m x b hx hb => key (h.own.v.inner m x b hx hb) (by decide), h.own.v.apart⟩⟩, hr, grown_own h.g hg (own_base h.row), h.l2, h.l3⟩
theorem OpsSt.fx {w W : World} {rb k : Nat} {v0 v1 : Value} {p : Pool} {bvs : List Value} {pb n : Nat} {v7 : Value} {xs : List Value} {ob : Nat} {o : Op} (h : OpsSt w W rb k v0 v1 p bvs pb n v7 xs ∧ Blk W ob (opCs o) 61) :
    W.cell? ⟨pb, 0, none⟩ = some v0 ∧ W.cell? ⟨pb, 1, none⟩ = some v1 ∧ W.cell? ⟨ob, 0, none⟩ = some (.int .i64 o.kind) ∧ W.cell? ⟨ob, 1, none⟩ = some (.string o.name) ∧ W.cell? ⟨ob, 2, none⟩ = some (.string o.dest) ∧ W.cell? ⟨ob, 3, none⟩ = some (.int .i64 o.n) ∧ W.cell? ⟨ob, 4, none⟩ = some (.string o.text) :=
  ⟨by rw [h.1.pool.cell]; rfl, by rw [h.1.pool.cell]; rfl, by rw [h.2.cell]; rfl, by rw [h.2.cell]; rfl, by rw [h.2.cell]; rfl, by rw [h.2.cell]; rfl, by rw [h.2.cell]; rfl⟩
structure OpsO (w W : World) (rb k : Nat) (v0 v1 : Value) (p : Pool) (bvs : List Value) (pb n : Nat) (v7 : Value) (xs : List Value) (ob : Nat) (o : Op) : Prop where
  st : OpsSt w W rb k v0 v1 p bvs pb n v7 xs
  op : Blk W ob (opCs o) 61
theorem OpsO.bel {w W W' : World} {rb k : Nat} {v0 v1 : Value} {p : Pool} {bvs : List Value} {pb n : Nat} {v7 : Value} {xs : List Value} {ob : Nat} {o : Op} (h : OpsO w W rb k v0 v1 p bvs pb n v7 xs ob o) (hb : Bel W W') : OpsO w W' rb k v0 v1 p bvs pb n v7 xs ob o := ⟨h.st.bel hb, h.op.bel hb⟩
theorem OpsO.fx {w W : World} {rb k : Nat} {v0 v1 : Value} {p : Pool} {bvs : List Value} {pb n : Nat} {v7 : Value} {xs : List Value} {ob : Nat} {o : Op} (h : OpsO w W rb k v0 v1 p bvs pb n v7 xs ob o) :
    W.cell? ⟨pb, 0, none⟩ = some v0 ∧ W.cell? ⟨pb, 1, none⟩ = some v1 ∧ W.cell? ⟨ob, 0, none⟩ = some (.int .i64 o.kind) ∧ W.cell? ⟨ob, 1, none⟩ = some (.string o.name) ∧ W.cell? ⟨ob, 2, none⟩ = some (.string o.dest) ∧ W.cell? ⟨ob, 3, none⟩ = some (.int .i64 o.n) ∧ W.cell? ⟨ob, 4, none⟩ = some (.string o.text) := OpsSt.fx ⟨h.st, h.op⟩
/-- What l71Ops leaves: a list of changes and a pool that is in form. -/
def OpsOut (rb k d : Nat) (w : World) (e : Ending) (w' : World) : Prop := ∃ (v7 v0 v1 : Value) (p : Pool) (bvs : List Value), e = .returned (.tuple #[v7, .agg #[v0, v1]]) ∧ PoolP p ∧ OwnP w' w.heap.size v0 v1 p bvs ∧ Rd w' rb (k + d) ∧ w.grownBy w' (some rb)
/-- The changes told as well. -/
def OpsOut2 (rb k d n : Nat) (w : World) (e : Ending) (w' : World) : Prop := ∃ (v7 v0 v1 : Value) (p : Pool) (bvs : List Value) (os : List Op), e = .returned (.tuple #[v7, .agg #[v0, v1]]) ∧ (PoolP p ∧ runP newP os = some p ∧ os.length ≤ n ∧ ∀ x ∈ os, SmallO x) ∧ OwnO w' w.heap.size v7 os ∧ OwnP w' w.heap.size v0 v1 p bvs ∧ Rd w' rb (k + d) ∧ w.grownBy w' (some rb)
structure OpsX (os : List Op) (m : Nat) (xs : List Value) (p : Pool) : Prop where
  len : os.length = m
  xs : xs = os.flatMap encO
  op : ∀ x ∈ os, SmallO x
  run : runP newP os = some p
theorem OpsX.snoc {os : List Op} {m : Nat} {xs : List Value} {p q : Pool} {o : Op} (h : OpsX os m xs p) (ho : SmallO o) (hok : opOk o = true) (hq : (opF p o).getD p = q) (hs : (opF p o).isSome = true) : OpsX (os ++ [o]) (m + 1) (xs ++ [.int .i64 o.kind, .string o.name, .string o.dest, .int .i64 o.n, .string o.text]) q := by
  obtain ⟨q', hq'⟩ := Option.isSome_iff_exists.1 hs
  rw [hq'] at hq
  obtain rfl : q' = q := hq
  refine ⟨by rw [List.length_append, h.len]; rfl, by rw [h.xs, List.flatMap_append]; rfl, fun x hx => ?_, ?_⟩
  · rcases List.mem_append.1 hx with hx | hx
    · exact h.op x hx
    · rw [List.mem_singleton.1 hx]; exact ho
  · rw [runP_snoc, h.run]
    show opR p o = _
    unfold opR
    rw [if_pos hok, hq']
set_option maxHeartbeats 16000000 in
set_option maxRecDepth 10000 in
theorem ops2_c {w : World} {rb k : Nat} (h : Rd w rb k) (hk : k ≤ 1099511000000) (n : Nat) (hn : n ≤ 100) :
    Calls Try.prog 86 #[.pointer (some ⟨rb, 0, none⟩), .int .i64 (n : Int)] w (OpsOut2 rb k 20000 n w) := by
  have H := Lib.hid h
  have hlt := h.lt
  clear h
  go_enter Try.func86, Try.ntmps86
  go_wp2_with fail
  refine (specPoolNew_c _).mono ?_
  rintro e w1 ⟨v0, v1, bvs, rfl, ho, hb1⟩
  have hb1' : Bel w w1 := (bel_alloc (Below.refl _ _) _ : Bel w (w.alloc (.cells #[.slice none 0 0, .slice none 0 0] 49))).tr hb1
  have hr1 : Blk w1 w.heap.size #[.slice none 0 0, .slice none 0 0] 49 := (Blk.new w _ _).bel hb1
  obtain ⟨A0, A1, c0, c1, rfl, rfl, hpi⟩ := ho.reads
  clear hpi
  have HS1 := Lib.hid (And.intro hb1' (And.intro hr1 ho))
  clear ho hb1 hb1' hr1
  go_wp2
  have hst : OpsSt w ((w1.alloc (.cells #[.slice A0 newP.slots.length c0, .slice A1 newP.vols.length c1] 49)).alloc (.cells #[] 61)) rb k (.slice A0 newP.slots.length c0) (.slice A1 newP.vols.length c1) newP bvs w1.heap.size 0 (.slice (some ⟨w1.heap.size + 1, 0, none⟩) 0 0) [] :=
    ⟨(HS1.out.2.1.alloc _).alloc _, (Blk.new w1 _ _).alloc _, H.out.bel (bel_alloc (bel_alloc HS1.out.1 _) _), (OwnP.bel (OwnP.lower HS1.out.2.2 (by simp)) (bel_alloc (bel_alloc (Below.refl _ _) _) _)), (show (w1.alloc (.cells #[.slice A0 newP.slots.length c0, .slice A1 newP.vols.length c1] 49)).heap.size = w1.heap.size + 1 by simp) ▸ own_empty _ w.heap.size 61 5 (by have := HS1.out.1.size; simp; omega), grown_of_bel (bel_alloc (bel_alloc HS1.out.1 _) _) _, HS1.out.2.1.lt, hlt⟩
  have HST := Lib.hid hst
  clear hst
  generalize ((w1.alloc (.cells #[.slice A0 newP.slots.length c0, .slice A1 newP.vols.length c1] 49)).alloc (.cells #[] 61)) = W4 at HST ⊢
  obtain ⟨pb, hpb⟩ : ∃ pb, w1.heap.size = pb := ⟨_, rfl⟩
  rw [hpb] at HST ⊢
  clear hpb HS1
  go_loopg [7, 8] n (fun gg v7 v8 W => ∃ (j m : Nat) (v0 v1 : Value) (p : Pool) (bvs : List Value) (xs : List Value) (os : List Op), gg + j = n ∧ v8 = .int .i64 j ∧ m ≤ j ∧ Hid (OpsX os m xs p) ∧ Hid (PoolP p) ∧ Hid (OpsSt w W rb (k + 200 * j) v0 v1 p bvs pb m v7 xs))
  case atStart => exact ⟨0, 0, _, _, newP, bvs, [], [], by omega, rfl, Nat.le_refl _, ⟨rfl, rfl, by simp, rfl⟩, newP_ok, HST.out⟩
  case round =>
    clear HST bvs
    obtain ⟨j, m, v0, v1, p, bvs, xs, os, hj, rfl, hmj, HOS, HP, HST⟩ := hrel
    obtain ⟨Y0, Y1, d0, d1, rfl, rfl, hpi⟩ := HST.out.own.reads
    obtain ⟨A7, c7, rfl, hc7⟩ := own_cap HST.out.row
    clear hpi
    have q0 := HST.out.pool.cell 0
    have q1 := HST.out.pool.cell 1
    simp at q0 q1
    by_cases hjn : j < n
    · have hjn' : (j : Int) < (n : Int) := by omega
      go_wp2_with fail
      refine (fits_c HST.out.rd (by omega) HST.out.own HP.out).mono ?_
      rintro e w2 ⟨v, rfl, ⟨o, rfl, hoi⟩, hR2, hg2⟩
      have hnm : SmallO o := hoi.1
      have HS2 := Lib.hid (HST.out.step hR2 hg2)
      clear q0 q1 hR2 hg2 hoi
      unfold opV
      go_wp2
      have HS3 := Lib.hid (show OpsO w (w2.alloc (.cells #[.int .i64 o.kind, .string o.name, .string o.dest, .int .i64 o.n, .string o.text] 61)) rb (k + 200 * j + 200) (.slice Y0 p.slots.length d0) (.slice Y1 p.vols.length d1) p bvs pb m (.slice A7 m c7) xs w2.heap.size o from ⟨HS2.out.bel (bel_alloc (Below.refl _ _) _), Blk.new w2 _ _⟩)
      generalize w2.alloc (.cells #[.int .i64 o.kind, .string o.name, .string o.dest, .int .i64 o.n, .string o.text] 61) = W3 at HS3 ⊢
      have hobp := HS2.out.pool.lt
      obtain ⟨ob, hob⟩ : ∃ ob, w2.heap.size = ob := ⟨_, rfl⟩
      rw [hob] at HS3 hobp ⊢
      clear hob HS2
      have BB := Lib.hid (HS3.out.bel (Below.refl _ _).drew)
      have D0 := Lib.hid (show Bel W3.drew W3.drew from Below.refl _ _)
      have hfx := Lib.hid (fun W => fun hb : Bel W3.drew W => (BB.out.bel hb).fx)
      have PI := Lib.hid (show PoolIn W3.drew Y0 Y1 d0 d1 p by obtain ⟨a0, a1, k0, k1, e0, e1, hh⟩ := BB.out.st.own.reads; have e0 := slice_eq e0; have e1 := slice_eq e1; obtain ⟨rfl, -, rfl⟩ := e0; obtain ⟨rfl, -, rfl⟩ := e1; exact hh)
      obtain ⟨q, hq⟩ : ∃ q, (opF p o).getD p = q := ⟨_, rfl⟩
      obtain ⟨ok, hokk⟩ : ∃ ok, (opF p o).isSome = ok := ⟨_, rfl⟩
      have hdo := Lib.hid (fun (W : World) (v0 v1 : Value) (bvs : List Value) (h : OwnP W W3.drew.heap.size v0 v1 p bvs) (hb : W3.drew.heap.size ≤ W.heap.size) => l12Do_c (o := o) h HP.out hb hnm)
      unfold TurnsP at hdo
      rw [hq, hokk] at hdo
      have HQ := Lib.hid (And.intro hq hokk)
      clear hq hokk
      obtain ⟨s0, s1, s2, s3, s4, s5, s6⟩ := hfx.out _ D0.out
      have hcp := Lib.hid (fun (W : World) (h : PoolIn W Y0 Y1 d0 d1 p) => l11Copy_c h HP.out.small)
      refine start_ (n := 10) (S := fun w' => w'.cell? ⟨pb, 0, none⟩ = some (.slice Y0 p.slots.length d0) ∧ w'.cell? ⟨pb, 1, none⟩ = some (.slice Y1 p.vols.length d1) ∧ w'.cell? ⟨ob, 0, none⟩ = some (.int .i64 o.kind) ∧ w'.cell? ⟨ob, 1, none⟩ = some (.string o.name) ∧ w'.cell? ⟨ob, 2, none⟩ = some (.string o.dest) ∧ w'.cell? ⟨ob, 3, none⟩ = some (.int .i64 o.n) ∧ w'.cell? ⟨ob, 4, none⟩ = some (.string o.text)) (ds := [8]) #[false, false, false, false, false, false, false, false, false, false] (by kernel_rfl) rfl rfl ⟨s0, s1, s2, s3, s4, s5, s6⟩ (fun hHeld => ?_)
      refine take_ (i := 0) (N := some 23) (v := ?_) (a' := ?_) #[true, false, false, false, false, false, false, false, false, false] rfl rfl (by kernel_rfl) (fun _ _ _ h => h) (Or.inl ⟨by rfl, ?_⟩) hHeld ?_ ?_
      rotate_left
      · rintro w' ⟨s0, s1, s2, s3, s4, s5, s6⟩
        go_simp
        with_reducible rfl
      rotate_left
      · simp only [Act.put, List.setIfInBounds_toArray, List.set_cons_zero, List.set_cons_succ, i64_w, i32_w]
        rfl
      refine take_ (i := 2) (N := some 25) (v := ?_) (a' := ?_) #[true, false, true, false, false, false, false, false, false, false] rfl rfl (by kernel_rfl) (fun _ _ _ h => h) (Or.inl ⟨by rfl, ?_⟩) hHeld ?_ ?_
      rotate_left
      · rintro w' ⟨s0, s1, s2, s3, s4, s5, s6⟩
        go_simp
        with_reducible rfl
      rotate_left
      · simp only [Act.put, List.setIfInBounds_toArray, List.set_cons_zero, List.set_cons_succ, i64_w, i32_w]
        rfl
      refine join_ (σ := Value × Value × Option Addr × Nat × Option Addr × Nat × List Value × Nat) 2 #[true, true, true, true, true, true, true, true, false, false] (fun s => [(24, .agg #[s.1, s.2.1]), (26, .tuple #[.agg #[.slice s.2.2.1 q.slots.length s.2.2.2.1, .slice s.2.2.2.2.1 q.vols.length s.2.2.2.2.2.1], .bool ok]), (22, .tuple #[.agg #[.slice s.2.2.1 q.slots.length s.2.2.2.1, .slice s.2.2.2.2.1 q.vols.length s.2.2.2.2.2.1], .bool ok]), (27, .agg #[.slice s.2.2.1 q.slots.length s.2.2.2.1, .slice s.2.2.2.2.1 q.vols.length s.2.2.2.2.2.1]), (28, .bool ok), (10, .pointer (some ⟨s.2.2.2.2.2.2.2, 0, none⟩))]) (fun s w' => (w'.cell? ⟨pb, 0, none⟩ = some (.slice Y0 p.slots.length d0) ∧ w'.cell? ⟨pb, 1, none⟩ = some (.slice Y1 p.vols.length d1) ∧ w'.cell? ⟨ob, 0, none⟩ = some (.int .i64 o.kind) ∧ w'.cell? ⟨ob, 1, none⟩ = some (.string o.name) ∧ w'.cell? ⟨ob, 2, none⟩ = some (.string o.dest) ∧ w'.cell? ⟨ob, 3, none⟩ = some (.int .i64 o.n) ∧ w'.cell? ⟨ob, 4, none⟩ = some (.string o.text)) ∧ OwnP w' W3.drew.heap.size (.slice s.2.2.1 q.slots.length s.2.2.2.1) (.slice s.2.2.2.2.1 q.vols.length s.2.2.2.2.2.1) q s.2.2.2.2.2.2.1 ∧ Blk w' s.2.2.2.2.2.2.2 #[.slice none 0 0, .slice none 0 0] 49 ∧ W3.drew.heap.size ≤ s.2.2.2.2.2.2.2 ∧ Bel W3.drew w') ?_ ?_
      rotate_left
      · intro hCont
        refine two_ (i := 1) (j := 7) (Ni := some 24) (Nj := some 10) #[true, true, true, false, false, false, false, false, false, false] #[true, false, true, false, false, false, false, true, false, false] rfl rfl rfl rfl (by kernel_rfl) (by decide) (by decide) (fun K hK => ?_) (fun K hK => ?_)
        · skip
          refine goes_ Try.func62 (by kernel_rfl) rfl #[.agg #[.slice Y0 p.slots.length d0, .slice Y1 p.vols.length d1]] (by rfl) rfl rfl (by simp only [List.map_toArray, List.map_cons, List.map_nil]; rfl) ?_
          with_reducible refine (hcp.out _ (PI.out.bel D0.out)).mono ?_
          rintro e w1_ ⟨va, vb, bva, rfl, ho, X1⟩
          have D1 := Lib.hid (Bel.tr D0.out X1)
          have P1 : Hid (OwnP w1_ W3.drew.heap.size va vb p bva) := Lib.hid (ho.lower D0.out.size)
          clear ho
          refine ⟨_, rfl, ?_⟩
          refine hK.out _ _ ⟨(hfx.out _ D1.out).1, (hfx.out _ D1.out).2.1, (hfx.out _ D1.out).2.2.1, (hfx.out _ D1.out).2.2.2.1, (hfx.out _ D1.out).2.2.2.2.1, (hfx.out _ D1.out).2.2.2.2.2.1, (hfx.out _ D1.out).2.2.2.2.2.2⟩ (fun hHeld => ?_)
          clear hK K
          refine norm_ (a' := ?_) ?_ ?_
          rotate_left
          · show Act.put _ (some 24) _ = _
            simp only [Act.put, List.setIfInBounds_toArray, List.set_cons_zero, List.set_cons_succ, i64_w, i32_w]
            rfl
          refine two_ (i := 3) (j := 7) (Ni := some 26) (Nj := some 10) #[true, true, true, true, false, false, false, false, false, false] #[true, true, true, false, false, false, false, true, false, false] rfl rfl rfl rfl (by kernel_rfl) (by decide) (by decide) (fun K hK => ?_) (fun K hK => ?_)
          · skip
            refine goes_ Try.func82 (by kernel_rfl) rfl #[.agg #[va, vb], .agg #[.int .i64 o.kind, .string o.name, .string o.dest, .int .i64 o.n, .string o.text]] (by rfl) rfl rfl (by simp only [List.map_toArray, List.map_cons, List.map_nil]; rfl) ?_
            with_reducible refine (hdo.out _ va vb bva P1.out D1.out.size).mono ?_
            rintro e w2_ ⟨vc, vd, bvc, rfl, ho, X2⟩
            have D2 : Hid (Bel W3.drew w2_) := Lib.hid (D1.out.trans X2.b)
            have Q2 := Lib.hid ho
            obtain ⟨A2, A3, k2, k3, rfl, rfl, hpi⟩ := ho.reads
            clear ho hpi
            refine ⟨_, rfl, ?_⟩
            refine hK.out _ _ ⟨(hfx.out _ D2.out).1, (hfx.out _ D2.out).2.1, (hfx.out _ D2.out).2.2.1, (hfx.out _ D2.out).2.2.2.1, (hfx.out _ D2.out).2.2.2.2.1, (hfx.out _ D2.out).2.2.2.2.2.1, (hfx.out _ D2.out).2.2.2.2.2.2⟩ (fun hHeld => ?_)
            clear hK K
            refine norm_ (a' := ?_) ?_ ?_
            rotate_left
            · show Act.put _ (some 26) _ = _
              simp only [Act.put, List.setIfInBounds_toArray, List.set_cons_zero, List.set_cons_succ, i64_w, i32_w]
              rfl
            refine pure_ (i := 4) (N := some 22) (v := ?_) (a' := ?_) #[true, true, true, true, true, false, false, false, false, false] rfl rfl (by kernel_rfl) (fun _ _ _ h => h) (Or.inl ⟨by rfl, ?_⟩) ?_ ?_
            rotate_left
            · intro w'
              go_simp
              with_reducible rfl
            rotate_left
            · simp only [Act.put, List.setIfInBounds_toArray, List.set_cons_zero, List.set_cons_succ, i64_w, i32_w]
              rfl
            refine pure_ (i := 5) (N := some 27) (v := ?_) (a' := ?_) #[true, true, true, true, true, true, false, false, false, false] rfl rfl (by kernel_rfl) (fun _ _ _ h => h) (Or.inl ⟨by rfl, ?_⟩) ?_ ?_
            rotate_left
            · intro w'
              go_simp
              with_reducible rfl
            rotate_left
            · simp only [Act.put, List.setIfInBounds_toArray, List.set_cons_zero, List.set_cons_succ, i64_w, i32_w]
              rfl
            refine pure_ (i := 6) (N := some 28) (v := ?_) (a' := ?_) #[true, true, true, true, true, true, true, false, false, false] rfl rfl (by kernel_rfl) (fun _ _ _ h => h) (Or.inl ⟨by rfl, ?_⟩) ?_ ?_
            rotate_left
            · intro w'
              go_simp
              with_reducible rfl
            rotate_left
            · simp only [Act.put, List.setIfInBounds_toArray, List.set_cons_zero, List.set_cons_succ, i64_w, i32_w]
              rfl
            refine one_ (i := 7) (N := some 10) #[true, true, true, true, true, true, true, true, false, false] rfl rfl (by kernel_rfl) (by decide) (fun K hK => ?_)
            refine value_ (w1 := ?_) (v := ?_) (by rfl) rfl ?_ ?_
            rotate_left 2
            · go_simp
              constructor
              · rfl
              · rfl
            have D3 : Hid (Bel W3.drew (w2_.alloc (.cells #[.slice none 0 0, .slice none 0 0] 49))) := Lib.hid (bel_alloc D2.out (.cells #[.slice none 0 0, .slice none 0 0] 49))
            have Q3 := Lib.hid (OwnP.bel Q2.out (bel_alloc (Below.refl _ _) (.cells #[.slice none 0 0, .slice none 0 0] 49)))
            have O3 : Hid (Blk (w2_.alloc (.cells #[.slice none 0 0, .slice none 0 0] 49)) w2_.heap.size #[.slice none 0 0, .slice none 0 0] 49) := Lib.hid (Blk.new w2_ #[.slice none 0 0, .slice none 0 0] 49)
            have L3 := D2.out.size
            refine hK.out _ _ ⟨(hfx.out _ D3.out).1, (hfx.out _ D3.out).2.1, (hfx.out _ D3.out).2.2.1, (hfx.out _ D3.out).2.2.2.1, (hfx.out _ D3.out).2.2.2.2.1, (hfx.out _ D3.out).2.2.2.2.2.1, (hfx.out _ D3.out).2.2.2.2.2.2⟩ (fun hHeld => ?_)
            clear hK K
            refine norm_ (a' := ?_) ?_ ?_
            rotate_left
            · show Act.put _ (some 10) _ = _
              simp only [Act.put, List.setIfInBounds_toArray, List.set_cons_zero, List.set_cons_succ, i64_w, i32_w]
              rfl
            exact norm_ (by simp only [putAll, Act.put, List.setIfInBounds_toArray, List.set_cons_zero, List.set_cons_succ]) (hCont (va, vb, A2, k2, A3, k3, bvc, w2_.heap.size) _ ⟨hHeld, Q3.out, O3.out, L3, D3.out⟩)
          · skip
            refine value_ (w1 := ?_) (v := ?_) (by rfl) rfl ?_ ?_
            rotate_left 2
            · go_simp
              constructor
              · rfl
              · rfl
            have D2 : Hid (Bel W3.drew (w1_.alloc (.cells #[.slice none 0 0, .slice none 0 0] 49))) := Lib.hid (bel_alloc D1.out (.cells #[.slice none 0 0, .slice none 0 0] 49))
            have P2 := Lib.hid (OwnP.bel P1.out (bel_alloc (Below.refl _ _) (.cells #[.slice none 0 0, .slice none 0 0] 49)))
            have O2 : Hid (Blk (w1_.alloc (.cells #[.slice none 0 0, .slice none 0 0] 49)) w1_.heap.size #[.slice none 0 0, .slice none 0 0] 49) := Lib.hid (Blk.new w1_ #[.slice none 0 0, .slice none 0 0] 49)
            have L2 := D1.out.size
            refine hK.out _ _ ⟨(hfx.out _ D2.out).1, (hfx.out _ D2.out).2.1, (hfx.out _ D2.out).2.2.1, (hfx.out _ D2.out).2.2.2.1, (hfx.out _ D2.out).2.2.2.2.1, (hfx.out _ D2.out).2.2.2.2.2.1, (hfx.out _ D2.out).2.2.2.2.2.2⟩ (fun hHeld => ?_)
            clear hK K
            refine norm_ (a' := ?_) ?_ ?_
            rotate_left
            · show Act.put _ (some 10) _ = _
              simp only [Act.put, List.setIfInBounds_toArray, List.set_cons_zero, List.set_cons_succ, i64_w, i32_w]
              rfl
            refine one_ (i := 3) (N := some 26) #[true, true, true, true, false, false, false, true, false, false] rfl rfl (by kernel_rfl) (by decide) (fun K hK => ?_)
            refine goes_ Try.func82 (by kernel_rfl) rfl #[.agg #[va, vb], .agg #[.int .i64 o.kind, .string o.name, .string o.dest, .int .i64 o.n, .string o.text]] (by rfl) rfl rfl (by simp only [List.map_toArray, List.map_cons, List.map_nil]; rfl) ?_
            with_reducible refine (hdo.out _ va vb bva P2.out D2.out.size).mono ?_
            rintro e w3_ ⟨vc, vd, bvc, rfl, ho, X3⟩
            have D3 : Hid (Bel W3.drew w3_) := Lib.hid (D2.out.trans X3.b)
            have O3 := Lib.hid (X3.k _ _ _ (by decide) (by decide) (by decide) O2.out)
            have Q3 := Lib.hid ho
            obtain ⟨A2, A3, k2, k3, rfl, rfl, hpi⟩ := ho.reads
            clear ho hpi
            refine ⟨_, rfl, ?_⟩
            refine hK.out _ _ ⟨(hfx.out _ D3.out).1, (hfx.out _ D3.out).2.1, (hfx.out _ D3.out).2.2.1, (hfx.out _ D3.out).2.2.2.1, (hfx.out _ D3.out).2.2.2.2.1, (hfx.out _ D3.out).2.2.2.2.2.1, (hfx.out _ D3.out).2.2.2.2.2.2⟩ (fun hHeld => ?_)
            clear hK K
            refine norm_ (a' := ?_) ?_ ?_
            rotate_left
            · show Act.put _ (some 26) _ = _
              simp only [Act.put, List.setIfInBounds_toArray, List.set_cons_zero, List.set_cons_succ, i64_w, i32_w]
              rfl
            refine pure_ (i := 4) (N := some 22) (v := ?_) (a' := ?_) #[true, true, true, true, true, false, false, true, false, false] rfl rfl (by kernel_rfl) (fun _ _ _ h => h) (Or.inl ⟨by rfl, ?_⟩) ?_ ?_
            rotate_left
            · intro w'
              go_simp
              with_reducible rfl
            rotate_left
            · simp only [Act.put, List.setIfInBounds_toArray, List.set_cons_zero, List.set_cons_succ, i64_w, i32_w]
              rfl
            refine pure_ (i := 5) (N := some 27) (v := ?_) (a' := ?_) #[true, true, true, true, true, true, false, true, false, false] rfl rfl (by kernel_rfl) (fun _ _ _ h => h) (Or.inl ⟨by rfl, ?_⟩) ?_ ?_
            rotate_left
            · intro w'
              go_simp
              with_reducible rfl
            rotate_left
            · simp only [Act.put, List.setIfInBounds_toArray, List.set_cons_zero, List.set_cons_succ, i64_w, i32_w]
              rfl
            refine pure_ (i := 6) (N := some 28) (v := ?_) (a' := ?_) #[true, true, true, true, true, true, true, true, false, false] rfl rfl (by kernel_rfl) (fun _ _ _ h => h) (Or.inl ⟨by rfl, ?_⟩) ?_ ?_
            rotate_left
            · intro w'
              go_simp
              with_reducible rfl
            rotate_left
            · simp only [Act.put, List.setIfInBounds_toArray, List.set_cons_zero, List.set_cons_succ, i64_w, i32_w]
              rfl
            exact norm_ (by simp only [putAll, Act.put, List.setIfInBounds_toArray, List.set_cons_zero, List.set_cons_succ]) (hCont (va, vb, A2, k2, A3, k3, bvc, w1_.heap.size) _ ⟨hHeld, Q3.out, O3.out, L2, D3.out⟩)
        · skip
          refine value_ (w1 := ?_) (v := ?_) (by rfl) rfl ?_ ?_
          rotate_left 2
          · go_simp
            constructor
            · rfl
            · rfl
          have D1 : Hid (Bel W3.drew (W3.alloc (.cells #[.slice none 0 0, .slice none 0 0] 49)).drew) := Lib.hid (bel_alloc D0.out (.cells #[.slice none 0 0, .slice none 0 0] 49))
          have O1 : Hid (Blk (W3.alloc (.cells #[.slice none 0 0, .slice none 0 0] 49)).drew W3.drew.heap.size #[.slice none 0 0, .slice none 0 0] 49) := Lib.hid (Blk.new W3.drew #[.slice none 0 0, .slice none 0 0] 49)
          have L1 := D0.out.size
          refine hK.out _ _ ⟨(hfx.out _ D1.out).1, (hfx.out _ D1.out).2.1, (hfx.out _ D1.out).2.2.1, (hfx.out _ D1.out).2.2.2.1, (hfx.out _ D1.out).2.2.2.2.1, (hfx.out _ D1.out).2.2.2.2.2.1, (hfx.out _ D1.out).2.2.2.2.2.2⟩ (fun hHeld => ?_)
          clear hK K
          refine norm_ (a' := ?_) ?_ ?_
          rotate_left
          · show Act.put _ (some 10) _ = _
            simp only [Act.put, List.setIfInBounds_toArray, List.set_cons_zero, List.set_cons_succ, i64_w, i32_w]
            rfl
          refine one_ (i := 1) (N := some 24) #[true, true, true, false, false, false, false, true, false, false] rfl rfl (by kernel_rfl) (by decide) (fun K hK => ?_)
          refine goes_ Try.func62 (by kernel_rfl) rfl #[.agg #[.slice Y0 p.slots.length d0, .slice Y1 p.vols.length d1]] (by rfl) rfl rfl (by simp only [List.map_toArray, List.map_cons, List.map_nil]; rfl) ?_
          with_reducible refine (hcp.out _ (PI.out.bel D1.out)).mono ?_
          rintro e w2_ ⟨va, vb, bva, rfl, ho, X2⟩
          have D2 := Lib.hid (Bel.tr D1.out X2)
          have O2 := Lib.hid (Blk.bel O1.out X2)
          have P2 : Hid (OwnP w2_ W3.drew.heap.size va vb p bva) := Lib.hid (ho.lower D1.out.size)
          clear ho
          refine ⟨_, rfl, ?_⟩
          refine hK.out _ _ ⟨(hfx.out _ D2.out).1, (hfx.out _ D2.out).2.1, (hfx.out _ D2.out).2.2.1, (hfx.out _ D2.out).2.2.2.1, (hfx.out _ D2.out).2.2.2.2.1, (hfx.out _ D2.out).2.2.2.2.2.1, (hfx.out _ D2.out).2.2.2.2.2.2⟩ (fun hHeld => ?_)
          clear hK K
          refine norm_ (a' := ?_) ?_ ?_
          rotate_left
          · show Act.put _ (some 24) _ = _
            simp only [Act.put, List.setIfInBounds_toArray, List.set_cons_zero, List.set_cons_succ, i64_w, i32_w]
            rfl
          refine one_ (i := 3) (N := some 26) #[true, true, true, true, false, false, false, true, false, false] rfl rfl (by kernel_rfl) (by decide) (fun K hK => ?_)
          refine goes_ Try.func82 (by kernel_rfl) rfl #[.agg #[va, vb], .agg #[.int .i64 o.kind, .string o.name, .string o.dest, .int .i64 o.n, .string o.text]] (by rfl) rfl rfl (by simp only [List.map_toArray, List.map_cons, List.map_nil]; rfl) ?_
          with_reducible refine (hdo.out _ va vb bva P2.out D2.out.size).mono ?_
          rintro e w3_ ⟨vc, vd, bvc, rfl, ho, X3⟩
          have D3 : Hid (Bel W3.drew w3_) := Lib.hid (D2.out.trans X3.b)
          have O3 := Lib.hid (X3.k _ _ _ (by decide) (by decide) (by decide) O2.out)
          have Q3 := Lib.hid ho
          obtain ⟨A2, A3, k2, k3, rfl, rfl, hpi⟩ := ho.reads
          clear ho hpi
          refine ⟨_, rfl, ?_⟩
          refine hK.out _ _ ⟨(hfx.out _ D3.out).1, (hfx.out _ D3.out).2.1, (hfx.out _ D3.out).2.2.1, (hfx.out _ D3.out).2.2.2.1, (hfx.out _ D3.out).2.2.2.2.1, (hfx.out _ D3.out).2.2.2.2.2.1, (hfx.out _ D3.out).2.2.2.2.2.2⟩ (fun hHeld => ?_)
          clear hK K
          refine norm_ (a' := ?_) ?_ ?_
          rotate_left
          · show Act.put _ (some 26) _ = _
            simp only [Act.put, List.setIfInBounds_toArray, List.set_cons_zero, List.set_cons_succ, i64_w, i32_w]
            rfl
          refine pure_ (i := 4) (N := some 22) (v := ?_) (a' := ?_) #[true, true, true, true, true, false, false, true, false, false] rfl rfl (by kernel_rfl) (fun _ _ _ h => h) (Or.inl ⟨by rfl, ?_⟩) ?_ ?_
          rotate_left
          · intro w'
            go_simp
            with_reducible rfl
          rotate_left
          · simp only [Act.put, List.setIfInBounds_toArray, List.set_cons_zero, List.set_cons_succ, i64_w, i32_w]
            rfl
          refine pure_ (i := 5) (N := some 27) (v := ?_) (a' := ?_) #[true, true, true, true, true, true, false, true, false, false] rfl rfl (by kernel_rfl) (fun _ _ _ h => h) (Or.inl ⟨by rfl, ?_⟩) ?_ ?_
          rotate_left
          · intro w'
            go_simp
            with_reducible rfl
          rotate_left
          · simp only [Act.put, List.setIfInBounds_toArray, List.set_cons_zero, List.set_cons_succ, i64_w, i32_w]
            rfl
          refine pure_ (i := 6) (N := some 28) (v := ?_) (a' := ?_) #[true, true, true, true, true, true, true, true, false, false] rfl rfl (by kernel_rfl) (fun _ _ _ h => h) (Or.inl ⟨by rfl, ?_⟩) ?_ ?_
          rotate_left
          · intro w'
            go_simp
            with_reducible rfl
          rotate_left
          · simp only [Act.put, List.setIfInBounds_toArray, List.set_cons_zero, List.set_cons_succ, i64_w, i32_w]
            rfl
          exact norm_ (by simp only [putAll, Act.put, List.setIfInBounds_toArray, List.set_cons_zero, List.set_cons_succ]) (hCont (va, vb, A2, k2, A3, k3, bvc, W3.heap.size) _ ⟨hHeld, Q3.out, O3.out, L1, D3.out⟩)
      rintro ⟨va, vb, A2, k2, A3, k3, bvc, nb⟩ w3 ⟨hHeld, hQ, hO, hL, hD⟩
      dsimp only at hQ hO hL
      have r0 := hO.cell 0
      have r1 := hO.cell 1
      have f0 := hO.free 0
      have f1 := hO.free 1
      simp at r0 r1
      refine norm_ (a' := ?_) ?_ ?_
      rotate_left
      · simp only [putAll, Act.put, List.setIfInBounds_toArray, List.set_cons_zero, List.set_cons_succ]
        rfl
      refine last_ (i := 8) (N := none) #[true, true, true, true, true, true, true, true, true, false] rfl rfl (by kernel_rfl) (by decide) (fun K hK => ?_)
      refine skip_ (w1 := ?_) (by rfl) rfl ?_ ?_
      rotate_left
      · go_simp
        rfl
      refine hK.out _ _ ?_
      clear hK K
      refine pure_ (i := 9) (N := some 11) (v := ?_) (a' := ?_) #[true, true, true, true, true, true, true, true, true, true] rfl rfl (by kernel_rfl) (fun _ _ _ h => h) (Or.inl ⟨by rfl, ?_⟩) ?_ ?_
      rotate_left
      · intro w'
        go_simp
        with_reducible rfl
      rotate_left
      · simp only [Act.put, List.setIfInBounds_toArray, List.set_cons_zero, List.set_cons_succ, i64_w, i32_w]
        rfl
      refine done_ (by kernel_rfl) ?_
      have hO4 := hO.set 0 (.slice A2 q.slots.length k2) (cs' := #[.slice A2 q.slots.length k2, .slice none 0 0]) rfl
      have HO5 := Lib.hid (hO4.set 1 (.slice A3 q.vols.length k3) (cs' := #[.slice A2 q.slots.length k2, .slice A3 q.vols.length k3]) rfl)
      have HQ5 := Lib.hid ((hQ.far hO (by decide) (by decide) (by decide) 0 (.slice A2 q.slots.length k2)).far hO4 (by decide) (by decide) (by decide) 1 (.slice A3 q.vols.length k3))
      have HS8 := Lib.hid (BB.out.bel (bel_set (bel_set hD hL 0 (.slice A2 q.slots.length k2)) hL 1 (.slice A3 q.vols.length k3)))
      have HQP := Lib.hid (show PoolP q from HQ.out.1 ▸ opF_getD HP.out)
      have hbase : w.heap.size ≤ W3.drew.heap.size := BB.out.st.g.size
      have HQ6 := Lib.hid (HQ5.out.lower hbase)
      clear hQ hO hO4 hL hD f0 f1 r0 r1 hHeld s0 s1 s2 s3 s4 s5 s6 hcp hdo hfx D0 PI BB HQ5 hbase
      generalize ((w3.setCell ⟨nb, 0, none⟩ (.slice A2 q.slots.length k2)).setCell ⟨nb, 1, none⟩ (.slice A3 q.vols.length k3)) = W8 at HS8 HO5 HQ6 ⊢
      have y0 := HS8.out.fx
      obtain ⟨s0, s1, s2, s3, s4, s5, s6⟩ := y0
      go_wp2_with fail
      refine (specOpOk_c o hnm _).mono ?_
      rintro e w9 ⟨rfl, hb9⟩
      have HS9 := Lib.hid (HS8.out.bel hb9)
      have HO9 := Lib.hid (HO5.out.bel hb9)
      have HQ9 := Lib.hid (HQ6.out.bel hb9)
      clear s0 s1 s2 s3 s4 s5 s6 HS8 HO5 HQ6 hb9
      cases hok : opOk o with
      | false =>
        go_wp2
        go_roundg (n - (j + 1))
        case measure => omega
        case rel => exact ⟨j + 1, m, _, _, p, bvs, xs, os, by omega, int_eq (by omega), by omega, HOS.out, HP.out, ⟨HS9.out.st.res, HS9.out.st.pool, HS9.out.st.rd.more (by omega), HS9.out.st.own, HS9.out.st.row, HS9.out.st.g, HS9.out.st.l2, HS9.out.st.l3⟩⟩
      | true =>
        cases ok with
        | false =>
          go_wp2
          go_roundg (n - (j + 1))
          case measure => omega
          case rel => exact ⟨j + 1, m, _, _, p, bvs, xs, os, by omega, int_eq (by omega), by omega, HOS.out, HP.out, ⟨HS9.out.st.res, HS9.out.st.pool, HS9.out.st.rd.more (by omega), HS9.out.st.own, HS9.out.st.row, HS9.out.st.g, HS9.out.st.l2, HS9.out.st.l3⟩⟩
        | true =>
          obtain ⟨s0, s1, s2, s3, s4, s5, s6⟩ := HS9.out.fx
          have f0 := HS9.out.st.pool.free 0
          have f1 := HS9.out.st.pool.free 1
          have hz9 := HS9.out.st.pool.lt
          have t0 := HO9.out.cell 0
          have t1 := HO9.out.cell 1
          simp at t0 t1
          have HT := Lib.hid (HS9.out.st.turn HQ9.out)
          have HX := Lib.hid (HOS.out.snoc hnm hok HQ.out.1 HQ.out.2)
          have hsz := HT.out.g.size
          have hm100 : m ≤ 100 := by omega
          have hn1 : ¬ ob = pb := by omega
          have hn2 : ¬ pb = ob := by omega
          go_wp2_with (at_builtin; refine print_append_cells (w0 := ((w9.setCell ⟨pb, 0, none⟩ (.slice A2 q.slots.length k2)).setCell ⟨pb, 1, none⟩ (.slice A3 q.vols.length k3))) w.heap.size rfl (.tmp 35) (.tmp 37) 24 61 (.agg #[.int .i64 0, .string ⟨#[]⟩, .string ⟨#[]⟩, .int .i64 0, .string ⟨#[]⟩]) 5 64 rfl Try.underlying24 info_op rfl (by decide) (by decide) _ m xs [.int .i64 o.kind, .string o.name, .string o.dest, .int .i64 o.n, .string o.text] rfl (by show Value.slice (some ⟨_, 0, none⟩) 1 1 = Value.slice (some ⟨_, 0, none⟩) 1 1; simp) rfl (by intro u hu; simp at hu; rcases hu with rfl | rfl | rfl | rfl | rfl <;> rfl) HT.out.row (Below.refl _ _) hsz (by omega) ?_; intro v2 w5 hr2 hbq hgq hat2)
          have HA := Lib.hid (HT.out.app hgq hr2)
          clear s0 s1 s2 s3 s4 s5 s6 f0 f1 t0 t1 hr2 hbq hgq hat2
          go_wp2
          go_roundg (n - (j + 1))
          case measure => omega
          case rel => exact ⟨j + 1, m + 1, _, _, q, _, _, os ++ [o], by omega, int_eq (by omega), by omega, HX.out, HQP.out, ⟨HA.out.res, HA.out.pool, HA.out.rd.more (by omega), HA.out.own, HA.out.row, HA.out.g, HA.out.l2, HA.out.l3⟩⟩
    · have hjn' : ¬ (j : Int) < (n : Int) := by omega
      go_wp2
      have HD := Lib.hid (HST.out.bel (Below.refl _ _).drew)
      have e0 := HD.out.res.cell 0
      have e1 := HD.out.res.cell 1
      have f0 := HST.out.res.free 0
      have f1 := HST.out.res.free 1
      have zr := HST.out.res.lt
      have p0 := HD.out.pool.cell 0
      have p1 := HD.out.pool.cell 1
      simp at e0 e1 p0 p1
      refine start_ (n := 4) (S := fun w' => w'.cell? ⟨pb, 0, none⟩ = some (.slice Y0 p.slots.length d0) ∧ w'.cell? ⟨pb, 1, none⟩ = some (.slice Y1 p.vols.length d1)) (ds := [3]) #[false, false, false, false] (by kernel_rfl) rfl rfl ⟨p0, p1⟩ (fun hHeld => ?_)
      refine pure_ (i := 0) (N := some 39) (v := ?_) (a' := ?_) #[true, false, false, false] rfl rfl (by kernel_rfl) (fun _ _ _ h => h) (Or.inl ⟨by rfl, ?_⟩) ?_ ?_
      rotate_left
      · intro w'
        go_simp
        with_reducible rfl
      rotate_left
      · simp only [Act.put, List.setIfInBounds_toArray, List.set_cons_zero, List.set_cons_succ, i64_w, i32_w]
        rfl
      refine pure_ (i := 2) (N := some 4) (v := ?_) (a' := ?_) #[true, false, true, false] rfl rfl (by kernel_rfl) (fun _ _ _ h => h) (Or.inl ⟨by rfl, ?_⟩) ?_ ?_
      rotate_left
      · intro w'
        go_simp
        with_reducible rfl
      rotate_left
      · simp only [Act.put, List.setIfInBounds_toArray, List.set_cons_zero, List.set_cons_succ, i64_w, i32_w]
        rfl
      refine take_ (i := 1) (N := some 40) (v := ?_) (a' := ?_) #[true, true, true, false] rfl rfl (by kernel_rfl) (fun _ _ _ h => h) (Or.inl ⟨by rfl, ?_⟩) hHeld ?_ ?_
      rotate_left
      · rintro w' ⟨s0, s1⟩
        go_simp
        with_reducible rfl
      rotate_left
      · simp only [Act.put, List.setIfInBounds_toArray, List.set_cons_zero, List.set_cons_succ, i64_w, i32_w]
        rfl
      refine last_ (i := 3) (N := none) #[true, true, true, true] rfl rfl (by kernel_rfl) (by decide) (fun K hK => ?_)
      refine skip_ (w1 := ?_) (by rfl) rfl ?_ ?_
      rotate_left
      · go_simp
        rfl
      refine hK.out _ _ ?_
      clear hK K
      refine done_ (by kernel_rfl) ?_
      clear p0 p1 e0 e1 f0 f1 zr hHeld HD
      have hl0 := HST.out.l3
      have hx1 := HST.out.res.set 0 (.slice Y0 p.slots.length d0) (cs' := #[.slice Y0 p.slots.length d0, .slice none 0 0]) rfl
      have hx2 := (hx1.set 1 (.slice Y1 p.vols.length d1) (cs' := #[.slice Y0 p.slots.length d0, .slice Y1 p.vols.length d1]) rfl).bel (Below.refl _ _).drew
      have ho2 := ((HST.out.own.far HST.out.res (by decide) (by decide) (by decide) 0 (.slice Y0 p.slots.length d0)).far hx1 (by decide) (by decide) (by decide) 1 (.slice Y1 p.vols.length d1)).bel (Below.refl _ _).drew
      have hr2 := ((HST.out.rd.set (b := w.heap.size) hl0 0 (.slice Y0 p.slots.length d0)).set (b := w.heap.size) hl0 1 (.slice Y1 p.vols.length d1)).bel (Below.refl _ _).drew
      have hw1 := own_setCell (p := ⟨w.heap.size, 0, none⟩) HST.out.row (own_ne HST.out.row HST.out.res (by decide)) (.slice Y0 p.slots.length d0)
      have hw2 := pw_own_below (own_setCell (p := ⟨w.heap.size, 1, none⟩) hw1 (own_ne hw1 hx1 (by decide)) (.slice Y1 p.vols.length d1)) (Below.refl _ _).drew
      have hg2 := grown_tr (grown_new (grown_new HST.out.g (Nat.le_refl _) 0 (.slice Y0 p.slots.length d0)) (Nat.le_refl _) 1 (.slice Y1 p.vols.length d1)) (grown_drew _ _)
      go_wp2
      refine bodyPost_ret (results_tc rfl _ _ w.heap.size 49 #[.slice Y0 p.slots.length d0, .slice Y1 p.vols.length d1] (0, 0) _ rfl hx2 Try.underlying49 rfl (by kernel_rfl)) rfl ?_
      exact ⟨_, _, _, p, bvs, os, rfl, ⟨HP.out, HOS.out.run, by have := HOS.out.len; omega, HOS.out.op⟩, by unfold OwnO; rw [HOS.out.len, ← HOS.out.xs]; exact hw2, ho2, hr2.more (by omega), hg2⟩
theorem ops_c {w : World} {rb k : Nat} (h : Rd w rb k) (hk : k ≤ 1099511000000) (n : Nat) (hn : n ≤ 100) :
    Calls Try.prog 86 #[.pointer (some ⟨rb, 0, none⟩), .int .i64 (n : Int)] w (OpsOut rb k 20000 w) :=
  (ops2_c h hk n hn).mono fun e w' ⟨v7, v0, v1, p, bvs, os, h1, h2, h3, h4, h5, h6⟩ => ⟨v7, v0, v1, p, bvs, h1, h2.1, h4, h5, h6⟩
end Go.Proofs.Ytccllgpaafgjaaa
/- A stub: l71Ops lies in Rf here. -/

namespace Go.Proofs.Ytccllgpaafgjaaa
end Go.Proofs.Ytccllgpaafgjaaa
/- l71Pool: a pool that is drawn. -/



namespace Go.Proofs.Ytccllgpaafgjaaa
open Go.RowKit Go.Proofs.YtccllgpaafgjaaaW.PrintWords Go.Proofs.YtccllgpaafgjaaaW.PrintLast
set_option linter.unusedVariables false
set_option linter.unusedSimpArgs false

/-- What is known of a pool that is drawn: it may be out of form. -/
structure DrawnP (p : Pool) : Prop where
  small : SmallP p
  sl : p.slots.length = 8
  vl : p.vols.length ≤ 5
theorem PoolP.drawn {p : Pool} (h : PoolP p) : DrawnP p := ⟨h.small, h.s.len, by have := h.v.len; omega⟩
theorem DrawnP.setU {p : Pool} (h : DrawnP p) {m : Nat} {x : Slot} (hx : p.slots[m]? = some x) (u : Int) : DrawnP ⟨p.slots.set m ⟨x.text, u⟩, p.vols⟩ :=
  ⟨⟨⟨by rw [List.length_set]; exact h.small.slots.len, fun y hy => by
    rcases List.mem_or_eq_of_mem_set hy with hy | rfl
    · exact h.small.slots.text y hy
    · exact h.small.slots.text x (List.mem_of_getElem? hx)⟩, h.small.vols⟩, by show (p.slots.set m _).length = 8; rw [List.length_set]; exact h.sl, h.vl⟩
theorem DrawnP.setB {p : Pool} (h : DrawnP p) {m : Nat} {x : Vol} (hx : p.vols[m]? = some x) (b : Int) : DrawnP ⟨p.slots, p.vols.set m ⟨x.name, x.blocks.set 0 b⟩⟩ := by
  have hs := h.small.vols
  refine ⟨⟨h.small.slots, ⟨by rw [List.length_set]; exact hs.len, fun y hy => ?_, fun y hy => ?_⟩⟩, h.sl, by show (p.vols.set m _).length ≤ 5; rw [List.length_set]; exact h.vl⟩
  · rcases List.mem_or_eq_of_mem_set hy with hy | rfl
    · exact hs.blocks y hy
    · show (x.blocks.set 0 b).length ≤ _
      rw [List.length_set]; exact hs.blocks x (List.mem_of_getElem? hx)
  · rcases List.mem_or_eq_of_mem_set hy with hy | rfl
    · exact hs.name y hy
    · exact hs.name x (List.mem_of_getElem? hx)
theorem PoolP.addA {p : Pool} (h : PoolP p) : DrawnP ⟨p.slots, p.vols ++ [⟨⟨#[65]⟩, [0]⟩]⟩ := by
  have hs := h.small.vols
  have hl := h.v.len
  refine ⟨⟨h.small.slots, ⟨by simp; omega, fun y hy => ?_, fun y hy => ?_⟩⟩, h.s.len, by simp; omega⟩
  · rcases List.mem_append.1 hy with hy | hy
    · exact hs.blocks y hy
    · obtain rfl := List.mem_singleton.1 hy; decide
  · rcases List.mem_append.1 hy with hy | hy
    · exact hs.name y hy
    · obtain rfl := List.mem_singleton.1 hy; decide
/-- What l71Pool leaves. -/
def PoolOut (rb k d : Nat) (w : World) (e : Ending) (w' : World) : Prop := ∃ (v0 v1 : Value) (p : Pool) (bvs : List Value), e = .returned (.agg #[v0, v1]) ∧ DrawnP p ∧ OwnP w' w.heap.size v0 v1 p bvs ∧ Rd w' rb (k + d) ∧ w.grownBy w' (some rb)
theorem OpsSt.own' {w W W' : World} {rb k : Nat} {v0 v1 : Value} {p q : Pool} {bvs bvq : List Value} {pb : Nat} (h : OpsSt w W rb k v0 v1 p bvs pb 0 (.slice none 0 0) []) {g : Nat} {cs : Array Value} {t : TypeId} (hB : Blk W g cs t) (ht : t ≠ 49) (hw : w.heap.size ≤ g) (hg : W.grownBy W' (some g)) (hq : OwnP W' w.heap.size v0 v1 q bvq) : OpsSt w W' rb k v0 v1 q bvq pb 0 (.slice none 0 0) [] := by
  have ne : ∀ {b : Nat} {ds : Array Value}, Blk W b ds 49 → some b ≠ some g := fun hb e => by
    injection e with e
    subst e
    have := hB.symm.trans hb
    injection this with this
    injection this with _ this
    exact ht this
  have hl := h.l3
  exact ⟨h.res.grown hg (ne h.res), h.pool.grown hg (ne h.pool), h.rd.grown hg (fun b e => by injection e with e; omega), hq, World.ownsRow_nil _ _ _ _, grown_own h.g hg (fun k e => by injection e with e; omega), h.l2, h.l3⟩
set_option maxHeartbeats 16000000 in
set_option maxRecDepth 10000 in
theorem pool_c {w : World} {rb k : Nat} (h : Rd w rb k) (hk : k ≤ 1099510000000) :
    Calls Try.prog 88 #[.pointer (some ⟨rb, 0, none⟩)] w (PoolOut rb k 20010 w) := by
  have H := Lib.hid h
  have hlt := h.lt
  clear h
  go_enter Try.func88, Try.ntmps88
  go_wp2_with fail
  have hr0 : Blk (w.alloc (.cells #[.slice none 0 0, .slice none 0 0] 49)) w.heap.size #[.slice none 0 0, .slice none 0 0] 49 := Blk.new _ _ _
  have hW : Bel w (w.alloc (.cells #[.slice none 0 0, .slice none 0 0] 49)) := bel_alloc (Below.refl _ _) _
  generalize (w.alloc (.cells #[.slice none 0 0, .slice none 0 0] 49)) = W0 at hr0 hW ⊢
  refine (pick_c (H.out.bel hW) (by omega) 22 (by omega)).mono ?_
  rintro e w1 ⟨v, rfl, ⟨r, rfl, hp0, hp1, -⟩, hR1, hg1⟩
  have hp2 := hp1 (by omega)
  obtain ⟨n, rfl⟩ : ∃ n : Nat, r = n := ⟨r.toNat, by omega⟩
  have HR1 := Lib.hid (And.intro (hr0.grown hg1 (by intro e; injection e with e; omega)) (And.intro hR1 (grown_tr (grown_of_bel hW _) hg1)))
  have hwn : wrap64 (3 + (n : Int)) = 3 + (n : Int) := by unfold wrap64; omega
  clear hr0 hW hR1 hg1 hp1
  go_wp2_with fail
  have hops := ops_c HR1.out.2.1 (by omega) (3 + n) (by omega)
  rw [show (((3 + n : Nat) : Int)) = 3 + (n : Int) by omega] at hops
  refine hops.mono ?_
  rintro e w3 ⟨v7, v0, v1, p, bvs, rfl, hp, ho, hR3, hg3⟩
  obtain ⟨A0, A1, c0, c1, rfl, rfl, hpi⟩ := ho.reads
  obtain ⟨nv, hnv⟩ : ∃ nv, p.vols.length = nv := ⟨_, rfl⟩
  obtain ⟨ns, hns⟩ : ∃ ns, p.slots.length = ns := ⟨_, rfl⟩
  have hst : OpsSt w (w3.alloc (.cells #[.slice A0 p.slots.length c0, .slice A1 p.vols.length c1] 49)) rb (k + 20001) (.slice A0 p.slots.length c0) (.slice A1 p.vols.length c1) p bvs w3.heap.size 0 (.slice none 0 0) [] :=
    ⟨(HR1.out.1.grown hg3 (by intro e; injection e with e; omega)).alloc _, Blk.new _ _ _, (hR3.bel (bel_alloc (Below.refl _ _) _)).more (by omega), (ho.lower (HR1.out.2.2.size)).bel (bel_alloc (Below.refl _ _) _), World.ownsRow_nil _ _ _ _, grown_tr (grown_tr HR1.out.2.2 hg3) (grown_of_bel (bel_alloc (Below.refl _ _) _) _), (HR1.out.1.grown hg3 (by intro e; injection e with e; omega)).lt, hlt⟩
  have hns1 : 1 ≤ ns := by rw [← hns, hp.s.len]; omega
  have hns2 : ns ≤ 8 := by rw [← hns, hp.s.len]; omega
  have hnv2 : nv ≤ 4 := by rw [← hnv]; exact hp.v.len
  rw [hns, hnv] at hst ⊢
  have HN := Lib.hid (And.intro hns hnv)
  have HP := Lib.hid hp
  have HST := Lib.hid hst
  clear ho hpi hR3 hg3 hst hns hnv hp hops hwn
  go_wp2_with fail
  generalize (w3.alloc (.cells #[.slice A0 ns c0, .slice A1 nv c1] 49)) = W4 at HST ⊢
  obtain ⟨pb, hpb⟩ : ∃ pb, w3.heap.size = pb := ⟨_, rfl⟩
  rw [hpb] at HST ⊢
  clear hpb
  refine (pick_c HST.out.rd (by omega) 30 (by omega)).mono ?_
  rintro e w5 ⟨v, rfl, ⟨r, rfl, hr0, hr1, -⟩, hR5, hg5⟩
  have hr2 := hr1 (by omega)
  have HS5 := Lib.hid (HST.out.step hR5 hg5)
  clear hr1 hR5 hg5 HST HR1
  by_cases hra : r = 0
  · subst hra
    have hs5 := HS5.out
    have y0 := hs5.pool.cell 0
    have y1 := hs5.pool.cell 1
    simp at y0 y1
    clear hs5
    go_wp2
    have HS6 := Lib.hid (HS5.out.bel (Below.refl _ _).drew)
    refine start_ (n := 12) (S := fun w' => w'.cell? ⟨pb, 0, none⟩ = some (.slice A0 ns c0)) (ds := [11]) #[false, false, false, false, false, false, false, false, false, false, false, false] (by kernel_rfl) rfl rfl (y0) (fun hHeld => ?_)
    refine pure_ (i := 0) (N := some 18) (v := ?_) (a' := ?_) #[true, false, false, false, false, false, false, false, false, false, false, false] rfl rfl (by kernel_rfl) (fun _ _ _ h => h) (Or.inl ⟨by rfl, ?_⟩) ?_ ?_
    rotate_left
    · intro w'
      go_simp
      with_reducible rfl
    rotate_left
    · simp only [Act.put, List.setIfInBounds_toArray, List.set_cons_zero, List.set_cons_succ, i64_w, i32_w]
      rfl
    refine pure_ (i := 2) (N := some 20) (v := ?_) (a' := ?_) #[true, false, true, false, false, false, false, false, false, false, false, false] rfl rfl (by kernel_rfl) (fun _ _ _ h => h) (Or.inl ⟨by rfl, ?_⟩) ?_ ?_
    rotate_left
    · intro w'
      go_simp
      with_reducible rfl
    rotate_left
    · simp only [Act.put, List.setIfInBounds_toArray, List.set_cons_zero, List.set_cons_succ, i64_w, i32_w]
      rfl
    refine pure_ (i := 3) (N := some 21) (v := ?_) (a' := ?_) #[true, false, true, true, false, false, false, false, false, false, false, false] rfl rfl (by kernel_rfl) (fun _ _ _ h => h) (Or.inl ⟨by rfl, ?_⟩) ?_ ?_
    rotate_left
    · intro w'
      go_simp
      with_reducible rfl
    rotate_left
    · simp only [Act.put, List.setIfInBounds_toArray, List.set_cons_zero, List.set_cons_succ, i64_w, i32_w]
      rfl
    refine pure_ (i := 7) (N := some 25) (v := ?_) (a' := ?_) #[true, false, true, true, false, false, false, true, false, false, false, false] rfl rfl (by kernel_rfl) (fun _ _ _ h => h) (Or.inl ⟨by rfl, ?_⟩) ?_ ?_
    rotate_left
    · intro w'
      go_simp
      with_reducible rfl
    rotate_left
    · simp only [Act.put, List.setIfInBounds_toArray, List.set_cons_zero, List.set_cons_succ, i64_w, i32_w]
      rfl
    refine take_ (i := 1) (N := some 19) (v := ?_) (a' := ?_) #[true, true, true, true, false, false, false, true, false, false, false, false] rfl rfl (by kernel_rfl) (fun _ _ _ h => h) (Or.inl ⟨by rfl, ?_⟩) hHeld ?_ ?_
    rotate_left
    · intro w' s0
      go_simp
      with_reducible rfl
    rotate_left
    · simp only [Act.put, List.setIfInBounds_toArray, List.set_cons_zero, List.set_cons_succ, i64_w, i32_w]
      rfl
    refine take_ (i := 4) (N := some 22) (v := ?_) (a' := ?_) #[true, true, true, true, true, false, false, true, false, false, false, false] rfl rfl (by kernel_rfl) (fun _ _ _ h => h) (Or.inl ⟨by rfl, ?_⟩) hHeld ?_ ?_
    rotate_left
    · intro w' s0
      go_simp
      with_reducible rfl
    rotate_left
    · simp only [Act.put, List.setIfInBounds_toArray, List.set_cons_zero, List.set_cons_succ, i64_w, i32_w]
      rfl
    refine pure_ (i := 5) (N := some 23) (v := ?_) (a' := ?_) #[true, true, true, true, true, true, false, true, false, false, false, false] rfl rfl (by kernel_rfl) (fun _ _ _ h => h) (Or.inl ⟨by rfl, ?_⟩) ?_ ?_
    rotate_left
    · intro w'
      go_simp
      with_reducible rfl
    rotate_left
    · simp only [Act.put, List.setIfInBounds_toArray, List.set_cons_zero, List.set_cons_succ, i64_w, i32_w]
      rfl
    refine one_ (i := 6) (N := some 24) #[true, true, true, true, true, true, true, true, false, false, false, false] rfl rfl (by kernel_rfl) (by decide) (fun K hK => ?_)
    refine goes_ Try.func49 (by kernel_rfl) rfl #[.pointer (some ⟨rb, 0, none⟩), .int .i64 ns] (by rfl) rfl rfl (by simp only [List.map_toArray, List.map_cons, List.map_nil]; rfl) ?_
    with_reducible refine (pick_c (w := w5.drew) HS6.out.rd (by omega) ns (by omega)).mono ?_
    rintro e w7 ⟨v, rfl, ⟨r2, rfl, hr20, hr21, -⟩, hR7, hg7⟩
    have hr22 := hr21 (by omega)
    obtain ⟨i, rfl⟩ : ∃ i : Nat, r2 = i := ⟨r2.toNat, by omega⟩
    have hi : i < ns := by omega
    have HS7 := Lib.hid (HS6.out.step hR7 hg7)
    have z0 := HS7.out.pool.cell 0
    simp at z0
    clear hR7 hg7 hr21
    refine ⟨_, rfl, ?_⟩
    refine hK.out _ _ (z0) (fun hHeld => ?_)
    clear hK K
    refine norm_ (a' := ?_) ?_ ?_
    rotate_left
    · show Act.put _ (some 24) _ = _
      simp only [Act.put, List.setIfInBounds_toArray, List.set_cons_zero, List.set_cons_succ, i64_w, i32_w]
      rfl
    refine one_ (i := 8) (N := some 26) #[true, true, true, true, true, true, true, true, true, false, false, false] rfl rfl (by kernel_rfl) (by decide) (fun K hK => ?_)
    refine goes_ Try.func49 (by kernel_rfl) rfl #[.pointer (some ⟨rb, 0, none⟩), .int .i64 4] (by rfl) rfl rfl (by simp only [List.map_toArray, List.map_cons, List.map_nil]; rfl) ?_
    with_reducible refine (pick_c HS7.out.rd (by omega) 4 (by omega)).mono ?_
    rintro e w8 ⟨v, rfl, ⟨r3, rfl, hr30, hr31, -⟩, hR8, hg8⟩
    have hr32 := hr31 (by omega)
    have HS8 := Lib.hid (HS7.out.step hR8 hg8)
    obtain ⟨x, hx⟩ := getQ (show i < p.slots.length by rw [HN.out.1]; exact hi)
    obtain ⟨g, cap, ev, hg1, hg2, hcap, hc, hc', hf, hf'⟩ := HS8.out.own.s.at hx
    have ev2 := slice_eq ev
    clear ev hcap
    obtain ⟨rfl, -, rfl⟩ := ev2
    have z1 := HS8.out.pool.cell 0
    simp at z1
    have HX := Lib.hid hx
    clear hR8 hg8 hr31 hx
    refine ⟨_, rfl, ?_⟩
    refine hK.out _ _ (z1) (fun hHeld => ?_)
    clear hK K
    refine norm_ (a' := ?_) ?_ ?_
    rotate_left
    · show Act.put _ (some 26) _ = _
      simp only [Act.put, List.setIfInBounds_toArray, List.set_cons_zero, List.set_cons_succ, i64_w, i32_w]
      rfl
    refine pure_ (i := 9) (N := some 27) (v := ?_) (a' := ?_) #[true, true, true, true, true, true, true, true, true, true, false, false] rfl rfl (by kernel_rfl) (fun _ _ _ h => h) (Or.inl ⟨by rfl, ?_⟩) ?_ ?_
    rotate_left
    · intro w'
      go_simp
      with_reducible rfl
    rotate_left
    · simp only [Act.put, List.setIfInBounds_toArray, List.set_cons_zero, List.set_cons_succ, i64_w, i32_w]
      rfl
    refine pure_ (i := 10) (N := some 28) (v := ?_) (a' := ?_) #[true, true, true, true, true, true, true, true, true, true, true, false] rfl rfl (by kernel_rfl) (fun _ _ _ h => h) (Or.inl ⟨by rfl, ?_⟩) ?_ ?_
    rotate_left
    · intro w'
      go_simp
      with_reducible rfl
    rotate_left
    · simp only [Act.put, List.setIfInBounds_toArray, List.set_cons_zero, List.set_cons_succ, i64_w, i32_w]
      rfl
    refine last_ (i := 11) (N := none) #[true, true, true, true, true, true, true, true, true, true, true, true] rfl rfl (by kernel_rfl) (by decide) (fun K hK => ?_)
    refine skip_ (w1 := ?_) (by rfl) rfl ?_ ?_
    rotate_left
    · go_simp
      rfl
    refine hK.out _ _ ?_
    clear hK K
    refine done_ (by kernel_rfl) ?_
    have hos := HS8.out.own.s
    rw [← HN.out.1] at hos
    have hu := OwnS.setU hos HX.out r3
    obtain ⟨cs, hcs⟩ := own_type hos rfl
    have hq : OwnP _ w.heap.size _ _ ⟨p.slots.set i ⟨x.text, r3⟩, p.vols⟩ bvs := ⟨hu.1, HS8.out.own.v.otherS hos hu.2⟩
    rw [HN.out.1] at hq
    have HS9 := Lib.hid (HS8.out.own' hcs (by decide) hg1 hu.2 hq)
    have DP := Lib.hid (HP.out.drawn.setU HX.out r3)
    clear hos hu hcs hq z1 z0 y0 y1 hf hf' hc hc' hHeld
    generalize w8.setCell ⟨g, i * 2 + 1, none⟩ (.int .i64 r3) = W9 at HS9 ⊢
    have hsf := HS9.out
    have x0 := hsf.res.cell 0
    have x1 := hsf.res.cell 1
    have f0 := hsf.res.free 0
    have f1 := hsf.res.free 1
    have y0 := hsf.pool.cell 0
    have y1 := hsf.pool.cell 1
    have zr := hsf.res.lt
    simp at x0 x1 y0 y1
    clear hsf
    go_wp2
    have hsf := HS9.out
    have hl0 := hsf.l3
    have hx1 := hsf.res.set 0 (.slice (some ⟨g, 0, none⟩) ns c0) (cs' := #[.slice (some ⟨g, 0, none⟩) ns c0, .slice none 0 0]) rfl
    have hx2 := hx1.set 1 (.slice A1 nv c1) (cs' := #[.slice (some ⟨g, 0, none⟩) ns c0, .slice A1 nv c1]) rfl
    have ho2 := (hsf.own.far hsf.res (by decide) (by decide) (by decide) 0 (.slice (some ⟨g, 0, none⟩) ns c0)).far hx1 (by decide) (by decide) (by decide) 1 (.slice A1 nv c1)
    have hr2 := (hsf.rd.set (b := w.heap.size) hl0 0 (.slice (some ⟨g, 0, none⟩) ns c0)).set (b := w.heap.size) hl0 1 (.slice A1 nv c1)
    have hg2 := grown_new (grown_new hsf.g (Nat.le_refl _) 0 (.slice (some ⟨g, 0, none⟩) ns c0)) (Nat.le_refl _) 1 (.slice A1 nv c1)
    refine bodyPost_ret (results_cell_row rfl _ _ w.heap.size 49 #[.slice (some ⟨g, 0, none⟩) ns c0, .slice A1 nv c1] (0, 0) _ rfl hx2 Try.underlying49 rfl (by kernel_rfl)) rfl ?_
    exact ⟨_, _, _, bvs, rfl, DP.out, ho2, hr2.more (by omega), hg2⟩
  by_cases hrb : r = 1
  · subst hrb
    by_cases hv0 : nv = 0
    · subst hv0
      have DP := Lib.hid HP.out.drawn
      have hsf := HS5.out
      have x0 := hsf.res.cell 0
      have x1 := hsf.res.cell 1
      have f0 := hsf.res.free 0
      have f1 := hsf.res.free 1
      have y0 := hsf.pool.cell 0
      have y1 := hsf.pool.cell 1
      have zr := hsf.res.lt
      simp at x0 x1 y0 y1
      clear hsf
      go_wp2
      have hsf := HS5.out
      have hl0 := hsf.l3
      have hx1 := hsf.res.set 0 (.slice A0 ns c0) (cs' := #[.slice A0 ns c0, .slice none 0 0]) rfl
      have hx2 := hx1.set 1 (.slice A1 0 c1) (cs' := #[.slice A0 ns c0, .slice A1 0 c1]) rfl
      have ho2 := (hsf.own.far hsf.res (by decide) (by decide) (by decide) 0 (.slice A0 ns c0)).far hx1 (by decide) (by decide) (by decide) 1 (.slice A1 0 c1)
      have hr2 := (hsf.rd.set (b := w.heap.size) hl0 0 (.slice A0 ns c0)).set (b := w.heap.size) hl0 1 (.slice A1 0 c1)
      have hg2 := grown_new (grown_new hsf.g (Nat.le_refl _) 0 (.slice A0 ns c0)) (Nat.le_refl _) 1 (.slice A1 0 c1)
      refine bodyPost_ret (results_cell_row rfl _ _ w.heap.size 49 #[.slice A0 ns c0, .slice A1 0 c1] (0, 0) _ rfl hx2 Try.underlying49 rfl (by kernel_rfl)) rfl ?_
      exact ⟨_, _, p, bvs, rfl, DP.out, ho2, hr2.more (by omega), hg2⟩
    have hs5 := HS5.out
    have hv1 : 0 < nv := by omega
    have y0 := hs5.pool.cell 0
    have y1 := hs5.pool.cell 1
    simp at y0 y1
    clear hs5
    go_wp2_with fail
    refine (pick_c HS5.out.rd (by omega) nv (by omega)).mono ?_
    rintro e w6 ⟨v, rfl, ⟨r2, rfl, hr20, hr21, -⟩, hR6, hg6⟩
    have hr22 := hr21 (by omega)
    obtain ⟨i, rfl⟩ : ∃ i : Nat, r2 = i := ⟨r2.toNat, by omega⟩
    have hi : i < nv := by omega
    obtain ⟨x, hx⟩ := getQ (show i < p.vols.length by rw [HN.out.2]; exact hi)
    have HS6 := Lib.hid (HS5.out.step hR6 hg6)
    clear y0 y1 hR6 hg6 hr21
    obtain ⟨g, cap, bv, hbv, ev, hg1, hg2, hcap, hc, hc', hf, hf'⟩ := HS6.out.own.v.row.at hx
    have ev2 := slice_eq ev
    clear ev hcap
    obtain ⟨rfl, -, rfl⟩ := ev2
    obtain ⟨b0, hb0⟩ := getQ (show 0 < x.blocks.length by have := volOk_parts (HP.out.v.v i x hx); omega)
    obtain ⟨gb, cb, eb, hgb1, hgb2, hcb, hcc, hff⟩ := (HS6.out.own.v.inner i x bv hx hbv).at hb0
    subst eb
    obtain ⟨bl, hbl⟩ : ∃ bl, x.blocks.length = bl := ⟨_, rfl⟩
    have hbl1 : 0 < bl := by rw [← hbl]; have := volOk_parts (HP.out.v.v i x hx); omega
    rw [hbl] at hc' hbv
    have HX := Lib.hid (And.intro hx (And.intro hbv (And.intro hb0 hbl)))
    have y0 := HS6.out.pool.cell 0
    have y1 := HS6.out.pool.cell 1
    simp at y0 y1
    have hc2 : w6.drew.cell? ⟨g, i * 2 + 1, none⟩ = some (.slice (some ⟨gb, 0, none⟩) bl cb) := hc'
    clear hx hbv hb0 hbl hcb hcc hff hf hf' hc
    go_wp2
    have HS7 := Lib.hid (HS6.out.bel (Below.refl _ _).drew)
    refine start_ (n := 10) (S := fun w' => w'.cell? ⟨pb, 1, none⟩ = some (.slice (some ⟨g, 0, none⟩) nv c1) ∧ w'.cell? ⟨g, i * 2 + 1, none⟩ = some (.slice (some ⟨gb, 0, none⟩) bl cb)) (ds := [9]) #[false, false, false, false, false, false, false, false, false, false] (by kernel_rfl) rfl rfl ⟨y1, hc'⟩ (fun hHeld => ?_)
    refine pure_ (i := 0) (N := some 40) (v := ?_) (a' := ?_) #[true, false, false, false, false, false, false, false, false, false] rfl rfl (by kernel_rfl) (fun _ _ _ h => h) (Or.inl ⟨by rfl, ?_⟩) ?_ ?_
    rotate_left
    · intro w'
      go_simp
      with_reducible rfl
    rotate_left
    · simp only [Act.put, List.setIfInBounds_toArray, List.set_cons_zero, List.set_cons_succ, i64_w, i32_w]
      rfl
    refine pure_ (i := 2) (N := some 42) (v := ?_) (a' := ?_) #[true, false, true, false, false, false, false, false, false, false] rfl rfl (by kernel_rfl) (fun _ _ _ h => h) (Or.inl ⟨by rfl, ?_⟩) ?_ ?_
    rotate_left
    · intro w'
      go_simp
      with_reducible rfl
    rotate_left
    · simp only [Act.put, List.setIfInBounds_toArray, List.set_cons_zero, List.set_cons_succ, i64_w, i32_w]
      rfl
    refine pure_ (i := 6) (N := some 46) (v := ?_) (a' := ?_) #[true, false, true, false, false, false, true, false, false, false] rfl rfl (by kernel_rfl) (fun _ _ _ h => h) (Or.inl ⟨by rfl, ?_⟩) ?_ ?_
    rotate_left
    · intro w'
      go_simp
      with_reducible rfl
    rotate_left
    · simp only [Act.put, List.setIfInBounds_toArray, List.set_cons_zero, List.set_cons_succ, i64_w, i32_w]
      rfl
    refine take_ (i := 1) (N := some 41) (v := ?_) (a' := ?_) #[true, true, true, false, false, false, true, false, false, false] rfl rfl (by kernel_rfl) (fun _ _ _ h => h) (Or.inl ⟨by rfl, ?_⟩) hHeld ?_ ?_
    rotate_left
    · rintro w' ⟨s0, s1⟩
      go_simp
      with_reducible rfl
    rotate_left
    · simp only [Act.put, List.setIfInBounds_toArray, List.set_cons_zero, List.set_cons_succ, i64_w, i32_w]
      rfl
    refine pure_ (i := 3) (N := some 43) (v := ?_) (a' := ?_) #[true, true, true, true, false, false, true, false, false, false] rfl rfl (by kernel_rfl) (fun _ _ _ h => h) (Or.inl ⟨by rfl, ?_⟩) ?_ ?_
    rotate_left
    · intro w'
      go_simp
      with_reducible rfl
    rotate_left
    · simp only [Act.put, List.setIfInBounds_toArray, List.set_cons_zero, List.set_cons_succ, i64_w, i32_w]
      rfl
    refine pure_ (i := 4) (N := some 44) (v := ?_) (a' := ?_) #[true, true, true, true, true, false, true, false, false, false] rfl rfl (by kernel_rfl) (fun _ _ _ h => h) (Or.inl ⟨by rfl, ?_⟩) ?_ ?_
    rotate_left
    · intro w'
      go_simp
      with_reducible rfl
    rotate_left
    · simp only [Act.put, List.setIfInBounds_toArray, List.set_cons_zero, List.set_cons_succ, i64_w, i32_w]
      rfl
    refine take_ (i := 5) (N := some 45) (v := ?_) (a' := ?_) #[true, true, true, true, true, true, true, false, false, false] rfl rfl (by kernel_rfl) (fun _ _ _ h => h) (Or.inl ⟨by rfl, ?_⟩) hHeld ?_ ?_
    rotate_left
    · rintro w' ⟨s0, s1⟩
      go_simp
      with_reducible rfl
    rotate_left
    · simp only [Act.put, List.setIfInBounds_toArray, List.set_cons_zero, List.set_cons_succ, i64_w, i32_w]
      rfl
    refine one_ (i := 7) (N := some 47) #[true, true, true, true, true, true, true, true, false, false] rfl rfl (by kernel_rfl) (by decide) (fun K hK => ?_)
    refine goes_ Try.func49 (by kernel_rfl) rfl #[.pointer (some ⟨rb, 0, none⟩), .int .i64 10] (by rfl) rfl rfl (by simp only [List.map_toArray, List.map_cons, List.map_nil]; rfl) ?_
    with_reducible refine (pick_c (w := w6.drew) HS7.out.rd (by omega) 10 (by omega)).mono ?_
    rintro e w8 ⟨v, rfl, ⟨r3, rfl, hr30, hr31, -⟩, hR8, hg8⟩
    have hr32 := hr31 (by omega)
    have HS8 := Lib.hid (HS7.out.step hR8 hg8)
    obtain ⟨hx, hbv, hb0, hbl⟩ := HX.out
    rw [← hbl] at hbv
    obtain ⟨g', cap', bv', e1, e2, _, _, _, _, z2, _, _⟩ := HS8.out.own.v.row.at hx
    have e3 := slice_eq e2
    clear e2
    obtain ⟨e2, -, -⟩ := e3
    obtain rfl : g = g' := by simpa using e2
    obtain rfl := Option.some.inj (hbv.symm.trans e1)
    rw [hbl] at z2
    have hoi := HS8.out.own.v.inner i x _ hx hbv
    obtain ⟨gb', cb', eb, hgb3, hgb4, _, hcc, hff⟩ := hoi.at hb0
    have eb2 := slice_eq eb
    clear eb
    obtain ⟨eb3, -, -⟩ := eb2
    obtain rfl : gb = gb' := by simpa using eb3
    have z1 := HS8.out.pool.cell 1
    simp at z1
    clear hx hbv hb0 hbl e1 e2 eb3 hoi hR8 hg8 hr31
    refine ⟨_, rfl, ?_⟩
    refine hK.out _ _ ⟨z1, z2⟩ (fun hHeld => ?_)
    clear hK K
    refine norm_ (a' := ?_) ?_ ?_
    rotate_left
    · show Act.put _ (some 47) _ = _
      simp only [Act.put, List.setIfInBounds_toArray, List.set_cons_zero, List.set_cons_succ, i64_w, i32_w]
      rfl
    refine pure_ (i := 8) (N := some 48) (v := ?_) (a' := ?_) #[true, true, true, true, true, true, true, true, true, false] rfl rfl (by kernel_rfl) (fun _ _ _ h => h) (Or.inl ⟨by rfl, ?_⟩) ?_ ?_
    rotate_left
    · intro w'
      go_simp
      with_reducible rfl
    rotate_left
    · simp only [Act.put, List.setIfInBounds_toArray, List.set_cons_zero, List.set_cons_succ, i64_w, i32_w]
      rfl
    refine last_ (i := 9) (N := none) #[true, true, true, true, true, true, true, true, true, true] rfl rfl (by kernel_rfl) (by decide) (fun K hK => ?_)
    refine skip_ (w1 := ?_) (by rfl) rfl ?_ ?_
    rotate_left
    · go_simp
      rfl
    refine hK.out _ _ ?_
    clear hK K
    refine done_ (by kernel_rfl) ?_
    obtain ⟨hx, hbv, hb0, hbl⟩ := HX.out
    rw [← hbl] at hbv
    have hoi := HS8.out.own.v.inner i x _ hx hbv
    have hu := OwnI.set hoi hb0 r3
    obtain ⟨cs, hcs⟩ := own_type hoi rfl
    have hv2 := HS8.out.own.v.setI hx hbv (by have := hu.1; unfold OwnI at this ⊢; rw [List.length_set] at this ⊢; exact this) hu.2
    have hq : OwnP _ w.heap.size _ _ ⟨p.slots, p.vols.set i ⟨x.name, x.blocks.set 0 r3⟩⟩ bvs := ⟨own_other_type HS8.out.own.s hoi (by decide) hu.2, hv2⟩
    have HS9 := Lib.hid (HS8.out.own' hcs (by decide) hgb3 hu.2 hq)
    have DP := Lib.hid (HP.out.drawn.setB hx r3)
    clear hx hbv hb0 hbl hoi hu hcs hv2 hq z1 z2 y0 y1 hcc hff hc' hc2 hHeld
    generalize w8.setCell ⟨gb, 0, none⟩ (.int .i64 r3) = W9 at HS9 ⊢
    have hsf := HS9.out
    have x0 := hsf.res.cell 0
    have x1 := hsf.res.cell 1
    have f0 := hsf.res.free 0
    have f1 := hsf.res.free 1
    have y0 := hsf.pool.cell 0
    have y1 := hsf.pool.cell 1
    have zr := hsf.res.lt
    simp at x0 x1 y0 y1
    clear hsf
    go_wp2
    have hsf := HS9.out
    have hl0 := hsf.l3
    have hx1 := hsf.res.set 0 (.slice A0 ns c0) (cs' := #[.slice A0 ns c0, .slice none 0 0]) rfl
    have hx2 := hx1.set 1 (.slice (some ⟨g, 0, none⟩) nv c1) (cs' := #[.slice A0 ns c0, .slice (some ⟨g, 0, none⟩) nv c1]) rfl
    have ho2 := (hsf.own.far hsf.res (by decide) (by decide) (by decide) 0 (.slice A0 ns c0)).far hx1 (by decide) (by decide) (by decide) 1 (.slice (some ⟨g, 0, none⟩) nv c1)
    have hr2 := (hsf.rd.set (b := w.heap.size) hl0 0 (.slice A0 ns c0)).set (b := w.heap.size) hl0 1 (.slice (some ⟨g, 0, none⟩) nv c1)
    have hg2 := grown_new (grown_new hsf.g (Nat.le_refl _) 0 (.slice A0 ns c0)) (Nat.le_refl _) 1 (.slice (some ⟨g, 0, none⟩) nv c1)
    refine bodyPost_ret (results_cell_row rfl _ _ w.heap.size 49 #[.slice A0 ns c0, .slice (some ⟨g, 0, none⟩) nv c1] (0, 0) _ rfl hx2 Try.underlying49 rfl (by kernel_rfl)) rfl ?_
    exact ⟨_, _, _, bvs, rfl, DP.out, ho2, hr2.more (by omega), hg2⟩
  by_cases hrc : r = 2
  · subst hrc
    have hs5 := HS5.out
    have y0 := hs5.pool.cell 0
    have y1 := hs5.pool.cell 1
    have f0 := hs5.pool.free 0
    have f1 := hs5.pool.free 1
    have hzp := hs5.pool.lt
    simp at y0 y1
    have hl2 := hs5.l2
    have hsz := hs5.g.size
    have hn1 : ¬ pb = w.heap.size := by omega
    have hn2 : ¬ w.heap.size = pb := by omega
    have hrow : (w5.alloc (.cells #[.int .i64 0] 3)).ownsRow w.heap.size 90 2 (.slice A1 nv c1) nv ((p.vols.zip bvs).flatMap encV) := by
      have := (hs5.own.bel (bel_alloc (Below.refl _ _) (.cells #[.int .i64 0] 3))).v.row.row
      rw [HN.out.2] at this
      exact this
    have HROW := Lib.hid hrow
    have hoi : OwnI (w5.alloc (.cells #[.int .i64 0] 3)) w.heap.size (.slice (some ⟨w5.heap.size, 0, none⟩) 1 1) [0] := World.ownsRow_lit (base := w.heap.size) (e := 3) (size := 1) w5 #[.int .i64 0] 1 hsz (by unfold maxLen; omega) rfl
    have HOI := Lib.hid hoi
    clear hs5 hrow hoi
    go_wp2_with (at_builtin; refine print_append_cells (w0 := (w5.alloc (.cells #[.int .i64 0] 3))) w.heap.size rfl (.tmp 52) (.tmp 55) 47 90 (.agg #[.string ⟨#[]⟩, .slice none 0 0]) 2 40 rfl Try.underlying47 info_vol rfl (by decide) (by decide) _ nv ((p.vols.zip bvs).flatMap encV) [.string ⟨#[65]⟩, .slice (some ⟨w5.heap.size, 0, none⟩) 1 1] rfl (by show Value.slice (some ⟨_, 0, none⟩) 1 1 = Value.slice (some ⟨_, 0, none⟩) 1 1; simp) rfl (by intro u hu; simp at hu; rcases hu with rfl | rfl <;> rfl) HROW.out (Below.refl _ _) (by simp; omega) (by omega) ?_; intro v2 w8 hr2 hbq hgq hat2; obtain ⟨A9, c9, rfl, hc9⟩ := own_cap hr2; have hp8 := Blk.grown (HS5.out.pool.alloc (.cells #[.int .i64 0] 3)) hgq (own_blk_ne HROW.out (HS5.out.pool.alloc _) (by decide)); have hs8 := Blk.grown (HS5.out.res.alloc (.cells #[.int .i64 0] 3)) hgq (own_blk_ne HROW.out (HS5.out.res.alloc _) (by decide)); have g0 := hp8.free 0; have g1 := hp8.free 1; have z0 := hp8.cell 0; have z1 := hp8.cell 1; have zl := hp8.lt; have x0 := hs8.cell 0; have x1 := hs8.cell 1; have u0 := hs8.free 0; have u1 := hs8.free 1; have zr := hs8.lt; simp at z0 z1 x0 x1; have HX8 := Lib.hid (And.intro (And.intro hp8 hs8) (And.intro hr2 hgq)); clear hp8 hs8 hr2 hbq hgq hat2)
    have hl3 := HS5.out.l3
    obtain ⟨⟨hp8, hs8⟩, hr2, hgq⟩ := HX8.out
    have hb5 : Bel w5 (w5.alloc (.cells #[.int .i64 0] 3)) := bel_alloc (Below.refl _ _) _
    have hov : OwnV w8 w.heap.size (.slice A9 (nv + 1) c9) (p.vols ++ [⟨⟨#[65]⟩, [0]⟩]) (bvs ++ [.slice (some ⟨w5.heap.size, 0, none⟩) 1 1]) :=
      OwnV.push (HS5.out.own.v.bel hb5) HOI.out (fun m b' k' hb hk e => by
        have h1 := HS5.out.own.v.inner_lt hb hk
        have h2 : w5.heap.size = k' := by simpa [Value.ownBlock] using e
        omega) hgq (by rw [HN.out.2]; exact hr2)
    have hos : OwnS w8 w.heap.size (.slice A0 ns c0) p.slots := own_other_type (HS5.out.own.s.bel hb5) HROW.out (by decide) hgq
    have HS9 : OpsSt w (w8.setCell ⟨pb, 1, none⟩ (.slice A9 (nv + 1) c9)) rb _ (.slice A0 ns c0) (.slice A9 (nv + 1) c9) ⟨p.slots, p.vols ++ [⟨⟨#[65]⟩, [0]⟩]⟩ (bvs ++ [.slice (some ⟨w5.heap.size, 0, none⟩) 1 1]) pb 0 (.slice none 0 0) [] :=
      ⟨hs8.apart (by omega) 1 _, hp8.set 1 (.slice A9 (nv + 1) c9) rfl, ((HS5.out.rd.bel hb5).grown hgq (fun b e => by have := own_base HROW.out b e; omega)).set (Nat.lt_trans hl3 hl2) 1 (.slice A9 (nv + 1) c9), (show OwnP w8 w.heap.size (.slice A0 ns c0) (.slice A9 (nv + 1) c9) ⟨p.slots, p.vols ++ [⟨⟨#[65]⟩, [0]⟩]⟩ (bvs ++ [.slice (some ⟨w5.heap.size, 0, none⟩) 1 1]) from ⟨hos, hov⟩).far hp8 (by decide) (by decide) (by decide) 1 (.slice A9 (nv + 1) c9), World.ownsRow_nil _ _ _ _, grown_new (grown_own (grown_tr HS5.out.g (grown_of_bel hb5 _)) hgq (own_base HROW.out)) (Nat.le_of_lt hl2) 1 (.slice A9 (nv + 1) c9), hl2, hl3⟩
    have DP := HP.out.addA
    have hsf := HS9
    have hl0 := hsf.l3
    have hx1 := hsf.res.set 0 (.slice A0 ns c0) (cs' := #[.slice A0 ns c0, .slice none 0 0]) rfl
    have hx2 := hx1.set 1 (.slice A9 (nv + 1) c9) (cs' := #[.slice A0 ns c0, .slice A9 (nv + 1) c9]) rfl
    have ho2 := (hsf.own.far hsf.res (by decide) (by decide) (by decide) 0 (.slice A0 ns c0)).far hx1 (by decide) (by decide) (by decide) 1 (.slice A9 (nv + 1) c9)
    have hr2 := (hsf.rd.set (b := w.heap.size) hl0 0 (.slice A0 ns c0)).set (b := w.heap.size) hl0 1 (.slice A9 (nv + 1) c9)
    have hg2 := grown_new (grown_new hsf.g (Nat.le_refl _) 0 (.slice A0 ns c0)) (Nat.le_refl _) 1 (.slice A9 (nv + 1) c9)
    refine bodyPost_ret (results_cell_row rfl _ _ w.heap.size 49 #[.slice A0 ns c0, .slice A9 (nv + 1) c9] (0, 0) _ rfl hx2 Try.underlying49 rfl (by kernel_rfl)) rfl ?_
    exact ⟨_, _, _, _, rfl, DP, ho2, hr2.more (by omega), hg2⟩
  have DP := Lib.hid HP.out.drawn
  have hsf := HS5.out
  have x0 := hsf.res.cell 0
  have x1 := hsf.res.cell 1
  have f0 := hsf.res.free 0
  have f1 := hsf.res.free 1
  have y0 := hsf.pool.cell 0
  have y1 := hsf.pool.cell 1
  have zr := hsf.res.lt
  simp at x0 x1 y0 y1
  clear hsf
  go_wp2
  have hsf := HS5.out
  have hl0 := hsf.l3
  have hx1 := hsf.res.set 0 (.slice A0 ns c0) (cs' := #[.slice A0 ns c0, .slice none 0 0]) rfl
  have hx2 := hx1.set 1 (.slice A1 nv c1) (cs' := #[.slice A0 ns c0, .slice A1 nv c1]) rfl
  have ho2 := (hsf.own.far hsf.res (by decide) (by decide) (by decide) 0 (.slice A0 ns c0)).far hx1 (by decide) (by decide) (by decide) 1 (.slice A1 nv c1)
  have hr2 := (hsf.rd.set (b := w.heap.size) hl0 0 (.slice A0 ns c0)).set (b := w.heap.size) hl0 1 (.slice A1 nv c1)
  have hg2 := grown_new (grown_new hsf.g (Nat.le_refl _) 0 (.slice A0 ns c0)) (Nat.le_refl _) 1 (.slice A1 nv c1)
  refine bodyPost_ret (results_cell_row rfl _ _ w.heap.size 49 #[.slice A0 ns c0, .slice A1 nv c1] (0, 0) _ rfl hx2 Try.underlying49 rfl (by kernel_rfl)) rfl ?_
  exact ⟨_, _, p, bvs, rfl, DP.out, ho2, hr2.more (by omega), hg2⟩
end Go.Proofs.Ytccllgpaafgjaaa
/- A log that is drawn: the state, appending to a tail. -/


namespace Go.Proofs.Ytccllgpaafgjaaa
open Go.RowKit Go.Proofs.YtccllgpaafgjaaaW.PrintWords Go.Proofs.YtccllgpaafgjaaaW.PrintLast
set_option linter.unusedVariables false
set_option linter.unusedSimpArgs false

theorem tail_append_step {ops : Array Oper} {o : Oper} {a : Act} {Q : Exit → Act → World → Prop} {Kc : Act → World → Prop} {W : World} {base : Nat} {v : Value} {os : List Op} (hw : Region.wanted o (yielded ops a.tmps) = true) (s x : Operand)
    (ho : o.op = .call { callee := .builtin .append, args := #[s, x], argTypes := #[24, 24] }) (hs : a.eval s = v) (y : Op) (ad : Addr) (c : Nat) (hx : a.eval x = .slice (some ad) 1 c)
    (hc : ∀ j u, (encO y)[j]? = some u → W.cell? (ad.add j) = some u) (h : OwnT W base v os) (hl : os.length ≤ 1048576) (hbase : base ≤ W.heap.size)
    (K : ∀ v1 w1, OwnT w1 base v1 (os ++ [y]) → W.grownBy w1 v.ownBlock → Kc (a.put o.dst v1) w1) :
    if Region.wanted o (yielded ops a.tmps) = true then Oper.wp Try.prog o a W Kc Q else Kc (a.put o.dst undef) W := by
  obtain ⟨v1, w1, hr1, h1, hg, hat⟩ := run_append_tail h o.type y ad c hc hl hbase
  rw [if_pos hw]
  unfold Oper.wp execOp
  simp only [ho, resolve, invoke, builtin, Sem.run_bind, Sem.run_pure, Result.andThen_ok, List.map_toArray, List.map_cons, List.map_nil, hs, hx, hr1]
  exact K v1 w1 h1 hg
theorem OwnT.rd {w w' : World} {base : Nat} {v : Value} {os : List Op} (h : OwnT w base v os) {rb k : Nat} (hR : Rd w rb k) (hg : w.grownBy w' (some rb)) : OwnT w' base v os := by
  obtain ⟨A, c, bs, q, hB, _⟩ := hR.h
  refine h.kept hg fun k hk e => ?_
  injection e with e
  subst e
  obtain ⟨_, _, cs', hc⟩ := h.base _ hk
  have h2 := hB.symm.trans hc
  injection h2 with h2
  injection h2 with _ h2
  exact absurd h2 (by decide)
theorem OwnT.lower {w : World} {b b' : Nat} {v : Value} {os : List Op} (h : OwnT w b v os) (hb : b' ≤ b) : OwnT w b' v os := by
  rcases h with ⟨rfl, A, rfl, ha⟩ | ⟨g, cap, pre, rfl, hpl, ho⟩
  · exact .inl ⟨rfl, A, rfl, fun a e => ⟨Nat.le_trans hb (ha a e).1, (ha a e).2⟩⟩
  · exact .inr ⟨g, cap, pre, rfl, hpl, own_lower ho hb⟩
theorem row_otherT {w w' : World} {b1 b2 : Nat} {e1 : TypeId} {s1 n1 : Nat} {v1 v2 : Value} {x1 : List Value} {os : List Op} (h1 : w.ownsRow b1 e1 s1 v1 n1 x1) (h2 : OwnT w b2 v2 os) (hne : e1 ≠ 61) (hg : w.grownBy w' v2.ownBlock) : w'.ownsRow b1 e1 s1 v1 n1 x1 := by
  refine World.ownsRow.kept h1 hg ?_
  cases hk : v1.ownBlock with
  | none => exact .inl rfl
  | some k =>
    refine .inr fun e => ?_
    obtain ⟨c1, hc1⟩ := own_type h1 hk
    obtain ⟨_, _, c2, hc2⟩ := h2.base k e.symm
    rw [hc1] at hc2
    injection hc2 with hc2
    injection hc2 with _ ht
    exact hne ht
theorem blk_otherT {w : World} {b2 : Nat} {v2 : Value} {os : List Op} (h2 : OwnT w b2 v2 os) {b : Nat} {cs : Array Value} {t : TypeId} (hB : Blk w b cs t) (hne : 61 ≠ t) : some b ≠ v2.ownBlock := fun e => by
  obtain ⟨_, _, c2, hc2⟩ := h2.base b e.symm
  have h3 := hB.symm.trans hc2
  injection h3 with h3
  injection h3 with _ h3
  exact hne h3.symm
theorem OwnP.otherT {w w' : World} {b2 : Nat} {v2 : Value} {os : List Op} {base : Nat} {v0 v1 : Value} {p : Pool} {bvs : List Value} (h : OwnP w base v0 v1 p bvs) (h2 : OwnT w b2 v2 os) (hg : w.grownBy w' v2.ownBlock) : OwnP w' base v0 v1 p bvs :=
  ⟨row_otherT h.s h2 (by decide) hg, ⟨⟨h.v.row.len, row_otherT h.v.row.row h2 (by decide) hg⟩, fun m x b hx hb => row_otherT (h.v.inner m x b hx hb) h2 (by decide) hg, h.v.apart⟩⟩
theorem packF_small {l : Log} (h : SmallL l) : SmallL (packF l) := by
  unfold packF
  split
  · exact ⟨runV_small, h.ops.drop _⟩
  · exact noL_small
theorem packF_len {l : Log} : (packF l).ops.length ≤ l.ops.length := by
  unfold packF
  split
  · exact Nat.le_trans (by rw [List.length_drop]; exact Nat.sub_le _ _) (Nat.le_refl _)
  · exact Nat.zero_le _
/-- What is known of a log that is drawn. -/
structure DrawnL (l : Log) (n : Nat) : Prop where
  small : SmallL l
  len : l.ops.length ≤ n
theorem DrawnL.pack {l : Log} {n : Nat} (h : DrawnL l n) : DrawnL (packF l) n := ⟨packF_small h.small, Nat.le_trans packF_len h.len⟩
theorem DrawnL.safe {l : Log} {n : Nat} (h : DrawnL l n) (s : Int) : DrawnL ⟨l.base, l.ops, s⟩ n := ⟨⟨h.small.base, h.small.ops⟩, h.len⟩
theorem DrawnL.basis {l : Log} {n : Nat} (h : DrawnL l n) {p : Pool} (hp : SmallP p) : DrawnL ⟨p, l.ops, l.safe⟩ n := ⟨⟨hp, h.small.ops⟩, h.len⟩
theorem DrawnL.snoc {l : Log} {n : Nat} (h : DrawnL l n) (hn : n ≤ 1000) {o : Op} (ho : SmallO o) : DrawnL ⟨l.base, l.ops ++ [o], l.safe⟩ (n + 1) := by
  have hl := h.len
  have e : (l.ops ++ [o]).length = l.ops.length + 1 := by rw [List.length_append]; rfl
  refine ⟨⟨h.small.base, ⟨by show (l.ops ++ [o]).length ≤ _; omega, fun x hx => ?_⟩⟩, by show (l.ops ++ [o]).length ≤ _; omega⟩
  rcases List.mem_append.1 hx with hx | hx
  · exact h.small.ops.op x hx
  · rw [List.mem_singleton.1 hx]; exact ho
/-- A log in a variable that is being drawn. -/
structure LgSt (w W : World) (rb k : Nat) (v0 v1 v2 : Value) (l : Log) (bvs : List Value) (lb : Nat) : Prop where
  res : Blk W w.heap.size #[.slice none 0 0, .slice none 0 0, .slice none 0 0, .int .i64 0] 51
  var : Blk W lb #[v0, v1, v2, .int .i64 l.safe] 51
  rd : Rd W rb k
  own : OwnP W w.heap.size v0 v1 l.base bvs
  ops : OwnT W w.heap.size v2 l.ops
  g : w.grownBy W (some rb)
  l2 : w.heap.size < lb
  l3 : rb < w.heap.size
section
variable {w W W' : World} {rb k k' lb : Nat} {v0 v1 v2 : Value} {l : Log} {bvs : List Value}
theorem LgSt.step (h : LgSt w W rb k v0 v1 v2 l bvs lb) (hR : Rd W' rb k') (hg : W.grownBy W' (some rb)) : LgSt w W' rb k' v0 v1 v2 l bvs lb :=
  ⟨h.res.grown hg (fun e => by injection e with e; have := h.l3; omega), h.var.grown hg (fun e => by injection e with e; have := h.l3; have := h.l2; omega), hR, h.own.rd h.rd hg, h.ops.rd h.rd hg, grown_tr h.g hg, h.l2, h.l3⟩
theorem LgSt.bel (h : LgSt w W rb k v0 v1 v2 l bvs lb) (hb : Bel W W') : LgSt w W' rb k v0 v1 v2 l bvs lb :=
  ⟨h.res.bel hb, h.var.bel hb, h.rd.bel hb, h.own.bel hb, h.ops.bel hb, grown_tr h.g (grown_of_bel hb _), h.l2, h.l3⟩
theorem LgSt.setS (h : LgSt w W rb k v0 v1 v2 l bvs lb) (s : Int) : LgSt w (W.setCell ⟨lb, 3, none⟩ (.int .i64 s)) rb k v0 v1 v2 ⟨l.base, l.ops, s⟩ bvs lb :=
  ⟨h.res.apart (by have := h.l2; omega) 3 _, h.var.set 3 _ rfl, h.rd.set (Nat.lt_trans h.l3 h.l2) 3 _, h.own.far h.var (by decide) (by decide) (by decide) 3 _, h.ops.far h.var (by decide) 3 _, grown_new h.g (Nat.le_of_lt h.l2) 3 _, h.l2, h.l3⟩
theorem LgSt.setP (h : LgSt w W rb k v0 v1 v2 l bvs lb) {u0 u1 : Value} {q : Pool} {bq : List Value} (hq : OwnP W w.heap.size u0 u1 q bq) : LgSt w ((W.setCell ⟨lb, 0, none⟩ u0).setCell ⟨lb, 1, none⟩ u1) rb k u0 u1 v2 ⟨q, l.ops, l.safe⟩ bq lb := by
  have hv := h.var.set 0 u0 (cs' := #[u0, v1, v2, .int .i64 l.safe]) rfl
  have hlt := Nat.lt_trans h.l3 h.l2
  exact ⟨(h.res.apart (by have := h.l2; omega) 0 _).apart (by have := h.l2; omega) 1 _, hv.set 1 _ rfl, (h.rd.set hlt 0 _).set hlt 1 _, (hq.far h.var (by decide) (by decide) (by decide) 0 _).far hv (by decide) (by decide) (by decide) 1 _, (h.ops.far h.var (by decide) 0 _).far hv (by decide) 1 _, grown_new (grown_new h.g (Nat.le_of_lt h.l2) 0 _) (Nat.le_of_lt h.l2) 1 _, h.l2, h.l3⟩
theorem LgSt.set4 (h : LgSt w W rb k v0 v1 v2 l bvs lb) {u0 u1 u2 : Value} {q : Log} {bq : List Value} (hq : OwnP W w.heap.size u0 u1 q.base bq) (hu : OwnT W w.heap.size u2 q.ops) : LgSt w (wset4 W lb u0 u1 u2 (.int .i64 q.safe)) rb k u0 u1 u2 q bq lb := by
  have hlt := Nat.lt_trans h.l3 h.l2
  exact ⟨h.res.apart4 (by have := h.l2; omega) _ _ _ _, h.var.set4 _ _ _ _, (((h.rd.set hlt 0 _).set hlt 1 _).set hlt 2 _).set hlt 3 _, hq.far4 h.var _ _ _ _, hu.far4 h.var _ _ _ _, grown_new (grown_new (grown_new (grown_new h.g (Nat.le_of_lt h.l2) 0 _) (Nat.le_of_lt h.l2) 1 _) (Nat.le_of_lt h.l2) 2 _) (Nat.le_of_lt h.l2) 3 _, h.l2, h.l3⟩
/-- The row of changes has turned. -/
theorem LgSt.app (h : LgSt w W rb k v0 v1 v2 l bvs lb) (hg : W.grownBy W' v2.ownBlock) {u : Value} {os : List Op} (hu : OwnT W' w.heap.size u os) : LgSt w (W'.setCell ⟨lb, 2, none⟩ u) rb k v0 v1 u ⟨l.base, os, l.safe⟩ bvs lb := by
  have hv := h.var.grown hg (blk_otherT h.ops h.var (by decide))
  have hr := h.res.grown hg (blk_otherT h.ops h.res (by decide))
  have hlt := Nat.lt_trans h.l3 h.l2
  have hrd := h.rd.grown hg (fun b e => by have := (h.ops.base b e).1; have := h.l3; omega)
  exact ⟨hr.apart (by have := h.l2; omega) 2 _, hv.set 2 _ rfl, hrd.set hlt 2 _, (h.own.otherT h.ops hg).far hv (by decide) (by decide) (by decide) 2 _, hu.far hv (by decide) 2 _, grown_new (grown_own h.g hg (fun b e => (h.ops.base b e).1)) (Nat.le_of_lt h.l2) 2 _, h.l2, h.l3⟩
theorem LgSt.lit (h : LgSt w W rb k v0 v1 v2 l bvs lb) : ∃ (A B C : Option Addr) (a b c : Nat), v0 = .slice A l.base.slots.length a ∧ v1 = .slice B l.base.vols.length b ∧ v2 = .slice C l.ops.length c ∧ LogIn W A B C a b c l := by
  obtain ⟨A, B, a, b, rfl, rfl, hi⟩ := h.own.reads
  obtain ⟨C, c, rfl, hc, hC⟩ := h.ops.reads
  exact ⟨A, B, C, a, b, c, rfl, rfl, rfl, ⟨hi, hC, hc⟩⟩
end
/-- What l72Log leaves. -/
def LogOut (rb k d n : Nat) (w : World) (e : Ending) (w' : World) : Prop := ∃ (v0 v1 v2 : Value) (l : Log) (bvs : List Value), e = .returned (.agg #[v0, v1, v2, .int .i64 l.safe]) ∧ DrawnL l n ∧ OwnP w' w.heap.size v0 v1 l.base bvs ∧ OwnT w' w.heap.size v2 l.ops ∧ Rd w' rb (k + d) ∧ w.grownBy w' (some rb)
theorem LgSt.out {w W : World} {rb k k' lb n d : Nat} {v0 v1 v2 : Value} {l : Log} {bvs : List Value} (h : LgSt w W rb k v0 v1 v2 l bvs lb) (hl : DrawnL l n) (hd : k ≤ k' + d) : LogOut rb k' d n w (.returned (.agg #[v0, v1, v2, .int .i64 l.safe])) (wset4 W w.heap.size v0 v1 v2 (.int .i64 l.safe)) := by
  have hlt := h.l3
  refine ⟨v0, v1, v2, l, bvs, rfl, hl, h.own.far4 h.res _ _ _ _, h.ops.far4 h.res _ _ _ _, ((((h.rd.set hlt 0 _).set hlt 1 _).set hlt 2 _).set hlt 3 _).more hd, ?_⟩
  exact grown_new (grown_new (grown_new (grown_new h.g (Nat.le_refl _) 0 _) (Nat.le_refl _) 1 _) (Nat.le_refl _) 2 _) (Nat.le_refl _) 3 _
end Go.Proofs.Ytccllgpaafgjaaa
/- l72Log: a log that is drawn. -/

namespace Go.Proofs.Ytccllgpaafgjaaa
open Go.RowKit Go.Proofs.YtccllgpaafgjaaaW.PrintWords Go.Proofs.YtccllgpaafgjaaaW.PrintLast
set_option linter.unusedVariables false
set_option linter.unusedSimpArgs false

theorem blk_cells5 {w : World} {b : Nat} {o : Op} (hB : Blk w b #[.int .i64 o.kind, .string o.name, .string o.dest, .int .i64 o.n, .string o.text] 61) : ∀ j u, (encO o)[j]? = some u → w.cell? ((⟨b, 0, none⟩ : Addr).add j) = some u := by
  intro j u hj
  rw [Addr.add_lit, Nat.zero_add, hB.cell]
  simpa [encO] using hj
theorem DrawnL.more {l : Log} {n m : Nat} (h : DrawnL l n) (hm : n ≤ m) : DrawnL l m := ⟨h.small, Nat.le_trans h.len hm⟩
set_option maxHeartbeats 32000000 in
set_option maxRecDepth 10000 in
theorem log_c {w : World} {rb k : Nat} (h : Rd w rb k) (hk : k ≤ 1000000000000) :
    Calls Try.prog 57 #[.pointer (some ⟨rb, 0, none⟩)] w (LogOut rb k 50000 21 w) := by
  have H := Lib.hid h
  have hlt := h.lt
  clear h
  go_enter Try.func57, Try.ntmps57
  go_wp2_with fail
  have hr0 : Blk (w.alloc (.cells #[.slice none 0 0, .slice none 0 0, .slice none 0 0, .int .i64 0] 51)) w.heap.size #[.slice none 0 0, .slice none 0 0, .slice none 0 0, .int .i64 0] 51 := Blk.new _ _ _
  have hW : Bel w (w.alloc (.cells #[.slice none 0 0, .slice none 0 0, .slice none 0 0, .int .i64 0] 51)) := bel_alloc (Below.refl _ _) _
  generalize (w.alloc (.cells #[.slice none 0 0, .slice none 0 0, .slice none 0 0, .int .i64 0] 51)) = W0 at hr0 hW ⊢
  refine (pick_c (H.out.bel hW) (by omega) 21 (by omega)).mono ?_
  rintro e w1 ⟨v, rfl, ⟨r, rfl, hp0, hp1, -⟩, hR1, hg1⟩
  have hp2 := hp1 (by omega)
  obtain ⟨n, rfl⟩ : ∃ n : Nat, r = n := ⟨r.toNat, by omega⟩
  have HR1 := Lib.hid (And.intro (hr0.grown hg1 (by intro e; injection e with e; omega)) (And.intro hR1 (grown_tr (grown_of_bel hW _) hg1)))
  clear hr0 hW hR1 hg1 hp1
  go_wp2_with fail
  refine (ops2_c HR1.out.2.1 (by omega) n (by omega)).mono ?_
  rintro e w3 ⟨v7, v0, v1, p, bvs, os, rfl, ⟨_, _, hol, hos⟩, hoo, ho, hR3, hg3⟩
  obtain ⟨A0, A1, c0, c1, rfl, rfl, hpi⟩ := ho.reads
  obtain ⟨C, c, rfl, hoc, hC⟩ := hoo.reads
  have HR3 := Lib.hid (And.intro (HR1.out.1.grown hg3 (by intro e; injection e with e; omega)) (And.intro hR3 (grown_tr HR1.out.2.2 hg3)))
  have HOO := Lib.hid (show OwnO w3 w.heap.size (.slice C os.length c) os from own_lower hoo HR1.out.2.2.size)
  have HL0 := Lib.hid (show DrawnL ⟨newP, os, 0⟩ 20 from ⟨⟨newP_ok.small, ⟨by show os.length ≤ _; omega, hos⟩⟩, by show os.length ≤ _; omega⟩)
  clear hpi ho hC hoo hR3 hg3 hos HR1
  go_wp2_with fail
  have hb4 : Bel w3 (w3.alloc (.cells #[.slice A0 p.slots.length c0, .slice A1 p.vols.length c1] 49)) := bel_alloc (Below.refl _ _) _
  generalize (w3.alloc (.cells #[.slice A0 p.slots.length c0, .slice A1 p.vols.length c1] 49)) = W4 at hb4 ⊢
  have HN := Lib.hid (specPoolNew_c W4)
  have HL1 := Lib.hid (And.intro HL0.out (rfl : newP = newP))
  obtain ⟨np, hnp⟩ : ∃ np, newP = np := ⟨_, rfl⟩
  rw [hnp] at HN HL0
  clear hnp HL1
  refine HN.out.mono ?_
  rintro e w5 ⟨u0, u1, bu, rfl, hu, hb5⟩
  obtain ⟨E0, E1, k0, k1, rfl, rfl, hpi⟩ := hu.reads
  have hst : LgSt w (w5.alloc (.cells #[.slice E0 np.slots.length k0, .slice E1 np.vols.length k1, .slice C os.length c, .int .i64 0] 51)) rb (k + 1 + 20000) (.slice E0 np.slots.length k0) (.slice E1 np.vols.length k1) (.slice C os.length c) ⟨np, os, 0⟩ bu w5.heap.size := by
    have hba : Bel w3 (w5.alloc (.cells #[.slice E0 np.slots.length k0, .slice E1 np.vols.length k1, .slice C os.length c, .int .i64 0] 51)) := bel_alloc (hb4.tr hb5) _
    have hsz := HR3.out.2.2.size
    exact ⟨HR3.out.1.bel hba, Blk.new _ _ _, HR3.out.2.1.bel hba, (hu.lower (Nat.le_trans hsz hb4.size)).bel (bel_alloc (Below.refl _ _) _), (OwnO.tail (HOO.out.bel hba)), grown_tr HR3.out.2.2 (grown_of_bel hba _), Nat.lt_of_lt_of_le HR3.out.1.lt (hb4.tr hb5).size, hlt⟩
  have HS := Lib.hid hst
  have HL := HL0
  have hwn : wrap64 ((os.length : Int) + 1) = (os.length : Int) + 1 := by unfold wrap64; omega
  clear hst hu hb4 hb5 hpi HN HR3 HOO HL0
  go_wp2_with fail
  generalize (w5.alloc (.cells #[.slice E0 np.slots.length k0, .slice E1 np.vols.length k1, .slice C os.length c, .int .i64 0] 51)) = W6 at HS ⊢
  obtain ⟨lb, hlb⟩ : ∃ lb, w5.heap.size = lb := ⟨_, rfl⟩
  rw [hlb] at HS ⊢
  clear hlb
  refine (pick_c HS.out.rd (by omega) ((os.length : Int) + 1) (by omega)).mono ?_
  rintro e w7 ⟨v, rfl, ⟨sf, rfl, hs0, hs1, -⟩, hR, hg⟩
  replace HS := Lib.hid (HS.out.step hR hg)
  clear hR hg hs1 hwn
  have c0 := HS.out.var.cell 0
  have c1 := HS.out.var.cell 1
  have c2 := HS.out.var.cell 2
  have c3 := HS.out.var.cell 3
  have g0 := HS.out.var.free 0
  have g1 := HS.out.var.free 1
  have g2 := HS.out.var.free 2
  have g3 := HS.out.var.free 3
  have cy := HS.out.var.lt
  simp at c0 c1 c2 c3
  have HS0 := Lib.hid (HS.out.setS sf)
  have HL0 := Lib.hid (HL.out.safe sf)
  go_wp2_with fail
  clear c0 c1 c2 c3 g0 g1 g2 g3 cy HS HL
  have HS := HS0
  have HL := HL0
  clear HS0 HL0
  generalize w7.setCell ⟨lb, 3, none⟩ (.int .i64 sf) = W8 at HS ⊢
  refine (pick_c HS.out.rd (by omega) 3 (by omega)).mono ?_
  rintro e w9 ⟨v, rfl, ⟨r3, rfl, ht0, ht1, -⟩, hR, hg⟩
  replace HS := Lib.hid (HS.out.step hR hg)
  clear hR hg ht1
  by_cases hr3 : r3 = 0
  · subst hr3
    have c0 := HS.out.var.cell 0
    have c1 := HS.out.var.cell 1
    have c2 := HS.out.var.cell 2
    have c3 := HS.out.var.cell 3
    have g0 := HS.out.var.free 0
    have g1 := HS.out.var.free 1
    have g2 := HS.out.var.free 2
    have g3 := HS.out.var.free 3
    have cy := HS.out.var.lt
    simp at c0 c1 c2 c3
    go_wp2_with fail
    clear c0 c1 c2 c3 g0 g1 g2 g3 cy
    obtain ⟨X0, X1, X2, x0, x1, x2, e0, e1, e2, hin⟩ := HS.out.lit
    have e0 := slice_eq e0
    have e1 := slice_eq e1
    have e2 := slice_eq e2
    obtain ⟨rfl, -, rfl⟩ := e0
    obtain ⟨rfl, -, rfl⟩ := e1
    obtain ⟨rfl, -, rfl⟩ := e2
    have HK := specLogPack_c hin HL.out.small
    have HLP := Lib.hid (HL.out.pack)
    generalize packF ⟨np, os, sf⟩ = q at HK HLP
    refine HK.mono ?_
    rintro e w10 ⟨y0, y1, y2, by0, rfl, hp10, ho10, hb10⟩
    clear hin HK
    obtain ⟨A, B, a, b, rfl, rfl, hpi⟩ := hp10.reads
    obtain ⟨C, c, rfl, hy2, hyC⟩ := ho10.reads
    have hsz := HS.out.g.size
    replace HS := Lib.hid (HS.out.bel hb10)
    have HS0 := Lib.hid (HS.out.set4 (hp10.lower hsz) (ho10.lower hsz))
    have hl20 := HLP.out.len
    have hwn : wrap64 ((q.ops.length : Int) + 1) = (q.ops.length : Int) + 1 := by unfold wrap64; omega
    clear hpi hy2 hyC hp10 ho10 hb10 hsz HL
    unfold wset4 at HS0
    have c0 := HS.out.var.cell 0
    have c1 := HS.out.var.cell 1
    have c2 := HS.out.var.cell 2
    have c3 := HS.out.var.cell 3
    have g0 := HS.out.var.free 0
    have g1 := HS.out.var.free 1
    have g2 := HS.out.var.free 2
    have g3 := HS.out.var.free 3
    have cy := HS.out.var.lt
    simp at c0 c1 c2 c3
    go_wp2_with fail
    clear c0 c1 c2 c3 g0 g1 g2 g3 cy HS
    have HS := HS0
    clear HS0
    generalize ((((w10.setCell ⟨lb, 0, none⟩ (.slice A q.base.slots.length a)).setCell ⟨lb, 1, none⟩ (.slice B q.base.vols.length b)).setCell ⟨lb, 2, none⟩ (.slice C q.ops.length c)).setCell ⟨lb, 3, none⟩ (.int .i64 q.safe)) = W11 at HS ⊢
    refine (pick_c HS.out.rd (by omega) ((q.ops.length : Int) + 1) (by omega)).mono ?_
    rintro e w12 ⟨v, rfl, ⟨sg, rfl, hu0, hu1, -⟩, hR, hg⟩
    replace HS := Lib.hid (HS.out.step hR hg)
    clear hR hg hu1 hwn
    have c0 := HS.out.var.cell 0
    have c1 := HS.out.var.cell 1
    have c2 := HS.out.var.cell 2
    have c3 := HS.out.var.cell 3
    have g0 := HS.out.var.free 0
    have g1 := HS.out.var.free 1
    have g2 := HS.out.var.free 2
    have g3 := HS.out.var.free 3
    have cy := HS.out.var.lt
    simp at c0 c1 c2 c3
    have HS0 := Lib.hid (HS.out.setS sg)
    have HL := Lib.hid (HLP.out.safe sg)
    go_wp2_with fail
    clear c0 c1 c2 c3 g0 g1 g2 g3 cy HS HLP hl20
    have HS := HS0
    clear HS0
    generalize w12.setCell ⟨lb, 3, none⟩ (.int .i64 sg) = W13 at HS ⊢
    obtain ⟨l, hl⟩ : ∃ l : Log, (⟨q.base, q.ops, sg⟩ : Log) = l := ⟨_, rfl⟩
    rw [hl] at HL HS
    rw [show q.base = l.base by rw [← hl], show q.ops = l.ops by rw [← hl]] at HS ⊢
    clear hl hs0 ht0 hu0 hp0 hp2 hol hoc
    refine (pick_c HS.out.rd (by omega) 30 (by omega)).mono ?_
    rintro e wp ⟨v, rfl, ⟨r30, rfl, hr0, hr1, -⟩, hR, hg⟩
    replace HS := Lib.hid (HS.out.step hR hg)
    clear hR hg hr1
    by_cases hra : r30 = 0
    · subst hra
      go_wp2_with fail
      refine (pick_c HS.out.rd (by omega) 24 (by omega)).mono ?_
      rintro e wq ⟨v, rfl, ⟨r24, rfl, hq0, hq1, -⟩, hR, hg⟩
      have hq2 := hq1 (by omega)
      replace HS := Lib.hid (HS.out.step hR hg)
      have hws : wrap64 (r24 - 1) = r24 - 1 := by unfold wrap64; omega
      clear hR hg hq1
      have c0 := HS.out.var.cell 0
      have c1 := HS.out.var.cell 1
      have c2 := HS.out.var.cell 2
      have c3 := HS.out.var.cell 3
      have g0 := HS.out.var.free 0
      have g1 := HS.out.var.free 1
      have g2 := HS.out.var.free 2
      have g3 := HS.out.var.free 3
      have cy := HS.out.var.lt
      simp at c0 c1 c2 c3
      have HS0 := Lib.hid (HS.out.setS (r24 - 1))
      have HL0 := Lib.hid (HL.out.safe (r24 - 1))
      have hlt2 := HS.out.l2
      have r0 := HS.out.res.cell 0
      have r1 := HS.out.res.cell 1
      have r2 := HS.out.res.cell 2
      have r3 := HS.out.res.cell 3
      have f0 := HS.out.res.free 0
      have f1 := HS.out.res.free 1
      have f2 := HS.out.res.free 2
      have f3 := HS.out.res.free 3
      have ry := HS.out.res.lt
      simp at r0 r1 r2 r3
      have hne : ¬ lb = w.heap.size := by omega
      go_wp2
      have ho := HS0.out.out (k' := k) (d := 50000) (DrawnL.more HL0.out (Nat.le_succ _)) (by omega)
      refine bodyPost_ret (results_cell_row rfl _ _ w.heap.size 51 _ (0, 0) _ rfl (HS0.out.res.set4 _ _ _ _) Try.underlying51 rfl (by kernel_rfl)) rfl ?_
      exact ho
    by_cases hrb : r30 = 1
    · subst hrb
      have c0 := HS.out.var.cell 0
      have c1 := HS.out.var.cell 1
      have c2 := HS.out.var.cell 2
      have c3 := HS.out.var.cell 3
      have g0 := HS.out.var.free 0
      have g1 := HS.out.var.free 1
      have g2 := HS.out.var.free 2
      have g3 := HS.out.var.free 3
      have cy := HS.out.var.lt
      simp at c0 c1 c2 c3
      go_wp2
      have HS1 := Lib.hid (HS.out.bel (Below.refl _ _).drew)
      clear c0 c1 c3 g0 g1 g3
      have hl20 := HL.out.len
      refine start_ (n := 8) (S := fun w' => w'.cell? ⟨lb, 2, none⟩ = some (.slice C l.ops.length c)) (ds := [7]) #[false, false, false, false, false, false, false, false] (by kernel_rfl) rfl rfl (c2) (fun hHeld => ?_)
      refine pure_ (i := 0) (N := some 44) (v := ?_) (a' := ?_) #[true, false, false, false, false, false, false, false] rfl rfl (by kernel_rfl) (fun _ _ _ h => h) (Or.inl ⟨by rfl, ?_⟩) ?_ ?_
      rotate_left
      · intro w'
        go_simp
        with_reducible rfl
      rotate_left
      · simp only [Act.put, List.setIfInBounds_toArray, List.set_cons_zero, List.set_cons_succ, i64_w, i32_w]
        rfl
      refine pure_ (i := 2) (N := some 46) (v := ?_) (a' := ?_) #[true, false, true, false, false, false, false, false] rfl rfl (by kernel_rfl) (fun _ _ _ h => h) (Or.inl ⟨by rfl, ?_⟩) ?_ ?_
      rotate_left
      · intro w'
        go_simp
        with_reducible rfl
      rotate_left
      · simp only [Act.put, List.setIfInBounds_toArray, List.set_cons_zero, List.set_cons_succ, i64_w, i32_w]
        rfl
      refine take_ (i := 1) (N := some 45) (v := ?_) (a' := ?_) #[true, true, true, false, false, false, false, false] rfl rfl (by kernel_rfl) (fun _ _ _ h => h) (Or.inl ⟨by rfl, ?_⟩) hHeld ?_ ?_
      rotate_left
      · intro w' s0
        go_simp
        with_reducible rfl
      rotate_left
      · simp only [Act.put, List.setIfInBounds_toArray, List.set_cons_zero, List.set_cons_succ, i64_w, i32_w]
        rfl
      refine one_ (i := 3) (N := some 47) #[true, true, true, true, false, false, false, false] rfl rfl (by kernel_rfl) (by decide) (fun K hK => ?_)
      refine goes_ Try.func58 (by kernel_rfl) rfl #[.pointer (some ⟨rb, 0, none⟩)] (by rfl) rfl rfl (by simp only [List.map_toArray, List.map_cons, List.map_nil]; rfl) ?_
      with_reducible refine (op_c (w := wp.drew) HS1.out.rd (by omega)).mono ?_
      rintro e wa ⟨v, rfl, ⟨o, ho, hso, _⟩, hR, hg⟩
      unfold opV at ho
      subst ho
      have HS2 := Lib.hid (HS1.out.step hR hg)
      have HSO := Lib.hid hso
      clear hR hg hso
      have d2 := HS2.out.var.cell 2
      simp at d2
      refine ⟨_, rfl, ?_⟩
      refine hK.out _ _ (d2) (fun hHeld => ?_)
      clear hK K
      refine norm_ (a' := ?_) ?_ ?_
      rotate_left
      · show Act.put _ (some 47) _ = _
        simp only [Act.put, List.setIfInBounds_toArray, List.set_cons_zero, List.set_cons_succ, i64_w, i32_w]
        rfl
      refine one_ (i := 4) (N := some 48) #[true, true, true, true, true, false, false, false] rfl rfl (by kernel_rfl) (by decide) (fun K hK => ?_)
      refine value_ (w1 := ?_) (v := ?_) (by rfl) rfl ?_ ?_
      rotate_left 2
      · go_simp
        constructor
        · rfl
        · rfl
      have HS3 := Lib.hid (HS2.out.bel (bel_alloc (Below.refl _ _) (.cells #[.int .i64 o.kind, .string o.name, .string o.dest, .int .i64 o.n, .string o.text] 61)))
      have hB : Blk (wa.alloc (.cells #[.int .i64 o.kind, .string o.name, .string o.dest, .int .i64 o.n, .string o.text] 61)) wa.heap.size #[.int .i64 o.kind, .string o.name, .string o.dest, .int .i64 o.n, .string o.text] 61 := Blk.new _ _ _
      have e2 := HS3.out.var.cell 2
      simp at e2
      refine hK.out _ _ (e2) (fun hHeld => ?_)
      clear hK K
      refine norm_ (a' := ?_) ?_ ?_
      rotate_left
      · show Act.put _ (some 48) _ = _
        simp only [Act.put, List.setIfInBounds_toArray, List.set_cons_zero, List.set_cons_succ, i64_w, i32_w]
        rfl
      refine one_ (i := 5) (N := some 49) #[true, true, true, true, true, true, false, false] rfl rfl (by kernel_rfl) (by decide) (fun K hK => ?_)
      refine tail_append_step (by rfl) (.tmp 45) (.tmp 48) rfl rfl o ⟨wa.heap.size, 0, none⟩ 1 rfl ?hc HS3.out.ops (by omega) HS3.out.g.size ?_
      case hc => exact blk_cells5 hB
      intro v1 wb hv1 hgr
      obtain ⟨no, hno⟩ : ∃ no, l.ops ++ [o] = no := ⟨_, rfl⟩
      rw [hno] at hv1
      have HNO := Lib.hid hno
      clear hno
      obtain ⟨C4, c4, rfl, hc4, hC4⟩ := hv1.reads
      have HS4 := Lib.hid (HS3.out.app hgr hv1)
      have hv := HS3.out.var.grown hgr (blk_otherT HS3.out.ops HS3.out.var (by decide))
      have k2 := hv.cell 2
      have kf := hv.free 2
      have ky := hv.lt
      simp at k2
      refine hK.out _ _ (k2) (fun hHeld => ?_)
      clear hK K
      refine norm_ (a' := ?_) ?_ ?_
      rotate_left
      · show Act.put _ (some 49) _ = _
        simp only [Act.put, List.setIfInBounds_toArray, List.set_cons_zero, List.set_cons_succ, i64_w, i32_w]
        rfl
      refine pure_ (i := 6) (N := some 50) (v := ?_) (a' := ?_) #[true, true, true, true, true, true, true, false] rfl rfl (by kernel_rfl) (fun _ _ _ h => h) (Or.inl ⟨by rfl, ?_⟩) ?_ ?_
      rotate_left
      · intro w'
        go_simp
        with_reducible rfl
      rotate_left
      · simp only [Act.put, List.setIfInBounds_toArray, List.set_cons_zero, List.set_cons_succ, i64_w, i32_w]
        rfl
      refine last_ (i := 7) (N := none) #[true, true, true, true, true, true, true, true] rfl rfl (by kernel_rfl) (by decide) (fun K hK => ?_)
      refine skip_ (w1 := ?_) (by rfl) rfl ?_ ?_
      rotate_left
      · go_simp
        rfl
      refine hK.out _ _ ?_
      clear hK K
      refine done_ (by kernel_rfl) ?_
      have hl4 := HL.out.snoc (by omega) HSO.out
      rw [HNO.out] at hl4
      have HL4 := Lib.hid hl4
      clear hl4 hc4 hC4 k2 kf ky hv hv1 hgr hB d2 e2 c2 g2 cy HS HS1 HS2 HS3
      generalize wb.setCell ⟨lb, 2, none⟩ (.slice C4 no.length c4) = wc at HS4 ⊢
      have HS := HS4
      have r0 := HS.out.res.cell 0
      have r1 := HS.out.res.cell 1
      have r2 := HS.out.res.cell 2
      have r3 := HS.out.res.cell 3
      have f0 := HS.out.res.free 0
      have f1 := HS.out.res.free 1
      have f2 := HS.out.res.free 2
      have f3 := HS.out.res.free 3
      have ry := HS.out.res.lt
      have c0 := HS.out.var.cell 0
      have c1 := HS.out.var.cell 1
      have c2 := HS.out.var.cell 2
      have c3 := HS.out.var.cell 3
      have g0 := HS.out.var.free 0
      have g1 := HS.out.var.free 1
      have g2 := HS.out.var.free 2
      have g3 := HS.out.var.free 3
      have cy := HS.out.var.lt
      simp at r0 r1 r2 r3 c0 c1 c2 c3
      have hne : ¬ lb = w.heap.size := by have := HS.out.l2; omega
      go_wp2
      have ho := HS4.out.out (k' := k) (d := 50000) HL4.out (by omega)
      refine bodyPost_ret (results_cell_row rfl _ _ w.heap.size 51 _ (0, 0) _ rfl (HS4.out.res.set4 _ _ _ _) Try.underlying51 rfl (by kernel_rfl)) rfl ?_
      exact ho
    by_cases hrc : r30 = 2
    · subst hrc
      go_wp2_with fail
      refine (pool_c HS.out.rd (by omega)).mono ?_
      rintro e wq ⟨u0, u1, q, bq, rfl, hdq, hq, hR, hg⟩
      obtain ⟨A5, B5, a5, b5, rfl, rfl, hpi⟩ := hq.reads
      have hsz := HS.out.g.size
      have HS0 := Lib.hid (HS.out.step hR hg)
      have HS5 := Lib.hid (HS0.out.setP (hq.lower hsz))
      have HL5 := Lib.hid (HL.out.basis hdq.small)
      clear hpi hq hR hg hsz hdq HS
      have HS := HS0
      have c0 := HS.out.var.cell 0
      have c1 := HS.out.var.cell 1
      have c2 := HS.out.var.cell 2
      have c3 := HS.out.var.cell 3
      have g0 := HS.out.var.free 0
      have g1 := HS.out.var.free 1
      have g2 := HS.out.var.free 2
      have g3 := HS.out.var.free 3
      have cy := HS.out.var.lt
      simp at c0 c1 c2 c3
      have hlt2 := HS.out.l2
      have r0 := HS.out.res.cell 0
      have r1 := HS.out.res.cell 1
      have r2 := HS.out.res.cell 2
      have r3 := HS.out.res.cell 3
      have f0 := HS.out.res.free 0
      have f1 := HS.out.res.free 1
      have f2 := HS.out.res.free 2
      have f3 := HS.out.res.free 3
      have ry := HS.out.res.lt
      simp at r0 r1 r2 r3
      have hne : ¬ lb = w.heap.size := by omega
      go_wp2
      have ho := HS5.out.out (k' := k) (d := 50000) (DrawnL.more HL5.out (Nat.le_succ _)) (by omega)
      refine bodyPost_ret (results_cell_row rfl _ _ w.heap.size 51 _ (0, 0) _ rfl (HS5.out.res.set4 _ _ _ _) Try.underlying51 rfl (by kernel_rfl)) rfl ?_
      exact ho
    have r0 := HS.out.res.cell 0
    have r1 := HS.out.res.cell 1
    have r2 := HS.out.res.cell 2
    have r3 := HS.out.res.cell 3
    have f0 := HS.out.res.free 0
    have f1 := HS.out.res.free 1
    have f2 := HS.out.res.free 2
    have f3 := HS.out.res.free 3
    have ry := HS.out.res.lt
    have c0 := HS.out.var.cell 0
    have c1 := HS.out.var.cell 1
    have c2 := HS.out.var.cell 2
    have c3 := HS.out.var.cell 3
    have g0 := HS.out.var.free 0
    have g1 := HS.out.var.free 1
    have g2 := HS.out.var.free 2
    have g3 := HS.out.var.free 3
    have cy := HS.out.var.lt
    simp at r0 r1 r2 r3 c0 c1 c2 c3
    have hne : ¬ lb = w.heap.size := by have := HS.out.l2; omega
    go_wp2
    have ho := HS.out.out (k' := k) (d := 50000) (DrawnL.more HL.out (Nat.le_succ _)) (by omega)
    refine bodyPost_ret (results_cell_row rfl _ _ w.heap.size 51 _ (0, 0) _ rfl (HS.out.res.set4 _ _ _ _) Try.underlying51 rfl (by kernel_rfl)) rfl ?_
    exact ho
  · obtain ⟨l, hl⟩ : ∃ l : Log, (⟨np, os, sf⟩ : Log) = l := ⟨_, rfl⟩
    have HS2 : Hid (LgSt w w9 rb (k + 1 + 20000 + 1 + 1) (.slice E0 l.base.slots.length k0) (.slice E1 l.base.vols.length k1) (.slice C l.ops.length c) l bu lb) := by rw [← hl]; exact HS
    have HL2 : Hid (DrawnL l 20) := by rw [← hl]; exact HL
    go_wp2_with fail
    rw [show np = l.base by rw [← hl], show os = l.ops by rw [← hl]]
    clear HS HL hl hs0 ht0 hp0 hp2 hol hoc
    have HS := HS2
    have HL := HL2
    clear HS2 HL2
    refine (pick_c HS.out.rd (by omega) 30 (by omega)).mono ?_
    rintro e wp ⟨v, rfl, ⟨r30, rfl, hr0, hr1, -⟩, hR, hg⟩
    replace HS := Lib.hid (HS.out.step hR hg)
    clear hR hg hr1
    by_cases hra : r30 = 0
    · subst hra
      go_wp2_with fail
      refine (pick_c HS.out.rd (by omega) 24 (by omega)).mono ?_
      rintro e wq ⟨v, rfl, ⟨r24, rfl, hq0, hq1, -⟩, hR, hg⟩
      have hq2 := hq1 (by omega)
      replace HS := Lib.hid (HS.out.step hR hg)
      have hws : wrap64 (r24 - 1) = r24 - 1 := by unfold wrap64; omega
      clear hR hg hq1
      have c0 := HS.out.var.cell 0
      have c1 := HS.out.var.cell 1
      have c2 := HS.out.var.cell 2
      have c3 := HS.out.var.cell 3
      have g0 := HS.out.var.free 0
      have g1 := HS.out.var.free 1
      have g2 := HS.out.var.free 2
      have g3 := HS.out.var.free 3
      have cy := HS.out.var.lt
      simp at c0 c1 c2 c3
      have HS0 := Lib.hid (HS.out.setS (r24 - 1))
      have HL0 := Lib.hid (HL.out.safe (r24 - 1))
      have hlt2 := HS.out.l2
      have r0 := HS.out.res.cell 0
      have r1 := HS.out.res.cell 1
      have r2 := HS.out.res.cell 2
      have r3 := HS.out.res.cell 3
      have f0 := HS.out.res.free 0
      have f1 := HS.out.res.free 1
      have f2 := HS.out.res.free 2
      have f3 := HS.out.res.free 3
      have ry := HS.out.res.lt
      simp at r0 r1 r2 r3
      have hne : ¬ lb = w.heap.size := by omega
      go_wp2
      have ho := HS0.out.out (k' := k) (d := 50000) (DrawnL.more HL0.out (Nat.le_succ _)) (by omega)
      refine bodyPost_ret (results_cell_row rfl _ _ w.heap.size 51 _ (0, 0) _ rfl (HS0.out.res.set4 _ _ _ _) Try.underlying51 rfl (by kernel_rfl)) rfl ?_
      exact ho
    by_cases hrb : r30 = 1
    · subst hrb
      have c0 := HS.out.var.cell 0
      have c1 := HS.out.var.cell 1
      have c2 := HS.out.var.cell 2
      have c3 := HS.out.var.cell 3
      have g0 := HS.out.var.free 0
      have g1 := HS.out.var.free 1
      have g2 := HS.out.var.free 2
      have g3 := HS.out.var.free 3
      have cy := HS.out.var.lt
      simp at c0 c1 c2 c3
      go_wp2
      have HS1 := Lib.hid (HS.out.bel (Below.refl _ _).drew)
      clear c0 c1 c3 g0 g1 g3
      have hl20 := HL.out.len
      refine start_ (n := 8) (S := fun w' => w'.cell? ⟨lb, 2, none⟩ = some (.slice C l.ops.length c)) (ds := [7]) #[false, false, false, false, false, false, false, false] (by kernel_rfl) rfl rfl (c2) (fun hHeld => ?_)
      refine pure_ (i := 0) (N := some 44) (v := ?_) (a' := ?_) #[true, false, false, false, false, false, false, false] rfl rfl (by kernel_rfl) (fun _ _ _ h => h) (Or.inl ⟨by rfl, ?_⟩) ?_ ?_
      rotate_left
      · intro w'
        go_simp
        with_reducible rfl
      rotate_left
      · simp only [Act.put, List.setIfInBounds_toArray, List.set_cons_zero, List.set_cons_succ, i64_w, i32_w]
        rfl
      refine pure_ (i := 2) (N := some 46) (v := ?_) (a' := ?_) #[true, false, true, false, false, false, false, false] rfl rfl (by kernel_rfl) (fun _ _ _ h => h) (Or.inl ⟨by rfl, ?_⟩) ?_ ?_
      rotate_left
      · intro w'
        go_simp
        with_reducible rfl
      rotate_left
      · simp only [Act.put, List.setIfInBounds_toArray, List.set_cons_zero, List.set_cons_succ, i64_w, i32_w]
        rfl
      refine take_ (i := 1) (N := some 45) (v := ?_) (a' := ?_) #[true, true, true, false, false, false, false, false] rfl rfl (by kernel_rfl) (fun _ _ _ h => h) (Or.inl ⟨by rfl, ?_⟩) hHeld ?_ ?_
      rotate_left
      · intro w' s0
        go_simp
        with_reducible rfl
      rotate_left
      · simp only [Act.put, List.setIfInBounds_toArray, List.set_cons_zero, List.set_cons_succ, i64_w, i32_w]
        rfl
      refine one_ (i := 3) (N := some 47) #[true, true, true, true, false, false, false, false] rfl rfl (by kernel_rfl) (by decide) (fun K hK => ?_)
      refine goes_ Try.func58 (by kernel_rfl) rfl #[.pointer (some ⟨rb, 0, none⟩)] (by rfl) rfl rfl (by simp only [List.map_toArray, List.map_cons, List.map_nil]; rfl) ?_
      with_reducible refine (op_c (w := wp.drew) HS1.out.rd (by omega)).mono ?_
      rintro e wa ⟨v, rfl, ⟨o, ho, hso, _⟩, hR, hg⟩
      unfold opV at ho
      subst ho
      have HS2 := Lib.hid (HS1.out.step hR hg)
      have HSO := Lib.hid hso
      clear hR hg hso
      have d2 := HS2.out.var.cell 2
      simp at d2
      refine ⟨_, rfl, ?_⟩
      refine hK.out _ _ (d2) (fun hHeld => ?_)
      clear hK K
      refine norm_ (a' := ?_) ?_ ?_
      rotate_left
      · show Act.put _ (some 47) _ = _
        simp only [Act.put, List.setIfInBounds_toArray, List.set_cons_zero, List.set_cons_succ, i64_w, i32_w]
        rfl
      refine one_ (i := 4) (N := some 48) #[true, true, true, true, true, false, false, false] rfl rfl (by kernel_rfl) (by decide) (fun K hK => ?_)
      refine value_ (w1 := ?_) (v := ?_) (by rfl) rfl ?_ ?_
      rotate_left 2
      · go_simp
        constructor
        · rfl
        · rfl
      have HS3 := Lib.hid (HS2.out.bel (bel_alloc (Below.refl _ _) (.cells #[.int .i64 o.kind, .string o.name, .string o.dest, .int .i64 o.n, .string o.text] 61)))
      have hB : Blk (wa.alloc (.cells #[.int .i64 o.kind, .string o.name, .string o.dest, .int .i64 o.n, .string o.text] 61)) wa.heap.size #[.int .i64 o.kind, .string o.name, .string o.dest, .int .i64 o.n, .string o.text] 61 := Blk.new _ _ _
      have e2 := HS3.out.var.cell 2
      simp at e2
      refine hK.out _ _ (e2) (fun hHeld => ?_)
      clear hK K
      refine norm_ (a' := ?_) ?_ ?_
      rotate_left
      · show Act.put _ (some 48) _ = _
        simp only [Act.put, List.setIfInBounds_toArray, List.set_cons_zero, List.set_cons_succ, i64_w, i32_w]
        rfl
      refine one_ (i := 5) (N := some 49) #[true, true, true, true, true, true, false, false] rfl rfl (by kernel_rfl) (by decide) (fun K hK => ?_)
      refine tail_append_step (by rfl) (.tmp 45) (.tmp 48) rfl rfl o ⟨wa.heap.size, 0, none⟩ 1 rfl ?hc HS3.out.ops (by omega) HS3.out.g.size ?_
      case hc => exact blk_cells5 hB
      intro v1 wb hv1 hgr
      obtain ⟨no, hno⟩ : ∃ no, l.ops ++ [o] = no := ⟨_, rfl⟩
      rw [hno] at hv1
      have HNO := Lib.hid hno
      clear hno
      obtain ⟨C4, c4, rfl, hc4, hC4⟩ := hv1.reads
      have HS4 := Lib.hid (HS3.out.app hgr hv1)
      have hv := HS3.out.var.grown hgr (blk_otherT HS3.out.ops HS3.out.var (by decide))
      have k2 := hv.cell 2
      have kf := hv.free 2
      have ky := hv.lt
      simp at k2
      refine hK.out _ _ (k2) (fun hHeld => ?_)
      clear hK K
      refine norm_ (a' := ?_) ?_ ?_
      rotate_left
      · show Act.put _ (some 49) _ = _
        simp only [Act.put, List.setIfInBounds_toArray, List.set_cons_zero, List.set_cons_succ, i64_w, i32_w]
        rfl
      refine pure_ (i := 6) (N := some 50) (v := ?_) (a' := ?_) #[true, true, true, true, true, true, true, false] rfl rfl (by kernel_rfl) (fun _ _ _ h => h) (Or.inl ⟨by rfl, ?_⟩) ?_ ?_
      rotate_left
      · intro w'
        go_simp
        with_reducible rfl
      rotate_left
      · simp only [Act.put, List.setIfInBounds_toArray, List.set_cons_zero, List.set_cons_succ, i64_w, i32_w]
        rfl
      refine last_ (i := 7) (N := none) #[true, true, true, true, true, true, true, true] rfl rfl (by kernel_rfl) (by decide) (fun K hK => ?_)
      refine skip_ (w1 := ?_) (by rfl) rfl ?_ ?_
      rotate_left
      · go_simp
        rfl
      refine hK.out _ _ ?_
      clear hK K
      refine done_ (by kernel_rfl) ?_
      have hl4 := HL.out.snoc (by omega) HSO.out
      rw [HNO.out] at hl4
      have HL4 := Lib.hid hl4
      clear hl4 hc4 hC4 k2 kf ky hv hv1 hgr hB d2 e2 c2 g2 cy HS HS1 HS2 HS3
      generalize wb.setCell ⟨lb, 2, none⟩ (.slice C4 no.length c4) = wc at HS4 ⊢
      have HS := HS4
      have r0 := HS.out.res.cell 0
      have r1 := HS.out.res.cell 1
      have r2 := HS.out.res.cell 2
      have r3 := HS.out.res.cell 3
      have f0 := HS.out.res.free 0
      have f1 := HS.out.res.free 1
      have f2 := HS.out.res.free 2
      have f3 := HS.out.res.free 3
      have ry := HS.out.res.lt
      have c0 := HS.out.var.cell 0
      have c1 := HS.out.var.cell 1
      have c2 := HS.out.var.cell 2
      have c3 := HS.out.var.cell 3
      have g0 := HS.out.var.free 0
      have g1 := HS.out.var.free 1
      have g2 := HS.out.var.free 2
      have g3 := HS.out.var.free 3
      have cy := HS.out.var.lt
      simp at r0 r1 r2 r3 c0 c1 c2 c3
      have hne : ¬ lb = w.heap.size := by have := HS.out.l2; omega
      go_wp2
      have ho := HS4.out.out (k' := k) (d := 50000) HL4.out (by omega)
      refine bodyPost_ret (results_cell_row rfl _ _ w.heap.size 51 _ (0, 0) _ rfl (HS4.out.res.set4 _ _ _ _) Try.underlying51 rfl (by kernel_rfl)) rfl ?_
      exact ho
    by_cases hrc : r30 = 2
    · subst hrc
      go_wp2_with fail
      refine (pool_c HS.out.rd (by omega)).mono ?_
      rintro e wq ⟨u0, u1, q, bq, rfl, hdq, hq, hR, hg⟩
      obtain ⟨A5, B5, a5, b5, rfl, rfl, hpi⟩ := hq.reads
      have hsz := HS.out.g.size
      have HS0 := Lib.hid (HS.out.step hR hg)
      have HS5 := Lib.hid (HS0.out.setP (hq.lower hsz))
      have HL5 := Lib.hid (HL.out.basis hdq.small)
      clear hpi hq hR hg hsz hdq HS
      have HS := HS0
      have c0 := HS.out.var.cell 0
      have c1 := HS.out.var.cell 1
      have c2 := HS.out.var.cell 2
      have c3 := HS.out.var.cell 3
      have g0 := HS.out.var.free 0
      have g1 := HS.out.var.free 1
      have g2 := HS.out.var.free 2
      have g3 := HS.out.var.free 3
      have cy := HS.out.var.lt
      simp at c0 c1 c2 c3
      have hlt2 := HS.out.l2
      have r0 := HS.out.res.cell 0
      have r1 := HS.out.res.cell 1
      have r2 := HS.out.res.cell 2
      have r3 := HS.out.res.cell 3
      have f0 := HS.out.res.free 0
      have f1 := HS.out.res.free 1
      have f2 := HS.out.res.free 2
      have f3 := HS.out.res.free 3
      have ry := HS.out.res.lt
      simp at r0 r1 r2 r3
      have hne : ¬ lb = w.heap.size := by omega
      go_wp2
      have ho := HS5.out.out (k' := k) (d := 50000) (DrawnL.more HL5.out (Nat.le_succ _)) (by omega)
      refine bodyPost_ret (results_cell_row rfl _ _ w.heap.size 51 _ (0, 0) _ rfl (HS5.out.res.set4 _ _ _ _) Try.underlying51 rfl (by kernel_rfl)) rfl ?_
      exact ho
    have r0 := HS.out.res.cell 0
    have r1 := HS.out.res.cell 1
    have r2 := HS.out.res.cell 2
    have r3 := HS.out.res.cell 3
    have f0 := HS.out.res.free 0
    have f1 := HS.out.res.free 1
    have f2 := HS.out.res.free 2
    have f3 := HS.out.res.free 3
    have ry := HS.out.res.lt
    have c0 := HS.out.var.cell 0
    have c1 := HS.out.var.cell 1
    have c2 := HS.out.var.cell 2
    have c3 := HS.out.var.cell 3
    have g0 := HS.out.var.free 0
    have g1 := HS.out.var.free 1
    have g2 := HS.out.var.free 2
    have g3 := HS.out.var.free 3
    have cy := HS.out.var.lt
    simp at r0 r1 r2 r3 c0 c1 c2 c3
    have hne : ¬ lb = w.heap.size := by have := HS.out.l2; omega
    go_wp2
    have ho := HS.out.out (k' := k) (d := 50000) (DrawnL.more HL.out (Nat.le_succ _)) (by omega)
    refine bodyPost_ret (results_cell_row rfl _ _ w.heap.size 51 _ (0, 0) _ rfl (HS.out.res.set4 _ _ _ _) Try.underlying51 rfl (by kernel_rfl)) rfl ?_
    exact ho
end Go.Proofs.Ytccllgpaafgjaaa

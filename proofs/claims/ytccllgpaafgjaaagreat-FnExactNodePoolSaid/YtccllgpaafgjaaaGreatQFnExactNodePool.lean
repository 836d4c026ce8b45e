/- FnExactNodePool. -/
import Derived.Test.YtccllgpaafgjaaaGreatQ1
import Derived.Test.YtccllgpaafgjaaaGreatQ2
import Derived.Test.YtccllgpaafgjaaaGreatQ3
import Derived.Test.YtccllgpaafgjaaaGreatQ4
import Derived.Test.YtccllgpaafgjaaaGreatQ5
import Derived.Test.YtccllgpaafgjaaaGreatQ6
import Derived.Test.YtccllgpaafgjaaaGreatQ7
namespace Go.Proofs.YtccllgpaafgjaaaGreat
open Go.RowKit Go.Proofs.YtccllgpaafgjaaaGreatW.PrintWords Go.Proofs.YtccllgpaafgjaaaGreatW.PrintLast
set_option linter.unusedVariables false
set_option linter.unusedSimpArgs false

theorem blkz {w : World} {b : Nat} {cs : Array Value} {t : TypeId} (h : Blk w b cs t) (j : Nat) (v : Value) (hv : cs[j]? = some v) : w.cell? ⟨b, j, none⟩ = some v := by rw [h.cell]; exact hv
structure AtO (w : World) (lo hi : Nat) (v : Value) (s : List Op) : Prop where
  own : OwnO w lo v s
  lt : ∀ k, v.ownBlock = some k → k < hi
theorem AtO.bel {w w' : World} {lo hi : Nat} {v : Value} {s : List Op} (h : AtO w lo hi v s) (hb : Bel w w') : AtO w' lo hi v s := ⟨h.own.bel hb, h.lt⟩
theorem OwnO.ato {w : World} {lo : Nat} {v : Value} {s : List Op} (h : OwnO w lo v s) : AtO w lo w.heap.size v s := ⟨h, fun k hk => own_block_lt h hk⟩
theorem AtO.grown {w w' : World} {lo hi : Nat} {v : Value} {s : List Op} (h : AtO w lo hi v s) (hg : w.grownBy w' v.ownBlock) : Within lo hi w w' :=
 ⟨hg.os, hg.tape, hg.output, hg.size, fun k hk hn => hg.block k hk (fun e => hn ⟨own_base h.own k e.symm, h.lt k e.symm⟩)⟩
set_option maxHeartbeats 16000000 in
set_option maxRecDepth 10000 in
theorem lawFnExactNodePool_c {w : World} {A : Option Addr} {c : Nat} {n : Node} (hC : kOp.C w A n.ops.length n.ops) (hr : RawOs n.ops) :
  Calls Tryz.prog 13 #[.agg #[.bool n.up, .int .i64 n.term, .bool n.leads, .bool n.alone, .slice A n.ops.length c]] w (Ret (.bool true) w) := by
 have HC := Lib.hid hC
 have HRW := Lib.hid hr
 obtain ⟨q, hqe⟩ : ∃ q, nodePF n = q := ⟨_, rfl⟩
 have HQE := Lib.hid hqe
 have HSq : Hid (SmallP q) := Lib.hid (hqe ▸ nodePF_small)
 clear hC hr hqe
 go_enter Tryz.func13, Tryz.ntmps13
 go_wp2_with fail
 have hB : Blk (w.alloc (.cells #[.bool n.up, .int .i64 n.term, .bool n.leads, .bool n.alone, .slice A n.ops.length c] 53)) w.heap.size #[.bool n.up, .int .i64 n.term, .bool n.leads, .bool n.alone, .slice A n.ops.length c] 53 := Blk.new _ _ _
 have hb : Bel w (w.alloc (.cells #[.bool n.up, .int .i64 n.term, .bool n.leads, .bool n.alone, .slice A n.ops.length c] 53)) := bel_alloc (Below.refl _ _) _
 generalize w.alloc (.cells #[.bool n.up, .int .i64 n.term, .bool n.leads, .bool n.alone, .slice A n.ops.length c] 53) = W0 at hB hb ⊢
 have zb := hB.lt
 obtain ⟨bkl, hbk⟩ : ∃ b, w.heap.size = b := ⟨_, rfl⟩
 rw [hbk] at hB zb ⊢
 refine (szNode_c (kOp_keep HC.out hb) HRW.out (by omega) (by omega)).mono ?_
 rintro e w1 ⟨r, rfl, hb1, hr, hr1⟩
 have KB := Lib.hid (hB.bel hb1)
 have KW := Lib.hid (hb.tr hb1)
 have HRR := Lib.hid hr
 have zb1 : bkl < w1.heap.size := Nat.lt_of_lt_of_le zb hb1.size
 clear hB hb hb1 hr
 by_cases hrn : r < 0
 ·go_wp2
  go_ret
  exact ⟨rfl, KW.out⟩
 have HS := Lib.hid (HRR.out (by omega)).1
 clear HRR hr1 zb
 have kb_0 : w1.cell? ⟨bkl, 0, none⟩ = some (.bool n.up) := blkz KB.out 0 _ rfl
 have kb_1 : w1.cell? ⟨bkl, 1, none⟩ = some (.int .i64 n.term) := blkz KB.out 1 _ rfl
 have kb_2 : w1.cell? ⟨bkl, 2, none⟩ = some (.bool n.leads) := blkz KB.out 2 _ rfl
 have kb_3 : w1.cell? ⟨bkl, 3, none⟩ = some (.bool n.alone) := blkz KB.out 3 _ rfl
 have kb_4 : w1.cell? ⟨bkl, 4, none⟩ = some (.slice A n.ops.length c) := blkz KB.out 4 _ rfl
 have kb_y := KB.out.lt
 go_wp2_with fail
 clear kb_0 kb_1 kb_2 kb_3 kb_4 kb_y
 refine (toNode_c (n := n) (c := c) (kOp_keep HC.out KW.out) HS.out.len).mono ?_
 rintro e w2 ⟨v, rfl, ho, hb⟩
 obtain ⟨B, d, rfl, _, hCB⟩ := ho.reads
 replace KB := Lib.hid (KB.out.bel hb)
 replace KW := Lib.hid (KW.out.tr hb)
 clear ho hb
 have z0 : bkl < w2.heap.size := by have := KB.out.lt; exact this
 go_wp2_with fail
 have hh := specNodePool_c (n := n) (c := d) hCB HS.out
 rw [HQE.out] at hh
 refine hh.mono ?_
 rintro e w3 ⟨v0, v1, bvKq, rfl, ho, hb⟩
 obtain ⟨A4, A5, c4, c5, rfl, rfl, hpi⟩ := ho.reads
 clear hh hpi
 obtain ⟨lq, hlq⟩ : ∃ k, w2.heap.size = k := ⟨_, rfl⟩
 obtain ⟨hq, hhq⟩ : ∃ k, w3.heap.size = k := ⟨_, rfl⟩
 have zKq : lq ≤ hq := by have := hb.size; omega
 have Kq : Hid (At w3 lq hq (.slice A4 q.slots.length c4) (.slice A5 q.vols.length c5) q bvKq) := Lib.hid (by rw [← hlq, ← hhq]; exact OwnP.at ho)
 have z1 : bkl < lq := by omega
 have Hhlq := Lib.hid hlq
 have Hhhq := Lib.hid hhq
 clear hlq hhq
 replace KB := Lib.hid (KB.out.bel hb)
 replace KW := Lib.hid (KW.out.tr hb)
 clear ho hb
 clear hCB z0
 have kb_0 : w3.cell? ⟨bkl, 0, none⟩ = some (.bool n.up) := blkz KB.out 0 _ rfl
 have kb_1 : w3.cell? ⟨bkl, 1, none⟩ = some (.int .i64 n.term) := blkz KB.out 1 _ rfl
 have kb_2 : w3.cell? ⟨bkl, 2, none⟩ = some (.bool n.leads) := blkz KB.out 2 _ rfl
 have kb_3 : w3.cell? ⟨bkl, 3, none⟩ = some (.bool n.alone) := blkz KB.out 3 _ rfl
 have kb_4 : w3.cell? ⟨bkl, 4, none⟩ = some (.slice A n.ops.length c) := blkz KB.out 4 _ rfl
 have kb_y := KB.out.lt
 go_wp2_with fail
 clear kb_0 kb_1 kb_2 kb_3 kb_4 kb_y
 have hnew : Blk (w3.alloc (.cells #[.slice A4 q.slots.length c4, .slice A5 q.vols.length c5] 42)) w3.heap.size #[.slice A4 q.slots.length c4, .slice A5 q.vols.length c5] 42 := Blk.new _ _ _
 have hb : Bel w3 (w3.alloc (.cells #[.slice A4 q.slots.length c4, .slice A5 q.vols.length c5] 42)) := bel_alloc (Below.refl _ _) _
 have hsz : (w3.alloc (.cells #[.slice A4 q.slots.length c4, .slice A5 q.vols.length c5] 42)).heap.size = w3.heap.size + 1 := by simp
 generalize w3.alloc (.cells #[.slice A4 q.slots.length c4, .slice A5 q.vols.length c5] 42) = W4 at hnew hb hsz ⊢
 have hq_ := Hhhq.out
 rw [hq_] at hnew hsz ⊢
 clear hq_
 obtain ⟨bw, hb_bw⟩ : ∃ b, hq = b := ⟨_, rfl⟩
 have Bw : Hid (Blk W4 bw #[.slice A4 q.slots.length c4, .slice A5 q.vols.length c5] 42) := Lib.hid (by rw [← hb_bw]; exact hnew)
 replace KB := Lib.hid (KB.out.bel hb)
 replace Kq := Lib.hid (Kq.out.bel hb)
 replace KW := Lib.hid (KW.out.tr hb)
 rw [hb_bw]
 have Hb_bw := Lib.hid hb_bw
 have zb_bw := Nat.le_of_eq hb_bw
 have zc_bw := Nat.le_of_eq hb_bw.symm
 clear hnew hb hb_bw
 refine (toNode_c (n := n) (c := c) (kOp_keep HC.out KW.out) HS.out.len).mono ?_
 rintro e w5 ⟨v, rfl, ho, hb⟩
 obtain ⟨E, f, rfl, _, hCE⟩ := ho.reads
 obtain ⟨lx, hlx⟩ : ∃ k, W4.heap.size = k := ⟨_, rfl⟩
 obtain ⟨hx, hhx⟩ : ∃ k, w5.heap.size = k := ⟨_, rfl⟩
 have zx : lx ≤ hx := by have := hb.size; omega
 have Kx : Hid (AtO w5 lx hx (.slice E n.ops.length f) n.ops) := Lib.hid (by rw [← hlx, ← hhx]; exact OwnO.ato ho)
 have z2 : hq < lx := by omega
 have Hhx := Lib.hid hhx
 clear hlx hhx hsz
 replace KB := Lib.hid (KB.out.bel hb)
 replace Kq := Lib.hid (Kq.out.bel hb)
 replace Bw := Lib.hid (Bw.out.bel hb)
 replace KW := Lib.hid (KW.out.tr hb)
 clear ho hb
 go_wp2_with fail
 have hnew : Blk (w5.alloc (.cells #[.bool n.up, .int .i64 n.term, .bool n.leads, .bool n.alone, .slice E n.ops.length f] 25)) w5.heap.size #[.bool n.up, .int .i64 n.term, .bool n.leads, .bool n.alone, .slice E n.ops.length f] 25 := Blk.new _ _ _
 have hb : Bel w5 (w5.alloc (.cells #[.bool n.up, .int .i64 n.term, .bool n.leads, .bool n.alone, .slice E n.ops.length f] 25)) := bel_alloc (Below.refl _ _) _
 have hsz : (w5.alloc (.cells #[.bool n.up, .int .i64 n.term, .bool n.leads, .bool n.alone, .slice E n.ops.length f] 25)).heap.size = w5.heap.size + 1 := by simp
 generalize w5.alloc (.cells #[.bool n.up, .int .i64 n.term, .bool n.leads, .bool n.alone, .slice E n.ops.length f] 25) = W6 at hnew hb hsz ⊢
 have hq_ := Hhx.out
 rw [hq_] at hnew hsz ⊢
 clear hq_
 obtain ⟨bx, hb_bx⟩ : ∃ b, hx = b := ⟨_, rfl⟩
 have Bx : Hid (Blk W6 bx #[.bool n.up, .int .i64 n.term, .bool n.leads, .bool n.alone, .slice E n.ops.length f] 25) := Lib.hid (by rw [← hb_bx]; exact hnew)
 replace KB := Lib.hid (KB.out.bel hb)
 replace Kq := Lib.hid (Kq.out.bel hb)
 replace Bw := Lib.hid (Bw.out.bel hb)
 replace Kx := Lib.hid (Kx.out.bel hb)
 replace KW := Lib.hid (KW.out.tr hb)
 rw [hb_bx]
 have Hb_bx := Lib.hid hb_bx
 have zb_bx := Nat.le_of_eq hb_bx
 have zc_bx := Nat.le_of_eq hb_bx.symm
 clear hnew hb hb_bx
 have hCx := (Kx.out.own.innC rfl).2
 have hh := implNodePool_c (n := n) (c := f) hCx HS.out
 rw [HQE.out] at hh
 refine hh.mono ?_
 rintro e w7 ⟨v0, v1, bvKg, rfl, ho, hb⟩
 obtain ⟨A6, A7, c6, c7, rfl, rfl, hpi⟩ := ho.reads
 clear hh hpi
 obtain ⟨lg, hlg⟩ : ∃ k, W6.heap.size = k := ⟨_, rfl⟩
 obtain ⟨hg, hhg⟩ : ∃ k, w7.heap.size = k := ⟨_, rfl⟩
 have zKg : lg ≤ hg := by have := hb.size; omega
 have Kg : Hid (At w7 lg hg (.slice A6 q.slots.length c6) (.slice A7 q.vols.length c7) q bvKg) := Lib.hid (by rw [← hlg, ← hhg]; exact OwnP.at ho)
 have z3 : hx < lg := by omega
 clear hsz
 have Hhlg := Lib.hid hlg
 have Hhhg := Lib.hid hhg
 clear hlg hhg
 replace KB := Lib.hid (KB.out.bel hb)
 replace Kq := Lib.hid (Kq.out.bel hb)
 replace Bw := Lib.hid (Bw.out.bel hb)
 replace Kx := Lib.hid (Kx.out.bel hb)
 replace Bx := Lib.hid (Bx.out.bel hb)
 replace KW := Lib.hid (KW.out.tr hb)
 clear ho hb
 clear hCx
 have bw_0 : w7.cell? ⟨bw, 0, none⟩ = some (.slice A4 q.slots.length c4) := blkz Bw.out 0 _ rfl
 have bw_1 : w7.cell? ⟨bw, 1, none⟩ = some (.slice A5 q.vols.length c5) := blkz Bw.out 1 _ rfl
 have bw_y := Bw.out.lt
 go_wp2_with fail
 clear bw_0 bw_1 bw_y
 have hnew : Blk (w7.alloc (.cells #[.slice A6 q.slots.length c6, .slice A7 q.vols.length c7] 42)) w7.heap.size #[.slice A6 q.slots.length c6, .slice A7 q.vols.length c7] 42 := Blk.new _ _ _
 have hb : Bel w7 (w7.alloc (.cells #[.slice A6 q.slots.length c6, .slice A7 q.vols.length c7] 42)) := bel_alloc (Below.refl _ _) _
 have hsz : (w7.alloc (.cells #[.slice A6 q.slots.length c6, .slice A7 q.vols.length c7] 42)).heap.size = w7.heap.size + 1 := by simp
 generalize w7.alloc (.cells #[.slice A6 q.slots.length c6, .slice A7 q.vols.length c7] 42) = W8 at hnew hb hsz ⊢
 have hq_ := Hhhg.out
 rw [hq_] at hnew hsz ⊢
 clear hq_
 obtain ⟨bg, hb_bg⟩ : ∃ b, hg = b := ⟨_, rfl⟩
 have Bg : Hid (Blk W8 bg #[.slice A6 q.slots.length c6, .slice A7 q.vols.length c7] 42) := Lib.hid (by rw [← hb_bg]; exact hnew)
 replace KB := Lib.hid (KB.out.bel hb)
 replace Kq := Lib.hid (Kq.out.bel hb)
 replace Bw := Lib.hid (Bw.out.bel hb)
 replace Kx := Lib.hid (Kx.out.bel hb)
 replace Bx := Lib.hid (Bx.out.bel hb)
 replace Kg := Lib.hid (Kg.out.bel hb)
 replace KW := Lib.hid (KW.out.tr hb)
 rw [hb_bg]
 have Hb_bg := Lib.hid hb_bg
 have zb_bg := Nat.le_of_eq hb_bg
 have zc_bg := Nat.le_of_eq hb_bg.symm
 clear hnew hb hb_bg
 refine (eqPool_c Kg.out.own.inn Kq.out.own.inn HSq.out).mono ?_
 rintro e w9 ⟨rfl, hb⟩
 replace KB := Lib.hid (KB.out.bel hb)
 replace Kq := Lib.hid (Kq.out.bel hb)
 replace Bw := Lib.hid (Bw.out.bel hb)
 replace Kx := Lib.hid (Kx.out.bel hb)
 replace Bx := Lib.hid (Bx.out.bel hb)
 replace Kg := Lib.hid (Kg.out.bel hb)
 replace Bg := Lib.hid (Bg.out.bel hb)
 replace KW := Lib.hid (KW.out.tr hb)
 clear hb
 go_wp2
 have hb : Bel w9 w9.drew := (Below.refl _ _).drew
 replace KB := Lib.hid (KB.out.bel hb)
 replace Kq := Lib.hid (Kq.out.bel hb)
 replace Bw := Lib.hid (Bw.out.bel hb)
 replace Kx := Lib.hid (Kx.out.bel hb)
 replace Bx := Lib.hid (Bx.out.bel hb)
 replace Kg := Lib.hid (Kg.out.bel hb)
 replace Bg := Lib.hid (Bg.out.bel hb)
 replace KW := Lib.hid (KW.out.tr hb)
 clear hb
 refine start_ (n := 5) (S := fun w' => w'.cell? ⟨bx, 0, none⟩ = some (.bool n.up) ∧ w'.cell? ⟨bx, 1, none⟩ = some (.int .i64 n.term) ∧ w'.cell? ⟨bx, 2, none⟩ = some (.bool n.leads) ∧ w'.cell? ⟨bx, 3, none⟩ = some (.bool n.alone) ∧ w'.cell? ⟨bx, 4, none⟩ = some (.slice E n.ops.length f) ∧ w'.cell? ⟨bkl, 0, none⟩ = some (.bool n.up) ∧ w'.cell? ⟨bkl, 1, none⟩ = some (.int .i64 n.term) ∧ w'.cell? ⟨bkl, 2, none⟩ = some (.bool n.leads) ∧ w'.cell? ⟨bkl, 3, none⟩ = some (.bool n.alone) ∧ w'.cell? ⟨bkl, 4, none⟩ = some (.slice A n.ops.length c)) (ds := []) #[bF, bF, bF, bF, bF] (by kernel_rfl) rfl rfl ⟨(blkz Bx.out 0 _ rfl), (blkz Bx.out 1 _ rfl), (blkz Bx.out 2 _ rfl), (blkz Bx.out 3 _ rfl), (blkz Bx.out 4 _ rfl), (blkz KB.out 0 _ rfl), (blkz KB.out 1 _ rfl), (blkz KB.out 2 _ rfl), (blkz KB.out 3 _ rfl), (blkz KB.out 4 _ rfl)⟩ (fun hHeld => ?_)
 refine take_ (i := 0) (N := some 27) (v := ?_) (a' := ?_) #[bT, bF, bF, bF, bF] rfl rfl (by kernel_rfl) (fun _ _ _ h => h) (Or.inl ⟨by rfl, ?_⟩) hHeld ?_ ?_
 rotate_left
 ·rintro w' ⟨s0, s1, s2, s3, s4, s5, s6, s7, s8, s9⟩
  go_simp
  with_reducible rfl
 rotate_left
 ·simp only [Act.put, lA, lB, lC, i64_w, i32_w]
  rfl
 refine take_ (i := 1) (N := some 28) (v := ?_) (a' := ?_) #[bT, bT, bF, bF, bF] rfl rfl (by kernel_rfl) (fun _ _ _ h => h) (Or.inl ⟨by rfl, ?_⟩) hHeld ?_ ?_
 rotate_left
 ·rintro w' ⟨s0, s1, s2, s3, s4, s5, s6, s7, s8, s9⟩
  go_simp
  with_reducible rfl
 rotate_left
 ·simp only [Act.put, lA, lB, lC, i64_w, i32_w]
  rfl
 refine one_ (i := 2) (N := some 29) #[bT, bT, bT, bF, bF] rfl rfl (by kernel_rfl) (by decide) (fun K hK => ?_)
 refine goes_ Tryz.func41 (by kernel_rfl) rfl #[.agg #[.bool n.up, .int .i64 n.term, .bool n.leads, .bool n.alone, .slice A n.ops.length c]] (by rfl) rfl rfl (by simp only [List.map_toArray, List.map_cons, List.map_nil]; rfl) ?_
 with_reducible refine (toNode_c (n := n) (c := c) (kOp_keep HC.out KW.out) HS.out.len).mono ?_
 rintro e w10 ⟨v, rfl, ho, hb⟩
 obtain ⟨G, m, rfl, _, hCG⟩ := ho.reads
 clear ho
 replace KB := Lib.hid (KB.out.bel hb)
 replace Kq := Lib.hid (Kq.out.bel hb)
 replace Bw := Lib.hid (Bw.out.bel hb)
 replace Kx := Lib.hid (Kx.out.bel hb)
 replace Bx := Lib.hid (Bx.out.bel hb)
 replace Kg := Lib.hid (Kg.out.bel hb)
 replace Bg := Lib.hid (Bg.out.bel hb)
 replace KW := Lib.hid (KW.out.tr hb)
 clear hb
 refine ⟨_, rfl, ?_⟩
 refine hK.out _ _ ⟨(blkz Bx.out 0 _ rfl), (blkz Bx.out 1 _ rfl), (blkz Bx.out 2 _ rfl), (blkz Bx.out 3 _ rfl), (blkz Bx.out 4 _ rfl), (blkz KB.out 0 _ rfl), (blkz KB.out 1 _ rfl), (blkz KB.out 2 _ rfl), (blkz KB.out 3 _ rfl), (blkz KB.out 4 _ rfl)⟩ (fun hHeld => ?_)
 clear hK K
 refine norm_ (a' := ?_) ?_ ?_
 rotate_left
 ·show Act.put _ (some 29) _ = _
  simp only [Act.put, lA, lB, lC, i64_w, i32_w]
  rfl
 refine one_ (i := 3) (N := some 30) #[bT, bT, bT, bT, bF] rfl rfl (by kernel_rfl) (by decide) (fun K hK => ?_)
 refine goes_ Tryz.func44 (by kernel_rfl) rfl #[.agg #[.bool n.up, .int .i64 n.term, .bool n.leads, .bool n.alone, .slice E n.ops.length f], .agg #[.bool n.up, .int .i64 n.term, .bool n.leads, .bool n.alone, .slice G n.ops.length m]] (by rfl) rfl rfl (by simp only [List.map_toArray, List.map_cons, List.map_nil]; rfl) ?_
 with_reducible refine (eqNode_c (n := n) (Kx.out.own.innC rfl).2 hCG HS.out.len).mono ?_
 rintro e w11 ⟨rfl, hb⟩
 replace KB := Lib.hid (KB.out.bel hb)
 replace Kq := Lib.hid (Kq.out.bel hb)
 replace Bw := Lib.hid (Bw.out.bel hb)
 replace Kx := Lib.hid (Kx.out.bel hb)
 replace Bx := Lib.hid (Bx.out.bel hb)
 replace Kg := Lib.hid (Kg.out.bel hb)
 replace Bg := Lib.hid (Bg.out.bel hb)
 replace KW := Lib.hid (KW.out.tr hb)
 clear hb
 refine ⟨_, rfl, ?_⟩
 refine hK.out _ _ ⟨(blkz Bx.out 0 _ rfl), (blkz Bx.out 1 _ rfl), (blkz Bx.out 2 _ rfl), (blkz Bx.out 3 _ rfl), (blkz Bx.out 4 _ rfl), (blkz KB.out 0 _ rfl), (blkz KB.out 1 _ rfl), (blkz KB.out 2 _ rfl), (blkz KB.out 3 _ rfl), (blkz KB.out 4 _ rfl)⟩ (fun hHeld => ?_)
 clear hK K
 refine norm_ (a' := ?_) ?_ ?_
 rotate_left
 ·show Act.put _ (some 30) _ = _
  simp only [Act.put, lA, lB, lC, i64_w, i32_w]
  rfl
 refine pure_ (i := 4) (N := some 31) (v := ?_) (a' := ?_) #[bT, bT, bT, bT, bT] rfl rfl (by kernel_rfl) (fun _ _ _ h => h) (Or.inl ⟨by rfl, ?_⟩) ?_ ?_
 rotate_left
 ·intro w'
  go_simp
  with_reducible rfl
 rotate_left
 ·simp only [Act.put, lA, lB, lC, i64_w, i32_w]
  rfl
 refine done_ (by kernel_rfl) ?_
 have bx_0 : w11.cell? ⟨bx, 0, none⟩ = some (.bool n.up) := blkz Bx.out 0 _ rfl
 have bx_1 : w11.cell? ⟨bx, 1, none⟩ = some (.int .i64 n.term) := blkz Bx.out 1 _ rfl
 have bx_2 : w11.cell? ⟨bx, 2, none⟩ = some (.bool n.leads) := blkz Bx.out 2 _ rfl
 have bx_3 : w11.cell? ⟨bx, 3, none⟩ = some (.bool n.alone) := blkz Bx.out 3 _ rfl
 have bx_4 : w11.cell? ⟨bx, 4, none⟩ = some (.slice E n.ops.length f) := blkz Bx.out 4 _ rfl
 have bx_y := Bx.out.lt
 go_wp2_with fail
 clear bx_0 bx_1 bx_2 bx_3 bx_4 bx_y
 refine (markNode_c (k := 1) Kx.out.own HS.out.len (Nat.le_trans (show lx ≤ hx from zx) (by have := Bx.out.lt; omega)) (by omega) (by omega)).mono ?_
 rintro e w12 ⟨rfl, hgr⟩
 have hwi : Within lx hx w11 w12 := Kx.out.grown hgr
 clear hgr
 replace KB := Lib.hid (KB.out.within hwi (by omega))
 replace Kq := Lib.hid (Kq.out.within hwi (by omega))
 replace Bw := Lib.hid (Bw.out.within hwi (by omega))
 replace Bx := Lib.hid (Bx.out.within hwi (by omega))
 replace Kg := Lib.hid (Kg.out.within hwi (by omega))
 replace Bg := Lib.hid (Bg.out.within hwi (by omega))
 replace KW : Hid (Bel w w12) := Lib.hid (KW.out.trans (Within.below hwi (Below.size KW.out) (by omega)))
 clear hwi Kx
 have hl := HS.out.len
 have hneg : ¬ ((1 : Int) + 5 * (n.ops.length : Int) < 0) := by omega
 have bg_0 : w12.cell? ⟨bg, 0, none⟩ = some (.slice A6 q.slots.length c6) := blkz Bg.out 0 _ rfl
 have bg_1 : w12.cell? ⟨bg, 1, none⟩ = some (.slice A7 q.vols.length c7) := blkz Bg.out 1 _ rfl
 have bg_y := Bg.out.lt
 have bw_0 : w12.cell? ⟨bw, 0, none⟩ = some (.slice A4 q.slots.length c4) := blkz Bw.out 0 _ rfl
 have bw_1 : w12.cell? ⟨bw, 1, none⟩ = some (.slice A5 q.vols.length c5) := blkz Bw.out 1 _ rfl
 have bw_y := Bw.out.lt
 go_wp2_with fail
 clear bg_0 bg_1 bg_y
 clear bw_0 bw_1 bw_y
 refine (eqPool_c Kg.out.own.inn Kq.out.own.inn HSq.out).mono ?_
 rintro e w13 ⟨rfl, hb⟩
 replace KB := Lib.hid (KB.out.bel hb)
 replace Kq := Lib.hid (Kq.out.bel hb)
 replace Bw := Lib.hid (Bw.out.bel hb)
 replace Bx := Lib.hid (Bx.out.bel hb)
 replace Kg := Lib.hid (Kg.out.bel hb)
 replace Bg := Lib.hid (Bg.out.bel hb)
 replace KW := Lib.hid (KW.out.tr hb)
 clear hb
 clear hneg
 have bg_0 : w13.cell? ⟨bg, 0, none⟩ = some (.slice A6 q.slots.length c6) := blkz Bg.out 0 _ rfl
 have bg_1 : w13.cell? ⟨bg, 1, none⟩ = some (.slice A7 q.vols.length c7) := blkz Bg.out 1 _ rfl
 have bg_y := Bg.out.lt
 go_wp2_with fail
 clear bg_0 bg_1 bg_y
 refine (markA_c Kg.out HSq.out (by omega) (by omega)).mono ?_
 rintro e w14 ⟨rfl, ⟨qg, hg1, hg2, hg2v, hg3, hg4, hg5⟩, hwi⟩
 replace KB := Lib.hid (KB.out.within hwi (by omega))
 replace Kq := Lib.hid (Kq.out.within hwi (by omega))
 replace Bw := Lib.hid (Bw.out.within hwi (by omega))
 replace Bx := Lib.hid (Bx.out.within hwi (by omega))
 replace Bg := Lib.hid (Bg.out.within hwi (by omega))
 replace KW : Hid (Bel w w14) := Lib.hid (KW.out.trans (Within.below hwi (Below.size KW.out) (by omega)))
 replace Kg := Lib.hid hg5
 have KGM := Lib.hid (And.intro hg1 (And.intro hg3 hg4))
 have KGL := Lib.hid (And.intro hg2 hg2v)
 clear hg1 hg2 hg2v hg3 hg4 hg5 hwi
 have KN := Lib.hid (nxP_bd HSq.out (k := 1) (by omega) (by omega))
 have hneg : ¬ (nxP 1 q < 0) := by have := KN.out; omega
 have bg_0 : w14.cell? ⟨bg, 0, none⟩ = some (.slice A6 q.slots.length c6) := blkz Bg.out 0 _ rfl
 have bg_1 : w14.cell? ⟨bg, 1, none⟩ = some (.slice A7 q.vols.length c7) := blkz Bg.out 1 _ rfl
 have bg_y := Bg.out.lt
 go_wp2_with fail
 clear bg_0 bg_1 bg_y
 have hpiG : PoolIn w14 A6 A7 c6 c7 qg := by obtain ⟨B6, B7, d6, d7, e6, e7, h⟩ := Kg.out.reads; have e6 := slice_eq e6; have e7 := slice_eq e7; obtain ⟨rfl, -, rfl⟩ := e6; obtain ⟨rfl, -, rfl⟩ := e7; exact h
 have hheld := heldPool_c hpiG KGM.out.2.2 KGM.out.1 (by omega) (by omega)
 rw [KGM.out.2.1, KGL.out.1, KGL.out.2] at hheld
 refine hheld.mono ?_
 rintro e w15 ⟨rfl, hb⟩
 clear hpiG hheld
 replace KB := Lib.hid (KB.out.bel hb)
 replace Kq := Lib.hid (Kq.out.bel hb)
 replace Bw := Lib.hid (Bw.out.bel hb)
 replace Bx := Lib.hid (Bx.out.bel hb)
 replace Bg := Lib.hid (Bg.out.bel hb)
 replace Kg := Lib.hid (Kg.out.bel hb)
 replace KW := Lib.hid (KW.out.tr hb)
 clear hb
 have kb_0 : w15.cell? ⟨bkl, 0, none⟩ = some (.bool n.up) := blkz KB.out 0 _ rfl
 have kb_1 : w15.cell? ⟨bkl, 1, none⟩ = some (.int .i64 n.term) := blkz KB.out 1 _ rfl
 have kb_2 : w15.cell? ⟨bkl, 2, none⟩ = some (.bool n.leads) := blkz KB.out 2 _ rfl
 have kb_3 : w15.cell? ⟨bkl, 3, none⟩ = some (.bool n.alone) := blkz KB.out 3 _ rfl
 have kb_4 : w15.cell? ⟨bkl, 4, none⟩ = some (.slice A n.ops.length c) := blkz KB.out 4 _ rfl
 have kb_y := KB.out.lt
 go_wp2_with fail
 clear kb_0 kb_1 kb_2 kb_3 kb_4 kb_y
 refine (toNode_c (n := n) (c := c) (kOp_keep HC.out KW.out) HS.out.len).mono ?_
 rintro e w16 ⟨v, rfl, ho, hb⟩
 obtain ⟨F, g, rfl, _, hCF⟩ := ho.reads
 replace KB := Lib.hid (KB.out.bel hb)
 replace Kq := Lib.hid (Kq.out.bel hb)
 replace Bw := Lib.hid (Bw.out.bel hb)
 replace Bx := Lib.hid (Bx.out.bel hb)
 replace Bg := Lib.hid (Bg.out.bel hb)
 replace Kg := Lib.hid (Kg.out.bel hb)
 replace KW := Lib.hid (KW.out.tr hb)
 clear ho hb
 go_wp2_with fail
 have hh := implNodePool_c (n := n) (c := g) hCF HS.out
 rw [HQE.out] at hh
 refine hh.mono ?_
 rintro e w17 ⟨v0, v1, bvh, rfl, ho, hb⟩
 obtain ⟨A8, A9, c8, c9, rfl, rfl, hpi⟩ := ho.reads
 clear hh hCF ho
 replace KB := Lib.hid (KB.out.bel hb)
 replace Kq := Lib.hid (Kq.out.bel hb)
 replace Bw := Lib.hid (Bw.out.bel hb)
 replace Bx := Lib.hid (Bx.out.bel hb)
 replace Bg := Lib.hid (Bg.out.bel hb)
 replace Kg := Lib.hid (Kg.out.bel hb)
 replace KW := Lib.hid (KW.out.tr hb)
 clear hb
 have bw_0 : w17.cell? ⟨bw, 0, none⟩ = some (.slice A4 q.slots.length c4) := blkz Bw.out 0 _ rfl
 have bw_1 : w17.cell? ⟨bw, 1, none⟩ = some (.slice A5 q.vols.length c5) := blkz Bw.out 1 _ rfl
 have bw_y := Bw.out.lt
 go_wp2_with fail
 clear bw_0 bw_1 bw_y
 have hb : Bel w17 (w17.alloc (.cells #[.slice A8 q.slots.length c8, .slice A9 q.vols.length c9] 42)) := bel_alloc (Below.refl _ _) _
 replace hpi := hpi.bel hb
 generalize w17.alloc (.cells #[.slice A8 q.slots.length c8, .slice A9 q.vols.length c9] 42) = W18 at hb hpi ⊢
 replace KB := Lib.hid (KB.out.bel hb)
 replace Kq := Lib.hid (Kq.out.bel hb)
 replace Bw := Lib.hid (Bw.out.bel hb)
 replace Bx := Lib.hid (Bx.out.bel hb)
 replace Bg := Lib.hid (Bg.out.bel hb)
 replace Kg := Lib.hid (Kg.out.bel hb)
 replace KW := Lib.hid (KW.out.tr hb)
 clear hb
 refine (eqPool_c hpi Kq.out.own.inn HSq.out).mono ?_
 rintro e w19 ⟨rfl, hb⟩
 clear hpi
 replace KB := Lib.hid (KB.out.bel hb)
 replace Kq := Lib.hid (Kq.out.bel hb)
 replace Bw := Lib.hid (Bw.out.bel hb)
 replace Bx := Lib.hid (Bx.out.bel hb)
 replace Bg := Lib.hid (Bg.out.bel hb)
 replace Kg := Lib.hid (Kg.out.bel hb)
 replace KW := Lib.hid (KW.out.tr hb)
 clear hb
 have bg_0 : w19.cell? ⟨bg, 0, none⟩ = some (.slice A6 q.slots.length c6) := blkz Bg.out 0 _ rfl
 have bg_1 : w19.cell? ⟨bg, 1, none⟩ = some (.slice A7 q.vols.length c7) := blkz Bg.out 1 _ rfl
 have bg_y := Bg.out.lt
 go_wp2_with fail
 clear bg_0 bg_1 bg_y
 have hpiG : PoolIn w19 A6 A7 c6 c7 qg := by obtain ⟨B6, B7, d6, d7, e6, e7, h⟩ := Kg.out.reads; have e6 := slice_eq e6; have e7 := slice_eq e7; obtain ⟨rfl, -, rfl⟩ := e6; obtain ⟨rfl, -, rfl⟩ := e7; exact h
 have hheld := heldPool_c hpiG KGM.out.2.2 KGM.out.1 (by omega) (by omega)
 rw [KGM.out.2.1, KGL.out.1, KGL.out.2] at hheld
 refine hheld.mono ?_
 rintro e w20 ⟨rfl, hb⟩
 clear hpiG hheld
 replace KB := Lib.hid (KB.out.bel hb)
 replace Kq := Lib.hid (Kq.out.bel hb)
 replace Bw := Lib.hid (Bw.out.bel hb)
 replace Bx := Lib.hid (Bx.out.bel hb)
 replace Bg := Lib.hid (Bg.out.bel hb)
 replace Kg := Lib.hid (Kg.out.bel hb)
 replace KW := Lib.hid (KW.out.tr hb)
 clear hb
 go_wp2
 go_ret
 exact ⟨rfl, KW.out⟩
end Go.Proofs.YtccllgpaafgjaaaGreat

/- FnExactNodeHear. -/
import Derived.Test.YtccllgpaafgjaaaGreatS1
import Derived.Test.YtccllgpaafgjaaaGreatS2
import Derived.Test.YtccllgpaafgjaaaGreatS3
import Derived.Test.YtccllgpaafgjaaaGreatS4
import Derived.Test.YtccllgpaafgjaaaGreatS5
import Derived.Test.YtccllgpaafgjaaaGreatS6
import Derived.Test.YtccllgpaafgjaaaGreatS7
import Derived.Test.YtccllgpaafgjaaaGreatS8
import Derived.Test.YtccllgpaafgjaaaGreatS9
import Derived.Test.YtccllgpaafgjaaaGreatS10
import Derived.Test.YtccllgpaafgjaaaGreatS11
import Derived.Test.YtccllgpaafgjaaaGreatS12
namespace Go.Proofs.YtccllgpaafgjaaaGreat
open Go.RowKit Go.Proofs.YtccllgpaafgjaaaGreatW.PrintWords Go.Proofs.YtccllgpaafgjaaaGreatW.PrintLast
set_option linter.unusedVariables false
set_option linter.unusedSimpArgs false

theorem hearRM_ops (n : Node) (id : Int) (m : Msg) : (hearRM n id m).ops = [] := by
 unfold hearRM hearM copM hasM
 repeat' (first | rfl | split)
theorem hearRN_len {n : Node} {id : Int} {m : Msg} (h : SmallOs n.ops) (h2 : SmallOs m.ops) : (hearRN n id m).ops.length ≤ 1048576 := by
 unfold hearRN
 split
 ·rename_i hk
  have hk2 : nodeOk n = true := by unfold okH at hk; simp only [Bool.and_eq_true] at hk; exact hk.1
  exact hearN_len (by have := nodeOk_len hk2; omega) h2.len
 ·exact Nat.zero_le _
set_option maxHeartbeats 64000000 in
set_option maxRecDepth 10000 in
theorem lawFnExactNodeHear_c {w : World} {A B : Option Addr} {c bc : Nat} {n : Node} {id : Int} {m : Msg} (hC : kOp.C w A n.ops.length n.ops) (hr : RawOs n.ops) (hD : kOp.C w B m.ops.length m.ops) (hrm : RawOs m.ops) (hro : RawO m.op) :
  Calls Tryz.prog 16 #[.agg #[.bool n.up, .int .i64 n.term, .bool n.leads, .bool n.alone, .slice A n.ops.length c], .int .i64 id, .agg #[.int .i64 m.kind, .int .i64 m.whom, .int .i64 m.term, .int .i64 m.n, .int .i64 m.op.kind, .string m.op.name, .string m.op.dest, .int .i64 m.op.n, .string m.op.text, .slice B m.ops.length bc]] w (Ret (.bool true) w) := by
 have HC := Lib.hid hC
 have HRW := Lib.hid hr
 have HDM := Lib.hid hD
 have HRM := Lib.hid hrm
 have HRO := Lib.hid hro
 obtain ⟨z, hz⟩ : ∃ z, hearRB n id m = z := ⟨_, rfl⟩
 obtain ⟨xn, hxn⟩ : ∃ x, hearRN n id m = x := ⟨_, rfl⟩
 obtain ⟨xm, hxm⟩ : ∃ x, hearRM n id m = x := ⟨_, rfl⟩
 have HX := Lib.hid (And.intro hxn (And.intro hxm hz))
 have HM0 : Hid (xm.ops = []) := Lib.hid (hxm ▸ hearRM_ops n id m)
 clear hC hr hD hrm hro hz hxn hxm
 go_enter Tryz.func16, Tryz.ntmps16
 go_wp2_with fail
 have hB : Blk ((w.alloc (.cells #[.bool n.up, .int .i64 n.term, .bool n.leads, .bool n.alone, .slice A n.ops.length c] 53)).alloc (.cells #[.int .i64 m.kind, .int .i64 m.whom, .int .i64 m.term, .int .i64 m.n, .int .i64 m.op.kind, .string m.op.name, .string m.op.dest, .int .i64 m.op.n, .string m.op.text, .slice B m.ops.length bc] 91)) w.heap.size #[.bool n.up, .int .i64 n.term, .bool n.leads, .bool n.alone, .slice A n.ops.length c] 53 := (Blk.new _ _ _).alloc _
 have hBO : Blk ((w.alloc (.cells #[.bool n.up, .int .i64 n.term, .bool n.leads, .bool n.alone, .slice A n.ops.length c] 53)).alloc (.cells #[.int .i64 m.kind, .int .i64 m.whom, .int .i64 m.term, .int .i64 m.n, .int .i64 m.op.kind, .string m.op.name, .string m.op.dest, .int .i64 m.op.n, .string m.op.text, .slice B m.ops.length bc] 91)) (w.heap.size + 1) #[.int .i64 m.kind, .int .i64 m.whom, .int .i64 m.term, .int .i64 m.n, .int .i64 m.op.kind, .string m.op.name, .string m.op.dest, .int .i64 m.op.n, .string m.op.text, .slice B m.ops.length bc] 91 := Blk.nw2 _ _ _ _
 have hb : Bel w ((w.alloc (.cells #[.bool n.up, .int .i64 n.term, .bool n.leads, .bool n.alone, .slice A n.ops.length c] 53)).alloc (.cells #[.int .i64 m.kind, .int .i64 m.whom, .int .i64 m.term, .int .i64 m.n, .int .i64 m.op.kind, .string m.op.name, .string m.op.dest, .int .i64 m.op.n, .string m.op.text, .slice B m.ops.length bc] 91)) := bel_alloc (bel_alloc (Below.refl _ _) _) _
 generalize ((w.alloc (.cells #[.bool n.up, .int .i64 n.term, .bool n.leads, .bool n.alone, .slice A n.ops.length c] 53)).alloc (.cells #[.int .i64 m.kind, .int .i64 m.whom, .int .i64 m.term, .int .i64 m.n, .int .i64 m.op.kind, .string m.op.name, .string m.op.dest, .int .i64 m.op.n, .string m.op.text, .slice B m.ops.length bc] 91)) = W0 at hB hBO hb ⊢
 obtain ⟨bkl, hbk⟩ : ∃ b, w.heap.size = b := ⟨_, rfl⟩
 obtain ⟨bko, hbko⟩ : ∃ b, bkl + 1 = b := ⟨_, rfl⟩
 rw [hbk] at hB hBO ⊢
 rw [hbko] at hBO ⊢
 refine (szNode_c (kOp_keep HC.out hb) HRW.out (by omega) (by omega)).mono ?_
 rintro e w1 ⟨r, rfl, hb1, hr, hr1⟩
 have KB := Lib.hid (hB.bel hb1)
 have KO := Lib.hid (hBO.bel hb1)
 have KW := Lib.hid (Bel.tr hb hb1)
 have HRR := Lib.hid hr
 have HBK := Lib.hid hbk
 clear hB hBO hb hb1 hr hbk
 by_cases hrn : r < 0
 ·go_wp2
  go_ret
  exact ⟨rfl, KW.out⟩
 have HS := Lib.hid (HRR.out (by omega)).1
 have hr2 : r ≤ 1048576 := (HRR.out (by omega)).2
 clear HRR hr1
 have ko_0 : w1.cell? ⟨bko, 0, none⟩ = some (.int .i64 m.kind) := blkn KO.out 0 _ rfl
 have ko_1 : w1.cell? ⟨bko, 1, none⟩ = some (.int .i64 m.whom) := blkn KO.out 1 _ rfl
 have ko_2 : w1.cell? ⟨bko, 2, none⟩ = some (.int .i64 m.term) := blkn KO.out 2 _ rfl
 have ko_3 : w1.cell? ⟨bko, 3, none⟩ = some (.int .i64 m.n) := blkn KO.out 3 _ rfl
 have ko_4 : w1.cell? ⟨bko, 4, none⟩ = some (.int .i64 m.op.kind) := blkn KO.out 4 _ rfl
 have ko_5 : w1.cell? ⟨bko, 5, none⟩ = some (.string m.op.name) := blkn KO.out 5 _ rfl
 have ko_6 : w1.cell? ⟨bko, 6, none⟩ = some (.string m.op.dest) := blkn KO.out 6 _ rfl
 have ko_7 : w1.cell? ⟨bko, 7, none⟩ = some (.int .i64 m.op.n) := blkn KO.out 7 _ rfl
 have ko_8 : w1.cell? ⟨bko, 8, none⟩ = some (.string m.op.text) := blkn KO.out 8 _ rfl
 have ko_9 : w1.cell? ⟨bko, 9, none⟩ = some (.slice B m.ops.length bc) := blkn KO.out 9 _ rfl
 have ko_y := KO.out.lt
 go_wp2_with fail
 clear ko_0 ko_1 ko_2 ko_3 ko_4 ko_5 ko_6 ko_7 ko_8 ko_9 ko_y
 refine (szMsg_c (kOp_keep HDM.out KW.out) HRM.out HRO.out (by omega) hr2).mono ?_
 rintro e w2 ⟨r', rfl, hb, hr', hr1'⟩
 have HR' := Lib.hid hr'
 clear hr'
 replace KB := Lib.hid (KB.out.bel hb)
 replace KO := Lib.hid (KO.out.bel hb)
 replace KW := Lib.hid (Bel.tr KW.out hb)
 clear hb
 by_cases hrn' : r' < 0
 ·go_wp2
  go_ret
  exact ⟨rfl, KW.out⟩
 have HSM := Lib.hid (HR'.out (by omega)).1.1
 have HSO := Lib.hid (HR'.out (by omega)).1.2
 clear hr2 hr1' HR'
 have hl := HS.out.len
 have hlm := HSM.out.len
 have hxl : xn.ops.length ≤ 1048576 := HX.out.1 ▸ hearRN_len HS.out HSM.out
 have hsp := Lib.hid (fun (W : World) {E F : Option Addr} {f g : Nat} (h : kOp.C W E n.ops.length n.ops) (h3 : kOp.C W F m.ops.length m.ops) => (by
  have h2 := specNodeHear_c (id := id) (c := f) (bc := g) h HS.out h3 HSM.out HSO.out
  rw [HX.out.1, HX.out.2.1, HX.out.2.2] at h2
  exact h2 : Calls Tryz.prog 23 #[.agg #[.bool n.up, .int .i64 n.term, .bool n.leads, .bool n.alone, .slice E n.ops.length f], .int .i64 id, .agg #[.int .i64 m.kind, .int .i64 m.whom, .int .i64 m.term, .int .i64 m.n, .int .i64 m.op.kind, .string m.op.name, .string m.op.dest, .int .i64 m.op.n, .string m.op.text, .slice F m.ops.length g]] W (AnsT W xn xm z)))
 have him := Lib.hid (fun (W : World) {E F : Option Addr} {f g : Nat} (h : kOp.C W E n.ops.length n.ops) (h3 : kOp.C W F m.ops.length m.ops) => (by
  have h2 := implNodeHear_c (id := id) (c := f) (bc := g) h HS.out h3 HSM.out HSO.out
  rw [HX.out.1, HX.out.2.1, HX.out.2.2] at h2
  exact h2 : Calls Tryz.prog 24 #[.agg #[.bool n.up, .int .i64 n.term, .bool n.leads, .bool n.alone, .slice E n.ops.length f], .int .i64 id, .agg #[.int .i64 m.kind, .int .i64 m.whom, .int .i64 m.term, .int .i64 m.n, .int .i64 m.op.kind, .string m.op.name, .string m.op.dest, .int .i64 m.op.n, .string m.op.text, .slice F m.ops.length g]] W (AnsO W xn xm z)))
 go_wp2
 have hb : Bel w2 w2.drew := (Below.refl _ _).drew
 replace KB := Lib.hid (KB.out.bel hb)
 replace KO := Lib.hid (KO.out.bel hb)
 replace KW := Lib.hid (Bel.tr KW.out hb)
 clear hb
 have zl_KB := KB.out.lt
 have zl_KO := KO.out.lt
 have zw := Below.size KW.out
 have HSF := Lib.hid (fun (W9 : World) (gb : Bel w2.drew W9) => (⟨(blkn (KB.out.bel gb) 0 _ rfl), (blkn (KB.out.bel gb) 1 _ rfl), (blkn (KB.out.bel gb) 2 _ rfl), (blkn (KB.out.bel gb) 3 _ rfl), (blkn (KB.out.bel gb) 4 _ rfl), (blkn (KO.out.bel gb) 0 _ rfl), (blkn (KO.out.bel gb) 1 _ rfl), (blkn (KO.out.bel gb) 2 _ rfl), (blkn (KO.out.bel gb) 3 _ rfl), (blkn (KO.out.bel gb) 4 _ rfl), (blkn (KO.out.bel gb) 5 _ rfl), (blkn (KO.out.bel gb) 6 _ rfl), (blkn (KO.out.bel gb) 7 _ rfl), (blkn (KO.out.bel gb) 8 _ rfl), (blkn (KO.out.bel gb) 9 _ rfl)⟩ : W9.cell? ⟨bkl, 0, none⟩ = some (.bool n.up) ∧ W9.cell? ⟨bkl, 1, none⟩ = some (.int .i64 n.term) ∧ W9.cell? ⟨bkl, 2, none⟩ = some (.bool n.leads) ∧ W9.cell? ⟨bkl, 3, none⟩ = some (.bool n.alone) ∧ W9.cell? ⟨bkl, 4, none⟩ = some (.slice A n.ops.length c) ∧ W9.cell? ⟨bko, 0, none⟩ = some (.int .i64 m.kind) ∧ W9.cell? ⟨bko, 1, none⟩ = some (.int .i64 m.whom) ∧ W9.cell? ⟨bko, 2, none⟩ = some (.int .i64 m.term) ∧ W9.cell? ⟨bko, 3, none⟩ = some (.int .i64 m.n) ∧ W9.cell? ⟨bko, 4, none⟩ = some (.int .i64 m.op.kind) ∧ W9.cell? ⟨bko, 5, none⟩ = some (.string m.op.name) ∧ W9.cell? ⟨bko, 6, none⟩ = some (.string m.op.dest) ∧ W9.cell? ⟨bko, 7, none⟩ = some (.int .i64 m.op.n) ∧ W9.cell? ⟨bko, 8, none⟩ = some (.string m.op.text) ∧ W9.cell? ⟨bko, 9, none⟩ = some (.slice B m.ops.length bc)))
 refine start_ (n := 15) (S := fun w' => w'.cell? ⟨bkl, 0, none⟩ = some (.bool n.up) ∧ w'.cell? ⟨bkl, 1, none⟩ = some (.int .i64 n.term) ∧ w'.cell? ⟨bkl, 2, none⟩ = some (.bool n.leads) ∧ w'.cell? ⟨bkl, 3, none⟩ = some (.bool n.alone) ∧ w'.cell? ⟨bkl, 4, none⟩ = some (.slice A n.ops.length c) ∧ w'.cell? ⟨bko, 0, none⟩ = some (.int .i64 m.kind) ∧ w'.cell? ⟨bko, 1, none⟩ = some (.int .i64 m.whom) ∧ w'.cell? ⟨bko, 2, none⟩ = some (.int .i64 m.term) ∧ w'.cell? ⟨bko, 3, none⟩ = some (.int .i64 m.n) ∧ w'.cell? ⟨bko, 4, none⟩ = some (.int .i64 m.op.kind) ∧ w'.cell? ⟨bko, 5, none⟩ = some (.string m.op.name) ∧ w'.cell? ⟨bko, 6, none⟩ = some (.string m.op.dest) ∧ w'.cell? ⟨bko, 7, none⟩ = some (.int .i64 m.op.n) ∧ w'.cell? ⟨bko, 8, none⟩ = some (.string m.op.text) ∧ w'.cell? ⟨bko, 9, none⟩ = some (.slice B m.ops.length bc)) (ds := [12, 13]) #[bF, bF, bF, bF, bF, bF, bF, bF, bF, bF, bF, bF, bF, bF, bF] (by kernel_rfl) rfl rfl ⟨(blkn KB.out 0 _ rfl), (blkn KB.out 1 _ rfl), (blkn KB.out 2 _ rfl), (blkn KB.out 3 _ rfl), (blkn KB.out 4 _ rfl), (blkn KO.out 0 _ rfl), (blkn KO.out 1 _ rfl), (blkn KO.out 2 _ rfl), (blkn KO.out 3 _ rfl), (blkn KO.out 4 _ rfl), (blkn KO.out 5 _ rfl), (blkn KO.out 6 _ rfl), (blkn KO.out 7 _ rfl), (blkn KO.out 8 _ rfl), (blkn KO.out 9 _ rfl)⟩ (fun hHeld => ?_)
 refine ppx (i := 2) (N := some 35) #[bF, bF, bT, bF, bF, bF, bF, bF, bF, bF, bF, bF, bF, bF, bF] (h := ?_)
 refine tpx (i := 0) (N := some 33) #[bT, bF, bT, bF, bF, bF, bF, bF, bF, bF, bF, bF, bF, bF, bF] (hy := (Or.inl ⟨by rfl, by rintro w' ⟨s0, s1, s2, s3, s4, s5, s6, s7, s8, s9, s10, s11, s12, s13, s14⟩; go_simp; with_reducible rfl⟩)) (hS := hHeld) (h := ?_)
 refine tpx (i := 3) (N := some 36) #[bT, bF, bT, bT, bF, bF, bF, bF, bF, bF, bF, bF, bF, bF, bF] (hy := (Or.inl ⟨by rfl, by rintro w' ⟨s0, s1, s2, s3, s4, s5, s6, s7, s8, s9, s10, s11, s12, s13, s14⟩; go_simp; with_reducible rfl⟩)) (hS := hHeld) (h := ?_)
 refine join_ (σ := Option Addr × Nat × Option Addr × Nat × Option Addr × Nat × Nat × Nat) 3 #[bT, bT, bT, bT, bT, bT, bT, bT, bT, bT, bT, bT, bF, bF, bF] (fun s => [(34, .agg #[.bool n.up, .int .i64 n.term, .bool n.leads, .bool n.alone, .slice s.1 n.ops.length s.2.1]), (37, .agg #[.int .i64 m.kind, .int .i64 m.whom, .int .i64 m.term, .int .i64 m.n, .int .i64 m.op.kind, .string m.op.name, .string m.op.dest, .int .i64 m.op.n, .string m.op.text, .slice s.2.2.1 m.ops.length s.2.2.2.1]), (38, (tupR xn xm z s.2.2.2.2.1 s.2.2.2.2.2.1)), (32, (tupR xn xm z s.2.2.2.2.1 s.2.2.2.2.2.1)), (39, .agg #[.bool xn.up, .int .i64 xn.term, .bool xn.leads, .bool xn.alone, .slice s.2.2.2.2.1 xn.ops.length s.2.2.2.2.2.1]), (40, .agg #[.int .i64 xm.kind, .int .i64 xm.whom, .int .i64 xm.term, .int .i64 xm.n, .int .i64 xm.op.kind, .string xm.op.name, .string xm.op.dest, .int .i64 xm.op.n, .string xm.op.text, .slice none 0 0]), (41, .bool z), (8, .pointer (some ⟨s.2.2.2.2.2.2.1, 0, none⟩)), (9, .pointer (some ⟨s.2.2.2.2.2.2.2, 0, none⟩))]) (fun s w' => Bel w2.drew w' ∧ (kOp.C w' s.1 n.ops.length n.ops) ∧ (kOp.C w' s.2.2.1 m.ops.length m.ops) ∧ (OwnT w' w2.drew.heap.size (.slice s.2.2.2.2.1 xn.ops.length s.2.2.2.2.2.1) xn.ops) ∧ (Blk w' s.2.2.2.2.2.2.1 zN 25 ∧ w2.drew.heap.size ≤ s.2.2.2.2.2.2.1) ∧ (Blk w' s.2.2.2.2.2.2.2 zM 29 ∧ w2.drew.heap.size ≤ s.2.2.2.2.2.2.2) ∧ (s.2.2.2.2.2.2.1 ≠ s.2.2.2.2.2.2.2)) ?_ ?_
 rotate_left
 ·intro hJ1_4_5_10_11
  refine join_ (σ := Option Addr × Nat × Option Addr × Nat × Option Addr × Nat × Nat) 4 #[bT, bT, bT, bT, bT, bT, bT, bT, bT, bT, bT, bF, bF, bF, bF] (fun s => [(34, .agg #[.bool n.up, .int .i64 n.term, .bool n.leads, .bool n.alone, .slice s.1 n.ops.length s.2.1]), (37, .agg #[.int .i64 m.kind, .int .i64 m.whom, .int .i64 m.term, .int .i64 m.n, .int .i64 m.op.kind, .string m.op.name, .string m.op.dest, .int .i64 m.op.n, .string m.op.text, .slice s.2.2.1 m.ops.length s.2.2.2.1]), (38, (tupR xn xm z s.2.2.2.2.1 s.2.2.2.2.2.1)), (32, (tupR xn xm z s.2.2.2.2.1 s.2.2.2.2.2.1)), (39, .agg #[.bool xn.up, .int .i64 xn.term, .bool xn.leads, .bool xn.alone, .slice s.2.2.2.2.1 xn.ops.length s.2.2.2.2.2.1]), (40, .agg #[.int .i64 xm.kind, .int .i64 xm.whom, .int .i64 xm.term, .int .i64 xm.n, .int .i64 xm.op.kind, .string xm.op.name, .string xm.op.dest, .int .i64 xm.op.n, .string xm.op.text, .slice none 0 0]), (41, .bool z), (8, .pointer (some ⟨s.2.2.2.2.2.2, 0, none⟩))]) (fun s w' => Bel w2.drew w' ∧ (kOp.C w' s.1 n.ops.length n.ops) ∧ (kOp.C w' s.2.2.1 m.ops.length m.ops) ∧ (OwnT w' w2.drew.heap.size (.slice s.2.2.2.2.1 xn.ops.length s.2.2.2.2.2.1) xn.ops) ∧ (Blk w' s.2.2.2.2.2.2 zN 25 ∧ w2.drew.heap.size ≤ s.2.2.2.2.2.2)) ?_ ?_
  rotate_left
  ·intro hJ1_4_5_10
   refine join_ (σ := Option Addr × Nat × Option Addr × Nat × Option Addr × Nat × Nat) 4 #[bT, bT, bT, bT, bT, bT, bT, bT, bT, bT, bF, bT, bF, bF, bF] (fun s => [(34, .agg #[.bool n.up, .int .i64 n.term, .bool n.leads, .bool n.alone, .slice s.1 n.ops.length s.2.1]), (37, .agg #[.int .i64 m.kind, .int .i64 m.whom, .int .i64 m.term, .int .i64 m.n, .int .i64 m.op.kind, .string m.op.name, .string m.op.dest, .int .i64 m.op.n, .string m.op.text, .slice s.2.2.1 m.ops.length s.2.2.2.1]), (38, (tupR xn xm z s.2.2.2.2.1 s.2.2.2.2.2.1)), (32, (tupR xn xm z s.2.2.2.2.1 s.2.2.2.2.2.1)), (39, .agg #[.bool xn.up, .int .i64 xn.term, .bool xn.leads, .bool xn.alone, .slice s.2.2.2.2.1 xn.ops.length s.2.2.2.2.2.1]), (40, .agg #[.int .i64 xm.kind, .int .i64 xm.whom, .int .i64 xm.term, .int .i64 xm.n, .int .i64 xm.op.kind, .string xm.op.name, .string xm.op.dest, .int .i64 xm.op.n, .string xm.op.text, .slice none 0 0]), (41, .bool z), (9, .pointer (some ⟨s.2.2.2.2.2.2, 0, none⟩))]) (fun s w' => Bel w2.drew w' ∧ (kOp.C w' s.1 n.ops.length n.ops) ∧ (kOp.C w' s.2.2.1 m.ops.length m.ops) ∧ (OwnT w' w2.drew.heap.size (.slice s.2.2.2.2.1 xn.ops.length s.2.2.2.2.2.1) xn.ops) ∧ (Blk w' s.2.2.2.2.2.2 zM 29 ∧ w2.drew.heap.size ≤ s.2.2.2.2.2.2)) ?_ ?_
   rotate_left
   ·intro hJ1_4_5_11
    refine join_ (σ := Option Addr × Nat × Option Addr × Nat × Nat × Nat) 8 #[bT, bT, bT, bT, bT, bF, bF, bF, bF, bF, bT, bT, bF, bF, bF] (fun s => [(34, .agg #[.bool n.up, .int .i64 n.term, .bool n.leads, .bool n.alone, .slice s.1 n.ops.length s.2.1]), (37, .agg #[.int .i64 m.kind, .int .i64 m.whom, .int .i64 m.term, .int .i64 m.n, .int .i64 m.op.kind, .string m.op.name, .string m.op.dest, .int .i64 m.op.n, .string m.op.text, .slice s.2.2.1 m.ops.length s.2.2.2.1]), (8, .pointer (some ⟨s.2.2.2.2.1, 0, none⟩)), (9, .pointer (some ⟨s.2.2.2.2.2, 0, none⟩))]) (fun s w' => Bel w2.drew w' ∧ (kOp.C w' s.1 n.ops.length n.ops) ∧ (kOp.C w' s.2.2.1 m.ops.length m.ops) ∧ (Blk w' s.2.2.2.2.1 zN 25 ∧ w2.drew.heap.size ≤ s.2.2.2.2.1) ∧ (Blk w' s.2.2.2.2.2 zM 29 ∧ w2.drew.heap.size ≤ s.2.2.2.2.2) ∧ (s.2.2.2.2.1 ≠ s.2.2.2.2.2)) ?_ ?_
    rotate_left
    ·intro hJ1_4_10_11
     refine join_ (σ := Option Addr × Nat × Option Addr × Nat × Option Addr × Nat) 5 #[bT, bT, bT, bT, bT, bT, bT, bT, bT, bT, bF, bF, bF, bF, bF] (fun s => [(34, .agg #[.bool n.up, .int .i64 n.term, .bool n.leads, .bool n.alone, .slice s.1 n.ops.length s.2.1]), (37, .agg #[.int .i64 m.kind, .int .i64 m.whom, .int .i64 m.term, .int .i64 m.n, .int .i64 m.op.kind, .string m.op.name, .string m.op.dest, .int .i64 m.op.n, .string m.op.text, .slice s.2.2.1 m.ops.length s.2.2.2.1]), (38, (tupR xn xm z s.2.2.2.2.1 s.2.2.2.2.2)), (32, (tupR xn xm z s.2.2.2.2.1 s.2.2.2.2.2)), (39, .agg #[.bool xn.up, .int .i64 xn.term, .bool xn.leads, .bool xn.alone, .slice s.2.2.2.2.1 xn.ops.length s.2.2.2.2.2]), (40, .agg #[.int .i64 xm.kind, .int .i64 xm.whom, .int .i64 xm.term, .int .i64 xm.n, .int .i64 xm.op.kind, .string xm.op.name, .string xm.op.dest, .int .i64 xm.op.n, .string xm.op.text, .slice none 0 0]), (41, .bool z)]) (fun s w' => Bel w2.drew w' ∧ (kOp.C w' s.1 n.ops.length n.ops) ∧ (kOp.C w' s.2.2.1 m.ops.length m.ops) ∧ (OwnT w' w2.drew.heap.size (.slice s.2.2.2.2.1 xn.ops.length s.2.2.2.2.2) xn.ops)) ?_ ?_
     rotate_left
     ·intro hJ1_4_5
      refine join_ (σ := Option Addr × Nat × Option Addr × Nat × Nat) 9 #[bT, bT, bT, bT, bT, bF, bF, bF, bF, bF, bT, bF, bF, bF, bF] (fun s => [(34, .agg #[.bool n.up, .int .i64 n.term, .bool n.leads, .bool n.alone, .slice s.1 n.ops.length s.2.1]), (37, .agg #[.int .i64 m.kind, .int .i64 m.whom, .int .i64 m.term, .int .i64 m.n, .int .i64 m.op.kind, .string m.op.name, .string m.op.dest, .int .i64 m.op.n, .string m.op.text, .slice s.2.2.1 m.ops.length s.2.2.2.1]), (8, .pointer (some ⟨s.2.2.2.2, 0, none⟩))]) (fun s w' => Bel w2.drew w' ∧ (kOp.C w' s.1 n.ops.length n.ops) ∧ (kOp.C w' s.2.2.1 m.ops.length m.ops) ∧ (Blk w' s.2.2.2.2 zN 25 ∧ w2.drew.heap.size ≤ s.2.2.2.2)) ?_ ?_
      rotate_left
      ·intro hJ1_4_10
       refine join_ (σ := Option Addr × Nat × Option Addr × Nat × Nat) 9 #[bT, bT, bT, bT, bT, bF, bF, bF, bF, bF, bF, bT, bF, bF, bF] (fun s => [(34, .agg #[.bool n.up, .int .i64 n.term, .bool n.leads, .bool n.alone, .slice s.1 n.ops.length s.2.1]), (37, .agg #[.int .i64 m.kind, .int .i64 m.whom, .int .i64 m.term, .int .i64 m.n, .int .i64 m.op.kind, .string m.op.name, .string m.op.dest, .int .i64 m.op.n, .string m.op.text, .slice s.2.2.1 m.ops.length s.2.2.2.1]), (9, .pointer (some ⟨s.2.2.2.2, 0, none⟩))]) (fun s w' => Bel w2.drew w' ∧ (kOp.C w' s.1 n.ops.length n.ops) ∧ (kOp.C w' s.2.2.1 m.ops.length m.ops) ∧ (Blk w' s.2.2.2.2 zM 29 ∧ w2.drew.heap.size ≤ s.2.2.2.2)) ?_ ?_
       rotate_left
       ·intro hJ1_4_11
        refine join_ (σ := Option Addr × Nat × Nat × Nat) 9 #[bT, bT, bT, bT, bF, bF, bF, bF, bF, bF, bT, bT, bF, bF, bF] (fun s => [(34, .agg #[.bool n.up, .int .i64 n.term, .bool n.leads, .bool n.alone, .slice s.1 n.ops.length s.2.1]), (8, .pointer (some ⟨s.2.2.1, 0, none⟩)), (9, .pointer (some ⟨s.2.2.2, 0, none⟩))]) (fun s w' => Bel w2.drew w' ∧ (kOp.C w' s.1 n.ops.length n.ops) ∧ (Blk w' s.2.2.1 zN 25 ∧ w2.drew.heap.size ≤ s.2.2.1) ∧ (Blk w' s.2.2.2 zM 29 ∧ w2.drew.heap.size ≤ s.2.2.2) ∧ (s.2.2.1 ≠ s.2.2.2)) ?_ ?_
        rotate_left
        ·intro hJ1_10_11
         refine join_ (σ := Option Addr × Nat × Option Addr × Nat) 10 #[bT, bT, bT, bT, bT, bF, bF, bF, bF, bF, bF, bF, bF, bF, bF] (fun s => [(34, .agg #[.bool n.up, .int .i64 n.term, .bool n.leads, .bool n.alone, .slice s.1 n.ops.length s.2.1]), (37, .agg #[.int .i64 m.kind, .int .i64 m.whom, .int .i64 m.term, .int .i64 m.n, .int .i64 m.op.kind, .string m.op.name, .string m.op.dest, .int .i64 m.op.n, .string m.op.text, .slice s.2.2.1 m.ops.length s.2.2.2])]) (fun s w' => Bel w2.drew w' ∧ (kOp.C w' s.1 n.ops.length n.ops) ∧ (kOp.C w' s.2.2.1 m.ops.length m.ops)) ?_ ?_
         rotate_left
         ·intro hJ1_4
          refine join_ (σ := Option Addr × Nat × Nat) 10 #[bT, bT, bT, bT, bF, bF, bF, bF, bF, bF, bT, bF, bF, bF, bF] (fun s => [(34, .agg #[.bool n.up, .int .i64 n.term, .bool n.leads, .bool n.alone, .slice s.1 n.ops.length s.2.1]), (8, .pointer (some ⟨s.2.2, 0, none⟩))]) (fun s w' => Bel w2.drew w' ∧ (kOp.C w' s.1 n.ops.length n.ops) ∧ (Blk w' s.2.2 zN 25 ∧ w2.drew.heap.size ≤ s.2.2)) ?_ ?_
          rotate_left
          ·intro hJ1_10
           refine join_ (σ := Option Addr × Nat × Nat) 10 #[bT, bT, bT, bT, bF, bF, bF, bF, bF, bF, bF, bT, bF, bF, bF] (fun s => [(34, .agg #[.bool n.up, .int .i64 n.term, .bool n.leads, .bool n.alone, .slice s.1 n.ops.length s.2.1]), (9, .pointer (some ⟨s.2.2, 0, none⟩))]) (fun s w' => Bel w2.drew w' ∧ (kOp.C w' s.1 n.ops.length n.ops) ∧ (Blk w' s.2.2 zM 29 ∧ w2.drew.heap.size ≤ s.2.2)) ?_ ?_
           rotate_left
           ·intro hJ1_11
            refine join_ (σ := Nat × Nat) 10 #[bT, bF, bT, bT, bF, bF, bF, bF, bF, bF, bT, bT, bF, bF, bF] (fun s => [(8, .pointer (some ⟨s.1, 0, none⟩)), (9, .pointer (some ⟨s.2, 0, none⟩))]) (fun s w' => Bel w2.drew w' ∧ (Blk w' s.1 zN 25 ∧ w2.drew.heap.size ≤ s.1) ∧ (Blk w' s.2 zM 29 ∧ w2.drew.heap.size ≤ s.2) ∧ (s.1 ≠ s.2)) ?_ ?_
            rotate_left
            ·intro hJ10_11
             refine join_ (σ := Option Addr × Nat) 11 #[bT, bT, bT, bT, bF, bF, bF, bF, bF, bF, bF, bF, bF, bF, bF] (fun s => [(34, .agg #[.bool n.up, .int .i64 n.term, .bool n.leads, .bool n.alone, .slice s.1 n.ops.length s.2])]) (fun s w' => Bel w2.drew w' ∧ (kOp.C w' s.1 n.ops.length n.ops)) ?_ ?_
             rotate_left
             ·intro hJ1
              refine join_ (σ := Nat) 11 #[bT, bF, bT, bT, bF, bF, bF, bF, bF, bF, bT, bF, bF, bF, bF] (fun s => [(8, .pointer (some ⟨s, 0, none⟩))]) (fun s w' => Bel w2.drew w' ∧ (Blk w' s zN 25 ∧ w2.drew.heap.size ≤ s)) ?_ ?_
              rotate_left
              ·intro hJ10
               refine join_ (σ := Nat) 11 #[bT, bF, bT, bT, bF, bF, bF, bF, bF, bF, bF, bT, bF, bF, bF] (fun s => [(9, .pointer (some ⟨s, 0, none⟩))]) (fun s w' => Bel w2.drew w' ∧ (Blk w' s zM 29 ∧ w2.drew.heap.size ≤ s)) ?_ ?_
               rotate_left
               ·intro hJ11
                refine three_ (i := 1) (j := 10) (k := 11) (Ni := some 34) (Nj := some 8) (Nk := some 9) #[bT, bT, bT, bT, bF, bF, bF, bF, bF, bF, bF, bF, bF, bF, bF] #[bT, bF, bT, bT, bF, bF, bF, bF, bF, bF, bT, bF, bF, bF, bF] #[bT, bF, bT, bT, bF, bF, bF, bF, bF, bF, bF, bT, bF, bF, bF] rfl rfl rfl rfl rfl rfl (by kernel_rfl) (by decide) (by decide) (by decide) (fun K hK => ?_) (fun K hK => ?_) (fun K hK => ?_)
                ·skip
                 refine goes_ Tryz.func41 (by kernel_rfl) rfl #[.agg #[.bool n.up, .int .i64 n.term, .bool n.leads, .bool n.alone, .slice A n.ops.length c]] (by rfl) rfl rfl (by simp only [List.map_toArray, List.map_cons, List.map_nil]; rfl) ?_
                 with_reducible refine (toNode_c (n := n) (c := c) (kOp_keep HC.out (Bel.tr KW.out (Below.refl _ _ : Bel w2.drew w2.drew))) HS.out.len).mono ?_
                 rintro e wn ⟨v, rfl, hoo, hbN⟩
                 obtain ⟨Xa, xa, rfl, -, hX1⟩ := hoo.reads
                 have gn1 := Lib.hid hX1
                 clear hoo hX1
                 have gb := Lib.hid (Below.trans (Below.refl _ _ : Bel w2.drew w2.drew) (Below.mono hbN (Below.size (Below.refl _ _ : Bel w2.drew w2.drew))))
                 clear hbN
                 refine ⟨_, rfl, ?_⟩
                 refine hK.out _ _ (HSF.out _ gb.out) (fun hHeld => ?_)
                 clear hK K
                 refine nox 34 (h := ?_)
                 exact nof (hJ1 (Xa, xa) _ ⟨gb.out, gn1.out⟩)
                ·skip
                 refine value_ (by rfl) rfl (by go_simp; constructor <;> rfl) ?_
                 have hbN : Bel w2.drew (w2.alloc (.cells zN 25)).drew := bel_alloc (Below.refl _ _) _
                 have gb := Lib.hid (Below.trans (Below.refl _ _ : Bel w2.drew w2.drew) (Below.mono hbN (Below.size (Below.refl _ _ : Bel w2.drew w2.drew))))
                 have gnb8 : Hid (Blk (w2.alloc (.cells zN 25)).drew w2.heap.size zN 25 ∧ w2.drew.heap.size ≤ w2.heap.size) := Lib.hid ⟨Blk.new _ _ _, Nat.le_refl _⟩
                 clear hbN
                 refine hK.out _ _ (HSF.out _ gb.out) (fun hHeld => ?_)
                 clear hK K
                 refine nox 8 (h := ?_)
                 exact nof (hJ10 (w2.heap.size) _ ⟨gb.out, gnb8.out⟩)
                ·skip
                 refine value_ (by rfl) rfl (by go_simp; constructor <;> rfl) ?_
                 have hbN : Bel w2.drew (w2.alloc (.cells zM 29)).drew := bel_alloc (Below.refl _ _) _
                 have gb := Lib.hid (Below.trans (Below.refl _ _ : Bel w2.drew w2.drew) (Below.mono hbN (Below.size (Below.refl _ _ : Bel w2.drew w2.drew))))
                 have gnb9 : Hid (Blk (w2.alloc (.cells zM 29)).drew w2.heap.size zM 29 ∧ w2.drew.heap.size ≤ w2.heap.size) := Lib.hid ⟨Blk.new _ _ _, Nat.le_refl _⟩
                 clear hbN
                 refine hK.out _ _ (HSF.out _ gb.out) (fun hHeld => ?_)
                 clear hK K
                 refine nox 9 (h := ?_)
                 exact nof (hJ11 (w2.heap.size) _ ⟨gb.out, gnb9.out⟩)
               ·skip
                rintro nb9 wc ⟨hb, hnb9⟩
                try dsimp only at hnb9
                have hb := Lib.hid hb
                have fnb9 := Lib.hid hnb9
                clear hnb9
                refine norm_ (a' := ?_) ?_ ?_
                rotate_left
                ·simp only [putAll, Act.put, lA, lB, lC]
                 rfl
                refine two_ (i := 1) (j := 10) (Ni := some 34) (Nj := some 8) #[bT, bT, bT, bT, bF, bF, bF, bF, bF, bF, bF, bT, bF, bF, bF] #[bT, bF, bT, bT, bF, bF, bF, bF, bF, bF, bT, bT, bF, bF, bF] rfl rfl rfl rfl (by kernel_rfl) (by decide) (by decide) (fun K hK => ?_) (fun K hK => ?_)
                ·skip
                 refine goes_ Tryz.func41 (by kernel_rfl) rfl #[.agg #[.bool n.up, .int .i64 n.term, .bool n.leads, .bool n.alone, .slice A n.ops.length c]] (by rfl) rfl rfl (by simp only [List.map_toArray, List.map_cons, List.map_nil]; rfl) ?_
                 with_reducible refine (toNode_c (n := n) (c := c) (kOp_keep HC.out (Bel.tr KW.out hb.out)) HS.out.len).mono ?_
                 rintro e wn ⟨v, rfl, hoo, hbN⟩
                 obtain ⟨Xa, xa, rfl, -, hX1⟩ := hoo.reads
                 have gn1 := Lib.hid hX1
                 clear hoo hX1
                 have gb := Lib.hid (Below.trans hb.out (Below.mono hbN (Below.size hb.out)))
                 have gnb9 := Lib.hid ((And.intro (fnb9.out.1.bel hbN) fnb9.out.2))
                 clear hbN
                 refine ⟨_, rfl, ?_⟩
                 refine hK.out _ _ (HSF.out _ gb.out) (fun hHeld => ?_)
                 clear hK K
                 refine nox 34 (h := ?_)
                 exact nof (hJ1_11 (Xa, xa, nb9) _ ⟨gb.out, gn1.out, gnb9.out⟩)
                ·skip
                 refine value_ (by rfl) rfl (by go_simp; constructor <;> rfl) ?_
                 have hbN : Bel wc (wc.alloc (.cells zN 25)) := bel_alloc (Below.refl _ _) _
                 have gb := Lib.hid (Below.trans hb.out (Below.mono hbN (Below.size hb.out)))
                 have gnb9 := Lib.hid ((And.intro (fnb9.out.1.bel hbN) fnb9.out.2))
                 have gnb8 : Hid (Blk (wc.alloc (.cells zN 25)) wc.heap.size zN 25 ∧ w2.drew.heap.size ≤ wc.heap.size) := Lib.hid ⟨Blk.new _ _ _, Below.size hb.out⟩
                 have gne : Hid (wc.heap.size ≠ nb9) := Lib.hid (Nat.ne_of_gt fnb9.out.1.lt)
                 clear hbN
                 refine hK.out _ _ (HSF.out _ gb.out) (fun hHeld => ?_)
                 clear hK K
                 refine nox 8 (h := ?_)
                 exact nof (hJ10_11 (wc.heap.size, nb9) _ ⟨gb.out, gnb8.out, gnb9.out, gne.out⟩)
              ·skip
               rintro nb8 wc ⟨hb, hnb8⟩
               try dsimp only at hnb8
               have hb := Lib.hid hb
               have fnb8 := Lib.hid hnb8
               clear hnb8
               refine norm_ (a' := ?_) ?_ ?_
               rotate_left
               ·simp only [putAll, Act.put, lA, lB, lC]
                rfl
               refine two_ (i := 1) (j := 11) (Ni := some 34) (Nj := some 9) #[bT, bT, bT, bT, bF, bF, bF, bF, bF, bF, bT, bF, bF, bF, bF] #[bT, bF, bT, bT, bF, bF, bF, bF, bF, bF, bT, bT, bF, bF, bF] rfl rfl rfl rfl (by kernel_rfl) (by decide) (by decide) (fun K hK => ?_) (fun K hK => ?_)
               ·skip
                refine goes_ Tryz.func41 (by kernel_rfl) rfl #[.agg #[.bool n.up, .int .i64 n.term, .bool n.leads, .bool n.alone, .slice A n.ops.length c]] (by rfl) rfl rfl (by simp only [List.map_toArray, List.map_cons, List.map_nil]; rfl) ?_
                with_reducible refine (toNode_c (n := n) (c := c) (kOp_keep HC.out (Bel.tr KW.out hb.out)) HS.out.len).mono ?_
                rintro e wn ⟨v, rfl, hoo, hbN⟩
                obtain ⟨Xa, xa, rfl, -, hX1⟩ := hoo.reads
                have gn1 := Lib.hid hX1
                clear hoo hX1
                have gb := Lib.hid (Below.trans hb.out (Below.mono hbN (Below.size hb.out)))
                have gnb8 := Lib.hid ((And.intro (fnb8.out.1.bel hbN) fnb8.out.2))
                clear hbN
                refine ⟨_, rfl, ?_⟩
                refine hK.out _ _ (HSF.out _ gb.out) (fun hHeld => ?_)
                clear hK K
                refine nox 34 (h := ?_)
                exact nof (hJ1_10 (Xa, xa, nb8) _ ⟨gb.out, gn1.out, gnb8.out⟩)
               ·skip
                refine value_ (by rfl) rfl (by go_simp; constructor <;> rfl) ?_
                have hbN : Bel wc (wc.alloc (.cells zM 29)) := bel_alloc (Below.refl _ _) _
                have gb := Lib.hid (Below.trans hb.out (Below.mono hbN (Below.size hb.out)))
                have gnb8 := Lib.hid ((And.intro (fnb8.out.1.bel hbN) fnb8.out.2))
                have gnb9 : Hid (Blk (wc.alloc (.cells zM 29)) wc.heap.size zM 29 ∧ w2.drew.heap.size ≤ wc.heap.size) := Lib.hid ⟨Blk.new _ _ _, Below.size hb.out⟩
                have gne : Hid (nb8 ≠ wc.heap.size) := Lib.hid (Nat.ne_of_lt fnb8.out.1.lt)
                clear hbN
                refine hK.out _ _ (HSF.out _ gb.out) (fun hHeld => ?_)
                clear hK K
                refine nox 9 (h := ?_)
                exact nof (hJ10_11 (nb8, wc.heap.size) _ ⟨gb.out, gnb8.out, gnb9.out, gne.out⟩)
             ·skip
              rintro ⟨Xa, xa⟩ wc ⟨hb, hn1⟩
              try dsimp only at hn1
              have hb := Lib.hid hb
              have fn1 := Lib.hid hn1
              clear hn1
              refine norm_ (a' := ?_) ?_ ?_
              rotate_left
              ·simp only [putAll, Act.put, lA, lB, lC]
               rfl
              refine three_ (i := 4) (j := 10) (k := 11) (Ni := some 37) (Nj := some 8) (Nk := some 9) #[bT, bT, bT, bT, bT, bF, bF, bF, bF, bF, bF, bF, bF, bF, bF] #[bT, bT, bT, bT, bF, bF, bF, bF, bF, bF, bT, bF, bF, bF, bF] #[bT, bT, bT, bT, bF, bF, bF, bF, bF, bF, bF, bT, bF, bF, bF] rfl rfl rfl rfl rfl rfl (by kernel_rfl) (by decide) (by decide) (by decide) (fun K hK => ?_) (fun K hK => ?_) (fun K hK => ?_)
              ·skip
               refine goes_ Tryz.func77 (by kernel_rfl) rfl #[.agg #[.int .i64 m.kind, .int .i64 m.whom, .int .i64 m.term, .int .i64 m.n, .int .i64 m.op.kind, .string m.op.name, .string m.op.dest, .int .i64 m.op.n, .string m.op.text, .slice B m.ops.length bc]] (by rfl) rfl rfl (by simp only [List.map_toArray, List.map_cons, List.map_nil]; rfl) ?_
               with_reducible refine (toMsg_c (m := m) (c := bc) (kOp_keep HDM.out (Bel.tr KW.out hb.out)) HSM.out.len).mono ?_
               rintro e wn ⟨v, rfl, hoo, hbN⟩
               obtain ⟨Ma, ma, rfl, -, hX1⟩ := hoo.reads
               have gm1 := Lib.hid hX1
               clear hoo hX1
               have gb := Lib.hid (Below.trans hb.out (Below.mono hbN (Below.size hb.out)))
               have gn1 := Lib.hid (kOp_keep fn1.out hbN)
               clear hbN
               refine ⟨_, rfl, ?_⟩
               refine hK.out _ _ (HSF.out _ gb.out) (fun hHeld => ?_)
               clear hK K
               refine nox 37 (h := ?_)
               exact nof (hJ1_4 (Xa, xa, Ma, ma) _ ⟨gb.out, gn1.out, gm1.out⟩)
              ·skip
               refine value_ (by rfl) rfl (by go_simp; constructor <;> rfl) ?_
               have hbN : Bel wc (wc.alloc (.cells zN 25)) := bel_alloc (Below.refl _ _) _
               have gb := Lib.hid (Below.trans hb.out (Below.mono hbN (Below.size hb.out)))
               have gn1 := Lib.hid (kOp_keep fn1.out hbN)
               have gnb8 : Hid (Blk (wc.alloc (.cells zN 25)) wc.heap.size zN 25 ∧ w2.drew.heap.size ≤ wc.heap.size) := Lib.hid ⟨Blk.new _ _ _, Below.size hb.out⟩
               clear hbN
               refine hK.out _ _ (HSF.out _ gb.out) (fun hHeld => ?_)
               clear hK K
               refine nox 8 (h := ?_)
               exact nof (hJ1_10 (Xa, xa, wc.heap.size) _ ⟨gb.out, gn1.out, gnb8.out⟩)
              ·skip
               refine value_ (by rfl) rfl (by go_simp; constructor <;> rfl) ?_
               have hbN : Bel wc (wc.alloc (.cells zM 29)) := bel_alloc (Below.refl _ _) _
               have gb := Lib.hid (Below.trans hb.out (Below.mono hbN (Below.size hb.out)))
               have gn1 := Lib.hid (kOp_keep fn1.out hbN)
               have gnb9 : Hid (Blk (wc.alloc (.cells zM 29)) wc.heap.size zM 29 ∧ w2.drew.heap.size ≤ wc.heap.size) := Lib.hid ⟨Blk.new _ _ _, Below.size hb.out⟩
               clear hbN
               refine hK.out _ _ (HSF.out _ gb.out) (fun hHeld => ?_)
               clear hK K
               refine nox 9 (h := ?_)
               exact nof (hJ1_11 (Xa, xa, wc.heap.size) _ ⟨gb.out, gn1.out, gnb9.out⟩)
            ·skip
             rintro ⟨nb8, nb9⟩ wc ⟨hb, hnb8, hnb9, hne⟩
             try dsimp only at hnb8
             try dsimp only at hnb9
             try dsimp only at hne
             have hb := Lib.hid hb
             have fnb8 := Lib.hid hnb8
             have fnb9 := Lib.hid hnb9
             have fne := Lib.hid hne
             clear hnb8 hnb9 hne
             refine norm_ (a' := ?_) ?_ ?_
             rotate_left
             ·simp only [putAll, Act.put, lA, lB, lC]
              rfl
             refine one_ (i := 1) (N := some 34) #[bT, bT, bT, bT, bF, bF, bF, bF, bF, bF, bT, bT, bF, bF, bF] rfl rfl (by kernel_rfl) (by decide) (fun K hK => ?_)
             refine goes_ Tryz.func41 (by kernel_rfl) rfl #[.agg #[.bool n.up, .int .i64 n.term, .bool n.leads, .bool n.alone, .slice A n.ops.length c]] (by rfl) rfl rfl (by simp only [List.map_toArray, List.map_cons, List.map_nil]; rfl) ?_
             with_reducible refine (toNode_c (n := n) (c := c) (kOp_keep HC.out (Bel.tr KW.out hb.out)) HS.out.len).mono ?_
             rintro e wn ⟨v, rfl, hoo, hbN⟩
             obtain ⟨Xa, xa, rfl, -, hX1⟩ := hoo.reads
             have gn1 := Lib.hid hX1
             clear hoo hX1
             have gb := Lib.hid (Below.trans hb.out (Below.mono hbN (Below.size hb.out)))
             have gnb8 := Lib.hid ((And.intro (fnb8.out.1.bel hbN) fnb8.out.2))
             have gnb9 := Lib.hid ((And.intro (fnb9.out.1.bel hbN) fnb9.out.2))
             have gne := fne
             clear hbN
             refine ⟨_, rfl, ?_⟩
             refine hK.out _ _ (HSF.out _ gb.out) (fun hHeld => ?_)
             clear hK K
             refine nox 34 (h := ?_)
             exact nof (hJ1_10_11 (Xa, xa, nb8, nb9) _ ⟨gb.out, gn1.out, gnb8.out, gnb9.out, gne.out⟩)
           ·skip
            rintro ⟨Xa, xa, nb9⟩ wc ⟨hb, hn1, hnb9⟩
            try dsimp only at hn1
            try dsimp only at hnb9
            have hb := Lib.hid hb
            have fn1 := Lib.hid hn1
            have fnb9 := Lib.hid hnb9
            clear hn1 hnb9
            refine norm_ (a' := ?_) ?_ ?_
            rotate_left
            ·simp only [putAll, Act.put, lA, lB, lC]
             rfl
            refine two_ (i := 4) (j := 10) (Ni := some 37) (Nj := some 8) #[bT, bT, bT, bT, bT, bF, bF, bF, bF, bF, bF, bT, bF, bF, bF] #[bT, bT, bT, bT, bF, bF, bF, bF, bF, bF, bT, bT, bF, bF, bF] rfl rfl rfl rfl (by kernel_rfl) (by decide) (by decide) (fun K hK => ?_) (fun K hK => ?_)
            ·skip
             refine goes_ Tryz.func77 (by kernel_rfl) rfl #[.agg #[.int .i64 m.kind, .int .i64 m.whom, .int .i64 m.term, .int .i64 m.n, .int .i64 m.op.kind, .string m.op.name, .string m.op.dest, .int .i64 m.op.n, .string m.op.text, .slice B m.ops.length bc]] (by rfl) rfl rfl (by simp only [List.map_toArray, List.map_cons, List.map_nil]; rfl) ?_
             with_reducible refine (toMsg_c (m := m) (c := bc) (kOp_keep HDM.out (Bel.tr KW.out hb.out)) HSM.out.len).mono ?_
             rintro e wn ⟨v, rfl, hoo, hbN⟩
             obtain ⟨Ma, ma, rfl, -, hX1⟩ := hoo.reads
             have gm1 := Lib.hid hX1
             clear hoo hX1
             have gb := Lib.hid (Below.trans hb.out (Below.mono hbN (Below.size hb.out)))
             have gn1 := Lib.hid (kOp_keep fn1.out hbN)
             have gnb9 := Lib.hid ((And.intro (fnb9.out.1.bel hbN) fnb9.out.2))
             clear hbN
             refine ⟨_, rfl, ?_⟩
             refine hK.out _ _ (HSF.out _ gb.out) (fun hHeld => ?_)
             clear hK K
             refine nox 37 (h := ?_)
             exact nof (hJ1_4_11 (Xa, xa, Ma, ma, nb9) _ ⟨gb.out, gn1.out, gm1.out, gnb9.out⟩)
            ·skip
             refine value_ (by rfl) rfl (by go_simp; constructor <;> rfl) ?_
             have hbN : Bel wc (wc.alloc (.cells zN 25)) := bel_alloc (Below.refl _ _) _
             have gb := Lib.hid (Below.trans hb.out (Below.mono hbN (Below.size hb.out)))
             have gn1 := Lib.hid (kOp_keep fn1.out hbN)
             have gnb9 := Lib.hid ((And.intro (fnb9.out.1.bel hbN) fnb9.out.2))
             have gnb8 : Hid (Blk (wc.alloc (.cells zN 25)) wc.heap.size zN 25 ∧ w2.drew.heap.size ≤ wc.heap.size) := Lib.hid ⟨Blk.new _ _ _, Below.size hb.out⟩
             have gne : Hid (wc.heap.size ≠ nb9) := Lib.hid (Nat.ne_of_gt fnb9.out.1.lt)
             clear hbN
             refine hK.out _ _ (HSF.out _ gb.out) (fun hHeld => ?_)
             clear hK K
             refine nox 8 (h := ?_)
             exact nof (hJ1_10_11 (Xa, xa, wc.heap.size, nb9) _ ⟨gb.out, gn1.out, gnb8.out, gnb9.out, gne.out⟩)
          ·skip
           rintro ⟨Xa, xa, nb8⟩ wc ⟨hb, hn1, hnb8⟩
           try dsimp only at hn1
           try dsimp only at hnb8
           have hb := Lib.hid hb
           have fn1 := Lib.hid hn1
           have fnb8 := Lib.hid hnb8
           clear hn1 hnb8
           refine norm_ (a' := ?_) ?_ ?_
           rotate_left
           ·simp only [putAll, Act.put, lA, lB, lC]
            rfl
           refine two_ (i := 4) (j := 11) (Ni := some 37) (Nj := some 9) #[bT, bT, bT, bT, bT, bF, bF, bF, bF, bF, bT, bF, bF, bF, bF] #[bT, bT, bT, bT, bF, bF, bF, bF, bF, bF, bT, bT, bF, bF, bF] rfl rfl rfl rfl (by kernel_rfl) (by decide) (by decide) (fun K hK => ?_) (fun K hK => ?_)
           ·skip
            refine goes_ Tryz.func77 (by kernel_rfl) rfl #[.agg #[.int .i64 m.kind, .int .i64 m.whom, .int .i64 m.term, .int .i64 m.n, .int .i64 m.op.kind, .string m.op.name, .string m.op.dest, .int .i64 m.op.n, .string m.op.text, .slice B m.ops.length bc]] (by rfl) rfl rfl (by simp only [List.map_toArray, List.map_cons, List.map_nil]; rfl) ?_
            with_reducible refine (toMsg_c (m := m) (c := bc) (kOp_keep HDM.out (Bel.tr KW.out hb.out)) HSM.out.len).mono ?_
            rintro e wn ⟨v, rfl, hoo, hbN⟩
            obtain ⟨Ma, ma, rfl, -, hX1⟩ := hoo.reads
            have gm1 := Lib.hid hX1
            clear hoo hX1
            have gb := Lib.hid (Below.trans hb.out (Below.mono hbN (Below.size hb.out)))
            have gn1 := Lib.hid (kOp_keep fn1.out hbN)
            have gnb8 := Lib.hid ((And.intro (fnb8.out.1.bel hbN) fnb8.out.2))
            clear hbN
            refine ⟨_, rfl, ?_⟩
            refine hK.out _ _ (HSF.out _ gb.out) (fun hHeld => ?_)
            clear hK K
            refine nox 37 (h := ?_)
            exact nof (hJ1_4_10 (Xa, xa, Ma, ma, nb8) _ ⟨gb.out, gn1.out, gm1.out, gnb8.out⟩)
           ·skip
            refine value_ (by rfl) rfl (by go_simp; constructor <;> rfl) ?_
            have hbN : Bel wc (wc.alloc (.cells zM 29)) := bel_alloc (Below.refl _ _) _
            have gb := Lib.hid (Below.trans hb.out (Below.mono hbN (Below.size hb.out)))
            have gn1 := Lib.hid (kOp_keep fn1.out hbN)
            have gnb8 := Lib.hid ((And.intro (fnb8.out.1.bel hbN) fnb8.out.2))
            have gnb9 : Hid (Blk (wc.alloc (.cells zM 29)) wc.heap.size zM 29 ∧ w2.drew.heap.size ≤ wc.heap.size) := Lib.hid ⟨Blk.new _ _ _, Below.size hb.out⟩
            have gne : Hid (nb8 ≠ wc.heap.size) := Lib.hid (Nat.ne_of_lt fnb8.out.1.lt)
            clear hbN
            refine hK.out _ _ (HSF.out _ gb.out) (fun hHeld => ?_)
            clear hK K
            refine nox 9 (h := ?_)
            exact nof (hJ1_10_11 (Xa, xa, nb8, wc.heap.size) _ ⟨gb.out, gn1.out, gnb8.out, gnb9.out, gne.out⟩)
         ·skip
          rintro ⟨Xa, xa, Ma, ma⟩ wc ⟨hb, hn1, hm1⟩
          try dsimp only at hn1
          try dsimp only at hm1
          have hb := Lib.hid hb
          have fn1 := Lib.hid hn1
          have fm1 := Lib.hid hm1
          clear hn1 hm1
          refine norm_ (a' := ?_) ?_ ?_
          rotate_left
          ·simp only [putAll, Act.put, lA, lB, lC]
           rfl
          refine three_ (i := 5) (j := 10) (k := 11) (Ni := some 38) (Nj := some 8) (Nk := some 9) #[bT, bT, bT, bT, bT, bT, bF, bF, bF, bF, bF, bF, bF, bF, bF] #[bT, bT, bT, bT, bT, bF, bF, bF, bF, bF, bT, bF, bF, bF, bF] #[bT, bT, bT, bT, bT, bF, bF, bF, bF, bF, bF, bT, bF, bF, bF] rfl rfl rfl rfl rfl rfl (by kernel_rfl) (by decide) (by decide) (by decide) (fun K hK => ?_) (fun K hK => ?_) (fun K hK => ?_)
          ·skip
           refine goes_ Tryz.func23 (by kernel_rfl) rfl #[.agg #[.bool n.up, .int .i64 n.term, .bool n.leads, .bool n.alone, .slice Xa n.ops.length xa], .int .i64 id, .agg #[.int .i64 m.kind, .int .i64 m.whom, .int .i64 m.term, .int .i64 m.n, .int .i64 m.op.kind, .string m.op.name, .string m.op.dest, .int .i64 m.op.n, .string m.op.text, .slice Ma m.ops.length ma]] (by rfl) rfl rfl (by simp only [List.map_toArray, List.map_cons, List.map_nil]; rfl) ?_
           with_reducible refine (hsp.out _ fn1.out fm1.out).mono ?_
           rintro e wn ⟨v, rfl, hoo, hbN⟩
           obtain ⟨E0, f0, rfl, -, -⟩ := hoo.reads
           have gas : Hid (OwnT wn w2.drew.heap.size (.slice E0 xn.ops.length f0) xn.ops) := Lib.hid (OwnT.lower hoo (Below.size hb.out))
           clear hoo
           have gb := Lib.hid (Below.trans hb.out (Below.mono hbN (Below.size hb.out)))
           have gn1 := Lib.hid (kOp_keep fn1.out hbN)
           have gm1 := Lib.hid (kOp_keep fm1.out hbN)
           clear hbN
           refine ⟨_, rfl, ?_⟩
           refine hK.out _ _ (HSF.out _ gb.out) (fun hHeld => ?_)
           clear hK K
           refine nox 38 (h := ?_)
           refine ppx (i := 6) (N := some 32) #[bT, bT, bT, bT, bT, bT, bT, bF, bF, bF, bF, bF, bF, bF, bF] (h := ?_)
           refine ppx (i := 7) (N := some 39) #[bT, bT, bT, bT, bT, bT, bT, bT, bF, bF, bF, bF, bF, bF, bF] (h := ?_)
           refine ppx (i := 8) (N := some 40) #[bT, bT, bT, bT, bT, bT, bT, bT, bT, bF, bF, bF, bF, bF, bF] (h := ?_)
           refine ppx (i := 9) (N := some 41) #[bT, bT, bT, bT, bT, bT, bT, bT, bT, bT, bF, bF, bF, bF, bF] (h := ?_)
           exact nof (hJ1_4_5 (Xa, xa, Ma, ma, E0, f0) _ ⟨gb.out, gn1.out, gm1.out, gas.out⟩)
          ·skip
           refine value_ (by rfl) rfl (by go_simp; constructor <;> rfl) ?_
           have hbN : Bel wc (wc.alloc (.cells zN 25)) := bel_alloc (Below.refl _ _) _
           have gb := Lib.hid (Below.trans hb.out (Below.mono hbN (Below.size hb.out)))
           have gn1 := Lib.hid (kOp_keep fn1.out hbN)
           have gm1 := Lib.hid (kOp_keep fm1.out hbN)
           have gnb8 : Hid (Blk (wc.alloc (.cells zN 25)) wc.heap.size zN 25 ∧ w2.drew.heap.size ≤ wc.heap.size) := Lib.hid ⟨Blk.new _ _ _, Below.size hb.out⟩
           clear hbN
           refine hK.out _ _ (HSF.out _ gb.out) (fun hHeld => ?_)
           clear hK K
           refine nox 8 (h := ?_)
           exact nof (hJ1_4_10 (Xa, xa, Ma, ma, wc.heap.size) _ ⟨gb.out, gn1.out, gm1.out, gnb8.out⟩)
          ·skip
           refine value_ (by rfl) rfl (by go_simp; constructor <;> rfl) ?_
           have hbN : Bel wc (wc.alloc (.cells zM 29)) := bel_alloc (Below.refl _ _) _
           have gb := Lib.hid (Below.trans hb.out (Below.mono hbN (Below.size hb.out)))
           have gn1 := Lib.hid (kOp_keep fn1.out hbN)
           have gm1 := Lib.hid (kOp_keep fm1.out hbN)
           have gnb9 : Hid (Blk (wc.alloc (.cells zM 29)) wc.heap.size zM 29 ∧ w2.drew.heap.size ≤ wc.heap.size) := Lib.hid ⟨Blk.new _ _ _, Below.size hb.out⟩
           clear hbN
           refine hK.out _ _ (HSF.out _ gb.out) (fun hHeld => ?_)
           clear hK K
           refine nox 9 (h := ?_)
           exact nof (hJ1_4_11 (Xa, xa, Ma, ma, wc.heap.size) _ ⟨gb.out, gn1.out, gm1.out, gnb9.out⟩)
        ·skip
         rintro ⟨Xa, xa, nb8, nb9⟩ wc ⟨hb, hn1, hnb8, hnb9, hne⟩
         try dsimp only at hn1
         try dsimp only at hnb8
         try dsimp only at hnb9
         try dsimp only at hne
         have hb := Lib.hid hb
         have fn1 := Lib.hid hn1
         have fnb8 := Lib.hid hnb8
         have fnb9 := Lib.hid hnb9
         have fne := Lib.hid hne
         clear hn1 hnb8 hnb9 hne
         refine norm_ (a' := ?_) ?_ ?_
         rotate_left
         ·simp only [putAll, Act.put, lA, lB, lC]
          rfl
         refine one_ (i := 4) (N := some 37) #[bT, bT, bT, bT, bT, bF, bF, bF, bF, bF, bT, bT, bF, bF, bF] rfl rfl (by kernel_rfl) (by decide) (fun K hK => ?_)
         refine goes_ Tryz.func77 (by kernel_rfl) rfl #[.agg #[.int .i64 m.kind, .int .i64 m.whom, .int .i64 m.term, .int .i64 m.n, .int .i64 m.op.kind, .string m.op.name, .string m.op.dest, .int .i64 m.op.n, .string m.op.text, .slice B m.ops.length bc]] (by rfl) rfl rfl (by simp only [List.map_toArray, List.map_cons, List.map_nil]; rfl) ?_
         with_reducible refine (toMsg_c (m := m) (c := bc) (kOp_keep HDM.out (Bel.tr KW.out hb.out)) HSM.out.len).mono ?_
         rintro e wn ⟨v, rfl, hoo, hbN⟩
         obtain ⟨Ma, ma, rfl, -, hX1⟩ := hoo.reads
         have gm1 := Lib.hid hX1
         clear hoo hX1
         have gb := Lib.hid (Below.trans hb.out (Below.mono hbN (Below.size hb.out)))
         have gn1 := Lib.hid (kOp_keep fn1.out hbN)
         have gnb8 := Lib.hid ((And.intro (fnb8.out.1.bel hbN) fnb8.out.2))
         have gnb9 := Lib.hid ((And.intro (fnb9.out.1.bel hbN) fnb9.out.2))
         have gne := fne
         clear hbN
         refine ⟨_, rfl, ?_⟩
         refine hK.out _ _ (HSF.out _ gb.out) (fun hHeld => ?_)
         clear hK K
         refine nox 37 (h := ?_)
         exact nof (hJ1_4_10_11 (Xa, xa, Ma, ma, nb8, nb9) _ ⟨gb.out, gn1.out, gm1.out, gnb8.out, gnb9.out, gne.out⟩)
       ·skip
        rintro ⟨Xa, xa, Ma, ma, nb9⟩ wc ⟨hb, hn1, hm1, hnb9⟩
        try dsimp only at hn1
        try dsimp only at hm1
        try dsimp only at hnb9
        have hb := Lib.hid hb
        have fn1 := Lib.hid hn1
        have fm1 := Lib.hid hm1
        have fnb9 := Lib.hid hnb9
        clear hn1 hm1 hnb9
        refine norm_ (a' := ?_) ?_ ?_
        rotate_left
        ·simp only [putAll, Act.put, lA, lB, lC]
         rfl
        refine two_ (i := 5) (j := 10) (Ni := some 38) (Nj := some 8) #[bT, bT, bT, bT, bT, bT, bF, bF, bF, bF, bF, bT, bF, bF, bF] #[bT, bT, bT, bT, bT, bF, bF, bF, bF, bF, bT, bT, bF, bF, bF] rfl rfl rfl rfl (by kernel_rfl) (by decide) (by decide) (fun K hK => ?_) (fun K hK => ?_)
        ·skip
         refine goes_ Tryz.func23 (by kernel_rfl) rfl #[.agg #[.bool n.up, .int .i64 n.term, .bool n.leads, .bool n.alone, .slice Xa n.ops.length xa], .int .i64 id, .agg #[.int .i64 m.kind, .int .i64 m.whom, .int .i64 m.term, .int .i64 m.n, .int .i64 m.op.kind, .string m.op.name, .string m.op.dest, .int .i64 m.op.n, .string m.op.text, .slice Ma m.ops.length ma]] (by rfl) rfl rfl (by simp only [List.map_toArray, List.map_cons, List.map_nil]; rfl) ?_
         with_reducible refine (hsp.out _ fn1.out fm1.out).mono ?_
         rintro e wn ⟨v, rfl, hoo, hbN⟩
         obtain ⟨E0, f0, rfl, -, -⟩ := hoo.reads
         have gas : Hid (OwnT wn w2.drew.heap.size (.slice E0 xn.ops.length f0) xn.ops) := Lib.hid (OwnT.lower hoo (Below.size hb.out))
         clear hoo
         have gb := Lib.hid (Below.trans hb.out (Below.mono hbN (Below.size hb.out)))
         have gn1 := Lib.hid (kOp_keep fn1.out hbN)
         have gm1 := Lib.hid (kOp_keep fm1.out hbN)
         have gnb9 := Lib.hid ((And.intro (fnb9.out.1.bel hbN) fnb9.out.2))
         clear hbN
         refine ⟨_, rfl, ?_⟩
         refine hK.out _ _ (HSF.out _ gb.out) (fun hHeld => ?_)
         clear hK K
         refine nox 38 (h := ?_)
         refine ppx (i := 6) (N := some 32) #[bT, bT, bT, bT, bT, bT, bT, bF, bF, bF, bF, bT, bF, bF, bF] (h := ?_)
         refine ppx (i := 7) (N := some 39) #[bT, bT, bT, bT, bT, bT, bT, bT, bF, bF, bF, bT, bF, bF, bF] (h := ?_)
         refine ppx (i := 8) (N := some 40) #[bT, bT, bT, bT, bT, bT, bT, bT, bT, bF, bF, bT, bF, bF, bF] (h := ?_)
         refine ppx (i := 9) (N := some 41) #[bT, bT, bT, bT, bT, bT, bT, bT, bT, bT, bF, bT, bF, bF, bF] (h := ?_)
         exact nof (hJ1_4_5_11 (Xa, xa, Ma, ma, E0, f0, nb9) _ ⟨gb.out, gn1.out, gm1.out, gas.out, gnb9.out⟩)
        ·skip
         refine value_ (by rfl) rfl (by go_simp; constructor <;> rfl) ?_
         have hbN : Bel wc (wc.alloc (.cells zN 25)) := bel_alloc (Below.refl _ _) _
         have gb := Lib.hid (Below.trans hb.out (Below.mono hbN (Below.size hb.out)))
         have gn1 := Lib.hid (kOp_keep fn1.out hbN)
         have gm1 := Lib.hid (kOp_keep fm1.out hbN)
         have gnb9 := Lib.hid ((And.intro (fnb9.out.1.bel hbN) fnb9.out.2))
         have gnb8 : Hid (Blk (wc.alloc (.cells zN 25)) wc.heap.size zN 25 ∧ w2.drew.heap.size ≤ wc.heap.size) := Lib.hid ⟨Blk.new _ _ _, Below.size hb.out⟩
         have gne : Hid (wc.heap.size ≠ nb9) := Lib.hid (Nat.ne_of_gt fnb9.out.1.lt)
         clear hbN
         refine hK.out _ _ (HSF.out _ gb.out) (fun hHeld => ?_)
         clear hK K
         refine nox 8 (h := ?_)
         exact nof (hJ1_4_10_11 (Xa, xa, Ma, ma, wc.heap.size, nb9) _ ⟨gb.out, gn1.out, gm1.out, gnb8.out, gnb9.out, gne.out⟩)
      ·skip
       rintro ⟨Xa, xa, Ma, ma, nb8⟩ wc ⟨hb, hn1, hm1, hnb8⟩
       try dsimp only at hn1
       try dsimp only at hm1
       try dsimp only at hnb8
       have hb := Lib.hid hb
       have fn1 := Lib.hid hn1
       have fm1 := Lib.hid hm1
       have fnb8 := Lib.hid hnb8
       clear hn1 hm1 hnb8
       refine norm_ (a' := ?_) ?_ ?_
       rotate_left
       ·simp only [putAll, Act.put, lA, lB, lC]
        rfl
       refine two_ (i := 5) (j := 11) (Ni := some 38) (Nj := some 9) #[bT, bT, bT, bT, bT, bT, bF, bF, bF, bF, bT, bF, bF, bF, bF] #[bT, bT, bT, bT, bT, bF, bF, bF, bF, bF, bT, bT, bF, bF, bF] rfl rfl rfl rfl (by kernel_rfl) (by decide) (by decide) (fun K hK => ?_) (fun K hK => ?_)
       ·skip
        refine goes_ Tryz.func23 (by kernel_rfl) rfl #[.agg #[.bool n.up, .int .i64 n.term, .bool n.leads, .bool n.alone, .slice Xa n.ops.length xa], .int .i64 id, .agg #[.int .i64 m.kind, .int .i64 m.whom, .int .i64 m.term, .int .i64 m.n, .int .i64 m.op.kind, .string m.op.name, .string m.op.dest, .int .i64 m.op.n, .string m.op.text, .slice Ma m.ops.length ma]] (by rfl) rfl rfl (by simp only [List.map_toArray, List.map_cons, List.map_nil]; rfl) ?_
        with_reducible refine (hsp.out _ fn1.out fm1.out).mono ?_
        rintro e wn ⟨v, rfl, hoo, hbN⟩
        obtain ⟨E0, f0, rfl, -, -⟩ := hoo.reads
        have gas : Hid (OwnT wn w2.drew.heap.size (.slice E0 xn.ops.length f0) xn.ops) := Lib.hid (OwnT.lower hoo (Below.size hb.out))
        clear hoo
        have gb := Lib.hid (Below.trans hb.out (Below.mono hbN (Below.size hb.out)))
        have gn1 := Lib.hid (kOp_keep fn1.out hbN)
        have gm1 := Lib.hid (kOp_keep fm1.out hbN)
        have gnb8 := Lib.hid ((And.intro (fnb8.out.1.bel hbN) fnb8.out.2))
        clear hbN
        refine ⟨_, rfl, ?_⟩
        refine hK.out _ _ (HSF.out _ gb.out) (fun hHeld => ?_)
        clear hK K
        refine nox 38 (h := ?_)
        refine ppx (i := 6) (N := some 32) #[bT, bT, bT, bT, bT, bT, bT, bF, bF, bF, bT, bF, bF, bF, bF] (h := ?_)
        refine ppx (i := 7) (N := some 39) #[bT, bT, bT, bT, bT, bT, bT, bT, bF, bF, bT, bF, bF, bF, bF] (h := ?_)
        refine ppx (i := 8) (N := some 40) #[bT, bT, bT, bT, bT, bT, bT, bT, bT, bF, bT, bF, bF, bF, bF] (h := ?_)
        refine ppx (i := 9) (N := some 41) #[bT, bT, bT, bT, bT, bT, bT, bT, bT, bT, bT, bF, bF, bF, bF] (h := ?_)
        exact nof (hJ1_4_5_10 (Xa, xa, Ma, ma, E0, f0, nb8) _ ⟨gb.out, gn1.out, gm1.out, gas.out, gnb8.out⟩)
       ·skip
        refine value_ (by rfl) rfl (by go_simp; constructor <;> rfl) ?_
        have hbN : Bel wc (wc.alloc (.cells zM 29)) := bel_alloc (Below.refl _ _) _
        have gb := Lib.hid (Below.trans hb.out (Below.mono hbN (Below.size hb.out)))
        have gn1 := Lib.hid (kOp_keep fn1.out hbN)
        have gm1 := Lib.hid (kOp_keep fm1.out hbN)
        have gnb8 := Lib.hid ((And.intro (fnb8.out.1.bel hbN) fnb8.out.2))
        have gnb9 : Hid (Blk (wc.alloc (.cells zM 29)) wc.heap.size zM 29 ∧ w2.drew.heap.size ≤ wc.heap.size) := Lib.hid ⟨Blk.new _ _ _, Below.size hb.out⟩
        have gne : Hid (nb8 ≠ wc.heap.size) := Lib.hid (Nat.ne_of_lt fnb8.out.1.lt)
        clear hbN
        refine hK.out _ _ (HSF.out _ gb.out) (fun hHeld => ?_)
        clear hK K
        refine nox 9 (h := ?_)
        exact nof (hJ1_4_10_11 (Xa, xa, Ma, ma, nb8, wc.heap.size) _ ⟨gb.out, gn1.out, gm1.out, gnb8.out, gnb9.out, gne.out⟩)
     ·skip
      rintro ⟨Xa, xa, Ma, ma, E0, f0⟩ wc ⟨hb, hn1, hm1, has⟩
      try dsimp only at hn1
      try dsimp only at hm1
      try dsimp only at has
      have hb := Lib.hid hb
      have fn1 := Lib.hid hn1
      have fm1 := Lib.hid hm1
      have fas := Lib.hid has
      clear hn1 hm1 has
      refine norm_ (a' := ?_) ?_ ?_
      rotate_left
      ·simp only [putAll, Act.put, lA, lB, lC]
       rfl
      refine two_ (i := 10) (j := 11) (Ni := some 8) (Nj := some 9) #[bT, bT, bT, bT, bT, bT, bT, bT, bT, bT, bT, bF, bF, bF, bF] #[bT, bT, bT, bT, bT, bT, bT, bT, bT, bT, bF, bT, bF, bF, bF] rfl rfl rfl rfl (by kernel_rfl) (by decide) (by decide) (fun K hK => ?_) (fun K hK => ?_)
      ·skip
       refine value_ (by rfl) rfl (by go_simp; constructor <;> rfl) ?_
       have hbN : Bel wc (wc.alloc (.cells zN 25)) := bel_alloc (Below.refl _ _) _
       have gb := Lib.hid (Below.trans hb.out (Below.mono hbN (Below.size hb.out)))
       have gn1 := Lib.hid (kOp_keep fn1.out hbN)
       have gm1 := Lib.hid (kOp_keep fm1.out hbN)
       have gas := Lib.hid (OwnT.bel fas.out hbN)
       have gnb8 : Hid (Blk (wc.alloc (.cells zN 25)) wc.heap.size zN 25 ∧ w2.drew.heap.size ≤ wc.heap.size) := Lib.hid ⟨Blk.new _ _ _, Below.size hb.out⟩
       clear hbN
       refine hK.out _ _ (HSF.out _ gb.out) (fun hHeld => ?_)
       clear hK K
       refine nox 8 (h := ?_)
       exact nof (hJ1_4_5_10 (Xa, xa, Ma, ma, E0, f0, wc.heap.size) _ ⟨gb.out, gn1.out, gm1.out, gas.out, gnb8.out⟩)
      ·skip
       refine value_ (by rfl) rfl (by go_simp; constructor <;> rfl) ?_
       have hbN : Bel wc (wc.alloc (.cells zM 29)) := bel_alloc (Below.refl _ _) _
       have gb := Lib.hid (Below.trans hb.out (Below.mono hbN (Below.size hb.out)))
       have gn1 := Lib.hid (kOp_keep fn1.out hbN)
       have gm1 := Lib.hid (kOp_keep fm1.out hbN)
       have gas := Lib.hid (OwnT.bel fas.out hbN)
       have gnb9 : Hid (Blk (wc.alloc (.cells zM 29)) wc.heap.size zM 29 ∧ w2.drew.heap.size ≤ wc.heap.size) := Lib.hid ⟨Blk.new _ _ _, Below.size hb.out⟩
       clear hbN
       refine hK.out _ _ (HSF.out _ gb.out) (fun hHeld => ?_)
       clear hK K
       refine nox 9 (h := ?_)
       exact nof (hJ1_4_5_11 (Xa, xa, Ma, ma, E0, f0, wc.heap.size) _ ⟨gb.out, gn1.out, gm1.out, gas.out, gnb9.out⟩)
    ·skip
     rintro ⟨Xa, xa, Ma, ma, nb8, nb9⟩ wc ⟨hb, hn1, hm1, hnb8, hnb9, hne⟩
     try dsimp only at hn1
     try dsimp only at hm1
     try dsimp only at hnb8
     try dsimp only at hnb9
     try dsimp only at hne
     have hb := Lib.hid hb
     have fn1 := Lib.hid hn1
     have fm1 := Lib.hid hm1
     have fnb8 := Lib.hid hnb8
     have fnb9 := Lib.hid hnb9
     have fne := Lib.hid hne
     clear hn1 hm1 hnb8 hnb9 hne
     refine norm_ (a' := ?_) ?_ ?_
     rotate_left
     ·simp only [putAll, Act.put, lA, lB, lC]
      rfl
     refine one_ (i := 5) (N := some 38) #[bT, bT, bT, bT, bT, bT, bF, bF, bF, bF, bT, bT, bF, bF, bF] rfl rfl (by kernel_rfl) (by decide) (fun K hK => ?_)
     refine goes_ Tryz.func23 (by kernel_rfl) rfl #[.agg #[.bool n.up, .int .i64 n.term, .bool n.leads, .bool n.alone, .slice Xa n.ops.length xa], .int .i64 id, .agg #[.int .i64 m.kind, .int .i64 m.whom, .int .i64 m.term, .int .i64 m.n, .int .i64 m.op.kind, .string m.op.name, .string m.op.dest, .int .i64 m.op.n, .string m.op.text, .slice Ma m.ops.length ma]] (by rfl) rfl rfl (by simp only [List.map_toArray, List.map_cons, List.map_nil]; rfl) ?_
     with_reducible refine (hsp.out _ fn1.out fm1.out).mono ?_
     rintro e wn ⟨v, rfl, hoo, hbN⟩
     obtain ⟨E0, f0, rfl, -, -⟩ := hoo.reads
     have gas : Hid (OwnT wn w2.drew.heap.size (.slice E0 xn.ops.length f0) xn.ops) := Lib.hid (OwnT.lower hoo (Below.size hb.out))
     clear hoo
     have gb := Lib.hid (Below.trans hb.out (Below.mono hbN (Below.size hb.out)))
     have gn1 := Lib.hid (kOp_keep fn1.out hbN)
     have gm1 := Lib.hid (kOp_keep fm1.out hbN)
     have gnb8 := Lib.hid ((And.intro (fnb8.out.1.bel hbN) fnb8.out.2))
     have gnb9 := Lib.hid ((And.intro (fnb9.out.1.bel hbN) fnb9.out.2))
     have gne := fne
     clear hbN
     refine ⟨_, rfl, ?_⟩
     refine hK.out _ _ (HSF.out _ gb.out) (fun hHeld => ?_)
     clear hK K
     refine nox 38 (h := ?_)
     refine ppx (i := 6) (N := some 32) #[bT, bT, bT, bT, bT, bT, bT, bF, bF, bF, bT, bT, bF, bF, bF] (h := ?_)
     refine ppx (i := 7) (N := some 39) #[bT, bT, bT, bT, bT, bT, bT, bT, bF, bF, bT, bT, bF, bF, bF] (h := ?_)
     refine ppx (i := 8) (N := some 40) #[bT, bT, bT, bT, bT, bT, bT, bT, bT, bF, bT, bT, bF, bF, bF] (h := ?_)
     refine ppx (i := 9) (N := some 41) #[bT, bT, bT, bT, bT, bT, bT, bT, bT, bT, bT, bT, bF, bF, bF] (h := ?_)
     exact nof (hJ1_4_5_10_11 (Xa, xa, Ma, ma, E0, f0, nb8, nb9) _ ⟨gb.out, gn1.out, gm1.out, gas.out, gnb8.out, gnb9.out, gne.out⟩)
   ·skip
    rintro ⟨Xa, xa, Ma, ma, E0, f0, nb9⟩ wc ⟨hb, hn1, hm1, has, hnb9⟩
    try dsimp only at hn1
    try dsimp only at hm1
    try dsimp only at has
    try dsimp only at hnb9
    have hb := Lib.hid hb
    have fn1 := Lib.hid hn1
    have fm1 := Lib.hid hm1
    have fas := Lib.hid has
    have fnb9 := Lib.hid hnb9
    clear hn1 hm1 has hnb9
    refine norm_ (a' := ?_) ?_ ?_
    rotate_left
    ·simp only [putAll, Act.put, lA, lB, lC]
     rfl
    refine one_ (i := 10) (N := some 8) #[bT, bT, bT, bT, bT, bT, bT, bT, bT, bT, bT, bT, bF, bF, bF] rfl rfl (by kernel_rfl) (by decide) (fun K hK => ?_)
    refine value_ (by rfl) rfl (by go_simp; constructor <;> rfl) ?_
    have hbN : Bel wc (wc.alloc (.cells zN 25)) := bel_alloc (Below.refl _ _) _
    have gb := Lib.hid (Below.trans hb.out (Below.mono hbN (Below.size hb.out)))
    have gn1 := Lib.hid (kOp_keep fn1.out hbN)
    have gm1 := Lib.hid (kOp_keep fm1.out hbN)
    have gas := Lib.hid (OwnT.bel fas.out hbN)
    have gnb9 := Lib.hid ((And.intro (fnb9.out.1.bel hbN) fnb9.out.2))
    have gnb8 : Hid (Blk (wc.alloc (.cells zN 25)) wc.heap.size zN 25 ∧ w2.drew.heap.size ≤ wc.heap.size) := Lib.hid ⟨Blk.new _ _ _, Below.size hb.out⟩
    have gne : Hid (wc.heap.size ≠ nb9) := Lib.hid (Nat.ne_of_gt fnb9.out.1.lt)
    clear hbN
    refine hK.out _ _ (HSF.out _ gb.out) (fun hHeld => ?_)
    clear hK K
    refine nox 8 (h := ?_)
    exact nof (hJ1_4_5_10_11 (Xa, xa, Ma, ma, E0, f0, wc.heap.size, nb9) _ ⟨gb.out, gn1.out, gm1.out, gas.out, gnb8.out, gnb9.out, gne.out⟩)
  ·skip
   rintro ⟨Xa, xa, Ma, ma, E0, f0, nb8⟩ wc ⟨hb, hn1, hm1, has, hnb8⟩
   try dsimp only at hn1
   try dsimp only at hm1
   try dsimp only at has
   try dsimp only at hnb8
   have hb := Lib.hid hb
   have fn1 := Lib.hid hn1
   have fm1 := Lib.hid hm1
   have fas := Lib.hid has
   have fnb8 := Lib.hid hnb8
   clear hn1 hm1 has hnb8
   refine norm_ (a' := ?_) ?_ ?_
   rotate_left
   ·simp only [putAll, Act.put, lA, lB, lC]
    rfl
   refine one_ (i := 11) (N := some 9) #[bT, bT, bT, bT, bT, bT, bT, bT, bT, bT, bT, bT, bF, bF, bF] rfl rfl (by kernel_rfl) (by decide) (fun K hK => ?_)
   refine value_ (by rfl) rfl (by go_simp; constructor <;> rfl) ?_
   have hbN : Bel wc (wc.alloc (.cells zM 29)) := bel_alloc (Below.refl _ _) _
   have gb := Lib.hid (Below.trans hb.out (Below.mono hbN (Below.size hb.out)))
   have gn1 := Lib.hid (kOp_keep fn1.out hbN)
   have gm1 := Lib.hid (kOp_keep fm1.out hbN)
   have gas := Lib.hid (OwnT.bel fas.out hbN)
   have gnb8 := Lib.hid ((And.intro (fnb8.out.1.bel hbN) fnb8.out.2))
   have gnb9 : Hid (Blk (wc.alloc (.cells zM 29)) wc.heap.size zM 29 ∧ w2.drew.heap.size ≤ wc.heap.size) := Lib.hid ⟨Blk.new _ _ _, Below.size hb.out⟩
   have gne : Hid (nb8 ≠ wc.heap.size) := Lib.hid (Nat.ne_of_lt fnb8.out.1.lt)
   clear hbN
   refine hK.out _ _ (HSF.out _ gb.out) (fun hHeld => ?_)
   clear hK K
   refine nox 9 (h := ?_)
   exact nof (hJ1_4_5_10_11 (Xa, xa, Ma, ma, E0, f0, nb8, wc.heap.size) _ ⟨gb.out, gn1.out, gm1.out, gas.out, gnb8.out, gnb9.out, gne.out⟩)
 rintro ⟨Xa, xa, Ma, ma, E0, f0, nb8, nb9⟩ wc ⟨hb, hn1, hm1, has, hnb8, hnb9, hne⟩
 try dsimp only at hn1
 try dsimp only at hm1
 try dsimp only at has
 try dsimp only at hnb8
 try dsimp only at hnb9
 try dsimp only at hne
 have hb := Lib.hid hb
 have fn1 := Lib.hid hn1
 have fm1 := Lib.hid hm1
 have fas := Lib.hid has
 have fnb8 := Lib.hid hnb8
 have fnb9 := Lib.hid hnb9
 have fne := Lib.hid hne
 clear hn1 hm1 has hnb8 hnb9 hne
 have unb80 := blkn fnb8.out.1 0 _ rfl
 have unb81 := blkn fnb8.out.1 1 _ rfl
 have unb82 := blkn fnb8.out.1 2 _ rfl
 have unb83 := blkn fnb8.out.1 3 _ rfl
 have unb84 := blkn fnb8.out.1 4 _ rfl
 have vnb80 := fnb8.out.1.free 0
 have vnb81 := fnb8.out.1.free 1
 have vnb82 := fnb8.out.1.free 2
 have vnb83 := fnb8.out.1.free 3
 have vnb84 := fnb8.out.1.free 4
 have ynb8 := fnb8.out.1.lt
 have unb90 := blkn fnb9.out.1 0 _ rfl
 have unb91 := blkn fnb9.out.1 1 _ rfl
 have unb92 := blkn fnb9.out.1 2 _ rfl
 have unb93 := blkn fnb9.out.1 3 _ rfl
 have unb94 := blkn fnb9.out.1 4 _ rfl
 have unb95 := blkn fnb9.out.1 5 _ rfl
 have unb96 := blkn fnb9.out.1 6 _ rfl
 have unb97 := blkn fnb9.out.1 7 _ rfl
 have unb98 := blkn fnb9.out.1 8 _ rfl
 have unb99 := blkn fnb9.out.1 9 _ rfl
 have vnb90 := fnb9.out.1.free 0
 have vnb91 := fnb9.out.1.free 1
 have vnb92 := fnb9.out.1.free 2
 have vnb93 := fnb9.out.1.free 3
 have vnb94 := fnb9.out.1.free 4
 have vnb95 := fnb9.out.1.free 5
 have vnb96 := fnb9.out.1.free 6
 have vnb97 := fnb9.out.1.free 7
 have vnb98 := fnb9.out.1.free 8
 have vnb99 := fnb9.out.1.free 9
 have ynb9 := fnb9.out.1.lt
 have en1 : ¬ nb8 = nb9 := fne.out
 have en2 : ¬ nb9 = nb8 := fun e => fne.out e.symm
 refine norm_ (a' := ?_) ?_ ?_
 rotate_left
 ·simp only [putAll, Act.put, lA, lB, lC]
  rfl
 refine last_ (i := 12) (N := none) #[bT, bT, bT, bT, bT, bT, bT, bT, bT, bT, bT, bT, bT, bF, bF] rfl rfl (by kernel_rfl) (by decide) (fun K hK => ?_)
 refine skip_ (by rfl) rfl (by go_simp; rfl) ?_
 refine hK.out _ _ ?_
 clear hK K
 refine last_ (i := 13) (N := none) #[bT, bT, bT, bT, bT, bT, bT, bT, bT, bT, bT, bT, bT, bT, bF] rfl rfl (by kernel_rfl) (by decide) (fun K hK => ?_)
 refine skip_ (by rfl) rfl (by go_simp; rfl) ?_
 refine hK.out _ _ ?_
 clear hK K
 refine ppx (i := 14) (N := some 10) #[bT, bT, bT, bT, bT, bT, bT, bT, bT, bT, bT, bT, bT, bT, bT] (h := ?_)
 refine done_ (by kernel_rfl) ?_
 clear en1 en2 unb80 unb81 unb82 unb83 unb84 vnb80 vnb81 vnb82 vnb83 vnb84 unb90 unb91 unb92 unb93 unb94 unb95 unb96 unb97 unb98 unb99 vnb90 vnb91 vnb92 vnb93 vnb94 vnb95 vnb96 vnb97 vnb98 vnb99
 replace KB := Lib.hid (KB.out.bel hb.out)
 replace KO := Lib.hid (KO.out.bel hb.out)
 replace KW := Lib.hid (Bel.tr KW.out hb.out)
 have hP2 := fnb8.out.2
 have hP3 := fnb9.out.2
 generalize hW9 : ((((((((((((((((wc.setCell ⟨nb8, 0, none⟩ (.bool xn.up)).setCell ⟨nb8, 1, none⟩ (.int .i64 xn.term)).setCell ⟨nb8, 2, none⟩ (.bool xn.leads)).setCell ⟨nb8, 3, none⟩ (.bool xn.alone)).setCell ⟨nb8, 4, none⟩ (.slice E0 xn.ops.length f0)).setCell ⟨nb9, 0, none⟩ (.int .i64 xm.kind)).setCell ⟨nb9, 1, none⟩ (.int .i64 xm.whom)).setCell ⟨nb9, 2, none⟩ (.int .i64 xm.term)).setCell ⟨nb9, 3, none⟩ (.int .i64 xm.n)).setCell ⟨nb9, 4, none⟩ (.int .i64 xm.op.kind)).setCell ⟨nb9, 5, none⟩ (.string xm.op.name)).setCell ⟨nb9, 6, none⟩ (.string xm.op.dest)).setCell ⟨nb9, 7, none⟩ (.int .i64 xm.op.n)).setCell ⟨nb9, 8, none⟩ (.string xm.op.text)).setCell ⟨nb9, 9, none⟩ (.slice none 0 0))) = W3
 have h2 := two_new (v1 := [.bool xn.up, .int .i64 xn.term, .bool xn.leads, .bool xn.alone, .slice E0 xn.ops.length f0]) (v2 := [.int .i64 xm.kind, .int .i64 xm.whom, .int .i64 xm.term, .int .i64 xm.n, .int .i64 xm.op.kind, .string xm.op.name, .string xm.op.dest, .int .i64 xm.op.n, .string xm.op.text, .slice none 0 0]) hW9 fnb8.out.1 fnb9.out.1 fne.out rfl rfl (by decide) (by decide)
 have hsz : w2.drew.heap.size ≤ wc.heap.size := Below.size hb.out
 have hK := h2.ownT fas.out
 replace KB := Lib.hid (h2.oth KB.out (by omega) (by omega))
 replace KO := Lib.hid (h2.oth KO.out (by omega) (by omega))
 replace KW := Lib.hid (h2.bel KW.out (by omega) (by omega))
 have hB1 : Blk W3 nb8 #[.bool xn.up, .int .i64 xn.term, .bool xn.leads, .bool xn.alone, .slice E0 xn.ops.length f0] 25 := h2.b1
 have hB2 : Blk W3 nb9 #[.int .i64 xm.kind, .int .i64 xm.whom, .int .i64 xm.term, .int .i64 xm.n, .int .i64 xm.op.kind, .string xm.op.name, .string xm.op.dest, .int .i64 xm.op.n, .string xm.op.text, .slice none 0 0] 29 := h2.b2
 have hq := h2.size
 clear hW9 h2 fnb8 fnb9 fne fas hb HSF ynb8 ynb9 fn1 fm1
 obtain ⟨s1, hs1⟩ : ∃ k, w2.drew.heap.size = k := ⟨_, rfl⟩
 obtain ⟨s2, hs2⟩ : ∃ k, W3.heap.size = k := ⟨_, rfl⟩
 have Ks : Hid (AtT W3 s1 s2 (.slice E0 xn.ops.length f0) xn.ops) := Lib.hid (by rw [← hs1, ← hs2]; exact OwnT.att hK)
 have B8 := Lib.hid hB1
 have B9 := Lib.hid hB2
 have KZ : Hid (s2 ≤ W3.heap.size) := Lib.hid (Nat.le_of_eq hs2.symm)
 have zKs : s1 ≤ s2 := by omega
 have zw_s1 : w.heap.size ≤ s1 := by omega
 clear hB1 hB2 hK hq hP2 hP3 hsz hs1 hs2 zw zl_KB zl_KO
 have kb_0 : W3.cell? ⟨bkl, 0, none⟩ = some (.bool n.up) := blkn KB.out 0 _ rfl
 have kb_1 : W3.cell? ⟨bkl, 1, none⟩ = some (.int .i64 n.term) := blkn KB.out 1 _ rfl
 have kb_2 : W3.cell? ⟨bkl, 2, none⟩ = some (.bool n.leads) := blkn KB.out 2 _ rfl
 have kb_3 : W3.cell? ⟨bkl, 3, none⟩ = some (.bool n.alone) := blkn KB.out 3 _ rfl
 have kb_4 : W3.cell? ⟨bkl, 4, none⟩ = some (.slice A n.ops.length c) := blkn KB.out 4 _ rfl
 have kb_y := KB.out.lt
 go_wp2_with fail
 clear kb_0 kb_1 kb_2 kb_3 kb_4 kb_y
 refine (toNode_c (n := n) (c := c) (kOp_keep HC.out KW.out) HS.out.len).mono ?_
 rintro e w4 ⟨v, rfl, ho, hb⟩
 obtain ⟨Xv, xv, rfl, _, _⟩ := ho.reads
 obtain ⟨lx, hlx⟩ : ∃ k, W3.heap.size = k := ⟨_, rfl⟩
 obtain ⟨hx, hhx⟩ : ∃ k, w4.heap.size = k := ⟨_, rfl⟩
 have z_lx : s2 ≤ lx := by rw [← hlx]; exact KZ.out
 have zx : lx ≤ hx := by rw [← hlx, ← hhx]; exact Below.size hb
 have Kx : Hid (AtO w4 lx hx (.slice Xv n.ops.length xv) n.ops) := Lib.hid (by rw [← hlx, ← hhx]; exact OwnO.ato ho)
 replace KB := Lib.hid (KB.out.bel hb)
 replace KO := Lib.hid (KO.out.bel hb)
 replace Ks := Lib.hid (Ks.out.bel hb)
 replace B8 := Lib.hid (B8.out.bel hb)
 replace B9 := Lib.hid (B9.out.bel hb)
 replace KW := Lib.hid (Bel.tr KW.out hb)
 replace KZ := Lib.hid (Nat.le_trans KZ.out (Below.size hb))
 replace KZ : Hid (hx ≤ w4.heap.size) := Lib.hid (Nat.le_of_eq hhx.symm)
 have HHX := Lib.hid hhx
 clear ho hb hlx hhx
 have ko_0 : w4.cell? ⟨bko, 0, none⟩ = some (.int .i64 m.kind) := blkn KO.out 0 _ rfl
 have ko_1 : w4.cell? ⟨bko, 1, none⟩ = some (.int .i64 m.whom) := blkn KO.out 1 _ rfl
 have ko_2 : w4.cell? ⟨bko, 2, none⟩ = some (.int .i64 m.term) := blkn KO.out 2 _ rfl
 have ko_3 : w4.cell? ⟨bko, 3, none⟩ = some (.int .i64 m.n) := blkn KO.out 3 _ rfl
 have ko_4 : w4.cell? ⟨bko, 4, none⟩ = some (.int .i64 m.op.kind) := blkn KO.out 4 _ rfl
 have ko_5 : w4.cell? ⟨bko, 5, none⟩ = some (.string m.op.name) := blkn KO.out 5 _ rfl
 have ko_6 : w4.cell? ⟨bko, 6, none⟩ = some (.string m.op.dest) := blkn KO.out 6 _ rfl
 have ko_7 : w4.cell? ⟨bko, 7, none⟩ = some (.int .i64 m.op.n) := blkn KO.out 7 _ rfl
 have ko_8 : w4.cell? ⟨bko, 8, none⟩ = some (.string m.op.text) := blkn KO.out 8 _ rfl
 have ko_9 : w4.cell? ⟨bko, 9, none⟩ = some (.slice B m.ops.length bc) := blkn KO.out 9 _ rfl
 have ko_y := KO.out.lt
 go_wp2_with fail
 clear ko_0 ko_1 ko_2 ko_3 ko_4 ko_5 ko_6 ko_7 ko_8 ko_9 ko_y
 have hnew : Blk (w4.alloc (.cells #[.bool n.up, .int .i64 n.term, .bool n.leads, .bool n.alone, .slice Xv n.ops.length xv] 25)) w4.heap.size #[.bool n.up, .int .i64 n.term, .bool n.leads, .bool n.alone, .slice Xv n.ops.length xv] 25 := Blk.new _ _ _
 have hb : Bel w4 (w4.alloc (.cells #[.bool n.up, .int .i64 n.term, .bool n.leads, .bool n.alone, .slice Xv n.ops.length xv] 25)) := bel_alloc (Below.refl _ _) _
 generalize w4.alloc (.cells #[.bool n.up, .int .i64 n.term, .bool n.leads, .bool n.alone, .slice Xv n.ops.length xv] 25) = W5 at hnew hb ⊢
 have hhx := HHX.out
 rw [hhx] at hnew
 try rw [hhx]
 clear HHX
 replace KB := Lib.hid (KB.out.bel hb)
 replace KO := Lib.hid (KO.out.bel hb)
 replace Ks := Lib.hid (Ks.out.bel hb)
 replace B8 := Lib.hid (B8.out.bel hb)
 replace B9 := Lib.hid (B9.out.bel hb)
 replace Kx := Lib.hid (Kx.out.bel hb)
 replace KW := Lib.hid (Bel.tr KW.out hb)
 replace KZ := Lib.hid (Nat.le_trans KZ.out (Below.size hb))
 obtain ⟨bx, hbx⟩ : ∃ b, hx = b := ⟨_, rfl⟩
 have Bx : Hid (Blk W5 bx #[.bool n.up, .int .i64 n.term, .bool n.leads, .bool n.alone, .slice Xv n.ops.length xv] 25) := Lib.hid (by rw [← hbx]; exact hnew)
 rw [hbx]
 clear hnew hb hhx hbx
 refine (toMsg_c (m := m) (c := bc) (kOp_keep HDM.out KW.out) HSM.out.len).mono ?_
 rintro e w6 ⟨v, rfl, ho, hb⟩
 obtain ⟨Yv, yv, rfl, _, _⟩ := ho.reads
 obtain ⟨ly, hly⟩ : ∃ k, W5.heap.size = k := ⟨_, rfl⟩
 obtain ⟨hy, hhy⟩ : ∃ k, w6.heap.size = k := ⟨_, rfl⟩
 have z_ly : hx ≤ ly := by rw [← hly]; exact KZ.out
 have zy : ly ≤ hy := by rw [← hly, ← hhy]; exact Below.size hb
 have Ky : Hid (AtO w6 ly hy (.slice Yv m.ops.length yv) m.ops) := Lib.hid (by rw [← hly, ← hhy]; exact OwnO.ato ho)
 replace KB := Lib.hid (KB.out.bel hb)
 replace KO := Lib.hid (KO.out.bel hb)
 replace Ks := Lib.hid (Ks.out.bel hb)
 replace B8 := Lib.hid (B8.out.bel hb)
 replace B9 := Lib.hid (B9.out.bel hb)
 replace Kx := Lib.hid (Kx.out.bel hb)
 replace Bx := Lib.hid (Bx.out.bel hb)
 replace KW := Lib.hid (Bel.tr KW.out hb)
 replace KZ := Lib.hid (Nat.le_trans KZ.out (Below.size hb))
 replace KZ : Hid (hy ≤ w6.heap.size) := Lib.hid (Nat.le_of_eq hhy.symm)
 have HHY := Lib.hid hhy
 clear ho hb hly hhy
 have bx_0 : w6.cell? ⟨bx, 0, none⟩ = some (.bool n.up) := blkn Bx.out 0 _ rfl
 have bx_1 : w6.cell? ⟨bx, 1, none⟩ = some (.int .i64 n.term) := blkn Bx.out 1 _ rfl
 have bx_2 : w6.cell? ⟨bx, 2, none⟩ = some (.bool n.leads) := blkn Bx.out 2 _ rfl
 have bx_3 : w6.cell? ⟨bx, 3, none⟩ = some (.bool n.alone) := blkn Bx.out 3 _ rfl
 have bx_4 : w6.cell? ⟨bx, 4, none⟩ = some (.slice Xv n.ops.length xv) := blkn Bx.out 4 _ rfl
 have bx_y := Bx.out.lt
 go_wp2_with fail
 clear bx_0 bx_1 bx_2 bx_3 bx_4 bx_y
 have hnew : Blk (w6.alloc (.cells #[.int .i64 m.kind, .int .i64 m.whom, .int .i64 m.term, .int .i64 m.n, .int .i64 m.op.kind, .string m.op.name, .string m.op.dest, .int .i64 m.op.n, .string m.op.text, .slice Yv m.ops.length yv] 29)) w6.heap.size #[.int .i64 m.kind, .int .i64 m.whom, .int .i64 m.term, .int .i64 m.n, .int .i64 m.op.kind, .string m.op.name, .string m.op.dest, .int .i64 m.op.n, .string m.op.text, .slice Yv m.ops.length yv] 29 := Blk.new _ _ _
 have hb : Bel w6 (w6.alloc (.cells #[.int .i64 m.kind, .int .i64 m.whom, .int .i64 m.term, .int .i64 m.n, .int .i64 m.op.kind, .string m.op.name, .string m.op.dest, .int .i64 m.op.n, .string m.op.text, .slice Yv m.ops.length yv] 29)) := bel_alloc (Below.refl _ _) _
 generalize w6.alloc (.cells #[.int .i64 m.kind, .int .i64 m.whom, .int .i64 m.term, .int .i64 m.n, .int .i64 m.op.kind, .string m.op.name, .string m.op.dest, .int .i64 m.op.n, .string m.op.text, .slice Yv m.ops.length yv] 29) = W7 at hnew hb ⊢
 have hhy := HHY.out
 rw [hhy] at hnew
 try rw [hhy]
 clear HHY
 replace KB := Lib.hid (KB.out.bel hb)
 replace KO := Lib.hid (KO.out.bel hb)
 replace Ks := Lib.hid (Ks.out.bel hb)
 replace B8 := Lib.hid (B8.out.bel hb)
 replace B9 := Lib.hid (B9.out.bel hb)
 replace Kx := Lib.hid (Kx.out.bel hb)
 replace Bx := Lib.hid (Bx.out.bel hb)
 replace Ky := Lib.hid (Ky.out.bel hb)
 replace KW := Lib.hid (Bel.tr KW.out hb)
 replace KZ := Lib.hid (Nat.le_trans KZ.out (Below.size hb))
 obtain ⟨by9, hby⟩ : ∃ b, hy = b := ⟨_, rfl⟩
 have By : Hid (Blk W7 by9 #[.int .i64 m.kind, .int .i64 m.whom, .int .i64 m.term, .int .i64 m.n, .int .i64 m.op.kind, .string m.op.name, .string m.op.dest, .int .i64 m.op.n, .string m.op.text, .slice Yv m.ops.length yv] 29) := Lib.hid (by rw [← hby]; exact hnew)
 try rw [hby]
 clear hnew hb hhy hby
 refine (him.out _ (Kx.out.own.innC rfl).2 (Ky.out.own.innC rfl).2).mono ?_
 rintro e w8 ⟨v, rfl, ho, hb⟩
 obtain ⟨G, g, rfl, _, _⟩ := ho.reads
 obtain ⟨s3, hs3⟩ : ∃ k, W7.heap.size = k := ⟨_, rfl⟩
 obtain ⟨s4, hs4⟩ : ∃ k, w8.heap.size = k := ⟨_, rfl⟩
 have z_s3 : hy ≤ s3 := by rw [← hs3]; exact KZ.out
 have zKg : s3 ≤ s4 := by rw [← hs3, ← hs4]; exact Below.size hb
 have Kg : Hid (AtO w8 s3 s4 (.slice G xn.ops.length g) xn.ops) := Lib.hid (by rw [← hs3, ← hs4]; exact OwnO.ato ho)
 replace KB := Lib.hid (KB.out.bel hb)
 replace KO := Lib.hid (KO.out.bel hb)
 replace Ks := Lib.hid (Ks.out.bel hb)
 replace B8 := Lib.hid (B8.out.bel hb)
 replace B9 := Lib.hid (B9.out.bel hb)
 replace Kx := Lib.hid (Kx.out.bel hb)
 replace Bx := Lib.hid (Bx.out.bel hb)
 replace Ky := Lib.hid (Ky.out.bel hb)
 replace By := Lib.hid (By.out.bel hb)
 replace KW := Lib.hid (Bel.tr KW.out hb)
 replace KZ := Lib.hid (Nat.le_trans KZ.out (Below.size hb))
 replace KZ : Hid (s4 ≤ w8.heap.size) := Lib.hid (Nat.le_of_eq hs4.symm)
 clear ho hb hs3 hs4
 have b8_0 : w8.cell? ⟨nb8, 0, none⟩ = some (.bool xn.up) := blkn B8.out 0 _ rfl
 have b8_1 : w8.cell? ⟨nb8, 1, none⟩ = some (.int .i64 xn.term) := blkn B8.out 1 _ rfl
 have b8_2 : w8.cell? ⟨nb8, 2, none⟩ = some (.bool xn.leads) := blkn B8.out 2 _ rfl
 have b8_3 : w8.cell? ⟨nb8, 3, none⟩ = some (.bool xn.alone) := blkn B8.out 3 _ rfl
 have b8_4 : w8.cell? ⟨nb8, 4, none⟩ = some (.slice E0 xn.ops.length f0) := blkn B8.out 4 _ rfl
 have b8_y := B8.out.lt
 have pz1 : nb8 < w8.heap.size + 1 := by omega
 have pz2 : ¬ nb8 = w8.heap.size + 1 := by omega
 have pz3 : ¬ nb8 = w8.heap.size := by omega
 have hbb : (z != z) = false := by simp
 go_wp2_with fail
 clear b8_0 b8_1 b8_2 b8_3 b8_4 b8_y
 clear pz1 pz2 pz3
 have hn1 : Blk ((w8.alloc (.cells #[.bool xn.up, .int .i64 xn.term, .bool xn.leads, .bool xn.alone, .slice G xn.ops.length g] 25)).alloc (.cells #[.int .i64 xm.kind, .int .i64 xm.whom, .int .i64 xm.term, .int .i64 xm.n, .int .i64 xm.op.kind, .string xm.op.name, .string xm.op.dest, .int .i64 xm.op.n, .string xm.op.text, .slice none 0 0] 29)) w8.heap.size #[.bool xn.up, .int .i64 xn.term, .bool xn.leads, .bool xn.alone, .slice G xn.ops.length g] 25 := (Blk.new _ _ _).alloc _
 have hn2 : Blk ((w8.alloc (.cells #[.bool xn.up, .int .i64 xn.term, .bool xn.leads, .bool xn.alone, .slice G xn.ops.length g] 25)).alloc (.cells #[.int .i64 xm.kind, .int .i64 xm.whom, .int .i64 xm.term, .int .i64 xm.n, .int .i64 xm.op.kind, .string xm.op.name, .string xm.op.dest, .int .i64 xm.op.n, .string xm.op.text, .slice none 0 0] 29)) (w8.heap.size + 1) #[.int .i64 xm.kind, .int .i64 xm.whom, .int .i64 xm.term, .int .i64 xm.n, .int .i64 xm.op.kind, .string xm.op.name, .string xm.op.dest, .int .i64 xm.op.n, .string xm.op.text, .slice none 0 0] 29 := Blk.nw2 _ _ _ _
 have hb : Bel w8 ((w8.alloc (.cells #[.bool xn.up, .int .i64 xn.term, .bool xn.leads, .bool xn.alone, .slice G xn.ops.length g] 25)).alloc (.cells #[.int .i64 xm.kind, .int .i64 xm.whom, .int .i64 xm.term, .int .i64 xm.n, .int .i64 xm.op.kind, .string xm.op.name, .string xm.op.dest, .int .i64 xm.op.n, .string xm.op.text, .slice none 0 0] 29)) := bel_alloc (bel_alloc (Below.refl _ _) _) _
 generalize (w8.alloc (.cells #[.bool xn.up, .int .i64 xn.term, .bool xn.leads, .bool xn.alone, .slice G xn.ops.length g] 25)).alloc (.cells #[.int .i64 xm.kind, .int .i64 xm.whom, .int .i64 xm.term, .int .i64 xm.n, .int .i64 xm.op.kind, .string xm.op.name, .string xm.op.dest, .int .i64 xm.op.n, .string xm.op.text, .slice none 0 0] 29) = W9 at hn1 hn2 hb ⊢
 replace KB := Lib.hid (KB.out.bel hb)
 replace KO := Lib.hid (KO.out.bel hb)
 replace Ks := Lib.hid (Ks.out.bel hb)
 replace B8 := Lib.hid (B8.out.bel hb)
 replace B9 := Lib.hid (B9.out.bel hb)
 replace Kx := Lib.hid (Kx.out.bel hb)
 replace Bx := Lib.hid (Bx.out.bel hb)
 replace Ky := Lib.hid (Ky.out.bel hb)
 replace By := Lib.hid (By.out.bel hb)
 replace Kg := Lib.hid (Kg.out.bel hb)
 replace KW := Lib.hid (Bel.tr KW.out hb)
 replace KZ := Lib.hid (Nat.le_trans KZ.out (Below.size hb))
 obtain ⟨bg, hbg⟩ : ∃ b, w8.heap.size = b := ⟨_, rfl⟩
 obtain ⟨bm, hbm⟩ : ∃ b, bg + 1 = b := ⟨_, rfl⟩
 have Bg : Hid (Blk W9 bg #[.bool xn.up, .int .i64 xn.term, .bool xn.leads, .bool xn.alone, .slice G xn.ops.length g] 25) := Lib.hid (by rw [← hbg]; exact hn1)
 have Bm : Hid (Blk W9 bm #[.int .i64 xm.kind, .int .i64 xm.whom, .int .i64 xm.term, .int .i64 xm.n, .int .i64 xm.op.kind, .string xm.op.name, .string xm.op.dest, .int .i64 xm.op.n, .string xm.op.text, .slice none 0 0] 29) := Lib.hid (by rw [← hbm, ← hbg]; exact hn2)
 rw [hbg]
 rw [hbm]
 clear hn1 hn2 hb hbg hbm
 refine (eqNode_c (n := xn) (Kg.out.own.innC rfl).2 (Ks.out.inn rfl) hxl).mono ?_
 rintro e w10 ⟨rfl, hb⟩
 replace KB := Lib.hid (KB.out.bel hb)
 replace KO := Lib.hid (KO.out.bel hb)
 replace Ks := Lib.hid (Ks.out.bel hb)
 replace B8 := Lib.hid (B8.out.bel hb)
 replace B9 := Lib.hid (B9.out.bel hb)
 replace Kx := Lib.hid (Kx.out.bel hb)
 replace Bx := Lib.hid (Bx.out.bel hb)
 replace Ky := Lib.hid (Ky.out.bel hb)
 replace By := Lib.hid (By.out.bel hb)
 replace Kg := Lib.hid (Kg.out.bel hb)
 replace Bg := Lib.hid (Bg.out.bel hb)
 replace Bm := Lib.hid (Bm.out.bel hb)
 replace KW := Lib.hid (Bel.tr KW.out hb)
 replace KZ := Lib.hid (Nat.le_trans KZ.out (Below.size hb))
 clear hb
 have bm_0 : w10.cell? ⟨bm, 0, none⟩ = some (.int .i64 xm.kind) := blkn Bm.out 0 _ rfl
 have bm_1 : w10.cell? ⟨bm, 1, none⟩ = some (.int .i64 xm.whom) := blkn Bm.out 1 _ rfl
 have bm_2 : w10.cell? ⟨bm, 2, none⟩ = some (.int .i64 xm.term) := blkn Bm.out 2 _ rfl
 have bm_3 : w10.cell? ⟨bm, 3, none⟩ = some (.int .i64 xm.n) := blkn Bm.out 3 _ rfl
 have bm_4 : w10.cell? ⟨bm, 4, none⟩ = some (.int .i64 xm.op.kind) := blkn Bm.out 4 _ rfl
 have bm_5 : w10.cell? ⟨bm, 5, none⟩ = some (.string xm.op.name) := blkn Bm.out 5 _ rfl
 have bm_6 : w10.cell? ⟨bm, 6, none⟩ = some (.string xm.op.dest) := blkn Bm.out 6 _ rfl
 have bm_7 : w10.cell? ⟨bm, 7, none⟩ = some (.int .i64 xm.op.n) := blkn Bm.out 7 _ rfl
 have bm_8 : w10.cell? ⟨bm, 8, none⟩ = some (.string xm.op.text) := blkn Bm.out 8 _ rfl
 have bm_9 : w10.cell? ⟨bm, 9, none⟩ = some (.slice none 0 0) := blkn Bm.out 9 _ rfl
 have bm_y := Bm.out.lt
 have b9_0 : w10.cell? ⟨nb9, 0, none⟩ = some (.int .i64 xm.kind) := blkn B9.out 0 _ rfl
 have b9_1 : w10.cell? ⟨nb9, 1, none⟩ = some (.int .i64 xm.whom) := blkn B9.out 1 _ rfl
 have b9_2 : w10.cell? ⟨nb9, 2, none⟩ = some (.int .i64 xm.term) := blkn B9.out 2 _ rfl
 have b9_3 : w10.cell? ⟨nb9, 3, none⟩ = some (.int .i64 xm.n) := blkn B9.out 3 _ rfl
 have b9_4 : w10.cell? ⟨nb9, 4, none⟩ = some (.int .i64 xm.op.kind) := blkn B9.out 4 _ rfl
 have b9_5 : w10.cell? ⟨nb9, 5, none⟩ = some (.string xm.op.name) := blkn B9.out 5 _ rfl
 have b9_6 : w10.cell? ⟨nb9, 6, none⟩ = some (.string xm.op.dest) := blkn B9.out 6 _ rfl
 have b9_7 : w10.cell? ⟨nb9, 7, none⟩ = some (.int .i64 xm.op.n) := blkn B9.out 7 _ rfl
 have b9_8 : w10.cell? ⟨nb9, 8, none⟩ = some (.string xm.op.text) := blkn B9.out 8 _ rfl
 have b9_9 : w10.cell? ⟨nb9, 9, none⟩ = some (.slice none 0 0) := blkn B9.out 9 _ rfl
 have b9_y := B9.out.lt
 go_wp2_with fail
 clear bm_0 bm_1 bm_2 bm_3 bm_4 bm_5 bm_6 bm_7 bm_8 bm_9 bm_y
 clear b9_0 b9_1 b9_2 b9_3 b9_4 b9_5 b9_6 b9_7 b9_8 b9_9 b9_y
 refine (eqMsg0_c HM0.out).mono ?_
 rintro e w11 ⟨rfl, hb⟩
 replace KB := Lib.hid (KB.out.bel hb)
 replace KO := Lib.hid (KO.out.bel hb)
 replace Ks := Lib.hid (Ks.out.bel hb)
 replace B8 := Lib.hid (B8.out.bel hb)
 replace B9 := Lib.hid (B9.out.bel hb)
 replace Kx := Lib.hid (Kx.out.bel hb)
 replace Bx := Lib.hid (Bx.out.bel hb)
 replace Ky := Lib.hid (Ky.out.bel hb)
 replace By := Lib.hid (By.out.bel hb)
 replace Kg := Lib.hid (Kg.out.bel hb)
 replace Bg := Lib.hid (Bg.out.bel hb)
 replace Bm := Lib.hid (Bm.out.bel hb)
 replace KW := Lib.hid (Bel.tr KW.out hb)
 replace KZ := Lib.hid (Nat.le_trans KZ.out (Below.size hb))
 clear hb
 go_wp2
 have hb : Bel w11 w11.drew := (Below.refl _ _).drew
 replace KB := Lib.hid (KB.out.bel hb)
 replace KO := Lib.hid (KO.out.bel hb)
 replace Ks := Lib.hid (Ks.out.bel hb)
 replace B8 := Lib.hid (B8.out.bel hb)
 replace B9 := Lib.hid (B9.out.bel hb)
 replace Kx := Lib.hid (Kx.out.bel hb)
 replace Bx := Lib.hid (Bx.out.bel hb)
 replace Ky := Lib.hid (Ky.out.bel hb)
 replace By := Lib.hid (By.out.bel hb)
 replace Kg := Lib.hid (Kg.out.bel hb)
 replace Bg := Lib.hid (Bg.out.bel hb)
 replace Bm := Lib.hid (Bm.out.bel hb)
 replace KW := Lib.hid (Bel.tr KW.out hb)
 replace KZ := Lib.hid (Nat.le_trans KZ.out (Below.size hb))
 clear hb
 refine start_ (n := 5) (S := fun w' => w'.cell? ⟨bx, 0, none⟩ = some (.bool n.up) ∧ w'.cell? ⟨bx, 1, none⟩ = some (.int .i64 n.term) ∧ w'.cell? ⟨bx, 2, none⟩ = some (.bool n.leads) ∧ w'.cell? ⟨bx, 3, none⟩ = some (.bool n.alone) ∧ w'.cell? ⟨bx, 4, none⟩ = some (.slice Xv n.ops.length xv) ∧ w'.cell? ⟨bkl, 0, none⟩ = some (.bool n.up) ∧ w'.cell? ⟨bkl, 1, none⟩ = some (.int .i64 n.term) ∧ w'.cell? ⟨bkl, 2, none⟩ = some (.bool n.leads) ∧ w'.cell? ⟨bkl, 3, none⟩ = some (.bool n.alone) ∧ w'.cell? ⟨bkl, 4, none⟩ = some (.slice A n.ops.length c)) (ds := []) #[bF, bF, bF, bF, bF] (by kernel_rfl) rfl rfl ⟨(blkn Bx.out 0 _ rfl), (blkn Bx.out 1 _ rfl), (blkn Bx.out 2 _ rfl), (blkn Bx.out 3 _ rfl), (blkn Bx.out 4 _ rfl), (blkn KB.out 0 _ rfl), (blkn KB.out 1 _ rfl), (blkn KB.out 2 _ rfl), (blkn KB.out 3 _ rfl), (blkn KB.out 4 _ rfl)⟩ (fun hHeld => ?_)
 refine tpx (i := 0) (N := some 69) #[bT, bF, bF, bF, bF] (hy := (Or.inl ⟨by rfl, by rintro w' ⟨s0, s1, s2, s3, s4, s5, s6, s7, s8, s9⟩; go_simp; with_reducible rfl⟩)) (hS := hHeld) (h := ?_)
 refine tpx (i := 1) (N := some 70) #[bT, bT, bF, bF, bF] (hy := (Or.inl ⟨by rfl, by rintro w' ⟨s0, s1, s2, s3, s4, s5, s6, s7, s8, s9⟩; go_simp; with_reducible rfl⟩)) (hS := hHeld) (h := ?_)
 refine one_ (i := 2) (N := some 71) #[bT, bT, bT, bF, bF] rfl rfl (by kernel_rfl) (by decide) (fun K hK => ?_)
 refine goes_ Tryz.func41 (by kernel_rfl) rfl #[.agg #[.bool n.up, .int .i64 n.term, .bool n.leads, .bool n.alone, .slice A n.ops.length c]] (by rfl) rfl rfl (by simp only [List.map_toArray, List.map_cons, List.map_nil]; rfl) ?_
 with_reducible refine (toNode_c (n := n) (c := c) (kOp_keep HC.out KW.out) HS.out.len).mono ?_
 rintro e w12 ⟨v, rfl, ho, hb⟩
 obtain ⟨Y, y, rfl, _, hCY⟩ := ho.reads
 clear ho
 replace KB := Lib.hid (KB.out.bel hb)
 replace KO := Lib.hid (KO.out.bel hb)
 replace Ks := Lib.hid (Ks.out.bel hb)
 replace B8 := Lib.hid (B8.out.bel hb)
 replace B9 := Lib.hid (B9.out.bel hb)
 replace Kx := Lib.hid (Kx.out.bel hb)
 replace Bx := Lib.hid (Bx.out.bel hb)
 replace Ky := Lib.hid (Ky.out.bel hb)
 replace By := Lib.hid (By.out.bel hb)
 replace Kg := Lib.hid (Kg.out.bel hb)
 replace Bg := Lib.hid (Bg.out.bel hb)
 replace Bm := Lib.hid (Bm.out.bel hb)
 replace KW := Lib.hid (Bel.tr KW.out hb)
 replace KZ := Lib.hid (Nat.le_trans KZ.out (Below.size hb))
 clear hb
 refine ⟨_, rfl, ?_⟩
 refine hK.out _ _ ⟨(blkn Bx.out 0 _ rfl), (blkn Bx.out 1 _ rfl), (blkn Bx.out 2 _ rfl), (blkn Bx.out 3 _ rfl), (blkn Bx.out 4 _ rfl), (blkn KB.out 0 _ rfl), (blkn KB.out 1 _ rfl), (blkn KB.out 2 _ rfl), (blkn KB.out 3 _ rfl), (blkn KB.out 4 _ rfl)⟩ (fun hHeld => ?_)
 clear hK K
 refine nox 71 (h := ?_)
 refine one_ (i := 3) (N := some 72) #[bT, bT, bT, bT, bF] rfl rfl (by kernel_rfl) (by decide) (fun K hK => ?_)
 refine goes_ Tryz.func44 (by kernel_rfl) rfl #[.agg #[.bool n.up, .int .i64 n.term, .bool n.leads, .bool n.alone, .slice Xv n.ops.length xv], .agg #[.bool n.up, .int .i64 n.term, .bool n.leads, .bool n.alone, .slice Y n.ops.length y]] (by rfl) rfl rfl (by simp only [List.map_toArray, List.map_cons, List.map_nil]; rfl) ?_
 with_reducible refine (eqNode_c (n := n) (Kx.out.own.innC rfl).2 hCY HS.out.len).mono ?_
 rintro e w13 ⟨rfl, hb⟩
 replace KB := Lib.hid (KB.out.bel hb)
 replace KO := Lib.hid (KO.out.bel hb)
 replace Ks := Lib.hid (Ks.out.bel hb)
 replace B8 := Lib.hid (B8.out.bel hb)
 replace B9 := Lib.hid (B9.out.bel hb)
 replace Kx := Lib.hid (Kx.out.bel hb)
 replace Bx := Lib.hid (Bx.out.bel hb)
 replace Ky := Lib.hid (Ky.out.bel hb)
 replace By := Lib.hid (By.out.bel hb)
 replace Kg := Lib.hid (Kg.out.bel hb)
 replace Bg := Lib.hid (Bg.out.bel hb)
 replace Bm := Lib.hid (Bm.out.bel hb)
 replace KW := Lib.hid (Bel.tr KW.out hb)
 replace KZ := Lib.hid (Nat.le_trans KZ.out (Below.size hb))
 clear hb
 refine ⟨_, rfl, ?_⟩
 refine hK.out _ _ ⟨(blkn Bx.out 0 _ rfl), (blkn Bx.out 1 _ rfl), (blkn Bx.out 2 _ rfl), (blkn Bx.out 3 _ rfl), (blkn Bx.out 4 _ rfl), (blkn KB.out 0 _ rfl), (blkn KB.out 1 _ rfl), (blkn KB.out 2 _ rfl), (blkn KB.out 3 _ rfl), (blkn KB.out 4 _ rfl)⟩ (fun hHeld => ?_)
 clear hK K
 refine nox 72 (h := ?_)
 refine ppx (i := 4) (N := some 73) #[bT, bT, bT, bT, bT] (h := ?_)
 refine done_ (by kernel_rfl) ?_
 clear hCY
 go_wp2
 have hb : Bel w13 w13.drew := (Below.refl _ _).drew
 replace KB := Lib.hid (KB.out.bel hb)
 replace KO := Lib.hid (KO.out.bel hb)
 replace Ks := Lib.hid (Ks.out.bel hb)
 replace B8 := Lib.hid (B8.out.bel hb)
 replace B9 := Lib.hid (B9.out.bel hb)
 replace Kx := Lib.hid (Kx.out.bel hb)
 replace Bx := Lib.hid (Bx.out.bel hb)
 replace Ky := Lib.hid (Ky.out.bel hb)
 replace By := Lib.hid (By.out.bel hb)
 replace Kg := Lib.hid (Kg.out.bel hb)
 replace Bg := Lib.hid (Bg.out.bel hb)
 replace Bm := Lib.hid (Bm.out.bel hb)
 replace KW := Lib.hid (Bel.tr KW.out hb)
 replace KZ := Lib.hid (Nat.le_trans KZ.out (Below.size hb))
 clear hb
 refine start_ (n := 5) (S := fun w' => w'.cell? ⟨by9, 0, none⟩ = some (.int .i64 m.kind) ∧ w'.cell? ⟨by9, 1, none⟩ = some (.int .i64 m.whom) ∧ w'.cell? ⟨by9, 2, none⟩ = some (.int .i64 m.term) ∧ w'.cell? ⟨by9, 3, none⟩ = some (.int .i64 m.n) ∧ w'.cell? ⟨by9, 4, none⟩ = some (.int .i64 m.op.kind) ∧ w'.cell? ⟨by9, 5, none⟩ = some (.string m.op.name) ∧ w'.cell? ⟨by9, 6, none⟩ = some (.string m.op.dest) ∧ w'.cell? ⟨by9, 7, none⟩ = some (.int .i64 m.op.n) ∧ w'.cell? ⟨by9, 8, none⟩ = some (.string m.op.text) ∧ w'.cell? ⟨by9, 9, none⟩ = some (.slice Yv m.ops.length yv) ∧ w'.cell? ⟨bko, 0, none⟩ = some (.int .i64 m.kind) ∧ w'.cell? ⟨bko, 1, none⟩ = some (.int .i64 m.whom) ∧ w'.cell? ⟨bko, 2, none⟩ = some (.int .i64 m.term) ∧ w'.cell? ⟨bko, 3, none⟩ = some (.int .i64 m.n) ∧ w'.cell? ⟨bko, 4, none⟩ = some (.int .i64 m.op.kind) ∧ w'.cell? ⟨bko, 5, none⟩ = some (.string m.op.name) ∧ w'.cell? ⟨bko, 6, none⟩ = some (.string m.op.dest) ∧ w'.cell? ⟨bko, 7, none⟩ = some (.int .i64 m.op.n) ∧ w'.cell? ⟨bko, 8, none⟩ = some (.string m.op.text) ∧ w'.cell? ⟨bko, 9, none⟩ = some (.slice B m.ops.length bc)) (ds := []) #[bF, bF, bF, bF, bF] (by kernel_rfl) rfl rfl ⟨(blkn By.out 0 _ rfl), (blkn By.out 1 _ rfl), (blkn By.out 2 _ rfl), (blkn By.out 3 _ rfl), (blkn By.out 4 _ rfl), (blkn By.out 5 _ rfl), (blkn By.out 6 _ rfl), (blkn By.out 7 _ rfl), (blkn By.out 8 _ rfl), (blkn By.out 9 _ rfl), (blkn KO.out 0 _ rfl), (blkn KO.out 1 _ rfl), (blkn KO.out 2 _ rfl), (blkn KO.out 3 _ rfl), (blkn KO.out 4 _ rfl), (blkn KO.out 5 _ rfl), (blkn KO.out 6 _ rfl), (blkn KO.out 7 _ rfl), (blkn KO.out 8 _ rfl), (blkn KO.out 9 _ rfl)⟩ (fun hHeld => ?_)
 refine tpx (i := 0) (N := some 74) #[bT, bF, bF, bF, bF] (hy := (Or.inl ⟨by rfl, by rintro w' ⟨s0, s1, s2, s3, s4, s5, s6, s7, s8, s9, s10, s11, s12, s13, s14, s15, s16, s17, s18, s19⟩; go_simp; with_reducible rfl⟩)) (hS := hHeld) (h := ?_)
 refine tpx (i := 1) (N := some 75) #[bT, bT, bF, bF, bF] (hy := (Or.inl ⟨by rfl, by rintro w' ⟨s0, s1, s2, s3, s4, s5, s6, s7, s8, s9, s10, s11, s12, s13, s14, s15, s16, s17, s18, s19⟩; go_simp; with_reducible rfl⟩)) (hS := hHeld) (h := ?_)
 refine one_ (i := 2) (N := some 76) #[bT, bT, bT, bF, bF] rfl rfl (by kernel_rfl) (by decide) (fun K hK => ?_)
 refine goes_ Tryz.func77 (by kernel_rfl) rfl #[.agg #[.int .i64 m.kind, .int .i64 m.whom, .int .i64 m.term, .int .i64 m.n, .int .i64 m.op.kind, .string m.op.name, .string m.op.dest, .int .i64 m.op.n, .string m.op.text, .slice B m.ops.length bc]] (by rfl) rfl rfl (by simp only [List.map_toArray, List.map_cons, List.map_nil]; rfl) ?_
 with_reducible refine (toMsg_c (m := m) (c := bc) (kOp_keep HDM.out KW.out) HSM.out.len).mono ?_
 rintro e w14 ⟨v, rfl, ho, hb⟩
 obtain ⟨Y2, y2, rfl, _, hCY⟩ := ho.reads
 clear ho
 replace KB := Lib.hid (KB.out.bel hb)
 replace KO := Lib.hid (KO.out.bel hb)
 replace Ks := Lib.hid (Ks.out.bel hb)
 replace B8 := Lib.hid (B8.out.bel hb)
 replace B9 := Lib.hid (B9.out.bel hb)
 replace Kx := Lib.hid (Kx.out.bel hb)
 replace Bx := Lib.hid (Bx.out.bel hb)
 replace Ky := Lib.hid (Ky.out.bel hb)
 replace By := Lib.hid (By.out.bel hb)
 replace Kg := Lib.hid (Kg.out.bel hb)
 replace Bg := Lib.hid (Bg.out.bel hb)
 replace Bm := Lib.hid (Bm.out.bel hb)
 replace KW := Lib.hid (Bel.tr KW.out hb)
 replace KZ := Lib.hid (Nat.le_trans KZ.out (Below.size hb))
 clear hb
 refine ⟨_, rfl, ?_⟩
 refine hK.out _ _ ⟨(blkn By.out 0 _ rfl), (blkn By.out 1 _ rfl), (blkn By.out 2 _ rfl), (blkn By.out 3 _ rfl), (blkn By.out 4 _ rfl), (blkn By.out 5 _ rfl), (blkn By.out 6 _ rfl), (blkn By.out 7 _ rfl), (blkn By.out 8 _ rfl), (blkn By.out 9 _ rfl), (blkn KO.out 0 _ rfl), (blkn KO.out 1 _ rfl), (blkn KO.out 2 _ rfl), (blkn KO.out 3 _ rfl), (blkn KO.out 4 _ rfl), (blkn KO.out 5 _ rfl), (blkn KO.out 6 _ rfl), (blkn KO.out 7 _ rfl), (blkn KO.out 8 _ rfl), (blkn KO.out 9 _ rfl)⟩ (fun hHeld => ?_)
 clear hK K
 refine nox 76 (h := ?_)
 refine one_ (i := 3) (N := some 77) #[bT, bT, bT, bT, bF] rfl rfl (by kernel_rfl) (by decide) (fun K hK => ?_)
 refine goes_ Tryz.func45 (by kernel_rfl) rfl #[.agg #[.int .i64 m.kind, .int .i64 m.whom, .int .i64 m.term, .int .i64 m.n, .int .i64 m.op.kind, .string m.op.name, .string m.op.dest, .int .i64 m.op.n, .string m.op.text, .slice Yv m.ops.length yv], .agg #[.int .i64 m.kind, .int .i64 m.whom, .int .i64 m.term, .int .i64 m.n, .int .i64 m.op.kind, .string m.op.name, .string m.op.dest, .int .i64 m.op.n, .string m.op.text, .slice Y2 m.ops.length y2]] (by rfl) rfl rfl (by simp only [List.map_toArray, List.map_cons, List.map_nil]; rfl) ?_
 with_reducible refine (eqMsg_c (m := m) (Ky.out.own.innC rfl).2 hCY HSM.out.len).mono ?_
 rintro e w15 ⟨rfl, hb⟩
 replace KB := Lib.hid (KB.out.bel hb)
 replace KO := Lib.hid (KO.out.bel hb)
 replace Ks := Lib.hid (Ks.out.bel hb)
 replace B8 := Lib.hid (B8.out.bel hb)
 replace B9 := Lib.hid (B9.out.bel hb)
 replace Kx := Lib.hid (Kx.out.bel hb)
 replace Bx := Lib.hid (Bx.out.bel hb)
 replace Ky := Lib.hid (Ky.out.bel hb)
 replace By := Lib.hid (By.out.bel hb)
 replace Kg := Lib.hid (Kg.out.bel hb)
 replace Bg := Lib.hid (Bg.out.bel hb)
 replace Bm := Lib.hid (Bm.out.bel hb)
 replace KW := Lib.hid (Bel.tr KW.out hb)
 replace KZ := Lib.hid (Nat.le_trans KZ.out (Below.size hb))
 clear hb
 refine ⟨_, rfl, ?_⟩
 refine hK.out _ _ ⟨(blkn By.out 0 _ rfl), (blkn By.out 1 _ rfl), (blkn By.out 2 _ rfl), (blkn By.out 3 _ rfl), (blkn By.out 4 _ rfl), (blkn By.out 5 _ rfl), (blkn By.out 6 _ rfl), (blkn By.out 7 _ rfl), (blkn By.out 8 _ rfl), (blkn By.out 9 _ rfl), (blkn KO.out 0 _ rfl), (blkn KO.out 1 _ rfl), (blkn KO.out 2 _ rfl), (blkn KO.out 3 _ rfl), (blkn KO.out 4 _ rfl), (blkn KO.out 5 _ rfl), (blkn KO.out 6 _ rfl), (blkn KO.out 7 _ rfl), (blkn KO.out 8 _ rfl), (blkn KO.out 9 _ rfl)⟩ (fun hHeld => ?_)
 clear hK K
 refine nox 77 (h := ?_)
 refine ppx (i := 4) (N := some 78) #[bT, bT, bT, bT, bT] (h := ?_)
 refine done_ (by kernel_rfl) ?_
 clear hCY
 have bx_0 : w15.cell? ⟨bx, 0, none⟩ = some (.bool n.up) := blkn Bx.out 0 _ rfl
 have bx_1 : w15.cell? ⟨bx, 1, none⟩ = some (.int .i64 n.term) := blkn Bx.out 1 _ rfl
 have bx_2 : w15.cell? ⟨bx, 2, none⟩ = some (.bool n.leads) := blkn Bx.out 2 _ rfl
 have bx_3 : w15.cell? ⟨bx, 3, none⟩ = some (.bool n.alone) := blkn Bx.out 3 _ rfl
 have bx_4 : w15.cell? ⟨bx, 4, none⟩ = some (.slice Xv n.ops.length xv) := blkn Bx.out 4 _ rfl
 have bx_y := Bx.out.lt
 go_wp2_with fail
 clear bx_0 bx_1 bx_2 bx_3 bx_4 bx_y
 refine (markNode_m (n := n) (k := 1) Kx.out.own HS.out.len (by omega) (by omega)).mono ?_
 rintro e w16 ⟨rfl, hmk⟩
 have KT := AtO.tail Kx.out
 have hg := hmk.2
 clear hmk
 replace KB := Lib.hid (KB.out.grown hg (blk_otherT KT.own KB.out (by decide)))
 replace KO := Lib.hid (KO.out.grown hg (blk_otherT KT.own KO.out (by decide)))
 replace Ks := Lib.hid (Ks.out.apart KT (by omega) hg)
 replace B8 := Lib.hid (B8.out.grown hg (blk_otherT KT.own B8.out (by decide)))
 replace B9 := Lib.hid (B9.out.grown hg (blk_otherT KT.own B9.out (by decide)))
 replace Bx := Lib.hid (Bx.out.grown hg (blk_otherT KT.own Bx.out (by decide)))
 replace Ky := Lib.hid (Ky.out.apart KT (by omega) hg)
 replace By := Lib.hid (By.out.grown hg (blk_otherT KT.own By.out (by decide)))
 replace Kg := Lib.hid (Kg.out.apart KT (by omega) hg)
 replace Bg := Lib.hid (Bg.out.grown hg (blk_otherT KT.own Bg.out (by decide)))
 replace Bm := Lib.hid (Bm.out.grown hg (blk_otherT KT.own Bm.out (by decide)))
 replace KW := Lib.hid (bel_grown KW.out KT (by omega) hg)
 replace KZ := Lib.hid (Nat.le_trans KZ.out hg.size)
 clear hg KT Kx
 have by_0 : w16.cell? ⟨by9, 0, none⟩ = some (.int .i64 m.kind) := blkn By.out 0 _ rfl
 have by_1 : w16.cell? ⟨by9, 1, none⟩ = some (.int .i64 m.whom) := blkn By.out 1 _ rfl
 have by_2 : w16.cell? ⟨by9, 2, none⟩ = some (.int .i64 m.term) := blkn By.out 2 _ rfl
 have by_3 : w16.cell? ⟨by9, 3, none⟩ = some (.int .i64 m.n) := blkn By.out 3 _ rfl
 have by_4 : w16.cell? ⟨by9, 4, none⟩ = some (.int .i64 m.op.kind) := blkn By.out 4 _ rfl
 have by_5 : w16.cell? ⟨by9, 5, none⟩ = some (.string m.op.name) := blkn By.out 5 _ rfl
 have by_6 : w16.cell? ⟨by9, 6, none⟩ = some (.string m.op.dest) := blkn By.out 6 _ rfl
 have by_7 : w16.cell? ⟨by9, 7, none⟩ = some (.int .i64 m.op.n) := blkn By.out 7 _ rfl
 have by_8 : w16.cell? ⟨by9, 8, none⟩ = some (.string m.op.text) := blkn By.out 8 _ rfl
 have by_9 : w16.cell? ⟨by9, 9, none⟩ = some (.slice Yv m.ops.length yv) := blkn By.out 9 _ rfl
 have by_y := By.out.lt
 go_wp2_with fail
 clear by_0 by_1 by_2 by_3 by_4 by_5 by_6 by_7 by_8 by_9 by_y
 refine (markMsg_m (m := m) Ky.out.own HSM.out.len (by omega) (by omega)).mono ?_
 rintro e w17 ⟨rfl, hmk⟩
 have KT := AtO.tail Ky.out
 have hg := hmk.2
 clear hmk
 replace KB := Lib.hid (KB.out.grown hg (blk_otherT KT.own KB.out (by decide)))
 replace KO := Lib.hid (KO.out.grown hg (blk_otherT KT.own KO.out (by decide)))
 replace Ks := Lib.hid (Ks.out.apart KT (by omega) hg)
 replace B8 := Lib.hid (B8.out.grown hg (blk_otherT KT.own B8.out (by decide)))
 replace B9 := Lib.hid (B9.out.grown hg (blk_otherT KT.own B9.out (by decide)))
 replace Bx := Lib.hid (Bx.out.grown hg (blk_otherT KT.own Bx.out (by decide)))
 replace By := Lib.hid (By.out.grown hg (blk_otherT KT.own By.out (by decide)))
 replace Kg := Lib.hid (Kg.out.apart KT (by omega) hg)
 replace Bg := Lib.hid (Bg.out.grown hg (blk_otherT KT.own Bg.out (by decide)))
 replace Bm := Lib.hid (Bm.out.grown hg (blk_otherT KT.own Bm.out (by decide)))
 replace KW := Lib.hid (bel_grown KW.out KT (by omega) hg)
 replace KZ := Lib.hid (Nat.le_trans KZ.out hg.size)
 clear hg KT Ky
 have hneg : ¬ ((1 : Int) + 5 * (n.ops.length : Int) + 5 * (m.ops.length : Int) < 0) := by omega
 have bg_0 : w17.cell? ⟨bg, 0, none⟩ = some (.bool xn.up) := blkn Bg.out 0 _ rfl
 have bg_1 : w17.cell? ⟨bg, 1, none⟩ = some (.int .i64 xn.term) := blkn Bg.out 1 _ rfl
 have bg_2 : w17.cell? ⟨bg, 2, none⟩ = some (.bool xn.leads) := blkn Bg.out 2 _ rfl
 have bg_3 : w17.cell? ⟨bg, 3, none⟩ = some (.bool xn.alone) := blkn Bg.out 3 _ rfl
 have bg_4 : w17.cell? ⟨bg, 4, none⟩ = some (.slice G xn.ops.length g) := blkn Bg.out 4 _ rfl
 have bg_y := Bg.out.lt
 have b8_0 : w17.cell? ⟨nb8, 0, none⟩ = some (.bool xn.up) := blkn B8.out 0 _ rfl
 have b8_1 : w17.cell? ⟨nb8, 1, none⟩ = some (.int .i64 xn.term) := blkn B8.out 1 _ rfl
 have b8_2 : w17.cell? ⟨nb8, 2, none⟩ = some (.bool xn.leads) := blkn B8.out 2 _ rfl
 have b8_3 : w17.cell? ⟨nb8, 3, none⟩ = some (.bool xn.alone) := blkn B8.out 3 _ rfl
 have b8_4 : w17.cell? ⟨nb8, 4, none⟩ = some (.slice E0 xn.ops.length f0) := blkn B8.out 4 _ rfl
 have b8_y := B8.out.lt
 go_wp2_with fail
 clear bg_0 bg_1 bg_2 bg_3 bg_4 bg_y
 clear b8_0 b8_1 b8_2 b8_3 b8_4 b8_y
 refine (eqNode_c (n := xn) (Kg.out.own.innC rfl).2 (Ks.out.inn rfl) hxl).mono ?_
 rintro e w18 ⟨rfl, hb⟩
 replace KB := Lib.hid (KB.out.bel hb)
 replace KO := Lib.hid (KO.out.bel hb)
 replace Ks := Lib.hid (Ks.out.bel hb)
 replace B8 := Lib.hid (B8.out.bel hb)
 replace B9 := Lib.hid (B9.out.bel hb)
 replace Bx := Lib.hid (Bx.out.bel hb)
 replace By := Lib.hid (By.out.bel hb)
 replace Kg := Lib.hid (Kg.out.bel hb)
 replace Bg := Lib.hid (Bg.out.bel hb)
 replace Bm := Lib.hid (Bm.out.bel hb)
 replace KW := Lib.hid (Bel.tr KW.out hb)
 replace KZ := Lib.hid (Nat.le_trans KZ.out (Below.size hb))
 clear hb
 have bm_0 : w18.cell? ⟨bm, 0, none⟩ = some (.int .i64 xm.kind) := blkn Bm.out 0 _ rfl
 have bm_1 : w18.cell? ⟨bm, 1, none⟩ = some (.int .i64 xm.whom) := blkn Bm.out 1 _ rfl
 have bm_2 : w18.cell? ⟨bm, 2, none⟩ = some (.int .i64 xm.term) := blkn Bm.out 2 _ rfl
 have bm_3 : w18.cell? ⟨bm, 3, none⟩ = some (.int .i64 xm.n) := blkn Bm.out 3 _ rfl
 have bm_4 : w18.cell? ⟨bm, 4, none⟩ = some (.int .i64 xm.op.kind) := blkn Bm.out 4 _ rfl
 have bm_5 : w18.cell? ⟨bm, 5, none⟩ = some (.string xm.op.name) := blkn Bm.out 5 _ rfl
 have bm_6 : w18.cell? ⟨bm, 6, none⟩ = some (.string xm.op.dest) := blkn Bm.out 6 _ rfl
 have bm_7 : w18.cell? ⟨bm, 7, none⟩ = some (.int .i64 xm.op.n) := blkn Bm.out 7 _ rfl
 have bm_8 : w18.cell? ⟨bm, 8, none⟩ = some (.string xm.op.text) := blkn Bm.out 8 _ rfl
 have bm_9 : w18.cell? ⟨bm, 9, none⟩ = some (.slice none 0 0) := blkn Bm.out 9 _ rfl
 have bm_y := Bm.out.lt
 have b9_0 : w18.cell? ⟨nb9, 0, none⟩ = some (.int .i64 xm.kind) := blkn B9.out 0 _ rfl
 have b9_1 : w18.cell? ⟨nb9, 1, none⟩ = some (.int .i64 xm.whom) := blkn B9.out 1 _ rfl
 have b9_2 : w18.cell? ⟨nb9, 2, none⟩ = some (.int .i64 xm.term) := blkn B9.out 2 _ rfl
 have b9_3 : w18.cell? ⟨nb9, 3, none⟩ = some (.int .i64 xm.n) := blkn B9.out 3 _ rfl
 have b9_4 : w18.cell? ⟨nb9, 4, none⟩ = some (.int .i64 xm.op.kind) := blkn B9.out 4 _ rfl
 have b9_5 : w18.cell? ⟨nb9, 5, none⟩ = some (.string xm.op.name) := blkn B9.out 5 _ rfl
 have b9_6 : w18.cell? ⟨nb9, 6, none⟩ = some (.string xm.op.dest) := blkn B9.out 6 _ rfl
 have b9_7 : w18.cell? ⟨nb9, 7, none⟩ = some (.int .i64 xm.op.n) := blkn B9.out 7 _ rfl
 have b9_8 : w18.cell? ⟨nb9, 8, none⟩ = some (.string xm.op.text) := blkn B9.out 8 _ rfl
 have b9_9 : w18.cell? ⟨nb9, 9, none⟩ = some (.slice none 0 0) := blkn B9.out 9 _ rfl
 have b9_y := B9.out.lt
 go_wp2_with fail
 clear bm_0 bm_1 bm_2 bm_3 bm_4 bm_5 bm_6 bm_7 bm_8 bm_9 bm_y
 clear b9_0 b9_1 b9_2 b9_3 b9_4 b9_5 b9_6 b9_7 b9_8 b9_9 b9_y
 refine (eqMsg0_c HM0.out).mono ?_
 rintro e w19 ⟨rfl, hb⟩
 replace KB := Lib.hid (KB.out.bel hb)
 replace KO := Lib.hid (KO.out.bel hb)
 replace Ks := Lib.hid (Ks.out.bel hb)
 replace B8 := Lib.hid (B8.out.bel hb)
 replace B9 := Lib.hid (B9.out.bel hb)
 replace Bx := Lib.hid (Bx.out.bel hb)
 replace By := Lib.hid (By.out.bel hb)
 replace Kg := Lib.hid (Kg.out.bel hb)
 replace Bg := Lib.hid (Bg.out.bel hb)
 replace Bm := Lib.hid (Bm.out.bel hb)
 replace KW := Lib.hid (Bel.tr KW.out hb)
 replace KZ := Lib.hid (Nat.le_trans KZ.out (Below.size hb))
 clear hb
 have bg_0 : w19.cell? ⟨bg, 0, none⟩ = some (.bool xn.up) := blkn Bg.out 0 _ rfl
 have bg_1 : w19.cell? ⟨bg, 1, none⟩ = some (.int .i64 xn.term) := blkn Bg.out 1 _ rfl
 have bg_2 : w19.cell? ⟨bg, 2, none⟩ = some (.bool xn.leads) := blkn Bg.out 2 _ rfl
 have bg_3 : w19.cell? ⟨bg, 3, none⟩ = some (.bool xn.alone) := blkn Bg.out 3 _ rfl
 have bg_4 : w19.cell? ⟨bg, 4, none⟩ = some (.slice G xn.ops.length g) := blkn Bg.out 4 _ rfl
 have bg_y := Bg.out.lt
 go_wp2_with fail
 clear bg_0 bg_1 bg_2 bg_3 bg_4 bg_y
 refine (markNode_m (n := xn) (k := 1) Kg.out.own hxl (by omega) (by omega)).mono ?_
 rintro e w20 ⟨rfl, ⟨⟨sg, hsl, hso, hsm⟩, hg⟩⟩
 have KT := AtO.tail Kg.out
 replace KB := Lib.hid (KB.out.grown hg (blk_otherT KT.own KB.out (by decide)))
 replace KO := Lib.hid (KO.out.grown hg (blk_otherT KT.own KO.out (by decide)))
 replace Ks := Lib.hid (Ks.out.apart KT (by omega) hg)
 replace B8 := Lib.hid (B8.out.grown hg (blk_otherT KT.own B8.out (by decide)))
 replace B9 := Lib.hid (B9.out.grown hg (blk_otherT KT.own B9.out (by decide)))
 replace Bx := Lib.hid (Bx.out.grown hg (blk_otherT KT.own Bx.out (by decide)))
 replace By := Lib.hid (By.out.grown hg (blk_otherT KT.own By.out (by decide)))
 replace Bg := Lib.hid (Bg.out.grown hg (blk_otherT KT.own Bg.out (by decide)))
 replace Bm := Lib.hid (Bm.out.grown hg (blk_otherT KT.own Bm.out (by decide)))
 replace KW := Lib.hid (bel_grown KW.out KT (by omega) hg)
 replace KZ := Lib.hid (Nat.le_trans KZ.out hg.size)
 replace Kg : Hid (AtO w20 s3 s4 (.slice G xn.ops.length g) sg) := Lib.hid ⟨hso, Kg.out.lt⟩
 have HSL := Lib.hid hsl
 have HMK := Lib.hid hsm
 clear hg KT hso hsl hsm
 have hneg2 : ¬ ((1 : Int) + 5 * (xn.ops.length : Int) < 0) := by omega
 have bm_0 : w20.cell? ⟨bm, 0, none⟩ = some (.int .i64 xm.kind) := blkn Bm.out 0 _ rfl
 have bm_1 : w20.cell? ⟨bm, 1, none⟩ = some (.int .i64 xm.whom) := blkn Bm.out 1 _ rfl
 have bm_2 : w20.cell? ⟨bm, 2, none⟩ = some (.int .i64 xm.term) := blkn Bm.out 2 _ rfl
 have bm_3 : w20.cell? ⟨bm, 3, none⟩ = some (.int .i64 xm.n) := blkn Bm.out 3 _ rfl
 have bm_4 : w20.cell? ⟨bm, 4, none⟩ = some (.int .i64 xm.op.kind) := blkn Bm.out 4 _ rfl
 have bm_5 : w20.cell? ⟨bm, 5, none⟩ = some (.string xm.op.name) := blkn Bm.out 5 _ rfl
 have bm_6 : w20.cell? ⟨bm, 6, none⟩ = some (.string xm.op.dest) := blkn Bm.out 6 _ rfl
 have bm_7 : w20.cell? ⟨bm, 7, none⟩ = some (.int .i64 xm.op.n) := blkn Bm.out 7 _ rfl
 have bm_8 : w20.cell? ⟨bm, 8, none⟩ = some (.string xm.op.text) := blkn Bm.out 8 _ rfl
 have bm_9 : w20.cell? ⟨bm, 9, none⟩ = some (.slice none 0 0) := blkn Bm.out 9 _ rfl
 have bm_y := Bm.out.lt
 go_wp2_with fail
 clear bm_0 bm_1 bm_2 bm_3 bm_4 bm_5 bm_6 bm_7 bm_8 bm_9 bm_y
 refine (markMsg0_c HM0.out (by omega) (by omega)).mono ?_
 rintro e w21 ⟨rfl, hb⟩
 replace KB := Lib.hid (KB.out.bel hb)
 replace KO := Lib.hid (KO.out.bel hb)
 replace Ks := Lib.hid (Ks.out.bel hb)
 replace B8 := Lib.hid (B8.out.bel hb)
 replace B9 := Lib.hid (B9.out.bel hb)
 replace Bx := Lib.hid (Bx.out.bel hb)
 replace By := Lib.hid (By.out.bel hb)
 replace Kg := Lib.hid (Kg.out.bel hb)
 replace Bg := Lib.hid (Bg.out.bel hb)
 replace Bm := Lib.hid (Bm.out.bel hb)
 replace KW := Lib.hid (Bel.tr KW.out hb)
 replace KZ := Lib.hid (Nat.le_trans KZ.out (Below.size hb))
 clear hb
 have bg_0 : w21.cell? ⟨bg, 0, none⟩ = some (.bool xn.up) := blkn Bg.out 0 _ rfl
 have bg_1 : w21.cell? ⟨bg, 1, none⟩ = some (.int .i64 xn.term) := blkn Bg.out 1 _ rfl
 have bg_2 : w21.cell? ⟨bg, 2, none⟩ = some (.bool xn.leads) := blkn Bg.out 2 _ rfl
 have bg_3 : w21.cell? ⟨bg, 3, none⟩ = some (.bool xn.alone) := blkn Bg.out 3 _ rfl
 have bg_4 : w21.cell? ⟨bg, 4, none⟩ = some (.slice G xn.ops.length g) := blkn Bg.out 4 _ rfl
 have bg_y := Bg.out.lt
 go_wp2_with fail
 clear bg_0 bg_1 bg_2 bg_3 bg_4 bg_y
 have hCg : kOp.C w21 G sg.length sg := by obtain ⟨A', c', e1, -, hC⟩ := Kg.out.own.reads; have e1 := slice_eq e1; obtain ⟨rfl, -, rfl⟩ := e1; exact hC
 refine (heldNode_c (n := xn) hCg HSL.out HMK.out (by have h := HSL.out; omega) (by omega) (by omega)).mono ?_
 rintro e w22 ⟨rfl, hb⟩
 clear hCg
 replace KB := Lib.hid (KB.out.bel hb)
 replace KO := Lib.hid (KO.out.bel hb)
 replace Ks := Lib.hid (Ks.out.bel hb)
 replace B8 := Lib.hid (B8.out.bel hb)
 replace B9 := Lib.hid (B9.out.bel hb)
 replace Bx := Lib.hid (Bx.out.bel hb)
 replace By := Lib.hid (By.out.bel hb)
 replace Kg := Lib.hid (Kg.out.bel hb)
 replace Bg := Lib.hid (Bg.out.bel hb)
 replace Bm := Lib.hid (Bm.out.bel hb)
 replace KW := Lib.hid (Bel.tr KW.out hb)
 replace KZ := Lib.hid (Nat.le_trans KZ.out (Below.size hb))
 clear hb
 have bm_0 : w22.cell? ⟨bm, 0, none⟩ = some (.int .i64 xm.kind) := blkn Bm.out 0 _ rfl
 have bm_1 : w22.cell? ⟨bm, 1, none⟩ = some (.int .i64 xm.whom) := blkn Bm.out 1 _ rfl
 have bm_2 : w22.cell? ⟨bm, 2, none⟩ = some (.int .i64 xm.term) := blkn Bm.out 2 _ rfl
 have bm_3 : w22.cell? ⟨bm, 3, none⟩ = some (.int .i64 xm.n) := blkn Bm.out 3 _ rfl
 have bm_4 : w22.cell? ⟨bm, 4, none⟩ = some (.int .i64 xm.op.kind) := blkn Bm.out 4 _ rfl
 have bm_5 : w22.cell? ⟨bm, 5, none⟩ = some (.string xm.op.name) := blkn Bm.out 5 _ rfl
 have bm_6 : w22.cell? ⟨bm, 6, none⟩ = some (.string xm.op.dest) := blkn Bm.out 6 _ rfl
 have bm_7 : w22.cell? ⟨bm, 7, none⟩ = some (.int .i64 xm.op.n) := blkn Bm.out 7 _ rfl
 have bm_8 : w22.cell? ⟨bm, 8, none⟩ = some (.string xm.op.text) := blkn Bm.out 8 _ rfl
 have bm_9 : w22.cell? ⟨bm, 9, none⟩ = some (.slice none 0 0) := blkn Bm.out 9 _ rfl
 have bm_y := Bm.out.lt
 go_wp2_with fail
 clear bm_0 bm_1 bm_2 bm_3 bm_4 bm_5 bm_6 bm_7 bm_8 bm_9 bm_y
 refine (heldMsg0_c HM0.out (by omega) (by omega)).mono ?_
 rintro e w23 ⟨rfl, hb⟩
 replace KB := Lib.hid (KB.out.bel hb)
 replace KO := Lib.hid (KO.out.bel hb)
 replace Ks := Lib.hid (Ks.out.bel hb)
 replace B8 := Lib.hid (B8.out.bel hb)
 replace B9 := Lib.hid (B9.out.bel hb)
 replace Bx := Lib.hid (Bx.out.bel hb)
 replace By := Lib.hid (By.out.bel hb)
 replace Kg := Lib.hid (Kg.out.bel hb)
 replace Bg := Lib.hid (Bg.out.bel hb)
 replace Bm := Lib.hid (Bm.out.bel hb)
 replace KW := Lib.hid (Bel.tr KW.out hb)
 replace KZ := Lib.hid (Nat.le_trans KZ.out (Below.size hb))
 clear hb
 go_wp2
 have hb : Bel w23 w23.drew := (Below.refl _ _).drew
 replace KB := Lib.hid (KB.out.bel hb)
 replace KO := Lib.hid (KO.out.bel hb)
 replace Ks := Lib.hid (Ks.out.bel hb)
 replace B8 := Lib.hid (B8.out.bel hb)
 replace B9 := Lib.hid (B9.out.bel hb)
 replace Bx := Lib.hid (Bx.out.bel hb)
 replace By := Lib.hid (By.out.bel hb)
 replace Kg := Lib.hid (Kg.out.bel hb)
 replace Bg := Lib.hid (Bg.out.bel hb)
 replace Bm := Lib.hid (Bm.out.bel hb)
 replace KW := Lib.hid (Bel.tr KW.out hb)
 replace KZ := Lib.hid (Nat.le_trans KZ.out (Below.size hb))
 clear hb
 have zl_KB := KB.out.lt
 have zl_KO := KO.out.lt
 have zl_B8 := B8.out.lt
 have zl_B9 := B9.out.lt
 have zl_Bx := Bx.out.lt
 have zl_By := By.out.lt
 have zl_Bg := Bg.out.lt
 have zl_Bm := Bm.out.lt
 have zw := Below.size KW.out
 have z_s5 := KZ.out
 have HSF := Lib.hid (fun (W9 : World) (gb : Bel w23.drew W9) => (⟨(blkn (KB.out.bel gb) 0 _ rfl), (blkn (KB.out.bel gb) 1 _ rfl), (blkn (KB.out.bel gb) 2 _ rfl), (blkn (KB.out.bel gb) 3 _ rfl), (blkn (KB.out.bel gb) 4 _ rfl), (blkn (KO.out.bel gb) 0 _ rfl), (blkn (KO.out.bel gb) 1 _ rfl), (blkn (KO.out.bel gb) 2 _ rfl), (blkn (KO.out.bel gb) 3 _ rfl), (blkn (KO.out.bel gb) 4 _ rfl), (blkn (KO.out.bel gb) 5 _ rfl), (blkn (KO.out.bel gb) 6 _ rfl), (blkn (KO.out.bel gb) 7 _ rfl), (blkn (KO.out.bel gb) 8 _ rfl), (blkn (KO.out.bel gb) 9 _ rfl)⟩ : W9.cell? ⟨bkl, 0, none⟩ = some (.bool n.up) ∧ W9.cell? ⟨bkl, 1, none⟩ = some (.int .i64 n.term) ∧ W9.cell? ⟨bkl, 2, none⟩ = some (.bool n.leads) ∧ W9.cell? ⟨bkl, 3, none⟩ = some (.bool n.alone) ∧ W9.cell? ⟨bkl, 4, none⟩ = some (.slice A n.ops.length c) ∧ W9.cell? ⟨bko, 0, none⟩ = some (.int .i64 m.kind) ∧ W9.cell? ⟨bko, 1, none⟩ = some (.int .i64 m.whom) ∧ W9.cell? ⟨bko, 2, none⟩ = some (.int .i64 m.term) ∧ W9.cell? ⟨bko, 3, none⟩ = some (.int .i64 m.n) ∧ W9.cell? ⟨bko, 4, none⟩ = some (.int .i64 m.op.kind) ∧ W9.cell? ⟨bko, 5, none⟩ = some (.string m.op.name) ∧ W9.cell? ⟨bko, 6, none⟩ = some (.string m.op.dest) ∧ W9.cell? ⟨bko, 7, none⟩ = some (.int .i64 m.op.n) ∧ W9.cell? ⟨bko, 8, none⟩ = some (.string m.op.text) ∧ W9.cell? ⟨bko, 9, none⟩ = some (.slice B m.ops.length bc)))
 refine start_ (n := 15) (S := fun w' => w'.cell? ⟨bkl, 0, none⟩ = some (.bool n.up) ∧ w'.cell? ⟨bkl, 1, none⟩ = some (.int .i64 n.term) ∧ w'.cell? ⟨bkl, 2, none⟩ = some (.bool n.leads) ∧ w'.cell? ⟨bkl, 3, none⟩ = some (.bool n.alone) ∧ w'.cell? ⟨bkl, 4, none⟩ = some (.slice A n.ops.length c) ∧ w'.cell? ⟨bko, 0, none⟩ = some (.int .i64 m.kind) ∧ w'.cell? ⟨bko, 1, none⟩ = some (.int .i64 m.whom) ∧ w'.cell? ⟨bko, 2, none⟩ = some (.int .i64 m.term) ∧ w'.cell? ⟨bko, 3, none⟩ = some (.int .i64 m.n) ∧ w'.cell? ⟨bko, 4, none⟩ = some (.int .i64 m.op.kind) ∧ w'.cell? ⟨bko, 5, none⟩ = some (.string m.op.name) ∧ w'.cell? ⟨bko, 6, none⟩ = some (.string m.op.dest) ∧ w'.cell? ⟨bko, 7, none⟩ = some (.int .i64 m.op.n) ∧ w'.cell? ⟨bko, 8, none⟩ = some (.string m.op.text) ∧ w'.cell? ⟨bko, 9, none⟩ = some (.slice B m.ops.length bc)) (ds := [12, 13]) #[bF, bF, bF, bF, bF, bF, bF, bF, bF, bF, bF, bF, bF, bF, bF] (by kernel_rfl) rfl rfl ⟨(blkn KB.out 0 _ rfl), (blkn KB.out 1 _ rfl), (blkn KB.out 2 _ rfl), (blkn KB.out 3 _ rfl), (blkn KB.out 4 _ rfl), (blkn KO.out 0 _ rfl), (blkn KO.out 1 _ rfl), (blkn KO.out 2 _ rfl), (blkn KO.out 3 _ rfl), (blkn KO.out 4 _ rfl), (blkn KO.out 5 _ rfl), (blkn KO.out 6 _ rfl), (blkn KO.out 7 _ rfl), (blkn KO.out 8 _ rfl), (blkn KO.out 9 _ rfl)⟩ (fun hHeld => ?_)
 refine ppx (i := 2) (N := some 126) #[bF, bF, bT, bF, bF, bF, bF, bF, bF, bF, bF, bF, bF, bF, bF] (h := ?_)
 refine tpx (i := 0) (N := some 124) #[bT, bF, bT, bF, bF, bF, bF, bF, bF, bF, bF, bF, bF, bF, bF] (hy := (Or.inl ⟨by rfl, by rintro w' ⟨s0, s1, s2, s3, s4, s5, s6, s7, s8, s9, s10, s11, s12, s13, s14⟩; go_simp; with_reducible rfl⟩)) (hS := hHeld) (h := ?_)
 refine tpx (i := 3) (N := some 127) #[bT, bF, bT, bT, bF, bF, bF, bF, bF, bF, bF, bF, bF, bF, bF] (hy := (Or.inl ⟨by rfl, by rintro w' ⟨s0, s1, s2, s3, s4, s5, s6, s7, s8, s9, s10, s11, s12, s13, s14⟩; go_simp; with_reducible rfl⟩)) (hS := hHeld) (h := ?_)
 refine join_ (σ := Option Addr × Nat × Option Addr × Nat × Option Addr × Nat × Nat × Nat) 3 #[bT, bT, bT, bT, bT, bT, bT, bT, bT, bT, bT, bT, bF, bF, bF] (fun s => [(125, .agg #[.bool n.up, .int .i64 n.term, .bool n.leads, .bool n.alone, .slice s.1 n.ops.length s.2.1]), (128, .agg #[.int .i64 m.kind, .int .i64 m.whom, .int .i64 m.term, .int .i64 m.n, .int .i64 m.op.kind, .string m.op.name, .string m.op.dest, .int .i64 m.op.n, .string m.op.text, .slice s.2.2.1 m.ops.length s.2.2.2.1]), (129, (tupR xn xm z s.2.2.2.2.1 s.2.2.2.2.2.1)), (123, (tupR xn xm z s.2.2.2.2.1 s.2.2.2.2.2.1)), (130, .agg #[.bool xn.up, .int .i64 xn.term, .bool xn.leads, .bool xn.alone, .slice s.2.2.2.2.1 xn.ops.length s.2.2.2.2.2.1]), (131, .agg #[.int .i64 xm.kind, .int .i64 xm.whom, .int .i64 xm.term, .int .i64 xm.n, .int .i64 xm.op.kind, .string xm.op.name, .string xm.op.dest, .int .i64 xm.op.n, .string xm.op.text, .slice none 0 0]), (132, .bool z), (19, .pointer (some ⟨s.2.2.2.2.2.2.1, 0, none⟩)), (20, .pointer (some ⟨s.2.2.2.2.2.2.2, 0, none⟩))]) (fun s w' => Bel w23.drew w' ∧ (kOp.C w' s.1 n.ops.length n.ops) ∧ (kOp.C w' s.2.2.1 m.ops.length m.ops) ∧ (OwnO w' w23.drew.heap.size (.slice s.2.2.2.2.1 xn.ops.length s.2.2.2.2.2.1) xn.ops) ∧ (Blk w' s.2.2.2.2.2.2.1 zN 25 ∧ w23.drew.heap.size ≤ s.2.2.2.2.2.2.1) ∧ (Blk w' s.2.2.2.2.2.2.2 zM 29 ∧ w23.drew.heap.size ≤ s.2.2.2.2.2.2.2) ∧ (s.2.2.2.2.2.2.1 ≠ s.2.2.2.2.2.2.2)) ?_ ?_
 rotate_left
 ·intro hJ1_4_5_10_11
  refine join_ (σ := Option Addr × Nat × Option Addr × Nat × Option Addr × Nat × Nat) 4 #[bT, bT, bT, bT, bT, bT, bT, bT, bT, bT, bT, bF, bF, bF, bF] (fun s => [(125, .agg #[.bool n.up, .int .i64 n.term, .bool n.leads, .bool n.alone, .slice s.1 n.ops.length s.2.1]), (128, .agg #[.int .i64 m.kind, .int .i64 m.whom, .int .i64 m.term, .int .i64 m.n, .int .i64 m.op.kind, .string m.op.name, .string m.op.dest, .int .i64 m.op.n, .string m.op.text, .slice s.2.2.1 m.ops.length s.2.2.2.1]), (129, (tupR xn xm z s.2.2.2.2.1 s.2.2.2.2.2.1)), (123, (tupR xn xm z s.2.2.2.2.1 s.2.2.2.2.2.1)), (130, .agg #[.bool xn.up, .int .i64 xn.term, .bool xn.leads, .bool xn.alone, .slice s.2.2.2.2.1 xn.ops.length s.2.2.2.2.2.1]), (131, .agg #[.int .i64 xm.kind, .int .i64 xm.whom, .int .i64 xm.term, .int .i64 xm.n, .int .i64 xm.op.kind, .string xm.op.name, .string xm.op.dest, .int .i64 xm.op.n, .string xm.op.text, .slice none 0 0]), (132, .bool z), (19, .pointer (some ⟨s.2.2.2.2.2.2, 0, none⟩))]) (fun s w' => Bel w23.drew w' ∧ (kOp.C w' s.1 n.ops.length n.ops) ∧ (kOp.C w' s.2.2.1 m.ops.length m.ops) ∧ (OwnO w' w23.drew.heap.size (.slice s.2.2.2.2.1 xn.ops.length s.2.2.2.2.2.1) xn.ops) ∧ (Blk w' s.2.2.2.2.2.2 zN 25 ∧ w23.drew.heap.size ≤ s.2.2.2.2.2.2)) ?_ ?_
  rotate_left
  ·intro hJ1_4_5_10
   refine join_ (σ := Option Addr × Nat × Option Addr × Nat × Option Addr × Nat × Nat) 4 #[bT, bT, bT, bT, bT, bT, bT, bT, bT, bT, bF, bT, bF, bF, bF] (fun s => [(125, .agg #[.bool n.up, .int .i64 n.term, .bool n.leads, .bool n.alone, .slice s.1 n.ops.length s.2.1]), (128, .agg #[.int .i64 m.kind, .int .i64 m.whom, .int .i64 m.term, .int .i64 m.n, .int .i64 m.op.kind, .string m.op.name, .string m.op.dest, .int .i64 m.op.n, .string m.op.text, .slice s.2.2.1 m.ops.length s.2.2.2.1]), (129, (tupR xn xm z s.2.2.2.2.1 s.2.2.2.2.2.1)), (123, (tupR xn xm z s.2.2.2.2.1 s.2.2.2.2.2.1)), (130, .agg #[.bool xn.up, .int .i64 xn.term, .bool xn.leads, .bool xn.alone, .slice s.2.2.2.2.1 xn.ops.length s.2.2.2.2.2.1]), (131, .agg #[.int .i64 xm.kind, .int .i64 xm.whom, .int .i64 xm.term, .int .i64 xm.n, .int .i64 xm.op.kind, .string xm.op.name, .string xm.op.dest, .int .i64 xm.op.n, .string xm.op.text, .slice none 0 0]), (132, .bool z), (20, .pointer (some ⟨s.2.2.2.2.2.2, 0, none⟩))]) (fun s w' => Bel w23.drew w' ∧ (kOp.C w' s.1 n.ops.length n.ops) ∧ (kOp.C w' s.2.2.1 m.ops.length m.ops) ∧ (OwnO w' w23.drew.heap.size (.slice s.2.2.2.2.1 xn.ops.length s.2.2.2.2.2.1) xn.ops) ∧ (Blk w' s.2.2.2.2.2.2 zM 29 ∧ w23.drew.heap.size ≤ s.2.2.2.2.2.2)) ?_ ?_
   rotate_left
   ·intro hJ1_4_5_11
    refine join_ (σ := Option Addr × Nat × Option Addr × Nat × Nat × Nat) 8 #[bT, bT, bT, bT, bT, bF, bF, bF, bF, bF, bT, bT, bF, bF, bF] (fun s => [(125, .agg #[.bool n.up, .int .i64 n.term, .bool n.leads, .bool n.alone, .slice s.1 n.ops.length s.2.1]), (128, .agg #[.int .i64 m.kind, .int .i64 m.whom, .int .i64 m.term, .int .i64 m.n, .int .i64 m.op.kind, .string m.op.name, .string m.op.dest, .int .i64 m.op.n, .string m.op.text, .slice s.2.2.1 m.ops.length s.2.2.2.1]), (19, .pointer (some ⟨s.2.2.2.2.1, 0, none⟩)), (20, .pointer (some ⟨s.2.2.2.2.2, 0, none⟩))]) (fun s w' => Bel w23.drew w' ∧ (kOp.C w' s.1 n.ops.length n.ops) ∧ (kOp.C w' s.2.2.1 m.ops.length m.ops) ∧ (Blk w' s.2.2.2.2.1 zN 25 ∧ w23.drew.heap.size ≤ s.2.2.2.2.1) ∧ (Blk w' s.2.2.2.2.2 zM 29 ∧ w23.drew.heap.size ≤ s.2.2.2.2.2) ∧ (s.2.2.2.2.1 ≠ s.2.2.2.2.2)) ?_ ?_
    rotate_left
    ·intro hJ1_4_10_11
     refine join_ (σ := Option Addr × Nat × Option Addr × Nat × Option Addr × Nat) 5 #[bT, bT, bT, bT, bT, bT, bT, bT, bT, bT, bF, bF, bF, bF, bF] (fun s => [(125, .agg #[.bool n.up, .int .i64 n.term, .bool n.leads, .bool n.alone, .slice s.1 n.ops.length s.2.1]), (128, .agg #[.int .i64 m.kind, .int .i64 m.whom, .int .i64 m.term, .int .i64 m.n, .int .i64 m.op.kind, .string m.op.name, .string m.op.dest, .int .i64 m.op.n, .string m.op.text, .slice s.2.2.1 m.ops.length s.2.2.2.1]), (129, (tupR xn xm z s.2.2.2.2.1 s.2.2.2.2.2)), (123, (tupR xn xm z s.2.2.2.2.1 s.2.2.2.2.2)), (130, .agg #[.bool xn.up, .int .i64 xn.term, .bool xn.leads, .bool xn.alone, .slice s.2.2.2.2.1 xn.ops.length s.2.2.2.2.2]), (131, .agg #[.int .i64 xm.kind, .int .i64 xm.whom, .int .i64 xm.term, .int .i64 xm.n, .int .i64 xm.op.kind, .string xm.op.name, .string xm.op.dest, .int .i64 xm.op.n, .string xm.op.text, .slice none 0 0]), (132, .bool z)]) (fun s w' => Bel w23.drew w' ∧ (kOp.C w' s.1 n.ops.length n.ops) ∧ (kOp.C w' s.2.2.1 m.ops.length m.ops) ∧ (OwnO w' w23.drew.heap.size (.slice s.2.2.2.2.1 xn.ops.length s.2.2.2.2.2) xn.ops)) ?_ ?_
     rotate_left
     ·intro hJ1_4_5
      refine join_ (σ := Option Addr × Nat × Option Addr × Nat × Nat) 9 #[bT, bT, bT, bT, bT, bF, bF, bF, bF, bF, bT, bF, bF, bF, bF] (fun s => [(125, .agg #[.bool n.up, .int .i64 n.term, .bool n.leads, .bool n.alone, .slice s.1 n.ops.length s.2.1]), (128, .agg #[.int .i64 m.kind, .int .i64 m.whom, .int .i64 m.term, .int .i64 m.n, .int .i64 m.op.kind, .string m.op.name, .string m.op.dest, .int .i64 m.op.n, .string m.op.text, .slice s.2.2.1 m.ops.length s.2.2.2.1]), (19, .pointer (some ⟨s.2.2.2.2, 0, none⟩))]) (fun s w' => Bel w23.drew w' ∧ (kOp.C w' s.1 n.ops.length n.ops) ∧ (kOp.C w' s.2.2.1 m.ops.length m.ops) ∧ (Blk w' s.2.2.2.2 zN 25 ∧ w23.drew.heap.size ≤ s.2.2.2.2)) ?_ ?_
      rotate_left
      ·intro hJ1_4_10
       refine join_ (σ := Option Addr × Nat × Option Addr × Nat × Nat) 9 #[bT, bT, bT, bT, bT, bF, bF, bF, bF, bF, bF, bT, bF, bF, bF] (fun s => [(125, .agg #[.bool n.up, .int .i64 n.term, .bool n.leads, .bool n.alone, .slice s.1 n.ops.length s.2.1]), (128, .agg #[.int .i64 m.kind, .int .i64 m.whom, .int .i64 m.term, .int .i64 m.n, .int .i64 m.op.kind, .string m.op.name, .string m.op.dest, .int .i64 m.op.n, .string m.op.text, .slice s.2.2.1 m.ops.length s.2.2.2.1]), (20, .pointer (some ⟨s.2.2.2.2, 0, none⟩))]) (fun s w' => Bel w23.drew w' ∧ (kOp.C w' s.1 n.ops.length n.ops) ∧ (kOp.C w' s.2.2.1 m.ops.length m.ops) ∧ (Blk w' s.2.2.2.2 zM 29 ∧ w23.drew.heap.size ≤ s.2.2.2.2)) ?_ ?_
       rotate_left
       ·intro hJ1_4_11
        refine join_ (σ := Option Addr × Nat × Nat × Nat) 9 #[bT, bT, bT, bT, bF, bF, bF, bF, bF, bF, bT, bT, bF, bF, bF] (fun s => [(125, .agg #[.bool n.up, .int .i64 n.term, .bool n.leads, .bool n.alone, .slice s.1 n.ops.length s.2.1]), (19, .pointer (some ⟨s.2.2.1, 0, none⟩)), (20, .pointer (some ⟨s.2.2.2, 0, none⟩))]) (fun s w' => Bel w23.drew w' ∧ (kOp.C w' s.1 n.ops.length n.ops) ∧ (Blk w' s.2.2.1 zN 25 ∧ w23.drew.heap.size ≤ s.2.2.1) ∧ (Blk w' s.2.2.2 zM 29 ∧ w23.drew.heap.size ≤ s.2.2.2) ∧ (s.2.2.1 ≠ s.2.2.2)) ?_ ?_
        rotate_left
        ·intro hJ1_10_11
         refine join_ (σ := Option Addr × Nat × Option Addr × Nat) 10 #[bT, bT, bT, bT, bT, bF, bF, bF, bF, bF, bF, bF, bF, bF, bF] (fun s => [(125, .agg #[.bool n.up, .int .i64 n.term, .bool n.leads, .bool n.alone, .slice s.1 n.ops.length s.2.1]), (128, .agg #[.int .i64 m.kind, .int .i64 m.whom, .int .i64 m.term, .int .i64 m.n, .int .i64 m.op.kind, .string m.op.name, .string m.op.dest, .int .i64 m.op.n, .string m.op.text, .slice s.2.2.1 m.ops.length s.2.2.2])]) (fun s w' => Bel w23.drew w' ∧ (kOp.C w' s.1 n.ops.length n.ops) ∧ (kOp.C w' s.2.2.1 m.ops.length m.ops)) ?_ ?_
         rotate_left
         ·intro hJ1_4
          refine join_ (σ := Option Addr × Nat × Nat) 10 #[bT, bT, bT, bT, bF, bF, bF, bF, bF, bF, bT, bF, bF, bF, bF] (fun s => [(125, .agg #[.bool n.up, .int .i64 n.term, .bool n.leads, .bool n.alone, .slice s.1 n.ops.length s.2.1]), (19, .pointer (some ⟨s.2.2, 0, none⟩))]) (fun s w' => Bel w23.drew w' ∧ (kOp.C w' s.1 n.ops.length n.ops) ∧ (Blk w' s.2.2 zN 25 ∧ w23.drew.heap.size ≤ s.2.2)) ?_ ?_
          rotate_left
          ·intro hJ1_10
           refine join_ (σ := Option Addr × Nat × Nat) 10 #[bT, bT, bT, bT, bF, bF, bF, bF, bF, bF, bF, bT, bF, bF, bF] (fun s => [(125, .agg #[.bool n.up, .int .i64 n.term, .bool n.leads, .bool n.alone, .slice s.1 n.ops.length s.2.1]), (20, .pointer (some ⟨s.2.2, 0, none⟩))]) (fun s w' => Bel w23.drew w' ∧ (kOp.C w' s.1 n.ops.length n.ops) ∧ (Blk w' s.2.2 zM 29 ∧ w23.drew.heap.size ≤ s.2.2)) ?_ ?_
           rotate_left
           ·intro hJ1_11
            refine join_ (σ := Nat × Nat) 10 #[bT, bF, bT, bT, bF, bF, bF, bF, bF, bF, bT, bT, bF, bF, bF] (fun s => [(19, .pointer (some ⟨s.1, 0, none⟩)), (20, .pointer (some ⟨s.2, 0, none⟩))]) (fun s w' => Bel w23.drew w' ∧ (Blk w' s.1 zN 25 ∧ w23.drew.heap.size ≤ s.1) ∧ (Blk w' s.2 zM 29 ∧ w23.drew.heap.size ≤ s.2) ∧ (s.1 ≠ s.2)) ?_ ?_
            rotate_left
            ·intro hJ10_11
             refine join_ (σ := Option Addr × Nat) 11 #[bT, bT, bT, bT, bF, bF, bF, bF, bF, bF, bF, bF, bF, bF, bF] (fun s => [(125, .agg #[.bool n.up, .int .i64 n.term, .bool n.leads, .bool n.alone, .slice s.1 n.ops.length s.2])]) (fun s w' => Bel w23.drew w' ∧ (kOp.C w' s.1 n.ops.length n.ops)) ?_ ?_
             rotate_left
             ·intro hJ1
              refine join_ (σ := Nat) 11 #[bT, bF, bT, bT, bF, bF, bF, bF, bF, bF, bT, bF, bF, bF, bF] (fun s => [(19, .pointer (some ⟨s, 0, none⟩))]) (fun s w' => Bel w23.drew w' ∧ (Blk w' s zN 25 ∧ w23.drew.heap.size ≤ s)) ?_ ?_
              rotate_left
              ·intro hJ10
               refine join_ (σ := Nat) 11 #[bT, bF, bT, bT, bF, bF, bF, bF, bF, bF, bF, bT, bF, bF, bF] (fun s => [(20, .pointer (some ⟨s, 0, none⟩))]) (fun s w' => Bel w23.drew w' ∧ (Blk w' s zM 29 ∧ w23.drew.heap.size ≤ s)) ?_ ?_
               rotate_left
               ·intro hJ11
                refine three_ (i := 1) (j := 10) (k := 11) (Ni := some 125) (Nj := some 19) (Nk := some 20) #[bT, bT, bT, bT, bF, bF, bF, bF, bF, bF, bF, bF, bF, bF, bF] #[bT, bF, bT, bT, bF, bF, bF, bF, bF, bF, bT, bF, bF, bF, bF] #[bT, bF, bT, bT, bF, bF, bF, bF, bF, bF, bF, bT, bF, bF, bF] rfl rfl rfl rfl rfl rfl (by kernel_rfl) (by decide) (by decide) (by decide) (fun K hK => ?_) (fun K hK => ?_) (fun K hK => ?_)
                ·skip
                 refine goes_ Tryz.func41 (by kernel_rfl) rfl #[.agg #[.bool n.up, .int .i64 n.term, .bool n.leads, .bool n.alone, .slice A n.ops.length c]] (by rfl) rfl rfl (by simp only [List.map_toArray, List.map_cons, List.map_nil]; rfl) ?_
                 with_reducible refine (toNode_c (n := n) (c := c) (kOp_keep HC.out (Bel.tr KW.out (Below.refl _ _ : Bel w23.drew w23.drew))) HS.out.len).mono ?_
                 rintro e wn ⟨v, rfl, hoo, hbN⟩
                 obtain ⟨Ya, ya, rfl, -, hX1⟩ := hoo.reads
                 have gn1 := Lib.hid hX1
                 clear hoo hX1
                 have gb := Lib.hid (Below.trans (Below.refl _ _ : Bel w23.drew w23.drew) (Below.mono hbN (Below.size (Below.refl _ _ : Bel w23.drew w23.drew))))
                 clear hbN
                 refine ⟨_, rfl, ?_⟩
                 refine hK.out _ _ (HSF.out _ gb.out) (fun hHeld => ?_)
                 clear hK K
                 refine nox 125 (h := ?_)
                 exact nof (hJ1 (Ya, ya) _ ⟨gb.out, gn1.out⟩)
                ·skip
                 refine value_ (by rfl) rfl (by go_simp; constructor <;> rfl) ?_
                 have hbN : Bel w23.drew (w23.alloc (.cells zN 25)).drew := bel_alloc (Below.refl _ _) _
                 have gb := Lib.hid (Below.trans (Below.refl _ _ : Bel w23.drew w23.drew) (Below.mono hbN (Below.size (Below.refl _ _ : Bel w23.drew w23.drew))))
                 have gnb18 : Hid (Blk (w23.alloc (.cells zN 25)).drew w23.heap.size zN 25 ∧ w23.drew.heap.size ≤ w23.heap.size) := Lib.hid ⟨Blk.new _ _ _, Nat.le_refl _⟩
                 clear hbN
                 refine hK.out _ _ (HSF.out _ gb.out) (fun hHeld => ?_)
                 clear hK K
                 refine nox 19 (h := ?_)
                 exact nof (hJ10 (w23.heap.size) _ ⟨gb.out, gnb18.out⟩)
                ·skip
                 refine value_ (by rfl) rfl (by go_simp; constructor <;> rfl) ?_
                 have hbN : Bel w23.drew (w23.alloc (.cells zM 29)).drew := bel_alloc (Below.refl _ _) _
                 have gb := Lib.hid (Below.trans (Below.refl _ _ : Bel w23.drew w23.drew) (Below.mono hbN (Below.size (Below.refl _ _ : Bel w23.drew w23.drew))))
                 have gnb19 : Hid (Blk (w23.alloc (.cells zM 29)).drew w23.heap.size zM 29 ∧ w23.drew.heap.size ≤ w23.heap.size) := Lib.hid ⟨Blk.new _ _ _, Nat.le_refl _⟩
                 clear hbN
                 refine hK.out _ _ (HSF.out _ gb.out) (fun hHeld => ?_)
                 clear hK K
                 refine nox 20 (h := ?_)
                 exact nof (hJ11 (w23.heap.size) _ ⟨gb.out, gnb19.out⟩)
               ·skip
                rintro nb19 wc ⟨hb, hnb19⟩
                try dsimp only at hnb19
                have hb := Lib.hid hb
                have fnb19 := Lib.hid hnb19
                clear hnb19
                refine norm_ (a' := ?_) ?_ ?_
                rotate_left
                ·simp only [putAll, Act.put, lA, lB, lC]
                 rfl
                refine two_ (i := 1) (j := 10) (Ni := some 125) (Nj := some 19) #[bT, bT, bT, bT, bF, bF, bF, bF, bF, bF, bF, bT, bF, bF, bF] #[bT, bF, bT, bT, bF, bF, bF, bF, bF, bF, bT, bT, bF, bF, bF] rfl rfl rfl rfl (by kernel_rfl) (by decide) (by decide) (fun K hK => ?_) (fun K hK => ?_)
                ·skip
                 refine goes_ Tryz.func41 (by kernel_rfl) rfl #[.agg #[.bool n.up, .int .i64 n.term, .bool n.leads, .bool n.alone, .slice A n.ops.length c]] (by rfl) rfl rfl (by simp only [List.map_toArray, List.map_cons, List.map_nil]; rfl) ?_
                 with_reducible refine (toNode_c (n := n) (c := c) (kOp_keep HC.out (Bel.tr KW.out hb.out)) HS.out.len).mono ?_
                 rintro e wn ⟨v, rfl, hoo, hbN⟩
                 obtain ⟨Ya, ya, rfl, -, hX1⟩ := hoo.reads
                 have gn1 := Lib.hid hX1
                 clear hoo hX1
                 have gb := Lib.hid (Below.trans hb.out (Below.mono hbN (Below.size hb.out)))
                 have gnb19 := Lib.hid ((And.intro (fnb19.out.1.bel hbN) fnb19.out.2))
                 clear hbN
                 refine ⟨_, rfl, ?_⟩
                 refine hK.out _ _ (HSF.out _ gb.out) (fun hHeld => ?_)
                 clear hK K
                 refine nox 125 (h := ?_)
                 exact nof (hJ1_11 (Ya, ya, nb19) _ ⟨gb.out, gn1.out, gnb19.out⟩)
                ·skip
                 refine value_ (by rfl) rfl (by go_simp; constructor <;> rfl) ?_
                 have hbN : Bel wc (wc.alloc (.cells zN 25)) := bel_alloc (Below.refl _ _) _
                 have gb := Lib.hid (Below.trans hb.out (Below.mono hbN (Below.size hb.out)))
                 have gnb19 := Lib.hid ((And.intro (fnb19.out.1.bel hbN) fnb19.out.2))
                 have gnb18 : Hid (Blk (wc.alloc (.cells zN 25)) wc.heap.size zN 25 ∧ w23.drew.heap.size ≤ wc.heap.size) := Lib.hid ⟨Blk.new _ _ _, Below.size hb.out⟩
                 have gne : Hid (wc.heap.size ≠ nb19) := Lib.hid (Nat.ne_of_gt fnb19.out.1.lt)
                 clear hbN
                 refine hK.out _ _ (HSF.out _ gb.out) (fun hHeld => ?_)
                 clear hK K
                 refine nox 19 (h := ?_)
                 exact nof (hJ10_11 (wc.heap.size, nb19) _ ⟨gb.out, gnb18.out, gnb19.out, gne.out⟩)
              ·skip
               rintro nb18 wc ⟨hb, hnb18⟩
               try dsimp only at hnb18
               have hb := Lib.hid hb
               have fnb18 := Lib.hid hnb18
               clear hnb18
               refine norm_ (a' := ?_) ?_ ?_
               rotate_left
               ·simp only [putAll, Act.put, lA, lB, lC]
                rfl
               refine two_ (i := 1) (j := 11) (Ni := some 125) (Nj := some 20) #[bT, bT, bT, bT, bF, bF, bF, bF, bF, bF, bT, bF, bF, bF, bF] #[bT, bF, bT, bT, bF, bF, bF, bF, bF, bF, bT, bT, bF, bF, bF] rfl rfl rfl rfl (by kernel_rfl) (by decide) (by decide) (fun K hK => ?_) (fun K hK => ?_)
               ·skip
                refine goes_ Tryz.func41 (by kernel_rfl) rfl #[.agg #[.bool n.up, .int .i64 n.term, .bool n.leads, .bool n.alone, .slice A n.ops.length c]] (by rfl) rfl rfl (by simp only [List.map_toArray, List.map_cons, List.map_nil]; rfl) ?_
                with_reducible refine (toNode_c (n := n) (c := c) (kOp_keep HC.out (Bel.tr KW.out hb.out)) HS.out.len).mono ?_
                rintro e wn ⟨v, rfl, hoo, hbN⟩
                obtain ⟨Ya, ya, rfl, -, hX1⟩ := hoo.reads
                have gn1 := Lib.hid hX1
                clear hoo hX1
                have gb := Lib.hid (Below.trans hb.out (Below.mono hbN (Below.size hb.out)))
                have gnb18 := Lib.hid ((And.intro (fnb18.out.1.bel hbN) fnb18.out.2))
                clear hbN
                refine ⟨_, rfl, ?_⟩
                refine hK.out _ _ (HSF.out _ gb.out) (fun hHeld => ?_)
                clear hK K
                refine nox 125 (h := ?_)
                exact nof (hJ1_10 (Ya, ya, nb18) _ ⟨gb.out, gn1.out, gnb18.out⟩)
               ·skip
                refine value_ (by rfl) rfl (by go_simp; constructor <;> rfl) ?_
                have hbN : Bel wc (wc.alloc (.cells zM 29)) := bel_alloc (Below.refl _ _) _
                have gb := Lib.hid (Below.trans hb.out (Below.mono hbN (Below.size hb.out)))
                have gnb18 := Lib.hid ((And.intro (fnb18.out.1.bel hbN) fnb18.out.2))
                have gnb19 : Hid (Blk (wc.alloc (.cells zM 29)) wc.heap.size zM 29 ∧ w23.drew.heap.size ≤ wc.heap.size) := Lib.hid ⟨Blk.new _ _ _, Below.size hb.out⟩
                have gne : Hid (nb18 ≠ wc.heap.size) := Lib.hid (Nat.ne_of_lt fnb18.out.1.lt)
                clear hbN
                refine hK.out _ _ (HSF.out _ gb.out) (fun hHeld => ?_)
                clear hK K
                refine nox 20 (h := ?_)
                exact nof (hJ10_11 (nb18, wc.heap.size) _ ⟨gb.out, gnb18.out, gnb19.out, gne.out⟩)
             ·skip
              rintro ⟨Ya, ya⟩ wc ⟨hb, hn1⟩
              try dsimp only at hn1
              have hb := Lib.hid hb
              have fn1 := Lib.hid hn1
              clear hn1
              refine norm_ (a' := ?_) ?_ ?_
              rotate_left
              ·simp only [putAll, Act.put, lA, lB, lC]
               rfl
              refine three_ (i := 4) (j := 10) (k := 11) (Ni := some 128) (Nj := some 19) (Nk := some 20) #[bT, bT, bT, bT, bT, bF, bF, bF, bF, bF, bF, bF, bF, bF, bF] #[bT, bT, bT, bT, bF, bF, bF, bF, bF, bF, bT, bF, bF, bF, bF] #[bT, bT, bT, bT, bF, bF, bF, bF, bF, bF, bF, bT, bF, bF, bF] rfl rfl rfl rfl rfl rfl (by kernel_rfl) (by decide) (by decide) (by decide) (fun K hK => ?_) (fun K hK => ?_) (fun K hK => ?_)
              ·skip
               refine goes_ Tryz.func77 (by kernel_rfl) rfl #[.agg #[.int .i64 m.kind, .int .i64 m.whom, .int .i64 m.term, .int .i64 m.n, .int .i64 m.op.kind, .string m.op.name, .string m.op.dest, .int .i64 m.op.n, .string m.op.text, .slice B m.ops.length bc]] (by rfl) rfl rfl (by simp only [List.map_toArray, List.map_cons, List.map_nil]; rfl) ?_
               with_reducible refine (toMsg_c (m := m) (c := bc) (kOp_keep HDM.out (Bel.tr KW.out hb.out)) HSM.out.len).mono ?_
               rintro e wn ⟨v, rfl, hoo, hbN⟩
               obtain ⟨Mb, mb, rfl, -, hX1⟩ := hoo.reads
               have gm1 := Lib.hid hX1
               clear hoo hX1
               have gb := Lib.hid (Below.trans hb.out (Below.mono hbN (Below.size hb.out)))
               have gn1 := Lib.hid (kOp_keep fn1.out hbN)
               clear hbN
               refine ⟨_, rfl, ?_⟩
               refine hK.out _ _ (HSF.out _ gb.out) (fun hHeld => ?_)
               clear hK K
               refine nox 128 (h := ?_)
               exact nof (hJ1_4 (Ya, ya, Mb, mb) _ ⟨gb.out, gn1.out, gm1.out⟩)
              ·skip
               refine value_ (by rfl) rfl (by go_simp; constructor <;> rfl) ?_
               have hbN : Bel wc (wc.alloc (.cells zN 25)) := bel_alloc (Below.refl _ _) _
               have gb := Lib.hid (Below.trans hb.out (Below.mono hbN (Below.size hb.out)))
               have gn1 := Lib.hid (kOp_keep fn1.out hbN)
               have gnb18 : Hid (Blk (wc.alloc (.cells zN 25)) wc.heap.size zN 25 ∧ w23.drew.heap.size ≤ wc.heap.size) := Lib.hid ⟨Blk.new _ _ _, Below.size hb.out⟩
               clear hbN
               refine hK.out _ _ (HSF.out _ gb.out) (fun hHeld => ?_)
               clear hK K
               refine nox 19 (h := ?_)
               exact nof (hJ1_10 (Ya, ya, wc.heap.size) _ ⟨gb.out, gn1.out, gnb18.out⟩)
              ·skip
               refine value_ (by rfl) rfl (by go_simp; constructor <;> rfl) ?_
               have hbN : Bel wc (wc.alloc (.cells zM 29)) := bel_alloc (Below.refl _ _) _
               have gb := Lib.hid (Below.trans hb.out (Below.mono hbN (Below.size hb.out)))
               have gn1 := Lib.hid (kOp_keep fn1.out hbN)
               have gnb19 : Hid (Blk (wc.alloc (.cells zM 29)) wc.heap.size zM 29 ∧ w23.drew.heap.size ≤ wc.heap.size) := Lib.hid ⟨Blk.new _ _ _, Below.size hb.out⟩
               clear hbN
               refine hK.out _ _ (HSF.out _ gb.out) (fun hHeld => ?_)
               clear hK K
               refine nox 20 (h := ?_)
               exact nof (hJ1_11 (Ya, ya, wc.heap.size) _ ⟨gb.out, gn1.out, gnb19.out⟩)
            ·skip
             rintro ⟨nb18, nb19⟩ wc ⟨hb, hnb18, hnb19, hne⟩
             try dsimp only at hnb18
             try dsimp only at hnb19
             try dsimp only at hne
             have hb := Lib.hid hb
             have fnb18 := Lib.hid hnb18
             have fnb19 := Lib.hid hnb19
             have fne := Lib.hid hne
             clear hnb18 hnb19 hne
             refine norm_ (a' := ?_) ?_ ?_
             rotate_left
             ·simp only [putAll, Act.put, lA, lB, lC]
              rfl
             refine one_ (i := 1) (N := some 125) #[bT, bT, bT, bT, bF, bF, bF, bF, bF, bF, bT, bT, bF, bF, bF] rfl rfl (by kernel_rfl) (by decide) (fun K hK => ?_)
             refine goes_ Tryz.func41 (by kernel_rfl) rfl #[.agg #[.bool n.up, .int .i64 n.term, .bool n.leads, .bool n.alone, .slice A n.ops.length c]] (by rfl) rfl rfl (by simp only [List.map_toArray, List.map_cons, List.map_nil]; rfl) ?_
             with_reducible refine (toNode_c (n := n) (c := c) (kOp_keep HC.out (Bel.tr KW.out hb.out)) HS.out.len).mono ?_
             rintro e wn ⟨v, rfl, hoo, hbN⟩
             obtain ⟨Ya, ya, rfl, -, hX1⟩ := hoo.reads
             have gn1 := Lib.hid hX1
             clear hoo hX1
             have gb := Lib.hid (Below.trans hb.out (Below.mono hbN (Below.size hb.out)))
             have gnb18 := Lib.hid ((And.intro (fnb18.out.1.bel hbN) fnb18.out.2))
             have gnb19 := Lib.hid ((And.intro (fnb19.out.1.bel hbN) fnb19.out.2))
             have gne := fne
             clear hbN
             refine ⟨_, rfl, ?_⟩
             refine hK.out _ _ (HSF.out _ gb.out) (fun hHeld => ?_)
             clear hK K
             refine nox 125 (h := ?_)
             exact nof (hJ1_10_11 (Ya, ya, nb18, nb19) _ ⟨gb.out, gn1.out, gnb18.out, gnb19.out, gne.out⟩)
           ·skip
            rintro ⟨Ya, ya, nb19⟩ wc ⟨hb, hn1, hnb19⟩
            try dsimp only at hn1
            try dsimp only at hnb19
            have hb := Lib.hid hb
            have fn1 := Lib.hid hn1
            have fnb19 := Lib.hid hnb19
            clear hn1 hnb19
            refine norm_ (a' := ?_) ?_ ?_
            rotate_left
            ·simp only [putAll, Act.put, lA, lB, lC]
             rfl
            refine two_ (i := 4) (j := 10) (Ni := some 128) (Nj := some 19) #[bT, bT, bT, bT, bT, bF, bF, bF, bF, bF, bF, bT, bF, bF, bF] #[bT, bT, bT, bT, bF, bF, bF, bF, bF, bF, bT, bT, bF, bF, bF] rfl rfl rfl rfl (by kernel_rfl) (by decide) (by decide) (fun K hK => ?_) (fun K hK => ?_)
            ·skip
             refine goes_ Tryz.func77 (by kernel_rfl) rfl #[.agg #[.int .i64 m.kind, .int .i64 m.whom, .int .i64 m.term, .int .i64 m.n, .int .i64 m.op.kind, .string m.op.name, .string m.op.dest, .int .i64 m.op.n, .string m.op.text, .slice B m.ops.length bc]] (by rfl) rfl rfl (by simp only [List.map_toArray, List.map_cons, List.map_nil]; rfl) ?_
             with_reducible refine (toMsg_c (m := m) (c := bc) (kOp_keep HDM.out (Bel.tr KW.out hb.out)) HSM.out.len).mono ?_
             rintro e wn ⟨v, rfl, hoo, hbN⟩
             obtain ⟨Mb, mb, rfl, -, hX1⟩ := hoo.reads
             have gm1 := Lib.hid hX1
             clear hoo hX1
             have gb := Lib.hid (Below.trans hb.out (Below.mono hbN (Below.size hb.out)))
             have gn1 := Lib.hid (kOp_keep fn1.out hbN)
             have gnb19 := Lib.hid ((And.intro (fnb19.out.1.bel hbN) fnb19.out.2))
             clear hbN
             refine ⟨_, rfl, ?_⟩
             refine hK.out _ _ (HSF.out _ gb.out) (fun hHeld => ?_)
             clear hK K
             refine nox 128 (h := ?_)
             exact nof (hJ1_4_11 (Ya, ya, Mb, mb, nb19) _ ⟨gb.out, gn1.out, gm1.out, gnb19.out⟩)
            ·skip
             refine value_ (by rfl) rfl (by go_simp; constructor <;> rfl) ?_
             have hbN : Bel wc (wc.alloc (.cells zN 25)) := bel_alloc (Below.refl _ _) _
             have gb := Lib.hid (Below.trans hb.out (Below.mono hbN (Below.size hb.out)))
             have gn1 := Lib.hid (kOp_keep fn1.out hbN)
             have gnb19 := Lib.hid ((And.intro (fnb19.out.1.bel hbN) fnb19.out.2))
             have gnb18 : Hid (Blk (wc.alloc (.cells zN 25)) wc.heap.size zN 25 ∧ w23.drew.heap.size ≤ wc.heap.size) := Lib.hid ⟨Blk.new _ _ _, Below.size hb.out⟩
             have gne : Hid (wc.heap.size ≠ nb19) := Lib.hid (Nat.ne_of_gt fnb19.out.1.lt)
             clear hbN
             refine hK.out _ _ (HSF.out _ gb.out) (fun hHeld => ?_)
             clear hK K
             refine nox 19 (h := ?_)
             exact nof (hJ1_10_11 (Ya, ya, wc.heap.size, nb19) _ ⟨gb.out, gn1.out, gnb18.out, gnb19.out, gne.out⟩)
          ·skip
           rintro ⟨Ya, ya, nb18⟩ wc ⟨hb, hn1, hnb18⟩
           try dsimp only at hn1
           try dsimp only at hnb18
           have hb := Lib.hid hb
           have fn1 := Lib.hid hn1
           have fnb18 := Lib.hid hnb18
           clear hn1 hnb18
           refine norm_ (a' := ?_) ?_ ?_
           rotate_left
           ·simp only [putAll, Act.put, lA, lB, lC]
            rfl
           refine two_ (i := 4) (j := 11) (Ni := some 128) (Nj := some 20) #[bT, bT, bT, bT, bT, bF, bF, bF, bF, bF, bT, bF, bF, bF, bF] #[bT, bT, bT, bT, bF, bF, bF, bF, bF, bF, bT, bT, bF, bF, bF] rfl rfl rfl rfl (by kernel_rfl) (by decide) (by decide) (fun K hK => ?_) (fun K hK => ?_)
           ·skip
            refine goes_ Tryz.func77 (by kernel_rfl) rfl #[.agg #[.int .i64 m.kind, .int .i64 m.whom, .int .i64 m.term, .int .i64 m.n, .int .i64 m.op.kind, .string m.op.name, .string m.op.dest, .int .i64 m.op.n, .string m.op.text, .slice B m.ops.length bc]] (by rfl) rfl rfl (by simp only [List.map_toArray, List.map_cons, List.map_nil]; rfl) ?_
            with_reducible refine (toMsg_c (m := m) (c := bc) (kOp_keep HDM.out (Bel.tr KW.out hb.out)) HSM.out.len).mono ?_
            rintro e wn ⟨v, rfl, hoo, hbN⟩
            obtain ⟨Mb, mb, rfl, -, hX1⟩ := hoo.reads
            have gm1 := Lib.hid hX1
            clear hoo hX1
            have gb := Lib.hid (Below.trans hb.out (Below.mono hbN (Below.size hb.out)))
            have gn1 := Lib.hid (kOp_keep fn1.out hbN)
            have gnb18 := Lib.hid ((And.intro (fnb18.out.1.bel hbN) fnb18.out.2))
            clear hbN
            refine ⟨_, rfl, ?_⟩
            refine hK.out _ _ (HSF.out _ gb.out) (fun hHeld => ?_)
            clear hK K
            refine nox 128 (h := ?_)
            exact nof (hJ1_4_10 (Ya, ya, Mb, mb, nb18) _ ⟨gb.out, gn1.out, gm1.out, gnb18.out⟩)
           ·skip
            refine value_ (by rfl) rfl (by go_simp; constructor <;> rfl) ?_
            have hbN : Bel wc (wc.alloc (.cells zM 29)) := bel_alloc (Below.refl _ _) _
            have gb := Lib.hid (Below.trans hb.out (Below.mono hbN (Below.size hb.out)))
            have gn1 := Lib.hid (kOp_keep fn1.out hbN)
            have gnb18 := Lib.hid ((And.intro (fnb18.out.1.bel hbN) fnb18.out.2))
            have gnb19 : Hid (Blk (wc.alloc (.cells zM 29)) wc.heap.size zM 29 ∧ w23.drew.heap.size ≤ wc.heap.size) := Lib.hid ⟨Blk.new _ _ _, Below.size hb.out⟩
            have gne : Hid (nb18 ≠ wc.heap.size) := Lib.hid (Nat.ne_of_lt fnb18.out.1.lt)
            clear hbN
            refine hK.out _ _ (HSF.out _ gb.out) (fun hHeld => ?_)
            clear hK K
            refine nox 20 (h := ?_)
            exact nof (hJ1_10_11 (Ya, ya, nb18, wc.heap.size) _ ⟨gb.out, gn1.out, gnb18.out, gnb19.out, gne.out⟩)
         ·skip
          rintro ⟨Ya, ya, Mb, mb⟩ wc ⟨hb, hn1, hm1⟩
          try dsimp only at hn1
          try dsimp only at hm1
          have hb := Lib.hid hb
          have fn1 := Lib.hid hn1
          have fm1 := Lib.hid hm1
          clear hn1 hm1
          refine norm_ (a' := ?_) ?_ ?_
          rotate_left
          ·simp only [putAll, Act.put, lA, lB, lC]
           rfl
          refine three_ (i := 5) (j := 10) (k := 11) (Ni := some 129) (Nj := some 19) (Nk := some 20) #[bT, bT, bT, bT, bT, bT, bF, bF, bF, bF, bF, bF, bF, bF, bF] #[bT, bT, bT, bT, bT, bF, bF, bF, bF, bF, bT, bF, bF, bF, bF] #[bT, bT, bT, bT, bT, bF, bF, bF, bF, bF, bF, bT, bF, bF, bF] rfl rfl rfl rfl rfl rfl (by kernel_rfl) (by decide) (by decide) (by decide) (fun K hK => ?_) (fun K hK => ?_) (fun K hK => ?_)
          ·skip
           refine goes_ Tryz.func24 (by kernel_rfl) rfl #[.agg #[.bool n.up, .int .i64 n.term, .bool n.leads, .bool n.alone, .slice Ya n.ops.length ya], .int .i64 id, .agg #[.int .i64 m.kind, .int .i64 m.whom, .int .i64 m.term, .int .i64 m.n, .int .i64 m.op.kind, .string m.op.name, .string m.op.dest, .int .i64 m.op.n, .string m.op.text, .slice Mb m.ops.length mb]] (by rfl) rfl rfl (by simp only [List.map_toArray, List.map_cons, List.map_nil]; rfl) ?_
           with_reducible refine (him.out _ fn1.out fm1.out).mono ?_
           rintro e wn ⟨v, rfl, hoo, hbN⟩
           obtain ⟨H, h, rfl, -, -⟩ := hoo.reads
           have gas : Hid (OwnO wn w23.drew.heap.size (.slice H xn.ops.length h) xn.ops) := Lib.hid (own_lower hoo (Below.size hb.out))
           clear hoo
           have gb := Lib.hid (Below.trans hb.out (Below.mono hbN (Below.size hb.out)))
           have gn1 := Lib.hid (kOp_keep fn1.out hbN)
           have gm1 := Lib.hid (kOp_keep fm1.out hbN)
           clear hbN
           refine ⟨_, rfl, ?_⟩
           refine hK.out _ _ (HSF.out _ gb.out) (fun hHeld => ?_)
           clear hK K
           refine nox 129 (h := ?_)
           refine ppx (i := 6) (N := some 123) #[bT, bT, bT, bT, bT, bT, bT, bF, bF, bF, bF, bF, bF, bF, bF] (h := ?_)
           refine ppx (i := 7) (N := some 130) #[bT, bT, bT, bT, bT, bT, bT, bT, bF, bF, bF, bF, bF, bF, bF] (h := ?_)
           refine ppx (i := 8) (N := some 131) #[bT, bT, bT, bT, bT, bT, bT, bT, bT, bF, bF, bF, bF, bF, bF] (h := ?_)
           refine ppx (i := 9) (N := some 132) #[bT, bT, bT, bT, bT, bT, bT, bT, bT, bT, bF, bF, bF, bF, bF] (h := ?_)
           exact nof (hJ1_4_5 (Ya, ya, Mb, mb, H, h) _ ⟨gb.out, gn1.out, gm1.out, gas.out⟩)
          ·skip
           refine value_ (by rfl) rfl (by go_simp; constructor <;> rfl) ?_
           have hbN : Bel wc (wc.alloc (.cells zN 25)) := bel_alloc (Below.refl _ _) _
           have gb := Lib.hid (Below.trans hb.out (Below.mono hbN (Below.size hb.out)))
           have gn1 := Lib.hid (kOp_keep fn1.out hbN)
           have gm1 := Lib.hid (kOp_keep fm1.out hbN)
           have gnb18 : Hid (Blk (wc.alloc (.cells zN 25)) wc.heap.size zN 25 ∧ w23.drew.heap.size ≤ wc.heap.size) := Lib.hid ⟨Blk.new _ _ _, Below.size hb.out⟩
           clear hbN
           refine hK.out _ _ (HSF.out _ gb.out) (fun hHeld => ?_)
           clear hK K
           refine nox 19 (h := ?_)
           exact nof (hJ1_4_10 (Ya, ya, Mb, mb, wc.heap.size) _ ⟨gb.out, gn1.out, gm1.out, gnb18.out⟩)
          ·skip
           refine value_ (by rfl) rfl (by go_simp; constructor <;> rfl) ?_
           have hbN : Bel wc (wc.alloc (.cells zM 29)) := bel_alloc (Below.refl _ _) _
           have gb := Lib.hid (Below.trans hb.out (Below.mono hbN (Below.size hb.out)))
           have gn1 := Lib.hid (kOp_keep fn1.out hbN)
           have gm1 := Lib.hid (kOp_keep fm1.out hbN)
           have gnb19 : Hid (Blk (wc.alloc (.cells zM 29)) wc.heap.size zM 29 ∧ w23.drew.heap.size ≤ wc.heap.size) := Lib.hid ⟨Blk.new _ _ _, Below.size hb.out⟩
           clear hbN
           refine hK.out _ _ (HSF.out _ gb.out) (fun hHeld => ?_)
           clear hK K
           refine nox 20 (h := ?_)
           exact nof (hJ1_4_11 (Ya, ya, Mb, mb, wc.heap.size) _ ⟨gb.out, gn1.out, gm1.out, gnb19.out⟩)
        ·skip
         rintro ⟨Ya, ya, nb18, nb19⟩ wc ⟨hb, hn1, hnb18, hnb19, hne⟩
         try dsimp only at hn1
         try dsimp only at hnb18
         try dsimp only at hnb19
         try dsimp only at hne
         have hb := Lib.hid hb
         have fn1 := Lib.hid hn1
         have fnb18 := Lib.hid hnb18
         have fnb19 := Lib.hid hnb19
         have fne := Lib.hid hne
         clear hn1 hnb18 hnb19 hne
         refine norm_ (a' := ?_) ?_ ?_
         rotate_left
         ·simp only [putAll, Act.put, lA, lB, lC]
          rfl
         refine one_ (i := 4) (N := some 128) #[bT, bT, bT, bT, bT, bF, bF, bF, bF, bF, bT, bT, bF, bF, bF] rfl rfl (by kernel_rfl) (by decide) (fun K hK => ?_)
         refine goes_ Tryz.func77 (by kernel_rfl) rfl #[.agg #[.int .i64 m.kind, .int .i64 m.whom, .int .i64 m.term, .int .i64 m.n, .int .i64 m.op.kind, .string m.op.name, .string m.op.dest, .int .i64 m.op.n, .string m.op.text, .slice B m.ops.length bc]] (by rfl) rfl rfl (by simp only [List.map_toArray, List.map_cons, List.map_nil]; rfl) ?_
         with_reducible refine (toMsg_c (m := m) (c := bc) (kOp_keep HDM.out (Bel.tr KW.out hb.out)) HSM.out.len).mono ?_
         rintro e wn ⟨v, rfl, hoo, hbN⟩
         obtain ⟨Mb, mb, rfl, -, hX1⟩ := hoo.reads
         have gm1 := Lib.hid hX1
         clear hoo hX1
         have gb := Lib.hid (Below.trans hb.out (Below.mono hbN (Below.size hb.out)))
         have gn1 := Lib.hid (kOp_keep fn1.out hbN)
         have gnb18 := Lib.hid ((And.intro (fnb18.out.1.bel hbN) fnb18.out.2))
         have gnb19 := Lib.hid ((And.intro (fnb19.out.1.bel hbN) fnb19.out.2))
         have gne := fne
         clear hbN
         refine ⟨_, rfl, ?_⟩
         refine hK.out _ _ (HSF.out _ gb.out) (fun hHeld => ?_)
         clear hK K
         refine nox 128 (h := ?_)
         exact nof (hJ1_4_10_11 (Ya, ya, Mb, mb, nb18, nb19) _ ⟨gb.out, gn1.out, gm1.out, gnb18.out, gnb19.out, gne.out⟩)
       ·skip
        rintro ⟨Ya, ya, Mb, mb, nb19⟩ wc ⟨hb, hn1, hm1, hnb19⟩
        try dsimp only at hn1
        try dsimp only at hm1
        try dsimp only at hnb19
        have hb := Lib.hid hb
        have fn1 := Lib.hid hn1
        have fm1 := Lib.hid hm1
        have fnb19 := Lib.hid hnb19
        clear hn1 hm1 hnb19
        refine norm_ (a' := ?_) ?_ ?_
        rotate_left
        ·simp only [putAll, Act.put, lA, lB, lC]
         rfl
        refine two_ (i := 5) (j := 10) (Ni := some 129) (Nj := some 19) #[bT, bT, bT, bT, bT, bT, bF, bF, bF, bF, bF, bT, bF, bF, bF] #[bT, bT, bT, bT, bT, bF, bF, bF, bF, bF, bT, bT, bF, bF, bF] rfl rfl rfl rfl (by kernel_rfl) (by decide) (by decide) (fun K hK => ?_) (fun K hK => ?_)
        ·skip
         refine goes_ Tryz.func24 (by kernel_rfl) rfl #[.agg #[.bool n.up, .int .i64 n.term, .bool n.leads, .bool n.alone, .slice Ya n.ops.length ya], .int .i64 id, .agg #[.int .i64 m.kind, .int .i64 m.whom, .int .i64 m.term, .int .i64 m.n, .int .i64 m.op.kind, .string m.op.name, .string m.op.dest, .int .i64 m.op.n, .string m.op.text, .slice Mb m.ops.length mb]] (by rfl) rfl rfl (by simp only [List.map_toArray, List.map_cons, List.map_nil]; rfl) ?_
         with_reducible refine (him.out _ fn1.out fm1.out).mono ?_
         rintro e wn ⟨v, rfl, hoo, hbN⟩
         obtain ⟨H, h, rfl, -, -⟩ := hoo.reads
         have gas : Hid (OwnO wn w23.drew.heap.size (.slice H xn.ops.length h) xn.ops) := Lib.hid (own_lower hoo (Below.size hb.out))
         clear hoo
         have gb := Lib.hid (Below.trans hb.out (Below.mono hbN (Below.size hb.out)))
         have gn1 := Lib.hid (kOp_keep fn1.out hbN)
         have gm1 := Lib.hid (kOp_keep fm1.out hbN)
         have gnb19 := Lib.hid ((And.intro (fnb19.out.1.bel hbN) fnb19.out.2))
         clear hbN
         refine ⟨_, rfl, ?_⟩
         refine hK.out _ _ (HSF.out _ gb.out) (fun hHeld => ?_)
         clear hK K
         refine nox 129 (h := ?_)
         refine ppx (i := 6) (N := some 123) #[bT, bT, bT, bT, bT, bT, bT, bF, bF, bF, bF, bT, bF, bF, bF] (h := ?_)
         refine ppx (i := 7) (N := some 130) #[bT, bT, bT, bT, bT, bT, bT, bT, bF, bF, bF, bT, bF, bF, bF] (h := ?_)
         refine ppx (i := 8) (N := some 131) #[bT, bT, bT, bT, bT, bT, bT, bT, bT, bF, bF, bT, bF, bF, bF] (h := ?_)
         refine ppx (i := 9) (N := some 132) #[bT, bT, bT, bT, bT, bT, bT, bT, bT, bT, bF, bT, bF, bF, bF] (h := ?_)
         exact nof (hJ1_4_5_11 (Ya, ya, Mb, mb, H, h, nb19) _ ⟨gb.out, gn1.out, gm1.out, gas.out, gnb19.out⟩)
        ·skip
         refine value_ (by rfl) rfl (by go_simp; constructor <;> rfl) ?_
         have hbN : Bel wc (wc.alloc (.cells zN 25)) := bel_alloc (Below.refl _ _) _
         have gb := Lib.hid (Below.trans hb.out (Below.mono hbN (Below.size hb.out)))
         have gn1 := Lib.hid (kOp_keep fn1.out hbN)
         have gm1 := Lib.hid (kOp_keep fm1.out hbN)
         have gnb19 := Lib.hid ((And.intro (fnb19.out.1.bel hbN) fnb19.out.2))
         have gnb18 : Hid (Blk (wc.alloc (.cells zN 25)) wc.heap.size zN 25 ∧ w23.drew.heap.size ≤ wc.heap.size) := Lib.hid ⟨Blk.new _ _ _, Below.size hb.out⟩
         have gne : Hid (wc.heap.size ≠ nb19) := Lib.hid (Nat.ne_of_gt fnb19.out.1.lt)
         clear hbN
         refine hK.out _ _ (HSF.out _ gb.out) (fun hHeld => ?_)
         clear hK K
         refine nox 19 (h := ?_)
         exact nof (hJ1_4_10_11 (Ya, ya, Mb, mb, wc.heap.size, nb19) _ ⟨gb.out, gn1.out, gm1.out, gnb18.out, gnb19.out, gne.out⟩)
      ·skip
       rintro ⟨Ya, ya, Mb, mb, nb18⟩ wc ⟨hb, hn1, hm1, hnb18⟩
       try dsimp only at hn1
       try dsimp only at hm1
       try dsimp only at hnb18
       have hb := Lib.hid hb
       have fn1 := Lib.hid hn1
       have fm1 := Lib.hid hm1
       have fnb18 := Lib.hid hnb18
       clear hn1 hm1 hnb18
       refine norm_ (a' := ?_) ?_ ?_
       rotate_left
       ·simp only [putAll, Act.put, lA, lB, lC]
        rfl
       refine two_ (i := 5) (j := 11) (Ni := some 129) (Nj := some 20) #[bT, bT, bT, bT, bT, bT, bF, bF, bF, bF, bT, bF, bF, bF, bF] #[bT, bT, bT, bT, bT, bF, bF, bF, bF, bF, bT, bT, bF, bF, bF] rfl rfl rfl rfl (by kernel_rfl) (by decide) (by decide) (fun K hK => ?_) (fun K hK => ?_)
       ·skip
        refine goes_ Tryz.func24 (by kernel_rfl) rfl #[.agg #[.bool n.up, .int .i64 n.term, .bool n.leads, .bool n.alone, .slice Ya n.ops.length ya], .int .i64 id, .agg #[.int .i64 m.kind, .int .i64 m.whom, .int .i64 m.term, .int .i64 m.n, .int .i64 m.op.kind, .string m.op.name, .string m.op.dest, .int .i64 m.op.n, .string m.op.text, .slice Mb m.ops.length mb]] (by rfl) rfl rfl (by simp only [List.map_toArray, List.map_cons, List.map_nil]; rfl) ?_
        with_reducible refine (him.out _ fn1.out fm1.out).mono ?_
        rintro e wn ⟨v, rfl, hoo, hbN⟩
        obtain ⟨H, h, rfl, -, -⟩ := hoo.reads
        have gas : Hid (OwnO wn w23.drew.heap.size (.slice H xn.ops.length h) xn.ops) := Lib.hid (own_lower hoo (Below.size hb.out))
        clear hoo
        have gb := Lib.hid (Below.trans hb.out (Below.mono hbN (Below.size hb.out)))
        have gn1 := Lib.hid (kOp_keep fn1.out hbN)
        have gm1 := Lib.hid (kOp_keep fm1.out hbN)
        have gnb18 := Lib.hid ((And.intro (fnb18.out.1.bel hbN) fnb18.out.2))
        clear hbN
        refine ⟨_, rfl, ?_⟩
        refine hK.out _ _ (HSF.out _ gb.out) (fun hHeld => ?_)
        clear hK K
        refine nox 129 (h := ?_)
        refine ppx (i := 6) (N := some 123) #[bT, bT, bT, bT, bT, bT, bT, bF, bF, bF, bT, bF, bF, bF, bF] (h := ?_)
        refine ppx (i := 7) (N := some 130) #[bT, bT, bT, bT, bT, bT, bT, bT, bF, bF, bT, bF, bF, bF, bF] (h := ?_)
        refine ppx (i := 8) (N := some 131) #[bT, bT, bT, bT, bT, bT, bT, bT, bT, bF, bT, bF, bF, bF, bF] (h := ?_)
        refine ppx (i := 9) (N := some 132) #[bT, bT, bT, bT, bT, bT, bT, bT, bT, bT, bT, bF, bF, bF, bF] (h := ?_)
        exact nof (hJ1_4_5_10 (Ya, ya, Mb, mb, H, h, nb18) _ ⟨gb.out, gn1.out, gm1.out, gas.out, gnb18.out⟩)
       ·skip
        refine value_ (by rfl) rfl (by go_simp; constructor <;> rfl) ?_
        have hbN : Bel wc (wc.alloc (.cells zM 29)) := bel_alloc (Below.refl _ _) _
        have gb := Lib.hid (Below.trans hb.out (Below.mono hbN (Below.size hb.out)))
        have gn1 := Lib.hid (kOp_keep fn1.out hbN)
        have gm1 := Lib.hid (kOp_keep fm1.out hbN)
        have gnb18 := Lib.hid ((And.intro (fnb18.out.1.bel hbN) fnb18.out.2))
        have gnb19 : Hid (Blk (wc.alloc (.cells zM 29)) wc.heap.size zM 29 ∧ w23.drew.heap.size ≤ wc.heap.size) := Lib.hid ⟨Blk.new _ _ _, Below.size hb.out⟩
        have gne : Hid (nb18 ≠ wc.heap.size) := Lib.hid (Nat.ne_of_lt fnb18.out.1.lt)
        clear hbN
        refine hK.out _ _ (HSF.out _ gb.out) (fun hHeld => ?_)
        clear hK K
        refine nox 20 (h := ?_)
        exact nof (hJ1_4_10_11 (Ya, ya, Mb, mb, nb18, wc.heap.size) _ ⟨gb.out, gn1.out, gm1.out, gnb18.out, gnb19.out, gne.out⟩)
     ·skip
      rintro ⟨Ya, ya, Mb, mb, H, h⟩ wc ⟨hb, hn1, hm1, has⟩
      try dsimp only at hn1
      try dsimp only at hm1
      try dsimp only at has
      have hb := Lib.hid hb
      have fn1 := Lib.hid hn1
      have fm1 := Lib.hid hm1
      have fas := Lib.hid has
      clear hn1 hm1 has
      refine norm_ (a' := ?_) ?_ ?_
      rotate_left
      ·simp only [putAll, Act.put, lA, lB, lC]
       rfl
      refine two_ (i := 10) (j := 11) (Ni := some 19) (Nj := some 20) #[bT, bT, bT, bT, bT, bT, bT, bT, bT, bT, bT, bF, bF, bF, bF] #[bT, bT, bT, bT, bT, bT, bT, bT, bT, bT, bF, bT, bF, bF, bF] rfl rfl rfl rfl (by kernel_rfl) (by decide) (by decide) (fun K hK => ?_) (fun K hK => ?_)
      ·skip
       refine value_ (by rfl) rfl (by go_simp; constructor <;> rfl) ?_
       have hbN : Bel wc (wc.alloc (.cells zN 25)) := bel_alloc (Below.refl _ _) _
       have gb := Lib.hid (Below.trans hb.out (Below.mono hbN (Below.size hb.out)))
       have gn1 := Lib.hid (kOp_keep fn1.out hbN)
       have gm1 := Lib.hid (kOp_keep fm1.out hbN)
       have gas := Lib.hid (OwnO.bel fas.out hbN)
       have gnb18 : Hid (Blk (wc.alloc (.cells zN 25)) wc.heap.size zN 25 ∧ w23.drew.heap.size ≤ wc.heap.size) := Lib.hid ⟨Blk.new _ _ _, Below.size hb.out⟩
       clear hbN
       refine hK.out _ _ (HSF.out _ gb.out) (fun hHeld => ?_)
       clear hK K
       refine nox 19 (h := ?_)
       exact nof (hJ1_4_5_10 (Ya, ya, Mb, mb, H, h, wc.heap.size) _ ⟨gb.out, gn1.out, gm1.out, gas.out, gnb18.out⟩)
      ·skip
       refine value_ (by rfl) rfl (by go_simp; constructor <;> rfl) ?_
       have hbN : Bel wc (wc.alloc (.cells zM 29)) := bel_alloc (Below.refl _ _) _
       have gb := Lib.hid (Below.trans hb.out (Below.mono hbN (Below.size hb.out)))
       have gn1 := Lib.hid (kOp_keep fn1.out hbN)
       have gm1 := Lib.hid (kOp_keep fm1.out hbN)
       have gas := Lib.hid (OwnO.bel fas.out hbN)
       have gnb19 : Hid (Blk (wc.alloc (.cells zM 29)) wc.heap.size zM 29 ∧ w23.drew.heap.size ≤ wc.heap.size) := Lib.hid ⟨Blk.new _ _ _, Below.size hb.out⟩
       clear hbN
       refine hK.out _ _ (HSF.out _ gb.out) (fun hHeld => ?_)
       clear hK K
       refine nox 20 (h := ?_)
       exact nof (hJ1_4_5_11 (Ya, ya, Mb, mb, H, h, wc.heap.size) _ ⟨gb.out, gn1.out, gm1.out, gas.out, gnb19.out⟩)
    ·skip
     rintro ⟨Ya, ya, Mb, mb, nb18, nb19⟩ wc ⟨hb, hn1, hm1, hnb18, hnb19, hne⟩
     try dsimp only at hn1
     try dsimp only at hm1
     try dsimp only at hnb18
     try dsimp only at hnb19
     try dsimp only at hne
     have hb := Lib.hid hb
     have fn1 := Lib.hid hn1
     have fm1 := Lib.hid hm1
     have fnb18 := Lib.hid hnb18
     have fnb19 := Lib.hid hnb19
     have fne := Lib.hid hne
     clear hn1 hm1 hnb18 hnb19 hne
     refine norm_ (a' := ?_) ?_ ?_
     rotate_left
     ·simp only [putAll, Act.put, lA, lB, lC]
      rfl
     refine one_ (i := 5) (N := some 129) #[bT, bT, bT, bT, bT, bT, bF, bF, bF, bF, bT, bT, bF, bF, bF] rfl rfl (by kernel_rfl) (by decide) (fun K hK => ?_)
     refine goes_ Tryz.func24 (by kernel_rfl) rfl #[.agg #[.bool n.up, .int .i64 n.term, .bool n.leads, .bool n.alone, .slice Ya n.ops.length ya], .int .i64 id, .agg #[.int .i64 m.kind, .int .i64 m.whom, .int .i64 m.term, .int .i64 m.n, .int .i64 m.op.kind, .string m.op.name, .string m.op.dest, .int .i64 m.op.n, .string m.op.text, .slice Mb m.ops.length mb]] (by rfl) rfl rfl (by simp only [List.map_toArray, List.map_cons, List.map_nil]; rfl) ?_
     with_reducible refine (him.out _ fn1.out fm1.out).mono ?_
     rintro e wn ⟨v, rfl, hoo, hbN⟩
     obtain ⟨H, h, rfl, -, -⟩ := hoo.reads
     have gas : Hid (OwnO wn w23.drew.heap.size (.slice H xn.ops.length h) xn.ops) := Lib.hid (own_lower hoo (Below.size hb.out))
     clear hoo
     have gb := Lib.hid (Below.trans hb.out (Below.mono hbN (Below.size hb.out)))
     have gn1 := Lib.hid (kOp_keep fn1.out hbN)
     have gm1 := Lib.hid (kOp_keep fm1.out hbN)
     have gnb18 := Lib.hid ((And.intro (fnb18.out.1.bel hbN) fnb18.out.2))
     have gnb19 := Lib.hid ((And.intro (fnb19.out.1.bel hbN) fnb19.out.2))
     have gne := fne
     clear hbN
     refine ⟨_, rfl, ?_⟩
     refine hK.out _ _ (HSF.out _ gb.out) (fun hHeld => ?_)
     clear hK K
     refine nox 129 (h := ?_)
     refine ppx (i := 6) (N := some 123) #[bT, bT, bT, bT, bT, bT, bT, bF, bF, bF, bT, bT, bF, bF, bF] (h := ?_)
     refine ppx (i := 7) (N := some 130) #[bT, bT, bT, bT, bT, bT, bT, bT, bF, bF, bT, bT, bF, bF, bF] (h := ?_)
     refine ppx (i := 8) (N := some 131) #[bT, bT, bT, bT, bT, bT, bT, bT, bT, bF, bT, bT, bF, bF, bF] (h := ?_)
     refine ppx (i := 9) (N := some 132) #[bT, bT, bT, bT, bT, bT, bT, bT, bT, bT, bT, bT, bF, bF, bF] (h := ?_)
     exact nof (hJ1_4_5_10_11 (Ya, ya, Mb, mb, H, h, nb18, nb19) _ ⟨gb.out, gn1.out, gm1.out, gas.out, gnb18.out, gnb19.out, gne.out⟩)
   ·skip
    rintro ⟨Ya, ya, Mb, mb, H, h, nb19⟩ wc ⟨hb, hn1, hm1, has, hnb19⟩
    try dsimp only at hn1
    try dsimp only at hm1
    try dsimp only at has
    try dsimp only at hnb19
    have hb := Lib.hid hb
    have fn1 := Lib.hid hn1
    have fm1 := Lib.hid hm1
    have fas := Lib.hid has
    have fnb19 := Lib.hid hnb19
    clear hn1 hm1 has hnb19
    refine norm_ (a' := ?_) ?_ ?_
    rotate_left
    ·simp only [putAll, Act.put, lA, lB, lC]
     rfl
    refine one_ (i := 10) (N := some 19) #[bT, bT, bT, bT, bT, bT, bT, bT, bT, bT, bT, bT, bF, bF, bF] rfl rfl (by kernel_rfl) (by decide) (fun K hK => ?_)
    refine value_ (by rfl) rfl (by go_simp; constructor <;> rfl) ?_
    have hbN : Bel wc (wc.alloc (.cells zN 25)) := bel_alloc (Below.refl _ _) _
    have gb := Lib.hid (Below.trans hb.out (Below.mono hbN (Below.size hb.out)))
    have gn1 := Lib.hid (kOp_keep fn1.out hbN)
    have gm1 := Lib.hid (kOp_keep fm1.out hbN)
    have gas := Lib.hid (OwnO.bel fas.out hbN)
    have gnb19 := Lib.hid ((And.intro (fnb19.out.1.bel hbN) fnb19.out.2))
    have gnb18 : Hid (Blk (wc.alloc (.cells zN 25)) wc.heap.size zN 25 ∧ w23.drew.heap.size ≤ wc.heap.size) := Lib.hid ⟨Blk.new _ _ _, Below.size hb.out⟩
    have gne : Hid (wc.heap.size ≠ nb19) := Lib.hid (Nat.ne_of_gt fnb19.out.1.lt)
    clear hbN
    refine hK.out _ _ (HSF.out _ gb.out) (fun hHeld => ?_)
    clear hK K
    refine nox 19 (h := ?_)
    exact nof (hJ1_4_5_10_11 (Ya, ya, Mb, mb, H, h, wc.heap.size, nb19) _ ⟨gb.out, gn1.out, gm1.out, gas.out, gnb18.out, gnb19.out, gne.out⟩)
  ·skip
   rintro ⟨Ya, ya, Mb, mb, H, h, nb18⟩ wc ⟨hb, hn1, hm1, has, hnb18⟩
   try dsimp only at hn1
   try dsimp only at hm1
   try dsimp only at has
   try dsimp only at hnb18
   have hb := Lib.hid hb
   have fn1 := Lib.hid hn1
   have fm1 := Lib.hid hm1
   have fas := Lib.hid has
   have fnb18 := Lib.hid hnb18
   clear hn1 hm1 has hnb18
   refine norm_ (a' := ?_) ?_ ?_
   rotate_left
   ·simp only [putAll, Act.put, lA, lB, lC]
    rfl
   refine one_ (i := 11) (N := some 20) #[bT, bT, bT, bT, bT, bT, bT, bT, bT, bT, bT, bT, bF, bF, bF] rfl rfl (by kernel_rfl) (by decide) (fun K hK => ?_)
   refine value_ (by rfl) rfl (by go_simp; constructor <;> rfl) ?_
   have hbN : Bel wc (wc.alloc (.cells zM 29)) := bel_alloc (Below.refl _ _) _
   have gb := Lib.hid (Below.trans hb.out (Below.mono hbN (Below.size hb.out)))
   have gn1 := Lib.hid (kOp_keep fn1.out hbN)
   have gm1 := Lib.hid (kOp_keep fm1.out hbN)
   have gas := Lib.hid (OwnO.bel fas.out hbN)
   have gnb18 := Lib.hid ((And.intro (fnb18.out.1.bel hbN) fnb18.out.2))
   have gnb19 : Hid (Blk (wc.alloc (.cells zM 29)) wc.heap.size zM 29 ∧ w23.drew.heap.size ≤ wc.heap.size) := Lib.hid ⟨Blk.new _ _ _, Below.size hb.out⟩
   have gne : Hid (nb18 ≠ wc.heap.size) := Lib.hid (Nat.ne_of_lt fnb18.out.1.lt)
   clear hbN
   refine hK.out _ _ (HSF.out _ gb.out) (fun hHeld => ?_)
   clear hK K
   refine nox 20 (h := ?_)
   exact nof (hJ1_4_5_10_11 (Ya, ya, Mb, mb, H, h, nb18, wc.heap.size) _ ⟨gb.out, gn1.out, gm1.out, gas.out, gnb18.out, gnb19.out, gne.out⟩)
 rintro ⟨Ya, ya, Mb, mb, H, h, nb18, nb19⟩ wc ⟨hb, hn1, hm1, has, hnb18, hnb19, hne⟩
 try dsimp only at hn1
 try dsimp only at hm1
 try dsimp only at has
 try dsimp only at hnb18
 try dsimp only at hnb19
 try dsimp only at hne
 have hb := Lib.hid hb
 have fn1 := Lib.hid hn1
 have fm1 := Lib.hid hm1
 have fas := Lib.hid has
 have fnb18 := Lib.hid hnb18
 have fnb19 := Lib.hid hnb19
 have fne := Lib.hid hne
 clear hn1 hm1 has hnb18 hnb19 hne
 have unb180 := blkn fnb18.out.1 0 _ rfl
 have unb181 := blkn fnb18.out.1 1 _ rfl
 have unb182 := blkn fnb18.out.1 2 _ rfl
 have unb183 := blkn fnb18.out.1 3 _ rfl
 have unb184 := blkn fnb18.out.1 4 _ rfl
 have vnb180 := fnb18.out.1.free 0
 have vnb181 := fnb18.out.1.free 1
 have vnb182 := fnb18.out.1.free 2
 have vnb183 := fnb18.out.1.free 3
 have vnb184 := fnb18.out.1.free 4
 have ynb18 := fnb18.out.1.lt
 have unb190 := blkn fnb19.out.1 0 _ rfl
 have unb191 := blkn fnb19.out.1 1 _ rfl
 have unb192 := blkn fnb19.out.1 2 _ rfl
 have unb193 := blkn fnb19.out.1 3 _ rfl
 have unb194 := blkn fnb19.out.1 4 _ rfl
 have unb195 := blkn fnb19.out.1 5 _ rfl
 have unb196 := blkn fnb19.out.1 6 _ rfl
 have unb197 := blkn fnb19.out.1 7 _ rfl
 have unb198 := blkn fnb19.out.1 8 _ rfl
 have unb199 := blkn fnb19.out.1 9 _ rfl
 have vnb190 := fnb19.out.1.free 0
 have vnb191 := fnb19.out.1.free 1
 have vnb192 := fnb19.out.1.free 2
 have vnb193 := fnb19.out.1.free 3
 have vnb194 := fnb19.out.1.free 4
 have vnb195 := fnb19.out.1.free 5
 have vnb196 := fnb19.out.1.free 6
 have vnb197 := fnb19.out.1.free 7
 have vnb198 := fnb19.out.1.free 8
 have vnb199 := fnb19.out.1.free 9
 have ynb19 := fnb19.out.1.lt
 have en1 : ¬ nb18 = nb19 := fne.out
 have en2 : ¬ nb19 = nb18 := fun e => fne.out e.symm
 refine norm_ (a' := ?_) ?_ ?_
 rotate_left
 ·simp only [putAll, Act.put, lA, lB, lC]
  rfl
 refine last_ (i := 12) (N := none) #[bT, bT, bT, bT, bT, bT, bT, bT, bT, bT, bT, bT, bT, bF, bF] rfl rfl (by kernel_rfl) (by decide) (fun K hK => ?_)
 refine skip_ (by rfl) rfl (by go_simp; rfl) ?_
 refine hK.out _ _ ?_
 clear hK K
 refine last_ (i := 13) (N := none) #[bT, bT, bT, bT, bT, bT, bT, bT, bT, bT, bT, bT, bT, bT, bF] rfl rfl (by kernel_rfl) (by decide) (fun K hK => ?_)
 refine skip_ (by rfl) rfl (by go_simp; rfl) ?_
 refine hK.out _ _ ?_
 clear hK K
 refine ppx (i := 14) (N := some 21) #[bT, bT, bT, bT, bT, bT, bT, bT, bT, bT, bT, bT, bT, bT, bT] (h := ?_)
 refine done_ (by kernel_rfl) ?_
 clear en1 en2 unb180 unb181 unb182 unb183 unb184 vnb180 vnb181 vnb182 vnb183 vnb184 unb190 unb191 unb192 unb193 unb194 unb195 unb196 unb197 unb198 unb199 vnb190 vnb191 vnb192 vnb193 vnb194 vnb195 vnb196 vnb197 vnb198 vnb199
 replace KB := Lib.hid (KB.out.bel hb.out)
 replace KO := Lib.hid (KO.out.bel hb.out)
 replace Ks := Lib.hid (Ks.out.bel hb.out)
 replace B8 := Lib.hid (B8.out.bel hb.out)
 replace B9 := Lib.hid (B9.out.bel hb.out)
 replace Bx := Lib.hid (Bx.out.bel hb.out)
 replace By := Lib.hid (By.out.bel hb.out)
 replace Kg := Lib.hid (Kg.out.bel hb.out)
 replace Bg := Lib.hid (Bg.out.bel hb.out)
 replace Bm := Lib.hid (Bm.out.bel hb.out)
 replace KW := Lib.hid (Bel.tr KW.out hb.out)
 replace KZ := Lib.hid (Nat.le_trans KZ.out (Below.size hb.out))
 have hP2 := fnb18.out.2
 have hP3 := fnb19.out.2
 generalize hW9 : ((((((((((((((((wc.setCell ⟨nb18, 0, none⟩ (.bool xn.up)).setCell ⟨nb18, 1, none⟩ (.int .i64 xn.term)).setCell ⟨nb18, 2, none⟩ (.bool xn.leads)).setCell ⟨nb18, 3, none⟩ (.bool xn.alone)).setCell ⟨nb18, 4, none⟩ (.slice H xn.ops.length h)).setCell ⟨nb19, 0, none⟩ (.int .i64 xm.kind)).setCell ⟨nb19, 1, none⟩ (.int .i64 xm.whom)).setCell ⟨nb19, 2, none⟩ (.int .i64 xm.term)).setCell ⟨nb19, 3, none⟩ (.int .i64 xm.n)).setCell ⟨nb19, 4, none⟩ (.int .i64 xm.op.kind)).setCell ⟨nb19, 5, none⟩ (.string xm.op.name)).setCell ⟨nb19, 6, none⟩ (.string xm.op.dest)).setCell ⟨nb19, 7, none⟩ (.int .i64 xm.op.n)).setCell ⟨nb19, 8, none⟩ (.string xm.op.text)).setCell ⟨nb19, 9, none⟩ (.slice none 0 0))) = W24
 have h2 := two_new (v1 := [.bool xn.up, .int .i64 xn.term, .bool xn.leads, .bool xn.alone, .slice H xn.ops.length h]) (v2 := [.int .i64 xm.kind, .int .i64 xm.whom, .int .i64 xm.term, .int .i64 xm.n, .int .i64 xm.op.kind, .string xm.op.name, .string xm.op.dest, .int .i64 xm.op.n, .string xm.op.text, .slice none 0 0]) hW9 fnb18.out.1 fnb19.out.1 fne.out rfl rfl (by decide) (by decide)
 have hsz : w23.drew.heap.size ≤ wc.heap.size := Below.size hb.out
 have hK := h2.ownO fas.out
 replace KB := Lib.hid (h2.oth KB.out (by omega) (by omega))
 replace KO := Lib.hid (h2.oth KO.out (by omega) (by omega))
 replace Ks : Hid (AtT W24 s1 s2 (.slice E0 xn.ops.length f0) xn.ops) := Lib.hid ⟨h2.ownT Ks.out.own, Ks.out.lt⟩
 replace B8 := Lib.hid (h2.oth B8.out (by omega) (by omega))
 replace B9 := Lib.hid (h2.oth B9.out (by omega) (by omega))
 replace Bx := Lib.hid (h2.oth Bx.out (by omega) (by omega))
 replace By := Lib.hid (h2.oth By.out (by omega) (by omega))
 replace Kg : Hid (AtO W24 s3 s4 (.slice G xn.ops.length g) sg) := Lib.hid ⟨h2.ownO Kg.out.own, Kg.out.lt⟩
 replace Bg := Lib.hid (h2.oth Bg.out (by omega) (by omega))
 replace Bm := Lib.hid (h2.oth Bm.out (by omega) (by omega))
 replace KW := Lib.hid (h2.bel KW.out (by omega) (by omega))
 have hB1 : Blk W24 nb18 #[.bool xn.up, .int .i64 xn.term, .bool xn.leads, .bool xn.alone, .slice H xn.ops.length h] 25 := h2.b1
 have hB2 : Blk W24 nb19 #[.int .i64 xm.kind, .int .i64 xm.whom, .int .i64 xm.term, .int .i64 xm.n, .int .i64 xm.op.kind, .string xm.op.name, .string xm.op.dest, .int .i64 xm.op.n, .string xm.op.text, .slice none 0 0] 29 := h2.b2
 have hq := h2.size
 clear hW9 h2 fnb18 fnb19 fne fas hb HSF ynb18 ynb19 fn1 fm1
 clear KZ
 obtain ⟨s5, hs5⟩ : ∃ k, w23.drew.heap.size = k := ⟨_, rfl⟩
 obtain ⟨s6, hs6⟩ : ∃ k, W24.heap.size = k := ⟨_, rfl⟩
 have Kh : Hid (AtO W24 s5 s6 (.slice H xn.ops.length h) xn.ops) := Lib.hid (by rw [← hs5, ← hs6]; exact OwnO.ato hK)
 have Bh := Lib.hid hB1
 have Bj := Lib.hid hB2
 have KZ : Hid (s6 ≤ W24.heap.size) := Lib.hid (Nat.le_of_eq hs6.symm)
 have zKh : s5 ≤ s6 := by omega
 have zw_s5 : w.heap.size ≤ s5 := by omega
 rw [hs5] at z_s5
 clear hB1 hB2 hK hq hP2 hP3 hsz hs5 hs6 zw zl_KB zl_KO zl_B8 zl_B9 zl_Bx zl_By zl_Bg zl_Bm
 have bh_0 : W24.cell? ⟨nb18, 0, none⟩ = some (.bool xn.up) := blkn Bh.out 0 _ rfl
 have bh_1 : W24.cell? ⟨nb18, 1, none⟩ = some (.int .i64 xn.term) := blkn Bh.out 1 _ rfl
 have bh_2 : W24.cell? ⟨nb18, 2, none⟩ = some (.bool xn.leads) := blkn Bh.out 2 _ rfl
 have bh_3 : W24.cell? ⟨nb18, 3, none⟩ = some (.bool xn.alone) := blkn Bh.out 3 _ rfl
 have bh_4 : W24.cell? ⟨nb18, 4, none⟩ = some (.slice H xn.ops.length h) := blkn Bh.out 4 _ rfl
 have bh_y := Bh.out.lt
 have b8_0 : W24.cell? ⟨nb8, 0, none⟩ = some (.bool xn.up) := blkn B8.out 0 _ rfl
 have b8_1 : W24.cell? ⟨nb8, 1, none⟩ = some (.int .i64 xn.term) := blkn B8.out 1 _ rfl
 have b8_2 : W24.cell? ⟨nb8, 2, none⟩ = some (.bool xn.leads) := blkn B8.out 2 _ rfl
 have b8_3 : W24.cell? ⟨nb8, 3, none⟩ = some (.bool xn.alone) := blkn B8.out 3 _ rfl
 have b8_4 : W24.cell? ⟨nb8, 4, none⟩ = some (.slice E0 xn.ops.length f0) := blkn B8.out 4 _ rfl
 have b8_y := B8.out.lt
 go_wp2_with fail
 clear bh_0 bh_1 bh_2 bh_3 bh_4 bh_y
 clear b8_0 b8_1 b8_2 b8_3 b8_4 b8_y
 refine (eqNode_c (n := xn) (Kh.out.own.innC rfl).2 (Ks.out.inn rfl) hxl).mono ?_
 rintro e w25 ⟨rfl, hb⟩
 replace KB := Lib.hid (KB.out.bel hb)
 replace KO := Lib.hid (KO.out.bel hb)
 replace Ks := Lib.hid (Ks.out.bel hb)
 replace B8 := Lib.hid (B8.out.bel hb)
 replace B9 := Lib.hid (B9.out.bel hb)
 replace Bx := Lib.hid (Bx.out.bel hb)
 replace By := Lib.hid (By.out.bel hb)
 replace Kg := Lib.hid (Kg.out.bel hb)
 replace Bg := Lib.hid (Bg.out.bel hb)
 replace Bm := Lib.hid (Bm.out.bel hb)
 replace Kh := Lib.hid (Kh.out.bel hb)
 replace Bh := Lib.hid (Bh.out.bel hb)
 replace Bj := Lib.hid (Bj.out.bel hb)
 replace KW := Lib.hid (Bel.tr KW.out hb)
 replace KZ := Lib.hid (Nat.le_trans KZ.out (Below.size hb))
 clear hb
 have bj_0 : w25.cell? ⟨nb19, 0, none⟩ = some (.int .i64 xm.kind) := blkn Bj.out 0 _ rfl
 have bj_1 : w25.cell? ⟨nb19, 1, none⟩ = some (.int .i64 xm.whom) := blkn Bj.out 1 _ rfl
 have bj_2 : w25.cell? ⟨nb19, 2, none⟩ = some (.int .i64 xm.term) := blkn Bj.out 2 _ rfl
 have bj_3 : w25.cell? ⟨nb19, 3, none⟩ = some (.int .i64 xm.n) := blkn Bj.out 3 _ rfl
 have bj_4 : w25.cell? ⟨nb19, 4, none⟩ = some (.int .i64 xm.op.kind) := blkn Bj.out 4 _ rfl
 have bj_5 : w25.cell? ⟨nb19, 5, none⟩ = some (.string xm.op.name) := blkn Bj.out 5 _ rfl
 have bj_6 : w25.cell? ⟨nb19, 6, none⟩ = some (.string xm.op.dest) := blkn Bj.out 6 _ rfl
 have bj_7 : w25.cell? ⟨nb19, 7, none⟩ = some (.int .i64 xm.op.n) := blkn Bj.out 7 _ rfl
 have bj_8 : w25.cell? ⟨nb19, 8, none⟩ = some (.string xm.op.text) := blkn Bj.out 8 _ rfl
 have bj_9 : w25.cell? ⟨nb19, 9, none⟩ = some (.slice none 0 0) := blkn Bj.out 9 _ rfl
 have bj_y := Bj.out.lt
 have b9_0 : w25.cell? ⟨nb9, 0, none⟩ = some (.int .i64 xm.kind) := blkn B9.out 0 _ rfl
 have b9_1 : w25.cell? ⟨nb9, 1, none⟩ = some (.int .i64 xm.whom) := blkn B9.out 1 _ rfl
 have b9_2 : w25.cell? ⟨nb9, 2, none⟩ = some (.int .i64 xm.term) := blkn B9.out 2 _ rfl
 have b9_3 : w25.cell? ⟨nb9, 3, none⟩ = some (.int .i64 xm.n) := blkn B9.out 3 _ rfl
 have b9_4 : w25.cell? ⟨nb9, 4, none⟩ = some (.int .i64 xm.op.kind) := blkn B9.out 4 _ rfl
 have b9_5 : w25.cell? ⟨nb9, 5, none⟩ = some (.string xm.op.name) := blkn B9.out 5 _ rfl
 have b9_6 : w25.cell? ⟨nb9, 6, none⟩ = some (.string xm.op.dest) := blkn B9.out 6 _ rfl
 have b9_7 : w25.cell? ⟨nb9, 7, none⟩ = some (.int .i64 xm.op.n) := blkn B9.out 7 _ rfl
 have b9_8 : w25.cell? ⟨nb9, 8, none⟩ = some (.string xm.op.text) := blkn B9.out 8 _ rfl
 have b9_9 : w25.cell? ⟨nb9, 9, none⟩ = some (.slice none 0 0) := blkn B9.out 9 _ rfl
 have b9_y := B9.out.lt
 go_wp2_with fail
 clear bj_0 bj_1 bj_2 bj_3 bj_4 bj_5 bj_6 bj_7 bj_8 bj_9 bj_y
 clear b9_0 b9_1 b9_2 b9_3 b9_4 b9_5 b9_6 b9_7 b9_8 b9_9 b9_y
 refine (eqMsg0_c HM0.out).mono ?_
 rintro e w26 ⟨rfl, hb⟩
 replace KB := Lib.hid (KB.out.bel hb)
 replace KO := Lib.hid (KO.out.bel hb)
 replace Ks := Lib.hid (Ks.out.bel hb)
 replace B8 := Lib.hid (B8.out.bel hb)
 replace B9 := Lib.hid (B9.out.bel hb)
 replace Bx := Lib.hid (Bx.out.bel hb)
 replace By := Lib.hid (By.out.bel hb)
 replace Kg := Lib.hid (Kg.out.bel hb)
 replace Bg := Lib.hid (Bg.out.bel hb)
 replace Bm := Lib.hid (Bm.out.bel hb)
 replace Kh := Lib.hid (Kh.out.bel hb)
 replace Bh := Lib.hid (Bh.out.bel hb)
 replace Bj := Lib.hid (Bj.out.bel hb)
 replace KW := Lib.hid (Bel.tr KW.out hb)
 replace KZ := Lib.hid (Nat.le_trans KZ.out (Below.size hb))
 clear hb
 have bg_0 : w26.cell? ⟨bg, 0, none⟩ = some (.bool xn.up) := blkn Bg.out 0 _ rfl
 have bg_1 : w26.cell? ⟨bg, 1, none⟩ = some (.int .i64 xn.term) := blkn Bg.out 1 _ rfl
 have bg_2 : w26.cell? ⟨bg, 2, none⟩ = some (.bool xn.leads) := blkn Bg.out 2 _ rfl
 have bg_3 : w26.cell? ⟨bg, 3, none⟩ = some (.bool xn.alone) := blkn Bg.out 3 _ rfl
 have bg_4 : w26.cell? ⟨bg, 4, none⟩ = some (.slice G xn.ops.length g) := blkn Bg.out 4 _ rfl
 have bg_y := Bg.out.lt
 go_wp2_with fail
 clear bg_0 bg_1 bg_2 bg_3 bg_4 bg_y
 have hCg : kOp.C w26 G sg.length sg := by obtain ⟨A', c', e1, -, hC⟩ := Kg.out.own.reads; have e1 := slice_eq e1; obtain ⟨rfl, -, rfl⟩ := e1; exact hC
 refine (heldNode_c (n := xn) hCg HSL.out HMK.out (by have h := HSL.out; omega) (by omega) (by omega)).mono ?_
 rintro e w27 ⟨rfl, hb⟩
 clear hCg
 replace KB := Lib.hid (KB.out.bel hb)
 replace KO := Lib.hid (KO.out.bel hb)
 replace Ks := Lib.hid (Ks.out.bel hb)
 replace B8 := Lib.hid (B8.out.bel hb)
 replace B9 := Lib.hid (B9.out.bel hb)
 replace Bx := Lib.hid (Bx.out.bel hb)
 replace By := Lib.hid (By.out.bel hb)
 replace Kg := Lib.hid (Kg.out.bel hb)
 replace Bg := Lib.hid (Bg.out.bel hb)
 replace Bm := Lib.hid (Bm.out.bel hb)
 replace Kh := Lib.hid (Kh.out.bel hb)
 replace Bh := Lib.hid (Bh.out.bel hb)
 replace Bj := Lib.hid (Bj.out.bel hb)
 replace KW := Lib.hid (Bel.tr KW.out hb)
 replace KZ := Lib.hid (Nat.le_trans KZ.out (Below.size hb))
 clear hb
 have bm_0 : w27.cell? ⟨bm, 0, none⟩ = some (.int .i64 xm.kind) := blkn Bm.out 0 _ rfl
 have bm_1 : w27.cell? ⟨bm, 1, none⟩ = some (.int .i64 xm.whom) := blkn Bm.out 1 _ rfl
 have bm_2 : w27.cell? ⟨bm, 2, none⟩ = some (.int .i64 xm.term) := blkn Bm.out 2 _ rfl
 have bm_3 : w27.cell? ⟨bm, 3, none⟩ = some (.int .i64 xm.n) := blkn Bm.out 3 _ rfl
 have bm_4 : w27.cell? ⟨bm, 4, none⟩ = some (.int .i64 xm.op.kind) := blkn Bm.out 4 _ rfl
 have bm_5 : w27.cell? ⟨bm, 5, none⟩ = some (.string xm.op.name) := blkn Bm.out 5 _ rfl
 have bm_6 : w27.cell? ⟨bm, 6, none⟩ = some (.string xm.op.dest) := blkn Bm.out 6 _ rfl
 have bm_7 : w27.cell? ⟨bm, 7, none⟩ = some (.int .i64 xm.op.n) := blkn Bm.out 7 _ rfl
 have bm_8 : w27.cell? ⟨bm, 8, none⟩ = some (.string xm.op.text) := blkn Bm.out 8 _ rfl
 have bm_9 : w27.cell? ⟨bm, 9, none⟩ = some (.slice none 0 0) := blkn Bm.out 9 _ rfl
 have bm_y := Bm.out.lt
 go_wp2_with fail
 clear bm_0 bm_1 bm_2 bm_3 bm_4 bm_5 bm_6 bm_7 bm_8 bm_9 bm_y
 refine (heldMsg0_c HM0.out (by omega) (by omega)).mono ?_
 rintro e w28 ⟨rfl, hb⟩
 replace KB := Lib.hid (KB.out.bel hb)
 replace KO := Lib.hid (KO.out.bel hb)
 replace Ks := Lib.hid (Ks.out.bel hb)
 replace B8 := Lib.hid (B8.out.bel hb)
 replace B9 := Lib.hid (B9.out.bel hb)
 replace Bx := Lib.hid (Bx.out.bel hb)
 replace By := Lib.hid (By.out.bel hb)
 replace Kg := Lib.hid (Kg.out.bel hb)
 replace Bg := Lib.hid (Bg.out.bel hb)
 replace Bm := Lib.hid (Bm.out.bel hb)
 replace Kh := Lib.hid (Kh.out.bel hb)
 replace Bh := Lib.hid (Bh.out.bel hb)
 replace Bj := Lib.hid (Bj.out.bel hb)
 replace KW := Lib.hid (Bel.tr KW.out hb)
 replace KZ := Lib.hid (Nat.le_trans KZ.out (Below.size hb))
 clear hb
 go_wp2
 go_ret
 exact ⟨rfl, KW.out⟩
theorem lawFnExactNodeHear_r {w : World} {A B : Option Addr} {c bc : Nat} {n : Node} {id : Int} {m : Msg} (hC : kOp.C w A n.ops.length n.ops) (hr : RawOs n.ops) (_ : -9223372036854775808 ≤ id) (_ : id ≤ 9223372036854775807) (hD : kOp.C w B m.ops.length m.ops) (hrm : RawOs m.ops) (hro : RawO m.op) :
  Calls Tryz.prog 16 #[.agg #[.bool n.up, .int .i64 n.term, .bool n.leads, .bool n.alone, .slice A n.ops.length c], .int .i64 id, .agg #[.int .i64 m.kind, .int .i64 m.whom, .int .i64 m.term, .int .i64 m.n, .int .i64 m.op.kind, .string m.op.name, .string m.op.dest, .int .i64 m.op.n, .string m.op.text, .slice B m.ops.length bc]] w (Ret (.bool true) w) := lawFnExactNodeHear_c hC hr hD hrm hro
end Go.Proofs.YtccllgpaafgjaaaGreat

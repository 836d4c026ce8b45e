/- FnExactNodeAsk. -/
import Derived.Test.YtccllgpaafgjaaaGreatR1
import Derived.Test.YtccllgpaafgjaaaGreatR2
import Derived.Test.YtccllgpaafgjaaaGreatR3
import Derived.Test.YtccllgpaafgjaaaGreatR4
import Derived.Test.YtccllgpaafgjaaaGreatR5
import Derived.Test.YtccllgpaafgjaaaGreatR6
import Derived.Test.YtccllgpaafgjaaaGreatR7
import Derived.Test.YtccllgpaafgjaaaGreatR8
import Derived.Test.YtccllgpaafgjaaaGreatR9
import Derived.Test.YtccllgpaafgjaaaGreatR10
import Derived.Test.YtccllgpaafgjaaaGreatR11
namespace Go.Proofs.YtccllgpaafgjaaaGreat
open Go.RowKit Go.Proofs.YtccllgpaafgjaaaGreatW.PrintWords Go.Proofs.YtccllgpaafgjaaaGreatW.PrintLast
set_option linter.unusedVariables false
set_option linter.unusedSimpArgs false

structure AtO (w : World) (lo hi : Nat) (v : Value) (s : List Op) : Prop where
  own : OwnO w lo v s
  lt : ∀ k, v.ownBlock = some k → k < hi
theorem AtO.bel {w w' : World} {lo hi : Nat} {v : Value} {s : List Op} (h : AtO w lo hi v s) (hb : Bel w w') : AtO w' lo hi v s := ⟨h.own.bel hb, h.lt⟩
theorem OwnO.ato {w : World} {lo : Nat} {v : Value} {s : List Op} (h : OwnO w lo v s) : AtO w lo w.heap.size v s := ⟨h, fun k hk => own_block_lt h hk⟩
theorem AtO.tail {w : World} {lo hi : Nat} {v : Value} {s : List Op} (h : AtO w lo hi v s) : AtT w lo hi v s := ⟨OwnO.tail h.own, h.lt⟩
theorem AtT.apart {w w' : World} {lo hi lo2 hi2 : Nat} {v v2 : Value} {s s2 : List Op} (h : AtT w lo hi v s) (K : AtT w lo2 hi2 v2 s2) (hd : hi ≤ lo2 ∨ hi2 ≤ lo) (hg : w.grownBy w' v2.ownBlock) : AtT w' lo hi v s :=
 h.kept hg fun k e => by have h1 := (K.own.base k e).1; have h2 := K.lt k e; rcases hd with h3 | h3 <;> omega
theorem AtO.apart {w w' : World} {lo hi lo2 hi2 : Nat} {v v2 : Value} {s s2 : List Op} (h : AtO w lo hi v s) (K : AtT w lo2 hi2 v2 s2) (hd : hi ≤ lo2 ∨ hi2 ≤ lo) (hg : w.grownBy w' v2.ownBlock) : AtO w' lo hi v s := by
 refine ⟨h.own.kept hg ?_, h.lt⟩
 cases hv : v.ownBlock with
 | none => exact .inl rfl
 | some k =>
  refine .inr fun e => ?_
  have h1 := (K.own.base k e.symm).1
  have h2 := K.lt k e.symm
  have h3 := own_base h.own k hv
  have h4 := h.lt k hv
  rcases hd with h5 | h5 <;> omega
theorem askRM_ops (n : Node) (id : Int) (o : Op) : (askRM n id o).ops = [] := by unfold askRM askM; split <;> (try split) <;> rfl
theorem kOp_nil (w : World) : kOp.C w none 0 [] := ⟨rfl, by simp, fun h => absurd h (Nat.lt_irrefl 0)⟩
structure Two (wc W' : World) (n1 n2 : Nat) (v1 v2 : List Value) (t1 t2 : TypeId) : Prop where
  b1 : Blk W' n1 v1.toArray t1
  b2 : Blk W' n2 v2.toArray t2
  oth : ∀ {b : Nat} {cs : Array Value} {t : TypeId}, Blk wc b cs t → n1 ≠ b → n2 ≠ b → Blk W' b cs t
  ownT : ∀ {base : Nat} {v : Value} {os : List Op}, OwnT wc base v os → OwnT W' base v os
  ownO : ∀ {base : Nat} {v : Value} {os : List Op}, OwnO wc base v os → OwnO W' base v os
  bel : ∀ {w : World}, Bel w wc → w.heap.size ≤ n1 → w.heap.size ≤ n2 → Bel w W'
  size : W'.heap.size = wc.heap.size
theorem wsets_size (b : Nat) (vs : List Value) : ∀ (W : World) (j : Nat), (wsets W b j vs).heap.size = W.heap.size := by
 induction vs with
 | nil => intro W j; rfl
 | cons v vs ih => intro W j; exact (ih _ _).trans (by simp)
theorem two_new {wc W' : World} {n1 n2 : Nat} {v1 v2 : List Value} {t1 t2 : TypeId} {c1 c2 : Array Value} (hW : wsets (wsets wc n1 0 v1) n2 0 v2 = W') (h1 : Blk wc n1 c1 t1) (h2 : Blk wc n2 c2 t2) (hne : n1 ≠ n2)
  (hl1 : c1.size = v1.length) (hl2 : c2.size = v2.length) (ht1 : 27 ≠ t1) (ht2 : 27 ≠ t2) : Two wc W' n1 n2 v1 v2 t1 t2 := by
 subst hW
 have h2' := Blk.apartS hne v1 0 h2
 exact ⟨Blk.apartS (fun e => hne e.symm) v2 0 (h1.sets v1 hl1), h2'.sets v2 hl2, fun h e1 e2 => Blk.apartS e2 v2 0 (Blk.apartS e1 v1 0 h), fun h => (h.sets h1 ht1 v1).sets h2' ht2 v2, fun h => (h.sets h1 ht1 v1).sets h2' ht2 v2,
  fun h e1 e2 => bel_sets e2 v2 0 (bel_sets e1 v1 0 h), by rw [wsets_size, wsets_size]⟩
theorem addNB_lt {n : Node} {o : Op} (h : addNB n o = true) : n.ops.length < 20 := by
 unfold addNB at h
 split at h
 ·simp at h; exact h.2
 ·cases h
theorem askRN_len {n : Node} {id : Int} {o : Op} (h : SmallOs n.ops) : (askRN n id o).ops.length ≤ 1048576 := by
 unfold askRN
 split
 ·unfold askN
  split
  ·rename_i hb
   have hl : n.ops.length < 20 := by unfold askB at hb; simp only [Bool.and_eq_true] at hb; exact addNB_lt hb.2.2
   show (n.ops ++ [o]).length ≤ _
   rw [List.length_append, List.length_singleton]; omega
  ·exact h.len
 ·exact Nat.zero_le _
section
variable {w : World} {m : Msg} {k : Int}
theorem eqMsg0_c (h : m.ops = []) : Calls Tryz.prog 45 #[.agg #[.int .i64 m.kind, .int .i64 m.whom, .int .i64 m.term, .int .i64 m.n, .int .i64 m.op.kind, .string m.op.name, .string m.op.dest, .int .i64 m.op.n, .string m.op.text, .slice none 0 0], .agg #[.int .i64 m.kind, .int .i64 m.whom, .int .i64 m.term, .int .i64 m.n, .int .i64 m.op.kind, .string m.op.name, .string m.op.dest, .int .i64 m.op.n, .string m.op.text, .slice none 0 0]] w (Ret (.bool true) w) := by
 have hC : kOp.C w none m.ops.length m.ops := by rw [h]; exact kOp_nil w
 have h2 := eqMsg_c (c := 0) (c' := 0) hC hC (by rw [h]; exact Nat.zero_le _)
 rw [h] at h2
 exact h2
theorem markMsg0_c (h : m.ops = []) (h0 : 0 < k) (h1 : k ≤ 1099511627776) : Calls Tryz.prog 47 #[.agg #[.int .i64 m.kind, .int .i64 m.whom, .int .i64 m.term, .int .i64 m.n, .int .i64 m.op.kind, .string m.op.name, .string m.op.dest, .int .i64 m.op.n, .string m.op.text, .slice none 0 0], .int .i64 k] w (Ret (.int .i64 k) w) := by
 have h2 := markMsg_m (w := w) (A := none) (c := 0) (m := m) (base := 0) (k := k) (by rw [h]; exact ownO_nil _ _) (by rw [h]; exact Nat.zero_le _) h0 h1
 rw [h] at h2
 refine h2.mono ?_
 rintro e w' ⟨he, -, hg⟩
 refine ⟨?_, ⟨hg.os, hg.tape, hg.output, hg.size, fun b hb => hg.block b hb (by intro e; cases e)⟩⟩
 rw [he]
 exact ret_int (by simp)
theorem heldMsg0_c (h : m.ops = []) (h0 : 0 < k) (h1 : k ≤ 1099511627776) : Calls Tryz.prog 49 #[.agg #[.int .i64 m.kind, .int .i64 m.whom, .int .i64 m.term, .int .i64 m.n, .int .i64 m.op.kind, .string m.op.name, .string m.op.dest, .int .i64 m.op.n, .string m.op.text, .slice none 0 0], .int .i64 k] w (Ret (.int .i64 k) w) := by
 have h2 := heldMsg_c (w := w) (A := none) (c := 0) (m := m) (k := k) (s := []) (kOp_nil w) (by rw [h]) (fun i x hx => by simp at hx) (Nat.zero_le _) h0 h1
 rw [h] at h2
 refine h2.mono ?_
 rintro e w' ⟨he, hb⟩
 refine ⟨?_, hb⟩
 rw [he]
 exact ret_int (by simp)
end
set_option maxHeartbeats 64000000 in
set_option maxRecDepth 10000 in
theorem lawFnExactNodeAsk_c {w : World} {A : Option Addr} {c : Nat} {n : Node} {id : Int} {o : Op} (hC : kOp.C w A n.ops.length n.ops) (hr : RawOs n.ops) (hro : RawO o) :
  Calls Tryz.prog 7 #[.agg #[.bool n.up, .int .i64 n.term, .bool n.leads, .bool n.alone, .slice A n.ops.length c], .int .i64 id, .agg #[.int .i64 o.kind, .string o.name, .string o.dest, .int .i64 o.n, .string o.text]] w (Ret (.bool true) w) := by
 have HC := Lib.hid hC
 have HRW := Lib.hid hr
 have HRO := Lib.hid hro
 obtain ⟨z, hz⟩ : ∃ z, askRB n id o = z := ⟨_, rfl⟩
 obtain ⟨xn, hxn⟩ : ∃ x, askRN n id o = x := ⟨_, rfl⟩
 obtain ⟨xm, hxm⟩ : ∃ x, askRM n id o = x := ⟨_, rfl⟩
 have HX := Lib.hid (And.intro hxn (And.intro hxm hz))
 have HM0 : Hid (xm.ops = []) := Lib.hid (hxm ▸ askRM_ops n id o)
 clear hC hr hro hz hxn hxm
 go_enter Tryz.func7, Tryz.ntmps7
 go_wp2_with fail
 have hB : Blk ((w.alloc (.cells #[.bool n.up, .int .i64 n.term, .bool n.leads, .bool n.alone, .slice A n.ops.length c] 53)).alloc (.cells #[.int .i64 o.kind, .string o.name, .string o.dest, .int .i64 o.n, .string o.text] 54)) w.heap.size #[.bool n.up, .int .i64 n.term, .bool n.leads, .bool n.alone, .slice A n.ops.length c] 53 := (Blk.new _ _ _).alloc _
 have hBO : Blk ((w.alloc (.cells #[.bool n.up, .int .i64 n.term, .bool n.leads, .bool n.alone, .slice A n.ops.length c] 53)).alloc (.cells #[.int .i64 o.kind, .string o.name, .string o.dest, .int .i64 o.n, .string o.text] 54)) (w.heap.size + 1) #[.int .i64 o.kind, .string o.name, .string o.dest, .int .i64 o.n, .string o.text] 54 := Blk.nw2 _ _ _ _
 have hb : Bel w ((w.alloc (.cells #[.bool n.up, .int .i64 n.term, .bool n.leads, .bool n.alone, .slice A n.ops.length c] 53)).alloc (.cells #[.int .i64 o.kind, .string o.name, .string o.dest, .int .i64 o.n, .string o.text] 54)) := bel_alloc (bel_alloc (Below.refl _ _) _) _
 generalize ((w.alloc (.cells #[.bool n.up, .int .i64 n.term, .bool n.leads, .bool n.alone, .slice A n.ops.length c] 53)).alloc (.cells #[.int .i64 o.kind, .string o.name, .string o.dest, .int .i64 o.n, .string o.text] 54)) = W0 at hB hBO hb ⊢
 obtain ⟨bkl, hbk⟩ : ∃ b, w.heap.size = b := ⟨_, rfl⟩
 obtain ⟨bko, hbko⟩ : ∃ b, bkl + 1 = b := ⟨_, rfl⟩
 rw [hbk] at hB hBO ⊢
 rw [hbko] at hBO ⊢
 refine (szNode_c (kOp_keep HC.out hb) HRW.out (by omega) (by omega)).mono ?_
 rintro e w1 ⟨r, rfl, hb1, hr, hr1⟩
 have KB := Lib.hid (hB.bel hb1)
 have KO := Lib.hid (hBO.bel hb1)
 have KW := Lib.hid (Bel.tr hb hb1)
 have HRR := Lib.hid hr
 have HBK := Lib.hid hbk
 clear hB hBO hb hb1 hr hbk
 by_cases hrn : r < 0
 ·go_wp2
  go_ret
  exact ⟨rfl, KW.out⟩
 have HS := Lib.hid (HRR.out (by omega)).1
 have hr2 : r ≤ 1048576 := (HRR.out (by omega)).2
 clear HRR hr1
 have ko_0 : w1.cell? ⟨bko, 0, none⟩ = some (.int .i64 o.kind) := blkn KO.out 0 _ rfl
 have ko_1 : w1.cell? ⟨bko, 1, none⟩ = some (.string o.name) := blkn KO.out 1 _ rfl
 have ko_2 : w1.cell? ⟨bko, 2, none⟩ = some (.string o.dest) := blkn KO.out 2 _ rfl
 have ko_3 : w1.cell? ⟨bko, 3, none⟩ = some (.int .i64 o.n) := blkn KO.out 3 _ rfl
 have ko_4 : w1.cell? ⟨bko, 4, none⟩ = some (.string o.text) := blkn KO.out 4 _ rfl
 have ko_y := KO.out.lt
 go_wp2_with fail
 clear ko_0 ko_1 ko_2 ko_3 ko_4 ko_y
 refine (szOp_c o r _ (by omega) hr2 HRO.out).mono ?_
 rintro e w2 ⟨r', rfl, hb, hr', hr1'⟩
 have HR' := Lib.hid hr'
 clear hr'
 replace KB := Lib.hid (KB.out.bel hb)
 replace KO := Lib.hid (KO.out.bel hb)
 replace KW := Lib.hid (Bel.tr KW.out hb)
 clear hb
 by_cases hrn' : r' < 0
 ·go_wp2
  go_ret
  exact ⟨rfl, KW.out⟩
 have HSO := Lib.hid (HR'.out (by omega)).1
 clear hr2 hr1' HR'
 have hl := HS.out.len
 have hxl : xn.ops.length ≤ 1048576 := HX.out.1 ▸ askRN_len HS.out
 have hsp := Lib.hid (fun (W : World) {E : Option Addr} {f : Nat} (h : kOp.C W E n.ops.length n.ops) => (by
  have h2 := specNodeAsk_c (id := id) (o := o) (c := f) h HS.out HSO.out
  rw [HX.out.1, HX.out.2.1, HX.out.2.2] at h2
  exact h2 : Calls Tryz.prog 40 #[.agg #[.bool n.up, .int .i64 n.term, .bool n.leads, .bool n.alone, .slice E n.ops.length f], .int .i64 id, .agg #[.int .i64 o.kind, .string o.name, .string o.dest, .int .i64 o.n, .string o.text]] W (AnsT W xn xm z)))
 have him := Lib.hid (fun (W : World) {E : Option Addr} {f : Nat} (h : kOp.C W E n.ops.length n.ops) => (by
  have h2 := implNodeAsk_c (id := id) (o := o) (c := f) h HS.out HSO.out
  rw [HX.out.1, HX.out.2.1, HX.out.2.2] at h2
  exact h2 : Calls Tryz.prog 43 #[.agg #[.bool n.up, .int .i64 n.term, .bool n.leads, .bool n.alone, .slice E n.ops.length f], .int .i64 id, .agg #[.int .i64 o.kind, .string o.name, .string o.dest, .int .i64 o.n, .string o.text]] W (AnsO W xn xm z)))
 go_wp2
 have hb : Bel w2 w2.drew := (Below.refl _ _).drew
 replace KB := Lib.hid (KB.out.bel hb)
 replace KO := Lib.hid (KO.out.bel hb)
 replace KW := Lib.hid (Bel.tr KW.out hb)
 clear hb
 have zl_KB := KB.out.lt
 have zl_KO := KO.out.lt
 have zw := Below.size KW.out
 have HSF := Lib.hid (fun (W9 : World) (gb : Bel w2.drew W9) => (⟨(blkn (KB.out.bel gb) 0 _ rfl), (blkn (KB.out.bel gb) 1 _ rfl), (blkn (KB.out.bel gb) 2 _ rfl), (blkn (KB.out.bel gb) 3 _ rfl), (blkn (KB.out.bel gb) 4 _ rfl), (blkn (KO.out.bel gb) 0 _ rfl), (blkn (KO.out.bel gb) 1 _ rfl), (blkn (KO.out.bel gb) 2 _ rfl), (blkn (KO.out.bel gb) 3 _ rfl), (blkn (KO.out.bel gb) 4 _ rfl)⟩ : W9.cell? ⟨bkl, 0, none⟩ = some (.bool n.up) ∧ W9.cell? ⟨bkl, 1, none⟩ = some (.int .i64 n.term) ∧ W9.cell? ⟨bkl, 2, none⟩ = some (.bool n.leads) ∧ W9.cell? ⟨bkl, 3, none⟩ = some (.bool n.alone) ∧ W9.cell? ⟨bkl, 4, none⟩ = some (.slice A n.ops.length c) ∧ W9.cell? ⟨bko, 0, none⟩ = some (.int .i64 o.kind) ∧ W9.cell? ⟨bko, 1, none⟩ = some (.string o.name) ∧ W9.cell? ⟨bko, 2, none⟩ = some (.string o.dest) ∧ W9.cell? ⟨bko, 3, none⟩ = some (.int .i64 o.n) ∧ W9.cell? ⟨bko, 4, none⟩ = some (.string o.text)))
 refine start_ (n := 15) (S := fun w' => w'.cell? ⟨bkl, 0, none⟩ = some (.bool n.up) ∧ w'.cell? ⟨bkl, 1, none⟩ = some (.int .i64 n.term) ∧ w'.cell? ⟨bkl, 2, none⟩ = some (.bool n.leads) ∧ w'.cell? ⟨bkl, 3, none⟩ = some (.bool n.alone) ∧ w'.cell? ⟨bkl, 4, none⟩ = some (.slice A n.ops.length c) ∧ w'.cell? ⟨bko, 0, none⟩ = some (.int .i64 o.kind) ∧ w'.cell? ⟨bko, 1, none⟩ = some (.string o.name) ∧ w'.cell? ⟨bko, 2, none⟩ = some (.string o.dest) ∧ w'.cell? ⟨bko, 3, none⟩ = some (.int .i64 o.n) ∧ w'.cell? ⟨bko, 4, none⟩ = some (.string o.text)) (ds := [12, 13]) #[bF, bF, bF, bF, bF, bF, bF, bF, bF, bF, bF, bF, bF, bF, bF] (by kernel_rfl) rfl rfl ⟨(blkn KB.out 0 _ rfl), (blkn KB.out 1 _ rfl), (blkn KB.out 2 _ rfl), (blkn KB.out 3 _ rfl), (blkn KB.out 4 _ rfl), (blkn KO.out 0 _ rfl), (blkn KO.out 1 _ rfl), (blkn KO.out 2 _ rfl), (blkn KO.out 3 _ rfl), (blkn KO.out 4 _ rfl)⟩ (fun hHeld => ?_)
 refine pure_ (i := 2) (N := some 34) (v := ?_) (a' := ?_) #[bF, bF, bT, bF, bF, bF, bF, bF, bF, bF, bF, bF, bF, bF, bF] rfl rfl (by kernel_rfl) (fun _ _ _ h => h) (Or.inl ⟨by rfl, ?_⟩) ?_ ?_
 rotate_left
 ·intro w'
  go_simp
  with_reducible rfl
 rotate_left
 ·simp only [Act.put, lA, lB, lC, i64_w, i32_w]
  rfl
 refine take_ (i := 0) (N := some 32) (v := ?_) (a' := ?_) #[bT, bF, bT, bF, bF, bF, bF, bF, bF, bF, bF, bF, bF, bF, bF] rfl rfl (by kernel_rfl) (fun _ _ _ h => h) (Or.inl ⟨by rfl, ?_⟩) hHeld ?_ ?_
 rotate_left
 ·rintro w' ⟨s0, s1, s2, s3, s4, s5, s6, s7, s8, s9⟩
  go_simp
  with_reducible rfl
 rotate_left
 ·simp only [Act.put, lA, lB, lC, i64_w, i32_w]
  rfl
 refine take_ (i := 3) (N := some 35) (v := ?_) (a' := ?_) #[bT, bF, bT, bT, bF, bF, bF, bF, bF, bF, bF, bF, bF, bF, bF] rfl rfl (by kernel_rfl) (fun _ _ _ h => h) (Or.inl ⟨by rfl, ?_⟩) hHeld ?_ ?_
 rotate_left
 ·rintro w' ⟨s0, s1, s2, s3, s4, s5, s6, s7, s8, s9⟩
  go_simp
  with_reducible rfl
 rotate_left
 ·simp only [Act.put, lA, lB, lC, i64_w, i32_w]
  rfl
 refine join_ (σ := Option Addr × Nat × Option Addr × Nat × Nat × Nat) 3 #[bT, bT, bT, bT, bT, bT, bT, bT, bT, bT, bT, bT, bF, bF, bF] (fun s => [(33, .agg #[.bool n.up, .int .i64 n.term, .bool n.leads, .bool n.alone, .slice s.1 n.ops.length s.2.1]), (36, .agg #[.int .i64 o.kind, .string o.name, .string o.dest, .int .i64 o.n, .string o.text]), (37, .tuple #[.agg #[.bool xn.up, .int .i64 xn.term, .bool xn.leads, .bool xn.alone, .slice s.2.2.1 xn.ops.length s.2.2.2.1], .agg #[.int .i64 xm.kind, .int .i64 xm.whom, .int .i64 xm.term, .int .i64 xm.n, .int .i64 xm.op.kind, .string xm.op.name, .string xm.op.dest, .int .i64 xm.op.n, .string xm.op.text, .slice none 0 0], .bool z]), (31, .tuple #[.agg #[.bool xn.up, .int .i64 xn.term, .bool xn.leads, .bool xn.alone, .slice s.2.2.1 xn.ops.length s.2.2.2.1], .agg #[.int .i64 xm.kind, .int .i64 xm.whom, .int .i64 xm.term, .int .i64 xm.n, .int .i64 xm.op.kind, .string xm.op.name, .string xm.op.dest, .int .i64 xm.op.n, .string xm.op.text, .slice none 0 0], .bool z]), (38, .agg #[.bool xn.up, .int .i64 xn.term, .bool xn.leads, .bool xn.alone, .slice s.2.2.1 xn.ops.length s.2.2.2.1]), (39, .agg #[.int .i64 xm.kind, .int .i64 xm.whom, .int .i64 xm.term, .int .i64 xm.n, .int .i64 xm.op.kind, .string xm.op.name, .string xm.op.dest, .int .i64 xm.op.n, .string xm.op.text, .slice none 0 0]), (40, .bool z), (8, .pointer (some ⟨s.2.2.2.2.1, 0, none⟩)), (9, .pointer (some ⟨s.2.2.2.2.2, 0, none⟩))]) (fun s w' => Bel w2.drew w' ∧ (kOp.C w' s.1 n.ops.length n.ops) ∧ (OwnT w' w2.drew.heap.size (.slice s.2.2.1 xn.ops.length s.2.2.2.1) xn.ops) ∧ (Blk w' s.2.2.2.2.1 #[.bool false, .int .i64 0, .bool false, .bool false, .slice none 0 0] 25 ∧ w2.drew.heap.size ≤ s.2.2.2.2.1) ∧ (Blk w' s.2.2.2.2.2 #[.int .i64 0, .int .i64 0, .int .i64 0, .int .i64 0, .int .i64 0, .string ⟨#[]⟩, .string ⟨#[]⟩, .int .i64 0, .string ⟨#[]⟩, .slice none 0 0] 29 ∧ w2.drew.heap.size ≤ s.2.2.2.2.2) ∧ (s.2.2.2.2.1 ≠ s.2.2.2.2.2)) ?_ ?_
 rotate_left
 ·intro hJ1_4_5_10_11
  refine join_ (σ := Option Addr × Nat × Option Addr × Nat × Nat) 4 #[bT, bT, bT, bT, bT, bT, bT, bT, bT, bT, bT, bF, bF, bF, bF] (fun s => [(33, .agg #[.bool n.up, .int .i64 n.term, .bool n.leads, .bool n.alone, .slice s.1 n.ops.length s.2.1]), (36, .agg #[.int .i64 o.kind, .string o.name, .string o.dest, .int .i64 o.n, .string o.text]), (37, .tuple #[.agg #[.bool xn.up, .int .i64 xn.term, .bool xn.leads, .bool xn.alone, .slice s.2.2.1 xn.ops.length s.2.2.2.1], .agg #[.int .i64 xm.kind, .int .i64 xm.whom, .int .i64 xm.term, .int .i64 xm.n, .int .i64 xm.op.kind, .string xm.op.name, .string xm.op.dest, .int .i64 xm.op.n, .string xm.op.text, .slice none 0 0], .bool z]), (31, .tuple #[.agg #[.bool xn.up, .int .i64 xn.term, .bool xn.leads, .bool xn.alone, .slice s.2.2.1 xn.ops.length s.2.2.2.1], .agg #[.int .i64 xm.kind, .int .i64 xm.whom, .int .i64 xm.term, .int .i64 xm.n, .int .i64 xm.op.kind, .string xm.op.name, .string xm.op.dest, .int .i64 xm.op.n, .string xm.op.text, .slice none 0 0], .bool z]), (38, .agg #[.bool xn.up, .int .i64 xn.term, .bool xn.leads, .bool xn.alone, .slice s.2.2.1 xn.ops.length s.2.2.2.1]), (39, .agg #[.int .i64 xm.kind, .int .i64 xm.whom, .int .i64 xm.term, .int .i64 xm.n, .int .i64 xm.op.kind, .string xm.op.name, .string xm.op.dest, .int .i64 xm.op.n, .string xm.op.text, .slice none 0 0]), (40, .bool z), (8, .pointer (some ⟨s.2.2.2.2, 0, none⟩))]) (fun s w' => Bel w2.drew w' ∧ (kOp.C w' s.1 n.ops.length n.ops) ∧ (OwnT w' w2.drew.heap.size (.slice s.2.2.1 xn.ops.length s.2.2.2.1) xn.ops) ∧ (Blk w' s.2.2.2.2 #[.bool false, .int .i64 0, .bool false, .bool false, .slice none 0 0] 25 ∧ w2.drew.heap.size ≤ s.2.2.2.2)) ?_ ?_
  rotate_left
  ·intro hJ1_4_5_10
   refine join_ (σ := Option Addr × Nat × Option Addr × Nat × Nat) 4 #[bT, bT, bT, bT, bT, bT, bT, bT, bT, bT, bF, bT, bF, bF, bF] (fun s => [(33, .agg #[.bool n.up, .int .i64 n.term, .bool n.leads, .bool n.alone, .slice s.1 n.ops.length s.2.1]), (36, .agg #[.int .i64 o.kind, .string o.name, .string o.dest, .int .i64 o.n, .string o.text]), (37, .tuple #[.agg #[.bool xn.up, .int .i64 xn.term, .bool xn.leads, .bool xn.alone, .slice s.2.2.1 xn.ops.length s.2.2.2.1], .agg #[.int .i64 xm.kind, .int .i64 xm.whom, .int .i64 xm.term, .int .i64 xm.n, .int .i64 xm.op.kind, .string xm.op.name, .string xm.op.dest, .int .i64 xm.op.n, .string xm.op.text, .slice none 0 0], .bool z]), (31, .tuple #[.agg #[.bool xn.up, .int .i64 xn.term, .bool xn.leads, .bool xn.alone, .slice s.2.2.1 xn.ops.length s.2.2.2.1], .agg #[.int .i64 xm.kind, .int .i64 xm.whom, .int .i64 xm.term, .int .i64 xm.n, .int .i64 xm.op.kind, .string xm.op.name, .string xm.op.dest, .int .i64 xm.op.n, .string xm.op.text, .slice none 0 0], .bool z]), (38, .agg #[.bool xn.up, .int .i64 xn.term, .bool xn.leads, .bool xn.alone, .slice s.2.2.1 xn.ops.length s.2.2.2.1]), (39, .agg #[.int .i64 xm.kind, .int .i64 xm.whom, .int .i64 xm.term, .int .i64 xm.n, .int .i64 xm.op.kind, .string xm.op.name, .string xm.op.dest, .int .i64 xm.op.n, .string xm.op.text, .slice none 0 0]), (40, .bool z), (9, .pointer (some ⟨s.2.2.2.2, 0, none⟩))]) (fun s w' => Bel w2.drew w' ∧ (kOp.C w' s.1 n.ops.length n.ops) ∧ (OwnT w' w2.drew.heap.size (.slice s.2.2.1 xn.ops.length s.2.2.2.1) xn.ops) ∧ (Blk w' s.2.2.2.2 #[.int .i64 0, .int .i64 0, .int .i64 0, .int .i64 0, .int .i64 0, .string ⟨#[]⟩, .string ⟨#[]⟩, .int .i64 0, .string ⟨#[]⟩, .slice none 0 0] 29 ∧ w2.drew.heap.size ≤ s.2.2.2.2)) ?_ ?_
   rotate_left
   ·intro hJ1_4_5_11
    refine join_ (σ := Option Addr × Nat × Nat × Nat) 8 #[bT, bT, bT, bT, bT, bF, bF, bF, bF, bF, bT, bT, bF, bF, bF] (fun s => [(33, .agg #[.bool n.up, .int .i64 n.term, .bool n.leads, .bool n.alone, .slice s.1 n.ops.length s.2.1]), (36, .agg #[.int .i64 o.kind, .string o.name, .string o.dest, .int .i64 o.n, .string o.text]), (8, .pointer (some ⟨s.2.2.1, 0, none⟩)), (9, .pointer (some ⟨s.2.2.2, 0, none⟩))]) (fun s w' => Bel w2.drew w' ∧ (kOp.C w' s.1 n.ops.length n.ops) ∧ (Blk w' s.2.2.1 #[.bool false, .int .i64 0, .bool false, .bool false, .slice none 0 0] 25 ∧ w2.drew.heap.size ≤ s.2.2.1) ∧ (Blk w' s.2.2.2 #[.int .i64 0, .int .i64 0, .int .i64 0, .int .i64 0, .int .i64 0, .string ⟨#[]⟩, .string ⟨#[]⟩, .int .i64 0, .string ⟨#[]⟩, .slice none 0 0] 29 ∧ w2.drew.heap.size ≤ s.2.2.2) ∧ (s.2.2.1 ≠ s.2.2.2)) ?_ ?_
    rotate_left
    ·intro hJ1_4_10_11
     refine join_ (σ := Option Addr × Nat × Option Addr × Nat) 5 #[bT, bT, bT, bT, bT, bT, bT, bT, bT, bT, bF, bF, bF, bF, bF] (fun s => [(33, .agg #[.bool n.up, .int .i64 n.term, .bool n.leads, .bool n.alone, .slice s.1 n.ops.length s.2.1]), (36, .agg #[.int .i64 o.kind, .string o.name, .string o.dest, .int .i64 o.n, .string o.text]), (37, .tuple #[.agg #[.bool xn.up, .int .i64 xn.term, .bool xn.leads, .bool xn.alone, .slice s.2.2.1 xn.ops.length s.2.2.2], .agg #[.int .i64 xm.kind, .int .i64 xm.whom, .int .i64 xm.term, .int .i64 xm.n, .int .i64 xm.op.kind, .string xm.op.name, .string xm.op.dest, .int .i64 xm.op.n, .string xm.op.text, .slice none 0 0], .bool z]), (31, .tuple #[.agg #[.bool xn.up, .int .i64 xn.term, .bool xn.leads, .bool xn.alone, .slice s.2.2.1 xn.ops.length s.2.2.2], .agg #[.int .i64 xm.kind, .int .i64 xm.whom, .int .i64 xm.term, .int .i64 xm.n, .int .i64 xm.op.kind, .string xm.op.name, .string xm.op.dest, .int .i64 xm.op.n, .string xm.op.text, .slice none 0 0], .bool z]), (38, .agg #[.bool xn.up, .int .i64 xn.term, .bool xn.leads, .bool xn.alone, .slice s.2.2.1 xn.ops.length s.2.2.2]), (39, .agg #[.int .i64 xm.kind, .int .i64 xm.whom, .int .i64 xm.term, .int .i64 xm.n, .int .i64 xm.op.kind, .string xm.op.name, .string xm.op.dest, .int .i64 xm.op.n, .string xm.op.text, .slice none 0 0]), (40, .bool z)]) (fun s w' => Bel w2.drew w' ∧ (kOp.C w' s.1 n.ops.length n.ops) ∧ (OwnT w' w2.drew.heap.size (.slice s.2.2.1 xn.ops.length s.2.2.2) xn.ops)) ?_ ?_
     rotate_left
     ·intro hJ1_4_5
      refine join_ (σ := Option Addr × Nat × Nat) 9 #[bT, bT, bT, bT, bT, bF, bF, bF, bF, bF, bT, bF, bF, bF, bF] (fun s => [(33, .agg #[.bool n.up, .int .i64 n.term, .bool n.leads, .bool n.alone, .slice s.1 n.ops.length s.2.1]), (36, .agg #[.int .i64 o.kind, .string o.name, .string o.dest, .int .i64 o.n, .string o.text]), (8, .pointer (some ⟨s.2.2, 0, none⟩))]) (fun s w' => Bel w2.drew w' ∧ (kOp.C w' s.1 n.ops.length n.ops) ∧ (Blk w' s.2.2 #[.bool false, .int .i64 0, .bool false, .bool false, .slice none 0 0] 25 ∧ w2.drew.heap.size ≤ s.2.2)) ?_ ?_
      rotate_left
      ·intro hJ1_4_10
       refine join_ (σ := Option Addr × Nat × Nat) 9 #[bT, bT, bT, bT, bT, bF, bF, bF, bF, bF, bF, bT, bF, bF, bF] (fun s => [(33, .agg #[.bool n.up, .int .i64 n.term, .bool n.leads, .bool n.alone, .slice s.1 n.ops.length s.2.1]), (36, .agg #[.int .i64 o.kind, .string o.name, .string o.dest, .int .i64 o.n, .string o.text]), (9, .pointer (some ⟨s.2.2, 0, none⟩))]) (fun s w' => Bel w2.drew w' ∧ (kOp.C w' s.1 n.ops.length n.ops) ∧ (Blk w' s.2.2 #[.int .i64 0, .int .i64 0, .int .i64 0, .int .i64 0, .int .i64 0, .string ⟨#[]⟩, .string ⟨#[]⟩, .int .i64 0, .string ⟨#[]⟩, .slice none 0 0] 29 ∧ w2.drew.heap.size ≤ s.2.2)) ?_ ?_
       rotate_left
       ·intro hJ1_4_11
        refine join_ (σ := Option Addr × Nat × Nat × Nat) 9 #[bT, bT, bT, bT, bF, bF, bF, bF, bF, bF, bT, bT, bF, bF, bF] (fun s => [(33, .agg #[.bool n.up, .int .i64 n.term, .bool n.leads, .bool n.alone, .slice s.1 n.ops.length s.2.1]), (8, .pointer (some ⟨s.2.2.1, 0, none⟩)), (9, .pointer (some ⟨s.2.2.2, 0, none⟩))]) (fun s w' => Bel w2.drew w' ∧ (kOp.C w' s.1 n.ops.length n.ops) ∧ (Blk w' s.2.2.1 #[.bool false, .int .i64 0, .bool false, .bool false, .slice none 0 0] 25 ∧ w2.drew.heap.size ≤ s.2.2.1) ∧ (Blk w' s.2.2.2 #[.int .i64 0, .int .i64 0, .int .i64 0, .int .i64 0, .int .i64 0, .string ⟨#[]⟩, .string ⟨#[]⟩, .int .i64 0, .string ⟨#[]⟩, .slice none 0 0] 29 ∧ w2.drew.heap.size ≤ s.2.2.2) ∧ (s.2.2.1 ≠ s.2.2.2)) ?_ ?_
        rotate_left
        ·intro hJ1_10_11
         refine join_ (σ := Option Addr × Nat) 10 #[bT, bT, bT, bT, bT, bF, bF, bF, bF, bF, bF, bF, bF, bF, bF] (fun s => [(33, .agg #[.bool n.up, .int .i64 n.term, .bool n.leads, .bool n.alone, .slice s.1 n.ops.length s.2]), (36, .agg #[.int .i64 o.kind, .string o.name, .string o.dest, .int .i64 o.n, .string o.text])]) (fun s w' => Bel w2.drew w' ∧ (kOp.C w' s.1 n.ops.length n.ops)) ?_ ?_
         rotate_left
         ·intro hJ1_4
          refine join_ (σ := Option Addr × Nat × Nat) 10 #[bT, bT, bT, bT, bF, bF, bF, bF, bF, bF, bT, bF, bF, bF, bF] (fun s => [(33, .agg #[.bool n.up, .int .i64 n.term, .bool n.leads, .bool n.alone, .slice s.1 n.ops.length s.2.1]), (8, .pointer (some ⟨s.2.2, 0, none⟩))]) (fun s w' => Bel w2.drew w' ∧ (kOp.C w' s.1 n.ops.length n.ops) ∧ (Blk w' s.2.2 #[.bool false, .int .i64 0, .bool false, .bool false, .slice none 0 0] 25 ∧ w2.drew.heap.size ≤ s.2.2)) ?_ ?_
          rotate_left
          ·intro hJ1_10
           refine join_ (σ := Option Addr × Nat × Nat) 10 #[bT, bT, bT, bT, bF, bF, bF, bF, bF, bF, bF, bT, bF, bF, bF] (fun s => [(33, .agg #[.bool n.up, .int .i64 n.term, .bool n.leads, .bool n.alone, .slice s.1 n.ops.length s.2.1]), (9, .pointer (some ⟨s.2.2, 0, none⟩))]) (fun s w' => Bel w2.drew w' ∧ (kOp.C w' s.1 n.ops.length n.ops) ∧ (Blk w' s.2.2 #[.int .i64 0, .int .i64 0, .int .i64 0, .int .i64 0, .int .i64 0, .string ⟨#[]⟩, .string ⟨#[]⟩, .int .i64 0, .string ⟨#[]⟩, .slice none 0 0] 29 ∧ w2.drew.heap.size ≤ s.2.2)) ?_ ?_
           rotate_left
           ·intro hJ1_11
            refine join_ (σ := Nat × Nat) 10 #[bT, bF, bT, bT, bF, bF, bF, bF, bF, bF, bT, bT, bF, bF, bF] (fun s => [(8, .pointer (some ⟨s.1, 0, none⟩)), (9, .pointer (some ⟨s.2, 0, none⟩))]) (fun s w' => Bel w2.drew w' ∧ (Blk w' s.1 #[.bool false, .int .i64 0, .bool false, .bool false, .slice none 0 0] 25 ∧ w2.drew.heap.size ≤ s.1) ∧ (Blk w' s.2 #[.int .i64 0, .int .i64 0, .int .i64 0, .int .i64 0, .int .i64 0, .string ⟨#[]⟩, .string ⟨#[]⟩, .int .i64 0, .string ⟨#[]⟩, .slice none 0 0] 29 ∧ w2.drew.heap.size ≤ s.2) ∧ (s.1 ≠ s.2)) ?_ ?_
            rotate_left
            ·intro hJ10_11
             refine join_ (σ := Option Addr × Nat) 11 #[bT, bT, bT, bT, bF, bF, bF, bF, bF, bF, bF, bF, bF, bF, bF] (fun s => [(33, .agg #[.bool n.up, .int .i64 n.term, .bool n.leads, .bool n.alone, .slice s.1 n.ops.length s.2])]) (fun s w' => Bel w2.drew w' ∧ (kOp.C w' s.1 n.ops.length n.ops)) ?_ ?_
             rotate_left
             ·intro hJ1
              refine join_ (σ := Nat) 11 #[bT, bF, bT, bT, bF, bF, bF, bF, bF, bF, bT, bF, bF, bF, bF] (fun s => [(8, .pointer (some ⟨s, 0, none⟩))]) (fun s w' => Bel w2.drew w' ∧ (Blk w' s #[.bool false, .int .i64 0, .bool false, .bool false, .slice none 0 0] 25 ∧ w2.drew.heap.size ≤ s)) ?_ ?_
              rotate_left
              ·intro hJ10
               refine join_ (σ := Nat) 11 #[bT, bF, bT, bT, bF, bF, bF, bF, bF, bF, bF, bT, bF, bF, bF] (fun s => [(9, .pointer (some ⟨s, 0, none⟩))]) (fun s w' => Bel w2.drew w' ∧ (Blk w' s #[.int .i64 0, .int .i64 0, .int .i64 0, .int .i64 0, .int .i64 0, .string ⟨#[]⟩, .string ⟨#[]⟩, .int .i64 0, .string ⟨#[]⟩, .slice none 0 0] 29 ∧ w2.drew.heap.size ≤ s)) ?_ ?_
               rotate_left
               ·intro hJ11
                refine three_ (i := 1) (j := 10) (k := 11) (Ni := some 33) (Nj := some 8) (Nk := some 9) #[bT, bT, bT, bT, bF, bF, bF, bF, bF, bF, bF, bF, bF, bF, bF] #[bT, bF, bT, bT, bF, bF, bF, bF, bF, bF, bT, bF, bF, bF, bF] #[bT, bF, bT, bT, bF, bF, bF, bF, bF, bF, bF, bT, bF, bF, bF] rfl rfl rfl rfl rfl rfl (by kernel_rfl) (by decide) (by decide) (by decide) (fun K hK => ?_) (fun K hK => ?_) (fun K hK => ?_)
                ·skip
                 refine goes_ Tryz.func41 (by kernel_rfl) rfl #[.agg #[.bool n.up, .int .i64 n.term, .bool n.leads, .bool n.alone, .slice A n.ops.length c]] (by rfl) rfl rfl (by simp only [List.map_toArray, List.map_cons, List.map_nil]; rfl) ?_
                 with_reducible refine (toNode_c (n := n) (c := c) (kOp_keep HC.out (Bel.tr KW.out (Below.refl _ _ : Bel w2.drew w2.drew))) HS.out.len).mono ?_
                 rintro e wn ⟨v, rfl, hoo, hbN⟩
                 obtain ⟨Xa, xa, rfl, -, hX1⟩ := hoo.reads
                 have gn1 := Lib.hid hX1
                 clear hoo hX1
                 have gb : Hid (Bel w2.drew wn) := Lib.hid (Below.trans (Below.refl _ _ : Bel w2.drew w2.drew) (Below.mono hbN (Below.size (Below.refl _ _ : Bel w2.drew w2.drew))))
                 clear hbN
                 refine ⟨_, rfl, ?_⟩
                 refine hK.out _ _ (HSF.out _ gb.out) (fun hHeld => ?_)
                 clear hK K
                 refine norm_ (a' := ?_) ?_ ?_
                 rotate_left
                 ·show Act.put _ (some 33) _ = _
                  simp only [Act.put, lA, lB, lC, i64_w, i32_w]
                  rfl
                 exact norm_ (by first | (simp only [putAll, Act.put, lA, lB, lC]; done) | (simp only [putAll, Act.put, lA, lB, lC]; rfl)) (hJ1 (Xa, xa) _ ⟨gb.out, gn1.out⟩)
                ·skip
                 refine value_ (w1 := ?_) (v := ?_) (by rfl) rfl ?_ ?_
                 rotate_left 2
                 ·go_simp
                  constructor
                  ·rfl
                  ·rfl
                 have hbN : Bel w2.drew (w2.alloc (.cells #[.bool false, .int .i64 0, .bool false, .bool false, .slice none 0 0] 25)).drew := bel_alloc (Below.refl _ _) _
                 have gb : Hid (Bel w2.drew (w2.alloc (.cells #[.bool false, .int .i64 0, .bool false, .bool false, .slice none 0 0] 25)).drew) := Lib.hid (Below.trans (Below.refl _ _ : Bel w2.drew w2.drew) (Below.mono hbN (Below.size (Below.refl _ _ : Bel w2.drew w2.drew))))
                 have gnb8 : Hid (Blk (w2.alloc (.cells #[.bool false, .int .i64 0, .bool false, .bool false, .slice none 0 0] 25)).drew w2.heap.size #[.bool false, .int .i64 0, .bool false, .bool false, .slice none 0 0] 25 ∧ w2.drew.heap.size ≤ w2.heap.size) := Lib.hid ⟨Blk.new _ _ _, Nat.le_refl _⟩
                 clear hbN
                 refine hK.out _ _ (HSF.out _ gb.out) (fun hHeld => ?_)
                 clear hK K
                 refine norm_ (a' := ?_) ?_ ?_
                 rotate_left
                 ·show Act.put _ (some 8) _ = _
                  simp only [Act.put, lA, lB, lC, i64_w, i32_w]
                  rfl
                 exact norm_ (by first | (simp only [putAll, Act.put, lA, lB, lC]; done) | (simp only [putAll, Act.put, lA, lB, lC]; rfl)) (hJ10 (w2.heap.size) _ ⟨gb.out, gnb8.out⟩)
                ·skip
                 refine value_ (w1 := ?_) (v := ?_) (by rfl) rfl ?_ ?_
                 rotate_left 2
                 ·go_simp
                  constructor
                  ·rfl
                  ·rfl
                 have hbN : Bel w2.drew (w2.alloc (.cells #[.int .i64 0, .int .i64 0, .int .i64 0, .int .i64 0, .int .i64 0, .string ⟨#[]⟩, .string ⟨#[]⟩, .int .i64 0, .string ⟨#[]⟩, .slice none 0 0] 29)).drew := bel_alloc (Below.refl _ _) _
                 have gb : Hid (Bel w2.drew (w2.alloc (.cells #[.int .i64 0, .int .i64 0, .int .i64 0, .int .i64 0, .int .i64 0, .string ⟨#[]⟩, .string ⟨#[]⟩, .int .i64 0, .string ⟨#[]⟩, .slice none 0 0] 29)).drew) := Lib.hid (Below.trans (Below.refl _ _ : Bel w2.drew w2.drew) (Below.mono hbN (Below.size (Below.refl _ _ : Bel w2.drew w2.drew))))
                 have gnb9 : Hid (Blk (w2.alloc (.cells #[.int .i64 0, .int .i64 0, .int .i64 0, .int .i64 0, .int .i64 0, .string ⟨#[]⟩, .string ⟨#[]⟩, .int .i64 0, .string ⟨#[]⟩, .slice none 0 0] 29)).drew w2.heap.size #[.int .i64 0, .int .i64 0, .int .i64 0, .int .i64 0, .int .i64 0, .string ⟨#[]⟩, .string ⟨#[]⟩, .int .i64 0, .string ⟨#[]⟩, .slice none 0 0] 29 ∧ w2.drew.heap.size ≤ w2.heap.size) := Lib.hid ⟨Blk.new _ _ _, Nat.le_refl _⟩
                 clear hbN
                 refine hK.out _ _ (HSF.out _ gb.out) (fun hHeld => ?_)
                 clear hK K
                 refine norm_ (a' := ?_) ?_ ?_
                 rotate_left
                 ·show Act.put _ (some 9) _ = _
                  simp only [Act.put, lA, lB, lC, i64_w, i32_w]
                  rfl
                 exact norm_ (by first | (simp only [putAll, Act.put, lA, lB, lC]; done) | (simp only [putAll, Act.put, lA, lB, lC]; rfl)) (hJ11 (w2.heap.size) _ ⟨gb.out, gnb9.out⟩)
               ·skip
                rintro nb9 wc ⟨hb, hnb9⟩
                try dsimp only at hnb9
                have hb := Lib.hid hb
                have fnb9 := Lib.hid hnb9
                clear hnb9
                refine norm_ (a' := ?_) ?_ ?_
                rotate_left
                ·simp only [putAll, Act.put, lA, lB, lC]
                 rfl
                refine two_ (i := 1) (j := 10) (Ni := some 33) (Nj := some 8) #[bT, bT, bT, bT, bF, bF, bF, bF, bF, bF, bF, bT, bF, bF, bF] #[bT, bF, bT, bT, bF, bF, bF, bF, bF, bF, bT, bT, bF, bF, bF] rfl rfl rfl rfl (by kernel_rfl) (by decide) (by decide) (fun K hK => ?_) (fun K hK => ?_)
                ·skip
                 refine goes_ Tryz.func41 (by kernel_rfl) rfl #[.agg #[.bool n.up, .int .i64 n.term, .bool n.leads, .bool n.alone, .slice A n.ops.length c]] (by rfl) rfl rfl (by simp only [List.map_toArray, List.map_cons, List.map_nil]; rfl) ?_
                 with_reducible refine (toNode_c (n := n) (c := c) (kOp_keep HC.out (Bel.tr KW.out hb.out)) HS.out.len).mono ?_
                 rintro e wn ⟨v, rfl, hoo, hbN⟩
                 obtain ⟨Xa, xa, rfl, -, hX1⟩ := hoo.reads
                 have gn1 := Lib.hid hX1
                 clear hoo hX1
                 have gb : Hid (Bel w2.drew wn) := Lib.hid (Below.trans hb.out (Below.mono hbN (Below.size hb.out)))
                 have gnb9 : Hid (Blk wn nb9 #[.int .i64 0, .int .i64 0, .int .i64 0, .int .i64 0, .int .i64 0, .string ⟨#[]⟩, .string ⟨#[]⟩, .int .i64 0, .string ⟨#[]⟩, .slice none 0 0] 29 ∧ w2.drew.heap.size ≤ nb9) := Lib.hid (⟨fnb9.out.1.bel hbN, fnb9.out.2⟩)
                 clear hbN
                 refine ⟨_, rfl, ?_⟩
                 refine hK.out _ _ (HSF.out _ gb.out) (fun hHeld => ?_)
                 clear hK K
                 refine norm_ (a' := ?_) ?_ ?_
                 rotate_left
                 ·show Act.put _ (some 33) _ = _
                  simp only [Act.put, lA, lB, lC, i64_w, i32_w]
                  rfl
                 exact norm_ (by first | (simp only [putAll, Act.put, lA, lB, lC]; done) | (simp only [putAll, Act.put, lA, lB, lC]; rfl)) (hJ1_11 (Xa, xa, nb9) _ ⟨gb.out, gn1.out, gnb9.out⟩)
                ·skip
                 refine value_ (w1 := ?_) (v := ?_) (by rfl) rfl ?_ ?_
                 rotate_left 2
                 ·go_simp
                  constructor
                  ·rfl
                  ·rfl
                 have hbN : Bel wc (wc.alloc (.cells #[.bool false, .int .i64 0, .bool false, .bool false, .slice none 0 0] 25)) := bel_alloc (Below.refl _ _) _
                 have gb : Hid (Bel w2.drew (wc.alloc (.cells #[.bool false, .int .i64 0, .bool false, .bool false, .slice none 0 0] 25))) := Lib.hid (Below.trans hb.out (Below.mono hbN (Below.size hb.out)))
                 have gnb9 : Hid (Blk (wc.alloc (.cells #[.bool false, .int .i64 0, .bool false, .bool false, .slice none 0 0] 25)) nb9 #[.int .i64 0, .int .i64 0, .int .i64 0, .int .i64 0, .int .i64 0, .string ⟨#[]⟩, .string ⟨#[]⟩, .int .i64 0, .string ⟨#[]⟩, .slice none 0 0] 29 ∧ w2.drew.heap.size ≤ nb9) := Lib.hid (⟨fnb9.out.1.bel hbN, fnb9.out.2⟩)
                 have gnb8 : Hid (Blk (wc.alloc (.cells #[.bool false, .int .i64 0, .bool false, .bool false, .slice none 0 0] 25)) wc.heap.size #[.bool false, .int .i64 0, .bool false, .bool false, .slice none 0 0] 25 ∧ w2.drew.heap.size ≤ wc.heap.size) := Lib.hid ⟨Blk.new _ _ _, Below.size hb.out⟩
                 have gne : Hid (wc.heap.size ≠ nb9) := Lib.hid (Nat.ne_of_gt fnb9.out.1.lt)
                 clear hbN
                 refine hK.out _ _ (HSF.out _ gb.out) (fun hHeld => ?_)
                 clear hK K
                 refine norm_ (a' := ?_) ?_ ?_
                 rotate_left
                 ·show Act.put _ (some 8) _ = _
                  simp only [Act.put, lA, lB, lC, i64_w, i32_w]
                  rfl
                 exact norm_ (by first | (simp only [putAll, Act.put, lA, lB, lC]; done) | (simp only [putAll, Act.put, lA, lB, lC]; rfl)) (hJ10_11 (wc.heap.size, nb9) _ ⟨gb.out, gnb8.out, gnb9.out, gne.out⟩)
              ·skip
               rintro nb8 wc ⟨hb, hnb8⟩
               try dsimp only at hnb8
               have hb := Lib.hid hb
               have fnb8 := Lib.hid hnb8
               clear hnb8
               refine norm_ (a' := ?_) ?_ ?_
               rotate_left
               ·simp only [putAll, Act.put, lA, lB, lC]
                rfl
               refine two_ (i := 1) (j := 11) (Ni := some 33) (Nj := some 9) #[bT, bT, bT, bT, bF, bF, bF, bF, bF, bF, bT, bF, bF, bF, bF] #[bT, bF, bT, bT, bF, bF, bF, bF, bF, bF, bT, bT, bF, bF, bF] rfl rfl rfl rfl (by kernel_rfl) (by decide) (by decide) (fun K hK => ?_) (fun K hK => ?_)
               ·skip
                refine goes_ Tryz.func41 (by kernel_rfl) rfl #[.agg #[.bool n.up, .int .i64 n.term, .bool n.leads, .bool n.alone, .slice A n.ops.length c]] (by rfl) rfl rfl (by simp only [List.map_toArray, List.map_cons, List.map_nil]; rfl) ?_
                with_reducible refine (toNode_c (n := n) (c := c) (kOp_keep HC.out (Bel.tr KW.out hb.out)) HS.out.len).mono ?_
                rintro e wn ⟨v, rfl, hoo, hbN⟩
                obtain ⟨Xa, xa, rfl, -, hX1⟩ := hoo.reads
                have gn1 := Lib.hid hX1
                clear hoo hX1
                have gb : Hid (Bel w2.drew wn) := Lib.hid (Below.trans hb.out (Below.mono hbN (Below.size hb.out)))
                have gnb8 : Hid (Blk wn nb8 #[.bool false, .int .i64 0, .bool false, .bool false, .slice none 0 0] 25 ∧ w2.drew.heap.size ≤ nb8) := Lib.hid (⟨fnb8.out.1.bel hbN, fnb8.out.2⟩)
                clear hbN
                refine ⟨_, rfl, ?_⟩
                refine hK.out _ _ (HSF.out _ gb.out) (fun hHeld => ?_)
                clear hK K
                refine norm_ (a' := ?_) ?_ ?_
                rotate_left
                ·show Act.put _ (some 33) _ = _
                 simp only [Act.put, lA, lB, lC, i64_w, i32_w]
                 rfl
                exact norm_ (by first | (simp only [putAll, Act.put, lA, lB, lC]; done) | (simp only [putAll, Act.put, lA, lB, lC]; rfl)) (hJ1_10 (Xa, xa, nb8) _ ⟨gb.out, gn1.out, gnb8.out⟩)
               ·skip
                refine value_ (w1 := ?_) (v := ?_) (by rfl) rfl ?_ ?_
                rotate_left 2
                ·go_simp
                 constructor
                 ·rfl
                 ·rfl
                have hbN : Bel wc (wc.alloc (.cells #[.int .i64 0, .int .i64 0, .int .i64 0, .int .i64 0, .int .i64 0, .string ⟨#[]⟩, .string ⟨#[]⟩, .int .i64 0, .string ⟨#[]⟩, .slice none 0 0] 29)) := bel_alloc (Below.refl _ _) _
                have gb : Hid (Bel w2.drew (wc.alloc (.cells #[.int .i64 0, .int .i64 0, .int .i64 0, .int .i64 0, .int .i64 0, .string ⟨#[]⟩, .string ⟨#[]⟩, .int .i64 0, .string ⟨#[]⟩, .slice none 0 0] 29))) := Lib.hid (Below.trans hb.out (Below.mono hbN (Below.size hb.out)))
                have gnb8 : Hid (Blk (wc.alloc (.cells #[.int .i64 0, .int .i64 0, .int .i64 0, .int .i64 0, .int .i64 0, .string ⟨#[]⟩, .string ⟨#[]⟩, .int .i64 0, .string ⟨#[]⟩, .slice none 0 0] 29)) nb8 #[.bool false, .int .i64 0, .bool false, .bool false, .slice none 0 0] 25 ∧ w2.drew.heap.size ≤ nb8) := Lib.hid (⟨fnb8.out.1.bel hbN, fnb8.out.2⟩)
                have gnb9 : Hid (Blk (wc.alloc (.cells #[.int .i64 0, .int .i64 0, .int .i64 0, .int .i64 0, .int .i64 0, .string ⟨#[]⟩, .string ⟨#[]⟩, .int .i64 0, .string ⟨#[]⟩, .slice none 0 0] 29)) wc.heap.size #[.int .i64 0, .int .i64 0, .int .i64 0, .int .i64 0, .int .i64 0, .string ⟨#[]⟩, .string ⟨#[]⟩, .int .i64 0, .string ⟨#[]⟩, .slice none 0 0] 29 ∧ w2.drew.heap.size ≤ wc.heap.size) := Lib.hid ⟨Blk.new _ _ _, Below.size hb.out⟩
                have gne : Hid (nb8 ≠ wc.heap.size) := Lib.hid (Nat.ne_of_lt fnb8.out.1.lt)
                clear hbN
                refine hK.out _ _ (HSF.out _ gb.out) (fun hHeld => ?_)
                clear hK K
                refine norm_ (a' := ?_) ?_ ?_
                rotate_left
                ·show Act.put _ (some 9) _ = _
                 simp only [Act.put, lA, lB, lC, i64_w, i32_w]
                 rfl
                exact norm_ (by first | (simp only [putAll, Act.put, lA, lB, lC]; done) | (simp only [putAll, Act.put, lA, lB, lC]; rfl)) (hJ10_11 (nb8, wc.heap.size) _ ⟨gb.out, gnb8.out, gnb9.out, gne.out⟩)
             ·skip
              rintro ⟨Xa, xa⟩ wc ⟨hb, hn1⟩
              try dsimp only at hn1
              have hb := Lib.hid hb
              have fn1 := Lib.hid hn1
              clear hn1
              refine norm_ (a' := ?_) ?_ ?_
              rotate_left
              ·simp only [putAll, Act.put, lA, lB, lC]
               rfl
              refine three_ (i := 4) (j := 10) (k := 11) (Ni := some 36) (Nj := some 8) (Nk := some 9) #[bT, bT, bT, bT, bT, bF, bF, bF, bF, bF, bF, bF, bF, bF, bF] #[bT, bT, bT, bT, bF, bF, bF, bF, bF, bF, bT, bF, bF, bF, bF] #[bT, bT, bT, bT, bF, bF, bF, bF, bF, bF, bF, bT, bF, bF, bF] rfl rfl rfl rfl rfl rfl (by kernel_rfl) (by decide) (by decide) (by decide) (fun K hK => ?_) (fun K hK => ?_) (fun K hK => ?_)
              ·skip
               refine goes_ Tryz.func42 (by kernel_rfl) rfl #[.agg #[.int .i64 o.kind, .string o.name, .string o.dest, .int .i64 o.n, .string o.text]] (by rfl) rfl rfl (by simp only [List.map_toArray, List.map_cons, List.map_nil]; rfl) ?_
               with_reducible refine (toOp_c o _).mono ?_
               rintro e wn ⟨rfl, hbN⟩
               have gb : Hid (Bel w2.drew wn) := Lib.hid (Below.trans hb.out (Below.mono hbN (Below.size hb.out)))
               have gn1 : Hid (kOp.C wn Xa n.ops.length n.ops) := Lib.hid (kOp_keep fn1.out hbN)
               clear hbN
               refine ⟨_, rfl, ?_⟩
               refine hK.out _ _ (HSF.out _ gb.out) (fun hHeld => ?_)
               clear hK K
               refine norm_ (a' := ?_) ?_ ?_
               rotate_left
               ·show Act.put _ (some 36) _ = _
                simp only [Act.put, lA, lB, lC, i64_w, i32_w]
                rfl
               exact norm_ (by first | (simp only [putAll, Act.put, lA, lB, lC]; done) | (simp only [putAll, Act.put, lA, lB, lC]; rfl)) (hJ1_4 (Xa, xa) _ ⟨gb.out, gn1.out⟩)
              ·skip
               refine value_ (w1 := ?_) (v := ?_) (by rfl) rfl ?_ ?_
               rotate_left 2
               ·go_simp
                constructor
                ·rfl
                ·rfl
               have hbN : Bel wc (wc.alloc (.cells #[.bool false, .int .i64 0, .bool false, .bool false, .slice none 0 0] 25)) := bel_alloc (Below.refl _ _) _
               have gb : Hid (Bel w2.drew (wc.alloc (.cells #[.bool false, .int .i64 0, .bool false, .bool false, .slice none 0 0] 25))) := Lib.hid (Below.trans hb.out (Below.mono hbN (Below.size hb.out)))
               have gn1 : Hid (kOp.C (wc.alloc (.cells #[.bool false, .int .i64 0, .bool false, .bool false, .slice none 0 0] 25)) Xa n.ops.length n.ops) := Lib.hid (kOp_keep fn1.out hbN)
               have gnb8 : Hid (Blk (wc.alloc (.cells #[.bool false, .int .i64 0, .bool false, .bool false, .slice none 0 0] 25)) wc.heap.size #[.bool false, .int .i64 0, .bool false, .bool false, .slice none 0 0] 25 ∧ w2.drew.heap.size ≤ wc.heap.size) := Lib.hid ⟨Blk.new _ _ _, Below.size hb.out⟩
               clear hbN
               refine hK.out _ _ (HSF.out _ gb.out) (fun hHeld => ?_)
               clear hK K
               refine norm_ (a' := ?_) ?_ ?_
               rotate_left
               ·show Act.put _ (some 8) _ = _
                simp only [Act.put, lA, lB, lC, i64_w, i32_w]
                rfl
               exact norm_ (by first | (simp only [putAll, Act.put, lA, lB, lC]; done) | (simp only [putAll, Act.put, lA, lB, lC]; rfl)) (hJ1_10 (Xa, xa, wc.heap.size) _ ⟨gb.out, gn1.out, gnb8.out⟩)
              ·skip
               refine value_ (w1 := ?_) (v := ?_) (by rfl) rfl ?_ ?_
               rotate_left 2
               ·go_simp
                constructor
                ·rfl
                ·rfl
               have hbN : Bel wc (wc.alloc (.cells #[.int .i64 0, .int .i64 0, .int .i64 0, .int .i64 0, .int .i64 0, .string ⟨#[]⟩, .string ⟨#[]⟩, .int .i64 0, .string ⟨#[]⟩, .slice none 0 0] 29)) := bel_alloc (Below.refl _ _) _
               have gb : Hid (Bel w2.drew (wc.alloc (.cells #[.int .i64 0, .int .i64 0, .int .i64 0, .int .i64 0, .int .i64 0, .string ⟨#[]⟩, .string ⟨#[]⟩, .int .i64 0, .string ⟨#[]⟩, .slice none 0 0] 29))) := Lib.hid (Below.trans hb.out (Below.mono hbN (Below.size hb.out)))
               have gn1 : Hid (kOp.C (wc.alloc (.cells #[.int .i64 0, .int .i64 0, .int .i64 0, .int .i64 0, .int .i64 0, .string ⟨#[]⟩, .string ⟨#[]⟩, .int .i64 0, .string ⟨#[]⟩, .slice none 0 0] 29)) Xa n.ops.length n.ops) := Lib.hid (kOp_keep fn1.out hbN)
               have gnb9 : Hid (Blk (wc.alloc (.cells #[.int .i64 0, .int .i64 0, .int .i64 0, .int .i64 0, .int .i64 0, .string ⟨#[]⟩, .string ⟨#[]⟩, .int .i64 0, .string ⟨#[]⟩, .slice none 0 0] 29)) wc.heap.size #[.int .i64 0, .int .i64 0, .int .i64 0, .int .i64 0, .int .i64 0, .string ⟨#[]⟩, .string ⟨#[]⟩, .int .i64 0, .string ⟨#[]⟩, .slice none 0 0] 29 ∧ w2.drew.heap.size ≤ wc.heap.size) := Lib.hid ⟨Blk.new _ _ _, Below.size hb.out⟩
               clear hbN
               refine hK.out _ _ (HSF.out _ gb.out) (fun hHeld => ?_)
               clear hK K
               refine norm_ (a' := ?_) ?_ ?_
               rotate_left
               ·show Act.put _ (some 9) _ = _
                simp only [Act.put, lA, lB, lC, i64_w, i32_w]
                rfl
               exact norm_ (by first | (simp only [putAll, Act.put, lA, lB, lC]; done) | (simp only [putAll, Act.put, lA, lB, lC]; rfl)) (hJ1_11 (Xa, xa, wc.heap.size) _ ⟨gb.out, gn1.out, gnb9.out⟩)
            ·skip
             rintro ⟨nb8, nb9⟩ wc ⟨hb, hnb8, hnb9, hne⟩
             try dsimp only at hnb8
             try dsimp only at hnb9
             try dsimp only at hne
             have hb := Lib.hid hb
             have fnb8 := Lib.hid hnb8
             have fnb9 := Lib.hid hnb9
             have fne := Lib.hid hne
             clear hnb8 hnb9 hne
             refine norm_ (a' := ?_) ?_ ?_
             rotate_left
             ·simp only [putAll, Act.put, lA, lB, lC]
              rfl
             refine one_ (i := 1) (N := some 33) #[bT, bT, bT, bT, bF, bF, bF, bF, bF, bF, bT, bT, bF, bF, bF] rfl rfl (by kernel_rfl) (by decide) (fun K hK => ?_)
             refine goes_ Tryz.func41 (by kernel_rfl) rfl #[.agg #[.bool n.up, .int .i64 n.term, .bool n.leads, .bool n.alone, .slice A n.ops.length c]] (by rfl) rfl rfl (by simp only [List.map_toArray, List.map_cons, List.map_nil]; rfl) ?_
             with_reducible refine (toNode_c (n := n) (c := c) (kOp_keep HC.out (Bel.tr KW.out hb.out)) HS.out.len).mono ?_
             rintro e wn ⟨v, rfl, hoo, hbN⟩
             obtain ⟨Xa, xa, rfl, -, hX1⟩ := hoo.reads
             have gn1 := Lib.hid hX1
             clear hoo hX1
             have gb : Hid (Bel w2.drew wn) := Lib.hid (Below.trans hb.out (Below.mono hbN (Below.size hb.out)))
             have gnb8 : Hid (Blk wn nb8 #[.bool false, .int .i64 0, .bool false, .bool false, .slice none 0 0] 25 ∧ w2.drew.heap.size ≤ nb8) := Lib.hid (⟨fnb8.out.1.bel hbN, fnb8.out.2⟩)
             have gnb9 : Hid (Blk wn nb9 #[.int .i64 0, .int .i64 0, .int .i64 0, .int .i64 0, .int .i64 0, .string ⟨#[]⟩, .string ⟨#[]⟩, .int .i64 0, .string ⟨#[]⟩, .slice none 0 0] 29 ∧ w2.drew.heap.size ≤ nb9) := Lib.hid (⟨fnb9.out.1.bel hbN, fnb9.out.2⟩)
             have gne := fne
             clear hbN
             refine ⟨_, rfl, ?_⟩
             refine hK.out _ _ (HSF.out _ gb.out) (fun hHeld => ?_)
             clear hK K
             refine norm_ (a' := ?_) ?_ ?_
             rotate_left
             ·show Act.put _ (some 33) _ = _
              simp only [Act.put, lA, lB, lC, i64_w, i32_w]
              rfl
             exact norm_ (by first | (simp only [putAll, Act.put, lA, lB, lC]; done) | (simp only [putAll, Act.put, lA, lB, lC]; rfl)) (hJ1_10_11 (Xa, xa, nb8, nb9) _ ⟨gb.out, gn1.out, gnb8.out, gnb9.out, gne.out⟩)
           ·skip
            rintro ⟨Xa, xa, nb9⟩ wc ⟨hb, hn1, hnb9⟩
            try dsimp only at hn1
            try dsimp only at hnb9
            have hb := Lib.hid hb
            have fn1 := Lib.hid hn1
            have fnb9 := Lib.hid hnb9
            clear hn1 hnb9
            refine norm_ (a' := ?_) ?_ ?_
            rotate_left
            ·simp only [putAll, Act.put, lA, lB, lC]
             rfl
            refine two_ (i := 4) (j := 10) (Ni := some 36) (Nj := some 8) #[bT, bT, bT, bT, bT, bF, bF, bF, bF, bF, bF, bT, bF, bF, bF] #[bT, bT, bT, bT, bF, bF, bF, bF, bF, bF, bT, bT, bF, bF, bF] rfl rfl rfl rfl (by kernel_rfl) (by decide) (by decide) (fun K hK => ?_) (fun K hK => ?_)
            ·skip
             refine goes_ Tryz.func42 (by kernel_rfl) rfl #[.agg #[.int .i64 o.kind, .string o.name, .string o.dest, .int .i64 o.n, .string o.text]] (by rfl) rfl rfl (by simp only [List.map_toArray, List.map_cons, List.map_nil]; rfl) ?_
             with_reducible refine (toOp_c o _).mono ?_
             rintro e wn ⟨rfl, hbN⟩
             have gb : Hid (Bel w2.drew wn) := Lib.hid (Below.trans hb.out (Below.mono hbN (Below.size hb.out)))
             have gn1 : Hid (kOp.C wn Xa n.ops.length n.ops) := Lib.hid (kOp_keep fn1.out hbN)
             have gnb9 : Hid (Blk wn nb9 #[.int .i64 0, .int .i64 0, .int .i64 0, .int .i64 0, .int .i64 0, .string ⟨#[]⟩, .string ⟨#[]⟩, .int .i64 0, .string ⟨#[]⟩, .slice none 0 0] 29 ∧ w2.drew.heap.size ≤ nb9) := Lib.hid (⟨fnb9.out.1.bel hbN, fnb9.out.2⟩)
             clear hbN
             refine ⟨_, rfl, ?_⟩
             refine hK.out _ _ (HSF.out _ gb.out) (fun hHeld => ?_)
             clear hK K
             refine norm_ (a' := ?_) ?_ ?_
             rotate_left
             ·show Act.put _ (some 36) _ = _
              simp only [Act.put, lA, lB, lC, i64_w, i32_w]
              rfl
             exact norm_ (by first | (simp only [putAll, Act.put, lA, lB, lC]; done) | (simp only [putAll, Act.put, lA, lB, lC]; rfl)) (hJ1_4_11 (Xa, xa, nb9) _ ⟨gb.out, gn1.out, gnb9.out⟩)
            ·skip
             refine value_ (w1 := ?_) (v := ?_) (by rfl) rfl ?_ ?_
             rotate_left 2
             ·go_simp
              constructor
              ·rfl
              ·rfl
             have hbN : Bel wc (wc.alloc (.cells #[.bool false, .int .i64 0, .bool false, .bool false, .slice none 0 0] 25)) := bel_alloc (Below.refl _ _) _
             have gb : Hid (Bel w2.drew (wc.alloc (.cells #[.bool false, .int .i64 0, .bool false, .bool false, .slice none 0 0] 25))) := Lib.hid (Below.trans hb.out (Below.mono hbN (Below.size hb.out)))
             have gn1 : Hid (kOp.C (wc.alloc (.cells #[.bool false, .int .i64 0, .bool false, .bool false, .slice none 0 0] 25)) Xa n.ops.length n.ops) := Lib.hid (kOp_keep fn1.out hbN)
             have gnb9 : Hid (Blk (wc.alloc (.cells #[.bool false, .int .i64 0, .bool false, .bool false, .slice none 0 0] 25)) nb9 #[.int .i64 0, .int .i64 0, .int .i64 0, .int .i64 0, .int .i64 0, .string ⟨#[]⟩, .string ⟨#[]⟩, .int .i64 0, .string ⟨#[]⟩, .slice none 0 0] 29 ∧ w2.drew.heap.size ≤ nb9) := Lib.hid (⟨fnb9.out.1.bel hbN, fnb9.out.2⟩)
             have gnb8 : Hid (Blk (wc.alloc (.cells #[.bool false, .int .i64 0, .bool false, .bool false, .slice none 0 0] 25)) wc.heap.size #[.bool false, .int .i64 0, .bool false, .bool false, .slice none 0 0] 25 ∧ w2.drew.heap.size ≤ wc.heap.size) := Lib.hid ⟨Blk.new _ _ _, Below.size hb.out⟩
             have gne : Hid (wc.heap.size ≠ nb9) := Lib.hid (Nat.ne_of_gt fnb9.out.1.lt)
             clear hbN
             refine hK.out _ _ (HSF.out _ gb.out) (fun hHeld => ?_)
             clear hK K
             refine norm_ (a' := ?_) ?_ ?_
             rotate_left
             ·show Act.put _ (some 8) _ = _
              simp only [Act.put, lA, lB, lC, i64_w, i32_w]
              rfl
             exact norm_ (by first | (simp only [putAll, Act.put, lA, lB, lC]; done) | (simp only [putAll, Act.put, lA, lB, lC]; rfl)) (hJ1_10_11 (Xa, xa, wc.heap.size, nb9) _ ⟨gb.out, gn1.out, gnb8.out, gnb9.out, gne.out⟩)
          ·skip
           rintro ⟨Xa, xa, nb8⟩ wc ⟨hb, hn1, hnb8⟩
           try dsimp only at hn1
           try dsimp only at hnb8
           have hb := Lib.hid hb
           have fn1 := Lib.hid hn1
           have fnb8 := Lib.hid hnb8
           clear hn1 hnb8
           refine norm_ (a' := ?_) ?_ ?_
           rotate_left
           ·simp only [putAll, Act.put, lA, lB, lC]
            rfl
           refine two_ (i := 4) (j := 11) (Ni := some 36) (Nj := some 9) #[bT, bT, bT, bT, bT, bF, bF, bF, bF, bF, bT, bF, bF, bF, bF] #[bT, bT, bT, bT, bF, bF, bF, bF, bF, bF, bT, bT, bF, bF, bF] rfl rfl rfl rfl (by kernel_rfl) (by decide) (by decide) (fun K hK => ?_) (fun K hK => ?_)
           ·skip
            refine goes_ Tryz.func42 (by kernel_rfl) rfl #[.agg #[.int .i64 o.kind, .string o.name, .string o.dest, .int .i64 o.n, .string o.text]] (by rfl) rfl rfl (by simp only [List.map_toArray, List.map_cons, List.map_nil]; rfl) ?_
            with_reducible refine (toOp_c o _).mono ?_
            rintro e wn ⟨rfl, hbN⟩
            have gb : Hid (Bel w2.drew wn) := Lib.hid (Below.trans hb.out (Below.mono hbN (Below.size hb.out)))
            have gn1 : Hid (kOp.C wn Xa n.ops.length n.ops) := Lib.hid (kOp_keep fn1.out hbN)
            have gnb8 : Hid (Blk wn nb8 #[.bool false, .int .i64 0, .bool false, .bool false, .slice none 0 0] 25 ∧ w2.drew.heap.size ≤ nb8) := Lib.hid (⟨fnb8.out.1.bel hbN, fnb8.out.2⟩)
            clear hbN
            refine ⟨_, rfl, ?_⟩
            refine hK.out _ _ (HSF.out _ gb.out) (fun hHeld => ?_)
            clear hK K
            refine norm_ (a' := ?_) ?_ ?_
            rotate_left
            ·show Act.put _ (some 36) _ = _
             simp only [Act.put, lA, lB, lC, i64_w, i32_w]
             rfl
            exact norm_ (by first | (simp only [putAll, Act.put, lA, lB, lC]; done) | (simp only [putAll, Act.put, lA, lB, lC]; rfl)) (hJ1_4_10 (Xa, xa, nb8) _ ⟨gb.out, gn1.out, gnb8.out⟩)
           ·skip
            refine value_ (w1 := ?_) (v := ?_) (by rfl) rfl ?_ ?_
            rotate_left 2
            ·go_simp
             constructor
             ·rfl
             ·rfl
            have hbN : Bel wc (wc.alloc (.cells #[.int .i64 0, .int .i64 0, .int .i64 0, .int .i64 0, .int .i64 0, .string ⟨#[]⟩, .string ⟨#[]⟩, .int .i64 0, .string ⟨#[]⟩, .slice none 0 0] 29)) := bel_alloc (Below.refl _ _) _
            have gb : Hid (Bel w2.drew (wc.alloc (.cells #[.int .i64 0, .int .i64 0, .int .i64 0, .int .i64 0, .int .i64 0, .string ⟨#[]⟩, .string ⟨#[]⟩, .int .i64 0, .string ⟨#[]⟩, .slice none 0 0] 29))) := Lib.hid (Below.trans hb.out (Below.mono hbN (Below.size hb.out)))
            have gn1 : Hid (kOp.C (wc.alloc (.cells #[.int .i64 0, .int .i64 0, .int .i64 0, .int .i64 0, .int .i64 0, .string ⟨#[]⟩, .string ⟨#[]⟩, .int .i64 0, .string ⟨#[]⟩, .slice none 0 0] 29)) Xa n.ops.length n.ops) := Lib.hid (kOp_keep fn1.out hbN)
            have gnb8 : Hid (Blk (wc.alloc (.cells #[.int .i64 0, .int .i64 0, .int .i64 0, .int .i64 0, .int .i64 0, .string ⟨#[]⟩, .string ⟨#[]⟩, .int .i64 0, .string ⟨#[]⟩, .slice none 0 0] 29)) nb8 #[.bool false, .int .i64 0, .bool false, .bool false, .slice none 0 0] 25 ∧ w2.drew.heap.size ≤ nb8) := Lib.hid (⟨fnb8.out.1.bel hbN, fnb8.out.2⟩)
            have gnb9 : Hid (Blk (wc.alloc (.cells #[.int .i64 0, .int .i64 0, .int .i64 0, .int .i64 0, .int .i64 0, .string ⟨#[]⟩, .string ⟨#[]⟩, .int .i64 0, .string ⟨#[]⟩, .slice none 0 0] 29)) wc.heap.size #[.int .i64 0, .int .i64 0, .int .i64 0, .int .i64 0, .int .i64 0, .string ⟨#[]⟩, .string ⟨#[]⟩, .int .i64 0, .string ⟨#[]⟩, .slice none 0 0] 29 ∧ w2.drew.heap.size ≤ wc.heap.size) := Lib.hid ⟨Blk.new _ _ _, Below.size hb.out⟩
            have gne : Hid (nb8 ≠ wc.heap.size) := Lib.hid (Nat.ne_of_lt fnb8.out.1.lt)
            clear hbN
            refine hK.out _ _ (HSF.out _ gb.out) (fun hHeld => ?_)
            clear hK K
            refine norm_ (a' := ?_) ?_ ?_
            rotate_left
            ·show Act.put _ (some 9) _ = _
             simp only [Act.put, lA, lB, lC, i64_w, i32_w]
             rfl
            exact norm_ (by first | (simp only [putAll, Act.put, lA, lB, lC]; done) | (simp only [putAll, Act.put, lA, lB, lC]; rfl)) (hJ1_10_11 (Xa, xa, nb8, wc.heap.size) _ ⟨gb.out, gn1.out, gnb8.out, gnb9.out, gne.out⟩)
         ·skip
          rintro ⟨Xa, xa⟩ wc ⟨hb, hn1⟩
          try dsimp only at hn1
          have hb := Lib.hid hb
          have fn1 := Lib.hid hn1
          clear hn1
          refine norm_ (a' := ?_) ?_ ?_
          rotate_left
          ·simp only [putAll, Act.put, lA, lB, lC]
           rfl
          refine three_ (i := 5) (j := 10) (k := 11) (Ni := some 37) (Nj := some 8) (Nk := some 9) #[bT, bT, bT, bT, bT, bT, bF, bF, bF, bF, bF, bF, bF, bF, bF] #[bT, bT, bT, bT, bT, bF, bF, bF, bF, bF, bT, bF, bF, bF, bF] #[bT, bT, bT, bT, bT, bF, bF, bF, bF, bF, bF, bT, bF, bF, bF] rfl rfl rfl rfl rfl rfl (by kernel_rfl) (by decide) (by decide) (by decide) (fun K hK => ?_) (fun K hK => ?_) (fun K hK => ?_)
          ·skip
           refine goes_ Tryz.func40 (by kernel_rfl) rfl #[.agg #[.bool n.up, .int .i64 n.term, .bool n.leads, .bool n.alone, .slice Xa n.ops.length xa], .int .i64 id, .agg #[.int .i64 o.kind, .string o.name, .string o.dest, .int .i64 o.n, .string o.text]] (by rfl) rfl rfl (by simp only [List.map_toArray, List.map_cons, List.map_nil]; rfl) ?_
           with_reducible refine (hsp.out _ fn1.out).mono ?_
           rintro e wn ⟨v, rfl, hoo, hbN⟩
           obtain ⟨E0, f0, rfl, -, -⟩ := hoo.reads
           have gas : Hid (OwnT wn w2.drew.heap.size (.slice E0 xn.ops.length f0) xn.ops) := Lib.hid (OwnT.lower hoo (Below.size hb.out))
           clear hoo
           have gb : Hid (Bel w2.drew wn) := Lib.hid (Below.trans hb.out (Below.mono hbN (Below.size hb.out)))
           have gn1 : Hid (kOp.C wn Xa n.ops.length n.ops) := Lib.hid (kOp_keep fn1.out hbN)
           clear hbN
           refine ⟨_, rfl, ?_⟩
           refine hK.out _ _ (HSF.out _ gb.out) (fun hHeld => ?_)
           clear hK K
           refine norm_ (a' := ?_) ?_ ?_
           rotate_left
           ·show Act.put _ (some 37) _ = _
            simp only [Act.put, lA, lB, lC, i64_w, i32_w]
            rfl
           refine pure_ (i := 6) (N := some 31) (v := ?_) (a' := ?_) #[bT, bT, bT, bT, bT, bT, bT, bF, bF, bF, bF, bF, bF, bF, bF] rfl rfl (by kernel_rfl) (fun _ _ _ h => h) (Or.inl ⟨by rfl, ?_⟩) ?_ ?_
           rotate_left
           ·intro w'
            go_simp
            with_reducible rfl
           rotate_left
           ·simp only [Act.put, lA, lB, lC, i64_w, i32_w]
            rfl
           refine pure_ (i := 7) (N := some 38) (v := ?_) (a' := ?_) #[bT, bT, bT, bT, bT, bT, bT, bT, bF, bF, bF, bF, bF, bF, bF] rfl rfl (by kernel_rfl) (fun _ _ _ h => h) (Or.inl ⟨by rfl, ?_⟩) ?_ ?_
           rotate_left
           ·intro w'
            go_simp
            with_reducible rfl
           rotate_left
           ·simp only [Act.put, lA, lB, lC, i64_w, i32_w]
            rfl
           refine pure_ (i := 8) (N := some 39) (v := ?_) (a' := ?_) #[bT, bT, bT, bT, bT, bT, bT, bT, bT, bF, bF, bF, bF, bF, bF] rfl rfl (by kernel_rfl) (fun _ _ _ h => h) (Or.inl ⟨by rfl, ?_⟩) ?_ ?_
           rotate_left
           ·intro w'
            go_simp
            with_reducible rfl
           rotate_left
           ·simp only [Act.put, lA, lB, lC, i64_w, i32_w]
            rfl
           refine pure_ (i := 9) (N := some 40) (v := ?_) (a' := ?_) #[bT, bT, bT, bT, bT, bT, bT, bT, bT, bT, bF, bF, bF, bF, bF] rfl rfl (by kernel_rfl) (fun _ _ _ h => h) (Or.inl ⟨by rfl, ?_⟩) ?_ ?_
           rotate_left
           ·intro w'
            go_simp
            with_reducible rfl
           rotate_left
           ·simp only [Act.put, lA, lB, lC, i64_w, i32_w]
            rfl
           exact norm_ (by first | (simp only [putAll, Act.put, lA, lB, lC]; done) | (simp only [putAll, Act.put, lA, lB, lC]; rfl)) (hJ1_4_5 (Xa, xa, E0, f0) _ ⟨gb.out, gn1.out, gas.out⟩)
          ·skip
           refine value_ (w1 := ?_) (v := ?_) (by rfl) rfl ?_ ?_
           rotate_left 2
           ·go_simp
            constructor
            ·rfl
            ·rfl
           have hbN : Bel wc (wc.alloc (.cells #[.bool false, .int .i64 0, .bool false, .bool false, .slice none 0 0] 25)) := bel_alloc (Below.refl _ _) _
           have gb : Hid (Bel w2.drew (wc.alloc (.cells #[.bool false, .int .i64 0, .bool false, .bool false, .slice none 0 0] 25))) := Lib.hid (Below.trans hb.out (Below.mono hbN (Below.size hb.out)))
           have gn1 : Hid (kOp.C (wc.alloc (.cells #[.bool false, .int .i64 0, .bool false, .bool false, .slice none 0 0] 25)) Xa n.ops.length n.ops) := Lib.hid (kOp_keep fn1.out hbN)
           have gnb8 : Hid (Blk (wc.alloc (.cells #[.bool false, .int .i64 0, .bool false, .bool false, .slice none 0 0] 25)) wc.heap.size #[.bool false, .int .i64 0, .bool false, .bool false, .slice none 0 0] 25 ∧ w2.drew.heap.size ≤ wc.heap.size) := Lib.hid ⟨Blk.new _ _ _, Below.size hb.out⟩
           clear hbN
           refine hK.out _ _ (HSF.out _ gb.out) (fun hHeld => ?_)
           clear hK K
           refine norm_ (a' := ?_) ?_ ?_
           rotate_left
           ·show Act.put _ (some 8) _ = _
            simp only [Act.put, lA, lB, lC, i64_w, i32_w]
            rfl
           exact norm_ (by first | (simp only [putAll, Act.put, lA, lB, lC]; done) | (simp only [putAll, Act.put, lA, lB, lC]; rfl)) (hJ1_4_10 (Xa, xa, wc.heap.size) _ ⟨gb.out, gn1.out, gnb8.out⟩)
          ·skip
           refine value_ (w1 := ?_) (v := ?_) (by rfl) rfl ?_ ?_
           rotate_left 2
           ·go_simp
            constructor
            ·rfl
            ·rfl
           have hbN : Bel wc (wc.alloc (.cells #[.int .i64 0, .int .i64 0, .int .i64 0, .int .i64 0, .int .i64 0, .string ⟨#[]⟩, .string ⟨#[]⟩, .int .i64 0, .string ⟨#[]⟩, .slice none 0 0] 29)) := bel_alloc (Below.refl _ _) _
           have gb : Hid (Bel w2.drew (wc.alloc (.cells #[.int .i64 0, .int .i64 0, .int .i64 0, .int .i64 0, .int .i64 0, .string ⟨#[]⟩, .string ⟨#[]⟩, .int .i64 0, .string ⟨#[]⟩, .slice none 0 0] 29))) := Lib.hid (Below.trans hb.out (Below.mono hbN (Below.size hb.out)))
           have gn1 : Hid (kOp.C (wc.alloc (.cells #[.int .i64 0, .int .i64 0, .int .i64 0, .int .i64 0, .int .i64 0, .string ⟨#[]⟩, .string ⟨#[]⟩, .int .i64 0, .string ⟨#[]⟩, .slice none 0 0] 29)) Xa n.ops.length n.ops) := Lib.hid (kOp_keep fn1.out hbN)
           have gnb9 : Hid (Blk (wc.alloc (.cells #[.int .i64 0, .int .i64 0, .int .i64 0, .int .i64 0, .int .i64 0, .string ⟨#[]⟩, .string ⟨#[]⟩, .int .i64 0, .string ⟨#[]⟩, .slice none 0 0] 29)) wc.heap.size #[.int .i64 0, .int .i64 0, .int .i64 0, .int .i64 0, .int .i64 0, .string ⟨#[]⟩, .string ⟨#[]⟩, .int .i64 0, .string ⟨#[]⟩, .slice none 0 0] 29 ∧ w2.drew.heap.size ≤ wc.heap.size) := Lib.hid ⟨Blk.new _ _ _, Below.size hb.out⟩
           clear hbN
           refine hK.out _ _ (HSF.out _ gb.out) (fun hHeld => ?_)
           clear hK K
           refine norm_ (a' := ?_) ?_ ?_
           rotate_left
           ·show Act.put _ (some 9) _ = _
            simp only [Act.put, lA, lB, lC, i64_w, i32_w]
            rfl
           exact norm_ (by first | (simp only [putAll, Act.put, lA, lB, lC]; done) | (simp only [putAll, Act.put, lA, lB, lC]; rfl)) (hJ1_4_11 (Xa, xa, wc.heap.size) _ ⟨gb.out, gn1.out, gnb9.out⟩)
        ·skip
         rintro ⟨Xa, xa, nb8, nb9⟩ wc ⟨hb, hn1, hnb8, hnb9, hne⟩
         try dsimp only at hn1
         try dsimp only at hnb8
         try dsimp only at hnb9
         try dsimp only at hne
         have hb := Lib.hid hb
         have fn1 := Lib.hid hn1
         have fnb8 := Lib.hid hnb8
         have fnb9 := Lib.hid hnb9
         have fne := Lib.hid hne
         clear hn1 hnb8 hnb9 hne
         refine norm_ (a' := ?_) ?_ ?_
         rotate_left
         ·simp only [putAll, Act.put, lA, lB, lC]
          rfl
         refine one_ (i := 4) (N := some 36) #[bT, bT, bT, bT, bT, bF, bF, bF, bF, bF, bT, bT, bF, bF, bF] rfl rfl (by kernel_rfl) (by decide) (fun K hK => ?_)
         refine goes_ Tryz.func42 (by kernel_rfl) rfl #[.agg #[.int .i64 o.kind, .string o.name, .string o.dest, .int .i64 o.n, .string o.text]] (by rfl) rfl rfl (by simp only [List.map_toArray, List.map_cons, List.map_nil]; rfl) ?_
         with_reducible refine (toOp_c o _).mono ?_
         rintro e wn ⟨rfl, hbN⟩
         have gb : Hid (Bel w2.drew wn) := Lib.hid (Below.trans hb.out (Below.mono hbN (Below.size hb.out)))
         have gn1 : Hid (kOp.C wn Xa n.ops.length n.ops) := Lib.hid (kOp_keep fn1.out hbN)
         have gnb8 : Hid (Blk wn nb8 #[.bool false, .int .i64 0, .bool false, .bool false, .slice none 0 0] 25 ∧ w2.drew.heap.size ≤ nb8) := Lib.hid (⟨fnb8.out.1.bel hbN, fnb8.out.2⟩)
         have gnb9 : Hid (Blk wn nb9 #[.int .i64 0, .int .i64 0, .int .i64 0, .int .i64 0, .int .i64 0, .string ⟨#[]⟩, .string ⟨#[]⟩, .int .i64 0, .string ⟨#[]⟩, .slice none 0 0] 29 ∧ w2.drew.heap.size ≤ nb9) := Lib.hid (⟨fnb9.out.1.bel hbN, fnb9.out.2⟩)
         have gne := fne
         clear hbN
         refine ⟨_, rfl, ?_⟩
         refine hK.out _ _ (HSF.out _ gb.out) (fun hHeld => ?_)
         clear hK K
         refine norm_ (a' := ?_) ?_ ?_
         rotate_left
         ·show Act.put _ (some 36) _ = _
          simp only [Act.put, lA, lB, lC, i64_w, i32_w]
          rfl
         exact norm_ (by first | (simp only [putAll, Act.put, lA, lB, lC]; done) | (simp only [putAll, Act.put, lA, lB, lC]; rfl)) (hJ1_4_10_11 (Xa, xa, nb8, nb9) _ ⟨gb.out, gn1.out, gnb8.out, gnb9.out, gne.out⟩)
       ·skip
        rintro ⟨Xa, xa, nb9⟩ wc ⟨hb, hn1, hnb9⟩
        try dsimp only at hn1
        try dsimp only at hnb9
        have hb := Lib.hid hb
        have fn1 := Lib.hid hn1
        have fnb9 := Lib.hid hnb9
        clear hn1 hnb9
        refine norm_ (a' := ?_) ?_ ?_
        rotate_left
        ·simp only [putAll, Act.put, lA, lB, lC]
         rfl
        refine two_ (i := 5) (j := 10) (Ni := some 37) (Nj := some 8) #[bT, bT, bT, bT, bT, bT, bF, bF, bF, bF, bF, bT, bF, bF, bF] #[bT, bT, bT, bT, bT, bF, bF, bF, bF, bF, bT, bT, bF, bF, bF] rfl rfl rfl rfl (by kernel_rfl) (by decide) (by decide) (fun K hK => ?_) (fun K hK => ?_)
        ·skip
         refine goes_ Tryz.func40 (by kernel_rfl) rfl #[.agg #[.bool n.up, .int .i64 n.term, .bool n.leads, .bool n.alone, .slice Xa n.ops.length xa], .int .i64 id, .agg #[.int .i64 o.kind, .string o.name, .string o.dest, .int .i64 o.n, .string o.text]] (by rfl) rfl rfl (by simp only [List.map_toArray, List.map_cons, List.map_nil]; rfl) ?_
         with_reducible refine (hsp.out _ fn1.out).mono ?_
         rintro e wn ⟨v, rfl, hoo, hbN⟩
         obtain ⟨E0, f0, rfl, -, -⟩ := hoo.reads
         have gas : Hid (OwnT wn w2.drew.heap.size (.slice E0 xn.ops.length f0) xn.ops) := Lib.hid (OwnT.lower hoo (Below.size hb.out))
         clear hoo
         have gb : Hid (Bel w2.drew wn) := Lib.hid (Below.trans hb.out (Below.mono hbN (Below.size hb.out)))
         have gn1 : Hid (kOp.C wn Xa n.ops.length n.ops) := Lib.hid (kOp_keep fn1.out hbN)
         have gnb9 : Hid (Blk wn nb9 #[.int .i64 0, .int .i64 0, .int .i64 0, .int .i64 0, .int .i64 0, .string ⟨#[]⟩, .string ⟨#[]⟩, .int .i64 0, .string ⟨#[]⟩, .slice none 0 0] 29 ∧ w2.drew.heap.size ≤ nb9) := Lib.hid (⟨fnb9.out.1.bel hbN, fnb9.out.2⟩)
         clear hbN
         refine ⟨_, rfl, ?_⟩
         refine hK.out _ _ (HSF.out _ gb.out) (fun hHeld => ?_)
         clear hK K
         refine norm_ (a' := ?_) ?_ ?_
         rotate_left
         ·show Act.put _ (some 37) _ = _
          simp only [Act.put, lA, lB, lC, i64_w, i32_w]
          rfl
         refine pure_ (i := 6) (N := some 31) (v := ?_) (a' := ?_) #[bT, bT, bT, bT, bT, bT, bT, bF, bF, bF, bF, bT, bF, bF, bF] rfl rfl (by kernel_rfl) (fun _ _ _ h => h) (Or.inl ⟨by rfl, ?_⟩) ?_ ?_
         rotate_left
         ·intro w'
          go_simp
          with_reducible rfl
         rotate_left
         ·simp only [Act.put, lA, lB, lC, i64_w, i32_w]
          rfl
         refine pure_ (i := 7) (N := some 38) (v := ?_) (a' := ?_) #[bT, bT, bT, bT, bT, bT, bT, bT, bF, bF, bF, bT, bF, bF, bF] rfl rfl (by kernel_rfl) (fun _ _ _ h => h) (Or.inl ⟨by rfl, ?_⟩) ?_ ?_
         rotate_left
         ·intro w'
          go_simp
          with_reducible rfl
         rotate_left
         ·simp only [Act.put, lA, lB, lC, i64_w, i32_w]
          rfl
         refine pure_ (i := 8) (N := some 39) (v := ?_) (a' := ?_) #[bT, bT, bT, bT, bT, bT, bT, bT, bT, bF, bF, bT, bF, bF, bF] rfl rfl (by kernel_rfl) (fun _ _ _ h => h) (Or.inl ⟨by rfl, ?_⟩) ?_ ?_
         rotate_left
         ·intro w'
          go_simp
          with_reducible rfl
         rotate_left
         ·simp only [Act.put, lA, lB, lC, i64_w, i32_w]
          rfl
         refine pure_ (i := 9) (N := some 40) (v := ?_) (a' := ?_) #[bT, bT, bT, bT, bT, bT, bT, bT, bT, bT, bF, bT, bF, bF, bF] rfl rfl (by kernel_rfl) (fun _ _ _ h => h) (Or.inl ⟨by rfl, ?_⟩) ?_ ?_
         rotate_left
         ·intro w'
          go_simp
          with_reducible rfl
         rotate_left
         ·simp only [Act.put, lA, lB, lC, i64_w, i32_w]
          rfl
         exact norm_ (by first | (simp only [putAll, Act.put, lA, lB, lC]; done) | (simp only [putAll, Act.put, lA, lB, lC]; rfl)) (hJ1_4_5_11 (Xa, xa, E0, f0, nb9) _ ⟨gb.out, gn1.out, gas.out, gnb9.out⟩)
        ·skip
         refine value_ (w1 := ?_) (v := ?_) (by rfl) rfl ?_ ?_
         rotate_left 2
         ·go_simp
          constructor
          ·rfl
          ·rfl
         have hbN : Bel wc (wc.alloc (.cells #[.bool false, .int .i64 0, .bool false, .bool false, .slice none 0 0] 25)) := bel_alloc (Below.refl _ _) _
         have gb : Hid (Bel w2.drew (wc.alloc (.cells #[.bool false, .int .i64 0, .bool false, .bool false, .slice none 0 0] 25))) := Lib.hid (Below.trans hb.out (Below.mono hbN (Below.size hb.out)))
         have gn1 : Hid (kOp.C (wc.alloc (.cells #[.bool false, .int .i64 0, .bool false, .bool false, .slice none 0 0] 25)) Xa n.ops.length n.ops) := Lib.hid (kOp_keep fn1.out hbN)
         have gnb9 : Hid (Blk (wc.alloc (.cells #[.bool false, .int .i64 0, .bool false, .bool false, .slice none 0 0] 25)) nb9 #[.int .i64 0, .int .i64 0, .int .i64 0, .int .i64 0, .int .i64 0, .string ⟨#[]⟩, .string ⟨#[]⟩, .int .i64 0, .string ⟨#[]⟩, .slice none 0 0] 29 ∧ w2.drew.heap.size ≤ nb9) := Lib.hid (⟨fnb9.out.1.bel hbN, fnb9.out.2⟩)
         have gnb8 : Hid (Blk (wc.alloc (.cells #[.bool false, .int .i64 0, .bool false, .bool false, .slice none 0 0] 25)) wc.heap.size #[.bool false, .int .i64 0, .bool false, .bool false, .slice none 0 0] 25 ∧ w2.drew.heap.size ≤ wc.heap.size) := Lib.hid ⟨Blk.new _ _ _, Below.size hb.out⟩
         have gne : Hid (wc.heap.size ≠ nb9) := Lib.hid (Nat.ne_of_gt fnb9.out.1.lt)
         clear hbN
         refine hK.out _ _ (HSF.out _ gb.out) (fun hHeld => ?_)
         clear hK K
         refine norm_ (a' := ?_) ?_ ?_
         rotate_left
         ·show Act.put _ (some 8) _ = _
          simp only [Act.put, lA, lB, lC, i64_w, i32_w]
          rfl
         exact norm_ (by first | (simp only [putAll, Act.put, lA, lB, lC]; done) | (simp only [putAll, Act.put, lA, lB, lC]; rfl)) (hJ1_4_10_11 (Xa, xa, wc.heap.size, nb9) _ ⟨gb.out, gn1.out, gnb8.out, gnb9.out, gne.out⟩)
      ·skip
       rintro ⟨Xa, xa, nb8⟩ wc ⟨hb, hn1, hnb8⟩
       try dsimp only at hn1
       try dsimp only at hnb8
       have hb := Lib.hid hb
       have fn1 := Lib.hid hn1
       have fnb8 := Lib.hid hnb8
       clear hn1 hnb8
       refine norm_ (a' := ?_) ?_ ?_
       rotate_left
       ·simp only [putAll, Act.put, lA, lB, lC]
        rfl
       refine two_ (i := 5) (j := 11) (Ni := some 37) (Nj := some 9) #[bT, bT, bT, bT, bT, bT, bF, bF, bF, bF, bT, bF, bF, bF, bF] #[bT, bT, bT, bT, bT, bF, bF, bF, bF, bF, bT, bT, bF, bF, bF] rfl rfl rfl rfl (by kernel_rfl) (by decide) (by decide) (fun K hK => ?_) (fun K hK => ?_)
       ·skip
        refine goes_ Tryz.func40 (by kernel_rfl) rfl #[.agg #[.bool n.up, .int .i64 n.term, .bool n.leads, .bool n.alone, .slice Xa n.ops.length xa], .int .i64 id, .agg #[.int .i64 o.kind, .string o.name, .string o.dest, .int .i64 o.n, .string o.text]] (by rfl) rfl rfl (by simp only [List.map_toArray, List.map_cons, List.map_nil]; rfl) ?_
        with_reducible refine (hsp.out _ fn1.out).mono ?_
        rintro e wn ⟨v, rfl, hoo, hbN⟩
        obtain ⟨E0, f0, rfl, -, -⟩ := hoo.reads
        have gas : Hid (OwnT wn w2.drew.heap.size (.slice E0 xn.ops.length f0) xn.ops) := Lib.hid (OwnT.lower hoo (Below.size hb.out))
        clear hoo
        have gb : Hid (Bel w2.drew wn) := Lib.hid (Below.trans hb.out (Below.mono hbN (Below.size hb.out)))
        have gn1 : Hid (kOp.C wn Xa n.ops.length n.ops) := Lib.hid (kOp_keep fn1.out hbN)
        have gnb8 : Hid (Blk wn nb8 #[.bool false, .int .i64 0, .bool false, .bool false, .slice none 0 0] 25 ∧ w2.drew.heap.size ≤ nb8) := Lib.hid (⟨fnb8.out.1.bel hbN, fnb8.out.2⟩)
        clear hbN
        refine ⟨_, rfl, ?_⟩
        refine hK.out _ _ (HSF.out _ gb.out) (fun hHeld => ?_)
        clear hK K
        refine norm_ (a' := ?_) ?_ ?_
        rotate_left
        ·show Act.put _ (some 37) _ = _
         simp only [Act.put, lA, lB, lC, i64_w, i32_w]
         rfl
        refine pure_ (i := 6) (N := some 31) (v := ?_) (a' := ?_) #[bT, bT, bT, bT, bT, bT, bT, bF, bF, bF, bT, bF, bF, bF, bF] rfl rfl (by kernel_rfl) (fun _ _ _ h => h) (Or.inl ⟨by rfl, ?_⟩) ?_ ?_
        rotate_left
        ·intro w'
         go_simp
         with_reducible rfl
        rotate_left
        ·simp only [Act.put, lA, lB, lC, i64_w, i32_w]
         rfl
        refine pure_ (i := 7) (N := some 38) (v := ?_) (a' := ?_) #[bT, bT, bT, bT, bT, bT, bT, bT, bF, bF, bT, bF, bF, bF, bF] rfl rfl (by kernel_rfl) (fun _ _ _ h => h) (Or.inl ⟨by rfl, ?_⟩) ?_ ?_
        rotate_left
        ·intro w'
         go_simp
         with_reducible rfl
        rotate_left
        ·simp only [Act.put, lA, lB, lC, i64_w, i32_w]
         rfl
        refine pure_ (i := 8) (N := some 39) (v := ?_) (a' := ?_) #[bT, bT, bT, bT, bT, bT, bT, bT, bT, bF, bT, bF, bF, bF, bF] rfl rfl (by kernel_rfl) (fun _ _ _ h => h) (Or.inl ⟨by rfl, ?_⟩) ?_ ?_
        rotate_left
        ·intro w'
         go_simp
         with_reducible rfl
        rotate_left
        ·simp only [Act.put, lA, lB, lC, i64_w, i32_w]
         rfl
        refine pure_ (i := 9) (N := some 40) (v := ?_) (a' := ?_) #[bT, bT, bT, bT, bT, bT, bT, bT, bT, bT, bT, bF, bF, bF, bF] rfl rfl (by kernel_rfl) (fun _ _ _ h => h) (Or.inl ⟨by rfl, ?_⟩) ?_ ?_
        rotate_left
        ·intro w'
         go_simp
         with_reducible rfl
        rotate_left
        ·simp only [Act.put, lA, lB, lC, i64_w, i32_w]
         rfl
        exact norm_ (by first | (simp only [putAll, Act.put, lA, lB, lC]; done) | (simp only [putAll, Act.put, lA, lB, lC]; rfl)) (hJ1_4_5_10 (Xa, xa, E0, f0, nb8) _ ⟨gb.out, gn1.out, gas.out, gnb8.out⟩)
       ·skip
        refine value_ (w1 := ?_) (v := ?_) (by rfl) rfl ?_ ?_
        rotate_left 2
        ·go_simp
         constructor
         ·rfl
         ·rfl
        have hbN : Bel wc (wc.alloc (.cells #[.int .i64 0, .int .i64 0, .int .i64 0, .int .i64 0, .int .i64 0, .string ⟨#[]⟩, .string ⟨#[]⟩, .int .i64 0, .string ⟨#[]⟩, .slice none 0 0] 29)) := bel_alloc (Below.refl _ _) _
        have gb : Hid (Bel w2.drew (wc.alloc (.cells #[.int .i64 0, .int .i64 0, .int .i64 0, .int .i64 0, .int .i64 0, .string ⟨#[]⟩, .string ⟨#[]⟩, .int .i64 0, .string ⟨#[]⟩, .slice none 0 0] 29))) := Lib.hid (Below.trans hb.out (Below.mono hbN (Below.size hb.out)))
        have gn1 : Hid (kOp.C (wc.alloc (.cells #[.int .i64 0, .int .i64 0, .int .i64 0, .int .i64 0, .int .i64 0, .string ⟨#[]⟩, .string ⟨#[]⟩, .int .i64 0, .string ⟨#[]⟩, .slice none 0 0] 29)) Xa n.ops.length n.ops) := Lib.hid (kOp_keep fn1.out hbN)
        have gnb8 : Hid (Blk (wc.alloc (.cells #[.int .i64 0, .int .i64 0, .int .i64 0, .int .i64 0, .int .i64 0, .string ⟨#[]⟩, .string ⟨#[]⟩, .int .i64 0, .string ⟨#[]⟩, .slice none 0 0] 29)) nb8 #[.bool false, .int .i64 0, .bool false, .bool false, .slice none 0 0] 25 ∧ w2.drew.heap.size ≤ nb8) := Lib.hid (⟨fnb8.out.1.bel hbN, fnb8.out.2⟩)
        have gnb9 : Hid (Blk (wc.alloc (.cells #[.int .i64 0, .int .i64 0, .int .i64 0, .int .i64 0, .int .i64 0, .string ⟨#[]⟩, .string ⟨#[]⟩, .int .i64 0, .string ⟨#[]⟩, .slice none 0 0] 29)) wc.heap.size #[.int .i64 0, .int .i64 0, .int .i64 0, .int .i64 0, .int .i64 0, .string ⟨#[]⟩, .string ⟨#[]⟩, .int .i64 0, .string ⟨#[]⟩, .slice none 0 0] 29 ∧ w2.drew.heap.size ≤ wc.heap.size) := Lib.hid ⟨Blk.new _ _ _, Below.size hb.out⟩
        have gne : Hid (nb8 ≠ wc.heap.size) := Lib.hid (Nat.ne_of_lt fnb8.out.1.lt)
        clear hbN
        refine hK.out _ _ (HSF.out _ gb.out) (fun hHeld => ?_)
        clear hK K
        refine norm_ (a' := ?_) ?_ ?_
        rotate_left
        ·show Act.put _ (some 9) _ = _
         simp only [Act.put, lA, lB, lC, i64_w, i32_w]
         rfl
        exact norm_ (by first | (simp only [putAll, Act.put, lA, lB, lC]; done) | (simp only [putAll, Act.put, lA, lB, lC]; rfl)) (hJ1_4_10_11 (Xa, xa, nb8, wc.heap.size) _ ⟨gb.out, gn1.out, gnb8.out, gnb9.out, gne.out⟩)
     ·skip
      rintro ⟨Xa, xa, E0, f0⟩ wc ⟨hb, hn1, has⟩
      try dsimp only at hn1
      try dsimp only at has
      have hb := Lib.hid hb
      have fn1 := Lib.hid hn1
      have fas := Lib.hid has
      clear hn1 has
      refine norm_ (a' := ?_) ?_ ?_
      rotate_left
      ·simp only [putAll, Act.put, lA, lB, lC]
       rfl
      refine two_ (i := 10) (j := 11) (Ni := some 8) (Nj := some 9) #[bT, bT, bT, bT, bT, bT, bT, bT, bT, bT, bT, bF, bF, bF, bF] #[bT, bT, bT, bT, bT, bT, bT, bT, bT, bT, bF, bT, bF, bF, bF] rfl rfl rfl rfl (by kernel_rfl) (by decide) (by decide) (fun K hK => ?_) (fun K hK => ?_)
      ·skip
       refine value_ (w1 := ?_) (v := ?_) (by rfl) rfl ?_ ?_
       rotate_left 2
       ·go_simp
        constructor
        ·rfl
        ·rfl
       have hbN : Bel wc (wc.alloc (.cells #[.bool false, .int .i64 0, .bool false, .bool false, .slice none 0 0] 25)) := bel_alloc (Below.refl _ _) _
       have gb : Hid (Bel w2.drew (wc.alloc (.cells #[.bool false, .int .i64 0, .bool false, .bool false, .slice none 0 0] 25))) := Lib.hid (Below.trans hb.out (Below.mono hbN (Below.size hb.out)))
       have gn1 : Hid (kOp.C (wc.alloc (.cells #[.bool false, .int .i64 0, .bool false, .bool false, .slice none 0 0] 25)) Xa n.ops.length n.ops) := Lib.hid (kOp_keep fn1.out hbN)
       have gas : Hid (OwnT (wc.alloc (.cells #[.bool false, .int .i64 0, .bool false, .bool false, .slice none 0 0] 25)) w2.drew.heap.size (.slice E0 xn.ops.length f0) xn.ops) := Lib.hid (OwnT.bel fas.out hbN)
       have gnb8 : Hid (Blk (wc.alloc (.cells #[.bool false, .int .i64 0, .bool false, .bool false, .slice none 0 0] 25)) wc.heap.size #[.bool false, .int .i64 0, .bool false, .bool false, .slice none 0 0] 25 ∧ w2.drew.heap.size ≤ wc.heap.size) := Lib.hid ⟨Blk.new _ _ _, Below.size hb.out⟩
       clear hbN
       refine hK.out _ _ (HSF.out _ gb.out) (fun hHeld => ?_)
       clear hK K
       refine norm_ (a' := ?_) ?_ ?_
       rotate_left
       ·show Act.put _ (some 8) _ = _
        simp only [Act.put, lA, lB, lC, i64_w, i32_w]
        rfl
       exact norm_ (by first | (simp only [putAll, Act.put, lA, lB, lC]; done) | (simp only [putAll, Act.put, lA, lB, lC]; rfl)) (hJ1_4_5_10 (Xa, xa, E0, f0, wc.heap.size) _ ⟨gb.out, gn1.out, gas.out, gnb8.out⟩)
      ·skip
       refine value_ (w1 := ?_) (v := ?_) (by rfl) rfl ?_ ?_
       rotate_left 2
       ·go_simp
        constructor
        ·rfl
        ·rfl
       have hbN : Bel wc (wc.alloc (.cells #[.int .i64 0, .int .i64 0, .int .i64 0, .int .i64 0, .int .i64 0, .string ⟨#[]⟩, .string ⟨#[]⟩, .int .i64 0, .string ⟨#[]⟩, .slice none 0 0] 29)) := bel_alloc (Below.refl _ _) _
       have gb : Hid (Bel w2.drew (wc.alloc (.cells #[.int .i64 0, .int .i64 0, .int .i64 0, .int .i64 0, .int .i64 0, .string ⟨#[]⟩, .string ⟨#[]⟩, .int .i64 0, .string ⟨#[]⟩, .slice none 0 0] 29))) := Lib.hid (Below.trans hb.out (Below.mono hbN (Below.size hb.out)))
       have gn1 : Hid (kOp.C (wc.alloc (.cells #[.int .i64 0, .int .i64 0, .int .i64 0, .int .i64 0, .int .i64 0, .string ⟨#[]⟩, .string ⟨#[]⟩, .int .i64 0, .string ⟨#[]⟩, .slice none 0 0] 29)) Xa n.ops.length n.ops) := Lib.hid (kOp_keep fn1.out hbN)
       have gas : Hid (OwnT (wc.alloc (.cells #[.int .i64 0, .int .i64 0, .int .i64 0, .int .i64 0, .int .i64 0, .string ⟨#[]⟩, .string ⟨#[]⟩, .int .i64 0, .string ⟨#[]⟩, .slice none 0 0] 29)) w2.drew.heap.size (.slice E0 xn.ops.length f0) xn.ops) := Lib.hid (OwnT.bel fas.out hbN)
       have gnb9 : Hid (Blk (wc.alloc (.cells #[.int .i64 0, .int .i64 0, .int .i64 0, .int .i64 0, .int .i64 0, .string ⟨#[]⟩, .string ⟨#[]⟩, .int .i64 0, .string ⟨#[]⟩, .slice none 0 0] 29)) wc.heap.size #[.int .i64 0, .int .i64 0, .int .i64 0, .int .i64 0, .int .i64 0, .string ⟨#[]⟩, .string ⟨#[]⟩, .int .i64 0, .string ⟨#[]⟩, .slice none 0 0] 29 ∧ w2.drew.heap.size ≤ wc.heap.size) := Lib.hid ⟨Blk.new _ _ _, Below.size hb.out⟩
       clear hbN
       refine hK.out _ _ (HSF.out _ gb.out) (fun hHeld => ?_)
       clear hK K
       refine norm_ (a' := ?_) ?_ ?_
       rotate_left
       ·show Act.put _ (some 9) _ = _
        simp only [Act.put, lA, lB, lC, i64_w, i32_w]
        rfl
       exact norm_ (by first | (simp only [putAll, Act.put, lA, lB, lC]; done) | (simp only [putAll, Act.put, lA, lB, lC]; rfl)) (hJ1_4_5_11 (Xa, xa, E0, f0, wc.heap.size) _ ⟨gb.out, gn1.out, gas.out, gnb9.out⟩)
    ·skip
     rintro ⟨Xa, xa, nb8, nb9⟩ wc ⟨hb, hn1, hnb8, hnb9, hne⟩
     try dsimp only at hn1
     try dsimp only at hnb8
     try dsimp only at hnb9
     try dsimp only at hne
     have hb := Lib.hid hb
     have fn1 := Lib.hid hn1
     have fnb8 := Lib.hid hnb8
     have fnb9 := Lib.hid hnb9
     have fne := Lib.hid hne
     clear hn1 hnb8 hnb9 hne
     refine norm_ (a' := ?_) ?_ ?_
     rotate_left
     ·simp only [putAll, Act.put, lA, lB, lC]
      rfl
     refine one_ (i := 5) (N := some 37) #[bT, bT, bT, bT, bT, bT, bF, bF, bF, bF, bT, bT, bF, bF, bF] rfl rfl (by kernel_rfl) (by decide) (fun K hK => ?_)
     refine goes_ Tryz.func40 (by kernel_rfl) rfl #[.agg #[.bool n.up, .int .i64 n.term, .bool n.leads, .bool n.alone, .slice Xa n.ops.length xa], .int .i64 id, .agg #[.int .i64 o.kind, .string o.name, .string o.dest, .int .i64 o.n, .string o.text]] (by rfl) rfl rfl (by simp only [List.map_toArray, List.map_cons, List.map_nil]; rfl) ?_
     with_reducible refine (hsp.out _ fn1.out).mono ?_
     rintro e wn ⟨v, rfl, hoo, hbN⟩
     obtain ⟨E0, f0, rfl, -, -⟩ := hoo.reads
     have gas : Hid (OwnT wn w2.drew.heap.size (.slice E0 xn.ops.length f0) xn.ops) := Lib.hid (OwnT.lower hoo (Below.size hb.out))
     clear hoo
     have gb : Hid (Bel w2.drew wn) := Lib.hid (Below.trans hb.out (Below.mono hbN (Below.size hb.out)))
     have gn1 : Hid (kOp.C wn Xa n.ops.length n.ops) := Lib.hid (kOp_keep fn1.out hbN)
     have gnb8 : Hid (Blk wn nb8 #[.bool false, .int .i64 0, .bool false, .bool false, .slice none 0 0] 25 ∧ w2.drew.heap.size ≤ nb8) := Lib.hid (⟨fnb8.out.1.bel hbN, fnb8.out.2⟩)
     have gnb9 : Hid (Blk wn nb9 #[.int .i64 0, .int .i64 0, .int .i64 0, .int .i64 0, .int .i64 0, .string ⟨#[]⟩, .string ⟨#[]⟩, .int .i64 0, .string ⟨#[]⟩, .slice none 0 0] 29 ∧ w2.drew.heap.size ≤ nb9) := Lib.hid (⟨fnb9.out.1.bel hbN, fnb9.out.2⟩)
     have gne := fne
     clear hbN
     refine ⟨_, rfl, ?_⟩
     refine hK.out _ _ (HSF.out _ gb.out) (fun hHeld => ?_)
     clear hK K
     refine norm_ (a' := ?_) ?_ ?_
     rotate_left
     ·show Act.put _ (some 37) _ = _
      simp only [Act.put, lA, lB, lC, i64_w, i32_w]
      rfl
     refine pure_ (i := 6) (N := some 31) (v := ?_) (a' := ?_) #[bT, bT, bT, bT, bT, bT, bT, bF, bF, bF, bT, bT, bF, bF, bF] rfl rfl (by kernel_rfl) (fun _ _ _ h => h) (Or.inl ⟨by rfl, ?_⟩) ?_ ?_
     rotate_left
     ·intro w'
      go_simp
      with_reducible rfl
     rotate_left
     ·simp only [Act.put, lA, lB, lC, i64_w, i32_w]
      rfl
     refine pure_ (i := 7) (N := some 38) (v := ?_) (a' := ?_) #[bT, bT, bT, bT, bT, bT, bT, bT, bF, bF, bT, bT, bF, bF, bF] rfl rfl (by kernel_rfl) (fun _ _ _ h => h) (Or.inl ⟨by rfl, ?_⟩) ?_ ?_
     rotate_left
     ·intro w'
      go_simp
      with_reducible rfl
     rotate_left
     ·simp only [Act.put, lA, lB, lC, i64_w, i32_w]
      rfl
     refine pure_ (i := 8) (N := some 39) (v := ?_) (a' := ?_) #[bT, bT, bT, bT, bT, bT, bT, bT, bT, bF, bT, bT, bF, bF, bF] rfl rfl (by kernel_rfl) (fun _ _ _ h => h) (Or.inl ⟨by rfl, ?_⟩) ?_ ?_
     rotate_left
     ·intro w'
      go_simp
      with_reducible rfl
     rotate_left
     ·simp only [Act.put, lA, lB, lC, i64_w, i32_w]
      rfl
     refine pure_ (i := 9) (N := some 40) (v := ?_) (a' := ?_) #[bT, bT, bT, bT, bT, bT, bT, bT, bT, bT, bT, bT, bF, bF, bF] rfl rfl (by kernel_rfl) (fun _ _ _ h => h) (Or.inl ⟨by rfl, ?_⟩) ?_ ?_
     rotate_left
     ·intro w'
      go_simp
      with_reducible rfl
     rotate_left
     ·simp only [Act.put, lA, lB, lC, i64_w, i32_w]
      rfl
     exact norm_ (by first | (simp only [putAll, Act.put, lA, lB, lC]; done) | (simp only [putAll, Act.put, lA, lB, lC]; rfl)) (hJ1_4_5_10_11 (Xa, xa, E0, f0, nb8, nb9) _ ⟨gb.out, gn1.out, gas.out, gnb8.out, gnb9.out, gne.out⟩)
   ·skip
    rintro ⟨Xa, xa, E0, f0, nb9⟩ wc ⟨hb, hn1, has, hnb9⟩
    try dsimp only at hn1
    try dsimp only at has
    try dsimp only at hnb9
    have hb := Lib.hid hb
    have fn1 := Lib.hid hn1
    have fas := Lib.hid has
    have fnb9 := Lib.hid hnb9
    clear hn1 has hnb9
    refine norm_ (a' := ?_) ?_ ?_
    rotate_left
    ·simp only [putAll, Act.put, lA, lB, lC]
     rfl
    refine one_ (i := 10) (N := some 8) #[bT, bT, bT, bT, bT, bT, bT, bT, bT, bT, bT, bT, bF, bF, bF] rfl rfl (by kernel_rfl) (by decide) (fun K hK => ?_)
    refine value_ (w1 := ?_) (v := ?_) (by rfl) rfl ?_ ?_
    rotate_left 2
    ·go_simp
     constructor
     ·rfl
     ·rfl
    have hbN : Bel wc (wc.alloc (.cells #[.bool false, .int .i64 0, .bool false, .bool false, .slice none 0 0] 25)) := bel_alloc (Below.refl _ _) _
    have gb : Hid (Bel w2.drew (wc.alloc (.cells #[.bool false, .int .i64 0, .bool false, .bool false, .slice none 0 0] 25))) := Lib.hid (Below.trans hb.out (Below.mono hbN (Below.size hb.out)))
    have gn1 : Hid (kOp.C (wc.alloc (.cells #[.bool false, .int .i64 0, .bool false, .bool false, .slice none 0 0] 25)) Xa n.ops.length n.ops) := Lib.hid (kOp_keep fn1.out hbN)
    have gas : Hid (OwnT (wc.alloc (.cells #[.bool false, .int .i64 0, .bool false, .bool false, .slice none 0 0] 25)) w2.drew.heap.size (.slice E0 xn.ops.length f0) xn.ops) := Lib.hid (OwnT.bel fas.out hbN)
    have gnb9 : Hid (Blk (wc.alloc (.cells #[.bool false, .int .i64 0, .bool false, .bool false, .slice none 0 0] 25)) nb9 #[.int .i64 0, .int .i64 0, .int .i64 0, .int .i64 0, .int .i64 0, .string ⟨#[]⟩, .string ⟨#[]⟩, .int .i64 0, .string ⟨#[]⟩, .slice none 0 0] 29 ∧ w2.drew.heap.size ≤ nb9) := Lib.hid (⟨fnb9.out.1.bel hbN, fnb9.out.2⟩)
    have gnb8 : Hid (Blk (wc.alloc (.cells #[.bool false, .int .i64 0, .bool false, .bool false, .slice none 0 0] 25)) wc.heap.size #[.bool false, .int .i64 0, .bool false, .bool false, .slice none 0 0] 25 ∧ w2.drew.heap.size ≤ wc.heap.size) := Lib.hid ⟨Blk.new _ _ _, Below.size hb.out⟩
    have gne : Hid (wc.heap.size ≠ nb9) := Lib.hid (Nat.ne_of_gt fnb9.out.1.lt)
    clear hbN
    refine hK.out _ _ (HSF.out _ gb.out) (fun hHeld => ?_)
    clear hK K
    refine norm_ (a' := ?_) ?_ ?_
    rotate_left
    ·show Act.put _ (some 8) _ = _
     simp only [Act.put, lA, lB, lC, i64_w, i32_w]
     rfl
    exact norm_ (by first | (simp only [putAll, Act.put, lA, lB, lC]; done) | (simp only [putAll, Act.put, lA, lB, lC]; rfl)) (hJ1_4_5_10_11 (Xa, xa, E0, f0, wc.heap.size, nb9) _ ⟨gb.out, gn1.out, gas.out, gnb8.out, gnb9.out, gne.out⟩)
  ·skip
   rintro ⟨Xa, xa, E0, f0, nb8⟩ wc ⟨hb, hn1, has, hnb8⟩
   try dsimp only at hn1
   try dsimp only at has
   try dsimp only at hnb8
   have hb := Lib.hid hb
   have fn1 := Lib.hid hn1
   have fas := Lib.hid has
   have fnb8 := Lib.hid hnb8
   clear hn1 has hnb8
   refine norm_ (a' := ?_) ?_ ?_
   rotate_left
   ·simp only [putAll, Act.put, lA, lB, lC]
    rfl
   refine one_ (i := 11) (N := some 9) #[bT, bT, bT, bT, bT, bT, bT, bT, bT, bT, bT, bT, bF, bF, bF] rfl rfl (by kernel_rfl) (by decide) (fun K hK => ?_)
   refine value_ (w1 := ?_) (v := ?_) (by rfl) rfl ?_ ?_
   rotate_left 2
   ·go_simp
    constructor
    ·rfl
    ·rfl
   have hbN : Bel wc (wc.alloc (.cells #[.int .i64 0, .int .i64 0, .int .i64 0, .int .i64 0, .int .i64 0, .string ⟨#[]⟩, .string ⟨#[]⟩, .int .i64 0, .string ⟨#[]⟩, .slice none 0 0] 29)) := bel_alloc (Below.refl _ _) _
   have gb : Hid (Bel w2.drew (wc.alloc (.cells #[.int .i64 0, .int .i64 0, .int .i64 0, .int .i64 0, .int .i64 0, .string ⟨#[]⟩, .string ⟨#[]⟩, .int .i64 0, .string ⟨#[]⟩, .slice none 0 0] 29))) := Lib.hid (Below.trans hb.out (Below.mono hbN (Below.size hb.out)))
   have gn1 : Hid (kOp.C (wc.alloc (.cells #[.int .i64 0, .int .i64 0, .int .i64 0, .int .i64 0, .int .i64 0, .string ⟨#[]⟩, .string ⟨#[]⟩, .int .i64 0, .string ⟨#[]⟩, .slice none 0 0] 29)) Xa n.ops.length n.ops) := Lib.hid (kOp_keep fn1.out hbN)
   have gas : Hid (OwnT (wc.alloc (.cells #[.int .i64 0, .int .i64 0, .int .i64 0, .int .i64 0, .int .i64 0, .string ⟨#[]⟩, .string ⟨#[]⟩, .int .i64 0, .string ⟨#[]⟩, .slice none 0 0] 29)) w2.drew.heap.size (.slice E0 xn.ops.length f0) xn.ops) := Lib.hid (OwnT.bel fas.out hbN)
   have gnb8 : Hid (Blk (wc.alloc (.cells #[.int .i64 0, .int .i64 0, .int .i64 0, .int .i64 0, .int .i64 0, .string ⟨#[]⟩, .string ⟨#[]⟩, .int .i64 0, .string ⟨#[]⟩, .slice none 0 0] 29)) nb8 #[.bool false, .int .i64 0, .bool false, .bool false, .slice none 0 0] 25 ∧ w2.drew.heap.size ≤ nb8) := Lib.hid (⟨fnb8.out.1.bel hbN, fnb8.out.2⟩)
   have gnb9 : Hid (Blk (wc.alloc (.cells #[.int .i64 0, .int .i64 0, .int .i64 0, .int .i64 0, .int .i64 0, .string ⟨#[]⟩, .string ⟨#[]⟩, .int .i64 0, .string ⟨#[]⟩, .slice none 0 0] 29)) wc.heap.size #[.int .i64 0, .int .i64 0, .int .i64 0, .int .i64 0, .int .i64 0, .string ⟨#[]⟩, .string ⟨#[]⟩, .int .i64 0, .string ⟨#[]⟩, .slice none 0 0] 29 ∧ w2.drew.heap.size ≤ wc.heap.size) := Lib.hid ⟨Blk.new _ _ _, Below.size hb.out⟩
   have gne : Hid (nb8 ≠ wc.heap.size) := Lib.hid (Nat.ne_of_lt fnb8.out.1.lt)
   clear hbN
   refine hK.out _ _ (HSF.out _ gb.out) (fun hHeld => ?_)
   clear hK K
   refine norm_ (a' := ?_) ?_ ?_
   rotate_left
   ·show Act.put _ (some 9) _ = _
    simp only [Act.put, lA, lB, lC, i64_w, i32_w]
    rfl
   exact norm_ (by first | (simp only [putAll, Act.put, lA, lB, lC]; done) | (simp only [putAll, Act.put, lA, lB, lC]; rfl)) (hJ1_4_5_10_11 (Xa, xa, E0, f0, nb8, wc.heap.size) _ ⟨gb.out, gn1.out, gas.out, gnb8.out, gnb9.out, gne.out⟩)
 rintro ⟨Xa, xa, E0, f0, nb8, nb9⟩ wc ⟨hb, hn1, has, hnb8, hnb9, hne⟩
 try dsimp only at hn1
 try dsimp only at has
 try dsimp only at hnb8
 try dsimp only at hnb9
 try dsimp only at hne
 have hb := Lib.hid hb
 have fn1 := Lib.hid hn1
 have fas := Lib.hid has
 have fnb8 := Lib.hid hnb8
 have fnb9 := Lib.hid hnb9
 have fne := Lib.hid hne
 clear hn1 has hnb8 hnb9 hne
 have unb80 := blkn fnb8.out.1 0 _ rfl
 have unb81 := blkn fnb8.out.1 1 _ rfl
 have unb82 := blkn fnb8.out.1 2 _ rfl
 have unb83 := blkn fnb8.out.1 3 _ rfl
 have unb84 := blkn fnb8.out.1 4 _ rfl
 have vnb80 := fnb8.out.1.free 0
 have vnb81 := fnb8.out.1.free 1
 have vnb82 := fnb8.out.1.free 2
 have vnb83 := fnb8.out.1.free 3
 have vnb84 := fnb8.out.1.free 4
 have ynb8 := fnb8.out.1.lt
 have unb90 := blkn fnb9.out.1 0 _ rfl
 have unb91 := blkn fnb9.out.1 1 _ rfl
 have unb92 := blkn fnb9.out.1 2 _ rfl
 have unb93 := blkn fnb9.out.1 3 _ rfl
 have unb94 := blkn fnb9.out.1 4 _ rfl
 have unb95 := blkn fnb9.out.1 5 _ rfl
 have unb96 := blkn fnb9.out.1 6 _ rfl
 have unb97 := blkn fnb9.out.1 7 _ rfl
 have unb98 := blkn fnb9.out.1 8 _ rfl
 have unb99 := blkn fnb9.out.1 9 _ rfl
 have vnb90 := fnb9.out.1.free 0
 have vnb91 := fnb9.out.1.free 1
 have vnb92 := fnb9.out.1.free 2
 have vnb93 := fnb9.out.1.free 3
 have vnb94 := fnb9.out.1.free 4
 have vnb95 := fnb9.out.1.free 5
 have vnb96 := fnb9.out.1.free 6
 have vnb97 := fnb9.out.1.free 7
 have vnb98 := fnb9.out.1.free 8
 have vnb99 := fnb9.out.1.free 9
 have ynb9 := fnb9.out.1.lt
 have en1 : ¬ nb8 = nb9 := fne.out
 have en2 : ¬ nb9 = nb8 := fun e => fne.out e.symm
 refine norm_ (a' := ?_) ?_ ?_
 rotate_left
 ·simp only [putAll, Act.put, lA, lB, lC]
  rfl
 refine last_ (i := 12) (N := none) #[bT, bT, bT, bT, bT, bT, bT, bT, bT, bT, bT, bT, bT, bF, bF] rfl rfl (by kernel_rfl) (by decide) (fun K hK => ?_)
 refine skip_ (w1 := ?_) (by rfl) rfl ?_ ?_
 rotate_left
 ·go_simp
  rfl
 refine hK.out _ _ ?_
 clear hK K
 refine last_ (i := 13) (N := none) #[bT, bT, bT, bT, bT, bT, bT, bT, bT, bT, bT, bT, bT, bT, bF] rfl rfl (by kernel_rfl) (by decide) (fun K hK => ?_)
 refine skip_ (w1 := ?_) (by rfl) rfl ?_ ?_
 rotate_left
 ·go_simp
  rfl
 refine hK.out _ _ ?_
 clear hK K
 refine pure_ (i := 14) (N := some 10) (v := ?_) (a' := ?_) #[bT, bT, bT, bT, bT, bT, bT, bT, bT, bT, bT, bT, bT, bT, bT] rfl rfl (by kernel_rfl) (fun _ _ _ h => h) (Or.inl ⟨by rfl, ?_⟩) ?_ ?_
 rotate_left
 ·intro w'
  go_simp
  with_reducible rfl
 rotate_left
 ·simp only [Act.put, lA, lB, lC, i64_w, i32_w]
  rfl
 refine done_ (by kernel_rfl) ?_
 clear en1 en2 unb80 unb81 unb82 unb83 unb84 vnb80 vnb81 vnb82 vnb83 vnb84 unb90 unb91 unb92 unb93 unb94 unb95 unb96 unb97 unb98 unb99 vnb90 vnb91 vnb92 vnb93 vnb94 vnb95 vnb96 vnb97 vnb98 vnb99
 replace KB := Lib.hid (KB.out.bel hb.out)
 replace KO := Lib.hid (KO.out.bel hb.out)
 replace KW := Lib.hid (Bel.tr KW.out hb.out)
 have hP2 := fnb8.out.2
 have hP3 := fnb9.out.2
 generalize hW9 : ((((((((((((((((wc.setCell ⟨nb8, 0, none⟩ (.bool xn.up)).setCell ⟨nb8, 1, none⟩ (.int .i64 xn.term)).setCell ⟨nb8, 2, none⟩ (.bool xn.leads)).setCell ⟨nb8, 3, none⟩ (.bool xn.alone)).setCell ⟨nb8, 4, none⟩ (.slice E0 xn.ops.length f0)).setCell ⟨nb9, 0, none⟩ (.int .i64 xm.kind)).setCell ⟨nb9, 1, none⟩ (.int .i64 xm.whom)).setCell ⟨nb9, 2, none⟩ (.int .i64 xm.term)).setCell ⟨nb9, 3, none⟩ (.int .i64 xm.n)).setCell ⟨nb9, 4, none⟩ (.int .i64 xm.op.kind)).setCell ⟨nb9, 5, none⟩ (.string xm.op.name)).setCell ⟨nb9, 6, none⟩ (.string xm.op.dest)).setCell ⟨nb9, 7, none⟩ (.int .i64 xm.op.n)).setCell ⟨nb9, 8, none⟩ (.string xm.op.text)).setCell ⟨nb9, 9, none⟩ (.slice none 0 0))) = W3
 have h2 := two_new (v1 := [.bool xn.up, .int .i64 xn.term, .bool xn.leads, .bool xn.alone, .slice E0 xn.ops.length f0]) (v2 := [.int .i64 xm.kind, .int .i64 xm.whom, .int .i64 xm.term, .int .i64 xm.n, .int .i64 xm.op.kind, .string xm.op.name, .string xm.op.dest, .int .i64 xm.op.n, .string xm.op.text, .slice none 0 0]) hW9 fnb8.out.1 fnb9.out.1 fne.out rfl rfl (by decide) (by decide)
 have hsz : w2.drew.heap.size ≤ wc.heap.size := Below.size hb.out
 have hK := h2.ownT fas.out
 replace KB := Lib.hid (h2.oth KB.out (by omega) (by omega))
 replace KO := Lib.hid (h2.oth KO.out (by omega) (by omega))
 replace KW := Lib.hid (h2.bel KW.out (by omega) (by omega))
 have hB1 : Blk W3 nb8 #[.bool xn.up, .int .i64 xn.term, .bool xn.leads, .bool xn.alone, .slice E0 xn.ops.length f0] 25 := h2.b1
 have hB2 : Blk W3 nb9 #[.int .i64 xm.kind, .int .i64 xm.whom, .int .i64 xm.term, .int .i64 xm.n, .int .i64 xm.op.kind, .string xm.op.name, .string xm.op.dest, .int .i64 xm.op.n, .string xm.op.text, .slice none 0 0] 29 := h2.b2
 have hq := h2.size
 clear hW9 h2 fnb8 fnb9 fne fas hb HSF ynb8 ynb9 fn1
 obtain ⟨s1, hs1⟩ : ∃ k, w2.drew.heap.size = k := ⟨_, rfl⟩
 obtain ⟨s2, hs2⟩ : ∃ k, W3.heap.size = k := ⟨_, rfl⟩
 have Ks : Hid (AtT W3 s1 s2 (.slice E0 xn.ops.length f0) xn.ops) := Lib.hid (by rw [← hs1, ← hs2]; exact OwnT.att hK)
 have B8 := Lib.hid hB1
 have B9 := Lib.hid hB2
 have KZ : Hid (s2 ≤ W3.heap.size) := Lib.hid (Nat.le_of_eq hs2.symm)
 have zKs : s1 ≤ s2 := by omega
 have zw_s1 : w.heap.size ≤ s1 := by omega
 clear hB1 hB2 hK hq hP2 hP3 hsz hs1 hs2 zw zl_KB zl_KO
 have kb_0 : W3.cell? ⟨bkl, 0, none⟩ = some (.bool n.up) := blkn KB.out 0 _ rfl
 have kb_1 : W3.cell? ⟨bkl, 1, none⟩ = some (.int .i64 n.term) := blkn KB.out 1 _ rfl
 have kb_2 : W3.cell? ⟨bkl, 2, none⟩ = some (.bool n.leads) := blkn KB.out 2 _ rfl
 have kb_3 : W3.cell? ⟨bkl, 3, none⟩ = some (.bool n.alone) := blkn KB.out 3 _ rfl
 have kb_4 : W3.cell? ⟨bkl, 4, none⟩ = some (.slice A n.ops.length c) := blkn KB.out 4 _ rfl
 have kb_y := KB.out.lt
 go_wp2_with fail
 clear kb_0 kb_1 kb_2 kb_3 kb_4 kb_y
 refine (toNode_c (n := n) (c := c) (kOp_keep HC.out KW.out) HS.out.len).mono ?_
 rintro e w4 ⟨v, rfl, ho, hb⟩
 obtain ⟨Xv, xv, rfl, _, _⟩ := ho.reads
 obtain ⟨lx, hlx⟩ : ∃ k, W3.heap.size = k := ⟨_, rfl⟩
 obtain ⟨hx, hhx⟩ : ∃ k, w4.heap.size = k := ⟨_, rfl⟩
 have z_lx : s2 ≤ lx := by rw [← hlx]; exact KZ.out
 have zx : lx ≤ hx := by rw [← hlx, ← hhx]; exact Below.size hb
 have Kx : Hid (AtO w4 lx hx (.slice Xv n.ops.length xv) n.ops) := Lib.hid (by rw [← hlx, ← hhx]; exact OwnO.ato ho)
 replace KB := Lib.hid (KB.out.bel hb)
 replace KO := Lib.hid (KO.out.bel hb)
 replace Ks := Lib.hid (Ks.out.bel hb)
 replace B8 := Lib.hid (B8.out.bel hb)
 replace B9 := Lib.hid (B9.out.bel hb)
 replace KW := Lib.hid (Bel.tr KW.out hb)
 replace KZ := Lib.hid (Nat.le_trans KZ.out (Below.size hb))
 replace KZ : Hid (hx ≤ w4.heap.size) := Lib.hid (Nat.le_of_eq hhx.symm)
 clear ho hb hlx
 go_wp2
 have hnew : Blk (w4.alloc (.cells #[.bool n.up, .int .i64 n.term, .bool n.leads, .bool n.alone, .slice Xv n.ops.length xv] 25)) w4.heap.size #[.bool n.up, .int .i64 n.term, .bool n.leads, .bool n.alone, .slice Xv n.ops.length xv] 25 := Blk.new _ _ _
 have hb : Bel w4 (w4.alloc (.cells #[.bool n.up, .int .i64 n.term, .bool n.leads, .bool n.alone, .slice Xv n.ops.length xv] 25)) := bel_alloc (Below.refl _ _) _
 generalize w4.alloc (.cells #[.bool n.up, .int .i64 n.term, .bool n.leads, .bool n.alone, .slice Xv n.ops.length xv] 25) = W5 at hnew hb ⊢
 rw [hhx] at hnew
 try rw [hhx]
 replace KB := Lib.hid (KB.out.bel hb)
 replace KO := Lib.hid (KO.out.bel hb)
 replace Ks := Lib.hid (Ks.out.bel hb)
 replace B8 := Lib.hid (B8.out.bel hb)
 replace B9 := Lib.hid (B9.out.bel hb)
 replace Kx := Lib.hid (Kx.out.bel hb)
 replace KW := Lib.hid (Bel.tr KW.out hb)
 replace KZ := Lib.hid (Nat.le_trans KZ.out (Below.size hb))
 obtain ⟨bx, hbx⟩ : ∃ b, hx = b := ⟨_, rfl⟩
 have Bx : Hid (Blk W5 bx #[.bool n.up, .int .i64 n.term, .bool n.leads, .bool n.alone, .slice Xv n.ops.length xv] 25) := Lib.hid (by rw [← hbx]; exact hnew)
 rw [hbx]
 clear hnew hb hhx hbx
 have hb : Bel W5 W5.drew := (Below.refl _ _).drew
 replace KB := Lib.hid (KB.out.bel hb)
 replace KO := Lib.hid (KO.out.bel hb)
 replace Ks := Lib.hid (Ks.out.bel hb)
 replace B8 := Lib.hid (B8.out.bel hb)
 replace B9 := Lib.hid (B9.out.bel hb)
 replace Kx := Lib.hid (Kx.out.bel hb)
 replace Bx := Lib.hid (Bx.out.bel hb)
 replace KW := Lib.hid (Bel.tr KW.out hb)
 replace KZ := Lib.hid (Nat.le_trans KZ.out (Below.size hb))
 clear hb
 have hCX := Lib.hid (Kx.out.own.innC rfl).2
 have zl_KB := KB.out.lt
 have zl_KO := KO.out.lt
 have zl_B8 := B8.out.lt
 have zl_B9 := B9.out.lt
 have zl_Bx := Bx.out.lt
 have zw := Below.size KW.out
 have z_s3 := KZ.out
 have HSF := Lib.hid (fun (W9 : World) (gb : Bel W5.drew W9) => (⟨(blkn (Bx.out.bel gb) 0 _ rfl), (blkn (Bx.out.bel gb) 1 _ rfl), (blkn (Bx.out.bel gb) 2 _ rfl), (blkn (Bx.out.bel gb) 3 _ rfl), (blkn (Bx.out.bel gb) 4 _ rfl), (blkn (KO.out.bel gb) 0 _ rfl), (blkn (KO.out.bel gb) 1 _ rfl), (blkn (KO.out.bel gb) 2 _ rfl), (blkn (KO.out.bel gb) 3 _ rfl), (blkn (KO.out.bel gb) 4 _ rfl)⟩ : W9.cell? ⟨bx, 0, none⟩ = some (.bool n.up) ∧ W9.cell? ⟨bx, 1, none⟩ = some (.int .i64 n.term) ∧ W9.cell? ⟨bx, 2, none⟩ = some (.bool n.leads) ∧ W9.cell? ⟨bx, 3, none⟩ = some (.bool n.alone) ∧ W9.cell? ⟨bx, 4, none⟩ = some (.slice Xv n.ops.length xv) ∧ W9.cell? ⟨bko, 0, none⟩ = some (.int .i64 o.kind) ∧ W9.cell? ⟨bko, 1, none⟩ = some (.string o.name) ∧ W9.cell? ⟨bko, 2, none⟩ = some (.string o.dest) ∧ W9.cell? ⟨bko, 3, none⟩ = some (.int .i64 o.n) ∧ W9.cell? ⟨bko, 4, none⟩ = some (.string o.text)))
 refine start_ (n := 14) (S := fun w' => w'.cell? ⟨bx, 0, none⟩ = some (.bool n.up) ∧ w'.cell? ⟨bx, 1, none⟩ = some (.int .i64 n.term) ∧ w'.cell? ⟨bx, 2, none⟩ = some (.bool n.leads) ∧ w'.cell? ⟨bx, 3, none⟩ = some (.bool n.alone) ∧ w'.cell? ⟨bx, 4, none⟩ = some (.slice Xv n.ops.length xv) ∧ w'.cell? ⟨bko, 0, none⟩ = some (.int .i64 o.kind) ∧ w'.cell? ⟨bko, 1, none⟩ = some (.string o.name) ∧ w'.cell? ⟨bko, 2, none⟩ = some (.string o.dest) ∧ w'.cell? ⟨bko, 3, none⟩ = some (.int .i64 o.n) ∧ w'.cell? ⟨bko, 4, none⟩ = some (.string o.text)) (ds := [11, 12]) #[bF, bF, bF, bF, bF, bF, bF, bF, bF, bF, bF, bF, bF, bF] (by kernel_rfl) rfl rfl ⟨(blkn Bx.out 0 _ rfl), (blkn Bx.out 1 _ rfl), (blkn Bx.out 2 _ rfl), (blkn Bx.out 3 _ rfl), (blkn Bx.out 4 _ rfl), (blkn KO.out 0 _ rfl), (blkn KO.out 1 _ rfl), (blkn KO.out 2 _ rfl), (blkn KO.out 3 _ rfl), (blkn KO.out 4 _ rfl)⟩ (fun hHeld => ?_)
 refine pure_ (i := 1) (N := some 45) (v := ?_) (a' := ?_) #[bF, bT, bF, bF, bF, bF, bF, bF, bF, bF, bF, bF, bF, bF] rfl rfl (by kernel_rfl) (fun _ _ _ h => h) (Or.inl ⟨by rfl, ?_⟩) ?_ ?_
 rotate_left
 ·intro w'
  go_simp
  with_reducible rfl
 rotate_left
 ·simp only [Act.put, lA, lB, lC, i64_w, i32_w]
  rfl
 refine take_ (i := 0) (N := some 44) (v := ?_) (a' := ?_) #[bT, bT, bF, bF, bF, bF, bF, bF, bF, bF, bF, bF, bF, bF] rfl rfl (by kernel_rfl) (fun _ _ _ h => h) (Or.inl ⟨by rfl, ?_⟩) hHeld ?_ ?_
 rotate_left
 ·rintro w' ⟨s0, s1, s2, s3, s4, s5, s6, s7, s8, s9⟩
  go_simp
  with_reducible rfl
 rotate_left
 ·simp only [Act.put, lA, lB, lC, i64_w, i32_w]
  rfl
 refine take_ (i := 2) (N := some 46) (v := ?_) (a' := ?_) #[bT, bT, bT, bF, bF, bF, bF, bF, bF, bF, bF, bF, bF, bF] rfl rfl (by kernel_rfl) (fun _ _ _ h => h) (Or.inl ⟨by rfl, ?_⟩) hHeld ?_ ?_
 rotate_left
 ·rintro w' ⟨s0, s1, s2, s3, s4, s5, s6, s7, s8, s9⟩
  go_simp
  with_reducible rfl
 rotate_left
 ·simp only [Act.put, lA, lB, lC, i64_w, i32_w]
  rfl
 refine join_ (σ := Option Addr × Nat × Nat × Nat) 3 #[bT, bT, bT, bT, bT, bT, bT, bT, bT, bT, bT, bF, bF, bF] (fun s => [(47, .agg #[.int .i64 o.kind, .string o.name, .string o.dest, .int .i64 o.n, .string o.text]), (48, .tuple #[.agg #[.bool xn.up, .int .i64 xn.term, .bool xn.leads, .bool xn.alone, .slice s.1 xn.ops.length s.2.1], .agg #[.int .i64 xm.kind, .int .i64 xm.whom, .int .i64 xm.term, .int .i64 xm.n, .int .i64 xm.op.kind, .string xm.op.name, .string xm.op.dest, .int .i64 xm.op.n, .string xm.op.text, .slice none 0 0], .bool z]), (43, .tuple #[.agg #[.bool xn.up, .int .i64 xn.term, .bool xn.leads, .bool xn.alone, .slice s.1 xn.ops.length s.2.1], .agg #[.int .i64 xm.kind, .int .i64 xm.whom, .int .i64 xm.term, .int .i64 xm.n, .int .i64 xm.op.kind, .string xm.op.name, .string xm.op.dest, .int .i64 xm.op.n, .string xm.op.text, .slice none 0 0], .bool z]), (49, .agg #[.bool xn.up, .int .i64 xn.term, .bool xn.leads, .bool xn.alone, .slice s.1 xn.ops.length s.2.1]), (50, .agg #[.int .i64 xm.kind, .int .i64 xm.whom, .int .i64 xm.term, .int .i64 xm.n, .int .i64 xm.op.kind, .string xm.op.name, .string xm.op.dest, .int .i64 xm.op.n, .string xm.op.text, .slice none 0 0]), (51, .bool z), (12, .pointer (some ⟨s.2.2.1, 0, none⟩)), (13, .pointer (some ⟨s.2.2.2, 0, none⟩))]) (fun s w' => Bel W5.drew w' ∧ (OwnO w' W5.drew.heap.size (.slice s.1 xn.ops.length s.2.1) xn.ops) ∧ (Blk w' s.2.2.1 #[.bool false, .int .i64 0, .bool false, .bool false, .slice none 0 0] 25 ∧ W5.drew.heap.size ≤ s.2.2.1) ∧ (Blk w' s.2.2.2 #[.int .i64 0, .int .i64 0, .int .i64 0, .int .i64 0, .int .i64 0, .string ⟨#[]⟩, .string ⟨#[]⟩, .int .i64 0, .string ⟨#[]⟩, .slice none 0 0] 29 ∧ W5.drew.heap.size ≤ s.2.2.2) ∧ (s.2.2.1 ≠ s.2.2.2)) ?_ ?_
 rotate_left
 ·intro hJ3_4_9_10
  refine join_ (σ := Option Addr × Nat × Nat) 4 #[bT, bT, bT, bT, bT, bT, bT, bT, bT, bT, bF, bF, bF, bF] (fun s => [(47, .agg #[.int .i64 o.kind, .string o.name, .string o.dest, .int .i64 o.n, .string o.text]), (48, .tuple #[.agg #[.bool xn.up, .int .i64 xn.term, .bool xn.leads, .bool xn.alone, .slice s.1 xn.ops.length s.2.1], .agg #[.int .i64 xm.kind, .int .i64 xm.whom, .int .i64 xm.term, .int .i64 xm.n, .int .i64 xm.op.kind, .string xm.op.name, .string xm.op.dest, .int .i64 xm.op.n, .string xm.op.text, .slice none 0 0], .bool z]), (43, .tuple #[.agg #[.bool xn.up, .int .i64 xn.term, .bool xn.leads, .bool xn.alone, .slice s.1 xn.ops.length s.2.1], .agg #[.int .i64 xm.kind, .int .i64 xm.whom, .int .i64 xm.term, .int .i64 xm.n, .int .i64 xm.op.kind, .string xm.op.name, .string xm.op.dest, .int .i64 xm.op.n, .string xm.op.text, .slice none 0 0], .bool z]), (49, .agg #[.bool xn.up, .int .i64 xn.term, .bool xn.leads, .bool xn.alone, .slice s.1 xn.ops.length s.2.1]), (50, .agg #[.int .i64 xm.kind, .int .i64 xm.whom, .int .i64 xm.term, .int .i64 xm.n, .int .i64 xm.op.kind, .string xm.op.name, .string xm.op.dest, .int .i64 xm.op.n, .string xm.op.text, .slice none 0 0]), (51, .bool z), (12, .pointer (some ⟨s.2.2, 0, none⟩))]) (fun s w' => Bel W5.drew w' ∧ (OwnO w' W5.drew.heap.size (.slice s.1 xn.ops.length s.2.1) xn.ops) ∧ (Blk w' s.2.2 #[.bool false, .int .i64 0, .bool false, .bool false, .slice none 0 0] 25 ∧ W5.drew.heap.size ≤ s.2.2)) ?_ ?_
  rotate_left
  ·intro hJ3_4_9
   refine join_ (σ := Option Addr × Nat × Nat) 4 #[bT, bT, bT, bT, bT, bT, bT, bT, bT, bF, bT, bF, bF, bF] (fun s => [(47, .agg #[.int .i64 o.kind, .string o.name, .string o.dest, .int .i64 o.n, .string o.text]), (48, .tuple #[.agg #[.bool xn.up, .int .i64 xn.term, .bool xn.leads, .bool xn.alone, .slice s.1 xn.ops.length s.2.1], .agg #[.int .i64 xm.kind, .int .i64 xm.whom, .int .i64 xm.term, .int .i64 xm.n, .int .i64 xm.op.kind, .string xm.op.name, .string xm.op.dest, .int .i64 xm.op.n, .string xm.op.text, .slice none 0 0], .bool z]), (43, .tuple #[.agg #[.bool xn.up, .int .i64 xn.term, .bool xn.leads, .bool xn.alone, .slice s.1 xn.ops.length s.2.1], .agg #[.int .i64 xm.kind, .int .i64 xm.whom, .int .i64 xm.term, .int .i64 xm.n, .int .i64 xm.op.kind, .string xm.op.name, .string xm.op.dest, .int .i64 xm.op.n, .string xm.op.text, .slice none 0 0], .bool z]), (49, .agg #[.bool xn.up, .int .i64 xn.term, .bool xn.leads, .bool xn.alone, .slice s.1 xn.ops.length s.2.1]), (50, .agg #[.int .i64 xm.kind, .int .i64 xm.whom, .int .i64 xm.term, .int .i64 xm.n, .int .i64 xm.op.kind, .string xm.op.name, .string xm.op.dest, .int .i64 xm.op.n, .string xm.op.text, .slice none 0 0]), (51, .bool z), (13, .pointer (some ⟨s.2.2, 0, none⟩))]) (fun s w' => Bel W5.drew w' ∧ (OwnO w' W5.drew.heap.size (.slice s.1 xn.ops.length s.2.1) xn.ops) ∧ (Blk w' s.2.2 #[.int .i64 0, .int .i64 0, .int .i64 0, .int .i64 0, .int .i64 0, .string ⟨#[]⟩, .string ⟨#[]⟩, .int .i64 0, .string ⟨#[]⟩, .slice none 0 0] 29 ∧ W5.drew.heap.size ≤ s.2.2)) ?_ ?_
   rotate_left
   ·intro hJ3_4_10
    refine join_ (σ := Nat × Nat) 8 #[bT, bT, bT, bT, bF, bF, bF, bF, bF, bT, bT, bF, bF, bF] (fun s => [(47, .agg #[.int .i64 o.kind, .string o.name, .string o.dest, .int .i64 o.n, .string o.text]), (12, .pointer (some ⟨s.1, 0, none⟩)), (13, .pointer (some ⟨s.2, 0, none⟩))]) (fun s w' => Bel W5.drew w' ∧ (Blk w' s.1 #[.bool false, .int .i64 0, .bool false, .bool false, .slice none 0 0] 25 ∧ W5.drew.heap.size ≤ s.1) ∧ (Blk w' s.2 #[.int .i64 0, .int .i64 0, .int .i64 0, .int .i64 0, .int .i64 0, .string ⟨#[]⟩, .string ⟨#[]⟩, .int .i64 0, .string ⟨#[]⟩, .slice none 0 0] 29 ∧ W5.drew.heap.size ≤ s.2) ∧ (s.1 ≠ s.2)) ?_ ?_
    rotate_left
    ·intro hJ3_9_10
     refine join_ (σ := Option Addr × Nat) 5 #[bT, bT, bT, bT, bT, bT, bT, bT, bT, bF, bF, bF, bF, bF] (fun s => [(47, .agg #[.int .i64 o.kind, .string o.name, .string o.dest, .int .i64 o.n, .string o.text]), (48, .tuple #[.agg #[.bool xn.up, .int .i64 xn.term, .bool xn.leads, .bool xn.alone, .slice s.1 xn.ops.length s.2], .agg #[.int .i64 xm.kind, .int .i64 xm.whom, .int .i64 xm.term, .int .i64 xm.n, .int .i64 xm.op.kind, .string xm.op.name, .string xm.op.dest, .int .i64 xm.op.n, .string xm.op.text, .slice none 0 0], .bool z]), (43, .tuple #[.agg #[.bool xn.up, .int .i64 xn.term, .bool xn.leads, .bool xn.alone, .slice s.1 xn.ops.length s.2], .agg #[.int .i64 xm.kind, .int .i64 xm.whom, .int .i64 xm.term, .int .i64 xm.n, .int .i64 xm.op.kind, .string xm.op.name, .string xm.op.dest, .int .i64 xm.op.n, .string xm.op.text, .slice none 0 0], .bool z]), (49, .agg #[.bool xn.up, .int .i64 xn.term, .bool xn.leads, .bool xn.alone, .slice s.1 xn.ops.length s.2]), (50, .agg #[.int .i64 xm.kind, .int .i64 xm.whom, .int .i64 xm.term, .int .i64 xm.n, .int .i64 xm.op.kind, .string xm.op.name, .string xm.op.dest, .int .i64 xm.op.n, .string xm.op.text, .slice none 0 0]), (51, .bool z)]) (fun s w' => Bel W5.drew w' ∧ (OwnO w' W5.drew.heap.size (.slice s.1 xn.ops.length s.2) xn.ops)) ?_ ?_
     rotate_left
     ·intro hJ3_4
      refine join_ (σ := Nat) 9 #[bT, bT, bT, bT, bF, bF, bF, bF, bF, bT, bF, bF, bF, bF] (fun s => [(47, .agg #[.int .i64 o.kind, .string o.name, .string o.dest, .int .i64 o.n, .string o.text]), (12, .pointer (some ⟨s, 0, none⟩))]) (fun s w' => Bel W5.drew w' ∧ (Blk w' s #[.bool false, .int .i64 0, .bool false, .bool false, .slice none 0 0] 25 ∧ W5.drew.heap.size ≤ s)) ?_ ?_
      rotate_left
      ·intro hJ3_9
       refine join_ (σ := Nat) 9 #[bT, bT, bT, bT, bF, bF, bF, bF, bF, bF, bT, bF, bF, bF] (fun s => [(47, .agg #[.int .i64 o.kind, .string o.name, .string o.dest, .int .i64 o.n, .string o.text]), (13, .pointer (some ⟨s, 0, none⟩))]) (fun s w' => Bel W5.drew w' ∧ (Blk w' s #[.int .i64 0, .int .i64 0, .int .i64 0, .int .i64 0, .int .i64 0, .string ⟨#[]⟩, .string ⟨#[]⟩, .int .i64 0, .string ⟨#[]⟩, .slice none 0 0] 29 ∧ W5.drew.heap.size ≤ s)) ?_ ?_
       rotate_left
       ·intro hJ3_10
        refine join_ (σ := Nat × Nat) 9 #[bT, bT, bT, bF, bF, bF, bF, bF, bF, bT, bT, bF, bF, bF] (fun s => [(12, .pointer (some ⟨s.1, 0, none⟩)), (13, .pointer (some ⟨s.2, 0, none⟩))]) (fun s w' => Bel W5.drew w' ∧ (Blk w' s.1 #[.bool false, .int .i64 0, .bool false, .bool false, .slice none 0 0] 25 ∧ W5.drew.heap.size ≤ s.1) ∧ (Blk w' s.2 #[.int .i64 0, .int .i64 0, .int .i64 0, .int .i64 0, .int .i64 0, .string ⟨#[]⟩, .string ⟨#[]⟩, .int .i64 0, .string ⟨#[]⟩, .slice none 0 0] 29 ∧ W5.drew.heap.size ≤ s.2) ∧ (s.1 ≠ s.2)) ?_ ?_
        rotate_left
        ·intro hJ9_10
         refine join_ (σ := Unit) 10 #[bT, bT, bT, bT, bF, bF, bF, bF, bF, bF, bF, bF, bF, bF] (fun s => [(47, .agg #[.int .i64 o.kind, .string o.name, .string o.dest, .int .i64 o.n, .string o.text])]) (fun s w' => Bel W5.drew w') ?_ ?_
         rotate_left
         ·intro hJ3
          refine join_ (σ := Nat) 10 #[bT, bT, bT, bF, bF, bF, bF, bF, bF, bT, bF, bF, bF, bF] (fun s => [(12, .pointer (some ⟨s, 0, none⟩))]) (fun s w' => Bel W5.drew w' ∧ (Blk w' s #[.bool false, .int .i64 0, .bool false, .bool false, .slice none 0 0] 25 ∧ W5.drew.heap.size ≤ s)) ?_ ?_
          rotate_left
          ·intro hJ9
           refine join_ (σ := Nat) 10 #[bT, bT, bT, bF, bF, bF, bF, bF, bF, bF, bT, bF, bF, bF] (fun s => [(13, .pointer (some ⟨s, 0, none⟩))]) (fun s w' => Bel W5.drew w' ∧ (Blk w' s #[.int .i64 0, .int .i64 0, .int .i64 0, .int .i64 0, .int .i64 0, .string ⟨#[]⟩, .string ⟨#[]⟩, .int .i64 0, .string ⟨#[]⟩, .slice none 0 0] 29 ∧ W5.drew.heap.size ≤ s)) ?_ ?_
           rotate_left
           ·intro hJ10
            refine three_ (i := 3) (j := 9) (k := 10) (Ni := some 47) (Nj := some 12) (Nk := some 13) #[bT, bT, bT, bT, bF, bF, bF, bF, bF, bF, bF, bF, bF, bF] #[bT, bT, bT, bF, bF, bF, bF, bF, bF, bT, bF, bF, bF, bF] #[bT, bT, bT, bF, bF, bF, bF, bF, bF, bF, bT, bF, bF, bF] rfl rfl rfl rfl rfl rfl (by kernel_rfl) (by decide) (by decide) (by decide) (fun K hK => ?_) (fun K hK => ?_) (fun K hK => ?_)
            ·skip
             refine goes_ Tryz.func42 (by kernel_rfl) rfl #[.agg #[.int .i64 o.kind, .string o.name, .string o.dest, .int .i64 o.n, .string o.text]] (by rfl) rfl rfl (by simp only [List.map_toArray, List.map_cons, List.map_nil]; rfl) ?_
             with_reducible refine (toOp_c o _).mono ?_
             rintro e wn ⟨rfl, hbN⟩
             have gb : Hid (Bel W5.drew wn) := Lib.hid (Below.trans (Below.refl _ _ : Bel W5.drew W5.drew) (Below.mono hbN (Below.size (Below.refl _ _ : Bel W5.drew W5.drew))))
             clear hbN
             refine ⟨_, rfl, ?_⟩
             refine hK.out _ _ (HSF.out _ gb.out) (fun hHeld => ?_)
             clear hK K
             refine norm_ (a' := ?_) ?_ ?_
             rotate_left
             ·show Act.put _ (some 47) _ = _
              simp only [Act.put, lA, lB, lC, i64_w, i32_w]
              rfl
             exact norm_ (by first | (simp only [putAll, Act.put, lA, lB, lC]; done) | (simp only [putAll, Act.put, lA, lB, lC]; rfl)) (hJ3 () _ gb.out)
            ·skip
             refine value_ (w1 := ?_) (v := ?_) (by rfl) rfl ?_ ?_
             rotate_left 2
             ·go_simp
              constructor
              ·rfl
              ·rfl
             have hbN : Bel W5.drew (W5.alloc (.cells #[.bool false, .int .i64 0, .bool false, .bool false, .slice none 0 0] 25)).drew := bel_alloc (Below.refl _ _) _
             have gb : Hid (Bel W5.drew (W5.alloc (.cells #[.bool false, .int .i64 0, .bool false, .bool false, .slice none 0 0] 25)).drew) := Lib.hid (Below.trans (Below.refl _ _ : Bel W5.drew W5.drew) (Below.mono hbN (Below.size (Below.refl _ _ : Bel W5.drew W5.drew))))
             have gnb12 : Hid (Blk (W5.alloc (.cells #[.bool false, .int .i64 0, .bool false, .bool false, .slice none 0 0] 25)).drew W5.heap.size #[.bool false, .int .i64 0, .bool false, .bool false, .slice none 0 0] 25 ∧ W5.drew.heap.size ≤ W5.heap.size) := Lib.hid ⟨Blk.new _ _ _, Nat.le_refl _⟩
             clear hbN
             refine hK.out _ _ (HSF.out _ gb.out) (fun hHeld => ?_)
             clear hK K
             refine norm_ (a' := ?_) ?_ ?_
             rotate_left
             ·show Act.put _ (some 12) _ = _
              simp only [Act.put, lA, lB, lC, i64_w, i32_w]
              rfl
             exact norm_ (by first | (simp only [putAll, Act.put, lA, lB, lC]; done) | (simp only [putAll, Act.put, lA, lB, lC]; rfl)) (hJ9 (W5.heap.size) _ ⟨gb.out, gnb12.out⟩)
            ·skip
             refine value_ (w1 := ?_) (v := ?_) (by rfl) rfl ?_ ?_
             rotate_left 2
             ·go_simp
              constructor
              ·rfl
              ·rfl
             have hbN : Bel W5.drew (W5.alloc (.cells #[.int .i64 0, .int .i64 0, .int .i64 0, .int .i64 0, .int .i64 0, .string ⟨#[]⟩, .string ⟨#[]⟩, .int .i64 0, .string ⟨#[]⟩, .slice none 0 0] 29)).drew := bel_alloc (Below.refl _ _) _
             have gb : Hid (Bel W5.drew (W5.alloc (.cells #[.int .i64 0, .int .i64 0, .int .i64 0, .int .i64 0, .int .i64 0, .string ⟨#[]⟩, .string ⟨#[]⟩, .int .i64 0, .string ⟨#[]⟩, .slice none 0 0] 29)).drew) := Lib.hid (Below.trans (Below.refl _ _ : Bel W5.drew W5.drew) (Below.mono hbN (Below.size (Below.refl _ _ : Bel W5.drew W5.drew))))
             have gnb13 : Hid (Blk (W5.alloc (.cells #[.int .i64 0, .int .i64 0, .int .i64 0, .int .i64 0, .int .i64 0, .string ⟨#[]⟩, .string ⟨#[]⟩, .int .i64 0, .string ⟨#[]⟩, .slice none 0 0] 29)).drew W5.heap.size #[.int .i64 0, .int .i64 0, .int .i64 0, .int .i64 0, .int .i64 0, .string ⟨#[]⟩, .string ⟨#[]⟩, .int .i64 0, .string ⟨#[]⟩, .slice none 0 0] 29 ∧ W5.drew.heap.size ≤ W5.heap.size) := Lib.hid ⟨Blk.new _ _ _, Nat.le_refl _⟩
             clear hbN
             refine hK.out _ _ (HSF.out _ gb.out) (fun hHeld => ?_)
             clear hK K
             refine norm_ (a' := ?_) ?_ ?_
             rotate_left
             ·show Act.put _ (some 13) _ = _
              simp only [Act.put, lA, lB, lC, i64_w, i32_w]
              rfl
             exact norm_ (by first | (simp only [putAll, Act.put, lA, lB, lC]; done) | (simp only [putAll, Act.put, lA, lB, lC]; rfl)) (hJ10 (W5.heap.size) _ ⟨gb.out, gnb13.out⟩)
           ·skip
            rintro nb13 wc ⟨hb, hnb13⟩
            try dsimp only at hnb13
            have hb := Lib.hid hb
            have fnb13 := Lib.hid hnb13
            clear hnb13
            refine norm_ (a' := ?_) ?_ ?_
            rotate_left
            ·simp only [putAll, Act.put, lA, lB, lC]
             rfl
            refine two_ (i := 3) (j := 9) (Ni := some 47) (Nj := some 12) #[bT, bT, bT, bT, bF, bF, bF, bF, bF, bF, bT, bF, bF, bF] #[bT, bT, bT, bF, bF, bF, bF, bF, bF, bT, bT, bF, bF, bF] rfl rfl rfl rfl (by kernel_rfl) (by decide) (by decide) (fun K hK => ?_) (fun K hK => ?_)
            ·skip
             refine goes_ Tryz.func42 (by kernel_rfl) rfl #[.agg #[.int .i64 o.kind, .string o.name, .string o.dest, .int .i64 o.n, .string o.text]] (by rfl) rfl rfl (by simp only [List.map_toArray, List.map_cons, List.map_nil]; rfl) ?_
             with_reducible refine (toOp_c o _).mono ?_
             rintro e wn ⟨rfl, hbN⟩
             have gb : Hid (Bel W5.drew wn) := Lib.hid (Below.trans hb.out (Below.mono hbN (Below.size hb.out)))
             have gnb13 : Hid (Blk wn nb13 #[.int .i64 0, .int .i64 0, .int .i64 0, .int .i64 0, .int .i64 0, .string ⟨#[]⟩, .string ⟨#[]⟩, .int .i64 0, .string ⟨#[]⟩, .slice none 0 0] 29 ∧ W5.drew.heap.size ≤ nb13) := Lib.hid (⟨fnb13.out.1.bel hbN, fnb13.out.2⟩)
             clear hbN
             refine ⟨_, rfl, ?_⟩
             refine hK.out _ _ (HSF.out _ gb.out) (fun hHeld => ?_)
             clear hK K
             refine norm_ (a' := ?_) ?_ ?_
             rotate_left
             ·show Act.put _ (some 47) _ = _
              simp only [Act.put, lA, lB, lC, i64_w, i32_w]
              rfl
             exact norm_ (by first | (simp only [putAll, Act.put, lA, lB, lC]; done) | (simp only [putAll, Act.put, lA, lB, lC]; rfl)) (hJ3_10 (nb13) _ ⟨gb.out, gnb13.out⟩)
            ·skip
             refine value_ (w1 := ?_) (v := ?_) (by rfl) rfl ?_ ?_
             rotate_left 2
             ·go_simp
              constructor
              ·rfl
              ·rfl
             have hbN : Bel wc (wc.alloc (.cells #[.bool false, .int .i64 0, .bool false, .bool false, .slice none 0 0] 25)) := bel_alloc (Below.refl _ _) _
             have gb : Hid (Bel W5.drew (wc.alloc (.cells #[.bool false, .int .i64 0, .bool false, .bool false, .slice none 0 0] 25))) := Lib.hid (Below.trans hb.out (Below.mono hbN (Below.size hb.out)))
             have gnb13 : Hid (Blk (wc.alloc (.cells #[.bool false, .int .i64 0, .bool false, .bool false, .slice none 0 0] 25)) nb13 #[.int .i64 0, .int .i64 0, .int .i64 0, .int .i64 0, .int .i64 0, .string ⟨#[]⟩, .string ⟨#[]⟩, .int .i64 0, .string ⟨#[]⟩, .slice none 0 0] 29 ∧ W5.drew.heap.size ≤ nb13) := Lib.hid (⟨fnb13.out.1.bel hbN, fnb13.out.2⟩)
             have gnb12 : Hid (Blk (wc.alloc (.cells #[.bool false, .int .i64 0, .bool false, .bool false, .slice none 0 0] 25)) wc.heap.size #[.bool false, .int .i64 0, .bool false, .bool false, .slice none 0 0] 25 ∧ W5.drew.heap.size ≤ wc.heap.size) := Lib.hid ⟨Blk.new _ _ _, Below.size hb.out⟩
             have gne : Hid (wc.heap.size ≠ nb13) := Lib.hid (Nat.ne_of_gt fnb13.out.1.lt)
             clear hbN
             refine hK.out _ _ (HSF.out _ gb.out) (fun hHeld => ?_)
             clear hK K
             refine norm_ (a' := ?_) ?_ ?_
             rotate_left
             ·show Act.put _ (some 12) _ = _
              simp only [Act.put, lA, lB, lC, i64_w, i32_w]
              rfl
             exact norm_ (by first | (simp only [putAll, Act.put, lA, lB, lC]; done) | (simp only [putAll, Act.put, lA, lB, lC]; rfl)) (hJ9_10 (wc.heap.size, nb13) _ ⟨gb.out, gnb12.out, gnb13.out, gne.out⟩)
          ·skip
           rintro nb12 wc ⟨hb, hnb12⟩
           try dsimp only at hnb12
           have hb := Lib.hid hb
           have fnb12 := Lib.hid hnb12
           clear hnb12
           refine norm_ (a' := ?_) ?_ ?_
           rotate_left
           ·simp only [putAll, Act.put, lA, lB, lC]
            rfl
           refine two_ (i := 3) (j := 10) (Ni := some 47) (Nj := some 13) #[bT, bT, bT, bT, bF, bF, bF, bF, bF, bT, bF, bF, bF, bF] #[bT, bT, bT, bF, bF, bF, bF, bF, bF, bT, bT, bF, bF, bF] rfl rfl rfl rfl (by kernel_rfl) (by decide) (by decide) (fun K hK => ?_) (fun K hK => ?_)
           ·skip
            refine goes_ Tryz.func42 (by kernel_rfl) rfl #[.agg #[.int .i64 o.kind, .string o.name, .string o.dest, .int .i64 o.n, .string o.text]] (by rfl) rfl rfl (by simp only [List.map_toArray, List.map_cons, List.map_nil]; rfl) ?_
            with_reducible refine (toOp_c o _).mono ?_
            rintro e wn ⟨rfl, hbN⟩
            have gb : Hid (Bel W5.drew wn) := Lib.hid (Below.trans hb.out (Below.mono hbN (Below.size hb.out)))
            have gnb12 : Hid (Blk wn nb12 #[.bool false, .int .i64 0, .bool false, .bool false, .slice none 0 0] 25 ∧ W5.drew.heap.size ≤ nb12) := Lib.hid (⟨fnb12.out.1.bel hbN, fnb12.out.2⟩)
            clear hbN
            refine ⟨_, rfl, ?_⟩
            refine hK.out _ _ (HSF.out _ gb.out) (fun hHeld => ?_)
            clear hK K
            refine norm_ (a' := ?_) ?_ ?_
            rotate_left
            ·show Act.put _ (some 47) _ = _
             simp only [Act.put, lA, lB, lC, i64_w, i32_w]
             rfl
            exact norm_ (by first | (simp only [putAll, Act.put, lA, lB, lC]; done) | (simp only [putAll, Act.put, lA, lB, lC]; rfl)) (hJ3_9 (nb12) _ ⟨gb.out, gnb12.out⟩)
           ·skip
            refine value_ (w1 := ?_) (v := ?_) (by rfl) rfl ?_ ?_
            rotate_left 2
            ·go_simp
             constructor
             ·rfl
             ·rfl
            have hbN : Bel wc (wc.alloc (.cells #[.int .i64 0, .int .i64 0, .int .i64 0, .int .i64 0, .int .i64 0, .string ⟨#[]⟩, .string ⟨#[]⟩, .int .i64 0, .string ⟨#[]⟩, .slice none 0 0] 29)) := bel_alloc (Below.refl _ _) _
            have gb : Hid (Bel W5.drew (wc.alloc (.cells #[.int .i64 0, .int .i64 0, .int .i64 0, .int .i64 0, .int .i64 0, .string ⟨#[]⟩, .string ⟨#[]⟩, .int .i64 0, .string ⟨#[]⟩, .slice none 0 0] 29))) := Lib.hid (Below.trans hb.out (Below.mono hbN (Below.size hb.out)))
            have gnb12 : Hid (Blk (wc.alloc (.cells #[.int .i64 0, .int .i64 0, .int .i64 0, .int .i64 0, .int .i64 0, .string ⟨#[]⟩, .string ⟨#[]⟩, .int .i64 0, .string ⟨#[]⟩, .slice none 0 0] 29)) nb12 #[.bool false, .int .i64 0, .bool false, .bool false, .slice none 0 0] 25 ∧ W5.drew.heap.size ≤ nb12) := Lib.hid (⟨fnb12.out.1.bel hbN, fnb12.out.2⟩)
            have gnb13 : Hid (Blk (wc.alloc (.cells #[.int .i64 0, .int .i64 0, .int .i64 0, .int .i64 0, .int .i64 0, .string ⟨#[]⟩, .string ⟨#[]⟩, .int .i64 0, .string ⟨#[]⟩, .slice none 0 0] 29)) wc.heap.size #[.int .i64 0, .int .i64 0, .int .i64 0, .int .i64 0, .int .i64 0, .string ⟨#[]⟩, .string ⟨#[]⟩, .int .i64 0, .string ⟨#[]⟩, .slice none 0 0] 29 ∧ W5.drew.heap.size ≤ wc.heap.size) := Lib.hid ⟨Blk.new _ _ _, Below.size hb.out⟩
            have gne : Hid (nb12 ≠ wc.heap.size) := Lib.hid (Nat.ne_of_lt fnb12.out.1.lt)
            clear hbN
            refine hK.out _ _ (HSF.out _ gb.out) (fun hHeld => ?_)
            clear hK K
            refine norm_ (a' := ?_) ?_ ?_
            rotate_left
            ·show Act.put _ (some 13) _ = _
             simp only [Act.put, lA, lB, lC, i64_w, i32_w]
             rfl
            exact norm_ (by first | (simp only [putAll, Act.put, lA, lB, lC]; done) | (simp only [putAll, Act.put, lA, lB, lC]; rfl)) (hJ9_10 (nb12, wc.heap.size) _ ⟨gb.out, gnb12.out, gnb13.out, gne.out⟩)
         ·skip
          rintro _ wc hb
          have hb := Lib.hid hb
          refine norm_ (a' := ?_) ?_ ?_
          rotate_left
          ·simp only [putAll, Act.put, lA, lB, lC]
           rfl
          refine three_ (i := 4) (j := 9) (k := 10) (Ni := some 48) (Nj := some 12) (Nk := some 13) #[bT, bT, bT, bT, bT, bF, bF, bF, bF, bF, bF, bF, bF, bF] #[bT, bT, bT, bT, bF, bF, bF, bF, bF, bT, bF, bF, bF, bF] #[bT, bT, bT, bT, bF, bF, bF, bF, bF, bF, bT, bF, bF, bF] rfl rfl rfl rfl rfl rfl (by kernel_rfl) (by decide) (by decide) (by decide) (fun K hK => ?_) (fun K hK => ?_) (fun K hK => ?_)
          ·skip
           refine goes_ Tryz.func43 (by kernel_rfl) rfl #[.agg #[.bool n.up, .int .i64 n.term, .bool n.leads, .bool n.alone, .slice Xv n.ops.length xv], .int .i64 id, .agg #[.int .i64 o.kind, .string o.name, .string o.dest, .int .i64 o.n, .string o.text]] (by rfl) rfl rfl (by simp only [List.map_toArray, List.map_cons, List.map_nil]; rfl) ?_
           with_reducible refine (him.out _ (kOp_keep hCX.out hb.out)).mono ?_
           rintro e wn ⟨v, rfl, hoo, hbN⟩
           obtain ⟨G, g, rfl, -, -⟩ := hoo.reads
           have gas : Hid (OwnO wn W5.drew.heap.size (.slice G xn.ops.length g) xn.ops) := Lib.hid (own_lower hoo (Below.size hb.out))
           clear hoo
           have gb : Hid (Bel W5.drew wn) := Lib.hid (Below.trans hb.out (Below.mono hbN (Below.size hb.out)))
           clear hbN
           refine ⟨_, rfl, ?_⟩
           refine hK.out _ _ (HSF.out _ gb.out) (fun hHeld => ?_)
           clear hK K
           refine norm_ (a' := ?_) ?_ ?_
           rotate_left
           ·show Act.put _ (some 48) _ = _
            simp only [Act.put, lA, lB, lC, i64_w, i32_w]
            rfl
           refine pure_ (i := 5) (N := some 43) (v := ?_) (a' := ?_) #[bT, bT, bT, bT, bT, bT, bF, bF, bF, bF, bF, bF, bF, bF] rfl rfl (by kernel_rfl) (fun _ _ _ h => h) (Or.inl ⟨by rfl, ?_⟩) ?_ ?_
           rotate_left
           ·intro w'
            go_simp
            with_reducible rfl
           rotate_left
           ·simp only [Act.put, lA, lB, lC, i64_w, i32_w]
            rfl
           refine pure_ (i := 6) (N := some 49) (v := ?_) (a' := ?_) #[bT, bT, bT, bT, bT, bT, bT, bF, bF, bF, bF, bF, bF, bF] rfl rfl (by kernel_rfl) (fun _ _ _ h => h) (Or.inl ⟨by rfl, ?_⟩) ?_ ?_
           rotate_left
           ·intro w'
            go_simp
            with_reducible rfl
           rotate_left
           ·simp only [Act.put, lA, lB, lC, i64_w, i32_w]
            rfl
           refine pure_ (i := 7) (N := some 50) (v := ?_) (a' := ?_) #[bT, bT, bT, bT, bT, bT, bT, bT, bF, bF, bF, bF, bF, bF] rfl rfl (by kernel_rfl) (fun _ _ _ h => h) (Or.inl ⟨by rfl, ?_⟩) ?_ ?_
           rotate_left
           ·intro w'
            go_simp
            with_reducible rfl
           rotate_left
           ·simp only [Act.put, lA, lB, lC, i64_w, i32_w]
            rfl
           refine pure_ (i := 8) (N := some 51) (v := ?_) (a' := ?_) #[bT, bT, bT, bT, bT, bT, bT, bT, bT, bF, bF, bF, bF, bF] rfl rfl (by kernel_rfl) (fun _ _ _ h => h) (Or.inl ⟨by rfl, ?_⟩) ?_ ?_
           rotate_left
           ·intro w'
            go_simp
            with_reducible rfl
           rotate_left
           ·simp only [Act.put, lA, lB, lC, i64_w, i32_w]
            rfl
           exact norm_ (by first | (simp only [putAll, Act.put, lA, lB, lC]; done) | (simp only [putAll, Act.put, lA, lB, lC]; rfl)) (hJ3_4 (G, g) _ ⟨gb.out, gas.out⟩)
          ·skip
           refine value_ (w1 := ?_) (v := ?_) (by rfl) rfl ?_ ?_
           rotate_left 2
           ·go_simp
            constructor
            ·rfl
            ·rfl
           have hbN : Bel wc (wc.alloc (.cells #[.bool false, .int .i64 0, .bool false, .bool false, .slice none 0 0] 25)) := bel_alloc (Below.refl _ _) _
           have gb : Hid (Bel W5.drew (wc.alloc (.cells #[.bool false, .int .i64 0, .bool false, .bool false, .slice none 0 0] 25))) := Lib.hid (Below.trans hb.out (Below.mono hbN (Below.size hb.out)))
           have gnb12 : Hid (Blk (wc.alloc (.cells #[.bool false, .int .i64 0, .bool false, .bool false, .slice none 0 0] 25)) wc.heap.size #[.bool false, .int .i64 0, .bool false, .bool false, .slice none 0 0] 25 ∧ W5.drew.heap.size ≤ wc.heap.size) := Lib.hid ⟨Blk.new _ _ _, Below.size hb.out⟩
           clear hbN
           refine hK.out _ _ (HSF.out _ gb.out) (fun hHeld => ?_)
           clear hK K
           refine norm_ (a' := ?_) ?_ ?_
           rotate_left
           ·show Act.put _ (some 12) _ = _
            simp only [Act.put, lA, lB, lC, i64_w, i32_w]
            rfl
           exact norm_ (by first | (simp only [putAll, Act.put, lA, lB, lC]; done) | (simp only [putAll, Act.put, lA, lB, lC]; rfl)) (hJ3_9 (wc.heap.size) _ ⟨gb.out, gnb12.out⟩)
          ·skip
           refine value_ (w1 := ?_) (v := ?_) (by rfl) rfl ?_ ?_
           rotate_left 2
           ·go_simp
            constructor
            ·rfl
            ·rfl
           have hbN : Bel wc (wc.alloc (.cells #[.int .i64 0, .int .i64 0, .int .i64 0, .int .i64 0, .int .i64 0, .string ⟨#[]⟩, .string ⟨#[]⟩, .int .i64 0, .string ⟨#[]⟩, .slice none 0 0] 29)) := bel_alloc (Below.refl _ _) _
           have gb : Hid (Bel W5.drew (wc.alloc (.cells #[.int .i64 0, .int .i64 0, .int .i64 0, .int .i64 0, .int .i64 0, .string ⟨#[]⟩, .string ⟨#[]⟩, .int .i64 0, .string ⟨#[]⟩, .slice none 0 0] 29))) := Lib.hid (Below.trans hb.out (Below.mono hbN (Below.size hb.out)))
           have gnb13 : Hid (Blk (wc.alloc (.cells #[.int .i64 0, .int .i64 0, .int .i64 0, .int .i64 0, .int .i64 0, .string ⟨#[]⟩, .string ⟨#[]⟩, .int .i64 0, .string ⟨#[]⟩, .slice none 0 0] 29)) wc.heap.size #[.int .i64 0, .int .i64 0, .int .i64 0, .int .i64 0, .int .i64 0, .string ⟨#[]⟩, .string ⟨#[]⟩, .int .i64 0, .string ⟨#[]⟩, .slice none 0 0] 29 ∧ W5.drew.heap.size ≤ wc.heap.size) := Lib.hid ⟨Blk.new _ _ _, Below.size hb.out⟩
           clear hbN
           refine hK.out _ _ (HSF.out _ gb.out) (fun hHeld => ?_)
           clear hK K
           refine norm_ (a' := ?_) ?_ ?_
           rotate_left
           ·show Act.put _ (some 13) _ = _
            simp only [Act.put, lA, lB, lC, i64_w, i32_w]
            rfl
           exact norm_ (by first | (simp only [putAll, Act.put, lA, lB, lC]; done) | (simp only [putAll, Act.put, lA, lB, lC]; rfl)) (hJ3_10 (wc.heap.size) _ ⟨gb.out, gnb13.out⟩)
        ·skip
         rintro ⟨nb12, nb13⟩ wc ⟨hb, hnb12, hnb13, hne⟩
         try dsimp only at hnb12
         try dsimp only at hnb13
         try dsimp only at hne
         have hb := Lib.hid hb
         have fnb12 := Lib.hid hnb12
         have fnb13 := Lib.hid hnb13
         have fne := Lib.hid hne
         clear hnb12 hnb13 hne
         refine norm_ (a' := ?_) ?_ ?_
         rotate_left
         ·simp only [putAll, Act.put, lA, lB, lC]
          rfl
         refine one_ (i := 3) (N := some 47) #[bT, bT, bT, bT, bF, bF, bF, bF, bF, bT, bT, bF, bF, bF] rfl rfl (by kernel_rfl) (by decide) (fun K hK => ?_)
         refine goes_ Tryz.func42 (by kernel_rfl) rfl #[.agg #[.int .i64 o.kind, .string o.name, .string o.dest, .int .i64 o.n, .string o.text]] (by rfl) rfl rfl (by simp only [List.map_toArray, List.map_cons, List.map_nil]; rfl) ?_
         with_reducible refine (toOp_c o _).mono ?_
         rintro e wn ⟨rfl, hbN⟩
         have gb : Hid (Bel W5.drew wn) := Lib.hid (Below.trans hb.out (Below.mono hbN (Below.size hb.out)))
         have gnb12 : Hid (Blk wn nb12 #[.bool false, .int .i64 0, .bool false, .bool false, .slice none 0 0] 25 ∧ W5.drew.heap.size ≤ nb12) := Lib.hid (⟨fnb12.out.1.bel hbN, fnb12.out.2⟩)
         have gnb13 : Hid (Blk wn nb13 #[.int .i64 0, .int .i64 0, .int .i64 0, .int .i64 0, .int .i64 0, .string ⟨#[]⟩, .string ⟨#[]⟩, .int .i64 0, .string ⟨#[]⟩, .slice none 0 0] 29 ∧ W5.drew.heap.size ≤ nb13) := Lib.hid (⟨fnb13.out.1.bel hbN, fnb13.out.2⟩)
         have gne := fne
         clear hbN
         refine ⟨_, rfl, ?_⟩
         refine hK.out _ _ (HSF.out _ gb.out) (fun hHeld => ?_)
         clear hK K
         refine norm_ (a' := ?_) ?_ ?_
         rotate_left
         ·show Act.put _ (some 47) _ = _
          simp only [Act.put, lA, lB, lC, i64_w, i32_w]
          rfl
         exact norm_ (by first | (simp only [putAll, Act.put, lA, lB, lC]; done) | (simp only [putAll, Act.put, lA, lB, lC]; rfl)) (hJ3_9_10 (nb12, nb13) _ ⟨gb.out, gnb12.out, gnb13.out, gne.out⟩)
       ·skip
        rintro nb13 wc ⟨hb, hnb13⟩
        try dsimp only at hnb13
        have hb := Lib.hid hb
        have fnb13 := Lib.hid hnb13
        clear hnb13
        refine norm_ (a' := ?_) ?_ ?_
        rotate_left
        ·simp only [putAll, Act.put, lA, lB, lC]
         rfl
        refine two_ (i := 4) (j := 9) (Ni := some 48) (Nj := some 12) #[bT, bT, bT, bT, bT, bF, bF, bF, bF, bF, bT, bF, bF, bF] #[bT, bT, bT, bT, bF, bF, bF, bF, bF, bT, bT, bF, bF, bF] rfl rfl rfl rfl (by kernel_rfl) (by decide) (by decide) (fun K hK => ?_) (fun K hK => ?_)
        ·skip
         refine goes_ Tryz.func43 (by kernel_rfl) rfl #[.agg #[.bool n.up, .int .i64 n.term, .bool n.leads, .bool n.alone, .slice Xv n.ops.length xv], .int .i64 id, .agg #[.int .i64 o.kind, .string o.name, .string o.dest, .int .i64 o.n, .string o.text]] (by rfl) rfl rfl (by simp only [List.map_toArray, List.map_cons, List.map_nil]; rfl) ?_
         with_reducible refine (him.out _ (kOp_keep hCX.out hb.out)).mono ?_
         rintro e wn ⟨v, rfl, hoo, hbN⟩
         obtain ⟨G, g, rfl, -, -⟩ := hoo.reads
         have gas : Hid (OwnO wn W5.drew.heap.size (.slice G xn.ops.length g) xn.ops) := Lib.hid (own_lower hoo (Below.size hb.out))
         clear hoo
         have gb : Hid (Bel W5.drew wn) := Lib.hid (Below.trans hb.out (Below.mono hbN (Below.size hb.out)))
         have gnb13 : Hid (Blk wn nb13 #[.int .i64 0, .int .i64 0, .int .i64 0, .int .i64 0, .int .i64 0, .string ⟨#[]⟩, .string ⟨#[]⟩, .int .i64 0, .string ⟨#[]⟩, .slice none 0 0] 29 ∧ W5.drew.heap.size ≤ nb13) := Lib.hid (⟨fnb13.out.1.bel hbN, fnb13.out.2⟩)
         clear hbN
         refine ⟨_, rfl, ?_⟩
         refine hK.out _ _ (HSF.out _ gb.out) (fun hHeld => ?_)
         clear hK K
         refine norm_ (a' := ?_) ?_ ?_
         rotate_left
         ·show Act.put _ (some 48) _ = _
          simp only [Act.put, lA, lB, lC, i64_w, i32_w]
          rfl
         refine pure_ (i := 5) (N := some 43) (v := ?_) (a' := ?_) #[bT, bT, bT, bT, bT, bT, bF, bF, bF, bF, bT, bF, bF, bF] rfl rfl (by kernel_rfl) (fun _ _ _ h => h) (Or.inl ⟨by rfl, ?_⟩) ?_ ?_
         rotate_left
         ·intro w'
          go_simp
          with_reducible rfl
         rotate_left
         ·simp only [Act.put, lA, lB, lC, i64_w, i32_w]
          rfl
         refine pure_ (i := 6) (N := some 49) (v := ?_) (a' := ?_) #[bT, bT, bT, bT, bT, bT, bT, bF, bF, bF, bT, bF, bF, bF] rfl rfl (by kernel_rfl) (fun _ _ _ h => h) (Or.inl ⟨by rfl, ?_⟩) ?_ ?_
         rotate_left
         ·intro w'
          go_simp
          with_reducible rfl
         rotate_left
         ·simp only [Act.put, lA, lB, lC, i64_w, i32_w]
          rfl
         refine pure_ (i := 7) (N := some 50) (v := ?_) (a' := ?_) #[bT, bT, bT, bT, bT, bT, bT, bT, bF, bF, bT, bF, bF, bF] rfl rfl (by kernel_rfl) (fun _ _ _ h => h) (Or.inl ⟨by rfl, ?_⟩) ?_ ?_
         rotate_left
         ·intro w'
          go_simp
          with_reducible rfl
         rotate_left
         ·simp only [Act.put, lA, lB, lC, i64_w, i32_w]
          rfl
         refine pure_ (i := 8) (N := some 51) (v := ?_) (a' := ?_) #[bT, bT, bT, bT, bT, bT, bT, bT, bT, bF, bT, bF, bF, bF] rfl rfl (by kernel_rfl) (fun _ _ _ h => h) (Or.inl ⟨by rfl, ?_⟩) ?_ ?_
         rotate_left
         ·intro w'
          go_simp
          with_reducible rfl
         rotate_left
         ·simp only [Act.put, lA, lB, lC, i64_w, i32_w]
          rfl
         exact norm_ (by first | (simp only [putAll, Act.put, lA, lB, lC]; done) | (simp only [putAll, Act.put, lA, lB, lC]; rfl)) (hJ3_4_10 (G, g, nb13) _ ⟨gb.out, gas.out, gnb13.out⟩)
        ·skip
         refine value_ (w1 := ?_) (v := ?_) (by rfl) rfl ?_ ?_
         rotate_left 2
         ·go_simp
          constructor
          ·rfl
          ·rfl
         have hbN : Bel wc (wc.alloc (.cells #[.bool false, .int .i64 0, .bool false, .bool false, .slice none 0 0] 25)) := bel_alloc (Below.refl _ _) _
         have gb : Hid (Bel W5.drew (wc.alloc (.cells #[.bool false, .int .i64 0, .bool false, .bool false, .slice none 0 0] 25))) := Lib.hid (Below.trans hb.out (Below.mono hbN (Below.size hb.out)))
         have gnb13 : Hid (Blk (wc.alloc (.cells #[.bool false, .int .i64 0, .bool false, .bool false, .slice none 0 0] 25)) nb13 #[.int .i64 0, .int .i64 0, .int .i64 0, .int .i64 0, .int .i64 0, .string ⟨#[]⟩, .string ⟨#[]⟩, .int .i64 0, .string ⟨#[]⟩, .slice none 0 0] 29 ∧ W5.drew.heap.size ≤ nb13) := Lib.hid (⟨fnb13.out.1.bel hbN, fnb13.out.2⟩)
         have gnb12 : Hid (Blk (wc.alloc (.cells #[.bool false, .int .i64 0, .bool false, .bool false, .slice none 0 0] 25)) wc.heap.size #[.bool false, .int .i64 0, .bool false, .bool false, .slice none 0 0] 25 ∧ W5.drew.heap.size ≤ wc.heap.size) := Lib.hid ⟨Blk.new _ _ _, Below.size hb.out⟩
         have gne : Hid (wc.heap.size ≠ nb13) := Lib.hid (Nat.ne_of_gt fnb13.out.1.lt)
         clear hbN
         refine hK.out _ _ (HSF.out _ gb.out) (fun hHeld => ?_)
         clear hK K
         refine norm_ (a' := ?_) ?_ ?_
         rotate_left
         ·show Act.put _ (some 12) _ = _
          simp only [Act.put, lA, lB, lC, i64_w, i32_w]
          rfl
         exact norm_ (by first | (simp only [putAll, Act.put, lA, lB, lC]; done) | (simp only [putAll, Act.put, lA, lB, lC]; rfl)) (hJ3_9_10 (wc.heap.size, nb13) _ ⟨gb.out, gnb12.out, gnb13.out, gne.out⟩)
      ·skip
       rintro nb12 wc ⟨hb, hnb12⟩
       try dsimp only at hnb12
       have hb := Lib.hid hb
       have fnb12 := Lib.hid hnb12
       clear hnb12
       refine norm_ (a' := ?_) ?_ ?_
       rotate_left
       ·simp only [putAll, Act.put, lA, lB, lC]
        rfl
       refine two_ (i := 4) (j := 10) (Ni := some 48) (Nj := some 13) #[bT, bT, bT, bT, bT, bF, bF, bF, bF, bT, bF, bF, bF, bF] #[bT, bT, bT, bT, bF, bF, bF, bF, bF, bT, bT, bF, bF, bF] rfl rfl rfl rfl (by kernel_rfl) (by decide) (by decide) (fun K hK => ?_) (fun K hK => ?_)
       ·skip
        refine goes_ Tryz.func43 (by kernel_rfl) rfl #[.agg #[.bool n.up, .int .i64 n.term, .bool n.leads, .bool n.alone, .slice Xv n.ops.length xv], .int .i64 id, .agg #[.int .i64 o.kind, .string o.name, .string o.dest, .int .i64 o.n, .string o.text]] (by rfl) rfl rfl (by simp only [List.map_toArray, List.map_cons, List.map_nil]; rfl) ?_
        with_reducible refine (him.out _ (kOp_keep hCX.out hb.out)).mono ?_
        rintro e wn ⟨v, rfl, hoo, hbN⟩
        obtain ⟨G, g, rfl, -, -⟩ := hoo.reads
        have gas : Hid (OwnO wn W5.drew.heap.size (.slice G xn.ops.length g) xn.ops) := Lib.hid (own_lower hoo (Below.size hb.out))
        clear hoo
        have gb : Hid (Bel W5.drew wn) := Lib.hid (Below.trans hb.out (Below.mono hbN (Below.size hb.out)))
        have gnb12 : Hid (Blk wn nb12 #[.bool false, .int .i64 0, .bool false, .bool false, .slice none 0 0] 25 ∧ W5.drew.heap.size ≤ nb12) := Lib.hid (⟨fnb12.out.1.bel hbN, fnb12.out.2⟩)
        clear hbN
        refine ⟨_, rfl, ?_⟩
        refine hK.out _ _ (HSF.out _ gb.out) (fun hHeld => ?_)
        clear hK K
        refine norm_ (a' := ?_) ?_ ?_
        rotate_left
        ·show Act.put _ (some 48) _ = _
         simp only [Act.put, lA, lB, lC, i64_w, i32_w]
         rfl
        refine pure_ (i := 5) (N := some 43) (v := ?_) (a' := ?_) #[bT, bT, bT, bT, bT, bT, bF, bF, bF, bT, bF, bF, bF, bF] rfl rfl (by kernel_rfl) (fun _ _ _ h => h) (Or.inl ⟨by rfl, ?_⟩) ?_ ?_
        rotate_left
        ·intro w'
         go_simp
         with_reducible rfl
        rotate_left
        ·simp only [Act.put, lA, lB, lC, i64_w, i32_w]
         rfl
        refine pure_ (i := 6) (N := some 49) (v := ?_) (a' := ?_) #[bT, bT, bT, bT, bT, bT, bT, bF, bF, bT, bF, bF, bF, bF] rfl rfl (by kernel_rfl) (fun _ _ _ h => h) (Or.inl ⟨by rfl, ?_⟩) ?_ ?_
        rotate_left
        ·intro w'
         go_simp
         with_reducible rfl
        rotate_left
        ·simp only [Act.put, lA, lB, lC, i64_w, i32_w]
         rfl
        refine pure_ (i := 7) (N := some 50) (v := ?_) (a' := ?_) #[bT, bT, bT, bT, bT, bT, bT, bT, bF, bT, bF, bF, bF, bF] rfl rfl (by kernel_rfl) (fun _ _ _ h => h) (Or.inl ⟨by rfl, ?_⟩) ?_ ?_
        rotate_left
        ·intro w'
         go_simp
         with_reducible rfl
        rotate_left
        ·simp only [Act.put, lA, lB, lC, i64_w, i32_w]
         rfl
        refine pure_ (i := 8) (N := some 51) (v := ?_) (a' := ?_) #[bT, bT, bT, bT, bT, bT, bT, bT, bT, bT, bF, bF, bF, bF] rfl rfl (by kernel_rfl) (fun _ _ _ h => h) (Or.inl ⟨by rfl, ?_⟩) ?_ ?_
        rotate_left
        ·intro w'
         go_simp
         with_reducible rfl
        rotate_left
        ·simp only [Act.put, lA, lB, lC, i64_w, i32_w]
         rfl
        exact norm_ (by first | (simp only [putAll, Act.put, lA, lB, lC]; done) | (simp only [putAll, Act.put, lA, lB, lC]; rfl)) (hJ3_4_9 (G, g, nb12) _ ⟨gb.out, gas.out, gnb12.out⟩)
       ·skip
        refine value_ (w1 := ?_) (v := ?_) (by rfl) rfl ?_ ?_
        rotate_left 2
        ·go_simp
         constructor
         ·rfl
         ·rfl
        have hbN : Bel wc (wc.alloc (.cells #[.int .i64 0, .int .i64 0, .int .i64 0, .int .i64 0, .int .i64 0, .string ⟨#[]⟩, .string ⟨#[]⟩, .int .i64 0, .string ⟨#[]⟩, .slice none 0 0] 29)) := bel_alloc (Below.refl _ _) _
        have gb : Hid (Bel W5.drew (wc.alloc (.cells #[.int .i64 0, .int .i64 0, .int .i64 0, .int .i64 0, .int .i64 0, .string ⟨#[]⟩, .string ⟨#[]⟩, .int .i64 0, .string ⟨#[]⟩, .slice none 0 0] 29))) := Lib.hid (Below.trans hb.out (Below.mono hbN (Below.size hb.out)))
        have gnb12 : Hid (Blk (wc.alloc (.cells #[.int .i64 0, .int .i64 0, .int .i64 0, .int .i64 0, .int .i64 0, .string ⟨#[]⟩, .string ⟨#[]⟩, .int .i64 0, .string ⟨#[]⟩, .slice none 0 0] 29)) nb12 #[.bool false, .int .i64 0, .bool false, .bool false, .slice none 0 0] 25 ∧ W5.drew.heap.size ≤ nb12) := Lib.hid (⟨fnb12.out.1.bel hbN, fnb12.out.2⟩)
        have gnb13 : Hid (Blk (wc.alloc (.cells #[.int .i64 0, .int .i64 0, .int .i64 0, .int .i64 0, .int .i64 0, .string ⟨#[]⟩, .string ⟨#[]⟩, .int .i64 0, .string ⟨#[]⟩, .slice none 0 0] 29)) wc.heap.size #[.int .i64 0, .int .i64 0, .int .i64 0, .int .i64 0, .int .i64 0, .string ⟨#[]⟩, .string ⟨#[]⟩, .int .i64 0, .string ⟨#[]⟩, .slice none 0 0] 29 ∧ W5.drew.heap.size ≤ wc.heap.size) := Lib.hid ⟨Blk.new _ _ _, Below.size hb.out⟩
        have gne : Hid (nb12 ≠ wc.heap.size) := Lib.hid (Nat.ne_of_lt fnb12.out.1.lt)
        clear hbN
        refine hK.out _ _ (HSF.out _ gb.out) (fun hHeld => ?_)
        clear hK K
        refine norm_ (a' := ?_) ?_ ?_
        rotate_left
        ·show Act.put _ (some 13) _ = _
         simp only [Act.put, lA, lB, lC, i64_w, i32_w]
         rfl
        exact norm_ (by first | (simp only [putAll, Act.put, lA, lB, lC]; done) | (simp only [putAll, Act.put, lA, lB, lC]; rfl)) (hJ3_9_10 (nb12, wc.heap.size) _ ⟨gb.out, gnb12.out, gnb13.out, gne.out⟩)
     ·skip
      rintro ⟨G, g⟩ wc ⟨hb, has⟩
      try dsimp only at has
      have hb := Lib.hid hb
      have fas := Lib.hid has
      clear has
      refine norm_ (a' := ?_) ?_ ?_
      rotate_left
      ·simp only [putAll, Act.put, lA, lB, lC]
       rfl
      refine two_ (i := 9) (j := 10) (Ni := some 12) (Nj := some 13) #[bT, bT, bT, bT, bT, bT, bT, bT, bT, bT, bF, bF, bF, bF] #[bT, bT, bT, bT, bT, bT, bT, bT, bT, bF, bT, bF, bF, bF] rfl rfl rfl rfl (by kernel_rfl) (by decide) (by decide) (fun K hK => ?_) (fun K hK => ?_)
      ·skip
       refine value_ (w1 := ?_) (v := ?_) (by rfl) rfl ?_ ?_
       rotate_left 2
       ·go_simp
        constructor
        ·rfl
        ·rfl
       have hbN : Bel wc (wc.alloc (.cells #[.bool false, .int .i64 0, .bool false, .bool false, .slice none 0 0] 25)) := bel_alloc (Below.refl _ _) _
       have gb : Hid (Bel W5.drew (wc.alloc (.cells #[.bool false, .int .i64 0, .bool false, .bool false, .slice none 0 0] 25))) := Lib.hid (Below.trans hb.out (Below.mono hbN (Below.size hb.out)))
       have gas : Hid (OwnO (wc.alloc (.cells #[.bool false, .int .i64 0, .bool false, .bool false, .slice none 0 0] 25)) W5.drew.heap.size (.slice G xn.ops.length g) xn.ops) := Lib.hid (OwnO.bel fas.out hbN)
       have gnb12 : Hid (Blk (wc.alloc (.cells #[.bool false, .int .i64 0, .bool false, .bool false, .slice none 0 0] 25)) wc.heap.size #[.bool false, .int .i64 0, .bool false, .bool false, .slice none 0 0] 25 ∧ W5.drew.heap.size ≤ wc.heap.size) := Lib.hid ⟨Blk.new _ _ _, Below.size hb.out⟩
       clear hbN
       refine hK.out _ _ (HSF.out _ gb.out) (fun hHeld => ?_)
       clear hK K
       refine norm_ (a' := ?_) ?_ ?_
       rotate_left
       ·show Act.put _ (some 12) _ = _
        simp only [Act.put, lA, lB, lC, i64_w, i32_w]
        rfl
       exact norm_ (by first | (simp only [putAll, Act.put, lA, lB, lC]; done) | (simp only [putAll, Act.put, lA, lB, lC]; rfl)) (hJ3_4_9 (G, g, wc.heap.size) _ ⟨gb.out, gas.out, gnb12.out⟩)
      ·skip
       refine value_ (w1 := ?_) (v := ?_) (by rfl) rfl ?_ ?_
       rotate_left 2
       ·go_simp
        constructor
        ·rfl
        ·rfl
       have hbN : Bel wc (wc.alloc (.cells #[.int .i64 0, .int .i64 0, .int .i64 0, .int .i64 0, .int .i64 0, .string ⟨#[]⟩, .string ⟨#[]⟩, .int .i64 0, .string ⟨#[]⟩, .slice none 0 0] 29)) := bel_alloc (Below.refl _ _) _
       have gb : Hid (Bel W5.drew (wc.alloc (.cells #[.int .i64 0, .int .i64 0, .int .i64 0, .int .i64 0, .int .i64 0, .string ⟨#[]⟩, .string ⟨#[]⟩, .int .i64 0, .string ⟨#[]⟩, .slice none 0 0] 29))) := Lib.hid (Below.trans hb.out (Below.mono hbN (Below.size hb.out)))
       have gas : Hid (OwnO (wc.alloc (.cells #[.int .i64 0, .int .i64 0, .int .i64 0, .int .i64 0, .int .i64 0, .string ⟨#[]⟩, .string ⟨#[]⟩, .int .i64 0, .string ⟨#[]⟩, .slice none 0 0] 29)) W5.drew.heap.size (.slice G xn.ops.length g) xn.ops) := Lib.hid (OwnO.bel fas.out hbN)
       have gnb13 : Hid (Blk (wc.alloc (.cells #[.int .i64 0, .int .i64 0, .int .i64 0, .int .i64 0, .int .i64 0, .string ⟨#[]⟩, .string ⟨#[]⟩, .int .i64 0, .string ⟨#[]⟩, .slice none 0 0] 29)) wc.heap.size #[.int .i64 0, .int .i64 0, .int .i64 0, .int .i64 0, .int .i64 0, .string ⟨#[]⟩, .string ⟨#[]⟩, .int .i64 0, .string ⟨#[]⟩, .slice none 0 0] 29 ∧ W5.drew.heap.size ≤ wc.heap.size) := Lib.hid ⟨Blk.new _ _ _, Below.size hb.out⟩
       clear hbN
       refine hK.out _ _ (HSF.out _ gb.out) (fun hHeld => ?_)
       clear hK K
       refine norm_ (a' := ?_) ?_ ?_
       rotate_left
       ·show Act.put _ (some 13) _ = _
        simp only [Act.put, lA, lB, lC, i64_w, i32_w]
        rfl
       exact norm_ (by first | (simp only [putAll, Act.put, lA, lB, lC]; done) | (simp only [putAll, Act.put, lA, lB, lC]; rfl)) (hJ3_4_10 (G, g, wc.heap.size) _ ⟨gb.out, gas.out, gnb13.out⟩)
    ·skip
     rintro ⟨nb12, nb13⟩ wc ⟨hb, hnb12, hnb13, hne⟩
     try dsimp only at hnb12
     try dsimp only at hnb13
     try dsimp only at hne
     have hb := Lib.hid hb
     have fnb12 := Lib.hid hnb12
     have fnb13 := Lib.hid hnb13
     have fne := Lib.hid hne
     clear hnb12 hnb13 hne
     refine norm_ (a' := ?_) ?_ ?_
     rotate_left
     ·simp only [putAll, Act.put, lA, lB, lC]
      rfl
     refine one_ (i := 4) (N := some 48) #[bT, bT, bT, bT, bT, bF, bF, bF, bF, bT, bT, bF, bF, bF] rfl rfl (by kernel_rfl) (by decide) (fun K hK => ?_)
     refine goes_ Tryz.func43 (by kernel_rfl) rfl #[.agg #[.bool n.up, .int .i64 n.term, .bool n.leads, .bool n.alone, .slice Xv n.ops.length xv], .int .i64 id, .agg #[.int .i64 o.kind, .string o.name, .string o.dest, .int .i64 o.n, .string o.text]] (by rfl) rfl rfl (by simp only [List.map_toArray, List.map_cons, List.map_nil]; rfl) ?_
     with_reducible refine (him.out _ (kOp_keep hCX.out hb.out)).mono ?_
     rintro e wn ⟨v, rfl, hoo, hbN⟩
     obtain ⟨G, g, rfl, -, -⟩ := hoo.reads
     have gas : Hid (OwnO wn W5.drew.heap.size (.slice G xn.ops.length g) xn.ops) := Lib.hid (own_lower hoo (Below.size hb.out))
     clear hoo
     have gb : Hid (Bel W5.drew wn) := Lib.hid (Below.trans hb.out (Below.mono hbN (Below.size hb.out)))
     have gnb12 : Hid (Blk wn nb12 #[.bool false, .int .i64 0, .bool false, .bool false, .slice none 0 0] 25 ∧ W5.drew.heap.size ≤ nb12) := Lib.hid (⟨fnb12.out.1.bel hbN, fnb12.out.2⟩)
     have gnb13 : Hid (Blk wn nb13 #[.int .i64 0, .int .i64 0, .int .i64 0, .int .i64 0, .int .i64 0, .string ⟨#[]⟩, .string ⟨#[]⟩, .int .i64 0, .string ⟨#[]⟩, .slice none 0 0] 29 ∧ W5.drew.heap.size ≤ nb13) := Lib.hid (⟨fnb13.out.1.bel hbN, fnb13.out.2⟩)
     have gne := fne
     clear hbN
     refine ⟨_, rfl, ?_⟩
     refine hK.out _ _ (HSF.out _ gb.out) (fun hHeld => ?_)
     clear hK K
     refine norm_ (a' := ?_) ?_ ?_
     rotate_left
     ·show Act.put _ (some 48) _ = _
      simp only [Act.put, lA, lB, lC, i64_w, i32_w]
      rfl
     refine pure_ (i := 5) (N := some 43) (v := ?_) (a' := ?_) #[bT, bT, bT, bT, bT, bT, bF, bF, bF, bT, bT, bF, bF, bF] rfl rfl (by kernel_rfl) (fun _ _ _ h => h) (Or.inl ⟨by rfl, ?_⟩) ?_ ?_
     rotate_left
     ·intro w'
      go_simp
      with_reducible rfl
     rotate_left
     ·simp only [Act.put, lA, lB, lC, i64_w, i32_w]
      rfl
     refine pure_ (i := 6) (N := some 49) (v := ?_) (a' := ?_) #[bT, bT, bT, bT, bT, bT, bT, bF, bF, bT, bT, bF, bF, bF] rfl rfl (by kernel_rfl) (fun _ _ _ h => h) (Or.inl ⟨by rfl, ?_⟩) ?_ ?_
     rotate_left
     ·intro w'
      go_simp
      with_reducible rfl
     rotate_left
     ·simp only [Act.put, lA, lB, lC, i64_w, i32_w]
      rfl
     refine pure_ (i := 7) (N := some 50) (v := ?_) (a' := ?_) #[bT, bT, bT, bT, bT, bT, bT, bT, bF, bT, bT, bF, bF, bF] rfl rfl (by kernel_rfl) (fun _ _ _ h => h) (Or.inl ⟨by rfl, ?_⟩) ?_ ?_
     rotate_left
     ·intro w'
      go_simp
      with_reducible rfl
     rotate_left
     ·simp only [Act.put, lA, lB, lC, i64_w, i32_w]
      rfl
     refine pure_ (i := 8) (N := some 51) (v := ?_) (a' := ?_) #[bT, bT, bT, bT, bT, bT, bT, bT, bT, bT, bT, bF, bF, bF] rfl rfl (by kernel_rfl) (fun _ _ _ h => h) (Or.inl ⟨by rfl, ?_⟩) ?_ ?_
     rotate_left
     ·intro w'
      go_simp
      with_reducible rfl
     rotate_left
     ·simp only [Act.put, lA, lB, lC, i64_w, i32_w]
      rfl
     exact norm_ (by first | (simp only [putAll, Act.put, lA, lB, lC]; done) | (simp only [putAll, Act.put, lA, lB, lC]; rfl)) (hJ3_4_9_10 (G, g, nb12, nb13) _ ⟨gb.out, gas.out, gnb12.out, gnb13.out, gne.out⟩)
   ·skip
    rintro ⟨G, g, nb13⟩ wc ⟨hb, has, hnb13⟩
    try dsimp only at has
    try dsimp only at hnb13
    have hb := Lib.hid hb
    have fas := Lib.hid has
    have fnb13 := Lib.hid hnb13
    clear has hnb13
    refine norm_ (a' := ?_) ?_ ?_
    rotate_left
    ·simp only [putAll, Act.put, lA, lB, lC]
     rfl
    refine one_ (i := 9) (N := some 12) #[bT, bT, bT, bT, bT, bT, bT, bT, bT, bT, bT, bF, bF, bF] rfl rfl (by kernel_rfl) (by decide) (fun K hK => ?_)
    refine value_ (w1 := ?_) (v := ?_) (by rfl) rfl ?_ ?_
    rotate_left 2
    ·go_simp
     constructor
     ·rfl
     ·rfl
    have hbN : Bel wc (wc.alloc (.cells #[.bool false, .int .i64 0, .bool false, .bool false, .slice none 0 0] 25)) := bel_alloc (Below.refl _ _) _
    have gb : Hid (Bel W5.drew (wc.alloc (.cells #[.bool false, .int .i64 0, .bool false, .bool false, .slice none 0 0] 25))) := Lib.hid (Below.trans hb.out (Below.mono hbN (Below.size hb.out)))
    have gas : Hid (OwnO (wc.alloc (.cells #[.bool false, .int .i64 0, .bool false, .bool false, .slice none 0 0] 25)) W5.drew.heap.size (.slice G xn.ops.length g) xn.ops) := Lib.hid (OwnO.bel fas.out hbN)
    have gnb13 : Hid (Blk (wc.alloc (.cells #[.bool false, .int .i64 0, .bool false, .bool false, .slice none 0 0] 25)) nb13 #[.int .i64 0, .int .i64 0, .int .i64 0, .int .i64 0, .int .i64 0, .string ⟨#[]⟩, .string ⟨#[]⟩, .int .i64 0, .string ⟨#[]⟩, .slice none 0 0] 29 ∧ W5.drew.heap.size ≤ nb13) := Lib.hid (⟨fnb13.out.1.bel hbN, fnb13.out.2⟩)
    have gnb12 : Hid (Blk (wc.alloc (.cells #[.bool false, .int .i64 0, .bool false, .bool false, .slice none 0 0] 25)) wc.heap.size #[.bool false, .int .i64 0, .bool false, .bool false, .slice none 0 0] 25 ∧ W5.drew.heap.size ≤ wc.heap.size) := Lib.hid ⟨Blk.new _ _ _, Below.size hb.out⟩
    have gne : Hid (wc.heap.size ≠ nb13) := Lib.hid (Nat.ne_of_gt fnb13.out.1.lt)
    clear hbN
    refine hK.out _ _ (HSF.out _ gb.out) (fun hHeld => ?_)
    clear hK K
    refine norm_ (a' := ?_) ?_ ?_
    rotate_left
    ·show Act.put _ (some 12) _ = _
     simp only [Act.put, lA, lB, lC, i64_w, i32_w]
     rfl
    exact norm_ (by first | (simp only [putAll, Act.put, lA, lB, lC]; done) | (simp only [putAll, Act.put, lA, lB, lC]; rfl)) (hJ3_4_9_10 (G, g, wc.heap.size, nb13) _ ⟨gb.out, gas.out, gnb12.out, gnb13.out, gne.out⟩)
  ·skip
   rintro ⟨G, g, nb12⟩ wc ⟨hb, has, hnb12⟩
   try dsimp only at has
   try dsimp only at hnb12
   have hb := Lib.hid hb
   have fas := Lib.hid has
   have fnb12 := Lib.hid hnb12
   clear has hnb12
   refine norm_ (a' := ?_) ?_ ?_
   rotate_left
   ·simp only [putAll, Act.put, lA, lB, lC]
    rfl
   refine one_ (i := 10) (N := some 13) #[bT, bT, bT, bT, bT, bT, bT, bT, bT, bT, bT, bF, bF, bF] rfl rfl (by kernel_rfl) (by decide) (fun K hK => ?_)
   refine value_ (w1 := ?_) (v := ?_) (by rfl) rfl ?_ ?_
   rotate_left 2
   ·go_simp
    constructor
    ·rfl
    ·rfl
   have hbN : Bel wc (wc.alloc (.cells #[.int .i64 0, .int .i64 0, .int .i64 0, .int .i64 0, .int .i64 0, .string ⟨#[]⟩, .string ⟨#[]⟩, .int .i64 0, .string ⟨#[]⟩, .slice none 0 0] 29)) := bel_alloc (Below.refl _ _) _
   have gb : Hid (Bel W5.drew (wc.alloc (.cells #[.int .i64 0, .int .i64 0, .int .i64 0, .int .i64 0, .int .i64 0, .string ⟨#[]⟩, .string ⟨#[]⟩, .int .i64 0, .string ⟨#[]⟩, .slice none 0 0] 29))) := Lib.hid (Below.trans hb.out (Below.mono hbN (Below.size hb.out)))
   have gas : Hid (OwnO (wc.alloc (.cells #[.int .i64 0, .int .i64 0, .int .i64 0, .int .i64 0, .int .i64 0, .string ⟨#[]⟩, .string ⟨#[]⟩, .int .i64 0, .string ⟨#[]⟩, .slice none 0 0] 29)) W5.drew.heap.size (.slice G xn.ops.length g) xn.ops) := Lib.hid (OwnO.bel fas.out hbN)
   have gnb12 : Hid (Blk (wc.alloc (.cells #[.int .i64 0, .int .i64 0, .int .i64 0, .int .i64 0, .int .i64 0, .string ⟨#[]⟩, .string ⟨#[]⟩, .int .i64 0, .string ⟨#[]⟩, .slice none 0 0] 29)) nb12 #[.bool false, .int .i64 0, .bool false, .bool false, .slice none 0 0] 25 ∧ W5.drew.heap.size ≤ nb12) := Lib.hid (⟨fnb12.out.1.bel hbN, fnb12.out.2⟩)
   have gnb13 : Hid (Blk (wc.alloc (.cells #[.int .i64 0, .int .i64 0, .int .i64 0, .int .i64 0, .int .i64 0, .string ⟨#[]⟩, .string ⟨#[]⟩, .int .i64 0, .string ⟨#[]⟩, .slice none 0 0] 29)) wc.heap.size #[.int .i64 0, .int .i64 0, .int .i64 0, .int .i64 0, .int .i64 0, .string ⟨#[]⟩, .string ⟨#[]⟩, .int .i64 0, .string ⟨#[]⟩, .slice none 0 0] 29 ∧ W5.drew.heap.size ≤ wc.heap.size) := Lib.hid ⟨Blk.new _ _ _, Below.size hb.out⟩
   have gne : Hid (nb12 ≠ wc.heap.size) := Lib.hid (Nat.ne_of_lt fnb12.out.1.lt)
   clear hbN
   refine hK.out _ _ (HSF.out _ gb.out) (fun hHeld => ?_)
   clear hK K
   refine norm_ (a' := ?_) ?_ ?_
   rotate_left
   ·show Act.put _ (some 13) _ = _
    simp only [Act.put, lA, lB, lC, i64_w, i32_w]
    rfl
   exact norm_ (by first | (simp only [putAll, Act.put, lA, lB, lC]; done) | (simp only [putAll, Act.put, lA, lB, lC]; rfl)) (hJ3_4_9_10 (G, g, nb12, wc.heap.size) _ ⟨gb.out, gas.out, gnb12.out, gnb13.out, gne.out⟩)
 rintro ⟨G, g, nb12, nb13⟩ wc ⟨hb, has, hnb12, hnb13, hne⟩
 try dsimp only at has
 try dsimp only at hnb12
 try dsimp only at hnb13
 try dsimp only at hne
 have hb := Lib.hid hb
 have fas := Lib.hid has
 have fnb12 := Lib.hid hnb12
 have fnb13 := Lib.hid hnb13
 have fne := Lib.hid hne
 clear has hnb12 hnb13 hne
 have unb120 := blkn fnb12.out.1 0 _ rfl
 have unb121 := blkn fnb12.out.1 1 _ rfl
 have unb122 := blkn fnb12.out.1 2 _ rfl
 have unb123 := blkn fnb12.out.1 3 _ rfl
 have unb124 := blkn fnb12.out.1 4 _ rfl
 have vnb120 := fnb12.out.1.free 0
 have vnb121 := fnb12.out.1.free 1
 have vnb122 := fnb12.out.1.free 2
 have vnb123 := fnb12.out.1.free 3
 have vnb124 := fnb12.out.1.free 4
 have ynb12 := fnb12.out.1.lt
 have unb130 := blkn fnb13.out.1 0 _ rfl
 have unb131 := blkn fnb13.out.1 1 _ rfl
 have unb132 := blkn fnb13.out.1 2 _ rfl
 have unb133 := blkn fnb13.out.1 3 _ rfl
 have unb134 := blkn fnb13.out.1 4 _ rfl
 have unb135 := blkn fnb13.out.1 5 _ rfl
 have unb136 := blkn fnb13.out.1 6 _ rfl
 have unb137 := blkn fnb13.out.1 7 _ rfl
 have unb138 := blkn fnb13.out.1 8 _ rfl
 have unb139 := blkn fnb13.out.1 9 _ rfl
 have vnb130 := fnb13.out.1.free 0
 have vnb131 := fnb13.out.1.free 1
 have vnb132 := fnb13.out.1.free 2
 have vnb133 := fnb13.out.1.free 3
 have vnb134 := fnb13.out.1.free 4
 have vnb135 := fnb13.out.1.free 5
 have vnb136 := fnb13.out.1.free 6
 have vnb137 := fnb13.out.1.free 7
 have vnb138 := fnb13.out.1.free 8
 have vnb139 := fnb13.out.1.free 9
 have ynb13 := fnb13.out.1.lt
 have en1 : ¬ nb12 = nb13 := fne.out
 have en2 : ¬ nb13 = nb12 := fun e => fne.out e.symm
 refine norm_ (a' := ?_) ?_ ?_
 rotate_left
 ·simp only [putAll, Act.put, lA, lB, lC]
  rfl
 refine last_ (i := 11) (N := none) #[bT, bT, bT, bT, bT, bT, bT, bT, bT, bT, bT, bT, bF, bF] rfl rfl (by kernel_rfl) (by decide) (fun K hK => ?_)
 refine skip_ (w1 := ?_) (by rfl) rfl ?_ ?_
 rotate_left
 ·go_simp
  rfl
 refine hK.out _ _ ?_
 clear hK K
 refine last_ (i := 12) (N := none) #[bT, bT, bT, bT, bT, bT, bT, bT, bT, bT, bT, bT, bT, bF] rfl rfl (by kernel_rfl) (by decide) (fun K hK => ?_)
 refine skip_ (w1 := ?_) (by rfl) rfl ?_ ?_
 rotate_left
 ·go_simp
  rfl
 refine hK.out _ _ ?_
 clear hK K
 refine pure_ (i := 13) (N := some 14) (v := ?_) (a' := ?_) #[bT, bT, bT, bT, bT, bT, bT, bT, bT, bT, bT, bT, bT, bT] rfl rfl (by kernel_rfl) (fun _ _ _ h => h) (Or.inl ⟨by rfl, ?_⟩) ?_ ?_
 rotate_left
 ·intro w'
  go_simp
  with_reducible rfl
 rotate_left
 ·simp only [Act.put, lA, lB, lC, i64_w, i32_w]
  rfl
 refine done_ (by kernel_rfl) ?_
 clear en1 en2 unb120 unb121 unb122 unb123 unb124 vnb120 vnb121 vnb122 vnb123 vnb124 unb130 unb131 unb132 unb133 unb134 unb135 unb136 unb137 unb138 unb139 vnb130 vnb131 vnb132 vnb133 vnb134 vnb135 vnb136 vnb137 vnb138 vnb139
 replace KB := Lib.hid (KB.out.bel hb.out)
 replace KO := Lib.hid (KO.out.bel hb.out)
 replace Ks := Lib.hid (Ks.out.bel hb.out)
 replace B8 := Lib.hid (B8.out.bel hb.out)
 replace B9 := Lib.hid (B9.out.bel hb.out)
 replace Kx := Lib.hid (Kx.out.bel hb.out)
 replace Bx := Lib.hid (Bx.out.bel hb.out)
 replace KW := Lib.hid (Bel.tr KW.out hb.out)
 replace KZ := Lib.hid (Nat.le_trans KZ.out (Below.size hb.out))
 have hP2 := fnb12.out.2
 have hP3 := fnb13.out.2
 generalize hW9 : ((((((((((((((((wc.setCell ⟨nb12, 0, none⟩ (.bool xn.up)).setCell ⟨nb12, 1, none⟩ (.int .i64 xn.term)).setCell ⟨nb12, 2, none⟩ (.bool xn.leads)).setCell ⟨nb12, 3, none⟩ (.bool xn.alone)).setCell ⟨nb12, 4, none⟩ (.slice G xn.ops.length g)).setCell ⟨nb13, 0, none⟩ (.int .i64 xm.kind)).setCell ⟨nb13, 1, none⟩ (.int .i64 xm.whom)).setCell ⟨nb13, 2, none⟩ (.int .i64 xm.term)).setCell ⟨nb13, 3, none⟩ (.int .i64 xm.n)).setCell ⟨nb13, 4, none⟩ (.int .i64 xm.op.kind)).setCell ⟨nb13, 5, none⟩ (.string xm.op.name)).setCell ⟨nb13, 6, none⟩ (.string xm.op.dest)).setCell ⟨nb13, 7, none⟩ (.int .i64 xm.op.n)).setCell ⟨nb13, 8, none⟩ (.string xm.op.text)).setCell ⟨nb13, 9, none⟩ (.slice none 0 0))) = W6
 have h2 := two_new (v1 := [.bool xn.up, .int .i64 xn.term, .bool xn.leads, .bool xn.alone, .slice G xn.ops.length g]) (v2 := [.int .i64 xm.kind, .int .i64 xm.whom, .int .i64 xm.term, .int .i64 xm.n, .int .i64 xm.op.kind, .string xm.op.name, .string xm.op.dest, .int .i64 xm.op.n, .string xm.op.text, .slice none 0 0]) hW9 fnb12.out.1 fnb13.out.1 fne.out rfl rfl (by decide) (by decide)
 have hsz : W5.drew.heap.size ≤ wc.heap.size := Below.size hb.out
 have hK := h2.ownO fas.out
 replace KB := Lib.hid (h2.oth KB.out (by omega) (by omega))
 replace KO := Lib.hid (h2.oth KO.out (by omega) (by omega))
 replace Ks : Hid (AtT W6 s1 s2 (.slice E0 xn.ops.length f0) xn.ops) := Lib.hid ⟨h2.ownT Ks.out.own, Ks.out.lt⟩
 replace B8 := Lib.hid (h2.oth B8.out (by omega) (by omega))
 replace B9 := Lib.hid (h2.oth B9.out (by omega) (by omega))
 replace Kx : Hid (AtO W6 lx hx (.slice Xv n.ops.length xv) n.ops) := Lib.hid ⟨h2.ownO Kx.out.own, Kx.out.lt⟩
 replace Bx := Lib.hid (h2.oth Bx.out (by omega) (by omega))
 replace KW := Lib.hid (h2.bel KW.out (by omega) (by omega))
 have hB1 : Blk W6 nb12 #[.bool xn.up, .int .i64 xn.term, .bool xn.leads, .bool xn.alone, .slice G xn.ops.length g] 25 := h2.b1
 have hB2 : Blk W6 nb13 #[.int .i64 xm.kind, .int .i64 xm.whom, .int .i64 xm.term, .int .i64 xm.n, .int .i64 xm.op.kind, .string xm.op.name, .string xm.op.dest, .int .i64 xm.op.n, .string xm.op.text, .slice none 0 0] 29 := h2.b2
 have hq := h2.size
 clear hW9 h2 fnb12 fnb13 fne fas hb HSF ynb12 ynb13 hCX
 clear KZ
 obtain ⟨s3, hs3⟩ : ∃ k, W5.drew.heap.size = k := ⟨_, rfl⟩
 obtain ⟨s4, hs4⟩ : ∃ k, W6.heap.size = k := ⟨_, rfl⟩
 have Kg : Hid (AtO W6 s3 s4 (.slice G xn.ops.length g) xn.ops) := Lib.hid (by rw [← hs3, ← hs4]; exact OwnO.ato hK)
 have Bg := Lib.hid hB1
 have Bm := Lib.hid hB2
 have KZ : Hid (s4 ≤ W6.heap.size) := Lib.hid (Nat.le_of_eq hs4.symm)
 have zKg : s3 ≤ s4 := by omega
 have zw_s3 : w.heap.size ≤ s3 := by omega
 rw [hs3] at z_s3
 clear hB1 hB2 hK hq hP2 hP3 hsz hs3 hs4 zw zl_KB zl_KO zl_B8 zl_B9 zl_Bx
 have hbb : (z != z) = false := by simp
 have bg_0 : W6.cell? ⟨nb12, 0, none⟩ = some (.bool xn.up) := blkn Bg.out 0 _ rfl
 have bg_1 : W6.cell? ⟨nb12, 1, none⟩ = some (.int .i64 xn.term) := blkn Bg.out 1 _ rfl
 have bg_2 : W6.cell? ⟨nb12, 2, none⟩ = some (.bool xn.leads) := blkn Bg.out 2 _ rfl
 have bg_3 : W6.cell? ⟨nb12, 3, none⟩ = some (.bool xn.alone) := blkn Bg.out 3 _ rfl
 have bg_4 : W6.cell? ⟨nb12, 4, none⟩ = some (.slice G xn.ops.length g) := blkn Bg.out 4 _ rfl
 have bg_y := Bg.out.lt
 have b8_0 : W6.cell? ⟨nb8, 0, none⟩ = some (.bool xn.up) := blkn B8.out 0 _ rfl
 have b8_1 : W6.cell? ⟨nb8, 1, none⟩ = some (.int .i64 xn.term) := blkn B8.out 1 _ rfl
 have b8_2 : W6.cell? ⟨nb8, 2, none⟩ = some (.bool xn.leads) := blkn B8.out 2 _ rfl
 have b8_3 : W6.cell? ⟨nb8, 3, none⟩ = some (.bool xn.alone) := blkn B8.out 3 _ rfl
 have b8_4 : W6.cell? ⟨nb8, 4, none⟩ = some (.slice E0 xn.ops.length f0) := blkn B8.out 4 _ rfl
 have b8_y := B8.out.lt
 go_wp2_with fail
 clear bg_0 bg_1 bg_2 bg_3 bg_4 bg_y
 clear b8_0 b8_1 b8_2 b8_3 b8_4 b8_y
 refine (eqNode_c (n := xn) (Kg.out.own.innC rfl).2 (Ks.out.inn rfl) hxl).mono ?_
 rintro e w7 ⟨rfl, hb⟩
 replace KB := Lib.hid (KB.out.bel hb)
 replace KO := Lib.hid (KO.out.bel hb)
 replace Ks := Lib.hid (Ks.out.bel hb)
 replace B8 := Lib.hid (B8.out.bel hb)
 replace B9 := Lib.hid (B9.out.bel hb)
 replace Kx := Lib.hid (Kx.out.bel hb)
 replace Bx := Lib.hid (Bx.out.bel hb)
 replace Kg := Lib.hid (Kg.out.bel hb)
 replace Bg := Lib.hid (Bg.out.bel hb)
 replace Bm := Lib.hid (Bm.out.bel hb)
 replace KW := Lib.hid (Bel.tr KW.out hb)
 replace KZ := Lib.hid (Nat.le_trans KZ.out (Below.size hb))
 clear hb
 have bm_0 : w7.cell? ⟨nb13, 0, none⟩ = some (.int .i64 xm.kind) := blkn Bm.out 0 _ rfl
 have bm_1 : w7.cell? ⟨nb13, 1, none⟩ = some (.int .i64 xm.whom) := blkn Bm.out 1 _ rfl
 have bm_2 : w7.cell? ⟨nb13, 2, none⟩ = some (.int .i64 xm.term) := blkn Bm.out 2 _ rfl
 have bm_3 : w7.cell? ⟨nb13, 3, none⟩ = some (.int .i64 xm.n) := blkn Bm.out 3 _ rfl
 have bm_4 : w7.cell? ⟨nb13, 4, none⟩ = some (.int .i64 xm.op.kind) := blkn Bm.out 4 _ rfl
 have bm_5 : w7.cell? ⟨nb13, 5, none⟩ = some (.string xm.op.name) := blkn Bm.out 5 _ rfl
 have bm_6 : w7.cell? ⟨nb13, 6, none⟩ = some (.string xm.op.dest) := blkn Bm.out 6 _ rfl
 have bm_7 : w7.cell? ⟨nb13, 7, none⟩ = some (.int .i64 xm.op.n) := blkn Bm.out 7 _ rfl
 have bm_8 : w7.cell? ⟨nb13, 8, none⟩ = some (.string xm.op.text) := blkn Bm.out 8 _ rfl
 have bm_9 : w7.cell? ⟨nb13, 9, none⟩ = some (.slice none 0 0) := blkn Bm.out 9 _ rfl
 have bm_y := Bm.out.lt
 have b9_0 : w7.cell? ⟨nb9, 0, none⟩ = some (.int .i64 xm.kind) := blkn B9.out 0 _ rfl
 have b9_1 : w7.cell? ⟨nb9, 1, none⟩ = some (.int .i64 xm.whom) := blkn B9.out 1 _ rfl
 have b9_2 : w7.cell? ⟨nb9, 2, none⟩ = some (.int .i64 xm.term) := blkn B9.out 2 _ rfl
 have b9_3 : w7.cell? ⟨nb9, 3, none⟩ = some (.int .i64 xm.n) := blkn B9.out 3 _ rfl
 have b9_4 : w7.cell? ⟨nb9, 4, none⟩ = some (.int .i64 xm.op.kind) := blkn B9.out 4 _ rfl
 have b9_5 : w7.cell? ⟨nb9, 5, none⟩ = some (.string xm.op.name) := blkn B9.out 5 _ rfl
 have b9_6 : w7.cell? ⟨nb9, 6, none⟩ = some (.string xm.op.dest) := blkn B9.out 6 _ rfl
 have b9_7 : w7.cell? ⟨nb9, 7, none⟩ = some (.int .i64 xm.op.n) := blkn B9.out 7 _ rfl
 have b9_8 : w7.cell? ⟨nb9, 8, none⟩ = some (.string xm.op.text) := blkn B9.out 8 _ rfl
 have b9_9 : w7.cell? ⟨nb9, 9, none⟩ = some (.slice none 0 0) := blkn B9.out 9 _ rfl
 have b9_y := B9.out.lt
 go_wp2_with fail
 clear bm_0 bm_1 bm_2 bm_3 bm_4 bm_5 bm_6 bm_7 bm_8 bm_9 bm_y
 clear b9_0 b9_1 b9_2 b9_3 b9_4 b9_5 b9_6 b9_7 b9_8 b9_9 b9_y
 refine (eqMsg0_c HM0.out).mono ?_
 rintro e w8 ⟨rfl, hb⟩
 replace KB := Lib.hid (KB.out.bel hb)
 replace KO := Lib.hid (KO.out.bel hb)
 replace Ks := Lib.hid (Ks.out.bel hb)
 replace B8 := Lib.hid (B8.out.bel hb)
 replace B9 := Lib.hid (B9.out.bel hb)
 replace Kx := Lib.hid (Kx.out.bel hb)
 replace Bx := Lib.hid (Bx.out.bel hb)
 replace Kg := Lib.hid (Kg.out.bel hb)
 replace Bg := Lib.hid (Bg.out.bel hb)
 replace Bm := Lib.hid (Bm.out.bel hb)
 replace KW := Lib.hid (Bel.tr KW.out hb)
 replace KZ := Lib.hid (Nat.le_trans KZ.out (Below.size hb))
 clear hb
 go_wp2
 have hb : Bel w8 w8.drew := (Below.refl _ _).drew
 replace KB := Lib.hid (KB.out.bel hb)
 replace KO := Lib.hid (KO.out.bel hb)
 replace Ks := Lib.hid (Ks.out.bel hb)
 replace B8 := Lib.hid (B8.out.bel hb)
 replace B9 := Lib.hid (B9.out.bel hb)
 replace Kx := Lib.hid (Kx.out.bel hb)
 replace Bx := Lib.hid (Bx.out.bel hb)
 replace Kg := Lib.hid (Kg.out.bel hb)
 replace Bg := Lib.hid (Bg.out.bel hb)
 replace Bm := Lib.hid (Bm.out.bel hb)
 replace KW := Lib.hid (Bel.tr KW.out hb)
 replace KZ := Lib.hid (Nat.le_trans KZ.out (Below.size hb))
 clear hb
 refine start_ (n := 5) (S := fun w' => w'.cell? ⟨bx, 0, none⟩ = some (.bool n.up) ∧ w'.cell? ⟨bx, 1, none⟩ = some (.int .i64 n.term) ∧ w'.cell? ⟨bx, 2, none⟩ = some (.bool n.leads) ∧ w'.cell? ⟨bx, 3, none⟩ = some (.bool n.alone) ∧ w'.cell? ⟨bx, 4, none⟩ = some (.slice Xv n.ops.length xv) ∧ w'.cell? ⟨bkl, 0, none⟩ = some (.bool n.up) ∧ w'.cell? ⟨bkl, 1, none⟩ = some (.int .i64 n.term) ∧ w'.cell? ⟨bkl, 2, none⟩ = some (.bool n.leads) ∧ w'.cell? ⟨bkl, 3, none⟩ = some (.bool n.alone) ∧ w'.cell? ⟨bkl, 4, none⟩ = some (.slice A n.ops.length c)) (ds := []) #[bF, bF, bF, bF, bF] (by kernel_rfl) rfl rfl ⟨(blkn Bx.out 0 _ rfl), (blkn Bx.out 1 _ rfl), (blkn Bx.out 2 _ rfl), (blkn Bx.out 3 _ rfl), (blkn Bx.out 4 _ rfl), (blkn KB.out 0 _ rfl), (blkn KB.out 1 _ rfl), (blkn KB.out 2 _ rfl), (blkn KB.out 3 _ rfl), (blkn KB.out 4 _ rfl)⟩ (fun hHeld => ?_)
 refine take_ (i := 0) (N := some 67) (v := ?_) (a' := ?_) #[bT, bF, bF, bF, bF] rfl rfl (by kernel_rfl) (fun _ _ _ h => h) (Or.inl ⟨by rfl, ?_⟩) hHeld ?_ ?_
 rotate_left
 ·rintro w' ⟨s0, s1, s2, s3, s4, s5, s6, s7, s8, s9⟩
  go_simp
  with_reducible rfl
 rotate_left
 ·simp only [Act.put, lA, lB, lC, i64_w, i32_w]
  rfl
 refine take_ (i := 1) (N := some 68) (v := ?_) (a' := ?_) #[bT, bT, bF, bF, bF] rfl rfl (by kernel_rfl) (fun _ _ _ h => h) (Or.inl ⟨by rfl, ?_⟩) hHeld ?_ ?_
 rotate_left
 ·rintro w' ⟨s0, s1, s2, s3, s4, s5, s6, s7, s8, s9⟩
  go_simp
  with_reducible rfl
 rotate_left
 ·simp only [Act.put, lA, lB, lC, i64_w, i32_w]
  rfl
 refine one_ (i := 2) (N := some 69) #[bT, bT, bT, bF, bF] rfl rfl (by kernel_rfl) (by decide) (fun K hK => ?_)
 refine goes_ Tryz.func41 (by kernel_rfl) rfl #[.agg #[.bool n.up, .int .i64 n.term, .bool n.leads, .bool n.alone, .slice A n.ops.length c]] (by rfl) rfl rfl (by simp only [List.map_toArray, List.map_cons, List.map_nil]; rfl) ?_
 with_reducible refine (toNode_c (n := n) (c := c) (kOp_keep HC.out KW.out) HS.out.len).mono ?_
 rintro e w9 ⟨v, rfl, ho, hb⟩
 obtain ⟨Y, y, rfl, _, hCY⟩ := ho.reads
 clear ho
 replace KB := Lib.hid (KB.out.bel hb)
 replace KO := Lib.hid (KO.out.bel hb)
 replace Ks := Lib.hid (Ks.out.bel hb)
 replace B8 := Lib.hid (B8.out.bel hb)
 replace B9 := Lib.hid (B9.out.bel hb)
 replace Kx := Lib.hid (Kx.out.bel hb)
 replace Bx := Lib.hid (Bx.out.bel hb)
 replace Kg := Lib.hid (Kg.out.bel hb)
 replace Bg := Lib.hid (Bg.out.bel hb)
 replace Bm := Lib.hid (Bm.out.bel hb)
 replace KW := Lib.hid (Bel.tr KW.out hb)
 replace KZ := Lib.hid (Nat.le_trans KZ.out (Below.size hb))
 clear hb
 refine ⟨_, rfl, ?_⟩
 refine hK.out _ _ ⟨(blkn Bx.out 0 _ rfl), (blkn Bx.out 1 _ rfl), (blkn Bx.out 2 _ rfl), (blkn Bx.out 3 _ rfl), (blkn Bx.out 4 _ rfl), (blkn KB.out 0 _ rfl), (blkn KB.out 1 _ rfl), (blkn KB.out 2 _ rfl), (blkn KB.out 3 _ rfl), (blkn KB.out 4 _ rfl)⟩ (fun hHeld => ?_)
 clear hK K
 refine norm_ (a' := ?_) ?_ ?_
 rotate_left
 ·show Act.put _ (some 69) _ = _
  simp only [Act.put, lA, lB, lC, i64_w, i32_w]
  rfl
 refine one_ (i := 3) (N := some 70) #[bT, bT, bT, bT, bF] rfl rfl (by kernel_rfl) (by decide) (fun K hK => ?_)
 refine goes_ Tryz.func44 (by kernel_rfl) rfl #[.agg #[.bool n.up, .int .i64 n.term, .bool n.leads, .bool n.alone, .slice Xv n.ops.length xv], .agg #[.bool n.up, .int .i64 n.term, .bool n.leads, .bool n.alone, .slice Y n.ops.length y]] (by rfl) rfl rfl (by simp only [List.map_toArray, List.map_cons, List.map_nil]; rfl) ?_
 with_reducible refine (eqNode_c (n := n) (Kx.out.own.innC rfl).2 hCY HS.out.len).mono ?_
 rintro e w10 ⟨rfl, hb⟩
 replace KB := Lib.hid (KB.out.bel hb)
 replace KO := Lib.hid (KO.out.bel hb)
 replace Ks := Lib.hid (Ks.out.bel hb)
 replace B8 := Lib.hid (B8.out.bel hb)
 replace B9 := Lib.hid (B9.out.bel hb)
 replace Kx := Lib.hid (Kx.out.bel hb)
 replace Bx := Lib.hid (Bx.out.bel hb)
 replace Kg := Lib.hid (Kg.out.bel hb)
 replace Bg := Lib.hid (Bg.out.bel hb)
 replace Bm := Lib.hid (Bm.out.bel hb)
 replace KW := Lib.hid (Bel.tr KW.out hb)
 replace KZ := Lib.hid (Nat.le_trans KZ.out (Below.size hb))
 clear hb
 refine ⟨_, rfl, ?_⟩
 refine hK.out _ _ ⟨(blkn Bx.out 0 _ rfl), (blkn Bx.out 1 _ rfl), (blkn Bx.out 2 _ rfl), (blkn Bx.out 3 _ rfl), (blkn Bx.out 4 _ rfl), (blkn KB.out 0 _ rfl), (blkn KB.out 1 _ rfl), (blkn KB.out 2 _ rfl), (blkn KB.out 3 _ rfl), (blkn KB.out 4 _ rfl)⟩ (fun hHeld => ?_)
 clear hK K
 refine norm_ (a' := ?_) ?_ ?_
 rotate_left
 ·show Act.put _ (some 70) _ = _
  simp only [Act.put, lA, lB, lC, i64_w, i32_w]
  rfl
 refine pure_ (i := 4) (N := some 71) (v := ?_) (a' := ?_) #[bT, bT, bT, bT, bT] rfl rfl (by kernel_rfl) (fun _ _ _ h => h) (Or.inl ⟨by rfl, ?_⟩) ?_ ?_
 rotate_left
 ·intro w'
  go_simp
  with_reducible rfl
 rotate_left
 ·simp only [Act.put, lA, lB, lC, i64_w, i32_w]
  rfl
 refine done_ (by kernel_rfl) ?_
 have bx_0 : w10.cell? ⟨bx, 0, none⟩ = some (.bool n.up) := blkn Bx.out 0 _ rfl
 have bx_1 : w10.cell? ⟨bx, 1, none⟩ = some (.int .i64 n.term) := blkn Bx.out 1 _ rfl
 have bx_2 : w10.cell? ⟨bx, 2, none⟩ = some (.bool n.leads) := blkn Bx.out 2 _ rfl
 have bx_3 : w10.cell? ⟨bx, 3, none⟩ = some (.bool n.alone) := blkn Bx.out 3 _ rfl
 have bx_4 : w10.cell? ⟨bx, 4, none⟩ = some (.slice Xv n.ops.length xv) := blkn Bx.out 4 _ rfl
 have bx_y := Bx.out.lt
 go_wp2_with fail
 clear bx_0 bx_1 bx_2 bx_3 bx_4 bx_y
 refine (markNode_m (n := n) (k := 1) Kx.out.own HS.out.len (by omega) (by omega)).mono ?_
 rintro e w11 ⟨rfl, hmk⟩
 have KT := AtO.tail Kx.out
 have hg := hmk.2
 clear hmk
 replace KB := Lib.hid (KB.out.grown hg (blk_otherT KT.own KB.out (by decide)))
 replace KO := Lib.hid (KO.out.grown hg (blk_otherT KT.own KO.out (by decide)))
 replace Ks := Lib.hid (Ks.out.apart KT (by omega) hg)
 replace B8 := Lib.hid (B8.out.grown hg (blk_otherT KT.own B8.out (by decide)))
 replace B9 := Lib.hid (B9.out.grown hg (blk_otherT KT.own B9.out (by decide)))
 replace Bx := Lib.hid (Bx.out.grown hg (blk_otherT KT.own Bx.out (by decide)))
 replace Kg := Lib.hid (Kg.out.apart KT (by omega) hg)
 replace Bg := Lib.hid (Bg.out.grown hg (blk_otherT KT.own Bg.out (by decide)))
 replace Bm := Lib.hid (Bm.out.grown hg (blk_otherT KT.own Bm.out (by decide)))
 replace KW := Lib.hid (bel_grown KW.out KT (by omega) hg)
 replace KZ := Lib.hid (Nat.le_trans KZ.out hg.size)
 clear hg KT Kx
 have hneg : ¬ ((1 : Int) + 5 * (n.ops.length : Int) < 0) := by omega
 have bg_0 : w11.cell? ⟨nb12, 0, none⟩ = some (.bool xn.up) := blkn Bg.out 0 _ rfl
 have bg_1 : w11.cell? ⟨nb12, 1, none⟩ = some (.int .i64 xn.term) := blkn Bg.out 1 _ rfl
 have bg_2 : w11.cell? ⟨nb12, 2, none⟩ = some (.bool xn.leads) := blkn Bg.out 2 _ rfl
 have bg_3 : w11.cell? ⟨nb12, 3, none⟩ = some (.bool xn.alone) := blkn Bg.out 3 _ rfl
 have bg_4 : w11.cell? ⟨nb12, 4, none⟩ = some (.slice G xn.ops.length g) := blkn Bg.out 4 _ rfl
 have bg_y := Bg.out.lt
 have b8_0 : w11.cell? ⟨nb8, 0, none⟩ = some (.bool xn.up) := blkn B8.out 0 _ rfl
 have b8_1 : w11.cell? ⟨nb8, 1, none⟩ = some (.int .i64 xn.term) := blkn B8.out 1 _ rfl
 have b8_2 : w11.cell? ⟨nb8, 2, none⟩ = some (.bool xn.leads) := blkn B8.out 2 _ rfl
 have b8_3 : w11.cell? ⟨nb8, 3, none⟩ = some (.bool xn.alone) := blkn B8.out 3 _ rfl
 have b8_4 : w11.cell? ⟨nb8, 4, none⟩ = some (.slice E0 xn.ops.length f0) := blkn B8.out 4 _ rfl
 have b8_y := B8.out.lt
 go_wp2_with fail
 clear bg_0 bg_1 bg_2 bg_3 bg_4 bg_y
 clear b8_0 b8_1 b8_2 b8_3 b8_4 b8_y
 refine (eqNode_c (n := xn) (Kg.out.own.innC rfl).2 (Ks.out.inn rfl) hxl).mono ?_
 rintro e w12 ⟨rfl, hb⟩
 replace KB := Lib.hid (KB.out.bel hb)
 replace KO := Lib.hid (KO.out.bel hb)
 replace Ks := Lib.hid (Ks.out.bel hb)
 replace B8 := Lib.hid (B8.out.bel hb)
 replace B9 := Lib.hid (B9.out.bel hb)
 replace Bx := Lib.hid (Bx.out.bel hb)
 replace Kg := Lib.hid (Kg.out.bel hb)
 replace Bg := Lib.hid (Bg.out.bel hb)
 replace Bm := Lib.hid (Bm.out.bel hb)
 replace KW := Lib.hid (Bel.tr KW.out hb)
 replace KZ := Lib.hid (Nat.le_trans KZ.out (Below.size hb))
 clear hb
 have bm_0 : w12.cell? ⟨nb13, 0, none⟩ = some (.int .i64 xm.kind) := blkn Bm.out 0 _ rfl
 have bm_1 : w12.cell? ⟨nb13, 1, none⟩ = some (.int .i64 xm.whom) := blkn Bm.out 1 _ rfl
 have bm_2 : w12.cell? ⟨nb13, 2, none⟩ = some (.int .i64 xm.term) := blkn Bm.out 2 _ rfl
 have bm_3 : w12.cell? ⟨nb13, 3, none⟩ = some (.int .i64 xm.n) := blkn Bm.out 3 _ rfl
 have bm_4 : w12.cell? ⟨nb13, 4, none⟩ = some (.int .i64 xm.op.kind) := blkn Bm.out 4 _ rfl
 have bm_5 : w12.cell? ⟨nb13, 5, none⟩ = some (.string xm.op.name) := blkn Bm.out 5 _ rfl
 have bm_6 : w12.cell? ⟨nb13, 6, none⟩ = some (.string xm.op.dest) := blkn Bm.out 6 _ rfl
 have bm_7 : w12.cell? ⟨nb13, 7, none⟩ = some (.int .i64 xm.op.n) := blkn Bm.out 7 _ rfl
 have bm_8 : w12.cell? ⟨nb13, 8, none⟩ = some (.string xm.op.text) := blkn Bm.out 8 _ rfl
 have bm_9 : w12.cell? ⟨nb13, 9, none⟩ = some (.slice none 0 0) := blkn Bm.out 9 _ rfl
 have bm_y := Bm.out.lt
 have b9_0 : w12.cell? ⟨nb9, 0, none⟩ = some (.int .i64 xm.kind) := blkn B9.out 0 _ rfl
 have b9_1 : w12.cell? ⟨nb9, 1, none⟩ = some (.int .i64 xm.whom) := blkn B9.out 1 _ rfl
 have b9_2 : w12.cell? ⟨nb9, 2, none⟩ = some (.int .i64 xm.term) := blkn B9.out 2 _ rfl
 have b9_3 : w12.cell? ⟨nb9, 3, none⟩ = some (.int .i64 xm.n) := blkn B9.out 3 _ rfl
 have b9_4 : w12.cell? ⟨nb9, 4, none⟩ = some (.int .i64 xm.op.kind) := blkn B9.out 4 _ rfl
 have b9_5 : w12.cell? ⟨nb9, 5, none⟩ = some (.string xm.op.name) := blkn B9.out 5 _ rfl
 have b9_6 : w12.cell? ⟨nb9, 6, none⟩ = some (.string xm.op.dest) := blkn B9.out 6 _ rfl
 have b9_7 : w12.cell? ⟨nb9, 7, none⟩ = some (.int .i64 xm.op.n) := blkn B9.out 7 _ rfl
 have b9_8 : w12.cell? ⟨nb9, 8, none⟩ = some (.string xm.op.text) := blkn B9.out 8 _ rfl
 have b9_9 : w12.cell? ⟨nb9, 9, none⟩ = some (.slice none 0 0) := blkn B9.out 9 _ rfl
 have b9_y := B9.out.lt
 go_wp2_with fail
 clear bm_0 bm_1 bm_2 bm_3 bm_4 bm_5 bm_6 bm_7 bm_8 bm_9 bm_y
 clear b9_0 b9_1 b9_2 b9_3 b9_4 b9_5 b9_6 b9_7 b9_8 b9_9 b9_y
 refine (eqMsg0_c HM0.out).mono ?_
 rintro e w13 ⟨rfl, hb⟩
 replace KB := Lib.hid (KB.out.bel hb)
 replace KO := Lib.hid (KO.out.bel hb)
 replace Ks := Lib.hid (Ks.out.bel hb)
 replace B8 := Lib.hid (B8.out.bel hb)
 replace B9 := Lib.hid (B9.out.bel hb)
 replace Bx := Lib.hid (Bx.out.bel hb)
 replace Kg := Lib.hid (Kg.out.bel hb)
 replace Bg := Lib.hid (Bg.out.bel hb)
 replace Bm := Lib.hid (Bm.out.bel hb)
 replace KW := Lib.hid (Bel.tr KW.out hb)
 replace KZ := Lib.hid (Nat.le_trans KZ.out (Below.size hb))
 clear hb
 have bg_0 : w13.cell? ⟨nb12, 0, none⟩ = some (.bool xn.up) := blkn Bg.out 0 _ rfl
 have bg_1 : w13.cell? ⟨nb12, 1, none⟩ = some (.int .i64 xn.term) := blkn Bg.out 1 _ rfl
 have bg_2 : w13.cell? ⟨nb12, 2, none⟩ = some (.bool xn.leads) := blkn Bg.out 2 _ rfl
 have bg_3 : w13.cell? ⟨nb12, 3, none⟩ = some (.bool xn.alone) := blkn Bg.out 3 _ rfl
 have bg_4 : w13.cell? ⟨nb12, 4, none⟩ = some (.slice G xn.ops.length g) := blkn Bg.out 4 _ rfl
 have bg_y := Bg.out.lt
 go_wp2_with fail
 clear bg_0 bg_1 bg_2 bg_3 bg_4 bg_y
 refine (markNode_m (n := xn) (k := 1) Kg.out.own hxl (by omega) (by omega)).mono ?_
 rintro e w14 ⟨rfl, ⟨⟨sg, hsl, hso, hsm⟩, hg⟩⟩
 have KT := AtO.tail Kg.out
 replace KB := Lib.hid (KB.out.grown hg (blk_otherT KT.own KB.out (by decide)))
 replace KO := Lib.hid (KO.out.grown hg (blk_otherT KT.own KO.out (by decide)))
 replace Ks := Lib.hid (Ks.out.apart KT (by omega) hg)
 replace B8 := Lib.hid (B8.out.grown hg (blk_otherT KT.own B8.out (by decide)))
 replace B9 := Lib.hid (B9.out.grown hg (blk_otherT KT.own B9.out (by decide)))
 replace Bx := Lib.hid (Bx.out.grown hg (blk_otherT KT.own Bx.out (by decide)))
 replace Bg := Lib.hid (Bg.out.grown hg (blk_otherT KT.own Bg.out (by decide)))
 replace Bm := Lib.hid (Bm.out.grown hg (blk_otherT KT.own Bm.out (by decide)))
 replace KW := Lib.hid (bel_grown KW.out KT (by omega) hg)
 replace KZ := Lib.hid (Nat.le_trans KZ.out hg.size)
 replace Kg : Hid (AtO w14 s3 s4 (.slice G xn.ops.length g) sg) := Lib.hid ⟨hso, Kg.out.lt⟩
 have HSL := Lib.hid hsl
 have HMK := Lib.hid hsm
 clear hg KT hso hsl hsm
 have hneg2 : ¬ ((1 : Int) + 5 * (xn.ops.length : Int) < 0) := by omega
 have bm_0 : w14.cell? ⟨nb13, 0, none⟩ = some (.int .i64 xm.kind) := blkn Bm.out 0 _ rfl
 have bm_1 : w14.cell? ⟨nb13, 1, none⟩ = some (.int .i64 xm.whom) := blkn Bm.out 1 _ rfl
 have bm_2 : w14.cell? ⟨nb13, 2, none⟩ = some (.int .i64 xm.term) := blkn Bm.out 2 _ rfl
 have bm_3 : w14.cell? ⟨nb13, 3, none⟩ = some (.int .i64 xm.n) := blkn Bm.out 3 _ rfl
 have bm_4 : w14.cell? ⟨nb13, 4, none⟩ = some (.int .i64 xm.op.kind) := blkn Bm.out 4 _ rfl
 have bm_5 : w14.cell? ⟨nb13, 5, none⟩ = some (.string xm.op.name) := blkn Bm.out 5 _ rfl
 have bm_6 : w14.cell? ⟨nb13, 6, none⟩ = some (.string xm.op.dest) := blkn Bm.out 6 _ rfl
 have bm_7 : w14.cell? ⟨nb13, 7, none⟩ = some (.int .i64 xm.op.n) := blkn Bm.out 7 _ rfl
 have bm_8 : w14.cell? ⟨nb13, 8, none⟩ = some (.string xm.op.text) := blkn Bm.out 8 _ rfl
 have bm_9 : w14.cell? ⟨nb13, 9, none⟩ = some (.slice none 0 0) := blkn Bm.out 9 _ rfl
 have bm_y := Bm.out.lt
 go_wp2_with fail
 clear bm_0 bm_1 bm_2 bm_3 bm_4 bm_5 bm_6 bm_7 bm_8 bm_9 bm_y
 refine (markMsg0_c HM0.out (by omega) (by omega)).mono ?_
 rintro e w15 ⟨rfl, hb⟩
 replace KB := Lib.hid (KB.out.bel hb)
 replace KO := Lib.hid (KO.out.bel hb)
 replace Ks := Lib.hid (Ks.out.bel hb)
 replace B8 := Lib.hid (B8.out.bel hb)
 replace B9 := Lib.hid (B9.out.bel hb)
 replace Bx := Lib.hid (Bx.out.bel hb)
 replace Kg := Lib.hid (Kg.out.bel hb)
 replace Bg := Lib.hid (Bg.out.bel hb)
 replace Bm := Lib.hid (Bm.out.bel hb)
 replace KW := Lib.hid (Bel.tr KW.out hb)
 replace KZ := Lib.hid (Nat.le_trans KZ.out (Below.size hb))
 clear hb
 have bg_0 : w15.cell? ⟨nb12, 0, none⟩ = some (.bool xn.up) := blkn Bg.out 0 _ rfl
 have bg_1 : w15.cell? ⟨nb12, 1, none⟩ = some (.int .i64 xn.term) := blkn Bg.out 1 _ rfl
 have bg_2 : w15.cell? ⟨nb12, 2, none⟩ = some (.bool xn.leads) := blkn Bg.out 2 _ rfl
 have bg_3 : w15.cell? ⟨nb12, 3, none⟩ = some (.bool xn.alone) := blkn Bg.out 3 _ rfl
 have bg_4 : w15.cell? ⟨nb12, 4, none⟩ = some (.slice G xn.ops.length g) := blkn Bg.out 4 _ rfl
 have bg_y := Bg.out.lt
 go_wp2_with fail
 clear bg_0 bg_1 bg_2 bg_3 bg_4 bg_y
 have hCg : kOp.C w15 G sg.length sg := by obtain ⟨A', c', e1, -, hC⟩ := Kg.out.own.reads; have e1 := slice_eq e1; obtain ⟨rfl, -, rfl⟩ := e1; exact hC
 refine (heldNode_c (n := xn) hCg HSL.out HMK.out (by have h := HSL.out; omega) (by omega) (by omega)).mono ?_
 rintro e w16 ⟨rfl, hb⟩
 clear hCg
 replace KB := Lib.hid (KB.out.bel hb)
 replace KO := Lib.hid (KO.out.bel hb)
 replace Ks := Lib.hid (Ks.out.bel hb)
 replace B8 := Lib.hid (B8.out.bel hb)
 replace B9 := Lib.hid (B9.out.bel hb)
 replace Bx := Lib.hid (Bx.out.bel hb)
 replace Kg := Lib.hid (Kg.out.bel hb)
 replace Bg := Lib.hid (Bg.out.bel hb)
 replace Bm := Lib.hid (Bm.out.bel hb)
 replace KW := Lib.hid (Bel.tr KW.out hb)
 replace KZ := Lib.hid (Nat.le_trans KZ.out (Below.size hb))
 clear hb
 have bm_0 : w16.cell? ⟨nb13, 0, none⟩ = some (.int .i64 xm.kind) := blkn Bm.out 0 _ rfl
 have bm_1 : w16.cell? ⟨nb13, 1, none⟩ = some (.int .i64 xm.whom) := blkn Bm.out 1 _ rfl
 have bm_2 : w16.cell? ⟨nb13, 2, none⟩ = some (.int .i64 xm.term) := blkn Bm.out 2 _ rfl
 have bm_3 : w16.cell? ⟨nb13, 3, none⟩ = some (.int .i64 xm.n) := blkn Bm.out 3 _ rfl
 have bm_4 : w16.cell? ⟨nb13, 4, none⟩ = some (.int .i64 xm.op.kind) := blkn Bm.out 4 _ rfl
 have bm_5 : w16.cell? ⟨nb13, 5, none⟩ = some (.string xm.op.name) := blkn Bm.out 5 _ rfl
 have bm_6 : w16.cell? ⟨nb13, 6, none⟩ = some (.string xm.op.dest) := blkn Bm.out 6 _ rfl
 have bm_7 : w16.cell? ⟨nb13, 7, none⟩ = some (.int .i64 xm.op.n) := blkn Bm.out 7 _ rfl
 have bm_8 : w16.cell? ⟨nb13, 8, none⟩ = some (.string xm.op.text) := blkn Bm.out 8 _ rfl
 have bm_9 : w16.cell? ⟨nb13, 9, none⟩ = some (.slice none 0 0) := blkn Bm.out 9 _ rfl
 have bm_y := Bm.out.lt
 go_wp2_with fail
 clear bm_0 bm_1 bm_2 bm_3 bm_4 bm_5 bm_6 bm_7 bm_8 bm_9 bm_y
 refine (heldMsg0_c HM0.out (by omega) (by omega)).mono ?_
 rintro e w17 ⟨rfl, hb⟩
 replace KB := Lib.hid (KB.out.bel hb)
 replace KO := Lib.hid (KO.out.bel hb)
 replace Ks := Lib.hid (Ks.out.bel hb)
 replace B8 := Lib.hid (B8.out.bel hb)
 replace B9 := Lib.hid (B9.out.bel hb)
 replace Bx := Lib.hid (Bx.out.bel hb)
 replace Kg := Lib.hid (Kg.out.bel hb)
 replace Bg := Lib.hid (Bg.out.bel hb)
 replace Bm := Lib.hid (Bm.out.bel hb)
 replace KW := Lib.hid (Bel.tr KW.out hb)
 replace KZ := Lib.hid (Nat.le_trans KZ.out (Below.size hb))
 clear hb
 go_wp2
 have hb : Bel w17 w17.drew := (Below.refl _ _).drew
 replace KB := Lib.hid (KB.out.bel hb)
 replace KO := Lib.hid (KO.out.bel hb)
 replace Ks := Lib.hid (Ks.out.bel hb)
 replace B8 := Lib.hid (B8.out.bel hb)
 replace B9 := Lib.hid (B9.out.bel hb)
 replace Bx := Lib.hid (Bx.out.bel hb)
 replace Kg := Lib.hid (Kg.out.bel hb)
 replace Bg := Lib.hid (Bg.out.bel hb)
 replace Bm := Lib.hid (Bm.out.bel hb)
 replace KW := Lib.hid (Bel.tr KW.out hb)
 replace KZ := Lib.hid (Nat.le_trans KZ.out (Below.size hb))
 clear hb
 have zl_KB := KB.out.lt
 have zl_KO := KO.out.lt
 have zl_B8 := B8.out.lt
 have zl_B9 := B9.out.lt
 have zl_Bx := Bx.out.lt
 have zl_Bg := Bg.out.lt
 have zl_Bm := Bm.out.lt
 have zw := Below.size KW.out
 have z_s5 := KZ.out
 have HSF := Lib.hid (fun (W9 : World) (gb : Bel w17.drew W9) => (⟨(blkn (KB.out.bel gb) 0 _ rfl), (blkn (KB.out.bel gb) 1 _ rfl), (blkn (KB.out.bel gb) 2 _ rfl), (blkn (KB.out.bel gb) 3 _ rfl), (blkn (KB.out.bel gb) 4 _ rfl), (blkn (KO.out.bel gb) 0 _ rfl), (blkn (KO.out.bel gb) 1 _ rfl), (blkn (KO.out.bel gb) 2 _ rfl), (blkn (KO.out.bel gb) 3 _ rfl), (blkn (KO.out.bel gb) 4 _ rfl)⟩ : W9.cell? ⟨bkl, 0, none⟩ = some (.bool n.up) ∧ W9.cell? ⟨bkl, 1, none⟩ = some (.int .i64 n.term) ∧ W9.cell? ⟨bkl, 2, none⟩ = some (.bool n.leads) ∧ W9.cell? ⟨bkl, 3, none⟩ = some (.bool n.alone) ∧ W9.cell? ⟨bkl, 4, none⟩ = some (.slice A n.ops.length c) ∧ W9.cell? ⟨bko, 0, none⟩ = some (.int .i64 o.kind) ∧ W9.cell? ⟨bko, 1, none⟩ = some (.string o.name) ∧ W9.cell? ⟨bko, 2, none⟩ = some (.string o.dest) ∧ W9.cell? ⟨bko, 3, none⟩ = some (.int .i64 o.n) ∧ W9.cell? ⟨bko, 4, none⟩ = some (.string o.text)))
 refine start_ (n := 15) (S := fun w' => w'.cell? ⟨bkl, 0, none⟩ = some (.bool n.up) ∧ w'.cell? ⟨bkl, 1, none⟩ = some (.int .i64 n.term) ∧ w'.cell? ⟨bkl, 2, none⟩ = some (.bool n.leads) ∧ w'.cell? ⟨bkl, 3, none⟩ = some (.bool n.alone) ∧ w'.cell? ⟨bkl, 4, none⟩ = some (.slice A n.ops.length c) ∧ w'.cell? ⟨bko, 0, none⟩ = some (.int .i64 o.kind) ∧ w'.cell? ⟨bko, 1, none⟩ = some (.string o.name) ∧ w'.cell? ⟨bko, 2, none⟩ = some (.string o.dest) ∧ w'.cell? ⟨bko, 3, none⟩ = some (.int .i64 o.n) ∧ w'.cell? ⟨bko, 4, none⟩ = some (.string o.text)) (ds := [12, 13]) #[bF, bF, bF, bF, bF, bF, bF, bF, bF, bF, bF, bF, bF, bF, bF] (by kernel_rfl) rfl rfl ⟨(blkn KB.out 0 _ rfl), (blkn KB.out 1 _ rfl), (blkn KB.out 2 _ rfl), (blkn KB.out 3 _ rfl), (blkn KB.out 4 _ rfl), (blkn KO.out 0 _ rfl), (blkn KO.out 1 _ rfl), (blkn KO.out 2 _ rfl), (blkn KO.out 3 _ rfl), (blkn KO.out 4 _ rfl)⟩ (fun hHeld => ?_)
 refine pure_ (i := 2) (N := some 116) (v := ?_) (a' := ?_) #[bF, bF, bT, bF, bF, bF, bF, bF, bF, bF, bF, bF, bF, bF, bF] rfl rfl (by kernel_rfl) (fun _ _ _ h => h) (Or.inl ⟨by rfl, ?_⟩) ?_ ?_
 rotate_left
 ·intro w'
  go_simp
  with_reducible rfl
 rotate_left
 ·simp only [Act.put, lA, lB, lC, i64_w, i32_w]
  rfl
 refine take_ (i := 0) (N := some 114) (v := ?_) (a' := ?_) #[bT, bF, bT, bF, bF, bF, bF, bF, bF, bF, bF, bF, bF, bF, bF] rfl rfl (by kernel_rfl) (fun _ _ _ h => h) (Or.inl ⟨by rfl, ?_⟩) hHeld ?_ ?_
 rotate_left
 ·rintro w' ⟨s0, s1, s2, s3, s4, s5, s6, s7, s8, s9⟩
  go_simp
  with_reducible rfl
 rotate_left
 ·simp only [Act.put, lA, lB, lC, i64_w, i32_w]
  rfl
 refine take_ (i := 3) (N := some 117) (v := ?_) (a' := ?_) #[bT, bF, bT, bT, bF, bF, bF, bF, bF, bF, bF, bF, bF, bF, bF] rfl rfl (by kernel_rfl) (fun _ _ _ h => h) (Or.inl ⟨by rfl, ?_⟩) hHeld ?_ ?_
 rotate_left
 ·rintro w' ⟨s0, s1, s2, s3, s4, s5, s6, s7, s8, s9⟩
  go_simp
  with_reducible rfl
 rotate_left
 ·simp only [Act.put, lA, lB, lC, i64_w, i32_w]
  rfl
 refine join_ (σ := Option Addr × Nat × Option Addr × Nat × Nat × Nat) 3 #[bT, bT, bT, bT, bT, bT, bT, bT, bT, bT, bT, bT, bF, bF, bF] (fun s => [(115, .agg #[.bool n.up, .int .i64 n.term, .bool n.leads, .bool n.alone, .slice s.1 n.ops.length s.2.1]), (118, .agg #[.int .i64 o.kind, .string o.name, .string o.dest, .int .i64 o.n, .string o.text]), (119, .tuple #[.agg #[.bool xn.up, .int .i64 xn.term, .bool xn.leads, .bool xn.alone, .slice s.2.2.1 xn.ops.length s.2.2.2.1], .agg #[.int .i64 xm.kind, .int .i64 xm.whom, .int .i64 xm.term, .int .i64 xm.n, .int .i64 xm.op.kind, .string xm.op.name, .string xm.op.dest, .int .i64 xm.op.n, .string xm.op.text, .slice none 0 0], .bool z]), (113, .tuple #[.agg #[.bool xn.up, .int .i64 xn.term, .bool xn.leads, .bool xn.alone, .slice s.2.2.1 xn.ops.length s.2.2.2.1], .agg #[.int .i64 xm.kind, .int .i64 xm.whom, .int .i64 xm.term, .int .i64 xm.n, .int .i64 xm.op.kind, .string xm.op.name, .string xm.op.dest, .int .i64 xm.op.n, .string xm.op.text, .slice none 0 0], .bool z]), (120, .agg #[.bool xn.up, .int .i64 xn.term, .bool xn.leads, .bool xn.alone, .slice s.2.2.1 xn.ops.length s.2.2.2.1]), (121, .agg #[.int .i64 xm.kind, .int .i64 xm.whom, .int .i64 xm.term, .int .i64 xm.n, .int .i64 xm.op.kind, .string xm.op.name, .string xm.op.dest, .int .i64 xm.op.n, .string xm.op.text, .slice none 0 0]), (122, .bool z), (18, .pointer (some ⟨s.2.2.2.2.1, 0, none⟩)), (19, .pointer (some ⟨s.2.2.2.2.2, 0, none⟩))]) (fun s w' => Bel w17.drew w' ∧ (kOp.C w' s.1 n.ops.length n.ops) ∧ (OwnO w' w17.drew.heap.size (.slice s.2.2.1 xn.ops.length s.2.2.2.1) xn.ops) ∧ (Blk w' s.2.2.2.2.1 #[.bool false, .int .i64 0, .bool false, .bool false, .slice none 0 0] 25 ∧ w17.drew.heap.size ≤ s.2.2.2.2.1) ∧ (Blk w' s.2.2.2.2.2 #[.int .i64 0, .int .i64 0, .int .i64 0, .int .i64 0, .int .i64 0, .string ⟨#[]⟩, .string ⟨#[]⟩, .int .i64 0, .string ⟨#[]⟩, .slice none 0 0] 29 ∧ w17.drew.heap.size ≤ s.2.2.2.2.2) ∧ (s.2.2.2.2.1 ≠ s.2.2.2.2.2)) ?_ ?_
 rotate_left
 ·intro hJ1_4_5_10_11
  refine join_ (σ := Option Addr × Nat × Option Addr × Nat × Nat) 4 #[bT, bT, bT, bT, bT, bT, bT, bT, bT, bT, bT, bF, bF, bF, bF] (fun s => [(115, .agg #[.bool n.up, .int .i64 n.term, .bool n.leads, .bool n.alone, .slice s.1 n.ops.length s.2.1]), (118, .agg #[.int .i64 o.kind, .string o.name, .string o.dest, .int .i64 o.n, .string o.text]), (119, .tuple #[.agg #[.bool xn.up, .int .i64 xn.term, .bool xn.leads, .bool xn.alone, .slice s.2.2.1 xn.ops.length s.2.2.2.1], .agg #[.int .i64 xm.kind, .int .i64 xm.whom, .int .i64 xm.term, .int .i64 xm.n, .int .i64 xm.op.kind, .string xm.op.name, .string xm.op.dest, .int .i64 xm.op.n, .string xm.op.text, .slice none 0 0], .bool z]), (113, .tuple #[.agg #[.bool xn.up, .int .i64 xn.term, .bool xn.leads, .bool xn.alone, .slice s.2.2.1 xn.ops.length s.2.2.2.1], .agg #[.int .i64 xm.kind, .int .i64 xm.whom, .int .i64 xm.term, .int .i64 xm.n, .int .i64 xm.op.kind, .string xm.op.name, .string xm.op.dest, .int .i64 xm.op.n, .string xm.op.text, .slice none 0 0], .bool z]), (120, .agg #[.bool xn.up, .int .i64 xn.term, .bool xn.leads, .bool xn.alone, .slice s.2.2.1 xn.ops.length s.2.2.2.1]), (121, .agg #[.int .i64 xm.kind, .int .i64 xm.whom, .int .i64 xm.term, .int .i64 xm.n, .int .i64 xm.op.kind, .string xm.op.name, .string xm.op.dest, .int .i64 xm.op.n, .string xm.op.text, .slice none 0 0]), (122, .bool z), (18, .pointer (some ⟨s.2.2.2.2, 0, none⟩))]) (fun s w' => Bel w17.drew w' ∧ (kOp.C w' s.1 n.ops.length n.ops) ∧ (OwnO w' w17.drew.heap.size (.slice s.2.2.1 xn.ops.length s.2.2.2.1) xn.ops) ∧ (Blk w' s.2.2.2.2 #[.bool false, .int .i64 0, .bool false, .bool false, .slice none 0 0] 25 ∧ w17.drew.heap.size ≤ s.2.2.2.2)) ?_ ?_
  rotate_left
  ·intro hJ1_4_5_10
   refine join_ (σ := Option Addr × Nat × Option Addr × Nat × Nat) 4 #[bT, bT, bT, bT, bT, bT, bT, bT, bT, bT, bF, bT, bF, bF, bF] (fun s => [(115, .agg #[.bool n.up, .int .i64 n.term, .bool n.leads, .bool n.alone, .slice s.1 n.ops.length s.2.1]), (118, .agg #[.int .i64 o.kind, .string o.name, .string o.dest, .int .i64 o.n, .string o.text]), (119, .tuple #[.agg #[.bool xn.up, .int .i64 xn.term, .bool xn.leads, .bool xn.alone, .slice s.2.2.1 xn.ops.length s.2.2.2.1], .agg #[.int .i64 xm.kind, .int .i64 xm.whom, .int .i64 xm.term, .int .i64 xm.n, .int .i64 xm.op.kind, .string xm.op.name, .string xm.op.dest, .int .i64 xm.op.n, .string xm.op.text, .slice none 0 0], .bool z]), (113, .tuple #[.agg #[.bool xn.up, .int .i64 xn.term, .bool xn.leads, .bool xn.alone, .slice s.2.2.1 xn.ops.length s.2.2.2.1], .agg #[.int .i64 xm.kind, .int .i64 xm.whom, .int .i64 xm.term, .int .i64 xm.n, .int .i64 xm.op.kind, .string xm.op.name, .string xm.op.dest, .int .i64 xm.op.n, .string xm.op.text, .slice none 0 0], .bool z]), (120, .agg #[.bool xn.up, .int .i64 xn.term, .bool xn.leads, .bool xn.alone, .slice s.2.2.1 xn.ops.length s.2.2.2.1]), (121, .agg #[.int .i64 xm.kind, .int .i64 xm.whom, .int .i64 xm.term, .int .i64 xm.n, .int .i64 xm.op.kind, .string xm.op.name, .string xm.op.dest, .int .i64 xm.op.n, .string xm.op.text, .slice none 0 0]), (122, .bool z), (19, .pointer (some ⟨s.2.2.2.2, 0, none⟩))]) (fun s w' => Bel w17.drew w' ∧ (kOp.C w' s.1 n.ops.length n.ops) ∧ (OwnO w' w17.drew.heap.size (.slice s.2.2.1 xn.ops.length s.2.2.2.1) xn.ops) ∧ (Blk w' s.2.2.2.2 #[.int .i64 0, .int .i64 0, .int .i64 0, .int .i64 0, .int .i64 0, .string ⟨#[]⟩, .string ⟨#[]⟩, .int .i64 0, .string ⟨#[]⟩, .slice none 0 0] 29 ∧ w17.drew.heap.size ≤ s.2.2.2.2)) ?_ ?_
   rotate_left
   ·intro hJ1_4_5_11
    refine join_ (σ := Option Addr × Nat × Nat × Nat) 8 #[bT, bT, bT, bT, bT, bF, bF, bF, bF, bF, bT, bT, bF, bF, bF] (fun s => [(115, .agg #[.bool n.up, .int .i64 n.term, .bool n.leads, .bool n.alone, .slice s.1 n.ops.length s.2.1]), (118, .agg #[.int .i64 o.kind, .string o.name, .string o.dest, .int .i64 o.n, .string o.text]), (18, .pointer (some ⟨s.2.2.1, 0, none⟩)), (19, .pointer (some ⟨s.2.2.2, 0, none⟩))]) (fun s w' => Bel w17.drew w' ∧ (kOp.C w' s.1 n.ops.length n.ops) ∧ (Blk w' s.2.2.1 #[.bool false, .int .i64 0, .bool false, .bool false, .slice none 0 0] 25 ∧ w17.drew.heap.size ≤ s.2.2.1) ∧ (Blk w' s.2.2.2 #[.int .i64 0, .int .i64 0, .int .i64 0, .int .i64 0, .int .i64 0, .string ⟨#[]⟩, .string ⟨#[]⟩, .int .i64 0, .string ⟨#[]⟩, .slice none 0 0] 29 ∧ w17.drew.heap.size ≤ s.2.2.2) ∧ (s.2.2.1 ≠ s.2.2.2)) ?_ ?_
    rotate_left
    ·intro hJ1_4_10_11
     refine join_ (σ := Option Addr × Nat × Option Addr × Nat) 5 #[bT, bT, bT, bT, bT, bT, bT, bT, bT, bT, bF, bF, bF, bF, bF] (fun s => [(115, .agg #[.bool n.up, .int .i64 n.term, .bool n.leads, .bool n.alone, .slice s.1 n.ops.length s.2.1]), (118, .agg #[.int .i64 o.kind, .string o.name, .string o.dest, .int .i64 o.n, .string o.text]), (119, .tuple #[.agg #[.bool xn.up, .int .i64 xn.term, .bool xn.leads, .bool xn.alone, .slice s.2.2.1 xn.ops.length s.2.2.2], .agg #[.int .i64 xm.kind, .int .i64 xm.whom, .int .i64 xm.term, .int .i64 xm.n, .int .i64 xm.op.kind, .string xm.op.name, .string xm.op.dest, .int .i64 xm.op.n, .string xm.op.text, .slice none 0 0], .bool z]), (113, .tuple #[.agg #[.bool xn.up, .int .i64 xn.term, .bool xn.leads, .bool xn.alone, .slice s.2.2.1 xn.ops.length s.2.2.2], .agg #[.int .i64 xm.kind, .int .i64 xm.whom, .int .i64 xm.term, .int .i64 xm.n, .int .i64 xm.op.kind, .string xm.op.name, .string xm.op.dest, .int .i64 xm.op.n, .string xm.op.text, .slice none 0 0], .bool z]), (120, .agg #[.bool xn.up, .int .i64 xn.term, .bool xn.leads, .bool xn.alone, .slice s.2.2.1 xn.ops.length s.2.2.2]), (121, .agg #[.int .i64 xm.kind, .int .i64 xm.whom, .int .i64 xm.term, .int .i64 xm.n, .int .i64 xm.op.kind, .string xm.op.name, .string xm.op.dest, .int .i64 xm.op.n, .string xm.op.text, .slice none 0 0]), (122, .bool z)]) (fun s w' => Bel w17.drew w' ∧ (kOp.C w' s.1 n.ops.length n.ops) ∧ (OwnO w' w17.drew.heap.size (.slice s.2.2.1 xn.ops.length s.2.2.2) xn.ops)) ?_ ?_
     rotate_left
     ·intro hJ1_4_5
      refine join_ (σ := Option Addr × Nat × Nat) 9 #[bT, bT, bT, bT, bT, bF, bF, bF, bF, bF, bT, bF, bF, bF, bF] (fun s => [(115, .agg #[.bool n.up, .int .i64 n.term, .bool n.leads, .bool n.alone, .slice s.1 n.ops.length s.2.1]), (118, .agg #[.int .i64 o.kind, .string o.name, .string o.dest, .int .i64 o.n, .string o.text]), (18, .pointer (some ⟨s.2.2, 0, none⟩))]) (fun s w' => Bel w17.drew w' ∧ (kOp.C w' s.1 n.ops.length n.ops) ∧ (Blk w' s.2.2 #[.bool false, .int .i64 0, .bool false, .bool false, .slice none 0 0] 25 ∧ w17.drew.heap.size ≤ s.2.2)) ?_ ?_
      rotate_left
      ·intro hJ1_4_10
       refine join_ (σ := Option Addr × Nat × Nat) 9 #[bT, bT, bT, bT, bT, bF, bF, bF, bF, bF, bF, bT, bF, bF, bF] (fun s => [(115, .agg #[.bool n.up, .int .i64 n.term, .bool n.leads, .bool n.alone, .slice s.1 n.ops.length s.2.1]), (118, .agg #[.int .i64 o.kind, .string o.name, .string o.dest, .int .i64 o.n, .string o.text]), (19, .pointer (some ⟨s.2.2, 0, none⟩))]) (fun s w' => Bel w17.drew w' ∧ (kOp.C w' s.1 n.ops.length n.ops) ∧ (Blk w' s.2.2 #[.int .i64 0, .int .i64 0, .int .i64 0, .int .i64 0, .int .i64 0, .string ⟨#[]⟩, .string ⟨#[]⟩, .int .i64 0, .string ⟨#[]⟩, .slice none 0 0] 29 ∧ w17.drew.heap.size ≤ s.2.2)) ?_ ?_
       rotate_left
       ·intro hJ1_4_11
        refine join_ (σ := Option Addr × Nat × Nat × Nat) 9 #[bT, bT, bT, bT, bF, bF, bF, bF, bF, bF, bT, bT, bF, bF, bF] (fun s => [(115, .agg #[.bool n.up, .int .i64 n.term, .bool n.leads, .bool n.alone, .slice s.1 n.ops.length s.2.1]), (18, .pointer (some ⟨s.2.2.1, 0, none⟩)), (19, .pointer (some ⟨s.2.2.2, 0, none⟩))]) (fun s w' => Bel w17.drew w' ∧ (kOp.C w' s.1 n.ops.length n.ops) ∧ (Blk w' s.2.2.1 #[.bool false, .int .i64 0, .bool false, .bool false, .slice none 0 0] 25 ∧ w17.drew.heap.size ≤ s.2.2.1) ∧ (Blk w' s.2.2.2 #[.int .i64 0, .int .i64 0, .int .i64 0, .int .i64 0, .int .i64 0, .string ⟨#[]⟩, .string ⟨#[]⟩, .int .i64 0, .string ⟨#[]⟩, .slice none 0 0] 29 ∧ w17.drew.heap.size ≤ s.2.2.2) ∧ (s.2.2.1 ≠ s.2.2.2)) ?_ ?_
        rotate_left
        ·intro hJ1_10_11
         refine join_ (σ := Option Addr × Nat) 10 #[bT, bT, bT, bT, bT, bF, bF, bF, bF, bF, bF, bF, bF, bF, bF] (fun s => [(115, .agg #[.bool n.up, .int .i64 n.term, .bool n.leads, .bool n.alone, .slice s.1 n.ops.length s.2]), (118, .agg #[.int .i64 o.kind, .string o.name, .string o.dest, .int .i64 o.n, .string o.text])]) (fun s w' => Bel w17.drew w' ∧ (kOp.C w' s.1 n.ops.length n.ops)) ?_ ?_
         rotate_left
         ·intro hJ1_4
          refine join_ (σ := Option Addr × Nat × Nat) 10 #[bT, bT, bT, bT, bF, bF, bF, bF, bF, bF, bT, bF, bF, bF, bF] (fun s => [(115, .agg #[.bool n.up, .int .i64 n.term, .bool n.leads, .bool n.alone, .slice s.1 n.ops.length s.2.1]), (18, .pointer (some ⟨s.2.2, 0, none⟩))]) (fun s w' => Bel w17.drew w' ∧ (kOp.C w' s.1 n.ops.length n.ops) ∧ (Blk w' s.2.2 #[.bool false, .int .i64 0, .bool false, .bool false, .slice none 0 0] 25 ∧ w17.drew.heap.size ≤ s.2.2)) ?_ ?_
          rotate_left
          ·intro hJ1_10
           refine join_ (σ := Option Addr × Nat × Nat) 10 #[bT, bT, bT, bT, bF, bF, bF, bF, bF, bF, bF, bT, bF, bF, bF] (fun s => [(115, .agg #[.bool n.up, .int .i64 n.term, .bool n.leads, .bool n.alone, .slice s.1 n.ops.length s.2.1]), (19, .pointer (some ⟨s.2.2, 0, none⟩))]) (fun s w' => Bel w17.drew w' ∧ (kOp.C w' s.1 n.ops.length n.ops) ∧ (Blk w' s.2.2 #[.int .i64 0, .int .i64 0, .int .i64 0, .int .i64 0, .int .i64 0, .string ⟨#[]⟩, .string ⟨#[]⟩, .int .i64 0, .string ⟨#[]⟩, .slice none 0 0] 29 ∧ w17.drew.heap.size ≤ s.2.2)) ?_ ?_
           rotate_left
           ·intro hJ1_11
            refine join_ (σ := Nat × Nat) 10 #[bT, bF, bT, bT, bF, bF, bF, bF, bF, bF, bT, bT, bF, bF, bF] (fun s => [(18, .pointer (some ⟨s.1, 0, none⟩)), (19, .pointer (some ⟨s.2, 0, none⟩))]) (fun s w' => Bel w17.drew w' ∧ (Blk w' s.1 #[.bool false, .int .i64 0, .bool false, .bool false, .slice none 0 0] 25 ∧ w17.drew.heap.size ≤ s.1) ∧ (Blk w' s.2 #[.int .i64 0, .int .i64 0, .int .i64 0, .int .i64 0, .int .i64 0, .string ⟨#[]⟩, .string ⟨#[]⟩, .int .i64 0, .string ⟨#[]⟩, .slice none 0 0] 29 ∧ w17.drew.heap.size ≤ s.2) ∧ (s.1 ≠ s.2)) ?_ ?_
            rotate_left
            ·intro hJ10_11
             refine join_ (σ := Option Addr × Nat) 11 #[bT, bT, bT, bT, bF, bF, bF, bF, bF, bF, bF, bF, bF, bF, bF] (fun s => [(115, .agg #[.bool n.up, .int .i64 n.term, .bool n.leads, .bool n.alone, .slice s.1 n.ops.length s.2])]) (fun s w' => Bel w17.drew w' ∧ (kOp.C w' s.1 n.ops.length n.ops)) ?_ ?_
             rotate_left
             ·intro hJ1
              refine join_ (σ := Nat) 11 #[bT, bF, bT, bT, bF, bF, bF, bF, bF, bF, bT, bF, bF, bF, bF] (fun s => [(18, .pointer (some ⟨s, 0, none⟩))]) (fun s w' => Bel w17.drew w' ∧ (Blk w' s #[.bool false, .int .i64 0, .bool false, .bool false, .slice none 0 0] 25 ∧ w17.drew.heap.size ≤ s)) ?_ ?_
              rotate_left
              ·intro hJ10
               refine join_ (σ := Nat) 11 #[bT, bF, bT, bT, bF, bF, bF, bF, bF, bF, bF, bT, bF, bF, bF] (fun s => [(19, .pointer (some ⟨s, 0, none⟩))]) (fun s w' => Bel w17.drew w' ∧ (Blk w' s #[.int .i64 0, .int .i64 0, .int .i64 0, .int .i64 0, .int .i64 0, .string ⟨#[]⟩, .string ⟨#[]⟩, .int .i64 0, .string ⟨#[]⟩, .slice none 0 0] 29 ∧ w17.drew.heap.size ≤ s)) ?_ ?_
               rotate_left
               ·intro hJ11
                refine three_ (i := 1) (j := 10) (k := 11) (Ni := some 115) (Nj := some 18) (Nk := some 19) #[bT, bT, bT, bT, bF, bF, bF, bF, bF, bF, bF, bF, bF, bF, bF] #[bT, bF, bT, bT, bF, bF, bF, bF, bF, bF, bT, bF, bF, bF, bF] #[bT, bF, bT, bT, bF, bF, bF, bF, bF, bF, bF, bT, bF, bF, bF] rfl rfl rfl rfl rfl rfl (by kernel_rfl) (by decide) (by decide) (by decide) (fun K hK => ?_) (fun K hK => ?_) (fun K hK => ?_)
                ·skip
                 refine goes_ Tryz.func41 (by kernel_rfl) rfl #[.agg #[.bool n.up, .int .i64 n.term, .bool n.leads, .bool n.alone, .slice A n.ops.length c]] (by rfl) rfl rfl (by simp only [List.map_toArray, List.map_cons, List.map_nil]; rfl) ?_
                 with_reducible refine (toNode_c (n := n) (c := c) (kOp_keep HC.out (Bel.tr KW.out (Below.refl _ _ : Bel w17.drew w17.drew))) HS.out.len).mono ?_
                 rintro e wn ⟨v, rfl, hoo, hbN⟩
                 obtain ⟨Ya, ya, rfl, -, hX1⟩ := hoo.reads
                 have gn1 := Lib.hid hX1
                 clear hoo hX1
                 have gb : Hid (Bel w17.drew wn) := Lib.hid (Below.trans (Below.refl _ _ : Bel w17.drew w17.drew) (Below.mono hbN (Below.size (Below.refl _ _ : Bel w17.drew w17.drew))))
                 clear hbN
                 refine ⟨_, rfl, ?_⟩
                 refine hK.out _ _ (HSF.out _ gb.out) (fun hHeld => ?_)
                 clear hK K
                 refine norm_ (a' := ?_) ?_ ?_
                 rotate_left
                 ·show Act.put _ (some 115) _ = _
                  simp only [Act.put, lA, lB, lC, i64_w, i32_w]
                  rfl
                 exact norm_ (by first | (simp only [putAll, Act.put, lA, lB, lC]; done) | (simp only [putAll, Act.put, lA, lB, lC]; rfl)) (hJ1 (Ya, ya) _ ⟨gb.out, gn1.out⟩)
                ·skip
                 refine value_ (w1 := ?_) (v := ?_) (by rfl) rfl ?_ ?_
                 rotate_left 2
                 ·go_simp
                  constructor
                  ·rfl
                  ·rfl
                 have hbN : Bel w17.drew (w17.alloc (.cells #[.bool false, .int .i64 0, .bool false, .bool false, .slice none 0 0] 25)).drew := bel_alloc (Below.refl _ _) _
                 have gb : Hid (Bel w17.drew (w17.alloc (.cells #[.bool false, .int .i64 0, .bool false, .bool false, .slice none 0 0] 25)).drew) := Lib.hid (Below.trans (Below.refl _ _ : Bel w17.drew w17.drew) (Below.mono hbN (Below.size (Below.refl _ _ : Bel w17.drew w17.drew))))
                 have gnb18 : Hid (Blk (w17.alloc (.cells #[.bool false, .int .i64 0, .bool false, .bool false, .slice none 0 0] 25)).drew w17.heap.size #[.bool false, .int .i64 0, .bool false, .bool false, .slice none 0 0] 25 ∧ w17.drew.heap.size ≤ w17.heap.size) := Lib.hid ⟨Blk.new _ _ _, Nat.le_refl _⟩
                 clear hbN
                 refine hK.out _ _ (HSF.out _ gb.out) (fun hHeld => ?_)
                 clear hK K
                 refine norm_ (a' := ?_) ?_ ?_
                 rotate_left
                 ·show Act.put _ (some 18) _ = _
                  simp only [Act.put, lA, lB, lC, i64_w, i32_w]
                  rfl
                 exact norm_ (by first | (simp only [putAll, Act.put, lA, lB, lC]; done) | (simp only [putAll, Act.put, lA, lB, lC]; rfl)) (hJ10 (w17.heap.size) _ ⟨gb.out, gnb18.out⟩)
                ·skip
                 refine value_ (w1 := ?_) (v := ?_) (by rfl) rfl ?_ ?_
                 rotate_left 2
                 ·go_simp
                  constructor
                  ·rfl
                  ·rfl
                 have hbN : Bel w17.drew (w17.alloc (.cells #[.int .i64 0, .int .i64 0, .int .i64 0, .int .i64 0, .int .i64 0, .string ⟨#[]⟩, .string ⟨#[]⟩, .int .i64 0, .string ⟨#[]⟩, .slice none 0 0] 29)).drew := bel_alloc (Below.refl _ _) _
                 have gb : Hid (Bel w17.drew (w17.alloc (.cells #[.int .i64 0, .int .i64 0, .int .i64 0, .int .i64 0, .int .i64 0, .string ⟨#[]⟩, .string ⟨#[]⟩, .int .i64 0, .string ⟨#[]⟩, .slice none 0 0] 29)).drew) := Lib.hid (Below.trans (Below.refl _ _ : Bel w17.drew w17.drew) (Below.mono hbN (Below.size (Below.refl _ _ : Bel w17.drew w17.drew))))
                 have gnb19 : Hid (Blk (w17.alloc (.cells #[.int .i64 0, .int .i64 0, .int .i64 0, .int .i64 0, .int .i64 0, .string ⟨#[]⟩, .string ⟨#[]⟩, .int .i64 0, .string ⟨#[]⟩, .slice none 0 0] 29)).drew w17.heap.size #[.int .i64 0, .int .i64 0, .int .i64 0, .int .i64 0, .int .i64 0, .string ⟨#[]⟩, .string ⟨#[]⟩, .int .i64 0, .string ⟨#[]⟩, .slice none 0 0] 29 ∧ w17.drew.heap.size ≤ w17.heap.size) := Lib.hid ⟨Blk.new _ _ _, Nat.le_refl _⟩
                 clear hbN
                 refine hK.out _ _ (HSF.out _ gb.out) (fun hHeld => ?_)
                 clear hK K
                 refine norm_ (a' := ?_) ?_ ?_
                 rotate_left
                 ·show Act.put _ (some 19) _ = _
                  simp only [Act.put, lA, lB, lC, i64_w, i32_w]
                  rfl
                 exact norm_ (by first | (simp only [putAll, Act.put, lA, lB, lC]; done) | (simp only [putAll, Act.put, lA, lB, lC]; rfl)) (hJ11 (w17.heap.size) _ ⟨gb.out, gnb19.out⟩)
               ·skip
                rintro nb19 wc ⟨hb, hnb19⟩
                try dsimp only at hnb19
                have hb := Lib.hid hb
                have fnb19 := Lib.hid hnb19
                clear hnb19
                refine norm_ (a' := ?_) ?_ ?_
                rotate_left
                ·simp only [putAll, Act.put, lA, lB, lC]
                 rfl
                refine two_ (i := 1) (j := 10) (Ni := some 115) (Nj := some 18) #[bT, bT, bT, bT, bF, bF, bF, bF, bF, bF, bF, bT, bF, bF, bF] #[bT, bF, bT, bT, bF, bF, bF, bF, bF, bF, bT, bT, bF, bF, bF] rfl rfl rfl rfl (by kernel_rfl) (by decide) (by decide) (fun K hK => ?_) (fun K hK => ?_)
                ·skip
                 refine goes_ Tryz.func41 (by kernel_rfl) rfl #[.agg #[.bool n.up, .int .i64 n.term, .bool n.leads, .bool n.alone, .slice A n.ops.length c]] (by rfl) rfl rfl (by simp only [List.map_toArray, List.map_cons, List.map_nil]; rfl) ?_
                 with_reducible refine (toNode_c (n := n) (c := c) (kOp_keep HC.out (Bel.tr KW.out hb.out)) HS.out.len).mono ?_
                 rintro e wn ⟨v, rfl, hoo, hbN⟩
                 obtain ⟨Ya, ya, rfl, -, hX1⟩ := hoo.reads
                 have gn1 := Lib.hid hX1
                 clear hoo hX1
                 have gb : Hid (Bel w17.drew wn) := Lib.hid (Below.trans hb.out (Below.mono hbN (Below.size hb.out)))
                 have gnb19 : Hid (Blk wn nb19 #[.int .i64 0, .int .i64 0, .int .i64 0, .int .i64 0, .int .i64 0, .string ⟨#[]⟩, .string ⟨#[]⟩, .int .i64 0, .string ⟨#[]⟩, .slice none 0 0] 29 ∧ w17.drew.heap.size ≤ nb19) := Lib.hid (⟨fnb19.out.1.bel hbN, fnb19.out.2⟩)
                 clear hbN
                 refine ⟨_, rfl, ?_⟩
                 refine hK.out _ _ (HSF.out _ gb.out) (fun hHeld => ?_)
                 clear hK K
                 refine norm_ (a' := ?_) ?_ ?_
                 rotate_left
                 ·show Act.put _ (some 115) _ = _
                  simp only [Act.put, lA, lB, lC, i64_w, i32_w]
                  rfl
                 exact norm_ (by first | (simp only [putAll, Act.put, lA, lB, lC]; done) | (simp only [putAll, Act.put, lA, lB, lC]; rfl)) (hJ1_11 (Ya, ya, nb19) _ ⟨gb.out, gn1.out, gnb19.out⟩)
                ·skip
                 refine value_ (w1 := ?_) (v := ?_) (by rfl) rfl ?_ ?_
                 rotate_left 2
                 ·go_simp
                  constructor
                  ·rfl
                  ·rfl
                 have hbN : Bel wc (wc.alloc (.cells #[.bool false, .int .i64 0, .bool false, .bool false, .slice none 0 0] 25)) := bel_alloc (Below.refl _ _) _
                 have gb : Hid (Bel w17.drew (wc.alloc (.cells #[.bool false, .int .i64 0, .bool false, .bool false, .slice none 0 0] 25))) := Lib.hid (Below.trans hb.out (Below.mono hbN (Below.size hb.out)))
                 have gnb19 : Hid (Blk (wc.alloc (.cells #[.bool false, .int .i64 0, .bool false, .bool false, .slice none 0 0] 25)) nb19 #[.int .i64 0, .int .i64 0, .int .i64 0, .int .i64 0, .int .i64 0, .string ⟨#[]⟩, .string ⟨#[]⟩, .int .i64 0, .string ⟨#[]⟩, .slice none 0 0] 29 ∧ w17.drew.heap.size ≤ nb19) := Lib.hid (⟨fnb19.out.1.bel hbN, fnb19.out.2⟩)
                 have gnb18 : Hid (Blk (wc.alloc (.cells #[.bool false, .int .i64 0, .bool false, .bool false, .slice none 0 0] 25)) wc.heap.size #[.bool false, .int .i64 0, .bool false, .bool false, .slice none 0 0] 25 ∧ w17.drew.heap.size ≤ wc.heap.size) := Lib.hid ⟨Blk.new _ _ _, Below.size hb.out⟩
                 have gne : Hid (wc.heap.size ≠ nb19) := Lib.hid (Nat.ne_of_gt fnb19.out.1.lt)
                 clear hbN
                 refine hK.out _ _ (HSF.out _ gb.out) (fun hHeld => ?_)
                 clear hK K
                 refine norm_ (a' := ?_) ?_ ?_
                 rotate_left
                 ·show Act.put _ (some 18) _ = _
                  simp only [Act.put, lA, lB, lC, i64_w, i32_w]
                  rfl
                 exact norm_ (by first | (simp only [putAll, Act.put, lA, lB, lC]; done) | (simp only [putAll, Act.put, lA, lB, lC]; rfl)) (hJ10_11 (wc.heap.size, nb19) _ ⟨gb.out, gnb18.out, gnb19.out, gne.out⟩)
              ·skip
               rintro nb18 wc ⟨hb, hnb18⟩
               try dsimp only at hnb18
               have hb := Lib.hid hb
               have fnb18 := Lib.hid hnb18
               clear hnb18
               refine norm_ (a' := ?_) ?_ ?_
               rotate_left
               ·simp only [putAll, Act.put, lA, lB, lC]
                rfl
               refine two_ (i := 1) (j := 11) (Ni := some 115) (Nj := some 19) #[bT, bT, bT, bT, bF, bF, bF, bF, bF, bF, bT, bF, bF, bF, bF] #[bT, bF, bT, bT, bF, bF, bF, bF, bF, bF, bT, bT, bF, bF, bF] rfl rfl rfl rfl (by kernel_rfl) (by decide) (by decide) (fun K hK => ?_) (fun K hK => ?_)
               ·skip
                refine goes_ Tryz.func41 (by kernel_rfl) rfl #[.agg #[.bool n.up, .int .i64 n.term, .bool n.leads, .bool n.alone, .slice A n.ops.length c]] (by rfl) rfl rfl (by simp only [List.map_toArray, List.map_cons, List.map_nil]; rfl) ?_
                with_reducible refine (toNode_c (n := n) (c := c) (kOp_keep HC.out (Bel.tr KW.out hb.out)) HS.out.len).mono ?_
                rintro e wn ⟨v, rfl, hoo, hbN⟩
                obtain ⟨Ya, ya, rfl, -, hX1⟩ := hoo.reads
                have gn1 := Lib.hid hX1
                clear hoo hX1
                have gb : Hid (Bel w17.drew wn) := Lib.hid (Below.trans hb.out (Below.mono hbN (Below.size hb.out)))
                have gnb18 : Hid (Blk wn nb18 #[.bool false, .int .i64 0, .bool false, .bool false, .slice none 0 0] 25 ∧ w17.drew.heap.size ≤ nb18) := Lib.hid (⟨fnb18.out.1.bel hbN, fnb18.out.2⟩)
                clear hbN
                refine ⟨_, rfl, ?_⟩
                refine hK.out _ _ (HSF.out _ gb.out) (fun hHeld => ?_)
                clear hK K
                refine norm_ (a' := ?_) ?_ ?_
                rotate_left
                ·show Act.put _ (some 115) _ = _
                 simp only [Act.put, lA, lB, lC, i64_w, i32_w]
                 rfl
                exact norm_ (by first | (simp only [putAll, Act.put, lA, lB, lC]; done) | (simp only [putAll, Act.put, lA, lB, lC]; rfl)) (hJ1_10 (Ya, ya, nb18) _ ⟨gb.out, gn1.out, gnb18.out⟩)
               ·skip
                refine value_ (w1 := ?_) (v := ?_) (by rfl) rfl ?_ ?_
                rotate_left 2
                ·go_simp
                 constructor
                 ·rfl
                 ·rfl
                have hbN : Bel wc (wc.alloc (.cells #[.int .i64 0, .int .i64 0, .int .i64 0, .int .i64 0, .int .i64 0, .string ⟨#[]⟩, .string ⟨#[]⟩, .int .i64 0, .string ⟨#[]⟩, .slice none 0 0] 29)) := bel_alloc (Below.refl _ _) _
                have gb : Hid (Bel w17.drew (wc.alloc (.cells #[.int .i64 0, .int .i64 0, .int .i64 0, .int .i64 0, .int .i64 0, .string ⟨#[]⟩, .string ⟨#[]⟩, .int .i64 0, .string ⟨#[]⟩, .slice none 0 0] 29))) := Lib.hid (Below.trans hb.out (Below.mono hbN (Below.size hb.out)))
                have gnb18 : Hid (Blk (wc.alloc (.cells #[.int .i64 0, .int .i64 0, .int .i64 0, .int .i64 0, .int .i64 0, .string ⟨#[]⟩, .string ⟨#[]⟩, .int .i64 0, .string ⟨#[]⟩, .slice none 0 0] 29)) nb18 #[.bool false, .int .i64 0, .bool false, .bool false, .slice none 0 0] 25 ∧ w17.drew.heap.size ≤ nb18) := Lib.hid (⟨fnb18.out.1.bel hbN, fnb18.out.2⟩)
                have gnb19 : Hid (Blk (wc.alloc (.cells #[.int .i64 0, .int .i64 0, .int .i64 0, .int .i64 0, .int .i64 0, .string ⟨#[]⟩, .string ⟨#[]⟩, .int .i64 0, .string ⟨#[]⟩, .slice none 0 0] 29)) wc.heap.size #[.int .i64 0, .int .i64 0, .int .i64 0, .int .i64 0, .int .i64 0, .string ⟨#[]⟩, .string ⟨#[]⟩, .int .i64 0, .string ⟨#[]⟩, .slice none 0 0] 29 ∧ w17.drew.heap.size ≤ wc.heap.size) := Lib.hid ⟨Blk.new _ _ _, Below.size hb.out⟩
                have gne : Hid (nb18 ≠ wc.heap.size) := Lib.hid (Nat.ne_of_lt fnb18.out.1.lt)
                clear hbN
                refine hK.out _ _ (HSF.out _ gb.out) (fun hHeld => ?_)
                clear hK K
                refine norm_ (a' := ?_) ?_ ?_
                rotate_left
                ·show Act.put _ (some 19) _ = _
                 simp only [Act.put, lA, lB, lC, i64_w, i32_w]
                 rfl
                exact norm_ (by first | (simp only [putAll, Act.put, lA, lB, lC]; done) | (simp only [putAll, Act.put, lA, lB, lC]; rfl)) (hJ10_11 (nb18, wc.heap.size) _ ⟨gb.out, gnb18.out, gnb19.out, gne.out⟩)
             ·skip
              rintro ⟨Ya, ya⟩ wc ⟨hb, hn1⟩
              try dsimp only at hn1
              have hb := Lib.hid hb
              have fn1 := Lib.hid hn1
              clear hn1
              refine norm_ (a' := ?_) ?_ ?_
              rotate_left
              ·simp only [putAll, Act.put, lA, lB, lC]
               rfl
              refine three_ (i := 4) (j := 10) (k := 11) (Ni := some 118) (Nj := some 18) (Nk := some 19) #[bT, bT, bT, bT, bT, bF, bF, bF, bF, bF, bF, bF, bF, bF, bF] #[bT, bT, bT, bT, bF, bF, bF, bF, bF, bF, bT, bF, bF, bF, bF] #[bT, bT, bT, bT, bF, bF, bF, bF, bF, bF, bF, bT, bF, bF, bF] rfl rfl rfl rfl rfl rfl (by kernel_rfl) (by decide) (by decide) (by decide) (fun K hK => ?_) (fun K hK => ?_) (fun K hK => ?_)
              ·skip
               refine goes_ Tryz.func42 (by kernel_rfl) rfl #[.agg #[.int .i64 o.kind, .string o.name, .string o.dest, .int .i64 o.n, .string o.text]] (by rfl) rfl rfl (by simp only [List.map_toArray, List.map_cons, List.map_nil]; rfl) ?_
               with_reducible refine (toOp_c o _).mono ?_
               rintro e wn ⟨rfl, hbN⟩
               have gb : Hid (Bel w17.drew wn) := Lib.hid (Below.trans hb.out (Below.mono hbN (Below.size hb.out)))
               have gn1 : Hid (kOp.C wn Ya n.ops.length n.ops) := Lib.hid (kOp_keep fn1.out hbN)
               clear hbN
               refine ⟨_, rfl, ?_⟩
               refine hK.out _ _ (HSF.out _ gb.out) (fun hHeld => ?_)
               clear hK K
               refine norm_ (a' := ?_) ?_ ?_
               rotate_left
               ·show Act.put _ (some 118) _ = _
                simp only [Act.put, lA, lB, lC, i64_w, i32_w]
                rfl
               exact norm_ (by first | (simp only [putAll, Act.put, lA, lB, lC]; done) | (simp only [putAll, Act.put, lA, lB, lC]; rfl)) (hJ1_4 (Ya, ya) _ ⟨gb.out, gn1.out⟩)
              ·skip
               refine value_ (w1 := ?_) (v := ?_) (by rfl) rfl ?_ ?_
               rotate_left 2
               ·go_simp
                constructor
                ·rfl
                ·rfl
               have hbN : Bel wc (wc.alloc (.cells #[.bool false, .int .i64 0, .bool false, .bool false, .slice none 0 0] 25)) := bel_alloc (Below.refl _ _) _
               have gb : Hid (Bel w17.drew (wc.alloc (.cells #[.bool false, .int .i64 0, .bool false, .bool false, .slice none 0 0] 25))) := Lib.hid (Below.trans hb.out (Below.mono hbN (Below.size hb.out)))
               have gn1 : Hid (kOp.C (wc.alloc (.cells #[.bool false, .int .i64 0, .bool false, .bool false, .slice none 0 0] 25)) Ya n.ops.length n.ops) := Lib.hid (kOp_keep fn1.out hbN)
               have gnb18 : Hid (Blk (wc.alloc (.cells #[.bool false, .int .i64 0, .bool false, .bool false, .slice none 0 0] 25)) wc.heap.size #[.bool false, .int .i64 0, .bool false, .bool false, .slice none 0 0] 25 ∧ w17.drew.heap.size ≤ wc.heap.size) := Lib.hid ⟨Blk.new _ _ _, Below.size hb.out⟩
               clear hbN
               refine hK.out _ _ (HSF.out _ gb.out) (fun hHeld => ?_)
               clear hK K
               refine norm_ (a' := ?_) ?_ ?_
               rotate_left
               ·show Act.put _ (some 18) _ = _
                simp only [Act.put, lA, lB, lC, i64_w, i32_w]
                rfl
               exact norm_ (by first | (simp only [putAll, Act.put, lA, lB, lC]; done) | (simp only [putAll, Act.put, lA, lB, lC]; rfl)) (hJ1_10 (Ya, ya, wc.heap.size) _ ⟨gb.out, gn1.out, gnb18.out⟩)
              ·skip
               refine value_ (w1 := ?_) (v := ?_) (by rfl) rfl ?_ ?_
               rotate_left 2
               ·go_simp
                constructor
                ·rfl
                ·rfl
               have hbN : Bel wc (wc.alloc (.cells #[.int .i64 0, .int .i64 0, .int .i64 0, .int .i64 0, .int .i64 0, .string ⟨#[]⟩, .string ⟨#[]⟩, .int .i64 0, .string ⟨#[]⟩, .slice none 0 0] 29)) := bel_alloc (Below.refl _ _) _
               have gb : Hid (Bel w17.drew (wc.alloc (.cells #[.int .i64 0, .int .i64 0, .int .i64 0, .int .i64 0, .int .i64 0, .string ⟨#[]⟩, .string ⟨#[]⟩, .int .i64 0, .string ⟨#[]⟩, .slice none 0 0] 29))) := Lib.hid (Below.trans hb.out (Below.mono hbN (Below.size hb.out)))
               have gn1 : Hid (kOp.C (wc.alloc (.cells #[.int .i64 0, .int .i64 0, .int .i64 0, .int .i64 0, .int .i64 0, .string ⟨#[]⟩, .string ⟨#[]⟩, .int .i64 0, .string ⟨#[]⟩, .slice none 0 0] 29)) Ya n.ops.length n.ops) := Lib.hid (kOp_keep fn1.out hbN)
               have gnb19 : Hid (Blk (wc.alloc (.cells #[.int .i64 0, .int .i64 0, .int .i64 0, .int .i64 0, .int .i64 0, .string ⟨#[]⟩, .string ⟨#[]⟩, .int .i64 0, .string ⟨#[]⟩, .slice none 0 0] 29)) wc.heap.size #[.int .i64 0, .int .i64 0, .int .i64 0, .int .i64 0, .int .i64 0, .string ⟨#[]⟩, .string ⟨#[]⟩, .int .i64 0, .string ⟨#[]⟩, .slice none 0 0] 29 ∧ w17.drew.heap.size ≤ wc.heap.size) := Lib.hid ⟨Blk.new _ _ _, Below.size hb.out⟩
               clear hbN
               refine hK.out _ _ (HSF.out _ gb.out) (fun hHeld => ?_)
               clear hK K
               refine norm_ (a' := ?_) ?_ ?_
               rotate_left
               ·show Act.put _ (some 19) _ = _
                simp only [Act.put, lA, lB, lC, i64_w, i32_w]
                rfl
               exact norm_ (by first | (simp only [putAll, Act.put, lA, lB, lC]; done) | (simp only [putAll, Act.put, lA, lB, lC]; rfl)) (hJ1_11 (Ya, ya, wc.heap.size) _ ⟨gb.out, gn1.out, gnb19.out⟩)
            ·skip
             rintro ⟨nb18, nb19⟩ wc ⟨hb, hnb18, hnb19, hne⟩
             try dsimp only at hnb18
             try dsimp only at hnb19
             try dsimp only at hne
             have hb := Lib.hid hb
             have fnb18 := Lib.hid hnb18
             have fnb19 := Lib.hid hnb19
             have fne := Lib.hid hne
             clear hnb18 hnb19 hne
             refine norm_ (a' := ?_) ?_ ?_
             rotate_left
             ·simp only [putAll, Act.put, lA, lB, lC]
              rfl
             refine one_ (i := 1) (N := some 115) #[bT, bT, bT, bT, bF, bF, bF, bF, bF, bF, bT, bT, bF, bF, bF] rfl rfl (by kernel_rfl) (by decide) (fun K hK => ?_)
             refine goes_ Tryz.func41 (by kernel_rfl) rfl #[.agg #[.bool n.up, .int .i64 n.term, .bool n.leads, .bool n.alone, .slice A n.ops.length c]] (by rfl) rfl rfl (by simp only [List.map_toArray, List.map_cons, List.map_nil]; rfl) ?_
             with_reducible refine (toNode_c (n := n) (c := c) (kOp_keep HC.out (Bel.tr KW.out hb.out)) HS.out.len).mono ?_
             rintro e wn ⟨v, rfl, hoo, hbN⟩
             obtain ⟨Ya, ya, rfl, -, hX1⟩ := hoo.reads
             have gn1 := Lib.hid hX1
             clear hoo hX1
             have gb : Hid (Bel w17.drew wn) := Lib.hid (Below.trans hb.out (Below.mono hbN (Below.size hb.out)))
             have gnb18 : Hid (Blk wn nb18 #[.bool false, .int .i64 0, .bool false, .bool false, .slice none 0 0] 25 ∧ w17.drew.heap.size ≤ nb18) := Lib.hid (⟨fnb18.out.1.bel hbN, fnb18.out.2⟩)
             have gnb19 : Hid (Blk wn nb19 #[.int .i64 0, .int .i64 0, .int .i64 0, .int .i64 0, .int .i64 0, .string ⟨#[]⟩, .string ⟨#[]⟩, .int .i64 0, .string ⟨#[]⟩, .slice none 0 0] 29 ∧ w17.drew.heap.size ≤ nb19) := Lib.hid (⟨fnb19.out.1.bel hbN, fnb19.out.2⟩)
             have gne := fne
             clear hbN
             refine ⟨_, rfl, ?_⟩
             refine hK.out _ _ (HSF.out _ gb.out) (fun hHeld => ?_)
             clear hK K
             refine norm_ (a' := ?_) ?_ ?_
             rotate_left
             ·show Act.put _ (some 115) _ = _
              simp only [Act.put, lA, lB, lC, i64_w, i32_w]
              rfl
             exact norm_ (by first | (simp only [putAll, Act.put, lA, lB, lC]; done) | (simp only [putAll, Act.put, lA, lB, lC]; rfl)) (hJ1_10_11 (Ya, ya, nb18, nb19) _ ⟨gb.out, gn1.out, gnb18.out, gnb19.out, gne.out⟩)
           ·skip
            rintro ⟨Ya, ya, nb19⟩ wc ⟨hb, hn1, hnb19⟩
            try dsimp only at hn1
            try dsimp only at hnb19
            have hb := Lib.hid hb
            have fn1 := Lib.hid hn1
            have fnb19 := Lib.hid hnb19
            clear hn1 hnb19
            refine norm_ (a' := ?_) ?_ ?_
            rotate_left
            ·simp only [putAll, Act.put, lA, lB, lC]
             rfl
            refine two_ (i := 4) (j := 10) (Ni := some 118) (Nj := some 18) #[bT, bT, bT, bT, bT, bF, bF, bF, bF, bF, bF, bT, bF, bF, bF] #[bT, bT, bT, bT, bF, bF, bF, bF, bF, bF, bT, bT, bF, bF, bF] rfl rfl rfl rfl (by kernel_rfl) (by decide) (by decide) (fun K hK => ?_) (fun K hK => ?_)
            ·skip
             refine goes_ Tryz.func42 (by kernel_rfl) rfl #[.agg #[.int .i64 o.kind, .string o.name, .string o.dest, .int .i64 o.n, .string o.text]] (by rfl) rfl rfl (by simp only [List.map_toArray, List.map_cons, List.map_nil]; rfl) ?_
             with_reducible refine (toOp_c o _).mono ?_
             rintro e wn ⟨rfl, hbN⟩
             have gb : Hid (Bel w17.drew wn) := Lib.hid (Below.trans hb.out (Below.mono hbN (Below.size hb.out)))
             have gn1 : Hid (kOp.C wn Ya n.ops.length n.ops) := Lib.hid (kOp_keep fn1.out hbN)
             have gnb19 : Hid (Blk wn nb19 #[.int .i64 0, .int .i64 0, .int .i64 0, .int .i64 0, .int .i64 0, .string ⟨#[]⟩, .string ⟨#[]⟩, .int .i64 0, .string ⟨#[]⟩, .slice none 0 0] 29 ∧ w17.drew.heap.size ≤ nb19) := Lib.hid (⟨fnb19.out.1.bel hbN, fnb19.out.2⟩)
             clear hbN
             refine ⟨_, rfl, ?_⟩
             refine hK.out _ _ (HSF.out _ gb.out) (fun hHeld => ?_)
             clear hK K
             refine norm_ (a' := ?_) ?_ ?_
             rotate_left
             ·show Act.put _ (some 118) _ = _
              simp only [Act.put, lA, lB, lC, i64_w, i32_w]
              rfl
             exact norm_ (by first | (simp only [putAll, Act.put, lA, lB, lC]; done) | (simp only [putAll, Act.put, lA, lB, lC]; rfl)) (hJ1_4_11 (Ya, ya, nb19) _ ⟨gb.out, gn1.out, gnb19.out⟩)
            ·skip
             refine value_ (w1 := ?_) (v := ?_) (by rfl) rfl ?_ ?_
             rotate_left 2
             ·go_simp
              constructor
              ·rfl
              ·rfl
             have hbN : Bel wc (wc.alloc (.cells #[.bool false, .int .i64 0, .bool false, .bool false, .slice none 0 0] 25)) := bel_alloc (Below.refl _ _) _
             have gb : Hid (Bel w17.drew (wc.alloc (.cells #[.bool false, .int .i64 0, .bool false, .bool false, .slice none 0 0] 25))) := Lib.hid (Below.trans hb.out (Below.mono hbN (Below.size hb.out)))
             have gn1 : Hid (kOp.C (wc.alloc (.cells #[.bool false, .int .i64 0, .bool false, .bool false, .slice none 0 0] 25)) Ya n.ops.length n.ops) := Lib.hid (kOp_keep fn1.out hbN)
             have gnb19 : Hid (Blk (wc.alloc (.cells #[.bool false, .int .i64 0, .bool false, .bool false, .slice none 0 0] 25)) nb19 #[.int .i64 0, .int .i64 0, .int .i64 0, .int .i64 0, .int .i64 0, .string ⟨#[]⟩, .string ⟨#[]⟩, .int .i64 0, .string ⟨#[]⟩, .slice none 0 0] 29 ∧ w17.drew.heap.size ≤ nb19) := Lib.hid (⟨fnb19.out.1.bel hbN, fnb19.out.2⟩)
             have gnb18 : Hid (Blk (wc.alloc (.cells #[.bool false, .int .i64 0, .bool false, .bool false, .slice none 0 0] 25)) wc.heap.size #[.bool false, .int .i64 0, .bool false, .bool false, .slice none 0 0] 25 ∧ w17.drew.heap.size ≤ wc.heap.size) := Lib.hid ⟨Blk.new _ _ _, Below.size hb.out⟩
             have gne : Hid (wc.heap.size ≠ nb19) := Lib.hid (Nat.ne_of_gt fnb19.out.1.lt)
             clear hbN
             refine hK.out _ _ (HSF.out _ gb.out) (fun hHeld => ?_)
             clear hK K
             refine norm_ (a' := ?_) ?_ ?_
             rotate_left
             ·show Act.put _ (some 18) _ = _
              simp only [Act.put, lA, lB, lC, i64_w, i32_w]
              rfl
             exact norm_ (by first | (simp only [putAll, Act.put, lA, lB, lC]; done) | (simp only [putAll, Act.put, lA, lB, lC]; rfl)) (hJ1_10_11 (Ya, ya, wc.heap.size, nb19) _ ⟨gb.out, gn1.out, gnb18.out, gnb19.out, gne.out⟩)
          ·skip
           rintro ⟨Ya, ya, nb18⟩ wc ⟨hb, hn1, hnb18⟩
           try dsimp only at hn1
           try dsimp only at hnb18
           have hb := Lib.hid hb
           have fn1 := Lib.hid hn1
           have fnb18 := Lib.hid hnb18
           clear hn1 hnb18
           refine norm_ (a' := ?_) ?_ ?_
           rotate_left
           ·simp only [putAll, Act.put, lA, lB, lC]
            rfl
           refine two_ (i := 4) (j := 11) (Ni := some 118) (Nj := some 19) #[bT, bT, bT, bT, bT, bF, bF, bF, bF, bF, bT, bF, bF, bF, bF] #[bT, bT, bT, bT, bF, bF, bF, bF, bF, bF, bT, bT, bF, bF, bF] rfl rfl rfl rfl (by kernel_rfl) (by decide) (by decide) (fun K hK => ?_) (fun K hK => ?_)
           ·skip
            refine goes_ Tryz.func42 (by kernel_rfl) rfl #[.agg #[.int .i64 o.kind, .string o.name, .string o.dest, .int .i64 o.n, .string o.text]] (by rfl) rfl rfl (by simp only [List.map_toArray, List.map_cons, List.map_nil]; rfl) ?_
            with_reducible refine (toOp_c o _).mono ?_
            rintro e wn ⟨rfl, hbN⟩
            have gb : Hid (Bel w17.drew wn) := Lib.hid (Below.trans hb.out (Below.mono hbN (Below.size hb.out)))
            have gn1 : Hid (kOp.C wn Ya n.ops.length n.ops) := Lib.hid (kOp_keep fn1.out hbN)
            have gnb18 : Hid (Blk wn nb18 #[.bool false, .int .i64 0, .bool false, .bool false, .slice none 0 0] 25 ∧ w17.drew.heap.size ≤ nb18) := Lib.hid (⟨fnb18.out.1.bel hbN, fnb18.out.2⟩)
            clear hbN
            refine ⟨_, rfl, ?_⟩
            refine hK.out _ _ (HSF.out _ gb.out) (fun hHeld => ?_)
            clear hK K
            refine norm_ (a' := ?_) ?_ ?_
            rotate_left
            ·show Act.put _ (some 118) _ = _
             simp only [Act.put, lA, lB, lC, i64_w, i32_w]
             rfl
            exact norm_ (by first | (simp only [putAll, Act.put, lA, lB, lC]; done) | (simp only [putAll, Act.put, lA, lB, lC]; rfl)) (hJ1_4_10 (Ya, ya, nb18) _ ⟨gb.out, gn1.out, gnb18.out⟩)
           ·skip
            refine value_ (w1 := ?_) (v := ?_) (by rfl) rfl ?_ ?_
            rotate_left 2
            ·go_simp
             constructor
             ·rfl
             ·rfl
            have hbN : Bel wc (wc.alloc (.cells #[.int .i64 0, .int .i64 0, .int .i64 0, .int .i64 0, .int .i64 0, .string ⟨#[]⟩, .string ⟨#[]⟩, .int .i64 0, .string ⟨#[]⟩, .slice none 0 0] 29)) := bel_alloc (Below.refl _ _) _
            have gb : Hid (Bel w17.drew (wc.alloc (.cells #[.int .i64 0, .int .i64 0, .int .i64 0, .int .i64 0, .int .i64 0, .string ⟨#[]⟩, .string ⟨#[]⟩, .int .i64 0, .string ⟨#[]⟩, .slice none 0 0] 29))) := Lib.hid (Below.trans hb.out (Below.mono hbN (Below.size hb.out)))
            have gn1 : Hid (kOp.C (wc.alloc (.cells #[.int .i64 0, .int .i64 0, .int .i64 0, .int .i64 0, .int .i64 0, .string ⟨#[]⟩, .string ⟨#[]⟩, .int .i64 0, .string ⟨#[]⟩, .slice none 0 0] 29)) Ya n.ops.length n.ops) := Lib.hid (kOp_keep fn1.out hbN)
            have gnb18 : Hid (Blk (wc.alloc (.cells #[.int .i64 0, .int .i64 0, .int .i64 0, .int .i64 0, .int .i64 0, .string ⟨#[]⟩, .string ⟨#[]⟩, .int .i64 0, .string ⟨#[]⟩, .slice none 0 0] 29)) nb18 #[.bool false, .int .i64 0, .bool false, .bool false, .slice none 0 0] 25 ∧ w17.drew.heap.size ≤ nb18) := Lib.hid (⟨fnb18.out.1.bel hbN, fnb18.out.2⟩)
            have gnb19 : Hid (Blk (wc.alloc (.cells #[.int .i64 0, .int .i64 0, .int .i64 0, .int .i64 0, .int .i64 0, .string ⟨#[]⟩, .string ⟨#[]⟩, .int .i64 0, .string ⟨#[]⟩, .slice none 0 0] 29)) wc.heap.size #[.int .i64 0, .int .i64 0, .int .i64 0, .int .i64 0, .int .i64 0, .string ⟨#[]⟩, .string ⟨#[]⟩, .int .i64 0, .string ⟨#[]⟩, .slice none 0 0] 29 ∧ w17.drew.heap.size ≤ wc.heap.size) := Lib.hid ⟨Blk.new _ _ _, Below.size hb.out⟩
            have gne : Hid (nb18 ≠ wc.heap.size) := Lib.hid (Nat.ne_of_lt fnb18.out.1.lt)
            clear hbN
            refine hK.out _ _ (HSF.out _ gb.out) (fun hHeld => ?_)
            clear hK K
            refine norm_ (a' := ?_) ?_ ?_
            rotate_left
            ·show Act.put _ (some 19) _ = _
             simp only [Act.put, lA, lB, lC, i64_w, i32_w]
             rfl
            exact norm_ (by first | (simp only [putAll, Act.put, lA, lB, lC]; done) | (simp only [putAll, Act.put, lA, lB, lC]; rfl)) (hJ1_10_11 (Ya, ya, nb18, wc.heap.size) _ ⟨gb.out, gn1.out, gnb18.out, gnb19.out, gne.out⟩)
         ·skip
          rintro ⟨Ya, ya⟩ wc ⟨hb, hn1⟩
          try dsimp only at hn1
          have hb := Lib.hid hb
          have fn1 := Lib.hid hn1
          clear hn1
          refine norm_ (a' := ?_) ?_ ?_
          rotate_left
          ·simp only [putAll, Act.put, lA, lB, lC]
           rfl
          refine three_ (i := 5) (j := 10) (k := 11) (Ni := some 119) (Nj := some 18) (Nk := some 19) #[bT, bT, bT, bT, bT, bT, bF, bF, bF, bF, bF, bF, bF, bF, bF] #[bT, bT, bT, bT, bT, bF, bF, bF, bF, bF, bT, bF, bF, bF, bF] #[bT, bT, bT, bT, bT, bF, bF, bF, bF, bF, bF, bT, bF, bF, bF] rfl rfl rfl rfl rfl rfl (by kernel_rfl) (by decide) (by decide) (by decide) (fun K hK => ?_) (fun K hK => ?_) (fun K hK => ?_)
          ·skip
           refine goes_ Tryz.func43 (by kernel_rfl) rfl #[.agg #[.bool n.up, .int .i64 n.term, .bool n.leads, .bool n.alone, .slice Ya n.ops.length ya], .int .i64 id, .agg #[.int .i64 o.kind, .string o.name, .string o.dest, .int .i64 o.n, .string o.text]] (by rfl) rfl rfl (by simp only [List.map_toArray, List.map_cons, List.map_nil]; rfl) ?_
           with_reducible refine (him.out _ fn1.out).mono ?_
           rintro e wn ⟨v, rfl, hoo, hbN⟩
           obtain ⟨H, h, rfl, -, -⟩ := hoo.reads
           have gas : Hid (OwnO wn w17.drew.heap.size (.slice H xn.ops.length h) xn.ops) := Lib.hid (own_lower hoo (Below.size hb.out))
           clear hoo
           have gb : Hid (Bel w17.drew wn) := Lib.hid (Below.trans hb.out (Below.mono hbN (Below.size hb.out)))
           have gn1 : Hid (kOp.C wn Ya n.ops.length n.ops) := Lib.hid (kOp_keep fn1.out hbN)
           clear hbN
           refine ⟨_, rfl, ?_⟩
           refine hK.out _ _ (HSF.out _ gb.out) (fun hHeld => ?_)
           clear hK K
           refine norm_ (a' := ?_) ?_ ?_
           rotate_left
           ·show Act.put _ (some 119) _ = _
            simp only [Act.put, lA, lB, lC, i64_w, i32_w]
            rfl
           refine pure_ (i := 6) (N := some 113) (v := ?_) (a' := ?_) #[bT, bT, bT, bT, bT, bT, bT, bF, bF, bF, bF, bF, bF, bF, bF] rfl rfl (by kernel_rfl) (fun _ _ _ h => h) (Or.inl ⟨by rfl, ?_⟩) ?_ ?_
           rotate_left
           ·intro w'
            go_simp
            with_reducible rfl
           rotate_left
           ·simp only [Act.put, lA, lB, lC, i64_w, i32_w]
            rfl
           refine pure_ (i := 7) (N := some 120) (v := ?_) (a' := ?_) #[bT, bT, bT, bT, bT, bT, bT, bT, bF, bF, bF, bF, bF, bF, bF] rfl rfl (by kernel_rfl) (fun _ _ _ h => h) (Or.inl ⟨by rfl, ?_⟩) ?_ ?_
           rotate_left
           ·intro w'
            go_simp
            with_reducible rfl
           rotate_left
           ·simp only [Act.put, lA, lB, lC, i64_w, i32_w]
            rfl
           refine pure_ (i := 8) (N := some 121) (v := ?_) (a' := ?_) #[bT, bT, bT, bT, bT, bT, bT, bT, bT, bF, bF, bF, bF, bF, bF] rfl rfl (by kernel_rfl) (fun _ _ _ h => h) (Or.inl ⟨by rfl, ?_⟩) ?_ ?_
           rotate_left
           ·intro w'
            go_simp
            with_reducible rfl
           rotate_left
           ·simp only [Act.put, lA, lB, lC, i64_w, i32_w]
            rfl
           refine pure_ (i := 9) (N := some 122) (v := ?_) (a' := ?_) #[bT, bT, bT, bT, bT, bT, bT, bT, bT, bT, bF, bF, bF, bF, bF] rfl rfl (by kernel_rfl) (fun _ _ _ h => h) (Or.inl ⟨by rfl, ?_⟩) ?_ ?_
           rotate_left
           ·intro w'
            go_simp
            with_reducible rfl
           rotate_left
           ·simp only [Act.put, lA, lB, lC, i64_w, i32_w]
            rfl
           exact norm_ (by first | (simp only [putAll, Act.put, lA, lB, lC]; done) | (simp only [putAll, Act.put, lA, lB, lC]; rfl)) (hJ1_4_5 (Ya, ya, H, h) _ ⟨gb.out, gn1.out, gas.out⟩)
          ·skip
           refine value_ (w1 := ?_) (v := ?_) (by rfl) rfl ?_ ?_
           rotate_left 2
           ·go_simp
            constructor
            ·rfl
            ·rfl
           have hbN : Bel wc (wc.alloc (.cells #[.bool false, .int .i64 0, .bool false, .bool false, .slice none 0 0] 25)) := bel_alloc (Below.refl _ _) _
           have gb : Hid (Bel w17.drew (wc.alloc (.cells #[.bool false, .int .i64 0, .bool false, .bool false, .slice none 0 0] 25))) := Lib.hid (Below.trans hb.out (Below.mono hbN (Below.size hb.out)))
           have gn1 : Hid (kOp.C (wc.alloc (.cells #[.bool false, .int .i64 0, .bool false, .bool false, .slice none 0 0] 25)) Ya n.ops.length n.ops) := Lib.hid (kOp_keep fn1.out hbN)
           have gnb18 : Hid (Blk (wc.alloc (.cells #[.bool false, .int .i64 0, .bool false, .bool false, .slice none 0 0] 25)) wc.heap.size #[.bool false, .int .i64 0, .bool false, .bool false, .slice none 0 0] 25 ∧ w17.drew.heap.size ≤ wc.heap.size) := Lib.hid ⟨Blk.new _ _ _, Below.size hb.out⟩
           clear hbN
           refine hK.out _ _ (HSF.out _ gb.out) (fun hHeld => ?_)
           clear hK K
           refine norm_ (a' := ?_) ?_ ?_
           rotate_left
           ·show Act.put _ (some 18) _ = _
            simp only [Act.put, lA, lB, lC, i64_w, i32_w]
            rfl
           exact norm_ (by first | (simp only [putAll, Act.put, lA, lB, lC]; done) | (simp only [putAll, Act.put, lA, lB, lC]; rfl)) (hJ1_4_10 (Ya, ya, wc.heap.size) _ ⟨gb.out, gn1.out, gnb18.out⟩)
          ·skip
           refine value_ (w1 := ?_) (v := ?_) (by rfl) rfl ?_ ?_
           rotate_left 2
           ·go_simp
            constructor
            ·rfl
            ·rfl
           have hbN : Bel wc (wc.alloc (.cells #[.int .i64 0, .int .i64 0, .int .i64 0, .int .i64 0, .int .i64 0, .string ⟨#[]⟩, .string ⟨#[]⟩, .int .i64 0, .string ⟨#[]⟩, .slice none 0 0] 29)) := bel_alloc (Below.refl _ _) _
           have gb : Hid (Bel w17.drew (wc.alloc (.cells #[.int .i64 0, .int .i64 0, .int .i64 0, .int .i64 0, .int .i64 0, .string ⟨#[]⟩, .string ⟨#[]⟩, .int .i64 0, .string ⟨#[]⟩, .slice none 0 0] 29))) := Lib.hid (Below.trans hb.out (Below.mono hbN (Below.size hb.out)))
           have gn1 : Hid (kOp.C (wc.alloc (.cells #[.int .i64 0, .int .i64 0, .int .i64 0, .int .i64 0, .int .i64 0, .string ⟨#[]⟩, .string ⟨#[]⟩, .int .i64 0, .string ⟨#[]⟩, .slice none 0 0] 29)) Ya n.ops.length n.ops) := Lib.hid (kOp_keep fn1.out hbN)
           have gnb19 : Hid (Blk (wc.alloc (.cells #[.int .i64 0, .int .i64 0, .int .i64 0, .int .i64 0, .int .i64 0, .string ⟨#[]⟩, .string ⟨#[]⟩, .int .i64 0, .string ⟨#[]⟩, .slice none 0 0] 29)) wc.heap.size #[.int .i64 0, .int .i64 0, .int .i64 0, .int .i64 0, .int .i64 0, .string ⟨#[]⟩, .string ⟨#[]⟩, .int .i64 0, .string ⟨#[]⟩, .slice none 0 0] 29 ∧ w17.drew.heap.size ≤ wc.heap.size) := Lib.hid ⟨Blk.new _ _ _, Below.size hb.out⟩
           clear hbN
           refine hK.out _ _ (HSF.out _ gb.out) (fun hHeld => ?_)
           clear hK K
           refine norm_ (a' := ?_) ?_ ?_
           rotate_left
           ·show Act.put _ (some 19) _ = _
            simp only [Act.put, lA, lB, lC, i64_w, i32_w]
            rfl
           exact norm_ (by first | (simp only [putAll, Act.put, lA, lB, lC]; done) | (simp only [putAll, Act.put, lA, lB, lC]; rfl)) (hJ1_4_11 (Ya, ya, wc.heap.size) _ ⟨gb.out, gn1.out, gnb19.out⟩)
        ·skip
         rintro ⟨Ya, ya, nb18, nb19⟩ wc ⟨hb, hn1, hnb18, hnb19, hne⟩
         try dsimp only at hn1
         try dsimp only at hnb18
         try dsimp only at hnb19
         try dsimp only at hne
         have hb := Lib.hid hb
         have fn1 := Lib.hid hn1
         have fnb18 := Lib.hid hnb18
         have fnb19 := Lib.hid hnb19
         have fne := Lib.hid hne
         clear hn1 hnb18 hnb19 hne
         refine norm_ (a' := ?_) ?_ ?_
         rotate_left
         ·simp only [putAll, Act.put, lA, lB, lC]
          rfl
         refine one_ (i := 4) (N := some 118) #[bT, bT, bT, bT, bT, bF, bF, bF, bF, bF, bT, bT, bF, bF, bF] rfl rfl (by kernel_rfl) (by decide) (fun K hK => ?_)
         refine goes_ Tryz.func42 (by kernel_rfl) rfl #[.agg #[.int .i64 o.kind, .string o.name, .string o.dest, .int .i64 o.n, .string o.text]] (by rfl) rfl rfl (by simp only [List.map_toArray, List.map_cons, List.map_nil]; rfl) ?_
         with_reducible refine (toOp_c o _).mono ?_
         rintro e wn ⟨rfl, hbN⟩
         have gb : Hid (Bel w17.drew wn) := Lib.hid (Below.trans hb.out (Below.mono hbN (Below.size hb.out)))
         have gn1 : Hid (kOp.C wn Ya n.ops.length n.ops) := Lib.hid (kOp_keep fn1.out hbN)
         have gnb18 : Hid (Blk wn nb18 #[.bool false, .int .i64 0, .bool false, .bool false, .slice none 0 0] 25 ∧ w17.drew.heap.size ≤ nb18) := Lib.hid (⟨fnb18.out.1.bel hbN, fnb18.out.2⟩)
         have gnb19 : Hid (Blk wn nb19 #[.int .i64 0, .int .i64 0, .int .i64 0, .int .i64 0, .int .i64 0, .string ⟨#[]⟩, .string ⟨#[]⟩, .int .i64 0, .string ⟨#[]⟩, .slice none 0 0] 29 ∧ w17.drew.heap.size ≤ nb19) := Lib.hid (⟨fnb19.out.1.bel hbN, fnb19.out.2⟩)
         have gne := fne
         clear hbN
         refine ⟨_, rfl, ?_⟩
         refine hK.out _ _ (HSF.out _ gb.out) (fun hHeld => ?_)
         clear hK K
         refine norm_ (a' := ?_) ?_ ?_
         rotate_left
         ·show Act.put _ (some 118) _ = _
          simp only [Act.put, lA, lB, lC, i64_w, i32_w]
          rfl
         exact norm_ (by first | (simp only [putAll, Act.put, lA, lB, lC]; done) | (simp only [putAll, Act.put, lA, lB, lC]; rfl)) (hJ1_4_10_11 (Ya, ya, nb18, nb19) _ ⟨gb.out, gn1.out, gnb18.out, gnb19.out, gne.out⟩)
       ·skip
        rintro ⟨Ya, ya, nb19⟩ wc ⟨hb, hn1, hnb19⟩
        try dsimp only at hn1
        try dsimp only at hnb19
        have hb := Lib.hid hb
        have fn1 := Lib.hid hn1
        have fnb19 := Lib.hid hnb19
        clear hn1 hnb19
        refine norm_ (a' := ?_) ?_ ?_
        rotate_left
        ·simp only [putAll, Act.put, lA, lB, lC]
         rfl
        refine two_ (i := 5) (j := 10) (Ni := some 119) (Nj := some 18) #[bT, bT, bT, bT, bT, bT, bF, bF, bF, bF, bF, bT, bF, bF, bF] #[bT, bT, bT, bT, bT, bF, bF, bF, bF, bF, bT, bT, bF, bF, bF] rfl rfl rfl rfl (by kernel_rfl) (by decide) (by decide) (fun K hK => ?_) (fun K hK => ?_)
        ·skip
         refine goes_ Tryz.func43 (by kernel_rfl) rfl #[.agg #[.bool n.up, .int .i64 n.term, .bool n.leads, .bool n.alone, .slice Ya n.ops.length ya], .int .i64 id, .agg #[.int .i64 o.kind, .string o.name, .string o.dest, .int .i64 o.n, .string o.text]] (by rfl) rfl rfl (by simp only [List.map_toArray, List.map_cons, List.map_nil]; rfl) ?_
         with_reducible refine (him.out _ fn1.out).mono ?_
         rintro e wn ⟨v, rfl, hoo, hbN⟩
         obtain ⟨H, h, rfl, -, -⟩ := hoo.reads
         have gas : Hid (OwnO wn w17.drew.heap.size (.slice H xn.ops.length h) xn.ops) := Lib.hid (own_lower hoo (Below.size hb.out))
         clear hoo
         have gb : Hid (Bel w17.drew wn) := Lib.hid (Below.trans hb.out (Below.mono hbN (Below.size hb.out)))
         have gn1 : Hid (kOp.C wn Ya n.ops.length n.ops) := Lib.hid (kOp_keep fn1.out hbN)
         have gnb19 : Hid (Blk wn nb19 #[.int .i64 0, .int .i64 0, .int .i64 0, .int .i64 0, .int .i64 0, .string ⟨#[]⟩, .string ⟨#[]⟩, .int .i64 0, .string ⟨#[]⟩, .slice none 0 0] 29 ∧ w17.drew.heap.size ≤ nb19) := Lib.hid (⟨fnb19.out.1.bel hbN, fnb19.out.2⟩)
         clear hbN
         refine ⟨_, rfl, ?_⟩
         refine hK.out _ _ (HSF.out _ gb.out) (fun hHeld => ?_)
         clear hK K
         refine norm_ (a' := ?_) ?_ ?_
         rotate_left
         ·show Act.put _ (some 119) _ = _
          simp only [Act.put, lA, lB, lC, i64_w, i32_w]
          rfl
         refine pure_ (i := 6) (N := some 113) (v := ?_) (a' := ?_) #[bT, bT, bT, bT, bT, bT, bT, bF, bF, bF, bF, bT, bF, bF, bF] rfl rfl (by kernel_rfl) (fun _ _ _ h => h) (Or.inl ⟨by rfl, ?_⟩) ?_ ?_
         rotate_left
         ·intro w'
          go_simp
          with_reducible rfl
         rotate_left
         ·simp only [Act.put, lA, lB, lC, i64_w, i32_w]
          rfl
         refine pure_ (i := 7) (N := some 120) (v := ?_) (a' := ?_) #[bT, bT, bT, bT, bT, bT, bT, bT, bF, bF, bF, bT, bF, bF, bF] rfl rfl (by kernel_rfl) (fun _ _ _ h => h) (Or.inl ⟨by rfl, ?_⟩) ?_ ?_
         rotate_left
         ·intro w'
          go_simp
          with_reducible rfl
         rotate_left
         ·simp only [Act.put, lA, lB, lC, i64_w, i32_w]
          rfl
         refine pure_ (i := 8) (N := some 121) (v := ?_) (a' := ?_) #[bT, bT, bT, bT, bT, bT, bT, bT, bT, bF, bF, bT, bF, bF, bF] rfl rfl (by kernel_rfl) (fun _ _ _ h => h) (Or.inl ⟨by rfl, ?_⟩) ?_ ?_
         rotate_left
         ·intro w'
          go_simp
          with_reducible rfl
         rotate_left
         ·simp only [Act.put, lA, lB, lC, i64_w, i32_w]
          rfl
         refine pure_ (i := 9) (N := some 122) (v := ?_) (a' := ?_) #[bT, bT, bT, bT, bT, bT, bT, bT, bT, bT, bF, bT, bF, bF, bF] rfl rfl (by kernel_rfl) (fun _ _ _ h => h) (Or.inl ⟨by rfl, ?_⟩) ?_ ?_
         rotate_left
         ·intro w'
          go_simp
          with_reducible rfl
         rotate_left
         ·simp only [Act.put, lA, lB, lC, i64_w, i32_w]
          rfl
         exact norm_ (by first | (simp only [putAll, Act.put, lA, lB, lC]; done) | (simp only [putAll, Act.put, lA, lB, lC]; rfl)) (hJ1_4_5_11 (Ya, ya, H, h, nb19) _ ⟨gb.out, gn1.out, gas.out, gnb19.out⟩)
        ·skip
         refine value_ (w1 := ?_) (v := ?_) (by rfl) rfl ?_ ?_
         rotate_left 2
         ·go_simp
          constructor
          ·rfl
          ·rfl
         have hbN : Bel wc (wc.alloc (.cells #[.bool false, .int .i64 0, .bool false, .bool false, .slice none 0 0] 25)) := bel_alloc (Below.refl _ _) _
         have gb : Hid (Bel w17.drew (wc.alloc (.cells #[.bool false, .int .i64 0, .bool false, .bool false, .slice none 0 0] 25))) := Lib.hid (Below.trans hb.out (Below.mono hbN (Below.size hb.out)))
         have gn1 : Hid (kOp.C (wc.alloc (.cells #[.bool false, .int .i64 0, .bool false, .bool false, .slice none 0 0] 25)) Ya n.ops.length n.ops) := Lib.hid (kOp_keep fn1.out hbN)
         have gnb19 : Hid (Blk (wc.alloc (.cells #[.bool false, .int .i64 0, .bool false, .bool false, .slice none 0 0] 25)) nb19 #[.int .i64 0, .int .i64 0, .int .i64 0, .int .i64 0, .int .i64 0, .string ⟨#[]⟩, .string ⟨#[]⟩, .int .i64 0, .string ⟨#[]⟩, .slice none 0 0] 29 ∧ w17.drew.heap.size ≤ nb19) := Lib.hid (⟨fnb19.out.1.bel hbN, fnb19.out.2⟩)
         have gnb18 : Hid (Blk (wc.alloc (.cells #[.bool false, .int .i64 0, .bool false, .bool false, .slice none 0 0] 25)) wc.heap.size #[.bool false, .int .i64 0, .bool false, .bool false, .slice none 0 0] 25 ∧ w17.drew.heap.size ≤ wc.heap.size) := Lib.hid ⟨Blk.new _ _ _, Below.size hb.out⟩
         have gne : Hid (wc.heap.size ≠ nb19) := Lib.hid (Nat.ne_of_gt fnb19.out.1.lt)
         clear hbN
         refine hK.out _ _ (HSF.out _ gb.out) (fun hHeld => ?_)
         clear hK K
         refine norm_ (a' := ?_) ?_ ?_
         rotate_left
         ·show Act.put _ (some 18) _ = _
          simp only [Act.put, lA, lB, lC, i64_w, i32_w]
          rfl
         exact norm_ (by first | (simp only [putAll, Act.put, lA, lB, lC]; done) | (simp only [putAll, Act.put, lA, lB, lC]; rfl)) (hJ1_4_10_11 (Ya, ya, wc.heap.size, nb19) _ ⟨gb.out, gn1.out, gnb18.out, gnb19.out, gne.out⟩)
      ·skip
       rintro ⟨Ya, ya, nb18⟩ wc ⟨hb, hn1, hnb18⟩
       try dsimp only at hn1
       try dsimp only at hnb18
       have hb := Lib.hid hb
       have fn1 := Lib.hid hn1
       have fnb18 := Lib.hid hnb18
       clear hn1 hnb18
       refine norm_ (a' := ?_) ?_ ?_
       rotate_left
       ·simp only [putAll, Act.put, lA, lB, lC]
        rfl
       refine two_ (i := 5) (j := 11) (Ni := some 119) (Nj := some 19) #[bT, bT, bT, bT, bT, bT, bF, bF, bF, bF, bT, bF, bF, bF, bF] #[bT, bT, bT, bT, bT, bF, bF, bF, bF, bF, bT, bT, bF, bF, bF] rfl rfl rfl rfl (by kernel_rfl) (by decide) (by decide) (fun K hK => ?_) (fun K hK => ?_)
       ·skip
        refine goes_ Tryz.func43 (by kernel_rfl) rfl #[.agg #[.bool n.up, .int .i64 n.term, .bool n.leads, .bool n.alone, .slice Ya n.ops.length ya], .int .i64 id, .agg #[.int .i64 o.kind, .string o.name, .string o.dest, .int .i64 o.n, .string o.text]] (by rfl) rfl rfl (by simp only [List.map_toArray, List.map_cons, List.map_nil]; rfl) ?_
        with_reducible refine (him.out _ fn1.out).mono ?_
        rintro e wn ⟨v, rfl, hoo, hbN⟩
        obtain ⟨H, h, rfl, -, -⟩ := hoo.reads
        have gas : Hid (OwnO wn w17.drew.heap.size (.slice H xn.ops.length h) xn.ops) := Lib.hid (own_lower hoo (Below.size hb.out))
        clear hoo
        have gb : Hid (Bel w17.drew wn) := Lib.hid (Below.trans hb.out (Below.mono hbN (Below.size hb.out)))
        have gn1 : Hid (kOp.C wn Ya n.ops.length n.ops) := Lib.hid (kOp_keep fn1.out hbN)
        have gnb18 : Hid (Blk wn nb18 #[.bool false, .int .i64 0, .bool false, .bool false, .slice none 0 0] 25 ∧ w17.drew.heap.size ≤ nb18) := Lib.hid (⟨fnb18.out.1.bel hbN, fnb18.out.2⟩)
        clear hbN
        refine ⟨_, rfl, ?_⟩
        refine hK.out _ _ (HSF.out _ gb.out) (fun hHeld => ?_)
        clear hK K
        refine norm_ (a' := ?_) ?_ ?_
        rotate_left
        ·show Act.put _ (some 119) _ = _
         simp only [Act.put, lA, lB, lC, i64_w, i32_w]
         rfl
        refine pure_ (i := 6) (N := some 113) (v := ?_) (a' := ?_) #[bT, bT, bT, bT, bT, bT, bT, bF, bF, bF, bT, bF, bF, bF, bF] rfl rfl (by kernel_rfl) (fun _ _ _ h => h) (Or.inl ⟨by rfl, ?_⟩) ?_ ?_
        rotate_left
        ·intro w'
         go_simp
         with_reducible rfl
        rotate_left
        ·simp only [Act.put, lA, lB, lC, i64_w, i32_w]
         rfl
        refine pure_ (i := 7) (N := some 120) (v := ?_) (a' := ?_) #[bT, bT, bT, bT, bT, bT, bT, bT, bF, bF, bT, bF, bF, bF, bF] rfl rfl (by kernel_rfl) (fun _ _ _ h => h) (Or.inl ⟨by rfl, ?_⟩) ?_ ?_
        rotate_left
        ·intro w'
         go_simp
         with_reducible rfl
        rotate_left
        ·simp only [Act.put, lA, lB, lC, i64_w, i32_w]
         rfl
        refine pure_ (i := 8) (N := some 121) (v := ?_) (a' := ?_) #[bT, bT, bT, bT, bT, bT, bT, bT, bT, bF, bT, bF, bF, bF, bF] rfl rfl (by kernel_rfl) (fun _ _ _ h => h) (Or.inl ⟨by rfl, ?_⟩) ?_ ?_
        rotate_left
        ·intro w'
         go_simp
         with_reducible rfl
        rotate_left
        ·simp only [Act.put, lA, lB, lC, i64_w, i32_w]
         rfl
        refine pure_ (i := 9) (N := some 122) (v := ?_) (a' := ?_) #[bT, bT, bT, bT, bT, bT, bT, bT, bT, bT, bT, bF, bF, bF, bF] rfl rfl (by kernel_rfl) (fun _ _ _ h => h) (Or.inl ⟨by rfl, ?_⟩) ?_ ?_
        rotate_left
        ·intro w'
         go_simp
         with_reducible rfl
        rotate_left
        ·simp only [Act.put, lA, lB, lC, i64_w, i32_w]
         rfl
        exact norm_ (by first | (simp only [putAll, Act.put, lA, lB, lC]; done) | (simp only [putAll, Act.put, lA, lB, lC]; rfl)) (hJ1_4_5_10 (Ya, ya, H, h, nb18) _ ⟨gb.out, gn1.out, gas.out, gnb18.out⟩)
       ·skip
        refine value_ (w1 := ?_) (v := ?_) (by rfl) rfl ?_ ?_
        rotate_left 2
        ·go_simp
         constructor
         ·rfl
         ·rfl
        have hbN : Bel wc (wc.alloc (.cells #[.int .i64 0, .int .i64 0, .int .i64 0, .int .i64 0, .int .i64 0, .string ⟨#[]⟩, .string ⟨#[]⟩, .int .i64 0, .string ⟨#[]⟩, .slice none 0 0] 29)) := bel_alloc (Below.refl _ _) _
        have gb : Hid (Bel w17.drew (wc.alloc (.cells #[.int .i64 0, .int .i64 0, .int .i64 0, .int .i64 0, .int .i64 0, .string ⟨#[]⟩, .string ⟨#[]⟩, .int .i64 0, .string ⟨#[]⟩, .slice none 0 0] 29))) := Lib.hid (Below.trans hb.out (Below.mono hbN (Below.size hb.out)))
        have gn1 : Hid (kOp.C (wc.alloc (.cells #[.int .i64 0, .int .i64 0, .int .i64 0, .int .i64 0, .int .i64 0, .string ⟨#[]⟩, .string ⟨#[]⟩, .int .i64 0, .string ⟨#[]⟩, .slice none 0 0] 29)) Ya n.ops.length n.ops) := Lib.hid (kOp_keep fn1.out hbN)
        have gnb18 : Hid (Blk (wc.alloc (.cells #[.int .i64 0, .int .i64 0, .int .i64 0, .int .i64 0, .int .i64 0, .string ⟨#[]⟩, .string ⟨#[]⟩, .int .i64 0, .string ⟨#[]⟩, .slice none 0 0] 29)) nb18 #[.bool false, .int .i64 0, .bool false, .bool false, .slice none 0 0] 25 ∧ w17.drew.heap.size ≤ nb18) := Lib.hid (⟨fnb18.out.1.bel hbN, fnb18.out.2⟩)
        have gnb19 : Hid (Blk (wc.alloc (.cells #[.int .i64 0, .int .i64 0, .int .i64 0, .int .i64 0, .int .i64 0, .string ⟨#[]⟩, .string ⟨#[]⟩, .int .i64 0, .string ⟨#[]⟩, .slice none 0 0] 29)) wc.heap.size #[.int .i64 0, .int .i64 0, .int .i64 0, .int .i64 0, .int .i64 0, .string ⟨#[]⟩, .string ⟨#[]⟩, .int .i64 0, .string ⟨#[]⟩, .slice none 0 0] 29 ∧ w17.drew.heap.size ≤ wc.heap.size) := Lib.hid ⟨Blk.new _ _ _, Below.size hb.out⟩
        have gne : Hid (nb18 ≠ wc.heap.size) := Lib.hid (Nat.ne_of_lt fnb18.out.1.lt)
        clear hbN
        refine hK.out _ _ (HSF.out _ gb.out) (fun hHeld => ?_)
        clear hK K
        refine norm_ (a' := ?_) ?_ ?_
        rotate_left
        ·show Act.put _ (some 19) _ = _
         simp only [Act.put, lA, lB, lC, i64_w, i32_w]
         rfl
        exact norm_ (by first | (simp only [putAll, Act.put, lA, lB, lC]; done) | (simp only [putAll, Act.put, lA, lB, lC]; rfl)) (hJ1_4_10_11 (Ya, ya, nb18, wc.heap.size) _ ⟨gb.out, gn1.out, gnb18.out, gnb19.out, gne.out⟩)
     ·skip
      rintro ⟨Ya, ya, H, h⟩ wc ⟨hb, hn1, has⟩
      try dsimp only at hn1
      try dsimp only at has
      have hb := Lib.hid hb
      have fn1 := Lib.hid hn1
      have fas := Lib.hid has
      clear hn1 has
      refine norm_ (a' := ?_) ?_ ?_
      rotate_left
      ·simp only [putAll, Act.put, lA, lB, lC]
       rfl
      refine two_ (i := 10) (j := 11) (Ni := some 18) (Nj := some 19) #[bT, bT, bT, bT, bT, bT, bT, bT, bT, bT, bT, bF, bF, bF, bF] #[bT, bT, bT, bT, bT, bT, bT, bT, bT, bT, bF, bT, bF, bF, bF] rfl rfl rfl rfl (by kernel_rfl) (by decide) (by decide) (fun K hK => ?_) (fun K hK => ?_)
      ·skip
       refine value_ (w1 := ?_) (v := ?_) (by rfl) rfl ?_ ?_
       rotate_left 2
       ·go_simp
        constructor
        ·rfl
        ·rfl
       have hbN : Bel wc (wc.alloc (.cells #[.bool false, .int .i64 0, .bool false, .bool false, .slice none 0 0] 25)) := bel_alloc (Below.refl _ _) _
       have gb : Hid (Bel w17.drew (wc.alloc (.cells #[.bool false, .int .i64 0, .bool false, .bool false, .slice none 0 0] 25))) := Lib.hid (Below.trans hb.out (Below.mono hbN (Below.size hb.out)))
       have gn1 : Hid (kOp.C (wc.alloc (.cells #[.bool false, .int .i64 0, .bool false, .bool false, .slice none 0 0] 25)) Ya n.ops.length n.ops) := Lib.hid (kOp_keep fn1.out hbN)
       have gas : Hid (OwnO (wc.alloc (.cells #[.bool false, .int .i64 0, .bool false, .bool false, .slice none 0 0] 25)) w17.drew.heap.size (.slice H xn.ops.length h) xn.ops) := Lib.hid (OwnO.bel fas.out hbN)
       have gnb18 : Hid (Blk (wc.alloc (.cells #[.bool false, .int .i64 0, .bool false, .bool false, .slice none 0 0] 25)) wc.heap.size #[.bool false, .int .i64 0, .bool false, .bool false, .slice none 0 0] 25 ∧ w17.drew.heap.size ≤ wc.heap.size) := Lib.hid ⟨Blk.new _ _ _, Below.size hb.out⟩
       clear hbN
       refine hK.out _ _ (HSF.out _ gb.out) (fun hHeld => ?_)
       clear hK K
       refine norm_ (a' := ?_) ?_ ?_
       rotate_left
       ·show Act.put _ (some 18) _ = _
        simp only [Act.put, lA, lB, lC, i64_w, i32_w]
        rfl
       exact norm_ (by first | (simp only [putAll, Act.put, lA, lB, lC]; done) | (simp only [putAll, Act.put, lA, lB, lC]; rfl)) (hJ1_4_5_10 (Ya, ya, H, h, wc.heap.size) _ ⟨gb.out, gn1.out, gas.out, gnb18.out⟩)
      ·skip
       refine value_ (w1 := ?_) (v := ?_) (by rfl) rfl ?_ ?_
       rotate_left 2
       ·go_simp
        constructor
        ·rfl
        ·rfl
       have hbN : Bel wc (wc.alloc (.cells #[.int .i64 0, .int .i64 0, .int .i64 0, .int .i64 0, .int .i64 0, .string ⟨#[]⟩, .string ⟨#[]⟩, .int .i64 0, .string ⟨#[]⟩, .slice none 0 0] 29)) := bel_alloc (Below.refl _ _) _
       have gb : Hid (Bel w17.drew (wc.alloc (.cells #[.int .i64 0, .int .i64 0, .int .i64 0, .int .i64 0, .int .i64 0, .string ⟨#[]⟩, .string ⟨#[]⟩, .int .i64 0, .string ⟨#[]⟩, .slice none 0 0] 29))) := Lib.hid (Below.trans hb.out (Below.mono hbN (Below.size hb.out)))
       have gn1 : Hid (kOp.C (wc.alloc (.cells #[.int .i64 0, .int .i64 0, .int .i64 0, .int .i64 0, .int .i64 0, .string ⟨#[]⟩, .string ⟨#[]⟩, .int .i64 0, .string ⟨#[]⟩, .slice none 0 0] 29)) Ya n.ops.length n.ops) := Lib.hid (kOp_keep fn1.out hbN)
       have gas : Hid (OwnO (wc.alloc (.cells #[.int .i64 0, .int .i64 0, .int .i64 0, .int .i64 0, .int .i64 0, .string ⟨#[]⟩, .string ⟨#[]⟩, .int .i64 0, .string ⟨#[]⟩, .slice none 0 0] 29)) w17.drew.heap.size (.slice H xn.ops.length h) xn.ops) := Lib.hid (OwnO.bel fas.out hbN)
       have gnb19 : Hid (Blk (wc.alloc (.cells #[.int .i64 0, .int .i64 0, .int .i64 0, .int .i64 0, .int .i64 0, .string ⟨#[]⟩, .string ⟨#[]⟩, .int .i64 0, .string ⟨#[]⟩, .slice none 0 0] 29)) wc.heap.size #[.int .i64 0, .int .i64 0, .int .i64 0, .int .i64 0, .int .i64 0, .string ⟨#[]⟩, .string ⟨#[]⟩, .int .i64 0, .string ⟨#[]⟩, .slice none 0 0] 29 ∧ w17.drew.heap.size ≤ wc.heap.size) := Lib.hid ⟨Blk.new _ _ _, Below.size hb.out⟩
       clear hbN
       refine hK.out _ _ (HSF.out _ gb.out) (fun hHeld => ?_)
       clear hK K
       refine norm_ (a' := ?_) ?_ ?_
       rotate_left
       ·show Act.put _ (some 19) _ = _
        simp only [Act.put, lA, lB, lC, i64_w, i32_w]
        rfl
       exact norm_ (by first | (simp only [putAll, Act.put, lA, lB, lC]; done) | (simp only [putAll, Act.put, lA, lB, lC]; rfl)) (hJ1_4_5_11 (Ya, ya, H, h, wc.heap.size) _ ⟨gb.out, gn1.out, gas.out, gnb19.out⟩)
    ·skip
     rintro ⟨Ya, ya, nb18, nb19⟩ wc ⟨hb, hn1, hnb18, hnb19, hne⟩
     try dsimp only at hn1
     try dsimp only at hnb18
     try dsimp only at hnb19
     try dsimp only at hne
     have hb := Lib.hid hb
     have fn1 := Lib.hid hn1
     have fnb18 := Lib.hid hnb18
     have fnb19 := Lib.hid hnb19
     have fne := Lib.hid hne
     clear hn1 hnb18 hnb19 hne
     refine norm_ (a' := ?_) ?_ ?_
     rotate_left
     ·simp only [putAll, Act.put, lA, lB, lC]
      rfl
     refine one_ (i := 5) (N := some 119) #[bT, bT, bT, bT, bT, bT, bF, bF, bF, bF, bT, bT, bF, bF, bF] rfl rfl (by kernel_rfl) (by decide) (fun K hK => ?_)
     refine goes_ Tryz.func43 (by kernel_rfl) rfl #[.agg #[.bool n.up, .int .i64 n.term, .bool n.leads, .bool n.alone, .slice Ya n.ops.length ya], .int .i64 id, .agg #[.int .i64 o.kind, .string o.name, .string o.dest, .int .i64 o.n, .string o.text]] (by rfl) rfl rfl (by simp only [List.map_toArray, List.map_cons, List.map_nil]; rfl) ?_
     with_reducible refine (him.out _ fn1.out).mono ?_
     rintro e wn ⟨v, rfl, hoo, hbN⟩
     obtain ⟨H, h, rfl, -, -⟩ := hoo.reads
     have gas : Hid (OwnO wn w17.drew.heap.size (.slice H xn.ops.length h) xn.ops) := Lib.hid (own_lower hoo (Below.size hb.out))
     clear hoo
     have gb : Hid (Bel w17.drew wn) := Lib.hid (Below.trans hb.out (Below.mono hbN (Below.size hb.out)))
     have gn1 : Hid (kOp.C wn Ya n.ops.length n.ops) := Lib.hid (kOp_keep fn1.out hbN)
     have gnb18 : Hid (Blk wn nb18 #[.bool false, .int .i64 0, .bool false, .bool false, .slice none 0 0] 25 ∧ w17.drew.heap.size ≤ nb18) := Lib.hid (⟨fnb18.out.1.bel hbN, fnb18.out.2⟩)
     have gnb19 : Hid (Blk wn nb19 #[.int .i64 0, .int .i64 0, .int .i64 0, .int .i64 0, .int .i64 0, .string ⟨#[]⟩, .string ⟨#[]⟩, .int .i64 0, .string ⟨#[]⟩, .slice none 0 0] 29 ∧ w17.drew.heap.size ≤ nb19) := Lib.hid (⟨fnb19.out.1.bel hbN, fnb19.out.2⟩)
     have gne := fne
     clear hbN
     refine ⟨_, rfl, ?_⟩
     refine hK.out _ _ (HSF.out _ gb.out) (fun hHeld => ?_)
     clear hK K
     refine norm_ (a' := ?_) ?_ ?_
     rotate_left
     ·show Act.put _ (some 119) _ = _
      simp only [Act.put, lA, lB, lC, i64_w, i32_w]
      rfl
     refine pure_ (i := 6) (N := some 113) (v := ?_) (a' := ?_) #[bT, bT, bT, bT, bT, bT, bT, bF, bF, bF, bT, bT, bF, bF, bF] rfl rfl (by kernel_rfl) (fun _ _ _ h => h) (Or.inl ⟨by rfl, ?_⟩) ?_ ?_
     rotate_left
     ·intro w'
      go_simp
      with_reducible rfl
     rotate_left
     ·simp only [Act.put, lA, lB, lC, i64_w, i32_w]
      rfl
     refine pure_ (i := 7) (N := some 120) (v := ?_) (a' := ?_) #[bT, bT, bT, bT, bT, bT, bT, bT, bF, bF, bT, bT, bF, bF, bF] rfl rfl (by kernel_rfl) (fun _ _ _ h => h) (Or.inl ⟨by rfl, ?_⟩) ?_ ?_
     rotate_left
     ·intro w'
      go_simp
      with_reducible rfl
     rotate_left
     ·simp only [Act.put, lA, lB, lC, i64_w, i32_w]
      rfl
     refine pure_ (i := 8) (N := some 121) (v := ?_) (a' := ?_) #[bT, bT, bT, bT, bT, bT, bT, bT, bT, bF, bT, bT, bF, bF, bF] rfl rfl (by kernel_rfl) (fun _ _ _ h => h) (Or.inl ⟨by rfl, ?_⟩) ?_ ?_
     rotate_left
     ·intro w'
      go_simp
      with_reducible rfl
     rotate_left
     ·simp only [Act.put, lA, lB, lC, i64_w, i32_w]
      rfl
     refine pure_ (i := 9) (N := some 122) (v := ?_) (a' := ?_) #[bT, bT, bT, bT, bT, bT, bT, bT, bT, bT, bT, bT, bF, bF, bF] rfl rfl (by kernel_rfl) (fun _ _ _ h => h) (Or.inl ⟨by rfl, ?_⟩) ?_ ?_
     rotate_left
     ·intro w'
      go_simp
      with_reducible rfl
     rotate_left
     ·simp only [Act.put, lA, lB, lC, i64_w, i32_w]
      rfl
     exact norm_ (by first | (simp only [putAll, Act.put, lA, lB, lC]; done) | (simp only [putAll, Act.put, lA, lB, lC]; rfl)) (hJ1_4_5_10_11 (Ya, ya, H, h, nb18, nb19) _ ⟨gb.out, gn1.out, gas.out, gnb18.out, gnb19.out, gne.out⟩)
   ·skip
    rintro ⟨Ya, ya, H, h, nb19⟩ wc ⟨hb, hn1, has, hnb19⟩
    try dsimp only at hn1
    try dsimp only at has
    try dsimp only at hnb19
    have hb := Lib.hid hb
    have fn1 := Lib.hid hn1
    have fas := Lib.hid has
    have fnb19 := Lib.hid hnb19
    clear hn1 has hnb19
    refine norm_ (a' := ?_) ?_ ?_
    rotate_left
    ·simp only [putAll, Act.put, lA, lB, lC]
     rfl
    refine one_ (i := 10) (N := some 18) #[bT, bT, bT, bT, bT, bT, bT, bT, bT, bT, bT, bT, bF, bF, bF] rfl rfl (by kernel_rfl) (by decide) (fun K hK => ?_)
    refine value_ (w1 := ?_) (v := ?_) (by rfl) rfl ?_ ?_
    rotate_left 2
    ·go_simp
     constructor
     ·rfl
     ·rfl
    have hbN : Bel wc (wc.alloc (.cells #[.bool false, .int .i64 0, .bool false, .bool false, .slice none 0 0] 25)) := bel_alloc (Below.refl _ _) _
    have gb : Hid (Bel w17.drew (wc.alloc (.cells #[.bool false, .int .i64 0, .bool false, .bool false, .slice none 0 0] 25))) := Lib.hid (Below.trans hb.out (Below.mono hbN (Below.size hb.out)))
    have gn1 : Hid (kOp.C (wc.alloc (.cells #[.bool false, .int .i64 0, .bool false, .bool false, .slice none 0 0] 25)) Ya n.ops.length n.ops) := Lib.hid (kOp_keep fn1.out hbN)
    have gas : Hid (OwnO (wc.alloc (.cells #[.bool false, .int .i64 0, .bool false, .bool false, .slice none 0 0] 25)) w17.drew.heap.size (.slice H xn.ops.length h) xn.ops) := Lib.hid (OwnO.bel fas.out hbN)
    have gnb19 : Hid (Blk (wc.alloc (.cells #[.bool false, .int .i64 0, .bool false, .bool false, .slice none 0 0] 25)) nb19 #[.int .i64 0, .int .i64 0, .int .i64 0, .int .i64 0, .int .i64 0, .string ⟨#[]⟩, .string ⟨#[]⟩, .int .i64 0, .string ⟨#[]⟩, .slice none 0 0] 29 ∧ w17.drew.heap.size ≤ nb19) := Lib.hid (⟨fnb19.out.1.bel hbN, fnb19.out.2⟩)
    have gnb18 : Hid (Blk (wc.alloc (.cells #[.bool false, .int .i64 0, .bool false, .bool false, .slice none 0 0] 25)) wc.heap.size #[.bool false, .int .i64 0, .bool false, .bool false, .slice none 0 0] 25 ∧ w17.drew.heap.size ≤ wc.heap.size) := Lib.hid ⟨Blk.new _ _ _, Below.size hb.out⟩
    have gne : Hid (wc.heap.size ≠ nb19) := Lib.hid (Nat.ne_of_gt fnb19.out.1.lt)
    clear hbN
    refine hK.out _ _ (HSF.out _ gb.out) (fun hHeld => ?_)
    clear hK K
    refine norm_ (a' := ?_) ?_ ?_
    rotate_left
    ·show Act.put _ (some 18) _ = _
     simp only [Act.put, lA, lB, lC, i64_w, i32_w]
     rfl
    exact norm_ (by first | (simp only [putAll, Act.put, lA, lB, lC]; done) | (simp only [putAll, Act.put, lA, lB, lC]; rfl)) (hJ1_4_5_10_11 (Ya, ya, H, h, wc.heap.size, nb19) _ ⟨gb.out, gn1.out, gas.out, gnb18.out, gnb19.out, gne.out⟩)
  ·skip
   rintro ⟨Ya, ya, H, h, nb18⟩ wc ⟨hb, hn1, has, hnb18⟩
   try dsimp only at hn1
   try dsimp only at has
   try dsimp only at hnb18
   have hb := Lib.hid hb
   have fn1 := Lib.hid hn1
   have fas := Lib.hid has
   have fnb18 := Lib.hid hnb18
   clear hn1 has hnb18
   refine norm_ (a' := ?_) ?_ ?_
   rotate_left
   ·simp only [putAll, Act.put, lA, lB, lC]
    rfl
   refine one_ (i := 11) (N := some 19) #[bT, bT, bT, bT, bT, bT, bT, bT, bT, bT, bT, bT, bF, bF, bF] rfl rfl (by kernel_rfl) (by decide) (fun K hK => ?_)
   refine value_ (w1 := ?_) (v := ?_) (by rfl) rfl ?_ ?_
   rotate_left 2
   ·go_simp
    constructor
    ·rfl
    ·rfl
   have hbN : Bel wc (wc.alloc (.cells #[.int .i64 0, .int .i64 0, .int .i64 0, .int .i64 0, .int .i64 0, .string ⟨#[]⟩, .string ⟨#[]⟩, .int .i64 0, .string ⟨#[]⟩, .slice none 0 0] 29)) := bel_alloc (Below.refl _ _) _
   have gb : Hid (Bel w17.drew (wc.alloc (.cells #[.int .i64 0, .int .i64 0, .int .i64 0, .int .i64 0, .int .i64 0, .string ⟨#[]⟩, .string ⟨#[]⟩, .int .i64 0, .string ⟨#[]⟩, .slice none 0 0] 29))) := Lib.hid (Below.trans hb.out (Below.mono hbN (Below.size hb.out)))
   have gn1 : Hid (kOp.C (wc.alloc (.cells #[.int .i64 0, .int .i64 0, .int .i64 0, .int .i64 0, .int .i64 0, .string ⟨#[]⟩, .string ⟨#[]⟩, .int .i64 0, .string ⟨#[]⟩, .slice none 0 0] 29)) Ya n.ops.length n.ops) := Lib.hid (kOp_keep fn1.out hbN)
   have gas : Hid (OwnO (wc.alloc (.cells #[.int .i64 0, .int .i64 0, .int .i64 0, .int .i64 0, .int .i64 0, .string ⟨#[]⟩, .string ⟨#[]⟩, .int .i64 0, .string ⟨#[]⟩, .slice none 0 0] 29)) w17.drew.heap.size (.slice H xn.ops.length h) xn.ops) := Lib.hid (OwnO.bel fas.out hbN)
   have gnb18 : Hid (Blk (wc.alloc (.cells #[.int .i64 0, .int .i64 0, .int .i64 0, .int .i64 0, .int .i64 0, .string ⟨#[]⟩, .string ⟨#[]⟩, .int .i64 0, .string ⟨#[]⟩, .slice none 0 0] 29)) nb18 #[.bool false, .int .i64 0, .bool false, .bool false, .slice none 0 0] 25 ∧ w17.drew.heap.size ≤ nb18) := Lib.hid (⟨fnb18.out.1.bel hbN, fnb18.out.2⟩)
   have gnb19 : Hid (Blk (wc.alloc (.cells #[.int .i64 0, .int .i64 0, .int .i64 0, .int .i64 0, .int .i64 0, .string ⟨#[]⟩, .string ⟨#[]⟩, .int .i64 0, .string ⟨#[]⟩, .slice none 0 0] 29)) wc.heap.size #[.int .i64 0, .int .i64 0, .int .i64 0, .int .i64 0, .int .i64 0, .string ⟨#[]⟩, .string ⟨#[]⟩, .int .i64 0, .string ⟨#[]⟩, .slice none 0 0] 29 ∧ w17.drew.heap.size ≤ wc.heap.size) := Lib.hid ⟨Blk.new _ _ _, Below.size hb.out⟩
   have gne : Hid (nb18 ≠ wc.heap.size) := Lib.hid (Nat.ne_of_lt fnb18.out.1.lt)
   clear hbN
   refine hK.out _ _ (HSF.out _ gb.out) (fun hHeld => ?_)
   clear hK K
   refine norm_ (a' := ?_) ?_ ?_
   rotate_left
   ·show Act.put _ (some 19) _ = _
    simp only [Act.put, lA, lB, lC, i64_w, i32_w]
    rfl
   exact norm_ (by first | (simp only [putAll, Act.put, lA, lB, lC]; done) | (simp only [putAll, Act.put, lA, lB, lC]; rfl)) (hJ1_4_5_10_11 (Ya, ya, H, h, nb18, wc.heap.size) _ ⟨gb.out, gn1.out, gas.out, gnb18.out, gnb19.out, gne.out⟩)
 rintro ⟨Ya, ya, H, h, nb18, nb19⟩ wc ⟨hb, hn1, has, hnb18, hnb19, hne⟩
 try dsimp only at hn1
 try dsimp only at has
 try dsimp only at hnb18
 try dsimp only at hnb19
 try dsimp only at hne
 have hb := Lib.hid hb
 have fn1 := Lib.hid hn1
 have fas := Lib.hid has
 have fnb18 := Lib.hid hnb18
 have fnb19 := Lib.hid hnb19
 have fne := Lib.hid hne
 clear hn1 has hnb18 hnb19 hne
 have unb180 := blkn fnb18.out.1 0 _ rfl
 have unb181 := blkn fnb18.out.1 1 _ rfl
 have unb182 := blkn fnb18.out.1 2 _ rfl
 have unb183 := blkn fnb18.out.1 3 _ rfl
 have unb184 := blkn fnb18.out.1 4 _ rfl
 have vnb180 := fnb18.out.1.free 0
 have vnb181 := fnb18.out.1.free 1
 have vnb182 := fnb18.out.1.free 2
 have vnb183 := fnb18.out.1.free 3
 have vnb184 := fnb18.out.1.free 4
 have ynb18 := fnb18.out.1.lt
 have unb190 := blkn fnb19.out.1 0 _ rfl
 have unb191 := blkn fnb19.out.1 1 _ rfl
 have unb192 := blkn fnb19.out.1 2 _ rfl
 have unb193 := blkn fnb19.out.1 3 _ rfl
 have unb194 := blkn fnb19.out.1 4 _ rfl
 have unb195 := blkn fnb19.out.1 5 _ rfl
 have unb196 := blkn fnb19.out.1 6 _ rfl
 have unb197 := blkn fnb19.out.1 7 _ rfl
 have unb198 := blkn fnb19.out.1 8 _ rfl
 have unb199 := blkn fnb19.out.1 9 _ rfl
 have vnb190 := fnb19.out.1.free 0
 have vnb191 := fnb19.out.1.free 1
 have vnb192 := fnb19.out.1.free 2
 have vnb193 := fnb19.out.1.free 3
 have vnb194 := fnb19.out.1.free 4
 have vnb195 := fnb19.out.1.free 5
 have vnb196 := fnb19.out.1.free 6
 have vnb197 := fnb19.out.1.free 7
 have vnb198 := fnb19.out.1.free 8
 have vnb199 := fnb19.out.1.free 9
 have ynb19 := fnb19.out.1.lt
 have en1 : ¬ nb18 = nb19 := fne.out
 have en2 : ¬ nb19 = nb18 := fun e => fne.out e.symm
 refine norm_ (a' := ?_) ?_ ?_
 rotate_left
 ·simp only [putAll, Act.put, lA, lB, lC]
  rfl
 refine last_ (i := 12) (N := none) #[bT, bT, bT, bT, bT, bT, bT, bT, bT, bT, bT, bT, bT, bF, bF] rfl rfl (by kernel_rfl) (by decide) (fun K hK => ?_)
 refine skip_ (w1 := ?_) (by rfl) rfl ?_ ?_
 rotate_left
 ·go_simp
  rfl
 refine hK.out _ _ ?_
 clear hK K
 refine last_ (i := 13) (N := none) #[bT, bT, bT, bT, bT, bT, bT, bT, bT, bT, bT, bT, bT, bT, bF] rfl rfl (by kernel_rfl) (by decide) (fun K hK => ?_)
 refine skip_ (w1 := ?_) (by rfl) rfl ?_ ?_
 rotate_left
 ·go_simp
  rfl
 refine hK.out _ _ ?_
 clear hK K
 refine pure_ (i := 14) (N := some 20) (v := ?_) (a' := ?_) #[bT, bT, bT, bT, bT, bT, bT, bT, bT, bT, bT, bT, bT, bT, bT] rfl rfl (by kernel_rfl) (fun _ _ _ h => h) (Or.inl ⟨by rfl, ?_⟩) ?_ ?_
 rotate_left
 ·intro w'
  go_simp
  with_reducible rfl
 rotate_left
 ·simp only [Act.put, lA, lB, lC, i64_w, i32_w]
  rfl
 refine done_ (by kernel_rfl) ?_
 clear en1 en2 unb180 unb181 unb182 unb183 unb184 vnb180 vnb181 vnb182 vnb183 vnb184 unb190 unb191 unb192 unb193 unb194 unb195 unb196 unb197 unb198 unb199 vnb190 vnb191 vnb192 vnb193 vnb194 vnb195 vnb196 vnb197 vnb198 vnb199
 replace KB := Lib.hid (KB.out.bel hb.out)
 replace KO := Lib.hid (KO.out.bel hb.out)
 replace Ks := Lib.hid (Ks.out.bel hb.out)
 replace B8 := Lib.hid (B8.out.bel hb.out)
 replace B9 := Lib.hid (B9.out.bel hb.out)
 replace Bx := Lib.hid (Bx.out.bel hb.out)
 replace Kg := Lib.hid (Kg.out.bel hb.out)
 replace Bg := Lib.hid (Bg.out.bel hb.out)
 replace Bm := Lib.hid (Bm.out.bel hb.out)
 replace KW := Lib.hid (Bel.tr KW.out hb.out)
 replace KZ := Lib.hid (Nat.le_trans KZ.out (Below.size hb.out))
 have hP2 := fnb18.out.2
 have hP3 := fnb19.out.2
 generalize hW9 : ((((((((((((((((wc.setCell ⟨nb18, 0, none⟩ (.bool xn.up)).setCell ⟨nb18, 1, none⟩ (.int .i64 xn.term)).setCell ⟨nb18, 2, none⟩ (.bool xn.leads)).setCell ⟨nb18, 3, none⟩ (.bool xn.alone)).setCell ⟨nb18, 4, none⟩ (.slice H xn.ops.length h)).setCell ⟨nb19, 0, none⟩ (.int .i64 xm.kind)).setCell ⟨nb19, 1, none⟩ (.int .i64 xm.whom)).setCell ⟨nb19, 2, none⟩ (.int .i64 xm.term)).setCell ⟨nb19, 3, none⟩ (.int .i64 xm.n)).setCell ⟨nb19, 4, none⟩ (.int .i64 xm.op.kind)).setCell ⟨nb19, 5, none⟩ (.string xm.op.name)).setCell ⟨nb19, 6, none⟩ (.string xm.op.dest)).setCell ⟨nb19, 7, none⟩ (.int .i64 xm.op.n)).setCell ⟨nb19, 8, none⟩ (.string xm.op.text)).setCell ⟨nb19, 9, none⟩ (.slice none 0 0))) = W18
 have h2 := two_new (v1 := [.bool xn.up, .int .i64 xn.term, .bool xn.leads, .bool xn.alone, .slice H xn.ops.length h]) (v2 := [.int .i64 xm.kind, .int .i64 xm.whom, .int .i64 xm.term, .int .i64 xm.n, .int .i64 xm.op.kind, .string xm.op.name, .string xm.op.dest, .int .i64 xm.op.n, .string xm.op.text, .slice none 0 0]) hW9 fnb18.out.1 fnb19.out.1 fne.out rfl rfl (by decide) (by decide)
 have hsz : w17.drew.heap.size ≤ wc.heap.size := Below.size hb.out
 have hK := h2.ownO fas.out
 replace KB := Lib.hid (h2.oth KB.out (by omega) (by omega))
 replace KO := Lib.hid (h2.oth KO.out (by omega) (by omega))
 replace Ks : Hid (AtT W18 s1 s2 (.slice E0 xn.ops.length f0) xn.ops) := Lib.hid ⟨h2.ownT Ks.out.own, Ks.out.lt⟩
 replace B8 := Lib.hid (h2.oth B8.out (by omega) (by omega))
 replace B9 := Lib.hid (h2.oth B9.out (by omega) (by omega))
 replace Bx := Lib.hid (h2.oth Bx.out (by omega) (by omega))
 replace Kg : Hid (AtO W18 s3 s4 (.slice G xn.ops.length g) sg) := Lib.hid ⟨h2.ownO Kg.out.own, Kg.out.lt⟩
 replace Bg := Lib.hid (h2.oth Bg.out (by omega) (by omega))
 replace Bm := Lib.hid (h2.oth Bm.out (by omega) (by omega))
 replace KW := Lib.hid (h2.bel KW.out (by omega) (by omega))
 have hB1 : Blk W18 nb18 #[.bool xn.up, .int .i64 xn.term, .bool xn.leads, .bool xn.alone, .slice H xn.ops.length h] 25 := h2.b1
 have hB2 : Blk W18 nb19 #[.int .i64 xm.kind, .int .i64 xm.whom, .int .i64 xm.term, .int .i64 xm.n, .int .i64 xm.op.kind, .string xm.op.name, .string xm.op.dest, .int .i64 xm.op.n, .string xm.op.text, .slice none 0 0] 29 := h2.b2
 have hq := h2.size
 clear hW9 h2 fnb18 fnb19 fne fas hb HSF ynb18 ynb19 fn1
 clear KZ
 obtain ⟨s5, hs5⟩ : ∃ k, w17.drew.heap.size = k := ⟨_, rfl⟩
 obtain ⟨s6, hs6⟩ : ∃ k, W18.heap.size = k := ⟨_, rfl⟩
 have Kh : Hid (AtO W18 s5 s6 (.slice H xn.ops.length h) xn.ops) := Lib.hid (by rw [← hs5, ← hs6]; exact OwnO.ato hK)
 have Bh := Lib.hid hB1
 have Bj := Lib.hid hB2
 have KZ : Hid (s6 ≤ W18.heap.size) := Lib.hid (Nat.le_of_eq hs6.symm)
 have zKh : s5 ≤ s6 := by omega
 have zw_s5 : w.heap.size ≤ s5 := by omega
 rw [hs5] at z_s5
 clear hB1 hB2 hK hq hP2 hP3 hsz hs5 hs6 zw zl_KB zl_KO zl_B8 zl_B9 zl_Bx zl_Bg zl_Bm
 have bh_0 : W18.cell? ⟨nb18, 0, none⟩ = some (.bool xn.up) := blkn Bh.out 0 _ rfl
 have bh_1 : W18.cell? ⟨nb18, 1, none⟩ = some (.int .i64 xn.term) := blkn Bh.out 1 _ rfl
 have bh_2 : W18.cell? ⟨nb18, 2, none⟩ = some (.bool xn.leads) := blkn Bh.out 2 _ rfl
 have bh_3 : W18.cell? ⟨nb18, 3, none⟩ = some (.bool xn.alone) := blkn Bh.out 3 _ rfl
 have bh_4 : W18.cell? ⟨nb18, 4, none⟩ = some (.slice H xn.ops.length h) := blkn Bh.out 4 _ rfl
 have bh_y := Bh.out.lt
 have b8_0 : W18.cell? ⟨nb8, 0, none⟩ = some (.bool xn.up) := blkn B8.out 0 _ rfl
 have b8_1 : W18.cell? ⟨nb8, 1, none⟩ = some (.int .i64 xn.term) := blkn B8.out 1 _ rfl
 have b8_2 : W18.cell? ⟨nb8, 2, none⟩ = some (.bool xn.leads) := blkn B8.out 2 _ rfl
 have b8_3 : W18.cell? ⟨nb8, 3, none⟩ = some (.bool xn.alone) := blkn B8.out 3 _ rfl
 have b8_4 : W18.cell? ⟨nb8, 4, none⟩ = some (.slice E0 xn.ops.length f0) := blkn B8.out 4 _ rfl
 have b8_y := B8.out.lt
 go_wp2_with fail
 clear bh_0 bh_1 bh_2 bh_3 bh_4 bh_y
 clear b8_0 b8_1 b8_2 b8_3 b8_4 b8_y
 refine (eqNode_c (n := xn) (Kh.out.own.innC rfl).2 (Ks.out.inn rfl) hxl).mono ?_
 rintro e w19 ⟨rfl, hb⟩
 replace KB := Lib.hid (KB.out.bel hb)
 replace KO := Lib.hid (KO.out.bel hb)
 replace Ks := Lib.hid (Ks.out.bel hb)
 replace B8 := Lib.hid (B8.out.bel hb)
 replace B9 := Lib.hid (B9.out.bel hb)
 replace Bx := Lib.hid (Bx.out.bel hb)
 replace Kg := Lib.hid (Kg.out.bel hb)
 replace Bg := Lib.hid (Bg.out.bel hb)
 replace Bm := Lib.hid (Bm.out.bel hb)
 replace Kh := Lib.hid (Kh.out.bel hb)
 replace Bh := Lib.hid (Bh.out.bel hb)
 replace Bj := Lib.hid (Bj.out.bel hb)
 replace KW := Lib.hid (Bel.tr KW.out hb)
 replace KZ := Lib.hid (Nat.le_trans KZ.out (Below.size hb))
 clear hb
 have bj_0 : w19.cell? ⟨nb19, 0, none⟩ = some (.int .i64 xm.kind) := blkn Bj.out 0 _ rfl
 have bj_1 : w19.cell? ⟨nb19, 1, none⟩ = some (.int .i64 xm.whom) := blkn Bj.out 1 _ rfl
 have bj_2 : w19.cell? ⟨nb19, 2, none⟩ = some (.int .i64 xm.term) := blkn Bj.out 2 _ rfl
 have bj_3 : w19.cell? ⟨nb19, 3, none⟩ = some (.int .i64 xm.n) := blkn Bj.out 3 _ rfl
 have bj_4 : w19.cell? ⟨nb19, 4, none⟩ = some (.int .i64 xm.op.kind) := blkn Bj.out 4 _ rfl
 have bj_5 : w19.cell? ⟨nb19, 5, none⟩ = some (.string xm.op.name) := blkn Bj.out 5 _ rfl
 have bj_6 : w19.cell? ⟨nb19, 6, none⟩ = some (.string xm.op.dest) := blkn Bj.out 6 _ rfl
 have bj_7 : w19.cell? ⟨nb19, 7, none⟩ = some (.int .i64 xm.op.n) := blkn Bj.out 7 _ rfl
 have bj_8 : w19.cell? ⟨nb19, 8, none⟩ = some (.string xm.op.text) := blkn Bj.out 8 _ rfl
 have bj_9 : w19.cell? ⟨nb19, 9, none⟩ = some (.slice none 0 0) := blkn Bj.out 9 _ rfl
 have bj_y := Bj.out.lt
 have b9_0 : w19.cell? ⟨nb9, 0, none⟩ = some (.int .i64 xm.kind) := blkn B9.out 0 _ rfl
 have b9_1 : w19.cell? ⟨nb9, 1, none⟩ = some (.int .i64 xm.whom) := blkn B9.out 1 _ rfl
 have b9_2 : w19.cell? ⟨nb9, 2, none⟩ = some (.int .i64 xm.term) := blkn B9.out 2 _ rfl
 have b9_3 : w19.cell? ⟨nb9, 3, none⟩ = some (.int .i64 xm.n) := blkn B9.out 3 _ rfl
 have b9_4 : w19.cell? ⟨nb9, 4, none⟩ = some (.int .i64 xm.op.kind) := blkn B9.out 4 _ rfl
 have b9_5 : w19.cell? ⟨nb9, 5, none⟩ = some (.string xm.op.name) := blkn B9.out 5 _ rfl
 have b9_6 : w19.cell? ⟨nb9, 6, none⟩ = some (.string xm.op.dest) := blkn B9.out 6 _ rfl
 have b9_7 : w19.cell? ⟨nb9, 7, none⟩ = some (.int .i64 xm.op.n) := blkn B9.out 7 _ rfl
 have b9_8 : w19.cell? ⟨nb9, 8, none⟩ = some (.string xm.op.text) := blkn B9.out 8 _ rfl
 have b9_9 : w19.cell? ⟨nb9, 9, none⟩ = some (.slice none 0 0) := blkn B9.out 9 _ rfl
 have b9_y := B9.out.lt
 go_wp2_with fail
 clear bj_0 bj_1 bj_2 bj_3 bj_4 bj_5 bj_6 bj_7 bj_8 bj_9 bj_y
 clear b9_0 b9_1 b9_2 b9_3 b9_4 b9_5 b9_6 b9_7 b9_8 b9_9 b9_y
 refine (eqMsg0_c HM0.out).mono ?_
 rintro e w20 ⟨rfl, hb⟩
 replace KB := Lib.hid (KB.out.bel hb)
 replace KO := Lib.hid (KO.out.bel hb)
 replace Ks := Lib.hid (Ks.out.bel hb)
 replace B8 := Lib.hid (B8.out.bel hb)
 replace B9 := Lib.hid (B9.out.bel hb)
 replace Bx := Lib.hid (Bx.out.bel hb)
 replace Kg := Lib.hid (Kg.out.bel hb)
 replace Bg := Lib.hid (Bg.out.bel hb)
 replace Bm := Lib.hid (Bm.out.bel hb)
 replace Kh := Lib.hid (Kh.out.bel hb)
 replace Bh := Lib.hid (Bh.out.bel hb)
 replace Bj := Lib.hid (Bj.out.bel hb)
 replace KW := Lib.hid (Bel.tr KW.out hb)
 replace KZ := Lib.hid (Nat.le_trans KZ.out (Below.size hb))
 clear hb
 have bg_0 : w20.cell? ⟨nb12, 0, none⟩ = some (.bool xn.up) := blkn Bg.out 0 _ rfl
 have bg_1 : w20.cell? ⟨nb12, 1, none⟩ = some (.int .i64 xn.term) := blkn Bg.out 1 _ rfl
 have bg_2 : w20.cell? ⟨nb12, 2, none⟩ = some (.bool xn.leads) := blkn Bg.out 2 _ rfl
 have bg_3 : w20.cell? ⟨nb12, 3, none⟩ = some (.bool xn.alone) := blkn Bg.out 3 _ rfl
 have bg_4 : w20.cell? ⟨nb12, 4, none⟩ = some (.slice G xn.ops.length g) := blkn Bg.out 4 _ rfl
 have bg_y := Bg.out.lt
 go_wp2_with fail
 clear bg_0 bg_1 bg_2 bg_3 bg_4 bg_y
 have hCg : kOp.C w20 G sg.length sg := by obtain ⟨A', c', e1, -, hC⟩ := Kg.out.own.reads; have e1 := slice_eq e1; obtain ⟨rfl, -, rfl⟩ := e1; exact hC
 refine (heldNode_c (n := xn) hCg HSL.out HMK.out (by have h := HSL.out; omega) (by omega) (by omega)).mono ?_
 rintro e w21 ⟨rfl, hb⟩
 clear hCg
 replace KB := Lib.hid (KB.out.bel hb)
 replace KO := Lib.hid (KO.out.bel hb)
 replace Ks := Lib.hid (Ks.out.bel hb)
 replace B8 := Lib.hid (B8.out.bel hb)
 replace B9 := Lib.hid (B9.out.bel hb)
 replace Bx := Lib.hid (Bx.out.bel hb)
 replace Kg := Lib.hid (Kg.out.bel hb)
 replace Bg := Lib.hid (Bg.out.bel hb)
 replace Bm := Lib.hid (Bm.out.bel hb)
 replace Kh := Lib.hid (Kh.out.bel hb)
 replace Bh := Lib.hid (Bh.out.bel hb)
 replace Bj := Lib.hid (Bj.out.bel hb)
 replace KW := Lib.hid (Bel.tr KW.out hb)
 replace KZ := Lib.hid (Nat.le_trans KZ.out (Below.size hb))
 clear hb
 have bm_0 : w21.cell? ⟨nb13, 0, none⟩ = some (.int .i64 xm.kind) := blkn Bm.out 0 _ rfl
 have bm_1 : w21.cell? ⟨nb13, 1, none⟩ = some (.int .i64 xm.whom) := blkn Bm.out 1 _ rfl
 have bm_2 : w21.cell? ⟨nb13, 2, none⟩ = some (.int .i64 xm.term) := blkn Bm.out 2 _ rfl
 have bm_3 : w21.cell? ⟨nb13, 3, none⟩ = some (.int .i64 xm.n) := blkn Bm.out 3 _ rfl
 have bm_4 : w21.cell? ⟨nb13, 4, none⟩ = some (.int .i64 xm.op.kind) := blkn Bm.out 4 _ rfl
 have bm_5 : w21.cell? ⟨nb13, 5, none⟩ = some (.string xm.op.name) := blkn Bm.out 5 _ rfl
 have bm_6 : w21.cell? ⟨nb13, 6, none⟩ = some (.string xm.op.dest) := blkn Bm.out 6 _ rfl
 have bm_7 : w21.cell? ⟨nb13, 7, none⟩ = some (.int .i64 xm.op.n) := blkn Bm.out 7 _ rfl
 have bm_8 : w21.cell? ⟨nb13, 8, none⟩ = some (.string xm.op.text) := blkn Bm.out 8 _ rfl
 have bm_9 : w21.cell? ⟨nb13, 9, none⟩ = some (.slice none 0 0) := blkn Bm.out 9 _ rfl
 have bm_y := Bm.out.lt
 go_wp2_with fail
 clear bm_0 bm_1 bm_2 bm_3 bm_4 bm_5 bm_6 bm_7 bm_8 bm_9 bm_y
 refine (heldMsg0_c HM0.out (by omega) (by omega)).mono ?_
 rintro e w22 ⟨rfl, hb⟩
 replace KB := Lib.hid (KB.out.bel hb)
 replace KO := Lib.hid (KO.out.bel hb)
 replace Ks := Lib.hid (Ks.out.bel hb)
 replace B8 := Lib.hid (B8.out.bel hb)
 replace B9 := Lib.hid (B9.out.bel hb)
 replace Bx := Lib.hid (Bx.out.bel hb)
 replace Kg := Lib.hid (Kg.out.bel hb)
 replace Bg := Lib.hid (Bg.out.bel hb)
 replace Bm := Lib.hid (Bm.out.bel hb)
 replace Kh := Lib.hid (Kh.out.bel hb)
 replace Bh := Lib.hid (Bh.out.bel hb)
 replace Bj := Lib.hid (Bj.out.bel hb)
 replace KW := Lib.hid (Bel.tr KW.out hb)
 replace KZ := Lib.hid (Nat.le_trans KZ.out (Below.size hb))
 clear hb
 go_wp2
 go_ret
 exact ⟨rfl, KW.out⟩
theorem lawFnExactNodeAsk_r {w : World} {A : Option Addr} {c : Nat} {n : Node} {id : Int} {o : Op} (hC : kOp.C w A n.ops.length n.ops) (hr : RawOs n.ops) (_ : -9223372036854775808 ≤ id) (_ : id ≤ 9223372036854775807) (hro : RawO o) :
  Calls Tryz.prog 7 #[.agg #[.bool n.up, .int .i64 n.term, .bool n.leads, .bool n.alone, .slice A n.ops.length c], .int .i64 id, .agg #[.int .i64 o.kind, .string o.name, .string o.dest, .int .i64 o.n, .string o.text]] w (Ret (.bool true) w) := lawFnExactNodeAsk_c hC hr hro
end Go.Proofs.YtccllgpaafgjaaaGreat

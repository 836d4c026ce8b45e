/- Contracts of the program's and the reference's functions, and the plain laws behind them: part 12 of 12. -/
import Derived.Test.YtccllgpaafgjaaaGreatS1
import Derived.Test.YtccllgpaafgjaaaGreatS2
import Derived.Test.YtccllgpaafgjaaaGreatS3
import Derived.Test.YtccllgpaafgjaaaGreatS4
import Derived.Test.YtccllgpaafgjaaaGreatS5
import Derived.Test.YtccllgpaafgjaaaGreatS6
import Derived.Test.YtccllgpaafgjaaaGreatS7
import Derived.Test.YtccllgpaafgjaaaGreatS8
import Derived.Test.YtccllgpaafgjaaaGreatS9
import Derived.Test.YtccllgpaafgjaaaGreatS10
import Derived.Test.YtccllgpaafgjaaaGreatS11
import Derived.Test.YtccllgpaafgjaaaGreatRows
import Derived.JoinedOf
import Derived.KernelRfl
set_option linter.unusedVariables false
set_option linter.unusedSimpArgs false

namespace Go.Proofs.YtccllgpaafgjaaaGreat
open Go.RowKit Go.Proofs.YtccllgpaafgjaaaGreatW.PrintWords Go.Proofs.YtccllgpaafgjaaaGreatW.PrintLast
def okH (n : Node) (id : Int) (m : Msg) : Bool := nodeOk n && (inR id 1 2 && (msgOk m && (decide (m.whom = id) && n.up)))
def hearRB (n : Node) (id : Int) (m : Msg) : Bool := okH n id m && hearB n m
def hearRN (n : Node) (id : Int) (m : Msg) : Node := if okH n id m then hearN n m else noN
def hearRM (n : Node) (id : Int) (m : Msg) : Msg := if okH n id m then hearM n id m else noM
theorem hearR_no {n : Node} {id : Int} {m : Msg} (h : okH n id m = false) : hearRB n id m = false ∧ hearRN n id m = noN ∧ hearRM n id m = noM := by
 unfold hearRB hearRN hearRM; rw [h]; exact ⟨rfl, rfl, rfl⟩
theorem hearR_yes {n : Node} {id : Int} {m : Msg} (h : okH n id m = true) : hearRB n id m = hearB n m ∧ hearRN n id m = hearN n m ∧ hearRM n id m = hearM n id m := by
 unfold hearRB hearRN hearRM; rw [h]; exact ⟨rfl, rfl, rfl⟩
theorem msgOk_mn {m : Msg} (h : msgOk m = true) : m.kind = 1 → 1 ≤ m.n ∧ m.n ≤ 20 := by
 intro hk
 unfold msgOk msgK inR at h
 rw [if_pos hk] at h
 simp at h
 omega
section
variable {w : World} {A B : Option Addr} {c bc : Nat} {n : Node} {id : Int} {m : Msg}
set_option maxHeartbeats 32000000 in
set_option maxRecDepth 10000 in
theorem specNodeHear_c (hC : kOp.C w A n.ops.length n.ops) (ho : SmallOs n.ops) (hD : kOp.C w B m.ops.length m.ops) (hom : SmallOs m.ops) (hso : SmallO m.op) :
  Calls Tryz.prog 23 #[.agg #[.bool n.up, .int .i64 n.term, .bool n.leads, .bool n.alone, .slice A n.ops.length c], .int .i64 id, .agg #[.int .i64 m.kind, .int .i64 m.whom, .int .i64 m.term, .int .i64 m.n, .int .i64 m.op.kind, .string m.op.name, .string m.op.dest, .int .i64 m.op.n, .string m.op.text, .slice B m.ops.length bc]] w (AnsT w (hearRN n id m) (hearRM n id m) (hearRB n id m)) := by
 have HC := Lib.hid hC
 have HO := Lib.hid ho
 have HDM := Lib.hid hD
 have HOM := Lib.hid hom
 have HSO := Lib.hid hso
 obtain ⟨z, hz⟩ : ∃ z, hearRB n id m = z := ⟨_, rfl⟩
 obtain ⟨xn, hxn⟩ : ∃ x, hearRN n id m = x := ⟨_, rfl⟩
 obtain ⟨xm, hxm⟩ : ∃ x, hearRM n id m = x := ⟨_, rfl⟩
 rw [hz, hxn, hxm]
 have HZ := Lib.hid (And.intro hz (And.intro hxn hxm))
 clear hC ho hD hom hso hz hxn hxm
 go_enter Tryz.func23, Tryz.ntmps23
 go_wp2_with fail
 obtain ⟨hW, hN, hP, hR, hM⟩ := allocs4 w #[.bool n.up, .int .i64 n.term, .bool n.leads, .bool n.alone, .slice A n.ops.length c] #[.int .i64 m.kind, .int .i64 m.whom, .int .i64 m.term, .int .i64 m.n, .int .i64 m.op.kind, .string m.op.name, .string m.op.dest, .int .i64 m.op.n, .string m.op.text, .slice B m.ops.length bc] #[.bool false, .int .i64 0, .bool false, .bool false, .slice none 0 0] #[.int .i64 0, .int .i64 0, .int .i64 0, .int .i64 0, .int .i64 0, .string ⟨#[]⟩, .string ⟨#[]⟩, .int .i64 0, .string ⟨#[]⟩, .slice none 0 0] 25 29 25 29
 generalize ((((w.alloc (.cells #[.bool n.up, .int .i64 n.term, .bool n.leads, .bool n.alone, .slice A n.ops.length c] 25)).alloc (.cells #[.int .i64 m.kind, .int .i64 m.whom, .int .i64 m.term, .int .i64 m.n, .int .i64 m.op.kind, .string m.op.name, .string m.op.dest, .int .i64 m.op.n, .string m.op.text, .slice B m.ops.length bc] 29)).alloc (.cells #[.bool false, .int .i64 0, .bool false, .bool false, .slice none 0 0] 25)).alloc (.cells #[.int .i64 0, .int .i64 0, .int .i64 0, .int .i64 0, .int .i64 0, .string ⟨#[]⟩, .string ⟨#[]⟩, .int .i64 0, .string ⟨#[]⟩, .slice none 0 0] 29)) = W0 at hW hN hP hR hM ⊢
 have hb := specNodeOk_c (c := c) (kOp_keep HC.out hW) HO.out
 obtain ⟨b1, hk1⟩ : ∃ b, nodeOk n = b := ⟨_, rfl⟩
 rw [hk1] at hb
 refine hb.mono ?_
 rintro e w1 ⟨rfl, hb1⟩
 have HN1 := Lib.hid (hN.bel hb1)
 have HP1 := Lib.hid (hP.bel hb1)
 have HRS := Lib.hid (hR.bel hb1)
 have HM := Lib.hid (hM.bel hb1)
 have HW := Lib.hid (hW.tr hb1)
 clear hb hb1 hN hP hR hM hW
 cases b1 with
 | false =>
  obtain ⟨rfl, rfl, rfl⟩ : false = z ∧ noN = xn ∧ noM = xm := by
   have h := hearR_no (n := n) (id := id) (m := m) (by unfold okH; rw [hk1]; rfl)
   have h2 := HZ.out
   exact ⟨h.1.symm.trans h2.1, h.2.1.symm.trans h2.2.1, h.2.2.symm.trans h2.2.2⟩
  have hr_ := HRS.out
  have hm_ := HM.out
  have r0 := blkn hr_ 0 _ rfl
  have r1 := blkn hr_ 1 _ rfl
  have r2 := blkn hr_ 2 _ rfl
  have r3 := blkn hr_ 3 _ rfl
  have r4 := blkn hr_ 4 _ rfl
  have m0 := blkn hm_ 0 _ rfl
  have m1 := blkn hm_ 1 _ rfl
  have m2 := blkn hm_ 2 _ rfl
  have m3 := blkn hm_ 3 _ rfl
  have m4 := blkn hm_ 4 _ rfl
  have m5 := blkn hm_ 5 _ rfl
  have m6 := blkn hm_ 6 _ rfl
  have m7 := blkn hm_ 7 _ rfl
  have m8 := blkn hm_ 8 _ rfl
  have m9 := blkn hm_ 9 _ rfl
  have rf0 := hr_.free 0
  have rf1 := hr_.free 1
  have rf2 := hr_.free 2
  have rf3 := hr_.free 3
  have rf4 := hr_.free 4
  have mf0 := hm_.free 0
  have mf1 := hm_.free 1
  have mf2 := hm_.free 2
  have mf3 := hm_.free 3
  have mf4 := hm_.free 4
  have mf5 := hm_.free 5
  have mf6 := hm_.free 6
  have mf7 := hm_.free 7
  have mf8 := hm_.free 8
  have mf9 := hm_.free 9
  have ry := hr_.lt
  have my := hm_.lt
  go_wp2
  have h2 := two_new (v1 := [.bool false, .int .i64 0, .bool false, .bool false, .slice none 0 0]) (v2 := [.int .i64 0, .int .i64 0, .int .i64 0, .int .i64 0, .int .i64 0, .string ⟨#[]⟩, .string ⟨#[]⟩, .int .i64 0, .string ⟨#[]⟩, .slice none 0 0]) rfl hr_ hm_ (show w.heap.size + 1 + 1 ≠ w.heap.size + 1 + 1 + 1 by omega) rfl rfl (by decide) (by decide)
  refine bodyPost_ret (results_list (rs := [.cell 6 25, .cell 7 29, .tmp 8]) rfl (by simp) (.cell _ 25 _ (0, 0) _ rfl h2.b1 Tryz.underlying25 rfl (by kernel_rfl) (.cell _ 29 _ (0, 0) _ rfl h2.b2 Tryz.underlying29 rfl (by kernel_rfl) (.tmp .nil)))) rfl ?_
  exact ⟨.slice none 0 0, rfl, ownT_noN _ _, h2.bel HW.out (by omega) (by omega)⟩
 | true =>
 go_wp2_with fail
 obtain ⟨b2, hk2⟩ : ∃ b, inR id 1 2 = b := ⟨_, rfl⟩
 have hl := l6In_c id 1 2 w1
 rw [hk2] at hl
 refine hl.mono ?_
 rintro e w2 ⟨rfl, rfl⟩
 clear hl
 cases b2 with
 | false =>
  obtain ⟨rfl, rfl, rfl⟩ : false = z ∧ noN = xn ∧ noM = xm := by
   have h := hearR_no (n := n) (id := id) (m := m) (by unfold okH; rw [hk1, hk2]; rfl)
   have h2 := HZ.out
   exact ⟨h.1.symm.trans h2.1, h.2.1.symm.trans h2.2.1, h.2.2.symm.trans h2.2.2⟩
  have hr_ := HRS.out
  have hm_ := HM.out
  have r0 := blkn hr_ 0 _ rfl
  have r1 := blkn hr_ 1 _ rfl
  have r2 := blkn hr_ 2 _ rfl
  have r3 := blkn hr_ 3 _ rfl
  have r4 := blkn hr_ 4 _ rfl
  have m0 := blkn hm_ 0 _ rfl
  have m1 := blkn hm_ 1 _ rfl
  have m2 := blkn hm_ 2 _ rfl
  have m3 := blkn hm_ 3 _ rfl
  have m4 := blkn hm_ 4 _ rfl
  have m5 := blkn hm_ 5 _ rfl
  have m6 := blkn hm_ 6 _ rfl
  have m7 := blkn hm_ 7 _ rfl
  have m8 := blkn hm_ 8 _ rfl
  have m9 := blkn hm_ 9 _ rfl
  have rf0 := hr_.free 0
  have rf1 := hr_.free 1
  have rf2 := hr_.free 2
  have rf3 := hr_.free 3
  have rf4 := hr_.free 4
  have mf0 := hm_.free 0
  have mf1 := hm_.free 1
  have mf2 := hm_.free 2
  have mf3 := hm_.free 3
  have mf4 := hm_.free 4
  have mf5 := hm_.free 5
  have mf6 := hm_.free 6
  have mf7 := hm_.free 7
  have mf8 := hm_.free 8
  have mf9 := hm_.free 9
  have ry := hr_.lt
  have my := hm_.lt
  go_wp2
  have h2 := two_new (v1 := [.bool false, .int .i64 0, .bool false, .bool false, .slice none 0 0]) (v2 := [.int .i64 0, .int .i64 0, .int .i64 0, .int .i64 0, .int .i64 0, .string ⟨#[]⟩, .string ⟨#[]⟩, .int .i64 0, .string ⟨#[]⟩, .slice none 0 0]) rfl hr_ hm_ (show w.heap.size + 1 + 1 ≠ w.heap.size + 1 + 1 + 1 by omega) rfl rfl (by decide) (by decide)
  refine bodyPost_ret (results_list (rs := [.cell 6 25, .cell 7 29, .tmp 8]) rfl (by simp) (.cell _ 25 _ (0, 0) _ rfl h2.b1 Tryz.underlying25 rfl (by kernel_rfl) (.cell _ 29 _ (0, 0) _ rfl h2.b2 Tryz.underlying29 rfl (by kernel_rfl) (.tmp .nil)))) rfl ?_
  exact ⟨.slice none 0 0, rfl, ownT_noN _ _, h2.bel HW.out (by omega) (by omega)⟩
 | true =>
 have p0 := blkn HP1.out 0 _ rfl
 have p1 := blkn HP1.out 1 _ rfl
 have p2 := blkn HP1.out 2 _ rfl
 have p3 := blkn HP1.out 3 _ rfl
 have p4 := blkn HP1.out 4 _ rfl
 have p5 := blkn HP1.out 5 _ rfl
 have p6 := blkn HP1.out 6 _ rfl
 have p7 := blkn HP1.out 7 _ rfl
 have p8 := blkn HP1.out 8 _ rfl
 have p9 := blkn HP1.out 9 _ rfl
 have py := HP1.out.lt
 go_wp2_with fail
 obtain ⟨b3, hk3⟩ : ∃ b, msgOk m = b := ⟨_, rfl⟩
 have hl := l21Msg_c (c := bc) (kOp_keep HDM.out HW.out) HOM.out HSO.out
 rw [hk3] at hl
 refine hl.mono ?_
 rintro e w2 ⟨rfl, hb2⟩
 replace HN1 := Lib.hid (HN1.out.bel hb2)
 replace HP1 := Lib.hid (HP1.out.bel hb2)
 replace HRS := Lib.hid (HRS.out.bel hb2)
 replace HM := Lib.hid (HM.out.bel hb2)
 replace HW := Lib.hid (HW.out.tr hb2)
 clear hl hb2 p0 p1 p2 p3 p4 p5 p6 p7 p8 p9 py
 have p1 := blkn HP1.out 1 _ rfl
 have py := HP1.out.lt
 have n0 := blkn HN1.out 0 _ rfl
 have ny := HN1.out.lt
 cases b3 with
 | false =>
  obtain ⟨rfl, rfl, rfl⟩ : false = z ∧ noN = xn ∧ noM = xm := by
   have h := hearR_no (n := n) (id := id) (m := m) (by unfold okH; rw [hk1, hk2, hk3]; rfl)
   have h2 := HZ.out
   exact ⟨h.1.symm.trans h2.1, h.2.1.symm.trans h2.2.1, h.2.2.symm.trans h2.2.2⟩
  have hr_ := HRS.out
  have hm_ := HM.out
  have r0 := blkn hr_ 0 _ rfl
  have r1 := blkn hr_ 1 _ rfl
  have r2 := blkn hr_ 2 _ rfl
  have r3 := blkn hr_ 3 _ rfl
  have r4 := blkn hr_ 4 _ rfl
  have m0 := blkn hm_ 0 _ rfl
  have m1 := blkn hm_ 1 _ rfl
  have m2 := blkn hm_ 2 _ rfl
  have m3 := blkn hm_ 3 _ rfl
  have m4 := blkn hm_ 4 _ rfl
  have m5 := blkn hm_ 5 _ rfl
  have m6 := blkn hm_ 6 _ rfl
  have m7 := blkn hm_ 7 _ rfl
  have m8 := blkn hm_ 8 _ rfl
  have m9 := blkn hm_ 9 _ rfl
  have rf0 := hr_.free 0
  have rf1 := hr_.free 1
  have rf2 := hr_.free 2
  have rf3 := hr_.free 3
  have rf4 := hr_.free 4
  have mf0 := hm_.free 0
  have mf1 := hm_.free 1
  have mf2 := hm_.free 2
  have mf3 := hm_.free 3
  have mf4 := hm_.free 4
  have mf5 := hm_.free 5
  have mf6 := hm_.free 6
  have mf7 := hm_.free 7
  have mf8 := hm_.free 8
  have mf9 := hm_.free 9
  have ry := hr_.lt
  have my := hm_.lt
  go_wp2
  have h2 := two_new (v1 := [.bool false, .int .i64 0, .bool false, .bool false, .slice none 0 0]) (v2 := [.int .i64 0, .int .i64 0, .int .i64 0, .int .i64 0, .int .i64 0, .string ⟨#[]⟩, .string ⟨#[]⟩, .int .i64 0, .string ⟨#[]⟩, .slice none 0 0]) rfl hr_ hm_ (show w.heap.size + 1 + 1 ≠ w.heap.size + 1 + 1 + 1 by omega) rfl rfl (by decide) (by decide)
  refine bodyPost_ret (results_list (rs := [.cell 6 25, .cell 7 29, .tmp 8]) rfl (by simp) (.cell _ 25 _ (0, 0) _ rfl h2.b1 Tryz.underlying25 rfl (by kernel_rfl) (.cell _ 29 _ (0, 0) _ rfl h2.b2 Tryz.underlying29 rfl (by kernel_rfl) (.tmp .nil)))) rfl ?_
  exact ⟨.slice none 0 0, rfl, ownT_noN _ _, h2.bel HW.out (by omega) (by omega)⟩
 | true =>
 by_cases hk4 : m.whom = id
 ·cases hk5 : n.up with
  | false =>
   rw [hk5] at n0
   obtain ⟨rfl, rfl, rfl⟩ : false = z ∧ noN = xn ∧ noM = xm := by
    have h := hearR_no (n := n) (id := id) (m := m) (by unfold okH; rw [hk1, hk2, hk3, hk5, decide_eq_true hk4]; rfl)
    have h2 := HZ.out
    exact ⟨h.1.symm.trans h2.1, h.2.1.symm.trans h2.2.1, h.2.2.symm.trans h2.2.2⟩
   have hr_ := HRS.out
   have hm_ := HM.out
   have r0 := blkn hr_ 0 _ rfl
   have r1 := blkn hr_ 1 _ rfl
   have r2 := blkn hr_ 2 _ rfl
   have r3 := blkn hr_ 3 _ rfl
   have r4 := blkn hr_ 4 _ rfl
   have m0 := blkn hm_ 0 _ rfl
   have m1 := blkn hm_ 1 _ rfl
   have m2 := blkn hm_ 2 _ rfl
   have m3 := blkn hm_ 3 _ rfl
   have m4 := blkn hm_ 4 _ rfl
   have m5 := blkn hm_ 5 _ rfl
   have m6 := blkn hm_ 6 _ rfl
   have m7 := blkn hm_ 7 _ rfl
   have m8 := blkn hm_ 8 _ rfl
   have m9 := blkn hm_ 9 _ rfl
   have rf0 := hr_.free 0
   have rf1 := hr_.free 1
   have rf2 := hr_.free 2
   have rf3 := hr_.free 3
   have rf4 := hr_.free 4
   have mf0 := hm_.free 0
   have mf1 := hm_.free 1
   have mf2 := hm_.free 2
   have mf3 := hm_.free 3
   have mf4 := hm_.free 4
   have mf5 := hm_.free 5
   have mf6 := hm_.free 6
   have mf7 := hm_.free 7
   have mf8 := hm_.free 8
   have mf9 := hm_.free 9
   have ry := hr_.lt
   have my := hm_.lt
   go_wp2
   have h2 := two_new (v1 := [.bool false, .int .i64 0, .bool false, .bool false, .slice none 0 0]) (v2 := [.int .i64 0, .int .i64 0, .int .i64 0, .int .i64 0, .int .i64 0, .string ⟨#[]⟩, .string ⟨#[]⟩, .int .i64 0, .string ⟨#[]⟩, .slice none 0 0]) rfl hr_ hm_ (show w.heap.size + 1 + 1 ≠ w.heap.size + 1 + 1 + 1 by omega) rfl rfl (by decide) (by decide)
   refine bodyPost_ret (results_list (rs := [.cell 6 25, .cell 7 29, .tmp 8]) rfl (by simp) (.cell _ 25 _ (0, 0) _ rfl h2.b1 Tryz.underlying25 rfl (by kernel_rfl) (.cell _ 29 _ (0, 0) _ rfl h2.b2 Tryz.underlying29 rfl (by kernel_rfl) (.tmp .nil)))) rfl ?_
   exact ⟨.slice none 0 0, rfl, ownT_noN _ _, h2.bel HW.out (by omega) (by omega)⟩
  | true =>
   rw [hk5] at n0
   obtain ⟨hz1, hz2, hz3⟩ : hearB n m = z ∧ hearN n m = xn ∧ hearM n id m = xm := by
    have h := hearR_yes (n := n) (id := id) (m := m) (by unfold okH; rw [hk1, hk2, hk3, hk5, decide_eq_true hk4]; rfl)
    have h2 := HZ.out
    exact ⟨h.1.symm.trans h2.1, h.2.1.symm.trans h2.2.1, h.2.2.symm.trans h2.2.2⟩
   obtain ⟨q, -, hq, -⟩ := nodePF_yes hk1
   have HQ := Lib.hid hq
   have HZ1 := Lib.hid (And.intro hz1 (And.intro hz2 hz3))
   have HI := Lib.hid (inR12 hk2)
   have HMN := Lib.hid (msgOk_mn hk3)
   clear HZ hz1 hz2 hz3 hq hk1 hk2 hk3
   go_wp2
   clear p1 py n0 ny hk4 hk5
   have hd : Bel w2 w2.drew := (Below.refl _ _).drew
   have HN := Lib.hid (HN1.out.bel hd)
   have HP := Lib.hid (HP1.out.bel hd)
   have HR := Lib.hid (HRS.out.bel hd)
   have HMM := Lib.hid (HM.out.bel hd)
   have HWW := Lib.hid (HW.out.tr hd)
   clear hd HN1 HP1 HRS HM HW
   have hne1 : w.heap.size + 1 + 1 ≠ w.heap.size := by omega
   have hne2 : w.heap.size + 1 + 1 ≠ w.heap.size + 1 := by omega
   have hask := Lib.hid (fun (W : World) {C : Option Addr} {d : Nat} (h : OwnT W w.heap.size (.slice C n.ops.length d) n.ops) (hs : w.heap.size ≤ W.heap.size) (hD : kOp.C W B m.ops.length m.ops) => (by
    have h2 := l21Hear_f (up := n.up) (leads := n.leads) (alone := n.alone) (term := n.term) (id := id) (kind := m.kind) (whom := m.whom) (mt := m.term) (mn := m.n) (op := m.op) (bc := bc) h hs HO.out HSO.out hD HOM.out.len HI.out HQ.out HMN.out
    have e1 : (⟨n.up, n.term, n.leads, n.alone, n.ops⟩ : Node) = n := rfl
    have e2 : (⟨m.kind, m.whom, m.term, m.n, m.op, m.ops⟩ : Msg) = m := rfl
    rw [e1, e2, HZ1.out.1, HZ1.out.2.1, HZ1.out.2.2] at h2
    exact h2 : Calls Tryz.prog 91 #[.agg #[.bool n.up, .int .i64 n.term, .bool n.leads, .bool n.alone, .slice C n.ops.length d], .int .i64 id, .agg #[.int .i64 m.kind, .int .i64 m.whom, .int .i64 m.term, .int .i64 m.n, .int .i64 m.op.kind, .string m.op.name, .string m.op.dest, .int .i64 m.op.n, .string m.op.text, .slice B m.ops.length bc]] W (HeardN w.heap.size W xn xm (.slice C n.ops.length d) z)))
   refine start_ (n := 11) (S := fun w' => w'.cell? ⟨w.heap.size, 0, none⟩ = some (.bool n.up) ∧ w'.cell? ⟨w.heap.size, 1, none⟩ = some (.int .i64 n.term) ∧ w'.cell? ⟨w.heap.size, 2, none⟩ = some (.bool n.leads) ∧ w'.cell? ⟨w.heap.size, 3, none⟩ = some (.bool n.alone) ∧ w'.cell? ⟨w.heap.size, 4, none⟩ = some (.slice A n.ops.length c) ∧ w'.cell? ⟨w.heap.size + 1, 0, none⟩ = some (.int .i64 m.kind) ∧ w'.cell? ⟨w.heap.size + 1, 1, none⟩ = some (.int .i64 m.whom) ∧ w'.cell? ⟨w.heap.size + 1, 2, none⟩ = some (.int .i64 m.term) ∧ w'.cell? ⟨w.heap.size + 1, 3, none⟩ = some (.int .i64 m.n) ∧ w'.cell? ⟨w.heap.size + 1, 4, none⟩ = some (.int .i64 m.op.kind) ∧ w'.cell? ⟨w.heap.size + 1, 5, none⟩ = some (.string m.op.name) ∧ w'.cell? ⟨w.heap.size + 1, 6, none⟩ = some (.string m.op.dest) ∧ w'.cell? ⟨w.heap.size + 1, 7, none⟩ = some (.int .i64 m.op.n) ∧ w'.cell? ⟨w.heap.size + 1, 8, none⟩ = some (.string m.op.text) ∧ w'.cell? ⟨w.heap.size + 1, 9, none⟩ = some (.slice B m.ops.length bc)) (ds := [9]) #[bF, bF, bF, bF, bF, bF, bF, bF, bF, bF, bF] (by kernel_rfl) rfl rfl ⟨(blkn HN.out 0 _ rfl), (blkn HN.out 1 _ rfl), (blkn HN.out 2 _ rfl), (blkn HN.out 3 _ rfl), (blkn HN.out 4 _ rfl), (blkn HP.out 0 _ rfl), (blkn HP.out 1 _ rfl), (blkn HP.out 2 _ rfl), (blkn HP.out 3 _ rfl), (blkn HP.out 4 _ rfl), (blkn HP.out 5 _ rfl), (blkn HP.out 6 _ rfl), (blkn HP.out 7 _ rfl), (blkn HP.out 8 _ rfl), (blkn HP.out 9 _ rfl)⟩ (fun hHeld => ?_)
   refine ppx (i := 2) (N := some 37) #[bF, bF, bT, bF, bF, bF, bF, bF, bF, bF, bF] (h := ?_)
   refine tpx (i := 0) (N := some 35) #[bT, bF, bT, bF, bF, bF, bF, bF, bF, bF, bF] (hy := (Or.inl ⟨by rfl, by rintro w' ⟨s0, s1, s2, s3, s4, s5, s6, s7, s8, s9, s10, s11, s12, s13, s14⟩; go_simp; with_reducible rfl⟩)) (hS := hHeld) (h := ?_)
   refine tpx (i := 3) (N := some 38) #[bT, bF, bT, bT, bF, bF, bF, bF, bF, bF, bF] (hy := (Or.inl ⟨by rfl, by rintro w' ⟨s0, s1, s2, s3, s4, s5, s6, s7, s8, s9, s10, s11, s12, s13, s14⟩; go_simp; with_reducible rfl⟩)) (hS := hHeld) (h := ?_)
   refine one_ (i := 1) (N := some 36) #[bT, bT, bT, bT, bF, bF, bF, bF, bF, bF, bF] rfl rfl (by kernel_rfl) (by decide) (fun K hK => ?_)
   refine goes_ Tryz.func92 (by kernel_rfl) rfl #[.agg #[.bool n.up, .int .i64 n.term, .bool n.leads, .bool n.alone, .slice A n.ops.length c]] (by rfl) rfl rfl (by simp only [List.map_toArray, List.map_cons, List.map_nil]; rfl) ?_
   with_reducible refine ((l21Copy_c (n := n) (kOp_keep HC.out HWW.out) HO.out.len)).mono ?_
   rintro e w3 ⟨v, rfl, hoo, hb3⟩
   obtain ⟨C, d, rfl, hd, hCd⟩ := hoo.reads
   have HV3 : Hid (OwnT w3 w.heap.size (.slice C n.ops.length d) n.ops) := Lib.hid (OwnO.tail (show OwnO w3 w.heap.size _ _ from own_lower hoo HWW.out.size))
   have HN2 := Lib.hid (HN.out.bel hb3)
   have HP2 := Lib.hid (HP.out.bel hb3)
   have HR2 := Lib.hid (HR.out.bel hb3)
   have HM2 := Lib.hid (HMM.out.bel hb3)
   have HW2 := Lib.hid (HWW.out.tr hb3)
   have LT2 := Lib.hid (show w.heap.size + 1 + 1 + 1 < w2.heap.size from HMM.out.lt)
   have NB2 := Lib.hid (show ∀ k, (Value.slice C n.ops.length d).ownBlock = some k → w2.heap.size ≤ k from fun k hk => (own_base hoo k hk))
   clear hoo hb3 hd hCd
   refine ⟨_, rfl, ?_⟩
   refine hK.out _ _ ⟨(blkn HN2.out 0 _ rfl), (blkn HN2.out 1 _ rfl), (blkn HN2.out 2 _ rfl), (blkn HN2.out 3 _ rfl), (blkn HN2.out 4 _ rfl), (blkn HP2.out 0 _ rfl), (blkn HP2.out 1 _ rfl), (blkn HP2.out 2 _ rfl), (blkn HP2.out 3 _ rfl), (blkn HP2.out 4 _ rfl), (blkn HP2.out 5 _ rfl), (blkn HP2.out 6 _ rfl), (blkn HP2.out 7 _ rfl), (blkn HP2.out 8 _ rfl), (blkn HP2.out 9 _ rfl)⟩ (fun hHeld => ?_)
   clear hK K
   refine nox 36 (h := ?_)
   refine one_ (i := 4) (N := some 39) #[bT, bT, bT, bT, bT, bF, bF, bF, bF, bF, bF] rfl rfl (by kernel_rfl) (by decide) (fun K hK => ?_)
   refine goes_ Tryz.func91 (by kernel_rfl) rfl #[.agg #[.bool n.up, .int .i64 n.term, .bool n.leads, .bool n.alone, .slice C n.ops.length d], .int .i64 id, .agg #[.int .i64 m.kind, .int .i64 m.whom, .int .i64 m.term, .int .i64 m.n, .int .i64 m.op.kind, .string m.op.name, .string m.op.dest, .int .i64 m.op.n, .string m.op.text, .slice B m.ops.length bc]] (by rfl) rfl rfl (by simp only [List.map_toArray, List.map_cons, List.map_nil]; rfl) ?_
   with_reducible refine ((hask.out _ HV3.out HW2.out.size (kOp_keep HDM.out HW2.out))).mono ?_
   rintro e w4 ⟨v, rfl, hv, hg, hat⟩
   have HN3 := Lib.hid (HN2.out.grown hg (fun e => by have := NB2.out _ e.symm; have := LT2.out; omega))
   have HP3 := Lib.hid (HP2.out.grown hg (fun e => by have := NB2.out _ e.symm; have := LT2.out; omega))
   have HR3 := Lib.hid (HR2.out.grown hg (fun e => by have := NB2.out _ e.symm; have := LT2.out; omega))
   have HM3 := Lib.hid (HM2.out.grown hg (fun e => by have := NB2.out _ e.symm; have := LT2.out; omega))
   have HW3 := Lib.hid (HW2.out.grown hg HW2.out.size (fun k e => by have := NB2.out _ e; have := LT2.out; omega))
   have HV4 := Lib.hid hv
   obtain ⟨E, f, rfl, hd, hCd⟩ := hv.reads
   clear hat hg hv hd hCd
   have hr_ := HR3.out
   have hm_ := HM3.out
   have r0 := blkn hr_ 0 _ rfl
   have r1 := blkn hr_ 1 _ rfl
   have r2 := blkn hr_ 2 _ rfl
   have r3 := blkn hr_ 3 _ rfl
   have r4 := blkn hr_ 4 _ rfl
   have m0 := blkn hm_ 0 _ rfl
   have m1 := blkn hm_ 1 _ rfl
   have m2 := blkn hm_ 2 _ rfl
   have m3 := blkn hm_ 3 _ rfl
   have m4 := blkn hm_ 4 _ rfl
   have m5 := blkn hm_ 5 _ rfl
   have m6 := blkn hm_ 6 _ rfl
   have m7 := blkn hm_ 7 _ rfl
   have m8 := blkn hm_ 8 _ rfl
   have m9 := blkn hm_ 9 _ rfl
   have rf0 := hr_.free 0
   have rf1 := hr_.free 1
   have rf2 := hr_.free 2
   have rf3 := hr_.free 3
   have rf4 := hr_.free 4
   have mf0 := hm_.free 0
   have mf1 := hm_.free 1
   have mf2 := hm_.free 2
   have mf3 := hm_.free 3
   have mf4 := hm_.free 4
   have mf5 := hm_.free 5
   have mf6 := hm_.free 6
   have mf7 := hm_.free 7
   have mf8 := hm_.free 8
   have mf9 := hm_.free 9
   have ry := hr_.lt
   have my := hm_.lt
   refine ⟨_, rfl, ?_⟩
   refine hK.out _ _ ⟨(blkn HN3.out 0 _ rfl), (blkn HN3.out 1 _ rfl), (blkn HN3.out 2 _ rfl), (blkn HN3.out 3 _ rfl), (blkn HN3.out 4 _ rfl), (blkn HP3.out 0 _ rfl), (blkn HP3.out 1 _ rfl), (blkn HP3.out 2 _ rfl), (blkn HP3.out 3 _ rfl), (blkn HP3.out 4 _ rfl), (blkn HP3.out 5 _ rfl), (blkn HP3.out 6 _ rfl), (blkn HP3.out 7 _ rfl), (blkn HP3.out 8 _ rfl), (blkn HP3.out 9 _ rfl)⟩ (fun hHeld => ?_)
   clear hK K
   refine nox 39 (h := ?_)
   refine ppx (i := 5) (N := some 40) #[bT, bT, bT, bT, bT, bT, bF, bF, bF, bF, bF] (h := ?_)
   refine ppx (i := 6) (N := some 41) #[bT, bT, bT, bT, bT, bT, bT, bF, bF, bF, bF] (h := ?_)
   refine ppx (i := 7) (N := some 42) #[bT, bT, bT, bT, bT, bT, bT, bT, bF, bF, bF] (h := ?_)
   refine one_ (i := 8) (N := none) #[bT, bT, bT, bT, bT, bT, bT, bT, bT, bF, bF] rfl rfl (by kernel_rfl) (by decide) (fun K hK => ?_)
   refine skip_ (by rfl) rfl (by go_simp; rfl) ?_
   refine hK.out _ _ ⟨(blkn (HN3.out.apart5 hne1 (.bool xn.up) (.int .i64 xn.term) (.bool xn.leads) (.bool xn.alone) (.slice E xn.ops.length f)) 0 _ rfl), (blkn (HN3.out.apart5 hne1 (.bool xn.up) (.int .i64 xn.term) (.bool xn.leads) (.bool xn.alone) (.slice E xn.ops.length f)) 1 _ rfl), (blkn (HN3.out.apart5 hne1 (.bool xn.up) (.int .i64 xn.term) (.bool xn.leads) (.bool xn.alone) (.slice E xn.ops.length f)) 2 _ rfl), (blkn (HN3.out.apart5 hne1 (.bool xn.up) (.int .i64 xn.term) (.bool xn.leads) (.bool xn.alone) (.slice E xn.ops.length f)) 3 _ rfl), (blkn (HN3.out.apart5 hne1 (.bool xn.up) (.int .i64 xn.term) (.bool xn.leads) (.bool xn.alone) (.slice E xn.ops.length f)) 4 _ rfl), (blkn (HP3.out.apart5 hne2 (.bool xn.up) (.int .i64 xn.term) (.bool xn.leads) (.bool xn.alone) (.slice E xn.ops.length f)) 0 _ rfl), (blkn (HP3.out.apart5 hne2 (.bool xn.up) (.int .i64 xn.term) (.bool xn.leads) (.bool xn.alone) (.slice E xn.ops.length f)) 1 _ rfl), (blkn (HP3.out.apart5 hne2 (.bool xn.up) (.int .i64 xn.term) (.bool xn.leads) (.bool xn.alone) (.slice E xn.ops.length f)) 2 _ rfl), (blkn (HP3.out.apart5 hne2 (.bool xn.up) (.int .i64 xn.term) (.bool xn.leads) (.bool xn.alone) (.slice E xn.ops.length f)) 3 _ rfl), (blkn (HP3.out.apart5 hne2 (.bool xn.up) (.int .i64 xn.term) (.bool xn.leads) (.bool xn.alone) (.slice E xn.ops.length f)) 4 _ rfl), (blkn (HP3.out.apart5 hne2 (.bool xn.up) (.int .i64 xn.term) (.bool xn.leads) (.bool xn.alone) (.slice E xn.ops.length f)) 5 _ rfl), (blkn (HP3.out.apart5 hne2 (.bool xn.up) (.int .i64 xn.term) (.bool xn.leads) (.bool xn.alone) (.slice E xn.ops.length f)) 6 _ rfl), (blkn (HP3.out.apart5 hne2 (.bool xn.up) (.int .i64 xn.term) (.bool xn.leads) (.bool xn.alone) (.slice E xn.ops.length f)) 7 _ rfl), (blkn (HP3.out.apart5 hne2 (.bool xn.up) (.int .i64 xn.term) (.bool xn.leads) (.bool xn.alone) (.slice E xn.ops.length f)) 8 _ rfl), (blkn (HP3.out.apart5 hne2 (.bool xn.up) (.int .i64 xn.term) (.bool xn.leads) (.bool xn.alone) (.slice E xn.ops.length f)) 9 _ rfl)⟩ (fun hHeld => ?_)
   clear hK K
   refine last_ (i := 9) (N := none) #[bT, bT, bT, bT, bT, bT, bT, bT, bT, bT, bF] rfl rfl (by kernel_rfl) (by decide) (fun K hK => ?_)
   refine skip_ (by rfl) rfl (by go_simp; rfl) ?_
   refine hK.out _ _ ?_
   clear hK K
   refine ppx (i := 10) (N := some 8) #[bT, bT, bT, bT, bT, bT, bT, bT, bT, bT, bT] (h := ?_)
   refine done_ (by kernel_rfl) ?_
   go_wp2
   have h2 := two_new (v1 := [.bool xn.up, .int .i64 xn.term, .bool xn.leads, .bool xn.alone, .slice E xn.ops.length f]) (v2 := [.int .i64 xm.kind, .int .i64 xm.whom, .int .i64 xm.term, .int .i64 xm.n, .int .i64 xm.op.kind, .string xm.op.name, .string xm.op.dest, .int .i64 xm.op.n, .string xm.op.text, .slice none 0 0]) rfl hr_ hm_ (show w.heap.size + 1 + 1 ≠ w.heap.size + 1 + 1 + 1 by omega) rfl rfl (by decide) (by decide)
   refine bodyPost_ret (results_list (rs := [.cell 6 25, .cell 7 29, .tmp 8]) rfl (by simp) (.cell _ 25 _ (0, 0) _ rfl h2.b1 Tryz.underlying25 rfl (by kernel_rfl) (.cell _ 29 _ (0, 0) _ rfl h2.b2 Tryz.underlying29 rfl (by kernel_rfl) (.tmp .nil)))) rfl ?_
   exact ⟨_, rfl, h2.ownT HV4.out, h2.bel HW3.out (by omega) (by omega)⟩
 ·obtain ⟨rfl, rfl, rfl⟩ : false = z ∧ noN = xn ∧ noM = xm := by
   have h := hearR_no (n := n) (id := id) (m := m) (by unfold okH; rw [hk1, hk2, hk3, decide_eq_false hk4]; rfl)
   have h2 := HZ.out
   exact ⟨h.1.symm.trans h2.1, h.2.1.symm.trans h2.2.1, h.2.2.symm.trans h2.2.2⟩
  have hr_ := HRS.out
  have hm_ := HM.out
  have r0 := blkn hr_ 0 _ rfl
  have r1 := blkn hr_ 1 _ rfl
  have r2 := blkn hr_ 2 _ rfl
  have r3 := blkn hr_ 3 _ rfl
  have r4 := blkn hr_ 4 _ rfl
  have m0 := blkn hm_ 0 _ rfl
  have m1 := blkn hm_ 1 _ rfl
  have m2 := blkn hm_ 2 _ rfl
  have m3 := blkn hm_ 3 _ rfl
  have m4 := blkn hm_ 4 _ rfl
  have m5 := blkn hm_ 5 _ rfl
  have m6 := blkn hm_ 6 _ rfl
  have m7 := blkn hm_ 7 _ rfl
  have m8 := blkn hm_ 8 _ rfl
  have m9 := blkn hm_ 9 _ rfl
  have rf0 := hr_.free 0
  have rf1 := hr_.free 1
  have rf2 := hr_.free 2
  have rf3 := hr_.free 3
  have rf4 := hr_.free 4
  have mf0 := hm_.free 0
  have mf1 := hm_.free 1
  have mf2 := hm_.free 2
  have mf3 := hm_.free 3
  have mf4 := hm_.free 4
  have mf5 := hm_.free 5
  have mf6 := hm_.free 6
  have mf7 := hm_.free 7
  have mf8 := hm_.free 8
  have mf9 := hm_.free 9
  have ry := hr_.lt
  have my := hm_.lt
  go_wp2
  have h2 := two_new (v1 := [.bool false, .int .i64 0, .bool false, .bool false, .slice none 0 0]) (v2 := [.int .i64 0, .int .i64 0, .int .i64 0, .int .i64 0, .int .i64 0, .string ⟨#[]⟩, .string ⟨#[]⟩, .int .i64 0, .string ⟨#[]⟩, .slice none 0 0]) rfl hr_ hm_ (show w.heap.size + 1 + 1 ≠ w.heap.size + 1 + 1 + 1 by omega) rfl rfl (by decide) (by decide)
  refine bodyPost_ret (results_list (rs := [.cell 6 25, .cell 7 29, .tmp 8]) rfl (by simp) (.cell _ 25 _ (0, 0) _ rfl h2.b1 Tryz.underlying25 rfl (by kernel_rfl) (.cell _ 29 _ (0, 0) _ rfl h2.b2 Tryz.underlying29 rfl (by kernel_rfl) (.tmp .nil)))) rfl ?_
  exact ⟨.slice none 0 0, rfl, ownT_noN _ _, h2.bel HW.out (by omega) (by omega)⟩
end
end Go.Proofs.YtccllgpaafgjaaaGreat

namespace Go.Proofs.YtccllgpaafgjaaaGreat
open Go.RowKit Go.Proofs.YtccllgpaafgjaaaGreatW.PrintWords Go.Proofs.YtccllgpaafgjaaaGreatW.PrintLast
structure Chg (w w' : World) (b : Nat) (r : Option Nat) : Prop where
  os : w'.os = w.os
  tape : w'.tape = w.tape
  output : w'.output = w.output
  size : w.heap.size ≤ w'.heap.size
  block : ∀ k, k < w.heap.size → k ≠ b → some k ≠ r → w'.heap[k]? = w.heap[k]?
theorem Chg.of_bel {w w' : World} {b : Nat} {r : Option Nat} (h : Bel w w') : Chg w w' b r := ⟨h.os, h.tape, h.output, h.size, fun k hk _ _ => h.block k hk⟩
theorem Chg.of_grown {w w' : World} {b : Nat} {r : Option Nat} (h : w.grownBy w' r) : Chg w w' b r := ⟨h.os, h.tape, h.output, h.size, fun k hk _ hr => h.block k hk hr⟩
theorem Chg.set {w w' : World} {b : Nat} {r : Option Nat} (h : Chg w w' b r) (i : Nat) (u : Value) : Chg w (w'.setCell ⟨b, i, none⟩ u) b r :=
 ⟨h.os, h.tape, h.output, by simp [h.size], fun k hk hb hr => by
  have e : b ≠ k := fun e => hb e.symm
  have := h.block k hk hb hr
  simpa [World.setCell, Array.getElem?_modify, e] using this⟩
theorem Blk.chg {w w' : World} {d b : Nat} {cs : Array Value} {t : TypeId} {r : Option Nat} (h : Blk w d cs t) (hc : Chg w w' b r) (h1 : d ≠ b) (h2 : some d ≠ r) : Blk w' d cs t := (hc.block d h.lt h1 h2).trans h
theorem bel_chg {w0 w w' : World} {b : Nat} {r : Option Nat} (h : Bel w0 w) (hc : Chg w w' b r) (h1 : w0.heap.size ≤ b) (h2 : ∀ k, r = some k → w0.heap.size ≤ k) : Bel w0 w' :=
 ⟨hc.os.trans h.os, hc.tape.trans h.tape, hc.output.trans h.output, Nat.le_trans h.size hc.size, fun k hk => (hc.block k (Nat.lt_of_lt_of_le hk h.size) (by omega) (fun e => by have := h2 k e.symm; omega)).trans (h.block k hk)⟩
def HeardP (base b : Nat) (w : World) (n : Node) (v0 : Value) (ok : Bool) (e : Ending) (w' : World) : Prop :=
 e = .returned (.bool ok) ∧ ∃ v, Blk w' b #[.bool n.up, .int .i64 n.term, .bool n.leads, .bool n.alone, v] 25 ∧ OwnO w' base v n.ops ∧ Chg w w' b v0.ownBlock ∧ ∀ k, v.ownBlock = some k → v0.ownBlock = some k ∨ w.heap.size ≤ k
theorem own_append_step {ops : Array Oper} {o : Oper} {a : Act} {Q : Exit → Act → World → Prop} {Kc : Act → World → Prop} {W : World} {base : Nat} {v : Value} {os : List Op} (hw : Region.wanted o (yielded ops a.tmps) = true) (s x : Operand)
  (ho : o.op = .call { callee := .builtin .append, args := #[s, x], argTypes := #[23, 23] }) (hs : a.eval s = v) (y : Op) (ad : Addr) (c : Nat) (hx : a.eval x = .slice (some ad) 1 c)
  (hc : ∀ j u, (encO y)[j]? = some u → W.cell? (ad.add j) = some u) (h : OwnO W base v os) (hl : os.length ≤ 1048576) (hbase : base ≤ W.heap.size)
  (K : ∀ v1 w1, OwnO w1 base v1 (os ++ [y]) → W.grownBy w1 v.ownBlock → (v1.ownBlock = v.ownBlock ∨ ∃ b, v1.ownBlock = some b ∧ W.heap.size ≤ b) → Kc (a.put o.dst v1) w1) :
  if Region.wanted o (yielded ops a.tmps) = true then Oper.wp Tryz.prog o a W Kc Q else Kc (a.put o.dst undef) W := by
 obtain ⟨v1, w1, hr1, h1, hg, hat⟩ := run_append_ownO h o.type y ad c hc hl hbase
 rw [if_pos hw]
 unfold Oper.wp execOp
 simp only [ho, resolve, invoke, builtin, Sem.run_bind, Sem.run_pure, Result.andThen_ok, List.map_toArray, List.map_cons, List.map_nil, hs, hx, hr1]
 exact K v1 w1 h1 hg hat
theorem hat_of {v v0 : Value} {w W : World} (hs : w.heap.size ≤ W.heap.size) (hat : v.ownBlock = v0.ownBlock ∨ ∃ b, v.ownBlock = some b ∧ W.heap.size ≤ b) : ∀ k, v.ownBlock = some k → v0.ownBlock = some k ∨ w.heap.size ≤ k := fun k hk => by
 rcases hat with h | ⟨b, h1, h2⟩
 ·exact .inl (h.symm.trans hk)
 ·exact .inr (by rw [h1] at hk; cases hk; exact Nat.le_trans hs h2)
theorem cop_no {n : Node} {mt mn : Int} {op : Op} (h : mt ≠ n.term ∨ n.leads = true) : copB n mt mn op = false ∧ copN n mt mn op = n := by
 unfold copB copN; rw [if_pos h, if_pos h]; exact ⟨rfl, rfl⟩
theorem cop_le {up alone : Bool} {mt mn : Int} {ops : List Op} {op : Op} (h : mn ≤ (ops.length : Int)) : copB ⟨up, mt, false, alone, ops⟩ mt mn op = opEqB (ops.getD (mn - 1).toNat noO) op ∧ copN ⟨up, mt, false, alone, ops⟩ mt mn op = ⟨up, mt, false, alone, ops⟩ := by
 constructor <;> simp [copB, copN, h]
theorem cop_gt {up alone : Bool} {mt mn : Int} {ops : List Op} {op : Op} (h : (ops.length : Int) + 1 < mn) : copB ⟨up, mt, false, alone, ops⟩ mt mn op = false ∧ copN ⟨up, mt, false, alone, ops⟩ mt mn op = ⟨up, mt, false, alone, ops⟩ := by
 have h2 : ¬ mn ≤ (ops.length : Int) := by omega
 constructor <;> simp [copB, copN, h, h2]
theorem cop_add {up alone : Bool} {mt mn : Int} {ops : List Op} {op : Op} (h1 : ¬ mn ≤ (ops.length : Int)) (h2 : ¬ (ops.length : Int) + 1 < mn) : copB ⟨up, mt, false, alone, ops⟩ mt mn op = addNB ⟨up, mt, false, alone, ops⟩ op ∧ copN ⟨up, mt, false, alone, ops⟩ mt mn op = addN ⟨up, mt, false, alone, ops⟩ op := by
 constructor <;> simp [copB, copN, h1, h2]
theorem OwnO.reads2 {w : World} {base : Nat} {A : Option Addr} {c : Nat} {os : List Op} (h : OwnO w base (.slice A os.length c) os) : kOp.C w A os.length os := (OwnO.tail h).reads2
section
variable {w : World} {A B : Option Addr} {c base b bn bc : Nat} {up leads alone : Bool} {kind whom mt mn term : Int} {ops : List Op} {op : Op}
set_option maxHeartbeats 64000000 in
set_option maxRecDepth 10000 in
theorem hearCopy_f {q : Pool} (hN : Blk w b #[.bool up, .int .i64 term, .bool leads, .bool alone, .slice A ops.length c] 25) (h : OwnO w base (.slice A ops.length c) ops) (hbase : base ≤ w.heap.size) (ho : SmallOs ops) (hso : SmallO op) (hr : runP newP ops = some q) (hmn : 1 ≤ mn ∧ mn ≤ 20) :
  Calls Tryz.prog 96 #[.pointer (some ⟨b, 0, none⟩), .agg #[.int .i64 kind, .int .i64 whom, .int .i64 mt, .int .i64 mn, .int .i64 op.kind, .string op.name, .string op.dest, .int .i64 op.n, .string op.text, .slice B bn bc]] w (HeardP base b w (copN ⟨up, term, leads, alone, ops⟩ mt mn op) (.slice A ops.length c) (copB ⟨up, term, leads, alone, ops⟩ mt mn op)) := by
 have HO := Lib.hid ho
 have HSO := Lib.hid hso
 have HRX := Lib.hid hr
 have HBS := Lib.hid hbase
 have hl9 := ho.len
 have hb1 := hmn.1
 have hb2 := hmn.2
 have hbl := hN.lt
 obtain ⟨z, hz⟩ : ∃ z, copB ⟨up, term, leads, alone, ops⟩ mt mn op = z := ⟨_, rfl⟩
 obtain ⟨xn, hxn⟩ : ∃ x, copN ⟨up, term, leads, alone, ops⟩ mt mn op = x := ⟨_, rfl⟩
 rw [hz, hxn]
 have HZ := Lib.hid (And.intro hz hxn)
 have HN0 := Lib.hid hN
 have HV0 := Lib.hid h
 clear hN h hbase ho hso hr hmn hz hxn
 go_enter Tryz.func96, Tryz.ntmps96
 go_wp2
 have hbx : Bel w (w.alloc (.cells #[.int .i64 kind, .int .i64 whom, .int .i64 mt, .int .i64 mn, .int .i64 op.kind, .string op.name, .string op.dest, .int .i64 op.n, .string op.text, .slice B bn bc] 29)) := bel_alloc (Below.refl _ _) _
 have HP : Hid (Blk (w.alloc (.cells #[.int .i64 kind, .int .i64 whom, .int .i64 mt, .int .i64 mn, .int .i64 op.kind, .string op.name, .string op.dest, .int .i64 op.n, .string op.text, .slice B bn bc] 29)) w.heap.size #[.int .i64 kind, .int .i64 whom, .int .i64 mt, .int .i64 mn, .int .i64 op.kind, .string op.name, .string op.dest, .int .i64 op.n, .string op.text, .slice B bn bc] 29) := Lib.hid (Blk.new _ _ _)
 have HN := Lib.hid (HN0.out.bel hbx)
 have HV := Lib.hid (HV0.out.bel hbx)
 have HW := Lib.hid hbx
 generalize (w.alloc (.cells #[.int .i64 kind, .int .i64 whom, .int .i64 mt, .int .i64 mn, .int .i64 op.kind, .string op.name, .string op.dest, .int .i64 op.n, .string op.text, .slice B bn bc] 29)) = W0 at hbx HP HN HV HW ⊢
 clear hbx
 by_cases c1 : mt = term
 ·subst c1
  cases leads with
  | true =>
   refine start_ (n := 13) (S := fun w' => w'.cell? ⟨b, 1, none⟩ = some (.int .i64 mt) ∧ w'.cell? ⟨b, 2, none⟩ = some (.bool true) ∧ w'.cell? ⟨w.heap.size, 2, none⟩ = some (.int .i64 mt)) (ds := []) #[bF, bF, bF, bF, bF, bF, bF, bF, bF, bF, bF, bF, bF] (by kernel_rfl) rfl rfl ⟨(blkn (HN.out.bel (Below.refl _ _).drew) 1 _ rfl), (blkn (HN.out.bel (Below.refl _ _).drew) 2 _ rfl), (blkn (HP.out.bel (Below.refl _ _).drew) 2 _ rfl)⟩ (fun hHeld => ?_)
   refine ppx (i := 0) (N := some 5) #[bT, bF, bF, bF, bF, bF, bF, bF, bF, bF, bF, bF, bF] (h := ?_)
   refine ppx (i := 2) (N := some 7) #[bT, bF, bT, bF, bF, bF, bF, bF, bF, bF, bF, bF, bF] (h := ?_)
   refine ppx (i := 3) (N := some 8) #[bT, bF, bT, bT, bF, bF, bF, bF, bF, bF, bF, bF, bF] (h := ?_)
   refine ppx (i := 4) (N := some 9) #[bT, bF, bT, bT, bT, bF, bF, bF, bF, bF, bF, bF, bF] (h := ?_)
   refine tpx (i := 1) (N := some 6) #[bT, bT, bT, bT, bT, bF, bF, bF, bF, bF, bF, bF, bF] (hy := (Or.inl ⟨by rfl, by rintro w' ⟨s0, s1, s2⟩; go_simp; with_reducible rfl⟩)) (hS := hHeld) (h := ?_)
   refine tpx (i := 5) (N := some 10) #[bT, bT, bT, bT, bT, bT, bF, bF, bF, bF, bF, bF, bF] (hy := (Or.inl ⟨by rfl, by rintro w' ⟨s0, s1, s2⟩; go_simp; with_reducible rfl⟩)) (hS := hHeld) (h := ?_)
   refine ppx (i := 6) (N := some 11) #[bT, bT, bT, bT, bT, bT, bT, bF, bF, bF, bF, bF, bF] (h := ?_)
   refine ppx (i := 7) (N := some 12) #[bT, bT, bT, bT, bT, bT, bT, bT, bF, bF, bF, bF, bF] (h := ?_)
   refine ppx (i := 8) (N := some 13) #[bT, bT, bT, bT, bT, bT, bT, bT, bT, bF, bF, bF, bF] (h := ?_)
   refine ppx (i := 9) (N := some 14) #[bT, bT, bT, bT, bT, bT, bT, bT, bT, bT, bF, bF, bF] (h := ?_)
   refine ppx (i := 10) (N := some 15) #[bT, bT, bT, bT, bT, bT, bT, bT, bT, bT, bT, bF, bF] (h := ?_)
   refine tpx (i := 11) (N := some 16) #[bT, bT, bT, bT, bT, bT, bT, bT, bT, bT, bT, bT, bF] (hy := (Or.inl ⟨by rfl, by rintro w' ⟨s0, s1, s2⟩; go_simp; with_reducible rfl⟩)) (hS := hHeld) (h := ?_)
   refine ppx (i := 12) (N := some 17) #[bT, bT, bT, bT, bT, bT, bT, bT, bT, bT, bT, bT, bT] (h := ?_)
   refine done_ (by kernel_rfl) ?_
   have hb : Bel W0 (W0.drew) := (Below.refl _ _).drew
   replace HN := Lib.hid (HN.out.bel hb)
   replace HP := Lib.hid (HP.out.bel hb)
   replace HV := Lib.hid (HV.out.bel hb)
   replace HW := Lib.hid (HW.out.tr hb)
   generalize W0.drew = W1 at hb HN HP HV HW ⊢
   clear hb
   obtain ⟨rfl, rfl⟩ : false = z ∧ _ = xn := ⟨(cop_no (.inr rfl)).1.symm.trans HZ.out.1, (cop_no (.inr rfl)).2.symm.trans HZ.out.2⟩
   go_wp2
   go_ret
   exact ⟨rfl, _, HN.out, HV.out, Chg.of_bel HW.out, fun k hk => .inl hk⟩
  | false =>
   refine start_ (n := 13) (S := fun w' => w'.cell? ⟨b, 1, none⟩ = some (.int .i64 mt) ∧ w'.cell? ⟨b, 2, none⟩ = some (.bool false) ∧ w'.cell? ⟨w.heap.size, 2, none⟩ = some (.int .i64 mt)) (ds := []) #[bF, bF, bF, bF, bF, bF, bF, bF, bF, bF, bF, bF, bF] (by kernel_rfl) rfl rfl ⟨(blkn (HN.out.bel (Below.refl _ _).drew) 1 _ rfl), (blkn (HN.out.bel (Below.refl _ _).drew) 2 _ rfl), (blkn (HP.out.bel (Below.refl _ _).drew) 2 _ rfl)⟩ (fun hHeld => ?_)
   refine ppx (i := 0) (N := some 5) #[bT, bF, bF, bF, bF, bF, bF, bF, bF, bF, bF, bF, bF] (h := ?_)
   refine ppx (i := 2) (N := some 7) #[bT, bF, bT, bF, bF, bF, bF, bF, bF, bF, bF, bF, bF] (h := ?_)
   refine ppx (i := 3) (N := some 8) #[bT, bF, bT, bT, bF, bF, bF, bF, bF, bF, bF, bF, bF] (h := ?_)
   refine ppx (i := 4) (N := some 9) #[bT, bF, bT, bT, bT, bF, bF, bF, bF, bF, bF, bF, bF] (h := ?_)
   refine tpx (i := 1) (N := some 6) #[bT, bT, bT, bT, bT, bF, bF, bF, bF, bF, bF, bF, bF] (hy := (Or.inl ⟨by rfl, by rintro w' ⟨s0, s1, s2⟩; go_simp; with_reducible rfl⟩)) (hS := hHeld) (h := ?_)
   refine tpx (i := 5) (N := some 10) #[bT, bT, bT, bT, bT, bT, bF, bF, bF, bF, bF, bF, bF] (hy := (Or.inl ⟨by rfl, by rintro w' ⟨s0, s1, s2⟩; go_simp; with_reducible rfl⟩)) (hS := hHeld) (h := ?_)
   refine ppx (i := 6) (N := some 11) #[bT, bT, bT, bT, bT, bT, bT, bF, bF, bF, bF, bF, bF] (h := ?_)
   refine ppx (i := 7) (N := some 12) #[bT, bT, bT, bT, bT, bT, bT, bT, bF, bF, bF, bF, bF] (h := ?_)
   refine ppx (i := 8) (N := some 13) #[bT, bT, bT, bT, bT, bT, bT, bT, bT, bF, bF, bF, bF] (h := ?_)
   refine ppx (i := 9) (N := some 14) #[bT, bT, bT, bT, bT, bT, bT, bT, bT, bT, bF, bF, bF] (h := ?_)
   refine ppx (i := 10) (N := some 15) #[bT, bT, bT, bT, bT, bT, bT, bT, bT, bT, bT, bF, bF] (h := ?_)
   refine tpx (i := 11) (N := some 16) #[bT, bT, bT, bT, bT, bT, bT, bT, bT, bT, bT, bT, bF] (hy := (Or.inl ⟨by rfl, by rintro w' ⟨s0, s1, s2⟩; go_simp; with_reducible rfl⟩)) (hS := hHeld) (h := ?_)
   refine ppx (i := 12) (N := some 17) #[bT, bT, bT, bT, bT, bT, bT, bT, bT, bT, bT, bT, bT] (h := ?_)
   refine done_ (by kernel_rfl) ?_
   have hb : Bel W0 (W0.drew) := (Below.refl _ _).drew
   replace HN := Lib.hid (HN.out.bel hb)
   replace HP := Lib.hid (HP.out.bel hb)
   replace HV := Lib.hid (HV.out.bel hb)
   replace HW := Lib.hid (HW.out.tr hb)
   generalize W0.drew = W1 at hb HN HP HV HW ⊢
   clear hb
   go_wp2
   by_cases c2 : mn ≤ ops.length
   ·obtain ⟨hz, rfl⟩ : opEqB (ops.getD (mn - 1).toNat noO) op = z ∧ ⟨up, mt, false, alone, ops⟩ = xn := ⟨(cop_le c2).1.symm.trans HZ.out.1, (cop_le c2).2.symm.trans HZ.out.2⟩
    obtain ⟨k, rfl⟩ : ∃ k : Nat, mn = (k : Int) + 1 := ⟨(mn - 1).toNat, by omega⟩
    have hk : k < ops.length := by omega
    obtain ⟨x, hx⟩ := getQ hk
    have hxk : ops.getD ((k : Int) + 1 - 1).toNat noO = x := by rw [show ((k : Int) + 1 - 1).toNat = k by omega, List.getD_eq_getElem?_getD, hx]; rfl
    rw [hxk] at hz
    replace HZ := Lib.hid hz
    have hw1 : wrap64 (k : Int) = k := by unfold wrap64; omega
    have hk1 : (k : Int) < ops.length := by omega
    have hk0 : (0 : Int) ≤ k := by omega
    have hge : decide ((k : Int) + 1 ≤ (ops.length : Int)) = true := by simpa using c2
    clear hxk hz
    refine start_ (n := 8) (S := fun w' => w'.cell? ⟨b, 4, none⟩ = some (.slice A ops.length c) ∧ w'.cell? ⟨w.heap.size, 3, none⟩ = some (.int .i64 (k + 1))) (ds := []) #[bF, bF, bF, bF, bF, bF, bF, bF] (by kernel_rfl) rfl rfl ⟨(blkn (HN.out.bel (Below.refl _ _).drew) 4 _ rfl), (blkn (HP.out.bel (Below.refl _ _).drew) 3 _ rfl)⟩ (fun hHeld => ?_)
    refine ppx (i := 0) (N := some 18) #[bT, bF, bF, bF, bF, bF, bF, bF] (h := ?_)
    refine ppx (i := 1) (N := some 19) #[bT, bT, bF, bF, bF, bF, bF, bF] (h := ?_)
    refine ppx (i := 2) (N := some 20) #[bT, bT, bT, bF, bF, bF, bF, bF] (h := ?_)
    refine ppx (i := 5) (N := some 23) #[bT, bT, bT, bF, bF, bT, bF, bF] (h := ?_)
    refine tpx (i := 3) (N := some 21) #[bT, bT, bT, bT, bF, bT, bF, bF] (hy := (Or.inl ⟨by rfl, by rintro w' ⟨s0, s1⟩; go_simp; with_reducible rfl⟩)) (hS := hHeld) (h := ?_)
    refine ppx (i := 4) (N := some 22) #[bT, bT, bT, bT, bT, bT, bF, bF] (h := ?_)
    refine tpx (i := 6) (N := some 24) #[bT, bT, bT, bT, bT, bT, bT, bF] (hy := (Or.inl ⟨by rfl, by rintro w' ⟨s0, s1⟩; go_simp; with_reducible rfl⟩)) (hS := hHeld) (h := ?_)
    refine ppx (i := 7) (N := some 25) #[bT, bT, bT, bT, bT, bT, bT, bT] (h := ?_)
    refine done_ (by kernel_rfl) ?_
    have hb : Bel W1 (W1.drew) := (Below.refl _ _).drew
    replace HN := Lib.hid (HN.out.bel hb)
    replace HP := Lib.hid (HP.out.bel hb)
    replace HV := Lib.hid (HV.out.bel hb)
    replace HW := Lib.hid (HW.out.tr hb)
    generalize W1.drew = W2 at hb HN HP HV HW ⊢
    clear hb
    go_wp2
    obtain ⟨ad, rfl, -⟩ := at_op HV.out.reads2 hx
    have HE := Lib.hid (op_cells (HV.out.bel (Below.refl _ _).drew).reads2 hx)
    clear hx
    refine start_ (n := 13) (S := fun w' => w'.cell? ⟨b, 4, none⟩ = some (.slice (some ad) ops.length c) ∧ w'.cell? ⟨w.heap.size, 3, none⟩ = some (.int .i64 (k + 1)) ∧ w'.cell? ⟨w.heap.size, 4, none⟩ = some (.int .i64 op.kind) ∧ w'.cell? ⟨w.heap.size, 5, none⟩ = some (.string op.name) ∧ w'.cell? ⟨w.heap.size, 6, none⟩ = some (.string op.dest) ∧ w'.cell? ⟨w.heap.size, 7, none⟩ = some (.int .i64 op.n) ∧ w'.cell? ⟨w.heap.size, 8, none⟩ = some (.string op.text) ∧ w'.cell? (ad.add (k * 5)) = some (.int .i64 x.kind) ∧ w'.cell? ⟨(ad.add (k * 5)).block, (ad.add (k * 5)).off + 1, none⟩ = some (.string x.name) ∧ w'.cell? ⟨(ad.add (k * 5)).block, (ad.add (k * 5)).off + 2, none⟩ = some (.string x.dest) ∧ w'.cell? ⟨(ad.add (k * 5)).block, (ad.add (k * 5)).off + 3, none⟩ = some (.int .i64 x.n) ∧ w'.cell? ⟨(ad.add (k * 5)).block, (ad.add (k * 5)).off + 4, none⟩ = some (.string x.text)) (ds := []) #[bF, bF, bF, bF, bF, bF, bF, bF, bF, bF, bF, bF, bF] (by kernel_rfl) rfl rfl ⟨(blkn (HN.out.bel (Below.refl _ _).drew) 4 _ rfl), (blkn (HP.out.bel (Below.refl _ _).drew) 3 _ rfl), (blkn (HP.out.bel (Below.refl _ _).drew) 4 _ rfl), (blkn (HP.out.bel (Below.refl _ _).drew) 5 _ rfl), (blkn (HP.out.bel (Below.refl _ _).drew) 6 _ rfl), (blkn (HP.out.bel (Below.refl _ _).drew) 7 _ rfl), (blkn (HP.out.bel (Below.refl _ _).drew) 8 _ rfl), HE.out.1, HE.out.2.1, HE.out.2.2.1, HE.out.2.2.2.1, HE.out.2.2.2.2⟩ (fun hHeld => ?_)
    refine ppx (i := 0) (N := some 26) #[bT, bF, bF, bF, bF, bF, bF, bF, bF, bF, bF, bF, bF] (h := ?_)
    refine ppx (i := 1) (N := some 27) #[bT, bT, bF, bF, bF, bF, bF, bF, bF, bF, bF, bF, bF] (h := ?_)
    refine ppx (i := 2) (N := some 28) #[bT, bT, bT, bF, bF, bF, bF, bF, bF, bF, bF, bF, bF] (h := ?_)
    refine ppx (i := 4) (N := some 30) #[bT, bT, bT, bF, bT, bF, bF, bF, bF, bF, bF, bF, bF] (h := ?_)
    refine ppx (i := 9) (N := some 35) #[bT, bT, bT, bF, bT, bF, bF, bF, bF, bT, bF, bF, bF] (h := ?_)
    refine tpx (i := 3) (N := some 29) #[bT, bT, bT, bT, bT, bF, bF, bF, bF, bT, bF, bF, bF] (hy := (Or.inl ⟨by rfl, by rintro w' ⟨s0, s1, s2, s3, s4, s5, s6, s7, s8, s9, s10, s11⟩; go_simp; with_reducible rfl⟩)) (hS := hHeld) (h := ?_)
    refine tpx (i := 5) (N := some 31) #[bT, bT, bT, bT, bT, bT, bF, bF, bF, bT, bF, bF, bF] (hy := (Or.inl ⟨by rfl, by rintro w' ⟨s0, s1, s2, s3, s4, s5, s6, s7, s8, s9, s10, s11⟩; go_simp; with_reducible rfl⟩)) (hS := hHeld) (h := ?_)
    refine ppx (i := 6) (N := some 32) #[bT, bT, bT, bT, bT, bT, bT, bF, bF, bT, bF, bF, bF] (h := ?_)
    refine ppx (i := 7) (N := some 33) #[bT, bT, bT, bT, bT, bT, bT, bT, bF, bT, bF, bF, bF] (h := ?_)
    refine tpx (i := 8) (N := some 34) #[bT, bT, bT, bT, bT, bT, bT, bT, bT, bT, bF, bF, bF] (hy := (Or.inl ⟨by rfl, by rintro w' ⟨s0, s1, s2, s3, s4, s5, s6, s7, s8, s9, s10, s11⟩; go_simp; with_reducible rfl⟩)) (hS := hHeld) (h := ?_)
    refine tpx (i := 10) (N := some 36) #[bT, bT, bT, bT, bT, bT, bT, bT, bT, bT, bT, bF, bF] (hy := (Or.inl ⟨by rfl, by rintro w' ⟨s0, s1, s2, s3, s4, s5, s6, s7, s8, s9, s10, s11⟩; go_simp; with_reducible rfl⟩)) (hS := hHeld) (h := ?_)
    refine pure_ (i := 11) (N := some 37) #[bT, bT, bT, bT, bT, bT, bT, bT, bT, bT, bT, bT, bF] rfl rfl (by kernel_rfl) (fun _ _ _ h => h) (Or.inl ⟨by rfl, by intro w'; go_simp; exact opEq_ifs HZ.out _⟩) (by simp only [Act.put, lA, lB, lC, i64_w, i32_w]; rfl) ?_
    refine ppx (i := 12) (N := some 4) #[bT, bT, bT, bT, bT, bT, bT, bT, bT, bT, bT, bT, bT] (h := ?_)
    refine done_ (by kernel_rfl) ?_
    have hb : Bel W2 (W2.drew) := (Below.refl _ _).drew
    replace HN := Lib.hid (HN.out.bel hb)
    replace HP := Lib.hid (HP.out.bel hb)
    replace HV := Lib.hid (HV.out.bel hb)
    replace HW := Lib.hid (HW.out.tr hb)
    generalize W2.drew = W3 at hb HN HP HV HW ⊢
    clear hb
    go_wp2
    go_ret
    exact ⟨rfl, _, HN.out, HV.out, Chg.of_bel HW.out, fun k hk => .inl hk⟩
   ·by_cases c3 : (ops.length : Int) + 1 < mn
    ·obtain ⟨rfl, rfl⟩ : false = z ∧ _ = xn := ⟨(cop_gt c3).1.symm.trans HZ.out.1, (cop_gt c3).2.symm.trans HZ.out.2⟩
     have hw1 : wrap64 (mn - 1) = mn - 1 := by unfold wrap64; omega
     have hq1 : ((ops.length : Int) != mn - 1) = true := by simp; omega
     refine start_ (n := 8) (S := fun w' => w'.cell? ⟨b, 4, none⟩ = some (.slice A ops.length c) ∧ w'.cell? ⟨w.heap.size, 3, none⟩ = some (.int .i64 mn)) (ds := []) #[bF, bF, bF, bF, bF, bF, bF, bF] (by kernel_rfl) rfl rfl ⟨(blkn (HN.out.bel (Below.refl _ _).drew) 4 _ rfl), (blkn (HP.out.bel (Below.refl _ _).drew) 3 _ rfl)⟩ (fun hHeld => ?_)
     refine ppx (i := 0) (N := some 18) #[bT, bF, bF, bF, bF, bF, bF, bF] (h := ?_)
     refine ppx (i := 1) (N := some 19) #[bT, bT, bF, bF, bF, bF, bF, bF] (h := ?_)
     refine ppx (i := 2) (N := some 20) #[bT, bT, bT, bF, bF, bF, bF, bF] (h := ?_)
     refine ppx (i := 5) (N := some 23) #[bT, bT, bT, bF, bF, bT, bF, bF] (h := ?_)
     refine tpx (i := 3) (N := some 21) #[bT, bT, bT, bT, bF, bT, bF, bF] (hy := (Or.inl ⟨by rfl, by rintro w' ⟨s0, s1⟩; go_simp; with_reducible rfl⟩)) (hS := hHeld) (h := ?_)
     refine ppx (i := 4) (N := some 22) #[bT, bT, bT, bT, bT, bT, bF, bF] (h := ?_)
     refine tpx (i := 6) (N := some 24) #[bT, bT, bT, bT, bT, bT, bT, bF] (hy := (Or.inl ⟨by rfl, by rintro w' ⟨s0, s1⟩; go_simp; with_reducible rfl⟩)) (hS := hHeld) (h := ?_)
     refine ppx (i := 7) (N := some 25) #[bT, bT, bT, bT, bT, bT, bT, bT] (h := ?_)
     refine done_ (by kernel_rfl) ?_
     have hb : Bel W1 (W1.drew) := (Below.refl _ _).drew
     replace HN := Lib.hid (HN.out.bel hb)
     replace HP := Lib.hid (HP.out.bel hb)
     replace HV := Lib.hid (HV.out.bel hb)
     replace HW := Lib.hid (HW.out.tr hb)
     generalize W1.drew = W2 at hb HN HP HV HW ⊢
     clear hb
     go_wp2
     refine start_ (n := 18) (S := fun w' => w'.cell? ⟨b, 4, none⟩ = some (.slice A ops.length c) ∧ w'.cell? ⟨w.heap.size, 3, none⟩ = some (.int .i64 mn)) (ds := []) #[bF, bF, bF, bF, bF, bF, bF, bF, bF, bF, bF, bF, bF, bF, bF, bF, bF, bF] (by kernel_rfl) rfl rfl ⟨(blkn (HN.out.bel (Below.refl _ _).drew) 4 _ rfl), (blkn (HP.out.bel (Below.refl _ _).drew) 3 _ rfl)⟩ (fun hHeld => ?_)
     refine ppx (i := 0) (N := some 38) #[bT, bF, bF, bF, bF, bF, bF, bF, bF, bF, bF, bF, bF, bF, bF, bF, bF, bF] (h := ?_)
     refine ppx (i := 1) (N := some 39) #[bT, bT, bF, bF, bF, bF, bF, bF, bF, bF, bF, bF, bF, bF, bF, bF, bF, bF] (h := ?_)
     refine ppx (i := 2) (N := some 40) #[bT, bT, bT, bF, bF, bF, bF, bF, bF, bF, bF, bF, bF, bF, bF, bF, bF, bF] (h := ?_)
     refine ppx (i := 5) (N := some 43) #[bT, bT, bT, bF, bF, bT, bF, bF, bF, bF, bF, bF, bF, bF, bF, bF, bF, bF] (h := ?_)
     refine tpx (i := 3) (N := some 41) #[bT, bT, bT, bT, bF, bT, bF, bF, bF, bF, bF, bF, bF, bF, bF, bF, bF, bF] (hy := (Or.inl ⟨by rfl, by rintro w' ⟨s0, s1⟩; go_simp; with_reducible rfl⟩)) (hS := hHeld) (h := ?_)
     refine ppx (i := 4) (N := some 42) #[bT, bT, bT, bT, bT, bT, bF, bF, bF, bF, bF, bF, bF, bF, bF, bF, bF, bF] (h := ?_)
     refine tpx (i := 6) (N := some 44) #[bT, bT, bT, bT, bT, bT, bT, bF, bF, bF, bF, bF, bF, bF, bF, bF, bF, bF] (hy := (Or.inl ⟨by rfl, by rintro w' ⟨s0, s1⟩; go_simp; with_reducible rfl⟩)) (hS := hHeld) (h := ?_)
     refine ppx (i := 7) (N := some 45) #[bT, bT, bT, bT, bT, bT, bT, bT, bF, bF, bF, bF, bF, bF, bF, bF, bF, bF] (h := ?_)
     refine ppx (i := 8) (N := some 46) #[bT, bT, bT, bT, bT, bT, bT, bT, bT, bF, bF, bF, bF, bF, bF, bF, bF, bF] (h := ?_)
     refine ppx (i := 9) (N := some 47) #[bT, bT, bT, bT, bT, bT, bT, bT, bT, bT, bF, bF, bF, bF, bF, bF, bF, bF] (h := ?_)
     refine ppx (i := 10) (N := some 48) #[bT, bT, bT, bT, bT, bT, bT, bT, bT, bT, bT, bF, bF, bF, bF, bF, bF, bF] (v := undef) (hy := Or.inr ⟨by rfl, rfl⟩) (h := ?_)
     refine ppx (i := 11) (N := some 49) #[bT, bT, bT, bT, bT, bT, bT, bT, bT, bT, bT, bT, bF, bF, bF, bF, bF, bF] (v := undef) (hy := Or.inr ⟨by rfl, rfl⟩) (h := ?_)
     refine ppx (i := 12) (N := some 50) #[bT, bT, bT, bT, bT, bT, bT, bT, bT, bT, bT, bT, bT, bF, bF, bF, bF, bF] (v := undef) (hy := Or.inr ⟨by rfl, rfl⟩) (h := ?_)
     refine ppx (i := 13) (N := some 51) #[bT, bT, bT, bT, bT, bT, bT, bT, bT, bT, bT, bT, bT, bT, bF, bF, bF, bF] (v := undef) (hy := Or.inr ⟨by rfl, rfl⟩) (h := ?_)
     refine ppx (i := 14) (N := some 52) #[bT, bT, bT, bT, bT, bT, bT, bT, bT, bT, bT, bT, bT, bT, bT, bF, bF, bF] (v := undef) (hy := Or.inr ⟨by rfl, rfl⟩) (h := ?_)
     refine ppx (i := 15) (N := some 53) #[bT, bT, bT, bT, bT, bT, bT, bT, bT, bT, bT, bT, bT, bT, bT, bT, bF, bF] (v := undef) (hy := Or.inr ⟨by rfl, rfl⟩) (h := ?_)
     refine ppx (i := 16) (N := some 54) #[bT, bT, bT, bT, bT, bT, bT, bT, bT, bT, bT, bT, bT, bT, bT, bT, bT, bF] (v := undef) (hy := Or.inr ⟨by rfl, rfl⟩) (h := ?_)
     refine ppx (i := 17) (N := some 55) #[bT, bT, bT, bT, bT, bT, bT, bT, bT, bT, bT, bT, bT, bT, bT, bT, bT, bT] (h := ?_)
     refine done_ (by kernel_rfl) ?_
     have hb : Bel W2 (W2.drew) := (Below.refl _ _).drew
     replace HN := Lib.hid (HN.out.bel hb)
     replace HP := Lib.hid (HP.out.bel hb)
     replace HV := Lib.hid (HV.out.bel hb)
     replace HW := Lib.hid (HW.out.tr hb)
     generalize W2.drew = W3 at hb HN HP HV HW ⊢
     clear hb
     go_wp2
     go_ret
     exact ⟨rfl, _, HN.out, HV.out, Chg.of_bel HW.out, fun k hk => .inl hk⟩
    ·have hz := (cop_add c2 c3).1.symm.trans HZ.out.1
     have hxn := (cop_add c2 c3).2.symm.trans HZ.out.2
     have hxn2 : (if z then (⟨up, mt, false, alone, ops ++ [op]⟩ : Node) else ⟨up, mt, false, alone, ops⟩) = xn := by rw [← hxn, ← hz]; rfl
     have hzz : ((opR q op).isSome && decide (ops.length < 20)) = z := by have h := hz; unfold addNB at h; simp only [] at h; rw [HRX.out] at h; exact h
     have HXN := Lib.hid hxn2
     have hct := Lib.hid (fun (W : World) (hC : kOp.C W A ops.length ops) => (by
      have h := canTake_c (c := c) (n := ⟨up, mt, false, alone, ops⟩) (o := op) hC HO.out HSO.out HRX.out
      rw [hzz] at h
      exact h : Calls Tryz.prog 114 #[.agg #[.bool up, .int .i64 mt, .bool false, .bool alone, .slice A ops.length c], .agg #[.int .i64 op.kind, .string op.name, .string op.dest, .int .i64 op.n, .string op.text]] W (Ret (.bool z) W)))
     obtain rfl : mn = (ops.length : Int) + 1 := by omega
     have hw1 : wrap64 (ops.length : Int) = ops.length := by unfold wrap64; omega
     clear hz hxn hxn2 hzz HZ
     refine start_ (n := 8) (S := fun w' => w'.cell? ⟨b, 4, none⟩ = some (.slice A ops.length c) ∧ w'.cell? ⟨w.heap.size, 3, none⟩ = some (.int .i64 (ops.length + 1))) (ds := []) #[bF, bF, bF, bF, bF, bF, bF, bF] (by kernel_rfl) rfl rfl ⟨(blkn (HN.out.bel (Below.refl _ _).drew) 4 _ rfl), (blkn (HP.out.bel (Below.refl _ _).drew) 3 _ rfl)⟩ (fun hHeld => ?_)
     refine ppx (i := 0) (N := some 18) #[bT, bF, bF, bF, bF, bF, bF, bF] (h := ?_)
     refine ppx (i := 1) (N := some 19) #[bT, bT, bF, bF, bF, bF, bF, bF] (h := ?_)
     refine ppx (i := 2) (N := some 20) #[bT, bT, bT, bF, bF, bF, bF, bF] (h := ?_)
     refine ppx (i := 5) (N := some 23) #[bT, bT, bT, bF, bF, bT, bF, bF] (h := ?_)
     refine tpx (i := 3) (N := some 21) #[bT, bT, bT, bT, bF, bT, bF, bF] (hy := (Or.inl ⟨by rfl, by rintro w' ⟨s0, s1⟩; go_simp; with_reducible rfl⟩)) (hS := hHeld) (h := ?_)
     refine ppx (i := 4) (N := some 22) #[bT, bT, bT, bT, bT, bT, bF, bF] (h := ?_)
     refine tpx (i := 6) (N := some 24) #[bT, bT, bT, bT, bT, bT, bT, bF] (hy := (Or.inl ⟨by rfl, by rintro w' ⟨s0, s1⟩; go_simp; with_reducible rfl⟩)) (hS := hHeld) (h := ?_)
     refine ppx (i := 7) (N := some 25) #[bT, bT, bT, bT, bT, bT, bT, bT] (h := ?_)
     refine done_ (by kernel_rfl) ?_
     have hb : Bel W1 (W1.drew) := (Below.refl _ _).drew
     replace HN := Lib.hid (HN.out.bel hb)
     replace HP := Lib.hid (HP.out.bel hb)
     replace HV := Lib.hid (HV.out.bel hb)
     replace HW := Lib.hid (HW.out.tr hb)
     generalize W1.drew = W2 at hb HN HP HV HW ⊢
     clear hb
     go_wp2
     refine start_ (n := 18) (S := fun w' => w'.cell? ⟨b, 0, none⟩ = some (.bool up) ∧ w'.cell? ⟨b, 1, none⟩ = some (.int .i64 mt) ∧ w'.cell? ⟨b, 2, none⟩ = some (.bool false) ∧ w'.cell? ⟨b, 3, none⟩ = some (.bool alone) ∧ w'.cell? ⟨b, 4, none⟩ = some (.slice A ops.length c) ∧ w'.cell? ⟨w.heap.size, 3, none⟩ = some (.int .i64 (ops.length + 1)) ∧ w'.cell? ⟨w.heap.size, 4, none⟩ = some (.int .i64 op.kind) ∧ w'.cell? ⟨w.heap.size, 5, none⟩ = some (.string op.name) ∧ w'.cell? ⟨w.heap.size, 6, none⟩ = some (.string op.dest) ∧ w'.cell? ⟨w.heap.size, 7, none⟩ = some (.int .i64 op.n) ∧ w'.cell? ⟨w.heap.size, 8, none⟩ = some (.string op.text)) (ds := []) #[bF, bF, bF, bF, bF, bF, bF, bF, bF, bF, bF, bF, bF, bF, bF, bF, bF, bF] (by kernel_rfl) rfl rfl ⟨(blkn (HN.out.bel (Below.refl _ _).drew) 0 _ rfl), (blkn (HN.out.bel (Below.refl _ _).drew) 1 _ rfl), (blkn (HN.out.bel (Below.refl _ _).drew) 2 _ rfl), (blkn (HN.out.bel (Below.refl _ _).drew) 3 _ rfl), (blkn (HN.out.bel (Below.refl _ _).drew) 4 _ rfl), (blkn (HP.out.bel (Below.refl _ _).drew) 3 _ rfl), (blkn (HP.out.bel (Below.refl _ _).drew) 4 _ rfl), (blkn (HP.out.bel (Below.refl _ _).drew) 5 _ rfl), (blkn (HP.out.bel (Below.refl _ _).drew) 6 _ rfl), (blkn (HP.out.bel (Below.refl _ _).drew) 7 _ rfl), (blkn (HP.out.bel (Below.refl _ _).drew) 8 _ rfl)⟩ (fun hHeld => ?_)
     refine ppx (i := 0) (N := some 38) #[bT, bF, bF, bF, bF, bF, bF, bF, bF, bF, bF, bF, bF, bF, bF, bF, bF, bF] (h := ?_)
     refine ppx (i := 1) (N := some 39) #[bT, bT, bF, bF, bF, bF, bF, bF, bF, bF, bF, bF, bF, bF, bF, bF, bF, bF] (h := ?_)
     refine ppx (i := 2) (N := some 40) #[bT, bT, bT, bF, bF, bF, bF, bF, bF, bF, bF, bF, bF, bF, bF, bF, bF, bF] (h := ?_)
     refine ppx (i := 5) (N := some 43) #[bT, bT, bT, bF, bF, bT, bF, bF, bF, bF, bF, bF, bF, bF, bF, bF, bF, bF] (h := ?_)
     refine tpx (i := 3) (N := some 41) #[bT, bT, bT, bT, bF, bT, bF, bF, bF, bF, bF, bF, bF, bF, bF, bF, bF, bF] (hy := (Or.inl ⟨by rfl, by rintro w' ⟨s0, s1, s2, s3, s4, s5, s6, s7, s8, s9, s10⟩; go_simp; with_reducible rfl⟩)) (hS := hHeld) (h := ?_)
     refine ppx (i := 4) (N := some 42) #[bT, bT, bT, bT, bT, bT, bF, bF, bF, bF, bF, bF, bF, bF, bF, bF, bF, bF] (h := ?_)
     refine tpx (i := 6) (N := some 44) #[bT, bT, bT, bT, bT, bT, bT, bF, bF, bF, bF, bF, bF, bF, bF, bF, bF, bF] (hy := (Or.inl ⟨by rfl, by rintro w' ⟨s0, s1, s2, s3, s4, s5, s6, s7, s8, s9, s10⟩; go_simp; with_reducible rfl⟩)) (hS := hHeld) (h := ?_)
     refine ppx (i := 7) (N := some 45) #[bT, bT, bT, bT, bT, bT, bT, bT, bF, bF, bF, bF, bF, bF, bF, bF, bF, bF] (h := ?_)
     refine ppx (i := 8) (N := some 46) #[bT, bT, bT, bT, bT, bT, bT, bT, bT, bF, bF, bF, bF, bF, bF, bF, bF, bF] (h := ?_)
     refine ppx (i := 9) (N := some 47) #[bT, bT, bT, bT, bT, bT, bT, bT, bT, bT, bF, bF, bF, bF, bF, bF, bF, bF] (h := ?_)
     refine ppx (i := 10) (N := some 48) #[bT, bT, bT, bT, bT, bT, bT, bT, bT, bT, bT, bF, bF, bF, bF, bF, bF, bF] (h := ?_)
     refine ppx (i := 11) (N := some 49) #[bT, bT, bT, bT, bT, bT, bT, bT, bT, bT, bT, bT, bF, bF, bF, bF, bF, bF] (h := ?_)
     refine ppx (i := 13) (N := some 51) #[bT, bT, bT, bT, bT, bT, bT, bT, bT, bT, bT, bT, bF, bT, bF, bF, bF, bF] (h := ?_)
     refine tpx (i := 12) (N := some 50) #[bT, bT, bT, bT, bT, bT, bT, bT, bT, bT, bT, bT, bT, bT, bF, bF, bF, bF] (hy := (Or.inl ⟨by rfl, by rintro w' ⟨s0, s1, s2, s3, s4, s5, s6, s7, s8, s9, s10⟩; go_simp; with_reducible rfl⟩)) (hS := hHeld) (h := ?_)
     refine tpx (i := 14) (N := some 52) #[bT, bT, bT, bT, bT, bT, bT, bT, bT, bT, bT, bT, bT, bT, bT, bF, bF, bF] (hy := (Or.inl ⟨by rfl, by rintro w' ⟨s0, s1, s2, s3, s4, s5, s6, s7, s8, s9, s10⟩; go_simp; with_reducible rfl⟩)) (hS := hHeld) (h := ?_)
     refine one_ (i := 15) (N := some 53) #[bT, bT, bT, bT, bT, bT, bT, bT, bT, bT, bT, bT, bT, bT, bT, bT, bF, bF] rfl rfl (by kernel_rfl) (by decide) (fun K hK => ?_)
     refine goes_ Tryz.func114 (by kernel_rfl) rfl #[.agg #[.bool up, .int .i64 mt, .bool false, .bool alone, .slice A ops.length c], .agg #[.int .i64 op.kind, .string op.name, .string op.dest, .int .i64 op.n, .string op.text]] (by rfl) rfl rfl (by simp only [List.map_toArray, List.map_cons, List.map_nil]; rfl) ?_
     with_reducible refine (hct.out _ (HV.out.bel (Below.refl _ _).drew).reads2).mono ?_
     rintro e w2 ⟨rfl, hb2⟩
     refine ⟨_, rfl, ?_⟩
     refine hK.out _ _ ⟨(blkn ((HN.out.bel (Below.refl _ _).drew).bel hb2) 0 _ rfl), (blkn ((HN.out.bel (Below.refl _ _).drew).bel hb2) 1 _ rfl), (blkn ((HN.out.bel (Below.refl _ _).drew).bel hb2) 2 _ rfl), (blkn ((HN.out.bel (Below.refl _ _).drew).bel hb2) 3 _ rfl), (blkn ((HN.out.bel (Below.refl _ _).drew).bel hb2) 4 _ rfl), (blkn ((HP.out.bel (Below.refl _ _).drew).bel hb2) 3 _ rfl), (blkn ((HP.out.bel (Below.refl _ _).drew).bel hb2) 4 _ rfl), (blkn ((HP.out.bel (Below.refl _ _).drew).bel hb2) 5 _ rfl), (blkn ((HP.out.bel (Below.refl _ _).drew).bel hb2) 6 _ rfl), (blkn ((HP.out.bel (Below.refl _ _).drew).bel hb2) 7 _ rfl), (blkn ((HP.out.bel (Below.refl _ _).drew).bel hb2) 8 _ rfl)⟩ (fun hHeld => ?_)
     clear hK K
     refine nox 53 (h := ?_)
     refine ppx (i := 16) (N := some 54) #[bT, bT, bT, bT, bT, bT, bT, bT, bT, bT, bT, bT, bT, bT, bT, bT, bT, bF] (h := ?_)
     refine ppx (i := 17) (N := some 55) #[bT, bT, bT, bT, bT, bT, bT, bT, bT, bT, bT, bT, bT, bT, bT, bT, bT, bT] (h := ?_)
     refine done_ (by kernel_rfl) ?_
     have hb : Bel W2 w2 := Bel.tr (b := W2.drew) (Below.refl _ _).drew hb2
     replace HN := Lib.hid (HN.out.bel hb)
     replace HP := Lib.hid (HP.out.bel hb)
     replace HV := Lib.hid (HV.out.bel hb)
     replace HW := Lib.hid (HW.out.tr hb)
     clear hb hb2 hct hHeld
     cases z with
     | false =>
      obtain rfl := HXN.out
      go_wp2
      go_ret
      exact ⟨rfl, _, HN.out, HV.out, Chg.of_bel HW.out, fun k hk => .inl hk⟩
     | true =>
      obtain rfl := HXN.out
      go_wp2
      refine start_ (n := 12) (S := fun w' => w'.cell? ⟨b, 4, none⟩ = some (.slice A ops.length c) ∧ w'.cell? ⟨w.heap.size, 4, none⟩ = some (.int .i64 op.kind) ∧ w'.cell? ⟨w.heap.size, 5, none⟩ = some (.string op.name) ∧ w'.cell? ⟨w.heap.size, 6, none⟩ = some (.string op.dest) ∧ w'.cell? ⟨w.heap.size, 7, none⟩ = some (.int .i64 op.n) ∧ w'.cell? ⟨w.heap.size, 8, none⟩ = some (.string op.text)) (ds := [11]) #[bF, bF, bF, bF, bF, bF, bF, bF, bF, bF, bF, bF] (by kernel_rfl) rfl rfl ⟨(blkn (HN.out.bel (Below.refl _ _).drew) 4 _ rfl), (blkn (HP.out.bel (Below.refl _ _).drew) 4 _ rfl), (blkn (HP.out.bel (Below.refl _ _).drew) 5 _ rfl), (blkn (HP.out.bel (Below.refl _ _).drew) 6 _ rfl), (blkn (HP.out.bel (Below.refl _ _).drew) 7 _ rfl), (blkn (HP.out.bel (Below.refl _ _).drew) 8 _ rfl)⟩ (fun hHeld => ?_)
      refine ppx (i := 0) (N := some 56) #[bT, bF, bF, bF, bF, bF, bF, bF, bF, bF, bF, bF] (h := ?_)
      refine ppx (i := 1) (N := some 57) #[bT, bT, bF, bF, bF, bF, bF, bF, bF, bF, bF, bF] (h := ?_)
      refine ppx (i := 2) (N := some 58) #[bT, bT, bT, bF, bF, bF, bF, bF, bF, bF, bF, bF] (h := ?_)
      refine ppx (i := 3) (N := some 59) #[bT, bT, bT, bT, bF, bF, bF, bF, bF, bF, bF, bF] (h := ?_)
      refine ppx (i := 5) (N := some 61) #[bT, bT, bT, bT, bF, bT, bF, bF, bF, bF, bF, bF] (h := ?_)
      refine tpx (i := 4) (N := some 60) #[bT, bT, bT, bT, bT, bT, bF, bF, bF, bF, bF, bF] (hy := (Or.inl ⟨by rfl, by rintro w' ⟨s0, s1, s2, s3, s4, s5⟩; go_simp; with_reducible rfl⟩)) (hS := hHeld) (h := ?_)
      refine tpx (i := 6) (N := some 62) #[bT, bT, bT, bT, bT, bT, bT, bF, bF, bF, bF, bF] (hy := (Or.inl ⟨by rfl, by rintro w' ⟨s0, s1, s2, s3, s4, s5⟩; go_simp; with_reducible rfl⟩)) (hS := hHeld) (h := ?_)
      refine one_ (i := 7) (N := some 63) #[bT, bT, bT, bT, bT, bT, bT, bT, bF, bF, bF, bF] rfl rfl (by kernel_rfl) (by decide) (fun K hK => ?_)
      refine value_ (by rfl) rfl (by go_simp; constructor <;> rfl) ?_
      have hbA : Bel w2 (w2.alloc (.cells #[.int .i64 op.kind, .string op.name, .string op.dest, .int .i64 op.n, .string op.text] 27)).drew := Bel.tr (bel_alloc (Below.refl _ _) _ : Bel w2 (w2.alloc (.cells #[.int .i64 op.kind, .string op.name, .string op.dest, .int .i64 op.n, .string op.text] 27))) (Below.refl _ _).drew
      refine hK.out _ _ ⟨(blkn (HN.out.bel hbA) 4 _ rfl), (blkn (HP.out.bel hbA) 4 _ rfl), (blkn (HP.out.bel hbA) 5 _ rfl), (blkn (HP.out.bel hbA) 6 _ rfl), (blkn (HP.out.bel hbA) 7 _ rfl), (blkn (HP.out.bel hbA) 8 _ rfl)⟩ (fun hHeld => ?_)
      clear hK K
      refine nox 63 (h := ?_)
      refine one_ (i := 8) (N := some 64) #[bT, bT, bT, bT, bT, bT, bT, bT, bT, bF, bF, bF] rfl rfl (by kernel_rfl) (by decide) (fun K hK => ?_)
      refine own_append_step (W := (w2.alloc (.cells #[.int .i64 op.kind, .string op.name, .string op.dest, .int .i64 op.n, .string op.text] 27)).drew) (base := base) (by rfl) (.tmp 60) (.tmp 63) rfl rfl op ⟨w2.heap.size, 0, none⟩ 1 rfl (blk_op5 (show Blk (w2.alloc (.cells #[.int .i64 op.kind, .string op.name, .string op.dest, .int .i64 op.n, .string op.text] 27)).drew w2.heap.size #[.int .i64 op.kind, .string op.name, .string op.dest, .int .i64 op.n, .string op.text] 27 from Blk.new _ _ _)) (HV.out.bel hbA) (by omega) (Nat.le_trans HBS.out (Nat.le_trans HW.out.size hbA.size)) ?_
      intro v1 w9 hv1 hgr hat
      obtain ⟨no, hno⟩ : ∃ no, ops ++ [op] = no := ⟨_, rfl⟩
      rw [hno] at hv1
      obtain ⟨C4, c4, rfl, hc4, hC4⟩ := hv1.reads
      have hn8 := HN.out.bel hbA
      have hp8 := HP.out.bel hbA
      have hv8 := HV.out.bel hbA
      have HN9 := Lib.hid (hn8.grown hgr (blk_other hv8 hn8 (by decide)))
      have HP9 := Lib.hid (hp8.grown hgr (blk_other hv8 hp8 (by decide)))
      have HV9 := Lib.hid hv1
      have HG9 := Lib.hid (grown_tr (grown_of_bel (HW.out.tr hbA) (Value.slice A ops.length c).ownBlock) hgr)
      have HAT := Lib.hid (hat_of (HW.out.tr hbA).size hat)
      have HNO := Lib.hid hno
      clear hno hv1 hgr hat hc4 hC4 hn8 hp8 hv8
      have x4 := blkn HN9.out 4 _ rfl
      have xf4 := HN9.out.free 4
      have xy := HN9.out.lt
      refine hK.out _ _ ⟨(blkn HN9.out 4 _ rfl), (blkn HP9.out 4 _ rfl), (blkn HP9.out 5 _ rfl), (blkn HP9.out 6 _ rfl), (blkn HP9.out 7 _ rfl), (blkn HP9.out 8 _ rfl)⟩ (fun hHeld => ?_)
      clear hK K
      refine nox 64 (h := ?_)
      refine ppx (i := 9) (N := some 65) #[bT, bT, bT, bT, bT, bT, bT, bT, bT, bT, bF, bF] (h := ?_)
      refine ppx (i := 10) (N := some 66) #[bT, bT, bT, bT, bT, bT, bT, bT, bT, bT, bT, bF] (h := ?_)
      refine last_ (i := 11) (N := none) #[bT, bT, bT, bT, bT, bT, bT, bT, bT, bT, bT, bT] rfl rfl (by kernel_rfl) (by decide) (fun K hK => ?_)
      refine skip_ (by rfl) rfl (by go_simp; rfl) ?_
      refine hK.out _ _ ?_
      clear hK K
      refine done_ (by kernel_rfl) ?_
      clear x4 xf4 xy
      go_wp2
      go_ret
      have hN10 := HN9.out.set 4 (.slice C4 no.length c4) (cs' := #[.bool up, .int .i64 mt, .bool false, .bool alone, .slice C4 no.length c4]) rfl
      have hV10 := HV9.out.far HN9.out (by decide) 4 (.slice C4 no.length c4)
      have hno := HNO.out
      subst hno
      exact ⟨rfl, _, hN10, hV10, (Chg.of_grown HG9.out).set 4 _, HAT.out⟩
 ·obtain ⟨rfl, rfl⟩ : false = z ∧ _ = xn := ⟨(cop_no (.inl c1)).1.symm.trans HZ.out.1, (cop_no (.inl c1)).2.symm.trans HZ.out.2⟩
  have hq1 : (mt != term) = true := by simpa using c1
  refine start_ (n := 13) (S := fun w' => w'.cell? ⟨b, 1, none⟩ = some (.int .i64 term) ∧ w'.cell? ⟨b, 2, none⟩ = some (.bool leads) ∧ w'.cell? ⟨w.heap.size, 2, none⟩ = some (.int .i64 mt)) (ds := []) #[bF, bF, bF, bF, bF, bF, bF, bF, bF, bF, bF, bF, bF] (by kernel_rfl) rfl rfl ⟨(blkn (HN.out.bel (Below.refl _ _).drew) 1 _ rfl), (blkn (HN.out.bel (Below.refl _ _).drew) 2 _ rfl), (blkn (HP.out.bel (Below.refl _ _).drew) 2 _ rfl)⟩ (fun hHeld => ?_)
  refine ppx (i := 0) (N := some 5) #[bT, bF, bF, bF, bF, bF, bF, bF, bF, bF, bF, bF, bF] (h := ?_)
  refine ppx (i := 2) (N := some 7) #[bT, bF, bT, bF, bF, bF, bF, bF, bF, bF, bF, bF, bF] (h := ?_)
  refine ppx (i := 3) (N := some 8) #[bT, bF, bT, bT, bF, bF, bF, bF, bF, bF, bF, bF, bF] (h := ?_)
  refine ppx (i := 4) (N := some 9) #[bT, bF, bT, bT, bT, bF, bF, bF, bF, bF, bF, bF, bF] (h := ?_)
  refine tpx (i := 1) (N := some 6) #[bT, bT, bT, bT, bT, bF, bF, bF, bF, bF, bF, bF, bF] (hy := (Or.inl ⟨by rfl, by rintro w' ⟨s0, s1, s2⟩; go_simp; with_reducible rfl⟩)) (hS := hHeld) (h := ?_)
  refine tpx (i := 5) (N := some 10) #[bT, bT, bT, bT, bT, bT, bF, bF, bF, bF, bF, bF, bF] (hy := (Or.inl ⟨by rfl, by rintro w' ⟨s0, s1, s2⟩; go_simp; with_reducible rfl⟩)) (hS := hHeld) (h := ?_)
  refine ppx (i := 6) (N := some 11) #[bT, bT, bT, bT, bT, bT, bT, bF, bF, bF, bF, bF, bF] (h := ?_)
  refine ppx (i := 7) (N := some 12) #[bT, bT, bT, bT, bT, bT, bT, bT, bF, bF, bF, bF, bF] (h := ?_)
  refine ppx (i := 8) (N := some 13) #[bT, bT, bT, bT, bT, bT, bT, bT, bT, bF, bF, bF, bF] (v := undef) (hy := Or.inr ⟨by rfl, rfl⟩) (h := ?_)
  refine ppx (i := 9) (N := some 14) #[bT, bT, bT, bT, bT, bT, bT, bT, bT, bT, bF, bF, bF] (v := undef) (hy := Or.inr ⟨by rfl, rfl⟩) (h := ?_)
  refine ppx (i := 10) (N := some 15) #[bT, bT, bT, bT, bT, bT, bT, bT, bT, bT, bT, bF, bF] (v := undef) (hy := Or.inr ⟨by rfl, rfl⟩) (h := ?_)
  refine ppx (i := 11) (N := some 16) #[bT, bT, bT, bT, bT, bT, bT, bT, bT, bT, bT, bT, bF] (v := undef) (hy := Or.inr ⟨by rfl, rfl⟩) (h := ?_)
  refine ppx (i := 12) (N := some 17) #[bT, bT, bT, bT, bT, bT, bT, bT, bT, bT, bT, bT, bT] (h := ?_)
  refine done_ (by kernel_rfl) ?_
  have hb : Bel W0 (W0.drew) := (Below.refl _ _).drew
  replace HN := Lib.hid (HN.out.bel hb)
  replace HP := Lib.hid (HP.out.bel hb)
  replace HV := Lib.hid (HV.out.bel hb)
  replace HW := Lib.hid (HW.out.tr hb)
  generalize W0.drew = W1 at hb HN HP HV HW ⊢
  clear hb
  go_wp2
  go_ret
  exact ⟨rfl, _, HN.out, HV.out, Chg.of_bel HW.out, fun k hk => .inl hk⟩
end
end Go.Proofs.YtccllgpaafgjaaaGreat

namespace Go.Proofs.YtccllgpaafgjaaaGreat
open Go.RowKit Go.Proofs.YtccllgpaafgjaaaGreatW.PrintWords Go.Proofs.YtccllgpaafgjaaaGreatW.PrintLast
theorem join_nay {n : Node} {whom mt mn : Int} {op : Op} {mops : List Op} (h : mt < n.term ∨ (mt = n.term ∧ n.leads = true)) : hearB n ⟨3, whom, mt, mn, op, mops⟩ = false ∧ hearN n ⟨3, whom, mt, mn, op, mops⟩ = n := by
 have hy : nayB n 3 mt = true := by unfold nayB; rcases h with h | ⟨h, h2⟩ <;> simp [*]
 unfold hearB hearN
 simp only []
 rw [hy]
 exact ⟨rfl, rfl⟩
theorem join_aye {n : Node} {whom mt mn : Int} {op : Op} {mops : List Op} (h : ¬ mt < n.term) (h2 : ¬ (mt = n.term ∧ n.leads = true)) : hearB n ⟨3, whom, mt, mn, op, mops⟩ = true ∧ hearN n ⟨3, whom, mt, mn, op, mops⟩ = if n.term < mt ∨ (n.ops.length : Int) < mn then ⟨n.up, mt, false, false, mops⟩ else n := by
 have hy : nayB n 3 mt = false := by
  unfold nayB
  have e : (decide (mt = n.term) && n.leads) = false := by
   cases hl : n.leads with
   | false => simp
   | true =>
    have h4 : ¬ mt = n.term := fun e => h2 ⟨e, hl⟩
    simp [h4]
  rw [e, decide_eq_false h]
  rfl
 unfold hearB hearN
 simp only []
 rw [hy]
 exact ⟨rfl, rfl⟩
section
variable {w : World} {A B : Option Addr} {c base b bc : Nat} {up leads alone : Bool} {whom mt mn term : Int} {ops mops : List Op} {op : Op}
set_option maxHeartbeats 64000000 in
set_option maxRecDepth 10000 in
theorem hearJoin_f (hN : Blk w b #[.bool up, .int .i64 term, .bool leads, .bool alone, .slice A ops.length c] 25) (h : OwnO w base (.slice A ops.length c) ops) (hbase : base ≤ w.heap.size) (ho : SmallOs ops) (hD : kOp.C w B mops.length mops) (hlm : mops.length ≤ 1048576) :
  Calls Tryz.prog 97 #[.pointer (some ⟨b, 0, none⟩), .agg #[.int .i64 3, .int .i64 whom, .int .i64 mt, .int .i64 mn, .int .i64 op.kind, .string op.name, .string op.dest, .int .i64 op.n, .string op.text, .slice B mops.length bc]] w (HeardP base b w (hearN ⟨up, term, leads, alone, ops⟩ ⟨3, whom, mt, mn, op, mops⟩) (.slice A ops.length c) (hearB ⟨up, term, leads, alone, ops⟩ ⟨3, whom, mt, mn, op, mops⟩)) := by
 have HBS := Lib.hid hbase
 have HDM := Lib.hid hD
 have hl9 := ho.len
 have hbl := hN.lt
 obtain ⟨z, hz⟩ : ∃ z, hearB ⟨up, term, leads, alone, ops⟩ ⟨3, whom, mt, mn, op, mops⟩ = z := ⟨_, rfl⟩
 obtain ⟨xn, hxn⟩ : ∃ x, hearN ⟨up, term, leads, alone, ops⟩ ⟨3, whom, mt, mn, op, mops⟩ = x := ⟨_, rfl⟩
 rw [hz, hxn]
 have HZ := Lib.hid (And.intro hz hxn)
 have HN0 := Lib.hid hN
 have HV0 := Lib.hid h
 clear hN h hbase ho hD hz hxn
 go_enter Tryz.func97, Tryz.ntmps97
 go_wp2
 have hbx : Bel w (w.alloc (.cells #[.int .i64 3, .int .i64 whom, .int .i64 mt, .int .i64 mn, .int .i64 op.kind, .string op.name, .string op.dest, .int .i64 op.n, .string op.text, .slice B mops.length bc] 29)) := bel_alloc (Below.refl _ _) _
 have HP : Hid (Blk (w.alloc (.cells #[.int .i64 3, .int .i64 whom, .int .i64 mt, .int .i64 mn, .int .i64 op.kind, .string op.name, .string op.dest, .int .i64 op.n, .string op.text, .slice B mops.length bc] 29)) w.heap.size #[.int .i64 3, .int .i64 whom, .int .i64 mt, .int .i64 mn, .int .i64 op.kind, .string op.name, .string op.dest, .int .i64 op.n, .string op.text, .slice B mops.length bc] 29) := Lib.hid (Blk.new _ _ _)
 have HN := Lib.hid (HN0.out.bel hbx)
 have HV := Lib.hid (HV0.out.bel hbx)
 have HW := Lib.hid hbx
 generalize (w.alloc (.cells #[.int .i64 3, .int .i64 whom, .int .i64 mt, .int .i64 mn, .int .i64 op.kind, .string op.name, .string op.dest, .int .i64 op.n, .string op.text, .slice B mops.length bc] 29)) = W0 at hbx HP HN HV HW ⊢
 clear hbx
 by_cases c1 : mt < term
 ·obtain ⟨rfl, rfl⟩ : false = z ∧ _ = xn := ⟨(join_nay (.inl c1)).1.symm.trans HZ.out.1, (join_nay (.inl c1)).2.symm.trans HZ.out.2⟩
  refine start_ (n := 22) (S := fun w' => w'.cell? ⟨b, 1, none⟩ = some (.int .i64 term) ∧ w'.cell? ⟨w.heap.size, 2, none⟩ = some (.int .i64 mt)) (ds := []) #[bF, bF, bF, bF, bF, bF, bF, bF, bF, bF, bF, bF, bF, bF, bF, bF, bF, bF, bF, bF, bF, bF] (by kernel_rfl) rfl rfl ⟨(blkn (HN.out.bel (Below.refl _ _).drew) 1 _ rfl), (blkn (HP.out.bel (Below.refl _ _).drew) 2 _ rfl)⟩ (fun hHeld => ?_)
  refine ppx (i := 0) (N := some 5) #[bT, bF, bF, bF, bF, bF, bF, bF, bF, bF, bF, bF, bF, bF, bF, bF, bF, bF, bF, bF, bF, bF] (h := ?_)
  refine ppx (i := 2) (N := some 7) #[bT, bF, bT, bF, bF, bF, bF, bF, bF, bF, bF, bF, bF, bF, bF, bF, bF, bF, bF, bF, bF, bF] (h := ?_)
  refine ppx (i := 3) (N := some 8) #[bT, bF, bT, bT, bF, bF, bF, bF, bF, bF, bF, bF, bF, bF, bF, bF, bF, bF, bF, bF, bF, bF] (h := ?_)
  refine ppx (i := 4) (N := some 9) #[bT, bF, bT, bT, bT, bF, bF, bF, bF, bF, bF, bF, bF, bF, bF, bF, bF, bF, bF, bF, bF, bF] (h := ?_)
  refine tpx (i := 1) (N := some 6) #[bT, bT, bT, bT, bT, bF, bF, bF, bF, bF, bF, bF, bF, bF, bF, bF, bF, bF, bF, bF, bF, bF] (hy := (Or.inl ⟨by rfl, by rintro w' ⟨s0, s1⟩; go_simp; with_reducible rfl⟩)) (hS := hHeld) (h := ?_)
  refine tpx (i := 5) (N := some 10) #[bT, bT, bT, bT, bT, bT, bF, bF, bF, bF, bF, bF, bF, bF, bF, bF, bF, bF, bF, bF, bF, bF] (hy := (Or.inl ⟨by rfl, by rintro w' ⟨s0, s1⟩; go_simp; with_reducible rfl⟩)) (hS := hHeld) (h := ?_)
  refine ppx (i := 6) (N := some 11) #[bT, bT, bT, bT, bT, bT, bT, bF, bF, bF, bF, bF, bF, bF, bF, bF, bF, bF, bF, bF, bF, bF] (h := ?_)
  refine ppx (i := 7) (N := some 12) #[bT, bT, bT, bT, bT, bT, bT, bT, bF, bF, bF, bF, bF, bF, bF, bF, bF, bF, bF, bF, bF, bF] (h := ?_)
  refine ppx (i := 8) (N := some 13) #[bT, bT, bT, bT, bT, bT, bT, bT, bT, bF, bF, bF, bF, bF, bF, bF, bF, bF, bF, bF, bF, bF] (v := undef) (hy := Or.inr ⟨by rfl, rfl⟩) (h := ?_)
  refine ppx (i := 9) (N := some 14) #[bT, bT, bT, bT, bT, bT, bT, bT, bT, bT, bF, bF, bF, bF, bF, bF, bF, bF, bF, bF, bF, bF] (v := undef) (hy := Or.inr ⟨by rfl, rfl⟩) (h := ?_)
  refine ppx (i := 10) (N := some 15) #[bT, bT, bT, bT, bT, bT, bT, bT, bT, bT, bT, bF, bF, bF, bF, bF, bF, bF, bF, bF, bF, bF] (v := undef) (hy := Or.inr ⟨by rfl, rfl⟩) (h := ?_)
  refine ppx (i := 11) (N := some 16) #[bT, bT, bT, bT, bT, bT, bT, bT, bT, bT, bT, bT, bF, bF, bF, bF, bF, bF, bF, bF, bF, bF] (v := undef) (hy := Or.inr ⟨by rfl, rfl⟩) (h := ?_)
  refine ppx (i := 12) (N := some 17) #[bT, bT, bT, bT, bT, bT, bT, bT, bT, bT, bT, bT, bT, bF, bF, bF, bF, bF, bF, bF, bF, bF] (v := undef) (hy := Or.inr ⟨by rfl, rfl⟩) (h := ?_)
  refine ppx (i := 13) (N := some 18) #[bT, bT, bT, bT, bT, bT, bT, bT, bT, bT, bT, bT, bT, bT, bF, bF, bF, bF, bF, bF, bF, bF] (v := undef) (hy := Or.inr ⟨by rfl, rfl⟩) (h := ?_)
  refine ppx (i := 14) (N := some 19) #[bT, bT, bT, bT, bT, bT, bT, bT, bT, bT, bT, bT, bT, bT, bT, bF, bF, bF, bF, bF, bF, bF] (v := undef) (hy := Or.inr ⟨by rfl, rfl⟩) (h := ?_)
  refine ppx (i := 15) (N := some 20) #[bT, bT, bT, bT, bT, bT, bT, bT, bT, bT, bT, bT, bT, bT, bT, bT, bF, bF, bF, bF, bF, bF] (v := undef) (hy := Or.inr ⟨by rfl, rfl⟩) (h := ?_)
  refine ppx (i := 16) (N := some 21) #[bT, bT, bT, bT, bT, bT, bT, bT, bT, bT, bT, bT, bT, bT, bT, bT, bT, bF, bF, bF, bF, bF] (v := undef) (hy := Or.inr ⟨by rfl, rfl⟩) (h := ?_)
  refine ppx (i := 17) (N := some 22) #[bT, bT, bT, bT, bT, bT, bT, bT, bT, bT, bT, bT, bT, bT, bT, bT, bT, bT, bF, bF, bF, bF] (v := undef) (hy := Or.inr ⟨by rfl, rfl⟩) (h := ?_)
  refine ppx (i := 18) (N := some 23) #[bT, bT, bT, bT, bT, bT, bT, bT, bT, bT, bT, bT, bT, bT, bT, bT, bT, bT, bT, bF, bF, bF] (v := undef) (hy := Or.inr ⟨by rfl, rfl⟩) (h := ?_)
  refine ppx (i := 19) (N := some 24) #[bT, bT, bT, bT, bT, bT, bT, bT, bT, bT, bT, bT, bT, bT, bT, bT, bT, bT, bT, bT, bF, bF] (v := undef) (hy := Or.inr ⟨by rfl, rfl⟩) (h := ?_)
  refine ppx (i := 20) (N := some 25) #[bT, bT, bT, bT, bT, bT, bT, bT, bT, bT, bT, bT, bT, bT, bT, bT, bT, bT, bT, bT, bT, bF] (v := undef) (hy := Or.inr ⟨by rfl, rfl⟩) (h := ?_)
  refine ppx (i := 21) (N := some 26) #[bT, bT, bT, bT, bT, bT, bT, bT, bT, bT, bT, bT, bT, bT, bT, bT, bT, bT, bT, bT, bT, bT] (h := ?_)
  refine done_ (by kernel_rfl) ?_
  have hb : Bel W0 (W0.drew) := (Below.refl _ _).drew
  replace HN := Lib.hid (HN.out.bel hb)
  replace HP := Lib.hid (HP.out.bel hb)
  replace HV := Lib.hid (HV.out.bel hb)
  replace HW := Lib.hid (HW.out.tr hb)
  generalize W0.drew = W1 at hb HN HP HV HW ⊢
  clear hb
  go_wp2
  go_ret
  exact ⟨rfl, _, HN.out, HV.out, Chg.of_bel HW.out, fun k hk => .inl hk⟩
 ·by_cases c2 : mt = term
  ·subst c2
   cases leads with
   | true =>
    obtain ⟨rfl, rfl⟩ : false = z ∧ _ = xn := ⟨(join_nay (.inr ⟨rfl, rfl⟩)).1.symm.trans HZ.out.1, (join_nay (.inr ⟨rfl, rfl⟩)).2.symm.trans HZ.out.2⟩
    refine start_ (n := 22) (S := fun w' => w'.cell? ⟨b, 1, none⟩ = some (.int .i64 mt) ∧ w'.cell? ⟨b, 2, none⟩ = some (.bool true) ∧ w'.cell? ⟨w.heap.size, 2, none⟩ = some (.int .i64 mt)) (ds := []) #[bF, bF, bF, bF, bF, bF, bF, bF, bF, bF, bF, bF, bF, bF, bF, bF, bF, bF, bF, bF, bF, bF] (by kernel_rfl) rfl rfl ⟨(blkn (HN.out.bel (Below.refl _ _).drew) 1 _ rfl), (blkn (HN.out.bel (Below.refl _ _).drew) 2 _ rfl), (blkn (HP.out.bel (Below.refl _ _).drew) 2 _ rfl)⟩ (fun hHeld => ?_)
    refine ppx (i := 0) (N := some 5) #[bT, bF, bF, bF, bF, bF, bF, bF, bF, bF, bF, bF, bF, bF, bF, bF, bF, bF, bF, bF, bF, bF] (h := ?_)
    refine ppx (i := 2) (N := some 7) #[bT, bF, bT, bF, bF, bF, bF, bF, bF, bF, bF, bF, bF, bF, bF, bF, bF, bF, bF, bF, bF, bF] (h := ?_)
    refine ppx (i := 3) (N := some 8) #[bT, bF, bT, bT, bF, bF, bF, bF, bF, bF, bF, bF, bF, bF, bF, bF, bF, bF, bF, bF, bF, bF] (h := ?_)
    refine ppx (i := 4) (N := some 9) #[bT, bF, bT, bT, bT, bF, bF, bF, bF, bF, bF, bF, bF, bF, bF, bF, bF, bF, bF, bF, bF, bF] (h := ?_)
    refine tpx (i := 1) (N := some 6) #[bT, bT, bT, bT, bT, bF, bF, bF, bF, bF, bF, bF, bF, bF, bF, bF, bF, bF, bF, bF, bF, bF] (hy := (Or.inl ⟨by rfl, by rintro w' ⟨s0, s1, s2⟩; go_simp; with_reducible rfl⟩)) (hS := hHeld) (h := ?_)
    refine tpx (i := 5) (N := some 10) #[bT, bT, bT, bT, bT, bT, bF, bF, bF, bF, bF, bF, bF, bF, bF, bF, bF, bF, bF, bF, bF, bF] (hy := (Or.inl ⟨by rfl, by rintro w' ⟨s0, s1, s2⟩; go_simp; with_reducible rfl⟩)) (hS := hHeld) (h := ?_)
    refine ppx (i := 6) (N := some 11) #[bT, bT, bT, bT, bT, bT, bT, bF, bF, bF, bF, bF, bF, bF, bF, bF, bF, bF, bF, bF, bF, bF] (h := ?_)
    refine ppx (i := 7) (N := some 12) #[bT, bT, bT, bT, bT, bT, bT, bT, bF, bF, bF, bF, bF, bF, bF, bF, bF, bF, bF, bF, bF, bF] (h := ?_)
    refine ppx (i := 8) (N := some 13) #[bT, bT, bT, bT, bT, bT, bT, bT, bT, bF, bF, bF, bF, bF, bF, bF, bF, bF, bF, bF, bF, bF] (h := ?_)
    refine ppx (i := 10) (N := some 15) #[bT, bT, bT, bT, bT, bT, bT, bT, bT, bF, bT, bF, bF, bF, bF, bF, bF, bF, bF, bF, bF, bF] (h := ?_)
    refine ppx (i := 11) (N := some 16) #[bT, bT, bT, bT, bT, bT, bT, bT, bT, bF, bT, bT, bF, bF, bF, bF, bF, bF, bF, bF, bF, bF] (h := ?_)
    refine ppx (i := 12) (N := some 17) #[bT, bT, bT, bT, bT, bT, bT, bT, bT, bF, bT, bT, bT, bF, bF, bF, bF, bF, bF, bF, bF, bF] (h := ?_)
    refine tpx (i := 9) (N := some 14) #[bT, bT, bT, bT, bT, bT, bT, bT, bT, bT, bT, bT, bT, bF, bF, bF, bF, bF, bF, bF, bF, bF] (hy := (Or.inl ⟨by rfl, by rintro w' ⟨s0, s1, s2⟩; go_simp; with_reducible rfl⟩)) (hS := hHeld) (h := ?_)
    refine tpx (i := 13) (N := some 18) #[bT, bT, bT, bT, bT, bT, bT, bT, bT, bT, bT, bT, bT, bT, bF, bF, bF, bF, bF, bF, bF, bF] (hy := (Or.inl ⟨by rfl, by rintro w' ⟨s0, s1, s2⟩; go_simp; with_reducible rfl⟩)) (hS := hHeld) (h := ?_)
    refine ppx (i := 14) (N := some 19) #[bT, bT, bT, bT, bT, bT, bT, bT, bT, bT, bT, bT, bT, bT, bT, bF, bF, bF, bF, bF, bF, bF] (h := ?_)
    refine ppx (i := 15) (N := some 20) #[bT, bT, bT, bT, bT, bT, bT, bT, bT, bT, bT, bT, bT, bT, bT, bT, bF, bF, bF, bF, bF, bF] (h := ?_)
    refine ppx (i := 16) (N := some 21) #[bT, bT, bT, bT, bT, bT, bT, bT, bT, bT, bT, bT, bT, bT, bT, bT, bT, bF, bF, bF, bF, bF] (h := ?_)
    refine ppx (i := 17) (N := some 22) #[bT, bT, bT, bT, bT, bT, bT, bT, bT, bT, bT, bT, bT, bT, bT, bT, bT, bT, bF, bF, bF, bF] (h := ?_)
    refine ppx (i := 18) (N := some 23) #[bT, bT, bT, bT, bT, bT, bT, bT, bT, bT, bT, bT, bT, bT, bT, bT, bT, bT, bT, bF, bF, bF] (h := ?_)
    refine tpx (i := 19) (N := some 24) #[bT, bT, bT, bT, bT, bT, bT, bT, bT, bT, bT, bT, bT, bT, bT, bT, bT, bT, bT, bT, bF, bF] (hy := (Or.inl ⟨by rfl, by rintro w' ⟨s0, s1, s2⟩; go_simp; with_reducible rfl⟩)) (hS := hHeld) (h := ?_)
    refine ppx (i := 20) (N := some 25) #[bT, bT, bT, bT, bT, bT, bT, bT, bT, bT, bT, bT, bT, bT, bT, bT, bT, bT, bT, bT, bT, bF] (h := ?_)
    refine ppx (i := 21) (N := some 26) #[bT, bT, bT, bT, bT, bT, bT, bT, bT, bT, bT, bT, bT, bT, bT, bT, bT, bT, bT, bT, bT, bT] (h := ?_)
    refine done_ (by kernel_rfl) ?_
    have hb : Bel W0 (W0.drew) := (Below.refl _ _).drew
    replace HN := Lib.hid (HN.out.bel hb)
    replace HP := Lib.hid (HP.out.bel hb)
    replace HV := Lib.hid (HV.out.bel hb)
    replace HW := Lib.hid (HW.out.tr hb)
    generalize W0.drew = W1 at hb HN HP HV HW ⊢
    clear hb
    go_wp2
    go_ret
    exact ⟨rfl, _, HN.out, HV.out, Chg.of_bel HW.out, fun k hk => .inl hk⟩
   | false =>
    have hj := join_aye (n := ⟨up, mt, false, alone, ops⟩) (whom := whom) (mn := mn) (op := op) (mops := mops) (mt := mt) (by simp) (by simp)
    by_cases c3 : (ops.length : Int) < mn
    ·obtain ⟨rfl, rfl⟩ : true = z ∧ (⟨up, mt, false, false, mops⟩ : Node) = xn := ⟨hj.1.symm.trans HZ.out.1, ((if_pos (.inr c3)).symm.trans hj.2.symm).trans HZ.out.2⟩
     clear hj
     refine start_ (n := 22) (S := fun w' => w'.cell? ⟨b, 1, none⟩ = some (.int .i64 mt) ∧ w'.cell? ⟨b, 2, none⟩ = some (.bool false) ∧ w'.cell? ⟨w.heap.size, 2, none⟩ = some (.int .i64 mt)) (ds := []) #[bF, bF, bF, bF, bF, bF, bF, bF, bF, bF, bF, bF, bF, bF, bF, bF, bF, bF, bF, bF, bF, bF] (by kernel_rfl) rfl rfl ⟨(blkn (HN.out.bel (Below.refl _ _).drew) 1 _ rfl), (blkn (HN.out.bel (Below.refl _ _).drew) 2 _ rfl), (blkn (HP.out.bel (Below.refl _ _).drew) 2 _ rfl)⟩ (fun hHeld => ?_)
     refine ppx (i := 0) (N := some 5) #[bT, bF, bF, bF, bF, bF, bF, bF, bF, bF, bF, bF, bF, bF, bF, bF, bF, bF, bF, bF, bF, bF] (h := ?_)
     refine ppx (i := 2) (N := some 7) #[bT, bF, bT, bF, bF, bF, bF, bF, bF, bF, bF, bF, bF, bF, bF, bF, bF, bF, bF, bF, bF, bF] (h := ?_)
     refine ppx (i := 3) (N := some 8) #[bT, bF, bT, bT, bF, bF, bF, bF, bF, bF, bF, bF, bF, bF, bF, bF, bF, bF, bF, bF, bF, bF] (h := ?_)
     refine ppx (i := 4) (N := some 9) #[bT, bF, bT, bT, bT, bF, bF, bF, bF, bF, bF, bF, bF, bF, bF, bF, bF, bF, bF, bF, bF, bF] (h := ?_)
     refine tpx (i := 1) (N := some 6) #[bT, bT, bT, bT, bT, bF, bF, bF, bF, bF, bF, bF, bF, bF, bF, bF, bF, bF, bF, bF, bF, bF] (hy := (Or.inl ⟨by rfl, by rintro w' ⟨s0, s1, s2⟩; go_simp; with_reducible rfl⟩)) (hS := hHeld) (h := ?_)
     refine tpx (i := 5) (N := some 10) #[bT, bT, bT, bT, bT, bT, bF, bF, bF, bF, bF, bF, bF, bF, bF, bF, bF, bF, bF, bF, bF, bF] (hy := (Or.inl ⟨by rfl, by rintro w' ⟨s0, s1, s2⟩; go_simp; with_reducible rfl⟩)) (hS := hHeld) (h := ?_)
     refine ppx (i := 6) (N := some 11) #[bT, bT, bT, bT, bT, bT, bT, bF, bF, bF, bF, bF, bF, bF, bF, bF, bF, bF, bF, bF, bF, bF] (h := ?_)
     refine ppx (i := 7) (N := some 12) #[bT, bT, bT, bT, bT, bT, bT, bT, bF, bF, bF, bF, bF, bF, bF, bF, bF, bF, bF, bF, bF, bF] (h := ?_)
     refine ppx (i := 8) (N := some 13) #[bT, bT, bT, bT, bT, bT, bT, bT, bT, bF, bF, bF, bF, bF, bF, bF, bF, bF, bF, bF, bF, bF] (h := ?_)
     refine ppx (i := 10) (N := some 15) #[bT, bT, bT, bT, bT, bT, bT, bT, bT, bF, bT, bF, bF, bF, bF, bF, bF, bF, bF, bF, bF, bF] (h := ?_)
     refine ppx (i := 11) (N := some 16) #[bT, bT, bT, bT, bT, bT, bT, bT, bT, bF, bT, bT, bF, bF, bF, bF, bF, bF, bF, bF, bF, bF] (h := ?_)
     refine ppx (i := 12) (N := some 17) #[bT, bT, bT, bT, bT, bT, bT, bT, bT, bF, bT, bT, bT, bF, bF, bF, bF, bF, bF, bF, bF, bF] (h := ?_)
     refine tpx (i := 9) (N := some 14) #[bT, bT, bT, bT, bT, bT, bT, bT, bT, bT, bT, bT, bT, bF, bF, bF, bF, bF, bF, bF, bF, bF] (hy := (Or.inl ⟨by rfl, by rintro w' ⟨s0, s1, s2⟩; go_simp; with_reducible rfl⟩)) (hS := hHeld) (h := ?_)
     refine tpx (i := 13) (N := some 18) #[bT, bT, bT, bT, bT, bT, bT, bT, bT, bT, bT, bT, bT, bT, bF, bF, bF, bF, bF, bF, bF, bF] (hy := (Or.inl ⟨by rfl, by rintro w' ⟨s0, s1, s2⟩; go_simp; with_reducible rfl⟩)) (hS := hHeld) (h := ?_)
     refine ppx (i := 14) (N := some 19) #[bT, bT, bT, bT, bT, bT, bT, bT, bT, bT, bT, bT, bT, bT, bT, bF, bF, bF, bF, bF, bF, bF] (h := ?_)
     refine ppx (i := 15) (N := some 20) #[bT, bT, bT, bT, bT, bT, bT, bT, bT, bT, bT, bT, bT, bT, bT, bT, bF, bF, bF, bF, bF, bF] (h := ?_)
     refine ppx (i := 16) (N := some 21) #[bT, bT, bT, bT, bT, bT, bT, bT, bT, bT, bT, bT, bT, bT, bT, bT, bT, bF, bF, bF, bF, bF] (h := ?_)
     refine ppx (i := 17) (N := some 22) #[bT, bT, bT, bT, bT, bT, bT, bT, bT, bT, bT, bT, bT, bT, bT, bT, bT, bT, bF, bF, bF, bF] (h := ?_)
     refine ppx (i := 18) (N := some 23) #[bT, bT, bT, bT, bT, bT, bT, bT, bT, bT, bT, bT, bT, bT, bT, bT, bT, bT, bT, bF, bF, bF] (h := ?_)
     refine tpx (i := 19) (N := some 24) #[bT, bT, bT, bT, bT, bT, bT, bT, bT, bT, bT, bT, bT, bT, bT, bT, bT, bT, bT, bT, bF, bF] (hy := (Or.inl ⟨by rfl, by rintro w' ⟨s0, s1, s2⟩; go_simp; with_reducible rfl⟩)) (hS := hHeld) (h := ?_)
     refine ppx (i := 20) (N := some 25) #[bT, bT, bT, bT, bT, bT, bT, bT, bT, bT, bT, bT, bT, bT, bT, bT, bT, bT, bT, bT, bT, bF] (h := ?_)
     refine ppx (i := 21) (N := some 26) #[bT, bT, bT, bT, bT, bT, bT, bT, bT, bT, bT, bT, bT, bT, bT, bT, bT, bT, bT, bT, bT, bT] (h := ?_)
     refine done_ (by kernel_rfl) ?_
     have hb : Bel W0 (W0.drew) := (Below.refl _ _).drew
     replace HN := Lib.hid (HN.out.bel hb)
     replace HP := Lib.hid (HP.out.bel hb)
     replace HV := Lib.hid (HV.out.bel hb)
     replace HW := Lib.hid (HW.out.tr hb)
     generalize W0.drew = W1 at hb HN HP HV HW ⊢
     clear hb
     go_wp2
     refine start_ (n := 17) (S := fun w' => w'.cell? ⟨b, 1, none⟩ = some (.int .i64 mt) ∧ w'.cell? ⟨b, 4, none⟩ = some (.slice A ops.length c) ∧ w'.cell? ⟨w.heap.size, 2, none⟩ = some (.int .i64 mt) ∧ w'.cell? ⟨w.heap.size, 3, none⟩ = some (.int .i64 mn)) (ds := []) #[bF, bF, bF, bF, bF, bF, bF, bF, bF, bF, bF, bF, bF, bF, bF, bF, bF] (by kernel_rfl) rfl rfl ⟨(blkn (HN.out.bel (Below.refl _ _).drew) 1 _ rfl), (blkn (HN.out.bel (Below.refl _ _).drew) 4 _ rfl), (blkn (HP.out.bel (Below.refl _ _).drew) 2 _ rfl), (blkn (HP.out.bel (Below.refl _ _).drew) 3 _ rfl)⟩ (fun hHeld => ?_)
     refine ppx (i := 0) (N := some 27) #[bT, bF, bF, bF, bF, bF, bF, bF, bF, bF, bF, bF, bF, bF, bF, bF, bF] (h := ?_)
     refine ppx (i := 2) (N := some 29) #[bT, bF, bT, bF, bF, bF, bF, bF, bF, bF, bF, bF, bF, bF, bF, bF, bF] (h := ?_)
     refine ppx (i := 3) (N := some 30) #[bT, bF, bT, bT, bF, bF, bF, bF, bF, bF, bF, bF, bF, bF, bF, bF, bF] (h := ?_)
     refine ppx (i := 4) (N := some 31) #[bT, bF, bT, bT, bT, bF, bF, bF, bF, bF, bF, bF, bF, bF, bF, bF, bF] (h := ?_)
     refine tpx (i := 1) (N := some 28) #[bT, bT, bT, bT, bT, bF, bF, bF, bF, bF, bF, bF, bF, bF, bF, bF, bF] (hy := (Or.inl ⟨by rfl, by rintro w' ⟨s0, s1, s2, s3⟩; go_simp; with_reducible rfl⟩)) (hS := hHeld) (h := ?_)
     refine tpx (i := 5) (N := some 32) #[bT, bT, bT, bT, bT, bT, bF, bF, bF, bF, bF, bF, bF, bF, bF, bF, bF] (hy := (Or.inl ⟨by rfl, by rintro w' ⟨s0, s1, s2, s3⟩; go_simp; with_reducible rfl⟩)) (hS := hHeld) (h := ?_)
     refine ppx (i := 6) (N := some 33) #[bT, bT, bT, bT, bT, bT, bT, bF, bF, bF, bF, bF, bF, bF, bF, bF, bF] (h := ?_)
     refine ppx (i := 7) (N := some 34) #[bT, bT, bT, bT, bT, bT, bT, bT, bF, bF, bF, bF, bF, bF, bF, bF, bF] (h := ?_)
     refine ppx (i := 8) (N := some 35) #[bT, bT, bT, bT, bT, bT, bT, bT, bT, bF, bF, bF, bF, bF, bF, bF, bF] (h := ?_)
     refine ppx (i := 10) (N := some 37) #[bT, bT, bT, bT, bT, bT, bT, bT, bT, bF, bT, bF, bF, bF, bF, bF, bF] (h := ?_)
     refine ppx (i := 11) (N := some 38) #[bT, bT, bT, bT, bT, bT, bT, bT, bT, bF, bT, bT, bF, bF, bF, bF, bF] (h := ?_)
     refine ppx (i := 12) (N := some 39) #[bT, bT, bT, bT, bT, bT, bT, bT, bT, bF, bT, bT, bT, bF, bF, bF, bF] (h := ?_)
     refine tpx (i := 9) (N := some 36) #[bT, bT, bT, bT, bT, bT, bT, bT, bT, bT, bT, bT, bT, bF, bF, bF, bF] (hy := (Or.inl ⟨by rfl, by rintro w' ⟨s0, s1, s2, s3⟩; go_simp; with_reducible rfl⟩)) (hS := hHeld) (h := ?_)
     refine tpx (i := 13) (N := some 40) #[bT, bT, bT, bT, bT, bT, bT, bT, bT, bT, bT, bT, bT, bT, bF, bF, bF] (hy := (Or.inl ⟨by rfl, by rintro w' ⟨s0, s1, s2, s3⟩; go_simp; with_reducible rfl⟩)) (hS := hHeld) (h := ?_)
     refine ppx (i := 14) (N := some 41) #[bT, bT, bT, bT, bT, bT, bT, bT, bT, bT, bT, bT, bT, bT, bT, bF, bF] (h := ?_)
     refine ppx (i := 15) (N := some 42) #[bT, bT, bT, bT, bT, bT, bT, bT, bT, bT, bT, bT, bT, bT, bT, bT, bF] (h := ?_)
     refine ppx (i := 16) (N := some 43) #[bT, bT, bT, bT, bT, bT, bT, bT, bT, bT, bT, bT, bT, bT, bT, bT, bT] (h := ?_)
     refine done_ (by kernel_rfl) ?_
     have hb : Bel W1 (W1.drew) := (Below.refl _ _).drew
     replace HN := Lib.hid (HN.out.bel hb)
     replace HP := Lib.hid (HP.out.bel hb)
     replace HV := Lib.hid (HV.out.bel hb)
     replace HW := Lib.hid (HW.out.tr hb)
     generalize W1.drew = W2 at hb HN HP HV HW ⊢
     clear hb
     go_wp2
     have hne : ¬ b = w.heap.size := by omega
     refine start_ (n := 13) (S := fun w' => w'.cell? ⟨w.heap.size, 2, none⟩ = some (.int .i64 mt) ∧ w'.cell? ⟨w.heap.size, 9, none⟩ = some (.slice B mops.length bc)) (ds := [12]) #[bF, bF, bF, bF, bF, bF, bF, bF, bF, bF, bF, bF, bF] (by kernel_rfl) rfl rfl ⟨(blkn (HP.out.bel (Below.refl _ _).drew) 2 _ rfl), (blkn (HP.out.bel (Below.refl _ _).drew) 9 _ rfl)⟩ (fun hHeld => ?_)
     refine ppx (i := 0) (N := some 44) #[bT, bF, bF, bF, bF, bF, bF, bF, bF, bF, bF, bF, bF] (h := ?_)
     refine ppx (i := 1) (N := some 45) #[bT, bT, bF, bF, bF, bF, bF, bF, bF, bF, bF, bF, bF] (h := ?_)
     refine ppx (i := 2) (N := some 46) #[bT, bT, bT, bF, bF, bF, bF, bF, bF, bF, bF, bF, bF] (h := ?_)
     refine ppx (i := 4) (N := some 48) #[bT, bT, bT, bF, bT, bF, bF, bF, bF, bF, bF, bF, bF] (h := ?_)
     refine tpx (i := 3) (N := some 47) #[bT, bT, bT, bT, bT, bF, bF, bF, bF, bF, bF, bF, bF] (hy := (Or.inl ⟨by rfl, by rintro w' ⟨s0, s1⟩; go_simp; with_reducible rfl⟩)) (hS := hHeld) (h := ?_)
     refine tpx (i := 5) (N := some 49) #[bT, bT, bT, bT, bT, bT, bF, bF, bF, bF, bF, bF, bF] (hy := (Or.inl ⟨by rfl, by rintro w' ⟨s0, s1⟩; go_simp; with_reducible rfl⟩)) (hS := hHeld) (h := ?_)
     refine one_ (i := 6) (N := some 50) #[bT, bT, bT, bT, bT, bT, bT, bF, bF, bF, bF, bF, bF] rfl rfl (by kernel_rfl) (by decide) (fun K hK => ?_)
     refine goes_ Tryz.func102 (by kernel_rfl) rfl #[.slice B mops.length bc] (by rfl) rfl rfl (by simp only [List.map_toArray, List.map_cons, List.map_nil]; rfl) ?_
     with_reducible refine (cloneO_c (kOp_keep HDM.out (HW.out.tr (Below.refl _ _).drew)) hlm).mono ?_
     rintro e w5 ⟨v, rfl, hoo, hb5⟩
     have hbC : Bel W2 w5 := Bel.tr (b := W2.drew) (Below.refl _ _).drew hb5
     obtain ⟨C4, c4, rfl, -, -⟩ := hoo.reads
     have HV5 := Lib.hid (show OwnO w5 base (.slice C4 mops.length c4) mops from own_lower hoo (Nat.le_trans HBS.out HW.out.size))
     have HBA := Lib.hid (show ∀ k, (Value.slice C4 mops.length c4).ownBlock = some k → w.heap.size ≤ k from fun k hk => Nat.le_trans HW.out.size (own_base hoo k hk))
     have HN5 := Lib.hid (HN.out.bel hbC)
     have HW5 := Lib.hid (HW.out.tr hbC)
     clear hoo hb5
     have x0 := blkn HN5.out 0 _ rfl
     have x1 := blkn HN5.out 1 _ rfl
     have x2 := blkn HN5.out 2 _ rfl
     have x3 := blkn HN5.out 3 _ rfl
     have x4 := blkn HN5.out 4 _ rfl
     have xf0 := HN5.out.free 0
     have xf1 := HN5.out.free 1
     have xf2 := HN5.out.free 2
     have xf3 := HN5.out.free 3
     have xf4 := HN5.out.free 4
     have xy := HN5.out.lt
     refine ⟨_, rfl, ?_⟩
     refine hK.out _ _ ⟨(blkn (HP.out.bel hbC) 2 _ rfl), (blkn (HP.out.bel hbC) 9 _ rfl)⟩ (fun hHeld => ?_)
     clear hK K
     refine nox 50 (h := ?_)
     refine ppx (i := 7) (N := some 51) #[bT, bT, bT, bT, bT, bT, bT, bT, bF, bF, bF, bF, bF] (h := ?_)
     refine ppx (i := 8) (N := some 52) #[bT, bT, bT, bT, bT, bT, bT, bT, bT, bF, bF, bF, bF] (h := ?_)
     refine one_ (i := 9) (N := none) #[bT, bT, bT, bT, bT, bT, bT, bT, bT, bT, bF, bF, bF] rfl rfl (by kernel_rfl) (by decide) (fun K hK => ?_)
     refine skip_ (by rfl) rfl (by go_simp; rfl) ?_
     refine hK.out _ _ ⟨(blkn ((HP.out.bel hbC).apart hne 1 (.int .i64 mt)) 2 _ rfl), (blkn ((HP.out.bel hbC).apart hne 1 (.int .i64 mt)) 9 _ rfl)⟩ (fun hHeld => ?_)
     clear hK K
     refine ppx (i := 10) (N := some 53) #[bT, bT, bT, bT, bT, bT, bT, bT, bT, bT, bT, bF, bF] (h := ?_)
     refine ppx (i := 11) (N := some 54) #[bT, bT, bT, bT, bT, bT, bT, bT, bT, bT, bT, bT, bF] (h := ?_)
     refine last_ (i := 12) (N := none) #[bT, bT, bT, bT, bT, bT, bT, bT, bT, bT, bT, bT, bT] rfl rfl (by kernel_rfl) (by decide) (fun K hK => ?_)
     refine skip_ (by rfl) rfl (by go_simp; rfl) ?_
     refine hK.out _ _ ?_
     clear hK K
     refine done_ (by kernel_rfl) ?_
     clear x0 xf0 x1 xf1 x2 xf2 x3 xf3 x4 xf4 xy
     have hN6 := (HN5.out.set 1 (.int .i64 mt) (cs' := #[.bool up, .int .i64 mt, .bool false, .bool alone, .slice A ops.length c]) rfl).set 4 (.slice C4 mops.length c4) (cs' := #[.bool up, .int .i64 mt, .bool false, .bool alone, .slice C4 mops.length c4]) rfl
     have hV6 := (HV5.out.far HN5.out (by decide) 1 (.int .i64 mt)).far (HN5.out.set 1 (.int .i64 mt) (cs' := #[.bool up, .int .i64 mt, .bool false, .bool alone, .slice A ops.length c]) rfl) (by decide) 4 (.slice C4 mops.length c4)
     have hC6 := ((Chg.of_bel HW5.out (b := b) (r := (Value.slice A ops.length c).ownBlock)).set 1 (.int .i64 mt)).set 4 (.slice C4 mops.length c4)
     generalize ((w5.setCell ⟨b, 1, none⟩ (.int .i64 mt)).setCell ⟨b, 4, none⟩ (.slice C4 mops.length c4)) = W6 at hN6 hV6 hC6 ⊢
     have x2 := blkn hN6 2 _ rfl
     have x3 := blkn hN6 3 _ rfl
     have xf2 := hN6.free 2
     have xf3 := hN6.free 3
     have xy := hN6.lt
     go_wp2
     clear x2 x3 xf2 xf3 xy
     have hN7 := (hN6.set 2 (.bool false) (cs' := #[.bool up, .int .i64 mt, .bool false, .bool alone, .slice C4 mops.length c4]) rfl).set 3 (.bool false) (cs' := #[.bool up, .int .i64 mt, .bool false, .bool false, .slice C4 mops.length c4]) rfl
     have hV7 := (hV6.far hN6 (by decide) 2 (.bool false)).far (hN6.set 2 (.bool false) (cs' := #[.bool up, .int .i64 mt, .bool false, .bool alone, .slice C4 mops.length c4]) rfl) (by decide) 3 (.bool false)
     have hC7 := (hC6.set 2 (.bool false)).set 3 (.bool false)
     go_ret
     exact ⟨rfl, _, hN7, hV7, hC7, fun k hk => .inr (HBA.out k hk)⟩
    ·obtain ⟨rfl, rfl⟩ : true = z ∧ (⟨up, mt, false, alone, ops⟩ : Node) = xn := ⟨hj.1.symm.trans HZ.out.1, ((if_neg (by show ¬ (mt < mt ∨ (ops.length : Int) < mn); omega)).symm.trans hj.2.symm).trans HZ.out.2⟩
     clear hj
     refine start_ (n := 22) (S := fun w' => w'.cell? ⟨b, 1, none⟩ = some (.int .i64 mt) ∧ w'.cell? ⟨b, 2, none⟩ = some (.bool false) ∧ w'.cell? ⟨w.heap.size, 2, none⟩ = some (.int .i64 mt)) (ds := []) #[bF, bF, bF, bF, bF, bF, bF, bF, bF, bF, bF, bF, bF, bF, bF, bF, bF, bF, bF, bF, bF, bF] (by kernel_rfl) rfl rfl ⟨(blkn (HN.out.bel (Below.refl _ _).drew) 1 _ rfl), (blkn (HN.out.bel (Below.refl _ _).drew) 2 _ rfl), (blkn (HP.out.bel (Below.refl _ _).drew) 2 _ rfl)⟩ (fun hHeld => ?_)
     refine ppx (i := 0) (N := some 5) #[bT, bF, bF, bF, bF, bF, bF, bF, bF, bF, bF, bF, bF, bF, bF, bF, bF, bF, bF, bF, bF, bF] (h := ?_)
     refine ppx (i := 2) (N := some 7) #[bT, bF, bT, bF, bF, bF, bF, bF, bF, bF, bF, bF, bF, bF, bF, bF, bF, bF, bF, bF, bF, bF] (h := ?_)
     refine ppx (i := 3) (N := some 8) #[bT, bF, bT, bT, bF, bF, bF, bF, bF, bF, bF, bF, bF, bF, bF, bF, bF, bF, bF, bF, bF, bF] (h := ?_)
     refine ppx (i := 4) (N := some 9) #[bT, bF, bT, bT, bT, bF, bF, bF, bF, bF, bF, bF, bF, bF, bF, bF, bF, bF, bF, bF, bF, bF] (h := ?_)
     refine tpx (i := 1) (N := some 6) #[bT, bT, bT, bT, bT, bF, bF, bF, bF, bF, bF, bF, bF, bF, bF, bF, bF, bF, bF, bF, bF, bF] (hy := (Or.inl ⟨by rfl, by rintro w' ⟨s0, s1, s2⟩; go_simp; with_reducible rfl⟩)) (hS := hHeld) (h := ?_)
     refine tpx (i := 5) (N := some 10) #[bT, bT, bT, bT, bT, bT, bF, bF, bF, bF, bF, bF, bF, bF, bF, bF, bF, bF, bF, bF, bF, bF] (hy := (Or.inl ⟨by rfl, by rintro w' ⟨s0, s1, s2⟩; go_simp; with_reducible rfl⟩)) (hS := hHeld) (h := ?_)
     refine ppx (i := 6) (N := some 11) #[bT, bT, bT, bT, bT, bT, bT, bF, bF, bF, bF, bF, bF, bF, bF, bF, bF, bF, bF, bF, bF, bF] (h := ?_)
     refine ppx (i := 7) (N := some 12) #[bT, bT, bT, bT, bT, bT, bT, bT, bF, bF, bF, bF, bF, bF, bF, bF, bF, bF, bF, bF, bF, bF] (h := ?_)
     refine ppx (i := 8) (N := some 13) #[bT, bT, bT, bT, bT, bT, bT, bT, bT, bF, bF, bF, bF, bF, bF, bF, bF, bF, bF, bF, bF, bF] (h := ?_)
     refine ppx (i := 10) (N := some 15) #[bT, bT, bT, bT, bT, bT, bT, bT, bT, bF, bT, bF, bF, bF, bF, bF, bF, bF, bF, bF, bF, bF] (h := ?_)
     refine ppx (i := 11) (N := some 16) #[bT, bT, bT, bT, bT, bT, bT, bT, bT, bF, bT, bT, bF, bF, bF, bF, bF, bF, bF, bF, bF, bF] (h := ?_)
     refine ppx (i := 12) (N := some 17) #[bT, bT, bT, bT, bT, bT, bT, bT, bT, bF, bT, bT, bT, bF, bF, bF, bF, bF, bF, bF, bF, bF] (h := ?_)
     refine tpx (i := 9) (N := some 14) #[bT, bT, bT, bT, bT, bT, bT, bT, bT, bT, bT, bT, bT, bF, bF, bF, bF, bF, bF, bF, bF, bF] (hy := (Or.inl ⟨by rfl, by rintro w' ⟨s0, s1, s2⟩; go_simp; with_reducible rfl⟩)) (hS := hHeld) (h := ?_)
     refine tpx (i := 13) (N := some 18) #[bT, bT, bT, bT, bT, bT, bT, bT, bT, bT, bT, bT, bT, bT, bF, bF, bF, bF, bF, bF, bF, bF] (hy := (Or.inl ⟨by rfl, by rintro w' ⟨s0, s1, s2⟩; go_simp; with_reducible rfl⟩)) (hS := hHeld) (h := ?_)
     refine ppx (i := 14) (N := some 19) #[bT, bT, bT, bT, bT, bT, bT, bT, bT, bT, bT, bT, bT, bT, bT, bF, bF, bF, bF, bF, bF, bF] (h := ?_)
     refine ppx (i := 15) (N := some 20) #[bT, bT, bT, bT, bT, bT, bT, bT, bT, bT, bT, bT, bT, bT, bT, bT, bF, bF, bF, bF, bF, bF] (h := ?_)
     refine ppx (i := 16) (N := some 21) #[bT, bT, bT, bT, bT, bT, bT, bT, bT, bT, bT, bT, bT, bT, bT, bT, bT, bF, bF, bF, bF, bF] (h := ?_)
     refine ppx (i := 17) (N := some 22) #[bT, bT, bT, bT, bT, bT, bT, bT, bT, bT, bT, bT, bT, bT, bT, bT, bT, bT, bF, bF, bF, bF] (h := ?_)
     refine ppx (i := 18) (N := some 23) #[bT, bT, bT, bT, bT, bT, bT, bT, bT, bT, bT, bT, bT, bT, bT, bT, bT, bT, bT, bF, bF, bF] (h := ?_)
     refine tpx (i := 19) (N := some 24) #[bT, bT, bT, bT, bT, bT, bT, bT, bT, bT, bT, bT, bT, bT, bT, bT, bT, bT, bT, bT, bF, bF] (hy := (Or.inl ⟨by rfl, by rintro w' ⟨s0, s1, s2⟩; go_simp; with_reducible rfl⟩)) (hS := hHeld) (h := ?_)
     refine ppx (i := 20) (N := some 25) #[bT, bT, bT, bT, bT, bT, bT, bT, bT, bT, bT, bT, bT, bT, bT, bT, bT, bT, bT, bT, bT, bF] (h := ?_)
     refine ppx (i := 21) (N := some 26) #[bT, bT, bT, bT, bT, bT, bT, bT, bT, bT, bT, bT, bT, bT, bT, bT, bT, bT, bT, bT, bT, bT] (h := ?_)
     refine done_ (by kernel_rfl) ?_
     have hb : Bel W0 (W0.drew) := (Below.refl _ _).drew
     replace HN := Lib.hid (HN.out.bel hb)
     replace HP := Lib.hid (HP.out.bel hb)
     replace HV := Lib.hid (HV.out.bel hb)
     replace HW := Lib.hid (HW.out.tr hb)
     generalize W0.drew = W1 at hb HN HP HV HW ⊢
     clear hb
     go_wp2
     refine start_ (n := 17) (S := fun w' => w'.cell? ⟨b, 1, none⟩ = some (.int .i64 mt) ∧ w'.cell? ⟨b, 4, none⟩ = some (.slice A ops.length c) ∧ w'.cell? ⟨w.heap.size, 2, none⟩ = some (.int .i64 mt) ∧ w'.cell? ⟨w.heap.size, 3, none⟩ = some (.int .i64 mn)) (ds := []) #[bF, bF, bF, bF, bF, bF, bF, bF, bF, bF, bF, bF, bF, bF, bF, bF, bF] (by kernel_rfl) rfl rfl ⟨(blkn (HN.out.bel (Below.refl _ _).drew) 1 _ rfl), (blkn (HN.out.bel (Below.refl _ _).drew) 4 _ rfl), (blkn (HP.out.bel (Below.refl _ _).drew) 2 _ rfl), (blkn (HP.out.bel (Below.refl _ _).drew) 3 _ rfl)⟩ (fun hHeld => ?_)
     refine ppx (i := 0) (N := some 27) #[bT, bF, bF, bF, bF, bF, bF, bF, bF, bF, bF, bF, bF, bF, bF, bF, bF] (h := ?_)
     refine ppx (i := 2) (N := some 29) #[bT, bF, bT, bF, bF, bF, bF, bF, bF, bF, bF, bF, bF, bF, bF, bF, bF] (h := ?_)
     refine ppx (i := 3) (N := some 30) #[bT, bF, bT, bT, bF, bF, bF, bF, bF, bF, bF, bF, bF, bF, bF, bF, bF] (h := ?_)
     refine ppx (i := 4) (N := some 31) #[bT, bF, bT, bT, bT, bF, bF, bF, bF, bF, bF, bF, bF, bF, bF, bF, bF] (h := ?_)
     refine tpx (i := 1) (N := some 28) #[bT, bT, bT, bT, bT, bF, bF, bF, bF, bF, bF, bF, bF, bF, bF, bF, bF] (hy := (Or.inl ⟨by rfl, by rintro w' ⟨s0, s1, s2, s3⟩; go_simp; with_reducible rfl⟩)) (hS := hHeld) (h := ?_)
     refine tpx (i := 5) (N := some 32) #[bT, bT, bT, bT, bT, bT, bF, bF, bF, bF, bF, bF, bF, bF, bF, bF, bF] (hy := (Or.inl ⟨by rfl, by rintro w' ⟨s0, s1, s2, s3⟩; go_simp; with_reducible rfl⟩)) (hS := hHeld) (h := ?_)
     refine ppx (i := 6) (N := some 33) #[bT, bT, bT, bT, bT, bT, bT, bF, bF, bF, bF, bF, bF, bF, bF, bF, bF] (h := ?_)
     refine ppx (i := 7) (N := some 34) #[bT, bT, bT, bT, bT, bT, bT, bT, bF, bF, bF, bF, bF, bF, bF, bF, bF] (h := ?_)
     refine ppx (i := 8) (N := some 35) #[bT, bT, bT, bT, bT, bT, bT, bT, bT, bF, bF, bF, bF, bF, bF, bF, bF] (h := ?_)
     refine ppx (i := 10) (N := some 37) #[bT, bT, bT, bT, bT, bT, bT, bT, bT, bF, bT, bF, bF, bF, bF, bF, bF] (h := ?_)
     refine ppx (i := 11) (N := some 38) #[bT, bT, bT, bT, bT, bT, bT, bT, bT, bF, bT, bT, bF, bF, bF, bF, bF] (h := ?_)
     refine ppx (i := 12) (N := some 39) #[bT, bT, bT, bT, bT, bT, bT, bT, bT, bF, bT, bT, bT, bF, bF, bF, bF] (h := ?_)
     refine tpx (i := 9) (N := some 36) #[bT, bT, bT, bT, bT, bT, bT, bT, bT, bT, bT, bT, bT, bF, bF, bF, bF] (hy := (Or.inl ⟨by rfl, by rintro w' ⟨s0, s1, s2, s3⟩; go_simp; with_reducible rfl⟩)) (hS := hHeld) (h := ?_)
     refine tpx (i := 13) (N := some 40) #[bT, bT, bT, bT, bT, bT, bT, bT, bT, bT, bT, bT, bT, bT, bF, bF, bF] (hy := (Or.inl ⟨by rfl, by rintro w' ⟨s0, s1, s2, s3⟩; go_simp; with_reducible rfl⟩)) (hS := hHeld) (h := ?_)
     refine ppx (i := 14) (N := some 41) #[bT, bT, bT, bT, bT, bT, bT, bT, bT, bT, bT, bT, bT, bT, bT, bF, bF] (h := ?_)
     refine ppx (i := 15) (N := some 42) #[bT, bT, bT, bT, bT, bT, bT, bT, bT, bT, bT, bT, bT, bT, bT, bT, bF] (h := ?_)
     refine ppx (i := 16) (N := some 43) #[bT, bT, bT, bT, bT, bT, bT, bT, bT, bT, bT, bT, bT, bT, bT, bT, bT] (h := ?_)
     refine done_ (by kernel_rfl) ?_
     have hb : Bel W1 (W1.drew) := (Below.refl _ _).drew
     replace HN := Lib.hid (HN.out.bel hb)
     replace HP := Lib.hid (HP.out.bel hb)
     replace HV := Lib.hid (HV.out.bel hb)
     replace HW := Lib.hid (HW.out.tr hb)
     generalize W1.drew = W2 at hb HN HP HV HW ⊢
     clear hb
     go_wp2
     go_ret
     exact ⟨rfl, _, HN.out, HV.out, Chg.of_bel HW.out, fun k hk => .inl hk⟩
  ·have c3 : term < mt := by omega
   have hj := join_aye (n := ⟨up, term, leads, alone, ops⟩) (whom := whom) (mn := mn) (op := op) (mops := mops) (mt := mt) c1 (fun ⟨e, _⟩ => c2 e)
   obtain ⟨rfl, rfl⟩ : true = z ∧ (⟨up, mt, false, false, mops⟩ : Node) = xn := ⟨hj.1.symm.trans HZ.out.1, ((if_pos (.inl c3)).symm.trans hj.2.symm).trans HZ.out.2⟩
   clear hj
   have hq1 : (mt == term) = false := by simpa using c2
   refine start_ (n := 22) (S := fun w' => w'.cell? ⟨b, 1, none⟩ = some (.int .i64 term) ∧ w'.cell? ⟨w.heap.size, 2, none⟩ = some (.int .i64 mt)) (ds := []) #[bF, bF, bF, bF, bF, bF, bF, bF, bF, bF, bF, bF, bF, bF, bF, bF, bF, bF, bF, bF, bF, bF] (by kernel_rfl) rfl rfl ⟨(blkn (HN.out.bel (Below.refl _ _).drew) 1 _ rfl), (blkn (HP.out.bel (Below.refl _ _).drew) 2 _ rfl)⟩ (fun hHeld => ?_)
   refine ppx (i := 0) (N := some 5) #[bT, bF, bF, bF, bF, bF, bF, bF, bF, bF, bF, bF, bF, bF, bF, bF, bF, bF, bF, bF, bF, bF] (h := ?_)
   refine ppx (i := 2) (N := some 7) #[bT, bF, bT, bF, bF, bF, bF, bF, bF, bF, bF, bF, bF, bF, bF, bF, bF, bF, bF, bF, bF, bF] (h := ?_)
   refine ppx (i := 3) (N := some 8) #[bT, bF, bT, bT, bF, bF, bF, bF, bF, bF, bF, bF, bF, bF, bF, bF, bF, bF, bF, bF, bF, bF] (h := ?_)
   refine ppx (i := 4) (N := some 9) #[bT, bF, bT, bT, bT, bF, bF, bF, bF, bF, bF, bF, bF, bF, bF, bF, bF, bF, bF, bF, bF, bF] (h := ?_)
   refine tpx (i := 1) (N := some 6) #[bT, bT, bT, bT, bT, bF, bF, bF, bF, bF, bF, bF, bF, bF, bF, bF, bF, bF, bF, bF, bF, bF] (hy := (Or.inl ⟨by rfl, by rintro w' ⟨s0, s1⟩; go_simp; with_reducible rfl⟩)) (hS := hHeld) (h := ?_)
   refine tpx (i := 5) (N := some 10) #[bT, bT, bT, bT, bT, bT, bF, bF, bF, bF, bF, bF, bF, bF, bF, bF, bF, bF, bF, bF, bF, bF] (hy := (Or.inl ⟨by rfl, by rintro w' ⟨s0, s1⟩; go_simp; with_reducible rfl⟩)) (hS := hHeld) (h := ?_)
   refine ppx (i := 6) (N := some 11) #[bT, bT, bT, bT, bT, bT, bT, bF, bF, bF, bF, bF, bF, bF, bF, bF, bF, bF, bF, bF, bF, bF] (h := ?_)
   refine ppx (i := 7) (N := some 12) #[bT, bT, bT, bT, bT, bT, bT, bT, bF, bF, bF, bF, bF, bF, bF, bF, bF, bF, bF, bF, bF, bF] (h := ?_)
   refine ppx (i := 8) (N := some 13) #[bT, bT, bT, bT, bT, bT, bT, bT, bT, bF, bF, bF, bF, bF, bF, bF, bF, bF, bF, bF, bF, bF] (h := ?_)
   refine ppx (i := 10) (N := some 15) #[bT, bT, bT, bT, bT, bT, bT, bT, bT, bF, bT, bF, bF, bF, bF, bF, bF, bF, bF, bF, bF, bF] (h := ?_)
   refine ppx (i := 11) (N := some 16) #[bT, bT, bT, bT, bT, bT, bT, bT, bT, bF, bT, bT, bF, bF, bF, bF, bF, bF, bF, bF, bF, bF] (h := ?_)
   refine ppx (i := 12) (N := some 17) #[bT, bT, bT, bT, bT, bT, bT, bT, bT, bF, bT, bT, bT, bF, bF, bF, bF, bF, bF, bF, bF, bF] (h := ?_)
   refine tpx (i := 9) (N := some 14) #[bT, bT, bT, bT, bT, bT, bT, bT, bT, bT, bT, bT, bT, bF, bF, bF, bF, bF, bF, bF, bF, bF] (hy := (Or.inl ⟨by rfl, by rintro w' ⟨s0, s1⟩; go_simp; with_reducible rfl⟩)) (hS := hHeld) (h := ?_)
   refine tpx (i := 13) (N := some 18) #[bT, bT, bT, bT, bT, bT, bT, bT, bT, bT, bT, bT, bT, bT, bF, bF, bF, bF, bF, bF, bF, bF] (hy := (Or.inl ⟨by rfl, by rintro w' ⟨s0, s1⟩; go_simp; with_reducible rfl⟩)) (hS := hHeld) (h := ?_)
   refine ppx (i := 14) (N := some 19) #[bT, bT, bT, bT, bT, bT, bT, bT, bT, bT, bT, bT, bT, bT, bT, bF, bF, bF, bF, bF, bF, bF] (h := ?_)
   refine ppx (i := 15) (N := some 20) #[bT, bT, bT, bT, bT, bT, bT, bT, bT, bT, bT, bT, bT, bT, bT, bT, bF, bF, bF, bF, bF, bF] (h := ?_)
   refine ppx (i := 16) (N := some 21) #[bT, bT, bT, bT, bT, bT, bT, bT, bT, bT, bT, bT, bT, bT, bT, bT, bT, bF, bF, bF, bF, bF] (v := undef) (hy := Or.inr ⟨by rfl, rfl⟩) (h := ?_)
   refine ppx (i := 17) (N := some 22) #[bT, bT, bT, bT, bT, bT, bT, bT, bT, bT, bT, bT, bT, bT, bT, bT, bT, bT, bF, bF, bF, bF] (v := undef) (hy := Or.inr ⟨by rfl, rfl⟩) (h := ?_)
   refine ppx (i := 18) (N := some 23) #[bT, bT, bT, bT, bT, bT, bT, bT, bT, bT, bT, bT, bT, bT, bT, bT, bT, bT, bT, bF, bF, bF] (v := undef) (hy := Or.inr ⟨by rfl, rfl⟩) (h := ?_)
   refine ppx (i := 19) (N := some 24) #[bT, bT, bT, bT, bT, bT, bT, bT, bT, bT, bT, bT, bT, bT, bT, bT, bT, bT, bT, bT, bF, bF] (v := undef) (hy := Or.inr ⟨by rfl, rfl⟩) (h := ?_)
   refine ppx (i := 20) (N := some 25) #[bT, bT, bT, bT, bT, bT, bT, bT, bT, bT, bT, bT, bT, bT, bT, bT, bT, bT, bT, bT, bT, bF] (h := ?_)
   refine ppx (i := 21) (N := some 26) #[bT, bT, bT, bT, bT, bT, bT, bT, bT, bT, bT, bT, bT, bT, bT, bT, bT, bT, bT, bT, bT, bT] (h := ?_)
   refine done_ (by kernel_rfl) ?_
   have hb : Bel W0 (W0.drew) := (Below.refl _ _).drew
   replace HN := Lib.hid (HN.out.bel hb)
   replace HP := Lib.hid (HP.out.bel hb)
   replace HV := Lib.hid (HV.out.bel hb)
   replace HW := Lib.hid (HW.out.tr hb)
   generalize W0.drew = W1 at hb HN HP HV HW ⊢
   clear hb
   go_wp2
   refine start_ (n := 17) (S := fun w' => w'.cell? ⟨b, 1, none⟩ = some (.int .i64 term) ∧ w'.cell? ⟨w.heap.size, 2, none⟩ = some (.int .i64 mt)) (ds := []) #[bF, bF, bF, bF, bF, bF, bF, bF, bF, bF, bF, bF, bF, bF, bF, bF, bF] (by kernel_rfl) rfl rfl ⟨(blkn (HN.out.bel (Below.refl _ _).drew) 1 _ rfl), (blkn (HP.out.bel (Below.refl _ _).drew) 2 _ rfl)⟩ (fun hHeld => ?_)
   refine ppx (i := 0) (N := some 27) #[bT, bF, bF, bF, bF, bF, bF, bF, bF, bF, bF, bF, bF, bF, bF, bF, bF] (h := ?_)
   refine ppx (i := 2) (N := some 29) #[bT, bF, bT, bF, bF, bF, bF, bF, bF, bF, bF, bF, bF, bF, bF, bF, bF] (h := ?_)
   refine ppx (i := 3) (N := some 30) #[bT, bF, bT, bT, bF, bF, bF, bF, bF, bF, bF, bF, bF, bF, bF, bF, bF] (h := ?_)
   refine ppx (i := 4) (N := some 31) #[bT, bF, bT, bT, bT, bF, bF, bF, bF, bF, bF, bF, bF, bF, bF, bF, bF] (h := ?_)
   refine tpx (i := 1) (N := some 28) #[bT, bT, bT, bT, bT, bF, bF, bF, bF, bF, bF, bF, bF, bF, bF, bF, bF] (hy := (Or.inl ⟨by rfl, by rintro w' ⟨s0, s1⟩; go_simp; with_reducible rfl⟩)) (hS := hHeld) (h := ?_)
   refine tpx (i := 5) (N := some 32) #[bT, bT, bT, bT, bT, bT, bF, bF, bF, bF, bF, bF, bF, bF, bF, bF, bF] (hy := (Or.inl ⟨by rfl, by rintro w' ⟨s0, s1⟩; go_simp; with_reducible rfl⟩)) (hS := hHeld) (h := ?_)
   refine ppx (i := 6) (N := some 33) #[bT, bT, bT, bT, bT, bT, bT, bF, bF, bF, bF, bF, bF, bF, bF, bF, bF] (h := ?_)
   refine ppx (i := 7) (N := some 34) #[bT, bT, bT, bT, bT, bT, bT, bT, bF, bF, bF, bF, bF, bF, bF, bF, bF] (h := ?_)
   refine ppx (i := 8) (N := some 35) #[bT, bT, bT, bT, bT, bT, bT, bT, bT, bF, bF, bF, bF, bF, bF, bF, bF] (v := undef) (hy := Or.inr ⟨by rfl, rfl⟩) (h := ?_)
   refine ppx (i := 9) (N := some 36) #[bT, bT, bT, bT, bT, bT, bT, bT, bT, bT, bF, bF, bF, bF, bF, bF, bF] (v := undef) (hy := Or.inr ⟨by rfl, rfl⟩) (h := ?_)
   refine ppx (i := 10) (N := some 37) #[bT, bT, bT, bT, bT, bT, bT, bT, bT, bT, bT, bF, bF, bF, bF, bF, bF] (v := undef) (hy := Or.inr ⟨by rfl, rfl⟩) (h := ?_)
   refine ppx (i := 11) (N := some 38) #[bT, bT, bT, bT, bT, bT, bT, bT, bT, bT, bT, bT, bF, bF, bF, bF, bF] (v := undef) (hy := Or.inr ⟨by rfl, rfl⟩) (h := ?_)
   refine ppx (i := 12) (N := some 39) #[bT, bT, bT, bT, bT, bT, bT, bT, bT, bT, bT, bT, bT, bF, bF, bF, bF] (v := undef) (hy := Or.inr ⟨by rfl, rfl⟩) (h := ?_)
   refine ppx (i := 13) (N := some 40) #[bT, bT, bT, bT, bT, bT, bT, bT, bT, bT, bT, bT, bT, bT, bF, bF, bF] (v := undef) (hy := Or.inr ⟨by rfl, rfl⟩) (h := ?_)
   refine ppx (i := 14) (N := some 41) #[bT, bT, bT, bT, bT, bT, bT, bT, bT, bT, bT, bT, bT, bT, bT, bF, bF] (v := undef) (hy := Or.inr ⟨by rfl, rfl⟩) (h := ?_)
   refine ppx (i := 15) (N := some 42) #[bT, bT, bT, bT, bT, bT, bT, bT, bT, bT, bT, bT, bT, bT, bT, bT, bF] (v := undef) (hy := Or.inr ⟨by rfl, rfl⟩) (h := ?_)
   refine ppx (i := 16) (N := some 43) #[bT, bT, bT, bT, bT, bT, bT, bT, bT, bT, bT, bT, bT, bT, bT, bT, bT] (h := ?_)
   refine done_ (by kernel_rfl) ?_
   have hb : Bel W1 (W1.drew) := (Below.refl _ _).drew
   replace HN := Lib.hid (HN.out.bel hb)
   replace HP := Lib.hid (HP.out.bel hb)
   replace HV := Lib.hid (HV.out.bel hb)
   replace HW := Lib.hid (HW.out.tr hb)
   generalize W1.drew = W2 at hb HN HP HV HW ⊢
   clear hb
   go_wp2
   have hne : ¬ b = w.heap.size := by omega
   refine start_ (n := 13) (S := fun w' => w'.cell? ⟨w.heap.size, 2, none⟩ = some (.int .i64 mt) ∧ w'.cell? ⟨w.heap.size, 9, none⟩ = some (.slice B mops.length bc)) (ds := [12]) #[bF, bF, bF, bF, bF, bF, bF, bF, bF, bF, bF, bF, bF] (by kernel_rfl) rfl rfl ⟨(blkn (HP.out.bel (Below.refl _ _).drew) 2 _ rfl), (blkn (HP.out.bel (Below.refl _ _).drew) 9 _ rfl)⟩ (fun hHeld => ?_)
   refine ppx (i := 0) (N := some 44) #[bT, bF, bF, bF, bF, bF, bF, bF, bF, bF, bF, bF, bF] (h := ?_)
   refine ppx (i := 1) (N := some 45) #[bT, bT, bF, bF, bF, bF, bF, bF, bF, bF, bF, bF, bF] (h := ?_)
   refine ppx (i := 2) (N := some 46) #[bT, bT, bT, bF, bF, bF, bF, bF, bF, bF, bF, bF, bF] (h := ?_)
   refine ppx (i := 4) (N := some 48) #[bT, bT, bT, bF, bT, bF, bF, bF, bF, bF, bF, bF, bF] (h := ?_)
   refine tpx (i := 3) (N := some 47) #[bT, bT, bT, bT, bT, bF, bF, bF, bF, bF, bF, bF, bF] (hy := (Or.inl ⟨by rfl, by rintro w' ⟨s0, s1⟩; go_simp; with_reducible rfl⟩)) (hS := hHeld) (h := ?_)
   refine tpx (i := 5) (N := some 49) #[bT, bT, bT, bT, bT, bT, bF, bF, bF, bF, bF, bF, bF] (hy := (Or.inl ⟨by rfl, by rintro w' ⟨s0, s1⟩; go_simp; with_reducible rfl⟩)) (hS := hHeld) (h := ?_)
   refine one_ (i := 6) (N := some 50) #[bT, bT, bT, bT, bT, bT, bT, bF, bF, bF, bF, bF, bF] rfl rfl (by kernel_rfl) (by decide) (fun K hK => ?_)
   refine goes_ Tryz.func102 (by kernel_rfl) rfl #[.slice B mops.length bc] (by rfl) rfl rfl (by simp only [List.map_toArray, List.map_cons, List.map_nil]; rfl) ?_
   with_reducible refine (cloneO_c (kOp_keep HDM.out (HW.out.tr (Below.refl _ _).drew)) hlm).mono ?_
   rintro e w5 ⟨v, rfl, hoo, hb5⟩
   have hbC : Bel W2 w5 := Bel.tr (b := W2.drew) (Below.refl _ _).drew hb5
   obtain ⟨C4, c4, rfl, -, -⟩ := hoo.reads
   have HV5 := Lib.hid (show OwnO w5 base (.slice C4 mops.length c4) mops from own_lower hoo (Nat.le_trans HBS.out HW.out.size))
   have HBA := Lib.hid (show ∀ k, (Value.slice C4 mops.length c4).ownBlock = some k → w.heap.size ≤ k from fun k hk => Nat.le_trans HW.out.size (own_base hoo k hk))
   have HN5 := Lib.hid (HN.out.bel hbC)
   have HW5 := Lib.hid (HW.out.tr hbC)
   clear hoo hb5
   have x0 := blkn HN5.out 0 _ rfl
   have x1 := blkn HN5.out 1 _ rfl
   have x2 := blkn HN5.out 2 _ rfl
   have x3 := blkn HN5.out 3 _ rfl
   have x4 := blkn HN5.out 4 _ rfl
   have xf0 := HN5.out.free 0
   have xf1 := HN5.out.free 1
   have xf2 := HN5.out.free 2
   have xf3 := HN5.out.free 3
   have xf4 := HN5.out.free 4
   have xy := HN5.out.lt
   refine ⟨_, rfl, ?_⟩
   refine hK.out _ _ ⟨(blkn (HP.out.bel hbC) 2 _ rfl), (blkn (HP.out.bel hbC) 9 _ rfl)⟩ (fun hHeld => ?_)
   clear hK K
   refine nox 50 (h := ?_)
   refine ppx (i := 7) (N := some 51) #[bT, bT, bT, bT, bT, bT, bT, bT, bF, bF, bF, bF, bF] (h := ?_)
   refine ppx (i := 8) (N := some 52) #[bT, bT, bT, bT, bT, bT, bT, bT, bT, bF, bF, bF, bF] (h := ?_)
   refine one_ (i := 9) (N := none) #[bT, bT, bT, bT, bT, bT, bT, bT, bT, bT, bF, bF, bF] rfl rfl (by kernel_rfl) (by decide) (fun K hK => ?_)
   refine skip_ (by rfl) rfl (by go_simp; rfl) ?_
   refine hK.out _ _ ⟨(blkn ((HP.out.bel hbC).apart hne 1 (.int .i64 mt)) 2 _ rfl), (blkn ((HP.out.bel hbC).apart hne 1 (.int .i64 mt)) 9 _ rfl)⟩ (fun hHeld => ?_)
   clear hK K
   refine ppx (i := 10) (N := some 53) #[bT, bT, bT, bT, bT, bT, bT, bT, bT, bT, bT, bF, bF] (h := ?_)
   refine ppx (i := 11) (N := some 54) #[bT, bT, bT, bT, bT, bT, bT, bT, bT, bT, bT, bT, bF] (h := ?_)
   refine last_ (i := 12) (N := none) #[bT, bT, bT, bT, bT, bT, bT, bT, bT, bT, bT, bT, bT] rfl rfl (by kernel_rfl) (by decide) (fun K hK => ?_)
   refine skip_ (by rfl) rfl (by go_simp; rfl) ?_
   refine hK.out _ _ ?_
   clear hK K
   refine done_ (by kernel_rfl) ?_
   clear x0 xf0 x1 xf1 x2 xf2 x3 xf3 x4 xf4 xy
   have hN6 := (HN5.out.set 1 (.int .i64 mt) (cs' := #[.bool up, .int .i64 mt, .bool leads, .bool alone, .slice A ops.length c]) rfl).set 4 (.slice C4 mops.length c4) (cs' := #[.bool up, .int .i64 mt, .bool leads, .bool alone, .slice C4 mops.length c4]) rfl
   have hV6 := (HV5.out.far HN5.out (by decide) 1 (.int .i64 mt)).far (HN5.out.set 1 (.int .i64 mt) (cs' := #[.bool up, .int .i64 mt, .bool leads, .bool alone, .slice A ops.length c]) rfl) (by decide) 4 (.slice C4 mops.length c4)
   have hC6 := ((Chg.of_bel HW5.out (b := b) (r := (Value.slice A ops.length c).ownBlock)).set 1 (.int .i64 mt)).set 4 (.slice C4 mops.length c4)
   generalize ((w5.setCell ⟨b, 1, none⟩ (.int .i64 mt)).setCell ⟨b, 4, none⟩ (.slice C4 mops.length c4)) = W6 at hN6 hV6 hC6 ⊢
   have x2 := blkn hN6 2 _ rfl
   have x3 := blkn hN6 3 _ rfl
   have xf2 := hN6.free 2
   have xf3 := hN6.free 3
   have xy := hN6.lt
   go_wp2
   clear x2 x3 xf2 xf3 xy
   have hN7 := (hN6.set 2 (.bool false) (cs' := #[.bool up, .int .i64 mt, .bool false, .bool alone, .slice C4 mops.length c4]) rfl).set 3 (.bool false) (cs' := #[.bool up, .int .i64 mt, .bool false, .bool false, .slice C4 mops.length c4]) rfl
   have hV7 := (hV6.far hN6 (by decide) 2 (.bool false)).far (hN6.set 2 (.bool false) (cs' := #[.bool up, .int .i64 mt, .bool false, .bool alone, .slice C4 mops.length c4]) rfl) (by decide) 3 (.bool false)
   have hC7 := (hC6.set 2 (.bool false)).set 3 (.bool false)
   go_ret
   exact ⟨rfl, _, hN7, hV7, hC7, fun k hk => .inr (HBA.out k hk)⟩
end
end Go.Proofs.YtccllgpaafgjaaaGreat

namespace Go.Proofs.YtccllgpaafgjaaaGreat
open Go.RowKit Go.Proofs.YtccllgpaafgjaaaGreatW.PrintWords Go.Proofs.YtccllgpaafgjaaaGreatW.PrintLast
theorem copN_term (n : Node) (mt mn : Int) (op : Op) : (copN n mt mn op).term = n.term := by
 unfold copN
 split
 ·rfl
 split
 ·rfl
 split
 ·rfl
 unfold addN
 split <;> rfl
theorem hearM_copy {n : Node} {id : Int} {m : Msg} (hk : m.kind = 1) (hz : hearB n m = true) : hearM n id m = ⟨2, 3 - id, (hearN n m).term, m.n, noO, []⟩ := by
 unfold hearB at hz
 rw [if_pos hk] at hz
 unfold hearM hearN
 rw [if_pos hk, if_pos hk, hz, copN_term]
 unfold copB at hz
 unfold copM hasM
 split at hz
 ·cases hz
 ·rename_i h1
  split at hz
  ·rename_i h2
   rw [if_neg h1, if_pos h2]; rfl
  ·rename_i h2
   split at hz
   ·cases hz
   ·rename_i h3
    rw [if_neg h1, if_neg h2, if_neg h3]; rfl
theorem hearM_join {n : Node} {id : Int} {m : Msg} (hk : m.kind = 3) (hz : hearB n m = true) : hearM n id m = ⟨4, 3 - id, (hearN n m).term, (hearN n m).ops.length, noO, []⟩ := by
 unfold hearB at hz
 rw [if_neg (by omega)] at hz
 have hy : nayB n m.kind m.term = false := by simpa using hz
 unfold hearM
 rw [if_neg (by omega), hy]; rfl
theorem hearM_no {n : Node} {id : Int} {m : Msg} (hz : hearB n m = false) : hearM n id m = noM := by
 unfold hearB at hz
 unfold hearM
 split at hz
 ·rename_i h; rw [if_pos h, hz]; rfl
 ·rename_i h
  have hy : nayB n m.kind m.term = true := by simpa using hz
  rw [if_neg h, hy]; rfl
theorem nodeOk_len {n : Node} (h : nodeOk n = true) : n.ops.length ≤ 20 := by unfold nodeOk at h; simp at h; omega
theorem hearN_len {n : Node} {m : Msg} (hn : n.ops.length ≤ 1048575) (hm : m.ops.length ≤ 1048576) : (hearN n m).ops.length ≤ 1048576 := by
 unfold hearN
 split
 ·unfold copN
  split
  ·omega
  split
  ·omega
  split
  ·omega
  unfold addN
  split
  ·show (n.ops ++ [m.op]).length ≤ _
   rw [List.length_append, List.length_singleton]; omega
  ·omega
 ·split
  ·omega
  ·split
   ·exact hm
   ·omega
theorem hear_other {n : Node} {m : Msg} (h1 : m.kind ≠ 1) (h3 : m.kind ≠ 3) : hearB n m = false ∧ hearN n m = n := by
 have hy : nayB n m.kind m.term = true := by unfold nayB; simp [h3]
 unfold hearB hearN
 rw [if_neg h1, if_neg h1, hy]; exact ⟨rfl, rfl⟩
theorem hear_copy {n : Node} {m : Msg} (h1 : m.kind = 1) : hearB n m = copB n m.term m.n m.op ∧ hearN n m = copN n m.term m.n m.op := by
 unfold hearB hearN
 rw [if_pos h1, if_pos h1]; exact ⟨rfl, rfl⟩
section
variable {w : World} {A B : Option Addr} {c bc : Nat} {up leads alone : Bool} {kind whom mt mn term id : Int} {ops mops : List Op} {op : Op}
set_option maxHeartbeats 64000000 in
set_option maxRecDepth 10000 in
theorem implNodeHear_f (hC : kOp.C w A ops.length ops) (ho : SmallOs ops) (hD : kOp.C w B mops.length mops) (hom : SmallOs mops) (hso : SmallO op) :
  Calls Tryz.prog 24 #[.agg #[.bool up, .int .i64 term, .bool leads, .bool alone, .slice A ops.length c], .int .i64 id, .agg #[.int .i64 kind, .int .i64 whom, .int .i64 mt, .int .i64 mn, .int .i64 op.kind, .string op.name, .string op.dest, .int .i64 op.n, .string op.text, .slice B mops.length bc]] w (AnsO w (hearRN ⟨up, term, leads, alone, ops⟩ id ⟨kind, whom, mt, mn, op, mops⟩) (hearRM ⟨up, term, leads, alone, ops⟩ id ⟨kind, whom, mt, mn, op, mops⟩) (hearRB ⟨up, term, leads, alone, ops⟩ id ⟨kind, whom, mt, mn, op, mops⟩)) := by
 have HC := Lib.hid hC
 have HO := Lib.hid ho
 have HDM := Lib.hid hD
 have HOM := Lib.hid hom
 have HSO := Lib.hid hso
 have hl9 := ho.len
 have hlm := hom.len
 obtain ⟨z, hz⟩ : ∃ z, hearRB ⟨up, term, leads, alone, ops⟩ id ⟨kind, whom, mt, mn, op, mops⟩ = z := ⟨_, rfl⟩
 obtain ⟨xn, hxn⟩ : ∃ x, hearRN ⟨up, term, leads, alone, ops⟩ id ⟨kind, whom, mt, mn, op, mops⟩ = x := ⟨_, rfl⟩
 obtain ⟨xm, hxm⟩ : ∃ x, hearRM ⟨up, term, leads, alone, ops⟩ id ⟨kind, whom, mt, mn, op, mops⟩ = x := ⟨_, rfl⟩
 rw [hz, hxn, hxm]
 have HZ := Lib.hid (And.intro hz (And.intro hxn hxm))
 clear hC ho hD hom hso hz hxn hxm
 go_enter Tryz.func24, Tryz.ntmps24
 go_wp2_with fail
 obtain ⟨hW, hN, hP, hR, hM⟩ := allocs4 w #[.bool up, .int .i64 term, .bool leads, .bool alone, .slice A ops.length c] #[.int .i64 kind, .int .i64 whom, .int .i64 mt, .int .i64 mn, .int .i64 op.kind, .string op.name, .string op.dest, .int .i64 op.n, .string op.text, .slice B mops.length bc] #[.bool false, .int .i64 0, .bool false, .bool false, .slice none 0 0] #[.int .i64 0, .int .i64 0, .int .i64 0, .int .i64 0, .int .i64 0, .string ⟨#[]⟩, .string ⟨#[]⟩, .int .i64 0, .string ⟨#[]⟩, .slice none 0 0] 25 29 25 29
 generalize ((((w.alloc (.cells #[.bool up, .int .i64 term, .bool leads, .bool alone, .slice A ops.length c] 25)).alloc (.cells #[.int .i64 kind, .int .i64 whom, .int .i64 mt, .int .i64 mn, .int .i64 op.kind, .string op.name, .string op.dest, .int .i64 op.n, .string op.text, .slice B mops.length bc] 29)).alloc (.cells #[.bool false, .int .i64 0, .bool false, .bool false, .slice none 0 0] 25)).alloc (.cells #[.int .i64 0, .int .i64 0, .int .i64 0, .int .i64 0, .int .i64 0, .string ⟨#[]⟩, .string ⟨#[]⟩, .int .i64 0, .string ⟨#[]⟩, .slice none 0 0] 29)) = W0 at hW hN hP hR hM ⊢
 have hb := implNodeOk_c (n := ⟨up, term, leads, alone, ops⟩) (c := c) (kOp_keep HC.out hW) HO.out
 obtain ⟨b1, hk1⟩ : ∃ b, nodeOk ⟨up, term, leads, alone, ops⟩ = b := ⟨_, rfl⟩
 rw [hk1] at hb
 refine hb.mono ?_
 rintro e w1 ⟨rfl, hb1⟩
 have HN1 := Lib.hid (hN.bel hb1)
 have HP1 := Lib.hid (hP.bel hb1)
 have HRS := Lib.hid (hR.bel hb1)
 have HM := Lib.hid (hM.bel hb1)
 have HW := Lib.hid (hW.tr hb1)
 clear hb hb1 hN hP hR hM hW
 cases b1 with
 | false =>
  obtain ⟨rfl, rfl, rfl⟩ : false = z ∧ noN = xn ∧ noM = xm := by
   have h := hearR_no (n := ⟨up, term, leads, alone, ops⟩) (id := id) (m := ⟨kind, whom, mt, mn, op, mops⟩) (by simp [okH, hk1])
   have h2 := HZ.out
   exact ⟨h.1.symm.trans h2.1, h.2.1.symm.trans h2.2.1, h.2.2.symm.trans h2.2.2⟩
  have hr_ := HRS.out
  have hm_ := HM.out
  have r0 := blkn hr_ 0 _ rfl
  have r1 := blkn hr_ 1 _ rfl
  have r2 := blkn hr_ 2 _ rfl
  have r3 := blkn hr_ 3 _ rfl
  have r4 := blkn hr_ 4 _ rfl
  have m0 := blkn hm_ 0 _ rfl
  have m1 := blkn hm_ 1 _ rfl
  have m2 := blkn hm_ 2 _ rfl
  have m3 := blkn hm_ 3 _ rfl
  have m4 := blkn hm_ 4 _ rfl
  have m5 := blkn hm_ 5 _ rfl
  have m6 := blkn hm_ 6 _ rfl
  have m7 := blkn hm_ 7 _ rfl
  have m8 := blkn hm_ 8 _ rfl
  have m9 := blkn hm_ 9 _ rfl
  have rf0 := hr_.free 0
  have rf1 := hr_.free 1
  have rf2 := hr_.free 2
  have rf3 := hr_.free 3
  have rf4 := hr_.free 4
  have mf0 := hm_.free 0
  have mf1 := hm_.free 1
  have mf2 := hm_.free 2
  have mf3 := hm_.free 3
  have mf4 := hm_.free 4
  have mf5 := hm_.free 5
  have mf6 := hm_.free 6
  have mf7 := hm_.free 7
  have mf8 := hm_.free 8
  have mf9 := hm_.free 9
  have ry := hr_.lt
  have my := hm_.lt
  go_wp2
  have h2 := two_new (v1 := [.bool false, .int .i64 0, .bool false, .bool false, .slice none 0 0]) (v2 := [.int .i64 0, .int .i64 0, .int .i64 0, .int .i64 0, .int .i64 0, .string ⟨#[]⟩, .string ⟨#[]⟩, .int .i64 0, .string ⟨#[]⟩, .slice none 0 0]) rfl hr_ hm_ (show w.heap.size + 1 + 1 ≠ w.heap.size + 1 + 1 + 1 by omega) rfl rfl (by decide) (by decide)
  refine bodyPost_ret (results_list (rs := [.cell 6 25, .cell 7 29, .tmp 8]) rfl (by simp) (.cell _ 25 _ (0, 0) _ rfl h2.b1 Tryz.underlying25 rfl (by kernel_rfl) (.cell _ 29 _ (0, 0) _ rfl h2.b2 Tryz.underlying29 rfl (by kernel_rfl) (.tmp .nil)))) rfl ?_
  exact ⟨.slice none 0 0, rfl, ownO_noN _ _, h2.bel HW.out (by omega) (by omega)⟩
 | true =>
 have p0 := blkn HP1.out 0 _ rfl
 have p1 := blkn HP1.out 1 _ rfl
 have p2 := blkn HP1.out 2 _ rfl
 have p3 := blkn HP1.out 3 _ rfl
 have p4 := blkn HP1.out 4 _ rfl
 have p5 := blkn HP1.out 5 _ rfl
 have p6 := blkn HP1.out 6 _ rfl
 have p7 := blkn HP1.out 7 _ rfl
 have p8 := blkn HP1.out 8 _ rfl
 have p9 := blkn HP1.out 9 _ rfl
 have py := HP1.out.lt
 go_wp2_with fail
 obtain ⟨b3, hk3⟩ : ∃ b, msgOk ⟨kind, whom, mt, mn, op, mops⟩ = b := ⟨_, rfl⟩
 have hl := isMsg_c (m := ⟨kind, whom, mt, mn, op, mops⟩) (c := bc) (kOp_keep HDM.out HW.out) HOM.out HSO.out
 rw [hk3] at hl
 refine hl.mono ?_
 rintro e w2 ⟨rfl, hb2⟩
 replace HN1 := Lib.hid (HN1.out.bel hb2)
 replace HP1 := Lib.hid (HP1.out.bel hb2)
 replace HRS := Lib.hid (HRS.out.bel hb2)
 replace HM := Lib.hid (HM.out.bel hb2)
 replace HW := Lib.hid (HW.out.tr hb2)
 clear hl hb2 p0 p1 p2 p3 p4 p5 p6 p7 p8 p9 py
 cases b3 with
 | false =>
  obtain ⟨rfl, rfl, rfl⟩ : false = z ∧ noN = xn ∧ noM = xm := by
   have h := hearR_no (n := ⟨up, term, leads, alone, ops⟩) (id := id) (m := ⟨kind, whom, mt, mn, op, mops⟩) (by simp [okH, hk1, hk3])
   have h2 := HZ.out
   exact ⟨h.1.symm.trans h2.1, h.2.1.symm.trans h2.2.1, h.2.2.symm.trans h2.2.2⟩
  have hr_ := HRS.out
  have hm_ := HM.out
  have r0 := blkn hr_ 0 _ rfl
  have r1 := blkn hr_ 1 _ rfl
  have r2 := blkn hr_ 2 _ rfl
  have r3 := blkn hr_ 3 _ rfl
  have r4 := blkn hr_ 4 _ rfl
  have m0 := blkn hm_ 0 _ rfl
  have m1 := blkn hm_ 1 _ rfl
  have m2 := blkn hm_ 2 _ rfl
  have m3 := blkn hm_ 3 _ rfl
  have m4 := blkn hm_ 4 _ rfl
  have m5 := blkn hm_ 5 _ rfl
  have m6 := blkn hm_ 6 _ rfl
  have m7 := blkn hm_ 7 _ rfl
  have m8 := blkn hm_ 8 _ rfl
  have m9 := blkn hm_ 9 _ rfl
  have rf0 := hr_.free 0
  have rf1 := hr_.free 1
  have rf2 := hr_.free 2
  have rf3 := hr_.free 3
  have rf4 := hr_.free 4
  have mf0 := hm_.free 0
  have mf1 := hm_.free 1
  have mf2 := hm_.free 2
  have mf3 := hm_.free 3
  have mf4 := hm_.free 4
  have mf5 := hm_.free 5
  have mf6 := hm_.free 6
  have mf7 := hm_.free 7
  have mf8 := hm_.free 8
  have mf9 := hm_.free 9
  have ry := hr_.lt
  have my := hm_.lt
  go_wp2
  have h2 := two_new (v1 := [.bool false, .int .i64 0, .bool false, .bool false, .slice none 0 0]) (v2 := [.int .i64 0, .int .i64 0, .int .i64 0, .int .i64 0, .int .i64 0, .string ⟨#[]⟩, .string ⟨#[]⟩, .int .i64 0, .string ⟨#[]⟩, .slice none 0 0]) rfl hr_ hm_ (show w.heap.size + 1 + 1 ≠ w.heap.size + 1 + 1 + 1 by omega) rfl rfl (by decide) (by decide)
  refine bodyPost_ret (results_list (rs := [.cell 6 25, .cell 7 29, .tmp 8]) rfl (by simp) (.cell _ 25 _ (0, 0) _ rfl h2.b1 Tryz.underlying25 rfl (by kernel_rfl) (.cell _ 29 _ (0, 0) _ rfl h2.b2 Tryz.underlying29 rfl (by kernel_rfl) (.tmp .nil)))) rfl ?_
  exact ⟨.slice none 0 0, rfl, ownO_noN _ _, h2.bel HW.out (by omega) (by omega)⟩
 | true =>
 go_wp2_with fail
 obtain ⟨b2, hk2⟩ : ∃ b, inR id 1 2 = b := ⟨_, rfl⟩
 have hl := isNode_c id w2
 rw [hk2] at hl
 refine hl.mono ?_
 rintro e w3 ⟨rfl, rfl⟩
 clear hl
 cases b2 with
 | false =>
  obtain ⟨rfl, rfl, rfl⟩ : false = z ∧ noN = xn ∧ noM = xm := by
   have h := hearR_no (n := ⟨up, term, leads, alone, ops⟩) (id := id) (m := ⟨kind, whom, mt, mn, op, mops⟩) (by simp [okH, hk1, hk2, hk3])
   have h2 := HZ.out
   exact ⟨h.1.symm.trans h2.1, h.2.1.symm.trans h2.2.1, h.2.2.symm.trans h2.2.2⟩
  have hr_ := HRS.out
  have hm_ := HM.out
  have r0 := blkn hr_ 0 _ rfl
  have r1 := blkn hr_ 1 _ rfl
  have r2 := blkn hr_ 2 _ rfl
  have r3 := blkn hr_ 3 _ rfl
  have r4 := blkn hr_ 4 _ rfl
  have m0 := blkn hm_ 0 _ rfl
  have m1 := blkn hm_ 1 _ rfl
  have m2 := blkn hm_ 2 _ rfl
  have m3 := blkn hm_ 3 _ rfl
  have m4 := blkn hm_ 4 _ rfl
  have m5 := blkn hm_ 5 _ rfl
  have m6 := blkn hm_ 6 _ rfl
  have m7 := blkn hm_ 7 _ rfl
  have m8 := blkn hm_ 8 _ rfl
  have m9 := blkn hm_ 9 _ rfl
  have rf0 := hr_.free 0
  have rf1 := hr_.free 1
  have rf2 := hr_.free 2
  have rf3 := hr_.free 3
  have rf4 := hr_.free 4
  have mf0 := hm_.free 0
  have mf1 := hm_.free 1
  have mf2 := hm_.free 2
  have mf3 := hm_.free 3
  have mf4 := hm_.free 4
  have mf5 := hm_.free 5
  have mf6 := hm_.free 6
  have mf7 := hm_.free 7
  have mf8 := hm_.free 8
  have mf9 := hm_.free 9
  have ry := hr_.lt
  have my := hm_.lt
  go_wp2
  have h2 := two_new (v1 := [.bool false, .int .i64 0, .bool false, .bool false, .slice none 0 0]) (v2 := [.int .i64 0, .int .i64 0, .int .i64 0, .int .i64 0, .int .i64 0, .string ⟨#[]⟩, .string ⟨#[]⟩, .int .i64 0, .string ⟨#[]⟩, .slice none 0 0]) rfl hr_ hm_ (show w.heap.size + 1 + 1 ≠ w.heap.size + 1 + 1 + 1 by omega) rfl rfl (by decide) (by decide)
  refine bodyPost_ret (results_list (rs := [.cell 6 25, .cell 7 29, .tmp 8]) rfl (by simp) (.cell _ 25 _ (0, 0) _ rfl h2.b1 Tryz.underlying25 rfl (by kernel_rfl) (.cell _ 29 _ (0, 0) _ rfl h2.b2 Tryz.underlying29 rfl (by kernel_rfl) (.tmp .nil)))) rfl ?_
  exact ⟨.slice none 0 0, rfl, ownO_noN _ _, h2.bel HW.out (by omega) (by omega)⟩
 | true =>
 have p1 := blkn HP1.out 1 _ rfl
 have py := HP1.out.lt
 have n0 := blkn HN1.out 0 _ rfl
 have ny := HN1.out.lt
 by_cases hk4 : whom = id
 ·subst hk4
  cases up with
  | false =>
   obtain ⟨rfl, rfl, rfl⟩ : false = z ∧ noN = xn ∧ noM = xm := by
    have h := hearR_no (n := ⟨false, term, leads, alone, ops⟩) (id := whom) (m := ⟨kind, whom, mt, mn, op, mops⟩) (by simp [okH])
    have h2 := HZ.out
    exact ⟨h.1.symm.trans h2.1, h.2.1.symm.trans h2.2.1, h.2.2.symm.trans h2.2.2⟩
   have hr_ := HRS.out
   have hm_ := HM.out
   have r0 := blkn hr_ 0 _ rfl
   have r1 := blkn hr_ 1 _ rfl
   have r2 := blkn hr_ 2 _ rfl
   have r3 := blkn hr_ 3 _ rfl
   have r4 := blkn hr_ 4 _ rfl
   have m0 := blkn hm_ 0 _ rfl
   have m1 := blkn hm_ 1 _ rfl
   have m2 := blkn hm_ 2 _ rfl
   have m3 := blkn hm_ 3 _ rfl
   have m4 := blkn hm_ 4 _ rfl
   have m5 := blkn hm_ 5 _ rfl
   have m6 := blkn hm_ 6 _ rfl
   have m7 := blkn hm_ 7 _ rfl
   have m8 := blkn hm_ 8 _ rfl
   have m9 := blkn hm_ 9 _ rfl
   have rf0 := hr_.free 0
   have rf1 := hr_.free 1
   have rf2 := hr_.free 2
   have rf3 := hr_.free 3
   have rf4 := hr_.free 4
   have mf0 := hm_.free 0
   have mf1 := hm_.free 1
   have mf2 := hm_.free 2
   have mf3 := hm_.free 3
   have mf4 := hm_.free 4
   have mf5 := hm_.free 5
   have mf6 := hm_.free 6
   have mf7 := hm_.free 7
   have mf8 := hm_.free 8
   have mf9 := hm_.free 9
   have ry := hr_.lt
   have my := hm_.lt
   go_wp2
   have h2 := two_new (v1 := [.bool false, .int .i64 0, .bool false, .bool false, .slice none 0 0]) (v2 := [.int .i64 0, .int .i64 0, .int .i64 0, .int .i64 0, .int .i64 0, .string ⟨#[]⟩, .string ⟨#[]⟩, .int .i64 0, .string ⟨#[]⟩, .slice none 0 0]) rfl hr_ hm_ (show w.heap.size + 1 + 1 ≠ w.heap.size + 1 + 1 + 1 by omega) rfl rfl (by decide) (by decide)
   refine bodyPost_ret (results_list (rs := [.cell 6 25, .cell 7 29, .tmp 8]) rfl (by simp) (.cell _ 25 _ (0, 0) _ rfl h2.b1 Tryz.underlying25 rfl (by kernel_rfl) (.cell _ 29 _ (0, 0) _ rfl h2.b2 Tryz.underlying29 rfl (by kernel_rfl) (.tmp .nil)))) rfl ?_
   exact ⟨.slice none 0 0, rfl, ownO_noN _ _, h2.bel HW.out (by omega) (by omega)⟩
  | true =>
   obtain ⟨hz1, hz2, hz3⟩ : hearB ⟨true, term, leads, alone, ops⟩ ⟨kind, whom, mt, mn, op, mops⟩ = z ∧ hearN ⟨true, term, leads, alone, ops⟩ ⟨kind, whom, mt, mn, op, mops⟩ = xn ∧ hearM ⟨true, term, leads, alone, ops⟩ whom ⟨kind, whom, mt, mn, op, mops⟩ = xm := by
    have h := hearR_yes (n := ⟨true, term, leads, alone, ops⟩) (id := whom) (m := ⟨kind, whom, mt, mn, op, mops⟩) (by unfold okH; rw [hk1, hk2, hk3]; simp)
    have h2 := HZ.out
    exact ⟨h.1.symm.trans h2.1, h.2.1.symm.trans h2.2.1, h.2.2.symm.trans h2.2.2⟩
   obtain ⟨q, -, hq, -⟩ := nodePF_yes hk1
   have hq : runP newP ops = some q := hq
   have HQ := Lib.hid hq
   have HZ1 := Lib.hid (And.intro hz1 (And.intro hz2 hz3))
   have HI := Lib.hid (inR12 hk2)
   have HXL := Lib.hid (show xn.ops.length ≤ 1048576 from by rw [← hz2]; exact hearN_len (by have h := nodeOk_len hk1; show ops.length ≤ _; have h : ops.length ≤ 20 := h; omega) hlm)
   have HMN := Lib.hid (show kind = 1 → 1 ≤ mn ∧ mn ≤ 20 from msgOk_mn hk3)
   have hid3 : wrap64 (3 - whom) = 3 - whom := by have h3 := HI.out; unfold wrap64; omega
   clear HZ hz1 hz2 hz3 hq hk1 hk2 hk3
   have n1 := blkn HN1.out 1 _ rfl
   have n2 := blkn HN1.out 2 _ rfl
   have n3 := blkn HN1.out 3 _ rfl
   have n4 := blkn HN1.out 4 _ rfl
   go_wp2_with fail
   refine (implNodeClone_c (n := ⟨true, term, leads, alone, ops⟩) (c := c) (kOp_keep HC.out HW.out) hl9).mono ?_
   rintro e w3 ⟨v, rfl, hoo, hb3⟩
   obtain ⟨C, d, rfl, -, -⟩ := hoo.reads
   have HV := Lib.hid (show OwnO w3 w.heap.size (.slice C ops.length d) ops from own_lower hoo HW.out.size)
   replace HP1 := Lib.hid (HP1.out.bel hb3)
   replace HRS := Lib.hid (HRS.out.bel hb3)
   replace HM := Lib.hid (HM.out.bel hb3)
   replace HW := Lib.hid (HW.out.tr hb3)
   clear hoo hb3 n0 n1 n2 n3 n4 ny p1 py HN1
   have LT3 := Lib.hid (show w.heap.size + 1 + 1 + 1 < w3.heap.size from HM.out.lt)
   by_cases k1 : kind = 1
   ·have HMN2 := Lib.hid (HMN.out k1)
    clear HMN
    subst k1
    have p0 := blkn HP1.out 0 _ rfl
    have p1 := blkn HP1.out 1 _ rfl
    have p2 := blkn HP1.out 2 _ rfl
    have p3 := blkn HP1.out 3 _ rfl
    have p4 := blkn HP1.out 4 _ rfl
    have p5 := blkn HP1.out 5 _ rfl
    have p6 := blkn HP1.out 6 _ rfl
    have p7 := blkn HP1.out 7 _ rfl
    have p8 := blkn HP1.out 8 _ rfl
    have p9 := blkn HP1.out 9 _ rfl
    have py := HP1.out.lt
    have pz1 : w.heap.size + 1 < w3.heap.size + 1 := by omega
    have pz2 : ¬ w.heap.size + 1 = w3.heap.size + 1 := by omega
    go_wp2_with fail
    clear p0 p1 p2 p3 p4 p5 p6 p7 p8 p9 py pz1 pz2
    have hX : Blk ((w3.alloc (.cells #[.bool true, .int .i64 term, .bool leads, .bool alone, .slice C ops.length d] 25)).alloc (.cells #[.int .i64 0, .int .i64 (3 - whom), .int .i64 0, .int .i64 0, .int .i64 0, .string ⟨#[]⟩, .string ⟨#[]⟩, .int .i64 0, .string ⟨#[]⟩, .slice none 0 0] 29)) w3.heap.size #[.bool true, .int .i64 term, .bool leads, .bool alone, .slice C ops.length d] 25 := (Blk.new _ _ _).alloc _
    have hY : Blk ((w3.alloc (.cells #[.bool true, .int .i64 term, .bool leads, .bool alone, .slice C ops.length d] 25)).alloc (.cells #[.int .i64 0, .int .i64 (3 - whom), .int .i64 0, .int .i64 0, .int .i64 0, .string ⟨#[]⟩, .string ⟨#[]⟩, .int .i64 0, .string ⟨#[]⟩, .slice none 0 0] 29)) (w3.heap.size + 1) #[.int .i64 0, .int .i64 (3 - whom), .int .i64 0, .int .i64 0, .int .i64 0, .string ⟨#[]⟩, .string ⟨#[]⟩, .int .i64 0, .string ⟨#[]⟩, .slice none 0 0] 29 := Blk.nw2 _ _ _ _
    have hbx : Bel w3 ((w3.alloc (.cells #[.bool true, .int .i64 term, .bool leads, .bool alone, .slice C ops.length d] 25)).alloc (.cells #[.int .i64 0, .int .i64 (3 - whom), .int .i64 0, .int .i64 0, .int .i64 0, .string ⟨#[]⟩, .string ⟨#[]⟩, .int .i64 0, .string ⟨#[]⟩, .slice none 0 0] 29)) := bel_alloc (bel_alloc (Below.refl _ _) _) _
    replace HP1 := Lib.hid (HP1.out.bel hbx)
    replace HRS := Lib.hid (HRS.out.bel hbx)
    replace HM := Lib.hid (HM.out.bel hbx)
    replace HW := Lib.hid (HW.out.tr hbx)
    replace HV := Lib.hid (HV.out.bel hbx)
    generalize ((w3.alloc (.cells #[.bool true, .int .i64 term, .bool leads, .bool alone, .slice C ops.length d] 25)).alloc (.cells #[.int .i64 0, .int .i64 (3 - whom), .int .i64 0, .int .i64 0, .int .i64 0, .string ⟨#[]⟩, .string ⟨#[]⟩, .int .i64 0, .string ⟨#[]⟩, .slice none 0 0] 29)) = W3 at hX hY hbx HP1 HRS HM HW HV ⊢
    obtain ⟨nb, hnb⟩ : ∃ nb, w3.heap.size = nb := ⟨_, rfl⟩
    have hlt := LT3.out
    rw [hnb] at hX hY hlt ⊢
    have HX := Lib.hid hX
    have HY := Lib.hid hY
    clear hX hY hbx hnb LT3
    have hcall := hearCopy_f (bn := mops.length) (bc := bc) (B := B) (kind := 1) (whom := whom) (mt := mt) (mn := mn) (op := op) HX.out HV.out HW.out.size HO.out HSO.out HQ.out HMN2.out
    have hcp := hear_copy (n := ⟨true, term, leads, alone, ops⟩) (m := ⟨1, whom, mt, mn, op, mops⟩) rfl
    rw [← hcp.1, ← hcp.2, HZ1.out.1, HZ1.out.2.1] at hcall
    refine hcall.mono ?_
    rintro e w4 ⟨rfl, v, hx4, hv4, hch, hat⟩
    clear hcall hat
    obtain ⟨E, f, rfl, -, -⟩ := hv4.reads
    replace HY := Lib.hid (HY.out.chg hch (by omega) (blk_other HV.out HY.out (by decide)))
    replace HP1 := Lib.hid (HP1.out.chg hch (by omega) (blk_other HV.out HP1.out (by decide)))
    replace HRS := Lib.hid (HRS.out.chg hch (by omega) (blk_other HV.out HRS.out (by decide)))
    replace HM := Lib.hid (HM.out.chg hch (by omega) (blk_other HV.out HM.out (by decide)))
    replace HW := Lib.hid (bel_chg HW.out hch (by omega) (fun k hk => own_base HV.out k hk))
    replace HX := Lib.hid hx4
    replace HV := Lib.hid hv4
    clear hx4 hv4 hch
    have HC1 := hear_copy (n := ⟨true, term, leads, alone, ops⟩) (m := ⟨1, whom, mt, mn, op, mops⟩) rfl
    cases z with
    | true =>
     have hxm := (hearM_copy (n := ⟨true, term, leads, alone, ops⟩) (id := whom) (m := ⟨1, whom, mt, mn, op, mops⟩) rfl HZ1.out.1).symm.trans HZ1.out.2.2
     rw [HZ1.out.2.1] at hxm
     clear HZ1 hcp HC1
     have hxm : (⟨2, 3 - whom, xn.term, mn, noO, []⟩ : Msg) = xm := hxm
     subst hxm
     have y0 := blkn HY.out 0 _ rfl
     have y1 := blkn HY.out 1 _ rfl
     have y2 := blkn HY.out 2 _ rfl
     have y3 := blkn HY.out 3 _ rfl
     have y4 := blkn HY.out 4 _ rfl
     have y5 := blkn HY.out 5 _ rfl
     have y6 := blkn HY.out 6 _ rfl
     have y7 := blkn HY.out 7 _ rfl
     have y8 := blkn HY.out 8 _ rfl
     have y9 := blkn HY.out 9 _ rfl
     have yf0 := HY.out.free 0
     have yf1 := HY.out.free 1
     have yf2 := HY.out.free 2
     have yf3 := HY.out.free 3
     have yf4 := HY.out.free 4
     have yf5 := HY.out.free 5
     have yf6 := HY.out.free 6
     have yf7 := HY.out.free 7
     have yf8 := HY.out.free 8
     have yf9 := HY.out.free 9
     have yy := HY.out.lt
     go_wp2
     have hnm : nb + 1 ≠ w.heap.size + 1 := by omega
     have hnx : nb + 1 ≠ nb := by omega
     have hnr : nb + 1 ≠ w.heap.size + 1 + 1 := by omega
     have hnq : nb + 1 ≠ w.heap.size + 1 + 1 + 1 := by omega
     refine start_ (n := 6) (S := fun w' => w'.cell? ⟨w.heap.size + 1, 3, none⟩ = some (.int .i64 mn)) (ds := [5]) #[bF, bF, bF, bF, bF, bF] (by kernel_rfl) rfl rfl ((blkn (HP1.out.bel (Below.refl _ _).drew) 3 _ rfl)) (fun hHeld => ?_)
     refine ppx (i := 0) (N := some 49) #[bT, bF, bF, bF, bF, bF] (h := ?_)
     refine ppx (i := 2) (N := some 51) #[bT, bF, bT, bF, bF, bF] (h := ?_)
     refine tpx (i := 1) (N := some 50) #[bT, bT, bT, bF, bF, bF] (hy := (Or.inl ⟨by rfl, by intro w' s0; go_simp; with_reducible rfl⟩)) (hS := hHeld) (h := ?_)
     refine one_ (i := 3) (N := none) #[bT, bT, bT, bT, bF, bF] rfl rfl (by kernel_rfl) (by decide) (fun K hK => ?_)
     refine skip_ (by rfl) rfl (by go_simp; rfl) ?_
     refine hK.out _ _ ((blkn ((HP1.out.apart hnm 0 (.int .i64 2)).bel (Below.refl _ _).drew) 3 _ rfl)) (fun hHeld => ?_)
     clear hK K
     refine ppx (i := 4) (N := some 52) #[bT, bT, bT, bT, bT, bF] (h := ?_)
     refine last_ (i := 5) (N := none) #[bT, bT, bT, bT, bT, bT] rfl rfl (by kernel_rfl) (by decide) (fun K hK => ?_)
     refine skip_ (by rfl) rfl (by go_simp; rfl) ?_
     refine hK.out _ _ ?_
     clear hK K
     refine done_ (by kernel_rfl) ?_
     clear y0 yf0 y1 yf1 y2 yf2 y3 yf3 y4 yf4 y5 yf5 y6 yf6 y7 yf7 y8 yf8 y9 yf9 yy
     have hY1 := HY.out.set 0 (.int .i64 2) (cs' := #[.int .i64 2, .int .i64 (3 - whom), .int .i64 0, .int .i64 0, .int .i64 0, .string ⟨#[]⟩, .string ⟨#[]⟩, .int .i64 0, .string ⟨#[]⟩, .slice none 0 0]) rfl
     have hY2 := hY1.set 3 (.int .i64 mn) (cs' := #[.int .i64 2, .int .i64 (3 - whom), .int .i64 0, .int .i64 mn, .int .i64 0, .string ⟨#[]⟩, .string ⟨#[]⟩, .int .i64 0, .string ⟨#[]⟩, .slice none 0 0]) rfl
     have hd : Bel ((w4.setCell ⟨nb + 1, 0, none⟩ (.int .i64 2)).setCell ⟨nb + 1, 3, none⟩ (.int .i64 mn)) ((w4.setCell ⟨nb + 1, 0, none⟩ (.int .i64 2)).setCell ⟨nb + 1, 3, none⟩ (.int .i64 mn)).drew := (Below.refl _ _).drew
     replace HX := Lib.hid (((HX.out.apart hnx 0 (.int .i64 2)).apart hnx 3 (.int .i64 mn)).bel hd)
     replace HRS := Lib.hid (((HRS.out.apart hnr 0 (.int .i64 2)).apart hnr 3 (.int .i64 mn)).bel hd)
     replace HM := Lib.hid (((HM.out.apart hnq 0 (.int .i64 2)).apart hnq 3 (.int .i64 mn)).bel hd)
     replace HV := Lib.hid (((HV.out.far HY.out (by decide) 0 (.int .i64 2)).far hY1 (by decide) 3 (.int .i64 mn)).bel hd)
     replace HW := Lib.hid (Bel.tr (bel_set (bel_set HW.out (show w.heap.size ≤ nb + 1 by omega) 0 (.int .i64 2)) (show w.heap.size ≤ nb + 1 by omega) 3 (.int .i64 mn)) hd)
     replace HY := Lib.hid (hY2.bel hd)
     clear hY1 hY2 HP1
     generalize ((w4.setCell ⟨nb + 1, 0, none⟩ (.int .i64 2)).setCell ⟨nb + 1, 3, none⟩ (.int .i64 mn)).drew = W5 at hd HX HRS HM HV HW HY ⊢
     clear hd
     have x1 := blkn HX.out 1 _ rfl
     have xy := HX.out.lt
     have y2 := blkn HY.out 2 _ rfl
     have yf2 := HY.out.free 2
     have yy := HY.out.lt
     go_wp2
     clear x1 xy y2 yf2 yy
     replace HX := Lib.hid (HX.out.apart hnx 2 (.int .i64 xn.term))
     replace HRS := Lib.hid (HRS.out.apart hnr 2 (.int .i64 xn.term))
     replace HM := Lib.hid (HM.out.apart hnq 2 (.int .i64 xn.term))
     replace HV := Lib.hid (HV.out.far HY.out (by decide) 2 (.int .i64 xn.term))
     replace HW := Lib.hid (bel_set HW.out (show w.heap.size ≤ nb + 1 by omega) 2 (.int .i64 xn.term))
     replace HY := Lib.hid (HY.out.set 2 (.int .i64 xn.term) (cs' := #[.int .i64 2, .int .i64 (3 - whom), .int .i64 xn.term, .int .i64 mn, .int .i64 0, .string ⟨#[]⟩, .string ⟨#[]⟩, .int .i64 0, .string ⟨#[]⟩, .slice none 0 0]) rfl)
     generalize (W5.setCell ⟨nb + 1, 2, none⟩ (.int .i64 xn.term)) = W6 at HX HRS HM HV HW HY ⊢
     have hr_ := HRS.out
     have hm_ := HM.out
     have r0 := blkn hr_ 0 _ rfl
     have r1 := blkn hr_ 1 _ rfl
     have r2 := blkn hr_ 2 _ rfl
     have r3 := blkn hr_ 3 _ rfl
     have r4 := blkn hr_ 4 _ rfl
     have m0 := blkn hm_ 0 _ rfl
     have m1 := blkn hm_ 1 _ rfl
     have m2 := blkn hm_ 2 _ rfl
     have m3 := blkn hm_ 3 _ rfl
     have m4 := blkn hm_ 4 _ rfl
     have m5 := blkn hm_ 5 _ rfl
     have m6 := blkn hm_ 6 _ rfl
     have m7 := blkn hm_ 7 _ rfl
     have m8 := blkn hm_ 8 _ rfl
     have m9 := blkn hm_ 9 _ rfl
     have rf0 := hr_.free 0
     have rf1 := hr_.free 1
     have rf2 := hr_.free 2
     have rf3 := hr_.free 3
     have rf4 := hr_.free 4
     have mf0 := hm_.free 0
     have mf1 := hm_.free 1
     have mf2 := hm_.free 2
     have mf3 := hm_.free 3
     have mf4 := hm_.free 4
     have mf5 := hm_.free 5
     have mf6 := hm_.free 6
     have mf7 := hm_.free 7
     have mf8 := hm_.free 8
     have mf9 := hm_.free 9
     have ry := hr_.lt
     have my := hm_.lt
     have hq0 : w.heap.size + 1 + 1 ≠ nb := by omega
     have hq1 : w.heap.size + 1 + 1 ≠ nb + 1 := by omega
     have HXa := Lib.hid (HX.out.apart5 hq0 (.bool xn.up) (.int .i64 xn.term) (.bool xn.leads) (.bool xn.alone) (.slice E xn.ops.length f))
     have HYa := Lib.hid (HY.out.apart5 hq1 (.bool xn.up) (.int .i64 xn.term) (.bool xn.leads) (.bool xn.alone) (.slice E xn.ops.length f))
     refine start_ (n := 5) (S := fun w' => w'.cell? ⟨nb, 0, none⟩ = some (.bool xn.up) ∧ w'.cell? ⟨nb, 1, none⟩ = some (.int .i64 xn.term) ∧ w'.cell? ⟨nb, 2, none⟩ = some (.bool xn.leads) ∧ w'.cell? ⟨nb, 3, none⟩ = some (.bool xn.alone) ∧ w'.cell? ⟨nb, 4, none⟩ = some (.slice E xn.ops.length f) ∧ w'.cell? ⟨nb + 1, 0, none⟩ = some (.int .i64 2) ∧ w'.cell? ⟨nb + 1, 1, none⟩ = some (.int .i64 (3 - whom)) ∧ w'.cell? ⟨nb + 1, 2, none⟩ = some (.int .i64 xn.term) ∧ w'.cell? ⟨nb + 1, 3, none⟩ = some (.int .i64 mn) ∧ w'.cell? ⟨nb + 1, 4, none⟩ = some (.int .i64 0) ∧ w'.cell? ⟨nb + 1, 5, none⟩ = some (.string ⟨#[]⟩) ∧ w'.cell? ⟨nb + 1, 6, none⟩ = some (.string ⟨#[]⟩) ∧ w'.cell? ⟨nb + 1, 7, none⟩ = some (.int .i64 0) ∧ w'.cell? ⟨nb + 1, 8, none⟩ = some (.string ⟨#[]⟩) ∧ w'.cell? ⟨nb + 1, 9, none⟩ = some (.slice none 0 0)) (ds := [3]) #[bF, bF, bF, bF, bF] (by kernel_rfl) rfl rfl ⟨(blkn (HX.out.bel (Below.refl _ _).drew) 0 _ rfl), (blkn (HX.out.bel (Below.refl _ _).drew) 1 _ rfl), (blkn (HX.out.bel (Below.refl _ _).drew) 2 _ rfl), (blkn (HX.out.bel (Below.refl _ _).drew) 3 _ rfl), (blkn (HX.out.bel (Below.refl _ _).drew) 4 _ rfl), (blkn (HY.out.bel (Below.refl _ _).drew) 0 _ rfl), (blkn (HY.out.bel (Below.refl _ _).drew) 1 _ rfl), (blkn (HY.out.bel (Below.refl _ _).drew) 2 _ rfl), (blkn (HY.out.bel (Below.refl _ _).drew) 3 _ rfl), (blkn (HY.out.bel (Below.refl _ _).drew) 4 _ rfl), (blkn (HY.out.bel (Below.refl _ _).drew) 5 _ rfl), (blkn (HY.out.bel (Below.refl _ _).drew) 6 _ rfl), (blkn (HY.out.bel (Below.refl _ _).drew) 7 _ rfl), (blkn (HY.out.bel (Below.refl _ _).drew) 8 _ rfl), (blkn (HY.out.bel (Below.refl _ _).drew) 9 _ rfl)⟩ (fun hHeld => ?_)
     refine tpx (i := 0) (N := some 69) #[bT, bF, bF, bF, bF] (hy := (Or.inl ⟨by rfl, by rintro w' ⟨s0, s1, s2, s3, s4, s5, s6, s7, s8, s9, s10, s11, s12, s13, s14⟩; go_simp; with_reducible rfl⟩)) (hS := hHeld) (h := ?_)
     refine tpx (i := 1) (N := some 70) #[bT, bT, bF, bF, bF] (hy := (Or.inl ⟨by rfl, by rintro w' ⟨s0, s1, s2, s3, s4, s5, s6, s7, s8, s9, s10, s11, s12, s13, s14⟩; go_simp; with_reducible rfl⟩)) (hS := hHeld) (h := ?_)
     refine one_ (i := 2) (N := none) #[bT, bT, bT, bF, bF] rfl rfl (by kernel_rfl) (by decide) (fun K hK => ?_)
     refine skip_ (by rfl) rfl (by go_simp; rfl) ?_
     refine hK.out _ _ ⟨(blkn (HXa.out.bel (Below.refl _ _).drew) 0 _ rfl), (blkn (HXa.out.bel (Below.refl _ _).drew) 1 _ rfl), (blkn (HXa.out.bel (Below.refl _ _).drew) 2 _ rfl), (blkn (HXa.out.bel (Below.refl _ _).drew) 3 _ rfl), (blkn (HXa.out.bel (Below.refl _ _).drew) 4 _ rfl), (blkn (HYa.out.bel (Below.refl _ _).drew) 0 _ rfl), (blkn (HYa.out.bel (Below.refl _ _).drew) 1 _ rfl), (blkn (HYa.out.bel (Below.refl _ _).drew) 2 _ rfl), (blkn (HYa.out.bel (Below.refl _ _).drew) 3 _ rfl), (blkn (HYa.out.bel (Below.refl _ _).drew) 4 _ rfl), (blkn (HYa.out.bel (Below.refl _ _).drew) 5 _ rfl), (blkn (HYa.out.bel (Below.refl _ _).drew) 6 _ rfl), (blkn (HYa.out.bel (Below.refl _ _).drew) 7 _ rfl), (blkn (HYa.out.bel (Below.refl _ _).drew) 8 _ rfl), (blkn (HYa.out.bel (Below.refl _ _).drew) 9 _ rfl)⟩ (fun hHeld => ?_)
     clear hK K
     refine last_ (i := 3) (N := none) #[bT, bT, bT, bT, bF] rfl rfl (by kernel_rfl) (by decide) (fun K hK => ?_)
     refine skip_ (by rfl) rfl (by go_simp; rfl) ?_
     refine hK.out _ _ ?_
     clear hK K
     refine ppx (i := 4) (N := some 8) #[bT, bT, bT, bT, bT] (h := ?_)
     refine done_ (by kernel_rfl) ?_
     go_wp2
     have h2 := two_new (v1 := [.bool xn.up, .int .i64 xn.term, .bool xn.leads, .bool xn.alone, .slice E xn.ops.length f]) (v2 := [.int .i64 2, .int .i64 (3 - whom), .int .i64 xn.term, .int .i64 mn, .int .i64 0, .string ⟨#[]⟩, .string ⟨#[]⟩, .int .i64 0, .string ⟨#[]⟩, .slice none 0 0]) rfl hr_ hm_ (show w.heap.size + 1 + 1 ≠ w.heap.size + 1 + 1 + 1 by omega) rfl rfl (by decide) (by decide)
     refine bodyPost_ret (results_list (rs := [.cell 6 25, .cell 7 29, .tmp 8]) rfl (by simp) (.cell _ 25 _ (0, 0) _ rfl (h2.b1.bel bel_drew) Tryz.underlying25 rfl (by kernel_rfl) (.cell _ 29 _ (0, 0) _ rfl (h2.b2.bel bel_drew) Tryz.underlying29 rfl (by kernel_rfl) (.tmp .nil)))) rfl ?_
     exact ⟨_, rfl, (h2.ownO HV.out).bel bel_drew, (h2.bel HW.out (by omega) (by omega)).tr bel_drew⟩
    | false =>
     have hxm : noM = xm := (hearM_no HZ1.out.1).symm.trans HZ1.out.2.2
     subst hxm
     clear HZ1 hcp HC1
     have y0 := blkn HY.out 0 _ rfl
     have y1 := blkn HY.out 1 _ rfl
     have y2 := blkn HY.out 2 _ rfl
     have y3 := blkn HY.out 3 _ rfl
     have y4 := blkn HY.out 4 _ rfl
     have y5 := blkn HY.out 5 _ rfl
     have y6 := blkn HY.out 6 _ rfl
     have y7 := blkn HY.out 7 _ rfl
     have y8 := blkn HY.out 8 _ rfl
     have y9 := blkn HY.out 9 _ rfl
     have yf0 := HY.out.free 0
     have yf1 := HY.out.free 1
     have yf2 := HY.out.free 2
     have yf3 := HY.out.free 3
     have yf4 := HY.out.free 4
     have yf5 := HY.out.free 5
     have yf6 := HY.out.free 6
     have yf7 := HY.out.free 7
     have yf8 := HY.out.free 8
     have yf9 := HY.out.free 9
     have yy := HY.out.lt
     go_wp2
     have hnm : nb + 1 ≠ w.heap.size + 1 := by omega
     have hnx : nb + 1 ≠ nb := by omega
     have hnr : nb + 1 ≠ w.heap.size + 1 + 1 := by omega
     have hnq : nb + 1 ≠ w.heap.size + 1 + 1 + 1 := by omega
     refine start_ (n := 6) (S := fun w' => w'.cell? ⟨w.heap.size + 1, 3, none⟩ = some (.int .i64 mn)) (ds := [5]) #[bF, bF, bF, bF, bF, bF] (by kernel_rfl) rfl rfl ((blkn (HP1.out.bel (Below.refl _ _).drew) 3 _ rfl)) (fun hHeld => ?_)
     refine ppx (i := 0) (N := some 49) #[bT, bF, bF, bF, bF, bF] (h := ?_)
     refine ppx (i := 2) (N := some 51) #[bT, bF, bT, bF, bF, bF] (h := ?_)
     refine tpx (i := 1) (N := some 50) #[bT, bT, bT, bF, bF, bF] (hy := (Or.inl ⟨by rfl, by intro w' s0; go_simp; with_reducible rfl⟩)) (hS := hHeld) (h := ?_)
     refine one_ (i := 3) (N := none) #[bT, bT, bT, bT, bF, bF] rfl rfl (by kernel_rfl) (by decide) (fun K hK => ?_)
     refine skip_ (by rfl) rfl (by go_simp; rfl) ?_
     refine hK.out _ _ ((blkn ((HP1.out.apart hnm 0 (.int .i64 2)).bel (Below.refl _ _).drew) 3 _ rfl)) (fun hHeld => ?_)
     clear hK K
     refine ppx (i := 4) (N := some 52) #[bT, bT, bT, bT, bT, bF] (h := ?_)
     refine last_ (i := 5) (N := none) #[bT, bT, bT, bT, bT, bT] rfl rfl (by kernel_rfl) (by decide) (fun K hK => ?_)
     refine skip_ (by rfl) rfl (by go_simp; rfl) ?_
     refine hK.out _ _ ?_
     clear hK K
     refine done_ (by kernel_rfl) ?_
     clear y0 yf0 y1 yf1 y2 yf2 y3 yf3 y4 yf4 y5 yf5 y6 yf6 y7 yf7 y8 yf8 y9 yf9 yy
     have hY1 := HY.out.set 0 (.int .i64 2) (cs' := #[.int .i64 2, .int .i64 (3 - whom), .int .i64 0, .int .i64 0, .int .i64 0, .string ⟨#[]⟩, .string ⟨#[]⟩, .int .i64 0, .string ⟨#[]⟩, .slice none 0 0]) rfl
     have hY2 := hY1.set 3 (.int .i64 mn) (cs' := #[.int .i64 2, .int .i64 (3 - whom), .int .i64 0, .int .i64 mn, .int .i64 0, .string ⟨#[]⟩, .string ⟨#[]⟩, .int .i64 0, .string ⟨#[]⟩, .slice none 0 0]) rfl
     have hd : Bel ((w4.setCell ⟨nb + 1, 0, none⟩ (.int .i64 2)).setCell ⟨nb + 1, 3, none⟩ (.int .i64 mn)) ((w4.setCell ⟨nb + 1, 0, none⟩ (.int .i64 2)).setCell ⟨nb + 1, 3, none⟩ (.int .i64 mn)).drew := (Below.refl _ _).drew
     replace HX := Lib.hid (((HX.out.apart hnx 0 (.int .i64 2)).apart hnx 3 (.int .i64 mn)).bel hd)
     replace HRS := Lib.hid (((HRS.out.apart hnr 0 (.int .i64 2)).apart hnr 3 (.int .i64 mn)).bel hd)
     replace HM := Lib.hid (((HM.out.apart hnq 0 (.int .i64 2)).apart hnq 3 (.int .i64 mn)).bel hd)
     replace HV := Lib.hid (((HV.out.far HY.out (by decide) 0 (.int .i64 2)).far hY1 (by decide) 3 (.int .i64 mn)).bel hd)
     replace HW := Lib.hid (Bel.tr (bel_set (bel_set HW.out (show w.heap.size ≤ nb + 1 by omega) 0 (.int .i64 2)) (show w.heap.size ≤ nb + 1 by omega) 3 (.int .i64 mn)) hd)
     replace HY := Lib.hid (hY2.bel hd)
     clear hY1 hY2 HP1
     generalize ((w4.setCell ⟨nb + 1, 0, none⟩ (.int .i64 2)).setCell ⟨nb + 1, 3, none⟩ (.int .i64 mn)).drew = W5 at hd HX HRS HM HV HW HY ⊢
     clear hd
     have hr_ := HRS.out
     have hm_ := HM.out
     have r0 := blkn hr_ 0 _ rfl
     have r1 := blkn hr_ 1 _ rfl
     have r2 := blkn hr_ 2 _ rfl
     have r3 := blkn hr_ 3 _ rfl
     have r4 := blkn hr_ 4 _ rfl
     have m0 := blkn hm_ 0 _ rfl
     have m1 := blkn hm_ 1 _ rfl
     have m2 := blkn hm_ 2 _ rfl
     have m3 := blkn hm_ 3 _ rfl
     have m4 := blkn hm_ 4 _ rfl
     have m5 := blkn hm_ 5 _ rfl
     have m6 := blkn hm_ 6 _ rfl
     have m7 := blkn hm_ 7 _ rfl
     have m8 := blkn hm_ 8 _ rfl
     have m9 := blkn hm_ 9 _ rfl
     have rf0 := hr_.free 0
     have rf1 := hr_.free 1
     have rf2 := hr_.free 2
     have rf3 := hr_.free 3
     have rf4 := hr_.free 4
     have mf0 := hm_.free 0
     have mf1 := hm_.free 1
     have mf2 := hm_.free 2
     have mf3 := hm_.free 3
     have mf4 := hm_.free 4
     have mf5 := hm_.free 5
     have mf6 := hm_.free 6
     have mf7 := hm_.free 7
     have mf8 := hm_.free 8
     have mf9 := hm_.free 9
     have ry := hr_.lt
     have my := hm_.lt
     have x0 := blkn HX.out 0 _ rfl
     have x1 := blkn HX.out 1 _ rfl
     have x2 := blkn HX.out 2 _ rfl
     have x3 := blkn HX.out 3 _ rfl
     have x4 := blkn HX.out 4 _ rfl
     have xf0 := HX.out.free 0
     have xf1 := HX.out.free 1
     have xf2 := HX.out.free 2
     have xf3 := HX.out.free 3
     have xf4 := HX.out.free 4
     have xy := HX.out.lt
     go_wp2
     have h2 := two_new (v1 := [.bool xn.up, .int .i64 xn.term, .bool xn.leads, .bool xn.alone, .slice E xn.ops.length f]) (v2 := [.int .i64 0, .int .i64 0, .int .i64 0, .int .i64 0, .int .i64 0, .string ⟨#[]⟩, .string ⟨#[]⟩, .int .i64 0, .string ⟨#[]⟩, .slice none 0 0]) rfl hr_ hm_ (show w.heap.size + 1 + 1 ≠ w.heap.size + 1 + 1 + 1 by omega) rfl rfl (by decide) (by decide)
     refine bodyPost_ret (results_list (rs := [.cell 6 25, .cell 7 29, .tmp 8]) rfl (by simp) (.cell _ 25 _ (0, 0) _ rfl h2.b1 Tryz.underlying25 rfl (by kernel_rfl) (.cell _ 29 _ (0, 0) _ rfl h2.b2 Tryz.underlying29 rfl (by kernel_rfl) (.tmp .nil)))) rfl ?_
     exact ⟨_, rfl, h2.ownO HV.out, h2.bel HW.out (by omega) (by omega)⟩
   ·by_cases k3 : kind = 3
    ·subst k3
     clear k1
     have p0 := blkn HP1.out 0 _ rfl
     have p1 := blkn HP1.out 1 _ rfl
     have p2 := blkn HP1.out 2 _ rfl
     have p3 := blkn HP1.out 3 _ rfl
     have p4 := blkn HP1.out 4 _ rfl
     have p5 := blkn HP1.out 5 _ rfl
     have p6 := blkn HP1.out 6 _ rfl
     have p7 := blkn HP1.out 7 _ rfl
     have p8 := blkn HP1.out 8 _ rfl
     have p9 := blkn HP1.out 9 _ rfl
     have py := HP1.out.lt
     have pz1 : w.heap.size + 1 < w3.heap.size + 1 := by omega
     have pz2 : ¬ w.heap.size + 1 = w3.heap.size + 1 := by omega
     go_wp2_with fail
     clear p0 p1 p2 p3 p4 p5 p6 p7 p8 p9 py pz1 pz2
     have hX : Blk ((w3.alloc (.cells #[.bool true, .int .i64 term, .bool leads, .bool alone, .slice C ops.length d] 25)).alloc (.cells #[.int .i64 0, .int .i64 (3 - whom), .int .i64 0, .int .i64 0, .int .i64 0, .string ⟨#[]⟩, .string ⟨#[]⟩, .int .i64 0, .string ⟨#[]⟩, .slice none 0 0] 29)) w3.heap.size #[.bool true, .int .i64 term, .bool leads, .bool alone, .slice C ops.length d] 25 := (Blk.new _ _ _).alloc _
     have hY : Blk ((w3.alloc (.cells #[.bool true, .int .i64 term, .bool leads, .bool alone, .slice C ops.length d] 25)).alloc (.cells #[.int .i64 0, .int .i64 (3 - whom), .int .i64 0, .int .i64 0, .int .i64 0, .string ⟨#[]⟩, .string ⟨#[]⟩, .int .i64 0, .string ⟨#[]⟩, .slice none 0 0] 29)) (w3.heap.size + 1) #[.int .i64 0, .int .i64 (3 - whom), .int .i64 0, .int .i64 0, .int .i64 0, .string ⟨#[]⟩, .string ⟨#[]⟩, .int .i64 0, .string ⟨#[]⟩, .slice none 0 0] 29 := Blk.nw2 _ _ _ _
     have hbx : Bel w3 ((w3.alloc (.cells #[.bool true, .int .i64 term, .bool leads, .bool alone, .slice C ops.length d] 25)).alloc (.cells #[.int .i64 0, .int .i64 (3 - whom), .int .i64 0, .int .i64 0, .int .i64 0, .string ⟨#[]⟩, .string ⟨#[]⟩, .int .i64 0, .string ⟨#[]⟩, .slice none 0 0] 29)) := bel_alloc (bel_alloc (Below.refl _ _) _) _
     replace HP1 := Lib.hid (HP1.out.bel hbx)
     replace HRS := Lib.hid (HRS.out.bel hbx)
     replace HM := Lib.hid (HM.out.bel hbx)
     replace HW := Lib.hid (HW.out.tr hbx)
     replace HV := Lib.hid (HV.out.bel hbx)
     generalize ((w3.alloc (.cells #[.bool true, .int .i64 term, .bool leads, .bool alone, .slice C ops.length d] 25)).alloc (.cells #[.int .i64 0, .int .i64 (3 - whom), .int .i64 0, .int .i64 0, .int .i64 0, .string ⟨#[]⟩, .string ⟨#[]⟩, .int .i64 0, .string ⟨#[]⟩, .slice none 0 0] 29)) = W3 at hX hY hbx HP1 HRS HM HW HV ⊢
     obtain ⟨nb, hnb⟩ : ∃ nb, w3.heap.size = nb := ⟨_, rfl⟩
     have hlt := LT3.out
     rw [hnb] at hX hY hlt ⊢
     have HX := Lib.hid hX
     have HY := Lib.hid hY
     clear hX hY hbx hnb LT3
     have hcall := hearJoin_f (bc := bc) (B := B) (whom := whom) (mt := mt) (mn := mn) (op := op) HX.out HV.out HW.out.size HO.out (kOp_keep HDM.out HW.out) hlm
     rw [HZ1.out.1, HZ1.out.2.1] at hcall
     refine hcall.mono ?_
     rintro e w4 ⟨rfl, v, hx4, hv4, hch, hat⟩
     clear hcall hat
     obtain ⟨E, f, rfl, -, -⟩ := hv4.reads
     replace HY := Lib.hid (HY.out.chg hch (by omega) (blk_other HV.out HY.out (by decide)))
     replace HP1 := Lib.hid (HP1.out.chg hch (by omega) (blk_other HV.out HP1.out (by decide)))
     replace HRS := Lib.hid (HRS.out.chg hch (by omega) (blk_other HV.out HRS.out (by decide)))
     replace HM := Lib.hid (HM.out.chg hch (by omega) (blk_other HV.out HM.out (by decide)))
     replace HW := Lib.hid (bel_chg HW.out hch (by omega) (fun k hk => own_base HV.out k hk))
     replace HX := Lib.hid hx4
     replace HV := Lib.hid hv4
     clear hx4 hv4 hch
     cases z with
     | true =>
      have hxm := (hearM_join (n := ⟨true, term, leads, alone, ops⟩) (id := whom) (m := ⟨3, whom, mt, mn, op, mops⟩) rfl HZ1.out.1).symm.trans HZ1.out.2.2
      rw [HZ1.out.2.1] at hxm
      clear HZ1
      subst hxm
      have hxl : xn.ops.length ≤ 1048576 := HXL.out
      have y0 := blkn HY.out 0 _ rfl
      have y1 := blkn HY.out 1 _ rfl
      have y2 := blkn HY.out 2 _ rfl
      have y3 := blkn HY.out 3 _ rfl
      have y4 := blkn HY.out 4 _ rfl
      have y5 := blkn HY.out 5 _ rfl
      have y6 := blkn HY.out 6 _ rfl
      have y7 := blkn HY.out 7 _ rfl
      have y8 := blkn HY.out 8 _ rfl
      have y9 := blkn HY.out 9 _ rfl
      have yf0 := HY.out.free 0
      have yf1 := HY.out.free 1
      have yf2 := HY.out.free 2
      have yf3 := HY.out.free 3
      have yf4 := HY.out.free 4
      have yf5 := HY.out.free 5
      have yf6 := HY.out.free 6
      have yf7 := HY.out.free 7
      have yf8 := HY.out.free 8
      have yf9 := HY.out.free 9
      have yy := HY.out.lt
      go_wp2
      have hnm : nb + 1 ≠ w.heap.size + 1 := by omega
      have hnx : nb + 1 ≠ nb := by omega
      have hnr : nb + 1 ≠ w.heap.size + 1 + 1 := by omega
      have hnq : nb + 1 ≠ w.heap.size + 1 + 1 + 1 := by omega
      refine start_ (n := 7) (S := fun w' => w'.cell? ⟨nb, 4, none⟩ = some (.slice E xn.ops.length f)) (ds := [6]) #[bF, bF, bF, bF, bF, bF, bF] (by kernel_rfl) rfl rfl ((blkn (HX.out.bel (Below.refl _ _).drew) 4 _ rfl)) (fun hHeld => ?_)
      refine ppx (i := 0) (N := some 57) #[bT, bF, bF, bF, bF, bF, bF] (h := ?_)
      refine ppx (i := 3) (N := some 60) #[bT, bF, bF, bT, bF, bF, bF] (h := ?_)
      refine tpx (i := 1) (N := some 58) #[bT, bT, bF, bT, bF, bF, bF] (hy := (Or.inl ⟨by rfl, by intro w' s0; go_simp; with_reducible rfl⟩)) (hS := hHeld) (h := ?_)
      refine ppx (i := 2) (N := some 59) #[bT, bT, bT, bT, bF, bF, bF] (h := ?_)
      refine one_ (i := 4) (N := none) #[bT, bT, bT, bT, bT, bF, bF] rfl rfl (by kernel_rfl) (by decide) (fun K hK => ?_)
      refine skip_ (by rfl) rfl (by go_simp; rfl) ?_
      refine hK.out _ _ ((blkn ((HX.out.apart hnx 0 (.int .i64 4)).bel (Below.refl _ _).drew) 4 _ rfl)) (fun hHeld => ?_)
      clear hK K
      refine ppx (i := 5) (N := some 61) #[bT, bT, bT, bT, bT, bT, bF] (h := ?_)
      refine last_ (i := 6) (N := none) #[bT, bT, bT, bT, bT, bT, bT] rfl rfl (by kernel_rfl) (by decide) (fun K hK => ?_)
      refine skip_ (by rfl) rfl (by go_simp; rfl) ?_
      refine hK.out _ _ ?_
      clear hK K
      refine done_ (by kernel_rfl) ?_
      clear y0 yf0 y1 yf1 y2 yf2 y3 yf3 y4 yf4 y5 yf5 y6 yf6 y7 yf7 y8 yf8 y9 yf9 yy
      have hY1 := HY.out.set 0 (.int .i64 4) (cs' := #[.int .i64 4, .int .i64 (3 - whom), .int .i64 0, .int .i64 0, .int .i64 0, .string ⟨#[]⟩, .string ⟨#[]⟩, .int .i64 0, .string ⟨#[]⟩, .slice none 0 0]) rfl
      have hY2 := hY1.set 3 (.int .i64 xn.ops.length) (cs' := #[.int .i64 4, .int .i64 (3 - whom), .int .i64 0, .int .i64 xn.ops.length, .int .i64 0, .string ⟨#[]⟩, .string ⟨#[]⟩, .int .i64 0, .string ⟨#[]⟩, .slice none 0 0]) rfl
      have hd : Bel ((w4.setCell ⟨nb + 1, 0, none⟩ (.int .i64 4)).setCell ⟨nb + 1, 3, none⟩ (.int .i64 xn.ops.length)) ((w4.setCell ⟨nb + 1, 0, none⟩ (.int .i64 4)).setCell ⟨nb + 1, 3, none⟩ (.int .i64 xn.ops.length)).drew := (Below.refl _ _).drew
      replace HX := Lib.hid (((HX.out.apart hnx 0 (.int .i64 4)).apart hnx 3 (.int .i64 xn.ops.length)).bel hd)
      replace HRS := Lib.hid (((HRS.out.apart hnr 0 (.int .i64 4)).apart hnr 3 (.int .i64 xn.ops.length)).bel hd)
      replace HM := Lib.hid (((HM.out.apart hnq 0 (.int .i64 4)).apart hnq 3 (.int .i64 xn.ops.length)).bel hd)
      replace HV := Lib.hid (((HV.out.far HY.out (by decide) 0 (.int .i64 4)).far hY1 (by decide) 3 (.int .i64 xn.ops.length)).bel hd)
      replace HW := Lib.hid (Bel.tr (bel_set (bel_set HW.out (show w.heap.size ≤ nb + 1 by omega) 0 (.int .i64 4)) (show w.heap.size ≤ nb + 1 by omega) 3 (.int .i64 xn.ops.length)) hd)
      replace HY := Lib.hid (hY2.bel hd)
      clear hY1 hY2 HP1
      generalize ((w4.setCell ⟨nb + 1, 0, none⟩ (.int .i64 4)).setCell ⟨nb + 1, 3, none⟩ (.int .i64 xn.ops.length)).drew = W5 at hd HX HRS HM HV HW HY ⊢
      clear hd
      have x1 := blkn HX.out 1 _ rfl
      have xy := HX.out.lt
      have y2 := blkn HY.out 2 _ rfl
      have yf2 := HY.out.free 2
      have yy := HY.out.lt
      go_wp2
      clear x1 xy y2 yf2 yy
      replace HX := Lib.hid (HX.out.apart hnx 2 (.int .i64 xn.term))
      replace HRS := Lib.hid (HRS.out.apart hnr 2 (.int .i64 xn.term))
      replace HM := Lib.hid (HM.out.apart hnq 2 (.int .i64 xn.term))
      replace HV := Lib.hid (HV.out.far HY.out (by decide) 2 (.int .i64 xn.term))
      replace HW := Lib.hid (bel_set HW.out (show w.heap.size ≤ nb + 1 by omega) 2 (.int .i64 xn.term))
      replace HY := Lib.hid (HY.out.set 2 (.int .i64 xn.term) (cs' := #[.int .i64 4, .int .i64 (3 - whom), .int .i64 xn.term, .int .i64 xn.ops.length, .int .i64 0, .string ⟨#[]⟩, .string ⟨#[]⟩, .int .i64 0, .string ⟨#[]⟩, .slice none 0 0]) rfl)
      generalize (W5.setCell ⟨nb + 1, 2, none⟩ (.int .i64 xn.term)) = W6 at HX HRS HM HV HW HY ⊢
      have hr_ := HRS.out
      have hm_ := HM.out
      have r0 := blkn hr_ 0 _ rfl
      have r1 := blkn hr_ 1 _ rfl
      have r2 := blkn hr_ 2 _ rfl
      have r3 := blkn hr_ 3 _ rfl
      have r4 := blkn hr_ 4 _ rfl
      have m0 := blkn hm_ 0 _ rfl
      have m1 := blkn hm_ 1 _ rfl
      have m2 := blkn hm_ 2 _ rfl
      have m3 := blkn hm_ 3 _ rfl
      have m4 := blkn hm_ 4 _ rfl
      have m5 := blkn hm_ 5 _ rfl
      have m6 := blkn hm_ 6 _ rfl
      have m7 := blkn hm_ 7 _ rfl
      have m8 := blkn hm_ 8 _ rfl
      have m9 := blkn hm_ 9 _ rfl
      have rf0 := hr_.free 0
      have rf1 := hr_.free 1
      have rf2 := hr_.free 2
      have rf3 := hr_.free 3
      have rf4 := hr_.free 4
      have mf0 := hm_.free 0
      have mf1 := hm_.free 1
      have mf2 := hm_.free 2
      have mf3 := hm_.free 3
      have mf4 := hm_.free 4
      have mf5 := hm_.free 5
      have mf6 := hm_.free 6
      have mf7 := hm_.free 7
      have mf8 := hm_.free 8
      have mf9 := hm_.free 9
      have ry := hr_.lt
      have my := hm_.lt
      have hq0 : w.heap.size + 1 + 1 ≠ nb := by omega
      have hq1 : w.heap.size + 1 + 1 ≠ nb + 1 := by omega
      have HXa := Lib.hid (HX.out.apart5 hq0 (.bool xn.up) (.int .i64 xn.term) (.bool xn.leads) (.bool xn.alone) (.slice E xn.ops.length f))
      have HYa := Lib.hid (HY.out.apart5 hq1 (.bool xn.up) (.int .i64 xn.term) (.bool xn.leads) (.bool xn.alone) (.slice E xn.ops.length f))
      refine start_ (n := 5) (S := fun w' => w'.cell? ⟨nb, 0, none⟩ = some (.bool xn.up) ∧ w'.cell? ⟨nb, 1, none⟩ = some (.int .i64 xn.term) ∧ w'.cell? ⟨nb, 2, none⟩ = some (.bool xn.leads) ∧ w'.cell? ⟨nb, 3, none⟩ = some (.bool xn.alone) ∧ w'.cell? ⟨nb, 4, none⟩ = some (.slice E xn.ops.length f) ∧ w'.cell? ⟨nb + 1, 0, none⟩ = some (.int .i64 4) ∧ w'.cell? ⟨nb + 1, 1, none⟩ = some (.int .i64 (3 - whom)) ∧ w'.cell? ⟨nb + 1, 2, none⟩ = some (.int .i64 xn.term) ∧ w'.cell? ⟨nb + 1, 3, none⟩ = some (.int .i64 xn.ops.length) ∧ w'.cell? ⟨nb + 1, 4, none⟩ = some (.int .i64 0) ∧ w'.cell? ⟨nb + 1, 5, none⟩ = some (.string ⟨#[]⟩) ∧ w'.cell? ⟨nb + 1, 6, none⟩ = some (.string ⟨#[]⟩) ∧ w'.cell? ⟨nb + 1, 7, none⟩ = some (.int .i64 0) ∧ w'.cell? ⟨nb + 1, 8, none⟩ = some (.string ⟨#[]⟩) ∧ w'.cell? ⟨nb + 1, 9, none⟩ = some (.slice none 0 0)) (ds := [3]) #[bF, bF, bF, bF, bF] (by kernel_rfl) rfl rfl ⟨(blkn (HX.out.bel (Below.refl _ _).drew) 0 _ rfl), (blkn (HX.out.bel (Below.refl _ _).drew) 1 _ rfl), (blkn (HX.out.bel (Below.refl _ _).drew) 2 _ rfl), (blkn (HX.out.bel (Below.refl _ _).drew) 3 _ rfl), (blkn (HX.out.bel (Below.refl _ _).drew) 4 _ rfl), (blkn (HY.out.bel (Below.refl _ _).drew) 0 _ rfl), (blkn (HY.out.bel (Below.refl _ _).drew) 1 _ rfl), (blkn (HY.out.bel (Below.refl _ _).drew) 2 _ rfl), (blkn (HY.out.bel (Below.refl _ _).drew) 3 _ rfl), (blkn (HY.out.bel (Below.refl _ _).drew) 4 _ rfl), (blkn (HY.out.bel (Below.refl _ _).drew) 5 _ rfl), (blkn (HY.out.bel (Below.refl _ _).drew) 6 _ rfl), (blkn (HY.out.bel (Below.refl _ _).drew) 7 _ rfl), (blkn (HY.out.bel (Below.refl _ _).drew) 8 _ rfl), (blkn (HY.out.bel (Below.refl _ _).drew) 9 _ rfl)⟩ (fun hHeld => ?_)
      refine tpx (i := 0) (N := some 69) #[bT, bF, bF, bF, bF] (hy := (Or.inl ⟨by rfl, by rintro w' ⟨s0, s1, s2, s3, s4, s5, s6, s7, s8, s9, s10, s11, s12, s13, s14⟩; go_simp; with_reducible rfl⟩)) (hS := hHeld) (h := ?_)
      refine tpx (i := 1) (N := some 70) #[bT, bT, bF, bF, bF] (hy := (Or.inl ⟨by rfl, by rintro w' ⟨s0, s1, s2, s3, s4, s5, s6, s7, s8, s9, s10, s11, s12, s13, s14⟩; go_simp; with_reducible rfl⟩)) (hS := hHeld) (h := ?_)
      refine one_ (i := 2) (N := none) #[bT, bT, bT, bF, bF] rfl rfl (by kernel_rfl) (by decide) (fun K hK => ?_)
      refine skip_ (by rfl) rfl (by go_simp; rfl) ?_
      refine hK.out _ _ ⟨(blkn (HXa.out.bel (Below.refl _ _).drew) 0 _ rfl), (blkn (HXa.out.bel (Below.refl _ _).drew) 1 _ rfl), (blkn (HXa.out.bel (Below.refl _ _).drew) 2 _ rfl), (blkn (HXa.out.bel (Below.refl _ _).drew) 3 _ rfl), (blkn (HXa.out.bel (Below.refl _ _).drew) 4 _ rfl), (blkn (HYa.out.bel (Below.refl _ _).drew) 0 _ rfl), (blkn (HYa.out.bel (Below.refl _ _).drew) 1 _ rfl), (blkn (HYa.out.bel (Below.refl _ _).drew) 2 _ rfl), (blkn (HYa.out.bel (Below.refl _ _).drew) 3 _ rfl), (blkn (HYa.out.bel (Below.refl _ _).drew) 4 _ rfl), (blkn (HYa.out.bel (Below.refl _ _).drew) 5 _ rfl), (blkn (HYa.out.bel (Below.refl _ _).drew) 6 _ rfl), (blkn (HYa.out.bel (Below.refl _ _).drew) 7 _ rfl), (blkn (HYa.out.bel (Below.refl _ _).drew) 8 _ rfl), (blkn (HYa.out.bel (Below.refl _ _).drew) 9 _ rfl)⟩ (fun hHeld => ?_)
      clear hK K
      refine last_ (i := 3) (N := none) #[bT, bT, bT, bT, bF] rfl rfl (by kernel_rfl) (by decide) (fun K hK => ?_)
      refine skip_ (by rfl) rfl (by go_simp; rfl) ?_
      refine hK.out _ _ ?_
      clear hK K
      refine ppx (i := 4) (N := some 8) #[bT, bT, bT, bT, bT] (h := ?_)
      refine done_ (by kernel_rfl) ?_
      go_wp2
      have h2 := two_new (v1 := [.bool xn.up, .int .i64 xn.term, .bool xn.leads, .bool xn.alone, .slice E xn.ops.length f]) (v2 := [.int .i64 4, .int .i64 (3 - whom), .int .i64 xn.term, .int .i64 xn.ops.length, .int .i64 0, .string ⟨#[]⟩, .string ⟨#[]⟩, .int .i64 0, .string ⟨#[]⟩, .slice none 0 0]) rfl hr_ hm_ (show w.heap.size + 1 + 1 ≠ w.heap.size + 1 + 1 + 1 by omega) rfl rfl (by decide) (by decide)
      refine bodyPost_ret (results_list (rs := [.cell 6 25, .cell 7 29, .tmp 8]) rfl (by simp) (.cell _ 25 _ (0, 0) _ rfl (h2.b1.bel bel_drew) Tryz.underlying25 rfl (by kernel_rfl) (.cell _ 29 _ (0, 0) _ rfl (h2.b2.bel bel_drew) Tryz.underlying29 rfl (by kernel_rfl) (.tmp .nil)))) rfl ?_
      exact ⟨_, rfl, (h2.ownO HV.out).bel bel_drew, (h2.bel HW.out (by omega) (by omega)).tr bel_drew⟩
     | false =>
      have hxm : noM = xm := (hearM_no HZ1.out.1).symm.trans HZ1.out.2.2
      subst hxm
      clear HZ1
      have hxl : xn.ops.length ≤ 1048576 := HXL.out
      have y0 := blkn HY.out 0 _ rfl
      have y1 := blkn HY.out 1 _ rfl
      have y2 := blkn HY.out 2 _ rfl
      have y3 := blkn HY.out 3 _ rfl
      have y4 := blkn HY.out 4 _ rfl
      have y5 := blkn HY.out 5 _ rfl
      have y6 := blkn HY.out 6 _ rfl
      have y7 := blkn HY.out 7 _ rfl
      have y8 := blkn HY.out 8 _ rfl
      have y9 := blkn HY.out 9 _ rfl
      have yf0 := HY.out.free 0
      have yf1 := HY.out.free 1
      have yf2 := HY.out.free 2
      have yf3 := HY.out.free 3
      have yf4 := HY.out.free 4
      have yf5 := HY.out.free 5
      have yf6 := HY.out.free 6
      have yf7 := HY.out.free 7
      have yf8 := HY.out.free 8
      have yf9 := HY.out.free 9
      have yy := HY.out.lt
      go_wp2
      have hnm : nb + 1 ≠ w.heap.size + 1 := by omega
      have hnx : nb + 1 ≠ nb := by omega
      have hnr : nb + 1 ≠ w.heap.size + 1 + 1 := by omega
      have hnq : nb + 1 ≠ w.heap.size + 1 + 1 + 1 := by omega
      refine start_ (n := 7) (S := fun w' => w'.cell? ⟨nb, 4, none⟩ = some (.slice E xn.ops.length f)) (ds := [6]) #[bF, bF, bF, bF, bF, bF, bF] (by kernel_rfl) rfl rfl ((blkn (HX.out.bel (Below.refl _ _).drew) 4 _ rfl)) (fun hHeld => ?_)
      refine ppx (i := 0) (N := some 57) #[bT, bF, bF, bF, bF, bF, bF] (h := ?_)
      refine ppx (i := 3) (N := some 60) #[bT, bF, bF, bT, bF, bF, bF] (h := ?_)
      refine tpx (i := 1) (N := some 58) #[bT, bT, bF, bT, bF, bF, bF] (hy := (Or.inl ⟨by rfl, by intro w' s0; go_simp; with_reducible rfl⟩)) (hS := hHeld) (h := ?_)
      refine ppx (i := 2) (N := some 59) #[bT, bT, bT, bT, bF, bF, bF] (h := ?_)
      refine one_ (i := 4) (N := none) #[bT, bT, bT, bT, bT, bF, bF] rfl rfl (by kernel_rfl) (by decide) (fun K hK => ?_)
      refine skip_ (by rfl) rfl (by go_simp; rfl) ?_
      refine hK.out _ _ ((blkn ((HX.out.apart hnx 0 (.int .i64 4)).bel (Below.refl _ _).drew) 4 _ rfl)) (fun hHeld => ?_)
      clear hK K
      refine ppx (i := 5) (N := some 61) #[bT, bT, bT, bT, bT, bT, bF] (h := ?_)
      refine last_ (i := 6) (N := none) #[bT, bT, bT, bT, bT, bT, bT] rfl rfl (by kernel_rfl) (by decide) (fun K hK => ?_)
      refine skip_ (by rfl) rfl (by go_simp; rfl) ?_
      refine hK.out _ _ ?_
      clear hK K
      refine done_ (by kernel_rfl) ?_
      clear y0 yf0 y1 yf1 y2 yf2 y3 yf3 y4 yf4 y5 yf5 y6 yf6 y7 yf7 y8 yf8 y9 yf9 yy
      have hY1 := HY.out.set 0 (.int .i64 4) (cs' := #[.int .i64 4, .int .i64 (3 - whom), .int .i64 0, .int .i64 0, .int .i64 0, .string ⟨#[]⟩, .string ⟨#[]⟩, .int .i64 0, .string ⟨#[]⟩, .slice none 0 0]) rfl
      have hY2 := hY1.set 3 (.int .i64 xn.ops.length) (cs' := #[.int .i64 4, .int .i64 (3 - whom), .int .i64 0, .int .i64 xn.ops.length, .int .i64 0, .string ⟨#[]⟩, .string ⟨#[]⟩, .int .i64 0, .string ⟨#[]⟩, .slice none 0 0]) rfl
      have hd : Bel ((w4.setCell ⟨nb + 1, 0, none⟩ (.int .i64 4)).setCell ⟨nb + 1, 3, none⟩ (.int .i64 xn.ops.length)) ((w4.setCell ⟨nb + 1, 0, none⟩ (.int .i64 4)).setCell ⟨nb + 1, 3, none⟩ (.int .i64 xn.ops.length)).drew := (Below.refl _ _).drew
      replace HX := Lib.hid (((HX.out.apart hnx 0 (.int .i64 4)).apart hnx 3 (.int .i64 xn.ops.length)).bel hd)
      replace HRS := Lib.hid (((HRS.out.apart hnr 0 (.int .i64 4)).apart hnr 3 (.int .i64 xn.ops.length)).bel hd)
      replace HM := Lib.hid (((HM.out.apart hnq 0 (.int .i64 4)).apart hnq 3 (.int .i64 xn.ops.length)).bel hd)
      replace HV := Lib.hid (((HV.out.far HY.out (by decide) 0 (.int .i64 4)).far hY1 (by decide) 3 (.int .i64 xn.ops.length)).bel hd)
      replace HW := Lib.hid (Bel.tr (bel_set (bel_set HW.out (show w.heap.size ≤ nb + 1 by omega) 0 (.int .i64 4)) (show w.heap.size ≤ nb + 1 by omega) 3 (.int .i64 xn.ops.length)) hd)
      replace HY := Lib.hid (hY2.bel hd)
      clear hY1 hY2 HP1
      generalize ((w4.setCell ⟨nb + 1, 0, none⟩ (.int .i64 4)).setCell ⟨nb + 1, 3, none⟩ (.int .i64 xn.ops.length)).drew = W5 at hd HX HRS HM HV HW HY ⊢
      clear hd
      have hr_ := HRS.out
      have hm_ := HM.out
      have r0 := blkn hr_ 0 _ rfl
      have r1 := blkn hr_ 1 _ rfl
      have r2 := blkn hr_ 2 _ rfl
      have r3 := blkn hr_ 3 _ rfl
      have r4 := blkn hr_ 4 _ rfl
      have m0 := blkn hm_ 0 _ rfl
      have m1 := blkn hm_ 1 _ rfl
      have m2 := blkn hm_ 2 _ rfl
      have m3 := blkn hm_ 3 _ rfl
      have m4 := blkn hm_ 4 _ rfl
      have m5 := blkn hm_ 5 _ rfl
      have m6 := blkn hm_ 6 _ rfl
      have m7 := blkn hm_ 7 _ rfl
      have m8 := blkn hm_ 8 _ rfl
      have m9 := blkn hm_ 9 _ rfl
      have rf0 := hr_.free 0
      have rf1 := hr_.free 1
      have rf2 := hr_.free 2
      have rf3 := hr_.free 3
      have rf4 := hr_.free 4
      have mf0 := hm_.free 0
      have mf1 := hm_.free 1
      have mf2 := hm_.free 2
      have mf3 := hm_.free 3
      have mf4 := hm_.free 4
      have mf5 := hm_.free 5
      have mf6 := hm_.free 6
      have mf7 := hm_.free 7
      have mf8 := hm_.free 8
      have mf9 := hm_.free 9
      have ry := hr_.lt
      have my := hm_.lt
      have x0 := blkn HX.out 0 _ rfl
      have x1 := blkn HX.out 1 _ rfl
      have x2 := blkn HX.out 2 _ rfl
      have x3 := blkn HX.out 3 _ rfl
      have x4 := blkn HX.out 4 _ rfl
      have xf0 := HX.out.free 0
      have xf1 := HX.out.free 1
      have xf2 := HX.out.free 2
      have xf3 := HX.out.free 3
      have xf4 := HX.out.free 4
      have xy := HX.out.lt
      go_wp2
      have h2 := two_new (v1 := [.bool xn.up, .int .i64 xn.term, .bool xn.leads, .bool xn.alone, .slice E xn.ops.length f]) (v2 := [.int .i64 0, .int .i64 0, .int .i64 0, .int .i64 0, .int .i64 0, .string ⟨#[]⟩, .string ⟨#[]⟩, .int .i64 0, .string ⟨#[]⟩, .slice none 0 0]) rfl hr_ hm_ (show w.heap.size + 1 + 1 ≠ w.heap.size + 1 + 1 + 1 by omega) rfl rfl (by decide) (by decide)
      refine bodyPost_ret (results_list (rs := [.cell 6 25, .cell 7 29, .tmp 8]) rfl (by simp) (.cell _ 25 _ (0, 0) _ rfl h2.b1 Tryz.underlying25 rfl (by kernel_rfl) (.cell _ 29 _ (0, 0) _ rfl h2.b2 Tryz.underlying29 rfl (by kernel_rfl) (.tmp .nil)))) rfl ?_
      exact ⟨_, rfl, h2.ownO HV.out, h2.bel HW.out (by omega) (by omega)⟩
    ·have ho := hear_other (n := ⟨true, term, leads, alone, ops⟩) (m := ⟨kind, whom, mt, mn, op, mops⟩) k1 k3
     obtain ⟨rfl, rfl, rfl⟩ : false = z ∧ ⟨true, term, leads, alone, ops⟩ = xn ∧ noM = xm := ⟨ho.1.symm.trans HZ1.out.1, ho.2.symm.trans HZ1.out.2.1, (hearM_no ho.1).symm.trans HZ1.out.2.2⟩
     clear ho HZ1
     have hr_ := HRS.out
     have hm_ := HM.out
     have r0 := blkn hr_ 0 _ rfl
     have r1 := blkn hr_ 1 _ rfl
     have r2 := blkn hr_ 2 _ rfl
     have r3 := blkn hr_ 3 _ rfl
     have r4 := blkn hr_ 4 _ rfl
     have m0 := blkn hm_ 0 _ rfl
     have m1 := blkn hm_ 1 _ rfl
     have m2 := blkn hm_ 2 _ rfl
     have m3 := blkn hm_ 3 _ rfl
     have m4 := blkn hm_ 4 _ rfl
     have m5 := blkn hm_ 5 _ rfl
     have m6 := blkn hm_ 6 _ rfl
     have m7 := blkn hm_ 7 _ rfl
     have m8 := blkn hm_ 8 _ rfl
     have m9 := blkn hm_ 9 _ rfl
     have rf0 := hr_.free 0
     have rf1 := hr_.free 1
     have rf2 := hr_.free 2
     have rf3 := hr_.free 3
     have rf4 := hr_.free 4
     have mf0 := hm_.free 0
     have mf1 := hm_.free 1
     have mf2 := hm_.free 2
     have mf3 := hm_.free 3
     have mf4 := hm_.free 4
     have mf5 := hm_.free 5
     have mf6 := hm_.free 6
     have mf7 := hm_.free 7
     have mf8 := hm_.free 8
     have mf9 := hm_.free 9
     have ry := hr_.lt
     have my := hm_.lt
     have p0 := blkn HP1.out 0 _ rfl
     have p1 := blkn HP1.out 1 _ rfl
     have p2 := blkn HP1.out 2 _ rfl
     have p3 := blkn HP1.out 3 _ rfl
     have p4 := blkn HP1.out 4 _ rfl
     have p5 := blkn HP1.out 5 _ rfl
     have p6 := blkn HP1.out 6 _ rfl
     have p7 := blkn HP1.out 7 _ rfl
     have p8 := blkn HP1.out 8 _ rfl
     have p9 := blkn HP1.out 9 _ rfl
     have py := HP1.out.lt
     have pz1 : w.heap.size + 1 < w3.heap.size + 1 := by omega
     have pz2 : ¬ w.heap.size + 1 = w3.heap.size + 1 := by omega
     go_wp2
     have h2 := two_new (v1 := [.bool true, .int .i64 term, .bool leads, .bool alone, .slice C ops.length d]) (v2 := [.int .i64 0, .int .i64 0, .int .i64 0, .int .i64 0, .int .i64 0, .string ⟨#[]⟩, .string ⟨#[]⟩, .int .i64 0, .string ⟨#[]⟩, .slice none 0 0]) rfl hr_ hm_ (show w.heap.size + 1 + 1 ≠ w.heap.size + 1 + 1 + 1 by omega) rfl rfl (by decide) (by decide)
     refine bodyPost_ret (results_list (rs := [.cell 6 25, .cell 7 29, .tmp 8]) rfl (by simp) (.cell _ 25 _ (0, 0) _ rfl ((h2.b1.alloc _).alloc _) Tryz.underlying25 rfl (by kernel_rfl) (.cell _ 29 _ (0, 0) _ rfl ((h2.b2.alloc _).alloc _) Tryz.underlying29 rfl (by kernel_rfl) (.tmp .nil)))) rfl ?_
     exact ⟨_, rfl, ((h2.ownO HV.out).bel (bel_alloc (Below.refl _ _) _)).bel (bel_alloc (Below.refl _ _) _), bel_alloc (bel_alloc (h2.bel HW.out (by omega) (by omega)) _) _⟩
 ·obtain ⟨rfl, rfl, rfl⟩ : false = z ∧ noN = xn ∧ noM = xm := by
   have h := hearR_no (n := ⟨up, term, leads, alone, ops⟩) (id := id) (m := ⟨kind, whom, mt, mn, op, mops⟩) (by simp [okH, hk1, hk2, hk3, hk4])
   have h2 := HZ.out
   exact ⟨h.1.symm.trans h2.1, h.2.1.symm.trans h2.2.1, h.2.2.symm.trans h2.2.2⟩
  have hr_ := HRS.out
  have hm_ := HM.out
  have r0 := blkn hr_ 0 _ rfl
  have r1 := blkn hr_ 1 _ rfl
  have r2 := blkn hr_ 2 _ rfl
  have r3 := blkn hr_ 3 _ rfl
  have r4 := blkn hr_ 4 _ rfl
  have m0 := blkn hm_ 0 _ rfl
  have m1 := blkn hm_ 1 _ rfl
  have m2 := blkn hm_ 2 _ rfl
  have m3 := blkn hm_ 3 _ rfl
  have m4 := blkn hm_ 4 _ rfl
  have m5 := blkn hm_ 5 _ rfl
  have m6 := blkn hm_ 6 _ rfl
  have m7 := blkn hm_ 7 _ rfl
  have m8 := blkn hm_ 8 _ rfl
  have m9 := blkn hm_ 9 _ rfl
  have rf0 := hr_.free 0
  have rf1 := hr_.free 1
  have rf2 := hr_.free 2
  have rf3 := hr_.free 3
  have rf4 := hr_.free 4
  have mf0 := hm_.free 0
  have mf1 := hm_.free 1
  have mf2 := hm_.free 2
  have mf3 := hm_.free 3
  have mf4 := hm_.free 4
  have mf5 := hm_.free 5
  have mf6 := hm_.free 6
  have mf7 := hm_.free 7
  have mf8 := hm_.free 8
  have mf9 := hm_.free 9
  have ry := hr_.lt
  have my := hm_.lt
  go_wp2
  have h2 := two_new (v1 := [.bool false, .int .i64 0, .bool false, .bool false, .slice none 0 0]) (v2 := [.int .i64 0, .int .i64 0, .int .i64 0, .int .i64 0, .int .i64 0, .string ⟨#[]⟩, .string ⟨#[]⟩, .int .i64 0, .string ⟨#[]⟩, .slice none 0 0]) rfl hr_ hm_ (show w.heap.size + 1 + 1 ≠ w.heap.size + 1 + 1 + 1 by omega) rfl rfl (by decide) (by decide)
  refine bodyPost_ret (results_list (rs := [.cell 6 25, .cell 7 29, .tmp 8]) rfl (by simp) (.cell _ 25 _ (0, 0) _ rfl h2.b1 Tryz.underlying25 rfl (by kernel_rfl) (.cell _ 29 _ (0, 0) _ rfl h2.b2 Tryz.underlying29 rfl (by kernel_rfl) (.tmp .nil)))) rfl ?_
  exact ⟨.slice none 0 0, rfl, ownO_noN _ _, h2.bel HW.out (by omega) (by omega)⟩
end
end Go.Proofs.YtccllgpaafgjaaaGreat

namespace Go.Proofs.YtccllgpaafgjaaaGreat
open Go.RowKit Go.Proofs.YtccllgpaafgjaaaGreatW.PrintWords Go.Joins Go.ChangeShapes Go.WideShapes Go.Deep
section
variable {H : Type} {enc : TypeId × Value → H} {w : World} {base : Nat} {spare : Nat → Bool} {held : Bool}
theorem cells_opL : Tryz.prog.cellsOf 54 = 5 := by kernel_rfl
theorem cells_opsL : Tryz.prog.cellsOf 51 = 1 := by kernel_rfl
theorem cells_boolL : Tryz.prog.cellsOf 4 = 1 := by kernel_rfl
set_option maxRecDepth 100000 in
theorem open_node {r : Reach} {b0 : Nat} {v : Value} {d : DataW H} {p : List MemPlace} (hv : Value.okWide Tryz.prog w r b0 53 v) (h : DataW.Trod enc Tryz.prog w base spare held 53 v d p) :
  ∃ (n : Node) (A : Option Addr) (c : Nat), v = .agg #[.bool n.up, .int .i64 n.term, .bool n.leads, .bool n.alone, .slice A n.ops.length c] ∧ kOp.C w A n.ops.length n.ops ∧ RawOs n.ops := by
 obtain ⟨cs, rfl, hsz⟩ := okWide_struct Tryz.underlying53 hv
 obtain ⟨c0, c1, c2, c3, c4, rfl⟩ := array5 (hsz.trans (show Tryz.prog.cellsOf 53 = 5 by kernel_rfl))
 obtain ⟨fuel, hf⟩ := h
 obtain ⟨y0, y1, y2, y3, y4, m, _, h0, h1, h2, h3, h4⟩ := trod_struct5 Tryz.underlying53 hf
 simp only [cells_boolL, cells_int, cells_opsL, List.drop_zero, List.drop_succ_cons, List.take_succ_cons, List.take_zero, Value.cells] at h0 h1 h2 h3 h4
 obtain ⟨u, e0, _⟩ := DataW.trod_bool Tryz.underlying4 h0
 obtain ⟨k, e1, _, hk⟩ := DataW.trod_int Tryz.underlying3 h1
 obtain ⟨l, e2, _⟩ := DataW.trod_bool Tryz.underlying4 h2
 obtain ⟨a, e3, _⟩ := DataW.trod_bool Tryz.underlying4 h3
 obtain ⟨A, c, xs, e4, hc, hC, hq, hm⟩ := open_row kOp (Q := RawO) Tryz.underlying51 cells_opL (fun n c y hl hy => by
  obtain ⟨o, rfl, hr⟩ := open_opE hl hy
  exact ⟨o, kOp_mk _ o, hr⟩) h4
 have := big_max
 simp only [List.cons.injEq, and_true] at e0 e1 e2 e3 e4
 subst e0 e1 e2 e3 e4
 exact ⟨⟨u, k, l, a, xs⟩, A, c, rfl, hC, ⟨by show xs.length ≤ _; omega, hq⟩⟩
end
end Go.Proofs.YtccllgpaafgjaaaGreat

namespace Go.Proofs.YtccllgpaafgjaaaGreat
open Go.RowKit Go.Proofs.YtccllgpaafgjaaaGreatW.PrintWords Go.Proofs.YtccllgpaafgjaaaGreatW.PrintLast
theorem implNodeHear_c {w : World} {A B : Option Addr} {c bc : Nat} {n : Node} {id : Int} {m : Msg} (hC : kOp.C w A n.ops.length n.ops) (ho : SmallOs n.ops) (hD : kOp.C w B m.ops.length m.ops) (hom : SmallOs m.ops) (hso : SmallO m.op) :
  Calls Tryz.prog 24 #[.agg #[.bool n.up, .int .i64 n.term, .bool n.leads, .bool n.alone, .slice A n.ops.length c], .int .i64 id, .agg #[.int .i64 m.kind, .int .i64 m.whom, .int .i64 m.term, .int .i64 m.n, .int .i64 m.op.kind, .string m.op.name, .string m.op.dest, .int .i64 m.op.n, .string m.op.text, .slice B m.ops.length bc]] w (AnsO w (hearRN n id m) (hearRM n id m) (hearRB n id m)) := by
 cases n; cases m; exact implNodeHear_f hC ho hD hom hso
section
variable {w : World} {A : Option Addr} {c : Nat} {m : Msg}
set_option maxHeartbeats 4000000 in
theorem szMsg_c {left : Int} (hC : kOp.C w A m.ops.length m.ops) (hr : RawOs m.ops) (hro : RawO m.op) (h0 : 0 ≤ left) (h1 : left ≤ 1048576) :
  Calls Tryz.prog 76 #[.agg #[.int .i64 m.kind, .int .i64 m.whom, .int .i64 m.term, .int .i64 m.n, .int .i64 m.op.kind, .string m.op.name, .string m.op.dest, .int .i64 m.op.n, .string m.op.text, .slice A m.ops.length c], .int .i64 left] w (Left (SmallOs m.ops ∧ SmallO m.op) left w) := by
 have H := Lib.hid hC
 have HR := Lib.hid hr
 have HRO := Lib.hid hro
 clear hC hr hro
 go_enter Tryz.func76, Tryz.ntmps76
 go_wp2_with fail
 have hB : Blk (w.alloc (.cells #[.int .i64 m.kind, .int .i64 m.whom, .int .i64 m.term, .int .i64 m.n, .int .i64 m.op.kind, .string m.op.name, .string m.op.dest, .int .i64 m.op.n, .string m.op.text, .slice A m.ops.length c] 91)) w.heap.size #[.int .i64 m.kind, .int .i64 m.whom, .int .i64 m.term, .int .i64 m.n, .int .i64 m.op.kind, .string m.op.name, .string m.op.dest, .int .i64 m.op.n, .string m.op.text, .slice A m.ops.length c] 91 := Blk.new _ _ _
 have hb : Bel w (w.alloc (.cells #[.int .i64 m.kind, .int .i64 m.whom, .int .i64 m.term, .int .i64 m.n, .int .i64 m.op.kind, .string m.op.name, .string m.op.dest, .int .i64 m.op.n, .string m.op.text, .slice A m.ops.length c] 91)) := bel_alloc (Below.refl _ _) _
 generalize w.alloc (.cells #[.int .i64 m.kind, .int .i64 m.whom, .int .i64 m.term, .int .i64 m.n, .int .i64 m.op.kind, .string m.op.name, .string m.op.dest, .int .i64 m.op.n, .string m.op.text, .slice A m.ops.length c] 91) = W0 at hB hb ⊢
 refine (szOp_c m.op left W0 h0 h1 HRO.out).mono ?_
 rintro e w1 ⟨r, rfl, hb1, hr, hr1⟩
 have HB := Lib.hid (hB.bel hb1)
 have HW := Lib.hid (hb.tr hb1)
 have HRR := Lib.hid hr
 clear hB hb hb1 hr
 by_cases hrn : r < 0
 ·go_wp2
  go_ret
  exact ⟨-1, rfl, HW.out, by omega, by omega⟩
 have HS := Lib.hid (HRR.out (by omega)).1
 have hr2 := (HRR.out (by omega)).2
 have k9 := blkn HB.out 9 _ rfl
 have ky := HB.out.lt
 go_wp2_with fail
 refine (szOpS_c (kOp_keep H.out HW.out) HR.out (by omega) (by omega)).mono ?_
 rintro e w2 ⟨s, rfl, hb2, hs, hs1⟩
 have HW2 := Lib.hid (HW.out.tr hb2)
 have HSS := Lib.hid hs
 clear hb2 hs k9 ky HRR
 by_cases hsn : s < 0
 ·go_wp2
  go_ret
  exact ⟨-1, rfl, HW2.out, by omega, by omega⟩
 ·go_wp2
  go_ret
  exact ⟨s, rfl, HW2.out, fun h => ⟨⟨(HSS.out h).1, HS.out⟩, Int.le_trans (HSS.out h).2 hr2⟩, by omega⟩
def MadeMg (w : World) (m : Msg) (e : Ending) (w' : World) : Prop := ∃ v, e = .returned (.agg #[.int .i64 m.kind, .int .i64 m.whom, .int .i64 m.term, .int .i64 m.n, .int .i64 m.op.kind, .string m.op.name, .string m.op.dest, .int .i64 m.op.n, .string m.op.text, v]) ∧ OwnO w' w.heap.size v m.ops ∧ Bel w w'
set_option maxHeartbeats 8000000 in
theorem toMsg_c (hC : kOp.C w A m.ops.length m.ops) (hl : m.ops.length ≤ 1048576) :
  Calls Tryz.prog 77 #[.agg #[.int .i64 m.kind, .int .i64 m.whom, .int .i64 m.term, .int .i64 m.n, .int .i64 m.op.kind, .string m.op.name, .string m.op.dest, .int .i64 m.op.n, .string m.op.text, .slice A m.ops.length c]] w (MadeMg w m) := by
 have H := Lib.hid hC
 clear hC
 go_enter Tryz.func77, Tryz.ntmps77
 go_wp2_with fail
 have hB : Blk (((w.alloc (.cells #[.int .i64 m.kind, .int .i64 m.whom, .int .i64 m.term, .int .i64 m.n, .int .i64 m.op.kind, .string m.op.name, .string m.op.dest, .int .i64 m.op.n, .string m.op.text, .slice A m.ops.length c] 91)).alloc (.cells #[.int .i64 0, .int .i64 0, .int .i64 0, .int .i64 0, .int .i64 0, .string ⟨#[]⟩, .string ⟨#[]⟩, .int .i64 0, .string ⟨#[]⟩, .slice none 0 0] 29)).alloc (.cells #[.int .i64 m.kind, .int .i64 m.whom, .int .i64 m.term, .int .i64 m.n, .int .i64 0, .string ⟨#[]⟩, .string ⟨#[]⟩, .int .i64 0, .string ⟨#[]⟩, .slice none 0 0] 29)) w.heap.size #[.int .i64 m.kind, .int .i64 m.whom, .int .i64 m.term, .int .i64 m.n, .int .i64 m.op.kind, .string m.op.name, .string m.op.dest, .int .i64 m.op.n, .string m.op.text, .slice A m.ops.length c] 91 := ((Blk.new _ _ _).alloc _).alloc _
 have hR : Blk (((w.alloc (.cells #[.int .i64 m.kind, .int .i64 m.whom, .int .i64 m.term, .int .i64 m.n, .int .i64 m.op.kind, .string m.op.name, .string m.op.dest, .int .i64 m.op.n, .string m.op.text, .slice A m.ops.length c] 91)).alloc (.cells #[.int .i64 0, .int .i64 0, .int .i64 0, .int .i64 0, .int .i64 0, .string ⟨#[]⟩, .string ⟨#[]⟩, .int .i64 0, .string ⟨#[]⟩, .slice none 0 0] 29)).alloc (.cells #[.int .i64 m.kind, .int .i64 m.whom, .int .i64 m.term, .int .i64 m.n, .int .i64 0, .string ⟨#[]⟩, .string ⟨#[]⟩, .int .i64 0, .string ⟨#[]⟩, .slice none 0 0] 29)) (w.heap.size + 1) #[.int .i64 0, .int .i64 0, .int .i64 0, .int .i64 0, .int .i64 0, .string ⟨#[]⟩, .string ⟨#[]⟩, .int .i64 0, .string ⟨#[]⟩, .slice none 0 0] 29 := (Blk.nw2 w _ _ _).alloc _
 have hL : Blk (((w.alloc (.cells #[.int .i64 m.kind, .int .i64 m.whom, .int .i64 m.term, .int .i64 m.n, .int .i64 m.op.kind, .string m.op.name, .string m.op.dest, .int .i64 m.op.n, .string m.op.text, .slice A m.ops.length c] 91)).alloc (.cells #[.int .i64 0, .int .i64 0, .int .i64 0, .int .i64 0, .int .i64 0, .string ⟨#[]⟩, .string ⟨#[]⟩, .int .i64 0, .string ⟨#[]⟩, .slice none 0 0] 29)).alloc (.cells #[.int .i64 m.kind, .int .i64 m.whom, .int .i64 m.term, .int .i64 m.n, .int .i64 0, .string ⟨#[]⟩, .string ⟨#[]⟩, .int .i64 0, .string ⟨#[]⟩, .slice none 0 0] 29)) (w.heap.size + 1 + 1) #[.int .i64 m.kind, .int .i64 m.whom, .int .i64 m.term, .int .i64 m.n, .int .i64 0, .string ⟨#[]⟩, .string ⟨#[]⟩, .int .i64 0, .string ⟨#[]⟩, .slice none 0 0] 29 := by have := Blk.new ((w.alloc (.cells #[.int .i64 m.kind, .int .i64 m.whom, .int .i64 m.term, .int .i64 m.n, .int .i64 m.op.kind, .string m.op.name, .string m.op.dest, .int .i64 m.op.n, .string m.op.text, .slice A m.ops.length c] 91)).alloc (.cells #[.int .i64 0, .int .i64 0, .int .i64 0, .int .i64 0, .int .i64 0, .string ⟨#[]⟩, .string ⟨#[]⟩, .int .i64 0, .string ⟨#[]⟩, .slice none 0 0] 29)) #[.int .i64 m.kind, .int .i64 m.whom, .int .i64 m.term, .int .i64 m.n, .int .i64 0, .string ⟨#[]⟩, .string ⟨#[]⟩, .int .i64 0, .string ⟨#[]⟩, .slice none 0 0] 29; simpa using this
 have hW : Bel w (((w.alloc (.cells #[.int .i64 m.kind, .int .i64 m.whom, .int .i64 m.term, .int .i64 m.n, .int .i64 m.op.kind, .string m.op.name, .string m.op.dest, .int .i64 m.op.n, .string m.op.text, .slice A m.ops.length c] 91)).alloc (.cells #[.int .i64 0, .int .i64 0, .int .i64 0, .int .i64 0, .int .i64 0, .string ⟨#[]⟩, .string ⟨#[]⟩, .int .i64 0, .string ⟨#[]⟩, .slice none 0 0] 29)).alloc (.cells #[.int .i64 m.kind, .int .i64 m.whom, .int .i64 m.term, .int .i64 m.n, .int .i64 0, .string ⟨#[]⟩, .string ⟨#[]⟩, .int .i64 0, .string ⟨#[]⟩, .slice none 0 0] 29)) := bel_alloc (bel_alloc (bel_alloc (Below.refl _ _) _) _) _
 generalize (((w.alloc (.cells #[.int .i64 m.kind, .int .i64 m.whom, .int .i64 m.term, .int .i64 m.n, .int .i64 m.op.kind, .string m.op.name, .string m.op.dest, .int .i64 m.op.n, .string m.op.text, .slice A m.ops.length c] 91)).alloc (.cells #[.int .i64 0, .int .i64 0, .int .i64 0, .int .i64 0, .int .i64 0, .string ⟨#[]⟩, .string ⟨#[]⟩, .int .i64 0, .string ⟨#[]⟩, .slice none 0 0] 29)).alloc (.cells #[.int .i64 m.kind, .int .i64 m.whom, .int .i64 m.term, .int .i64 m.n, .int .i64 0, .string ⟨#[]⟩, .string ⟨#[]⟩, .int .i64 0, .string ⟨#[]⟩, .slice none 0 0] 29)) = W0 at hB hR hL hW ⊢
 refine (toOp_c m.op W0).mono ?_
 rintro e w1 ⟨rfl, hb1⟩
 have HB := Lib.hid (hB.bel hb1)
 have HR := Lib.hid (hR.bel hb1)
 have HL := Lib.hid (hL.bel hb1)
 have HW := Lib.hid (hW.tr hb1)
 clear hB hR hL hW hb1
 have b9 := blkn HB.out 9 _ rfl
 have by_ := HB.out.lt
 have l4 := blkn HL.out 4 _ rfl
 have lf4 := HL.out.free 4
 have l5 := blkn HL.out 5 _ rfl
 have lf5 := HL.out.free 5
 have l6 := blkn HL.out 6 _ rfl
 have lf6 := HL.out.free 6
 have l7 := blkn HL.out 7 _ rfl
 have lf7 := HL.out.free 7
 have l8 := blkn HL.out 8 _ rfl
 have lf8 := HL.out.free 8
 have ly := HL.out.lt
 go_wp2_with fail
 clear b9 by_ l4 lf4 l5 lf5 l6 lf6 l7 lf7 l8 lf8 ly
 have hL1 := HL.out.set 4 (.int .i64 m.op.kind) (cs' := #[.int .i64 m.kind, .int .i64 m.whom, .int .i64 m.term, .int .i64 m.n, .int .i64 m.op.kind, .string ⟨#[]⟩, .string ⟨#[]⟩, .int .i64 0, .string ⟨#[]⟩, .slice none 0 0]) rfl
 have hL2 := hL1.set 5 (.string m.op.name) (cs' := #[.int .i64 m.kind, .int .i64 m.whom, .int .i64 m.term, .int .i64 m.n, .int .i64 m.op.kind, .string m.op.name, .string ⟨#[]⟩, .int .i64 0, .string ⟨#[]⟩, .slice none 0 0]) rfl
 have hL3 := hL2.set 6 (.string m.op.dest) (cs' := #[.int .i64 m.kind, .int .i64 m.whom, .int .i64 m.term, .int .i64 m.n, .int .i64 m.op.kind, .string m.op.name, .string m.op.dest, .int .i64 0, .string ⟨#[]⟩, .slice none 0 0]) rfl
 have hL4 := hL3.set 7 (.int .i64 m.op.n) (cs' := #[.int .i64 m.kind, .int .i64 m.whom, .int .i64 m.term, .int .i64 m.n, .int .i64 m.op.kind, .string m.op.name, .string m.op.dest, .int .i64 m.op.n, .string ⟨#[]⟩, .slice none 0 0]) rfl
 have hL5 := hL4.set 8 (.string m.op.text) (cs' := #[.int .i64 m.kind, .int .i64 m.whom, .int .i64 m.term, .int .i64 m.n, .int .i64 m.op.kind, .string m.op.name, .string m.op.dest, .int .i64 m.op.n, .string m.op.text, .slice none 0 0]) rfl
 have hB1 := (((((HB.out.apart (show w.heap.size + 1 + 1 ≠ w.heap.size by omega) 4 (.int .i64 m.op.kind)).apart (show w.heap.size + 1 + 1 ≠ w.heap.size by omega) 5 (.string m.op.name)).apart (show w.heap.size + 1 + 1 ≠ w.heap.size by omega) 6 (.string m.op.dest)).apart (show w.heap.size + 1 + 1 ≠ w.heap.size by omega) 7 (.int .i64 m.op.n)).apart (show w.heap.size + 1 + 1 ≠ w.heap.size by omega) 8 (.string m.op.text))
 have hR1 := (((((HR.out.apart (show w.heap.size + 1 + 1 ≠ w.heap.size + 1 by omega) 4 (.int .i64 m.op.kind)).apart (show w.heap.size + 1 + 1 ≠ w.heap.size + 1 by omega) 5 (.string m.op.name)).apart (show w.heap.size + 1 + 1 ≠ w.heap.size + 1 by omega) 6 (.string m.op.dest)).apart (show w.heap.size + 1 + 1 ≠ w.heap.size + 1 by omega) 7 (.int .i64 m.op.n)).apart (show w.heap.size + 1 + 1 ≠ w.heap.size + 1 by omega) 8 (.string m.op.text))
 have hW1 := bel_set (bel_set (bel_set (bel_set (bel_set HW.out (show w.heap.size ≤ w.heap.size + 1 + 1 by omega) 4 (.int .i64 m.op.kind)) (show w.heap.size ≤ w.heap.size + 1 + 1 by omega) 5 (.string m.op.name)) (show w.heap.size ≤ w.heap.size + 1 + 1 by omega) 6 (.string m.op.dest)) (show w.heap.size ≤ w.heap.size + 1 + 1 by omega) 7 (.int .i64 m.op.n)) (show w.heap.size ≤ w.heap.size + 1 + 1 by omega) 8 (.string m.op.text)
 generalize (((((w1.setCell ⟨w.heap.size + 1 + 1, 4, none⟩ (.int .i64 m.op.kind)).setCell ⟨w.heap.size + 1 + 1, 5, none⟩ (.string m.op.name)).setCell ⟨w.heap.size + 1 + 1, 6, none⟩ (.string m.op.dest)).setCell ⟨w.heap.size + 1 + 1, 7, none⟩ (.int .i64 m.op.n)).setCell ⟨w.heap.size + 1 + 1, 8, none⟩ (.string m.op.text)) = W1 at hL5 hB1 hR1 hW1 ⊢
 clear hL1 hL2 hL3 hL4 HB HR HL HW
 refine (toOpS_c (kOp_keep H.out hW1) hl).mono ?_
 rintro e w2 ⟨v, rfl, ho, hb2⟩
 obtain ⟨B, d, rfl, -, -⟩ := ho.reads
 have HR := Lib.hid (hR1.bel hb2)
 have HL := Lib.hid (hL5.bel hb2)
 have HO := Lib.hid (show OwnO w2 w.heap.size (.slice B m.ops.length d) m.ops from own_lower ho hW1.size)
 have HW := Lib.hid (hW1.tr hb2)
 clear hB1 hR1 hL5 hW1 ho hb2
 have l0 := blkn HL.out 0 _ rfl
 have l1 := blkn HL.out 1 _ rfl
 have l2 := blkn HL.out 2 _ rfl
 have l3 := blkn HL.out 3 _ rfl
 have l4 := blkn HL.out 4 _ rfl
 have l5 := blkn HL.out 5 _ rfl
 have l6 := blkn HL.out 6 _ rfl
 have l7 := blkn HL.out 7 _ rfl
 have l8 := blkn HL.out 8 _ rfl
 have l9 := blkn HL.out 9 _ rfl
 have lf9 := HL.out.free 9
 have ly := HL.out.lt
 have r0 := blkn HR.out 0 _ rfl
 have rf0 := HR.out.free 0
 have r1 := blkn HR.out 1 _ rfl
 have rf1 := HR.out.free 1
 have r2 := blkn HR.out 2 _ rfl
 have rf2 := HR.out.free 2
 have r3 := blkn HR.out 3 _ rfl
 have rf3 := HR.out.free 3
 have r4 := blkn HR.out 4 _ rfl
 have rf4 := HR.out.free 4
 have r5 := blkn HR.out 5 _ rfl
 have rf5 := HR.out.free 5
 have r6 := blkn HR.out 6 _ rfl
 have rf6 := HR.out.free 6
 have r7 := blkn HR.out 7 _ rfl
 have rf7 := HR.out.free 7
 have r8 := blkn HR.out 8 _ rfl
 have rf8 := HR.out.free 8
 have r9 := blkn HR.out 9 _ rfl
 have rf9 := HR.out.free 9
 have ry := HR.out.lt
 go_wp2
 clear l0 l1 l2 l3 l4 l5 l6 l7 l8 l9 lf9 ly r0 rf0 r1 rf1 r2 rf2 r3 rf3 r4 rf4 r5 rf5 r6 rf6 r7 rf7 r8 rf8 r9 rf9 ry
 have hL6 := HL.out.set 9 (.slice B m.ops.length d) (cs' := #[.int .i64 m.kind, .int .i64 m.whom, .int .i64 m.term, .int .i64 m.n, .int .i64 m.op.kind, .string m.op.name, .string m.op.dest, .int .i64 m.op.n, .string m.op.text, .slice B m.ops.length d]) rfl
 have hR6 := HR.out.apart (show w.heap.size + 1 + 1 ≠ w.heap.size + 1 by omega) 9 (.slice B m.ops.length d)
 have hO6 := (HO.out.far HL.out (by decide) 9 (.slice B m.ops.length d)).sets hR6 (by decide) [.int .i64 m.kind, .int .i64 m.whom, .int .i64 m.term, .int .i64 m.n, .int .i64 m.op.kind, .string m.op.name, .string m.op.dest, .int .i64 m.op.n, .string m.op.text, .slice B m.ops.length d]
 have hW6 := bel_sets (show w.heap.size ≤ w.heap.size + 1 by omega) [.int .i64 m.kind, .int .i64 m.whom, .int .i64 m.term, .int .i64 m.n, .int .i64 m.op.kind, .string m.op.name, .string m.op.dest, .int .i64 m.op.n, .string m.op.text, .slice B m.ops.length d] 0 (bel_set HW.out (show w.heap.size ≤ w.heap.size + 1 + 1 by omega) 9 (.slice B m.ops.length d))
 have hR7 := hR6.sets [.int .i64 m.kind, .int .i64 m.whom, .int .i64 m.term, .int .i64 m.n, .int .i64 m.op.kind, .string m.op.name, .string m.op.dest, .int .i64 m.op.n, .string m.op.text, .slice B m.ops.length d] rfl
 refine bodyPost_ret (results_cell_row rfl _ _ (w.heap.size + 1) 29 #[.int .i64 m.kind, .int .i64 m.whom, .int .i64 m.term, .int .i64 m.n, .int .i64 m.op.kind, .string m.op.name, .string m.op.dest, .int .i64 m.op.n, .string m.op.text, .slice B m.ops.length d] (0, 0) _ rfl hR7 Tryz.underlying29 rfl (by kernel_rfl)) rfl ?_
 exact ⟨_, rfl, hO6, hW6⟩
end
section
variable {H : Type} {enc : TypeId × Value → H} {P : Program} {w : World} {base : Nat} {spare : Nat → Bool} {held : Bool}
theorem trod_struct6 {t : TypeId} {f0 f1 f2 f3 f4 f5 : Field} {fuel : Nat} {cs : List Value} {x : DataW H × List MemPlace} (ht : P.underlying t = some (.struct #[f0, f1, f2, f3, f4, f5])) (h : DataW.trod enc P w base spare held fuel t cs = some x) :
  ∃ y0 y1 y2 y3 y4 y5 n, cs.length = P.cellsOf t ∧ DataW.trod enc P w base spare held n f0.type ((cs.drop f0.offset).take (P.cellsOf f0.type)) = some y0 ∧
   DataW.trod enc P w base spare held n f1.type ((cs.drop f1.offset).take (P.cellsOf f1.type)) = some y1 ∧ DataW.trod enc P w base spare held n f2.type ((cs.drop f2.offset).take (P.cellsOf f2.type)) = some y2 ∧
   DataW.trod enc P w base spare held n f3.type ((cs.drop f3.offset).take (P.cellsOf f3.type)) = some y3 ∧ DataW.trod enc P w base spare held n f4.type ((cs.drop f4.offset).take (P.cellsOf f4.type)) = some y4 ∧ DataW.trod enc P w base spare held n f5.type ((cs.drop f5.offset).take (P.cellsOf f5.type)) = some y5 := by
 obtain ⟨xs, n, _, rfl, hl, hlen, hf⟩ := DataW.trod_struct ht h
 match xs, hlen with
 | [y0, y1, y2, y3, y4, y5], _ => exact ⟨y0, y1, y2, y3, y4, y5, n, hl, by simpa using hf 0 f0 rfl, by simpa using hf 1 f1 rfl, by simpa using hf 2 f2 rfl, by simpa using hf 3 f3 rfl, by simpa using hf 4 f4 rfl, by simpa using hf 5 f5 rfl⟩
end
theorem array10 {α : Type} {cs : Array α} (h : cs.size = 10) : ∃ c0 c1 c2 c3 c4 c5 c6 c7 c8 c9, cs = #[c0, c1, c2, c3, c4, c5, c6, c7, c8, c9] := by
 obtain ⟨l⟩ := cs
 match l, h with
 | [c0, c1, c2, c3, c4, c5, c6, c7, c8, c9], _ => exact ⟨c0, c1, c2, c3, c4, c5, c6, c7, c8, c9, rfl⟩
open Go.RowKit Go.Joins Go.ChangeShapes Go.WideShapes Go.Deep in
set_option maxRecDepth 100000 in
theorem open_msg {H : Type} {enc : TypeId × Value → H} {w : World} {base : Nat} {spare : Nat → Bool} {held : Bool} {r : Reach} {b0 : Nat} {v : Value} {d : DataW H} {p : List MemPlace} (hv : Value.okWide Tryz.prog w r b0 91 v) (h : DataW.Trod enc Tryz.prog w base spare held 91 v d p) :
  ∃ (m : Msg) (A : Option Addr) (c : Nat), v = .agg #[.int .i64 m.kind, .int .i64 m.whom, .int .i64 m.term, .int .i64 m.n, .int .i64 m.op.kind, .string m.op.name, .string m.op.dest, .int .i64 m.op.n, .string m.op.text, .slice A m.ops.length c] ∧ kOp.C w A m.ops.length m.ops ∧ RawOs m.ops ∧ RawO m.op := by
 obtain ⟨cs, rfl, hsz⟩ := okWide_struct Tryz.underlying91 hv
 obtain ⟨c0, c1, c2, c3, c4, c5, c6, c7, c8, c9, rfl⟩ := array10 (hsz.trans (show Tryz.prog.cellsOf 91 = 10 by kernel_rfl))
 obtain ⟨fuel, hf⟩ := h
 obtain ⟨y0, y1, y2, y3, y4, y5, mm, _, h0, h1, h2, h3, h4, h5⟩ := trod_struct6 Tryz.underlying91 hf
 simp only [cells_int, cells_opL, cells_opsL, List.drop_zero, List.drop_succ_cons, List.take_succ_cons, List.take_zero, Value.cells] at h0 h1 h2 h3 h4 h5
 obtain ⟨k0, e0, _, hk0⟩ := DataW.trod_int Tryz.underlying3 h0
 obtain ⟨k1, e1, _, hk1⟩ := DataW.trod_int Tryz.underlying3 h1
 obtain ⟨k2, e2, _, hk2⟩ := DataW.trod_int Tryz.underlying3 h2
 obtain ⟨k3, e3, _, hk3⟩ := DataW.trod_int Tryz.underlying3 h3
 obtain ⟨o, e4, hro⟩ := open_opE rfl h4
 obtain ⟨A, c, xs, e5, hc, hC, hq, hm⟩ := open_row kOp (Q := RawO) Tryz.underlying51 cells_opL (fun n c y hl hy => by
  obtain ⟨o, rfl, hr⟩ := open_opE hl hy
  exact ⟨o, kOp_mk _ o, hr⟩) h5
 have := big_max
 simp only [List.cons.injEq, and_true] at e0 e1 e2 e3 e4 e5
 obtain ⟨rfl, rfl, rfl, rfl, rfl⟩ := e4
 subst e0 e1 e2 e3 e5
 exact ⟨⟨k0, k1, k2, k3, o, xs⟩, A, c, rfl, hC, ⟨by show xs.length ≤ _; omega, hq⟩, hro⟩
end Go.Proofs.YtccllgpaafgjaaaGreat

namespace Go.Proofs.YtccllgpaafgjaaaGreat
open Go.ChangeShapes Go.WideShapes
theorem joined_of {P : Program} {f : FuncId} {fn : Func} {s : ChangeSpec} {c : OpenClaim}
  (h0 : (c.wf (OpenSpec.ofChange s)) = true)
  (h1 : (laidOutB P) = true)
  (h2 : (mapsRowed P) = true)
  (h3 : (fn.params.all (P.readableRec ·)) = true)
  (h4 : (namedTie P c.named s.vars) = true)
  (h5 : (c.stops == []) = true)
  (h6 : (P.stops == []) = true)
  (h7 : (c.knobs == []) = true)
  (h8 : (P.stopKnobs == []) = true)
  (h9 : (c.inPlace == P.inPlace f) = true)
  (h10 : (c.unfollowed == P.unfollowed f) = true)
  (h11 : (c.recurses == P.recurses f) = true)
  (h12 : (c.named == P.varsNamed f) = true)
  (h13 : (c.maps == (fn.params.toList ++ s.plain.varTypes P).any (P.mapsRec ·)) = true)
  (h14 : (c.ifaces == (fn.params.toList ++ s.plain.varTypes P).any (P.ifacesRec ·)) = true)
  (h15 : (c.mapsOut == P.mapsAmong fn.resultTypes.toList) = true)
  (h16 : (c.loops == (fn.params.toList ++ s.plain.varTypes P).any (P.loopsFrom ·)) = true)
  (h17 : (c.wideKeys == (fn.params.toList ++ s.plain.varTypes P ++ fn.resultTypes.toList).any (P.wideKeysFrom ·)) = true)
  (h18 : (s.vars.all (P.varReadable ·)) = true)
  (h19 : (fn.resultTypes.all (fun t => P.readableRec t && decide (t < P.types.size))) = true)
  (h20 : (c.ifacesOut == fn.resultTypes.toList.any (P.ifacesRec ·)) = true)
  (h21 : (c.loopsOut == fn.resultTypes.toList.any (P.loopsFrom ·)) = true)
  (h22 : (c.plainKeys == P.plainKeys) = true)
  (h23 : (c.shortTexts.isNone) = true)
  (h24 : (P.stopsHeard) = true)
  (h25 : (P.mayEnter) = true)
  (h26 : (c.lifted == P.liftsFinal) = true)
  (h27 : (P.make == some c.make) = true)
  (h28 : (c.kinds == (if c.domain.isEmpty then [] else fn.params.toList.map fun t => match P.underlying t with | some (.int k) => some k | _ => none)) = true)
  (h29 : (c.pinned == c.pinnedBy) = true)
  (h30 : (c.veiled == (fn.params.toList ++ s.plain.varTypes P ++ fn.resultTypes.toList).any (P.veiledRec ·)) = true)
  (h31 : (c.veiledFits P fn.params.toList (fn.params.toList ++ s.plain.varTypes P ++ fn.resultTypes.toList)) = true) : joinedFacts P f fn s c = true := by
 unfold joinedFacts
 simp only [Bool.and_eq_true]
 exact ⟨⟨⟨⟨⟨⟨⟨⟨⟨⟨⟨⟨⟨⟨⟨⟨⟨⟨⟨⟨⟨⟨⟨⟨⟨⟨⟨⟨⟨⟨⟨h0, h1⟩, h2⟩, h3⟩, h4⟩, h5⟩, h6⟩, h7⟩, h8⟩, h9⟩, h10⟩, h11⟩, h12⟩, h13⟩, h14⟩, h15⟩, h16⟩, h17⟩, h18⟩, h19⟩, h20⟩, h21⟩, h22⟩, h23⟩, h24⟩, h25⟩, h26⟩, h27⟩, h28⟩, h29⟩, h30⟩, h31⟩
def ordN : List Nat := [104, 97, 114, 110, 101, 115, 115, 32, 102, 49, 50, 48, 98, 98, 97, 51, 102, 53, 55, 102, 97, 55, 97, 55, 100, 50, 50, 100, 54, 99, 50, 53, 55, 102, 99, 101, 50, 101, 52, 54,
 102, 102, 57, 100, 52, 51, 102, 52, 54, 98, 56, 55, 100, 50, 51, 99, 101, 101, 51, 53, 49, 100, 52, 55, 54, 51, 55, 102, 55, 101, 52, 98, 32, 99, 117, 116, 32, 97, 116, 32,
 108, 111, 111, 112, 46, 101, 120, 97, 109, 112, 108, 101, 47, 103, 97, 114, 110, 101, 114, 47, 108, 97, 119, 115, 46, 70, 110, 72, 101, 97, 114, 71, 97, 112, 32, 108, 111, 111, 112, 46,
 101, 120, 97, 109, 112, 108, 101, 47, 103, 97, 114, 110, 101, 114, 47, 108, 97, 119, 115, 46, 70, 110, 72, 101, 97, 114, 74, 111, 105, 110, 32, 108, 111, 111, 112, 46, 101, 120, 97, 109,
 112, 108, 101, 47, 103, 97, 114, 110, 101, 114, 47, 108, 97, 119, 115, 46, 70, 110, 72, 101, 97, 114, 67, 111, 112, 121, 32, 108, 111, 111, 112, 46, 101, 120, 97, 109, 112, 108, 101, 47,
 103, 97, 114, 110, 101, 114, 47, 108, 97, 119, 115, 46, 70, 110, 76, 111, 103, 80, 97, 99, 107, 32, 108, 111, 111, 112, 46, 101, 120, 97, 109, 112, 108, 101, 47, 103, 97, 114, 110, 101,
 114, 47, 108, 97, 119, 115, 46, 70, 110, 69, 120, 97, 99, 116, 78, 111, 100, 101, 65, 115, 107, 32, 108, 111, 111, 112, 46, 101, 120, 97, 109, 112, 108, 101, 47, 103, 97, 114, 110, 101,
 114, 47, 108, 97, 119, 115, 46, 70, 110, 76, 111, 103, 75, 101, 101, 112, 32, 108, 111, 111, 112, 46, 101, 120, 97, 109, 112, 108, 101, 47, 103, 97, 114, 110, 101, 114, 47, 108, 97, 119,
 115, 46, 70, 110, 80, 97, 99, 107, 70, 97, 108, 108, 32, 108, 111, 111, 112, 46, 101, 120, 97, 109, 112, 108, 101, 47, 103, 97, 114, 110, 101, 114, 47, 108, 97, 119, 115, 46, 70, 110,
 76, 111, 103, 70, 114, 101, 101, 32, 108, 111, 111, 112, 46, 101, 120, 97, 109, 112, 108, 101, 47, 103, 97, 114, 110, 101, 114, 47, 108, 97, 119, 115, 46, 70, 110, 76, 111, 103, 65, 100,
 100, 32, 108, 111, 111, 112, 46, 101, 120, 97, 109, 112, 108, 101, 47, 103, 97, 114, 110, 101, 114, 47, 108, 97, 119, 115, 46, 70, 110, 75, 101, 101, 112, 65, 100, 100, 32, 108, 111, 111,
 112, 46, 101, 120, 97, 109, 112, 108, 101, 47, 103, 97, 114, 110, 101, 114, 47, 108, 97, 119, 115, 46, 70, 110, 69, 120, 97, 99, 116, 78, 111, 100, 101, 80, 111, 111, 108, 32, 108, 111,
 111, 112, 46, 101, 120, 97, 109, 112, 108, 101, 47, 103, 97, 114, 110, 101, 114, 47, 108, 97, 119, 115, 46, 70, 110, 69, 120, 97, 99, 116, 76, 111, 103, 79, 107, 32, 108, 111, 111, 112,
 46, 101, 120, 97, 109, 112, 108, 101, 47, 103, 97, 114, 110, 101, 114, 47, 108, 97, 119, 115, 46, 70, 110, 78, 111, 100, 101, 76, 101, 115, 115, 32, 108, 111, 111, 112, 46, 101, 120, 97,
 109, 112, 108, 101, 47, 103, 97, 114, 110, 101, 114, 47, 108, 97, 119, 115, 46, 70, 110, 69, 120, 97, 99, 116, 78, 111, 100, 101, 72, 101, 97, 114, 32, 108, 111, 111, 112, 46, 101, 120,
 97, 109, 112, 108, 101, 47, 103, 97, 114, 110, 101, 114, 47, 108, 97, 119, 115, 46, 70, 110, 78, 111, 100, 101, 80, 111, 111, 108, 32, 108, 111, 111, 112, 46, 101, 120, 97, 109, 112, 108,
 101, 47, 103, 97, 114, 110, 101, 114, 47, 108, 97, 119, 115, 46, 70, 110, 69, 120, 97, 99, 116, 87, 111, 114, 108, 100, 79, 107, 32, 108, 111, 111, 112, 46, 101, 120, 97, 109, 112, 108,
 101, 47, 103, 97, 114, 110, 101, 114, 47, 108, 97, 119, 115, 46, 70, 110, 72, 101, 97, 114, 65, 103, 97, 105, 110, 32, 108, 111, 111, 112, 46, 101, 120, 97, 109, 112, 108, 101, 47, 103,
 97, 114, 110, 101, 114, 47, 108, 97, 119, 115, 46, 70, 110, 72, 101, 97, 114, 68, 111, 119, 110, 32, 108, 111, 111, 112, 46, 101, 120, 97, 109, 112, 108, 101, 47, 103, 97, 114, 110, 101,
 114, 47, 108, 97, 119, 115, 46, 70, 110, 72, 101, 97, 114, 69, 108, 100, 101, 114]
theorem ord_eq : Tryz.prog.initOrder = String.ofList (ordN.map Char.ofNat) := by kernel_rfl
theorem ord_list : Tryz.prog.initOrder.toList = ordN.map Char.ofNat := by rw [ord_eq, String.toList_ofList]
theorem jo_laid : laidOutB Tryz.prog = true := by kernel_rfl
theorem jo_maps : mapsRowed Tryz.prog = true := by kernel_rfl
theorem jo_stops : (Tryz.prog.stops == []) = true := by kernel_rfl
theorem jo_knobs : (Tryz.prog.stopKnobs == []) = true := by kernel_rfl
theorem jo_keys : (true == Tryz.prog.plainKeys) = true := by kernel_rfl
theorem jo_heard : Tryz.prog.stopsHeard = true := by kernel_rfl
theorem ord_words : behindMainWord (wordsSigns (ordN.map Char.ofNat)) = "cut".toList :: (behindMainWord (wordsSigns (ordN.map Char.ofNat))).tail := by kernel_rfl
theorem strip_cut (W : List (List Char)) : stripLifts liftWords ("cut".toList :: W) = ([], "cut".toList :: W) := by kernel_rfl
theorem jo_later : Tryz.prog.laysLater = false := by kernel_rfl
theorem jo_reflect : Tryz.prog.bearsReflect = false := by kernel_rfl
theorem jo_door : Tryz.prog.doorFits [] = true := by kernel_rfl
theorem cut_gc : ("cut".toList == "gc".toList) = false := by kernel_rfl
theorem cut_spec : ("cut".toList == "spec".toList) = false := by kernel_rfl
theorem cut_carried : ("cut".toList == "carried".toList) = false := by kernel_rfl
theorem cut_cut : ("cut".toList == "cut".toList) = true := by kernel_rfl
theorem some_cut : (some "cut".toList == some "cut".toList) = true := by kernel_rfl
theorem jo_enter : Tryz.prog.mayEnter = true := by
 rw [Program.mayEnter, ord_list, ord_words]
 generalize (behindMainWord (wordsSigns (ordN.map Char.ofNat))).tail = W
 simp only [strip_cut, cut_gc, cut_spec, cut_carried, List.head?_cons, some_cut, jo_later, jo_reflect, jo_door, Bool.or_self, Bool.false_and, Bool.not_false, Bool.or_true, Bool.and_self, List.contains_nil]
theorem jo_lifts : Tryz.prog.headLifts = [] := by
 unfold Program.headLifts
 rw [ord_list, ord_words]
 generalize (behindMainWord (wordsSigns (ordN.map Char.ofNat))).tail = W
 simp only [strip_cut, List.head?_cons, some_cut, if_true]
theorem jo_final : (false == Tryz.prog.liftsFinal) = true := by
 unfold Program.liftsFinal
 rw [jo_lifts, ord_list, ord_words]
 generalize (behindMainWord (wordsSigns (ordN.map Char.ofNat))).tail = W
 kernel_rfl
theorem jo_make : (Tryz.prog.make == some .cut) = true := by
 rw [Program.make, ord_list, ord_words]
 generalize (behindMainWord (wordsSigns (ordN.map Char.ofNat))).tail = W
 simp only [cut_gc, cut_spec, cut_cut, Bool.or_self, Bool.true_or, if_true, Bool.false_eq_true, if_false]
 kernel_rfl
end Go.Proofs.YtccllgpaafgjaaaGreat

/- Contracts of the program's and the reference's functions, and the plain laws behind them: part 7 of 7. -/
import Derived.Test.YtccllgpaafgjaaaGreatQ1
import Derived.Test.YtccllgpaafgjaaaGreatQ2
import Derived.Test.YtccllgpaafgjaaaGreatQ3
import Derived.Test.YtccllgpaafgjaaaGreatQ4
import Derived.Test.YtccllgpaafgjaaaGreatQ5
import Derived.Test.YtccllgpaafgjaaaGreatQ6
import Derived.Test.YtccllgpaafgjaaaGreatRows
import Derived.JoinedOf
import Derived.KernelRfl
set_option linter.unusedVariables false
set_option linter.unusedSimpArgs false

namespace Go.Proofs.YtccllgpaafgjaaaGreat
open Go.RowKit Go.Proofs.YtccllgpaafgjaaaGreatW.PrintWords Go.Proofs.YtccllgpaafgjaaaGreatW.PrintLast
def Opened (w : World) (e : Ending) (w' : World) : Prop := ∃ rb, e = .returned (.pointer (some ⟨rb, 0, none⟩)) ∧ Rd w' rb 0 ∧ w.heap.size ≤ rb ∧ Bel w w'
structure CodeIn (w : World) (A : Option Addr) (n c : Nat) (bs : List Int) : Prop where
  len : bs.length = n
  cap : n ≤ c
  C : kByte.C w A n bs
  bd : ∀ x ∈ bs, 0 ≤ x ∧ x ≤ 255
  lt : ∀ ad, A = some ad → ad.block < w.heap.size
theorem CodeIn.bel {w w' : World} {A : Option Addr} {n c : Nat} {bs : List Int} (h : CodeIn w A n c bs) (hb : Bel w w') : CodeIn w' A n c bs := ⟨h.len, h.cap, Kd.C_below h.C hb, h.bd, fun ad e => Nat.lt_of_lt_of_le (h.lt ad e) hb.size⟩
def OfV (xs : List ByteArray) (v : Value) : Prop := ∃ s, v = .string s ∧ s ∈ xs
def TextV (v : Value) : Prop := ∃ s : ByteArray, v = .string s ∧ s.size ≤ 7
def sOf (l : List UInt8) : ByteArray := ⟨l.toArray⟩
def abc : List ByteArray := [sOf [97], sOf [98], sOf [99], sOf [100], sOf [97]]
def eee : List ByteArray := [sOf [101], sOf [97, 97, 97, 97], sOf [32], sOf [65]]
end Go.Proofs.YtccllgpaafgjaaaGreat

namespace Go.Proofs.YtccllgpaafgjaaaGreat
open Go.RowKit Go.Proofs.YtccllgpaafgjaaaGreatW.PrintWords Go.Proofs.YtccllgpaafgjaaaGreatW.PrintLast
theorem newP_ok : PoolP newP := poolOk_iff.1 (by kernel_rfl)
theorem isTerm_c (t : Int) (w : World) : Calls Tryz.prog 98 #[.int .i64 t] w (Same (.bool (inR t 0 99)) w) := by
 go_enter Tryz.func98, Tryz.ntmps98
 go_wp2_with (go_at_call 110; refine (within_c t 0 99 _).mono ?_; rintro e w' ⟨rfl, rfl⟩)
 go_ret
 exact ⟨rfl, rfl⟩
set_option maxHeartbeats 2000000 in
theorem areOps_c {w : World} {A : Option Addr} {c : Nat} {os : List Op} (hC : kOp.C w A os.length os) (ho : SmallOs os) :
    Calls Tryz.prog 99 #[.slice A os.length c] w (Ret (.bool (runB newP os && decide (os.length ≤ 20))) w) := by
  have HC := Lib.hid hC
  have HO := Lib.hid ho
  have hl := ho.len
  obtain ⟨b, hb⟩ : ∃ b, runB newP os = b := ⟨_, rfl⟩
  obtain ⟨d, hd⟩ : ∃ d, decide (os.length ≤ 20) = d := ⟨_, rfl⟩
  have hdi : decide ((os.length : Int) ≤ 20) = d := by rw [← hd]; congr 1; exact propext ⟨fun h => by omega, fun h => by omega⟩
  rw [hb, hd]
  have HRB := Lib.hid hb
  clear hC ho hd hb
  go_enter Tryz.func99, Tryz.ntmps99
  go_wp2_with fail
  refine (implPoolNew_c _).mono ?_
  rintro e w1 ⟨v0, v1, bvs, rfl, hp, hb1⟩
  obtain ⟨A0, A1, c0, c1, rfl, rfl, hpi⟩ := hp.reads
  clear hpi
  go_wp2_with fail
  refine (doAll_c hp.inn newP_ok.small (Kd.C_below HC.out hb1) HO.out).mono ?_
  rw [HRB.out]
  generalize runV newP os = q
  rintro e w2 ⟨u0, u1, bu, rfl, hu, hb2⟩
  obtain ⟨E0, E1, k0, k1, rfl, rfl, hpi⟩ := hu.reads
  have HB := Lib.hid (hb1.tr hb2)
  clear hpi hu hp hb1 hb2
  cases b <;>
    (go_wp2
     go_ret
     exact ⟨rfl, bel_alloc HB.out _⟩)
def NV (n : Node) (A : Option Addr) (c : Nat) : Value := .agg #[.bool n.up, .int .i64 n.term, .bool n.leads, .bool n.alone, .slice A n.ops.length c]
set_option maxHeartbeats 4000000 in
theorem implNodeOk_c {w : World} {A : Option Addr} {c : Nat} {n : Node} (hC : kOp.C w A n.ops.length n.ops) (ho : SmallOs n.ops) :
    Calls Tryz.prog 28 #[.agg #[.bool n.up, .int .i64 n.term, .bool n.leads, .bool n.alone, .slice A n.ops.length c]] w (Ret (.bool (nodeOk n)) w) := by
  obtain ⟨up, term, leads, alone, os⟩ := n
  unfold nodeOk
  simp only at hC ho ⊢
  have HC := Lib.hid hC
  have HO := Lib.hid ho
  clear hC ho
  obtain ⟨t, ht⟩ : ∃ t, inR term 0 99 = t := ⟨_, rfl⟩
  obtain ⟨b, hb⟩ : ∃ b, (runB newP os && decide (os.length ≤ 20)) = b := ⟨_, rfl⟩
  rw [ht, hb]
  have HT := Lib.hid ht
  have HB := Lib.hid hb
  clear ht hb
  have hA : ∀ W : World, Bel w W → Calls Tryz.prog 99 #[.slice A os.length c] W (Ret (.bool b) W) := fun W h => HB.out ▸ areOps_c (Kd.C_below HC.out h) HO.out
  have hI : ∀ W : World, Calls Tryz.prog 98 #[.int .i64 term] W (Same (.bool t) W) := fun W => HT.out ▸ isTerm_c term W
  have HA := Lib.hid hA
  have HI := Lib.hid hI
  clear hA hI
  go_enter Tryz.func28, Tryz.ntmps28
  cases t <;> cases leads <;> cases alone <;> cases b <;>
    (go_wp2_with (first | (go_at_call 98; refine (HI.out _).mono ?_; rintro e w' ⟨rfl, rfl⟩) | (go_at_call 99; refine (HA.out _ (bel_alloc (Below.refl _ _) _)).mono ?_; rintro e w3 ⟨rfl, hb3⟩))
     go_ret
     first | exact ⟨rfl, bel_alloc (Below.refl _ _) _⟩ | exact ⟨rfl, (bel_alloc (Below.refl _ _) _ : Bel w _).tr hb3⟩)
end Go.Proofs.YtccllgpaafgjaaaGreat

namespace Go.Proofs.YtccllgpaafgjaaaGreat
open Go.RowKit Go.Proofs.YtccllgpaafgjaaaGreatW.PrintWords
set_option maxHeartbeats 2000000 in
theorem szNode_c {w : World} {A : Option Addr} {c : Nat} {n : Node} {left : Int} (hC : kOp.C w A n.ops.length n.ops) (hr : RawOs n.ops) (h0 : 0 ≤ left) (h1 : left ≤ 1048576) :
  Calls Tryz.prog 38 #[.agg #[.bool n.up, .int .i64 n.term, .bool n.leads, .bool n.alone, .slice A n.ops.length c], .int .i64 left] w (Left (SmallOs n.ops) left w) := by
 have H := Lib.hid hC
 have HR := Lib.hid hr
 clear hC hr
 go_enter Tryz.func38, Tryz.ntmps38
 go_wp2_with fail
 refine (szOpS_c (Kd.C_alloc H.out _) HR.out h0 h1).mono ?_
 rintro e w1 ⟨r, rfl, hb1, hr, hr1⟩
 have hb : Bel w w1 := (bel_alloc (Below.refl _ _) _ : Bel w _).tr hb1
 have HRR := Lib.hid hr
 clear hr hb1
 by_cases hrn : r < 0
 ·go_wp2
  go_ret
  exact ⟨-1, rfl, hb, by omega, by omega⟩
 ·go_wp2
  go_ret
  exact ⟨r, rfl, hb, HRR.out, hr1⟩
def MadeNd (w : World) (n : Node) (e : Ending) (w' : World) : Prop := ∃ v, e = .returned (.agg #[.bool n.up, .int .i64 n.term, .bool n.leads, .bool n.alone, v]) ∧ OwnO w' w.heap.size v n.ops ∧ Bel w w'
theorem OwnO.far {w : World} {base : Nat} {v : Value} {s : List Op} (h : OwnO w base v s) {b : Nat} {cs : Array Value} {t : TypeId} (hB : Blk w b cs t) (ht : 27 ≠ t) (i : Nat) (u : Value) : OwnO (w.setCell ⟨b, i, none⟩ u) base v s :=
 own_setCell (p := ⟨b, i, none⟩) h (own_ne h hB ht) u
set_option maxHeartbeats 4000000 in
theorem toNode_c {w : World} {A : Option Addr} {c : Nat} {n : Node} (hC : kOp.C w A n.ops.length n.ops) (hl : n.ops.length ≤ 1048576) :
  Calls Tryz.prog 41 #[.agg #[.bool n.up, .int .i64 n.term, .bool n.leads, .bool n.alone, .slice A n.ops.length c]] w (MadeNd w n) := by
 have H := Lib.hid hC
 clear hC
 go_enter Tryz.func41, Tryz.ntmps41
 go_wp2_with fail
 have hR : Blk (((w.alloc (.cells #[.bool n.up, .int .i64 n.term, .bool n.leads, .bool n.alone, .slice A n.ops.length c] 53)).alloc (.cells #[.bool false, .int .i64 0, .bool false, .bool false, .slice none 0 0] 25)).alloc (.cells #[.bool n.up, .int .i64 n.term, .bool n.leads, .bool n.alone, .slice none 0 0] 25)) (w.heap.size + 1) #[.bool false, .int .i64 0, .bool false, .bool false, .slice none 0 0] 25 := (Blk.nw2 _ _ _ _).alloc _
 have hL : Blk (((w.alloc (.cells #[.bool n.up, .int .i64 n.term, .bool n.leads, .bool n.alone, .slice A n.ops.length c] 53)).alloc (.cells #[.bool false, .int .i64 0, .bool false, .bool false, .slice none 0 0] 25)).alloc (.cells #[.bool n.up, .int .i64 n.term, .bool n.leads, .bool n.alone, .slice none 0 0] 25)) (w.heap.size + 1 + 1) #[.bool n.up, .int .i64 n.term, .bool n.leads, .bool n.alone, .slice none 0 0] 25 := Blk.nw3 _ _ _ _ _
 have hW : Bel w (((w.alloc (.cells #[.bool n.up, .int .i64 n.term, .bool n.leads, .bool n.alone, .slice A n.ops.length c] 53)).alloc (.cells #[.bool false, .int .i64 0, .bool false, .bool false, .slice none 0 0] 25)).alloc (.cells #[.bool n.up, .int .i64 n.term, .bool n.leads, .bool n.alone, .slice none 0 0] 25)) := bel_alloc (bel_alloc (bel_alloc (Below.refl _ _) _) _) _
 generalize (((w.alloc (.cells #[.bool n.up, .int .i64 n.term, .bool n.leads, .bool n.alone, .slice A n.ops.length c] 53)).alloc (.cells #[.bool false, .int .i64 0, .bool false, .bool false, .slice none 0 0] 25)).alloc (.cells #[.bool n.up, .int .i64 n.term, .bool n.leads, .bool n.alone, .slice none 0 0] 25)) = W at hR hL hW ⊢
 refine (toOpS_c (Kd.C_below H.out hW) hl).mono ?_
 rintro e w1 ⟨b, rfl, ho, hb1⟩
 obtain ⟨B, d, rfl, hd, hCd⟩ := ho.reads
 clear hCd
 have HR := Lib.hid (hR.bel hb1)
 have HL := Lib.hid (hL.bel hb1)
 have HW := Lib.hid (hW.tr hb1)
 have HO := Lib.hid (show OwnO w1 w.heap.size (.slice B n.ops.length d) n.ops from own_lower ho hW.size)
 clear hR hL hW ho hb1
 have l0 := HL.out.cell 0
 have r0 := HR.out.cell 0
 have f0 := HR.out.free 0
 have l1 := HL.out.cell 1
 have r1 := HR.out.cell 1
 have f1 := HR.out.free 1
 have l2 := HL.out.cell 2
 have r2 := HR.out.cell 2
 have f2 := HR.out.free 2
 have l3 := HL.out.cell 3
 have r3 := HR.out.cell 3
 have f3 := HR.out.free 3
 have l4 := HL.out.cell 4
 have r4 := HR.out.cell 4
 have f4 := HR.out.free 4
 have g4 := HL.out.free 4
 have y1 := HL.out.lt
 have y2 := HR.out.lt
 simp at l0 r0 l1 r1 l2 r2 l3 r3 l4 r4
 go_wp2
 have hL1 := HL.out.set 4 (.slice B n.ops.length d) (cs' := #[.bool n.up, .int .i64 n.term, .bool n.leads, .bool n.alone, .slice B n.ops.length d]) rfl
 have hR0 := HR.out.apart (show w.heap.size + 1 + 1 ≠ w.heap.size + 1 by omega) 4 (.slice B n.ops.length d)
 have ho0 := HO.out.far HL.out (by decide) 4 (.slice B n.ops.length d)
 have hb0 := bel_set HW.out (show w.heap.size ≤ w.heap.size + 1 + 1 by omega) 4 (.slice B n.ops.length d)
 have hR1 := hR0.set 0 (.bool n.up) (cs' := #[.bool n.up, .int .i64 0, .bool false, .bool false, .slice none 0 0]) rfl
 have ho1 := ho0.far hR0 (by decide) 0 (.bool n.up)
 have hb1 := bel_set hb0 (show w.heap.size ≤ w.heap.size + 1 by omega) 0 (.bool n.up)
 have hR2 := hR1.set 1 (.int .i64 n.term) (cs' := #[.bool n.up, .int .i64 n.term, .bool false, .bool false, .slice none 0 0]) rfl
 have ho2 := ho1.far hR1 (by decide) 1 (.int .i64 n.term)
 have hb2 := bel_set hb1 (show w.heap.size ≤ w.heap.size + 1 by omega) 1 (.int .i64 n.term)
 have hR3 := hR2.set 2 (.bool n.leads) (cs' := #[.bool n.up, .int .i64 n.term, .bool n.leads, .bool false, .slice none 0 0]) rfl
 have ho3 := ho2.far hR2 (by decide) 2 (.bool n.leads)
 have hb3 := bel_set hb2 (show w.heap.size ≤ w.heap.size + 1 by omega) 2 (.bool n.leads)
 have hR4 := hR3.set 3 (.bool n.alone) (cs' := #[.bool n.up, .int .i64 n.term, .bool n.leads, .bool n.alone, .slice none 0 0]) rfl
 have ho4 := ho3.far hR3 (by decide) 3 (.bool n.alone)
 have hb4 := bel_set hb3 (show w.heap.size ≤ w.heap.size + 1 by omega) 3 (.bool n.alone)
 have hR5 := hR4.set 4 (.slice B n.ops.length d) (cs' := #[.bool n.up, .int .i64 n.term, .bool n.leads, .bool n.alone, .slice B n.ops.length d]) rfl
 have ho5 := ho4.far hR4 (by decide) 4 (.slice B n.ops.length d)
 have hb5 := bel_set hb4 (show w.heap.size ≤ w.heap.size + 1 by omega) 4 (.slice B n.ops.length d)
 refine bodyPost_ret (results_cell_row rfl _ _ (w.heap.size + 1) 25 #[.bool n.up, .int .i64 n.term, .bool n.leads, .bool n.alone, .slice B n.ops.length d] (0, 0) _ rfl hR5 Tryz.underlying25 rfl (by kernel_rfl)) rfl ?_
 exact ⟨_, rfl, ho5, hb5⟩
end Go.Proofs.YtccllgpaafgjaaaGreat

namespace Go.Proofs.YtccllgpaafgjaaaGreat
open Go.RowKit Go.Proofs.YtccllgpaafgjaaaGreatW.PrintWords Go.Proofs.YtccllgpaafgjaaaGreatW.PrintLast
def MadeL (w : World) (l : Log) (e : Ending) (w' : World) : Prop := ∃ (A B C : Option Addr) (a b c : Nat) (bvs : List Value), e = .returned (.agg #[.slice A l.base.slots.length a, .slice B l.base.vols.length b, .slice C l.ops.length c, .int .i64 l.safe]) ∧ OwnP w' w.heap.size (.slice A l.base.slots.length a) (.slice B l.base.vols.length b) l.base bvs ∧ OwnO w' w.heap.size (.slice C l.ops.length c) l.ops ∧ Bel w w'
theorem OwnO.innC {w : World} {base n c : Nat} {C : Option Addr} {s : List Op} (h : OwnO w base (.slice C n c) s) (hn : n = s.length) : s.length ≤ c ∧ kOp.C w C s.length s := by
 subst hn
 obtain ⟨A, k, e, hk, hC⟩ := h.reads
 have e := slice_eq e
 obtain ⟨rfl, -, rfl⟩ := e
 exact ⟨hk, hC⟩
theorem MadeL.new {w : World} {l : Log} {e : Ending} {w' : World} (h : MadeL w l e w') : NewL w l e w' := by
 obtain ⟨A, B, C, a, b, c, bvs, rfl, hp, ho, hb⟩ := h
 have h1 := ho.innC rfl
 exact ⟨A, B, C, a, b, c, rfl, ⟨hp.inn, h1.2, h1.1⟩, hb⟩
abbrev wset4 (W : World) (b : Nat) (u0 u1 u2 u3 : Value) : World := (((W.setCell ⟨b, 0, none⟩ u0).setCell ⟨b, 1, none⟩ u1).setCell ⟨b, 2, none⟩ u2).setCell ⟨b, 3, none⟩ u3
section
variable {w : World} {A B C : Option Addr} {a b c : Nat} {l : Log}
end
end Go.Proofs.YtccllgpaafgjaaaGreat

namespace Go.Proofs.YtccllgpaafgjaaaGreat
open Go.RowKit Go.Proofs.YtccllgpaafgjaaaGreatW.PrintWords Go.Proofs.YtccllgpaafgjaaaGreatW.PrintLast
def RunsP (base : Nat) (p : Pool) (os : List Op) (w : World) (e : Ending) (w' : World) : Prop := ∃ (A0 A1 : Option Addr) (n0 n1 c0 c1 : Nat), e = .returned (.tuple #[.agg #[.slice A0 n0 c0, .slice A1 n1 c1], .bool (runP p os).isSome]) ∧ (∀ q, runP p os = some q → ∃ bq, OwnP w' base (.slice A0 n0 c0) (.slice A1 n1 c1) q bq) ∧ Fr base w w'
structure RunSt (base : Nat) (w W : World) (p : Pool) (v0 v1 : Value) (bvs : List Value) : Prop where
  pool : Blk W w.heap.size #[v0, v1] 42
  res : Blk W (w.heap.size + 1) #[.slice none 0 0, .slice none 0 0] 42
  own : OwnP W base v0 v1 p bvs
  fr : Fr base w W
theorem Fr.refl (base : Nat) (w : World) : Fr base w w := ⟨Below.refl _ _, fun _ _ _ _ _ _ h => h⟩
theorem Fr.pool {base : Nat} {w W : World} (h : Fr base w W) {b : Nat} {cs : Array Value} (hB : Blk w b cs 42) : Blk W b cs 42 := h.k b cs _ (by decide) (by decide) (by decide) hB
theorem RunSt.of {base : Nat} {w W : World} {q : Pool} {x0 x1 u0 u1 : Value} {bq : List Value} (hB : Blk W w.heap.size #[x0, x1] 42) (hR : Blk W (w.heap.size + 1) #[.slice none 0 0, .slice none 0 0] 42) (ho : OwnP W base u0 u1 q bq) (hf : Fr base w W) (hbase : base ≤ w.heap.size) :
  RunSt base w ((W.setCell ⟨w.heap.size, 0, none⟩ u0).setCell ⟨w.heap.size, 1, none⟩ u1) q u0 u1 bq := by
 have h1 := hB.set 0 u0 (cs' := #[u0, x1]) rfl
 exact ⟨h1.set 1 u1 rfl, (hR.apart (by omega) 0 u0).apart (by omega) 1 u1, (ho.far hB (by decide) (by decide) (by decide) 0 u0).far h1 (by decide) (by decide) (by decide) 1 u1, (hf.set (Nat.le_refl _) hbase 0 u0).set (Nat.le_refl _) hbase 1 u1⟩
set_option maxHeartbeats 16000000 in
set_option maxRecDepth 10000 in
theorem l13Run_c {w0 w : World} {base : Nat} {v0 v1 : Value} {bvs : List Value} {p : Pool} {os : List Op} {A2 : Option Addr} {c2 : Nat} (h : OwnP w base v0 v1 p bvs) (hp : PoolP p) (hbase : base ≤ w.heap.size) (hC : kOp.C w0 A2 os.length os) (h0 : w0.heap.size ≤ base) (hb0 : Below base w0 w) (ho : SmallOs os) :
  Calls Tryz.prog 104 #[.agg #[v0, v1], .slice A2 os.length c2] w (RunsP base p os w) := by
 obtain ⟨A0, A1, c0, c1, rfl, rfl, hpi⟩ := h.reads
 clear hpi
 have HV := Lib.hid hp
 have HO := Lib.hid ho
 have hl := ho.len
 have HC := Lib.hid (fun (W : World) (hW : Fr base w W) => Kd.C_below hC ((hb0.trans hW.b).mono h0))
 have HB := Lib.hid hbase
 have HW := Lib.hid h
 clear hp ho hC h0 hb0 hbase h
 go_enter Tryz.func104, Tryz.ntmps104
 go_wp2
 have hst : RunSt base w ((w.alloc (.cells #[.slice A0 p.slots.length c0, .slice A1 p.vols.length c1] 42)).alloc (.cells #[.slice none 0 0, .slice none 0 0] 42)) p (.slice A0 p.slots.length c0) (.slice A1 p.vols.length c1) bvs := by
  have hb : Bel w ((w.alloc (.cells #[.slice A0 p.slots.length c0, .slice A1 p.vols.length c1] 42)).alloc (.cells #[.slice none 0 0, .slice none 0 0] 42)) := bel_alloc (bel_alloc (Below.refl _ _) _) _
  exact ⟨(Blk.new _ _ _).alloc _, Blk.nw2 _ _ _ _, HW.out.bel hb, Fr.ofBel hb HB.out⟩
 have HST := Lib.hid hst
 clear hst HW
 generalize ((w.alloc (.cells #[.slice A0 p.slots.length c0, .slice A1 p.vols.length c1] 42)).alloc (.cells #[.slice none 0 0, .slice none 0 0] 42)) = W0 at HST ⊢
 go_loopg [6] os.length (fun g v6 W => ∃ (j : Nat) (q : Pool) (B0 B1 : Option Addr) (d0 d1 : Nat) (bvs : List Value), g + j = os.length ∧ v6 = .int .i64 j ∧ Hid (runP p (os.take j) = some q) ∧ Hid (RunSt base w W q (.slice B0 q.slots.length d0) (.slice B1 q.vols.length d1) bvs))
 case atStart => exact ⟨0, p, A0, A1, c0, c1, bvs, rfl, rfl, rfl, HST.out⟩
 case round =>
  clear HST bvs
  obtain ⟨j, p1, B0, B1, d0, d1, bvs, hj, rfl, HR, HD⟩ := hrel
  have HQ := Lib.hid (runP_ok _ HV.out HR.out)
  by_cases hlt : j < os.length
  ·obtain ⟨o, hx⟩ := getQ hlt
   have HX := Lib.hid hx
   have hnm := Lib.hid (HO.out.op o (List.mem_of_getElem? hx))
   clear hx
   obtain ⟨ad, rfl, _⟩ := at_op (HC.out _ HD.out.fr) HX.out
   have hfx := Lib.hid (fun (W : World) (hW : Fr base wr W) => (show (W.cell? ⟨w.heap.size, 0, none⟩ = some (.slice B0 p1.slots.length d0) ∧ W.cell? ⟨w.heap.size, 1, none⟩ = some (.slice B1 p1.vols.length d1) ∧ W.cell? (ad.add (j * 5)) = some (.int .i64 o.kind) ∧ W.cell? ⟨(ad.add (j * 5)).block, (ad.add (j * 5)).off + 1, none⟩ = some (.string o.name) ∧ W.cell? ⟨(ad.add (j * 5)).block, (ad.add (j * 5)).off + 2, none⟩ = some (.string o.dest) ∧ W.cell? ⟨(ad.add (j * 5)).block, (ad.add (j * 5)).off + 3, none⟩ = some (.int .i64 o.n) ∧ W.cell? ⟨(ad.add (j * 5)).block, (ad.add (j * 5)).off + 4, none⟩ = some (.string o.text)) from by
    obtain ⟨ad', e, a⟩ := at_op (HC.out W (HD.out.fr.tr hW HB.out)) HX.out
    cases e
    exact ⟨by rw [(hW.pool HD.out.pool).cell]; rfl, by rw [(hW.pool HD.out.pool).cell]; rfl, a⟩))
   have D0 := Lib.hid (show Fr base wr wr.drew from (Fr.refl base wr).drew)
   have hbr : base ≤ wr.heap.size := Nat.le_trans HB.out (by have := HD.out.pool.lt; omega)
   have HBR := Lib.hid hbr
   have P0 := Lib.hid (show OwnP wr.drew base (.slice B0 p1.slots.length d0) (.slice B1 p1.vols.length d1) p1 bvs from HD.out.own.bel (Below.refl _ _).drew)
   obtain ⟨q, hq⟩ : ∃ q, (opF p1 o).getD p1 = q := ⟨_, rfl⟩
   obtain ⟨ok, hokk⟩ : ∃ ok, (opF p1 o).isSome = ok := ⟨_, rfl⟩
   have hdo := Lib.hid (fun (W : World) (h : OwnP W base (.slice B0 p1.slots.length d0) (.slice B1 p1.vols.length d1) p1 bvs) (hb : base ≤ W.heap.size) => l12Do_c (o := o) h HQ.out hb hnm.out)
   unfold TurnsP at hdo
   rw [hq, hokk] at hdo
   have HE := Lib.hid (And.intro hq hokk)
   clear hq hokk hbr
   obtain ⟨s0, s1, s2, s3, s4, s5, s6⟩ := hfx.out _ D0.out
   go_wp2
   refine start_ (n := 12) (S := fun w' => w'.cell? ⟨w.heap.size, 0, none⟩ = some (.slice B0 p1.slots.length d0) ∧ w'.cell? ⟨w.heap.size, 1, none⟩ = some (.slice B1 p1.vols.length d1) ∧ w'.cell? (ad.add (j * 5)) = some (.int .i64 o.kind) ∧ w'.cell? ⟨(ad.add (j * 5)).block, (ad.add (j * 5)).off + 1, none⟩ = some (.string o.name) ∧ w'.cell? ⟨(ad.add (j * 5)).block, (ad.add (j * 5)).off + 2, none⟩ = some (.string o.dest) ∧ w'.cell? ⟨(ad.add (j * 5)).block, (ad.add (j * 5)).off + 3, none⟩ = some (.int .i64 o.n) ∧ w'.cell? ⟨(ad.add (j * 5)).block, (ad.add (j * 5)).off + 4, none⟩ = some (.string o.text)) (ds := [10]) #[bF, bF, bF, bF, bF, bF, bF, bF, bF, bF, bF, bF] (by kernel_rfl) rfl rfl ⟨s0, s1, s2, s3, s4, s5, s6⟩ (fun hHeld => ?_)
   refine pure_ (i := 1) (N := some 17) (v := ?_) (a' := ?_) #[bF, bT, bF, bF, bF, bF, bF, bF, bF, bF, bF, bF] rfl rfl (by kernel_rfl) (fun _ _ _ h => h) (Or.inl ⟨by rfl, ?_⟩) ?_ ?_
   rotate_left
   ·intro w'
    go_simp
    with_reducible rfl
   rotate_left
   ·simp only [Act.put, lA, lB, lC, i64_w, i32_w]
    rfl
   refine pure_ (i := 2) (N := some 18) (v := ?_) (a' := ?_) #[bF, bT, bT, bF, bF, bF, bF, bF, bF, bF, bF, bF] rfl rfl (by kernel_rfl) (fun _ _ _ h => h) (Or.inl ⟨by rfl, ?_⟩) ?_ ?_
   rotate_left
   ·intro w'
    go_simp
    with_reducible rfl
   rotate_left
   ·simp only [Act.put, lA, lB, lC, i64_w, i32_w]
    rfl
   refine pure_ (i := 3) (N := some 19) (v := ?_) (a' := ?_) #[bF, bT, bT, bT, bF, bF, bF, bF, bF, bF, bF, bF] rfl rfl (by kernel_rfl) (fun _ _ _ h => h) (Or.inl ⟨by rfl, ?_⟩) ?_ ?_
   rotate_left
   ·intro w'
    go_simp
    with_reducible rfl
   rotate_left
   ·simp only [Act.put, lA, lB, lC, i64_w, i32_w]
    rfl
   refine take_ (i := 0) (N := some 16) (v := ?_) (a' := ?_) #[bT, bT, bT, bT, bF, bF, bF, bF, bF, bF, bF, bF] rfl rfl (by kernel_rfl) (fun _ _ _ h => h) (Or.inl ⟨by rfl, ?_⟩) hHeld ?_ ?_
   rotate_left
   ·rintro w' ⟨s0, s1, s2, s3, s4, s5, s6⟩
    go_simp
    with_reducible rfl
   rotate_left
   ·simp only [Act.put, lA, lB, lC, i64_w, i32_w]
    rfl
   refine take_ (i := 4) (N := some 20) (v := ?_) (a' := ?_) #[bT, bT, bT, bT, bT, bF, bF, bF, bF, bF, bF, bF] rfl rfl (by kernel_rfl) (fun _ _ _ h => h) (Or.inl ⟨by rfl, ?_⟩) hHeld ?_ ?_
   rotate_left
   ·rintro w' ⟨s0, s1, s2, s3, s4, s5, s6⟩
    go_simp
    with_reducible rfl
   rotate_left
   ·simp only [Act.put, lA, lB, lC, i64_w, i32_w]
    rfl
   refine join_ (σ := Option Addr × Nat × Option Addr × Nat × List Value × Nat) 2 #[bT, bT, bT, bT, bT, bT, bT, bT, bT, bT, bF, bF] (fun s => [(21, .tuple #[.agg #[.slice s.1 q.slots.length s.2.1, .slice s.2.2.1 q.vols.length s.2.2.2.1], .bool ok]), (15, .tuple #[.agg #[.slice s.1 q.slots.length s.2.1, .slice s.2.2.1 q.vols.length s.2.2.2.1], .bool ok]), (22, .agg #[.slice s.1 q.slots.length s.2.1, .slice s.2.2.1 q.vols.length s.2.2.2.1]), (23, .bool ok), (7, .pointer (some ⟨s.2.2.2.2.2, 0, none⟩))]) (fun s w' => (w'.cell? ⟨w.heap.size, 0, none⟩ = some (.slice B0 p1.slots.length d0) ∧ w'.cell? ⟨w.heap.size, 1, none⟩ = some (.slice B1 p1.vols.length d1) ∧ w'.cell? (ad.add (j * 5)) = some (.int .i64 o.kind) ∧ w'.cell? ⟨(ad.add (j * 5)).block, (ad.add (j * 5)).off + 1, none⟩ = some (.string o.name) ∧ w'.cell? ⟨(ad.add (j * 5)).block, (ad.add (j * 5)).off + 2, none⟩ = some (.string o.dest) ∧ w'.cell? ⟨(ad.add (j * 5)).block, (ad.add (j * 5)).off + 3, none⟩ = some (.int .i64 o.n) ∧ w'.cell? ⟨(ad.add (j * 5)).block, (ad.add (j * 5)).off + 4, none⟩ = some (.string o.text)) ∧ OwnP w' base (.slice s.1 q.slots.length s.2.1) (.slice s.2.2.1 q.vols.length s.2.2.2.1) q s.2.2.2.2.1 ∧ Blk w' s.2.2.2.2.2 #[.slice none 0 0, .slice none 0 0] 42 ∧ w.heap.size + 1 < s.2.2.2.2.2 ∧ Fr base wr w') ?_ ?_
   rotate_left
   ·intro hCont
    refine two_ (i := 5) (j := 9) (Ni := some 21) (Nj := some 7) #[bT, bT, bT, bT, bT, bT, bF, bF, bF, bF, bF, bF] #[bT, bT, bT, bT, bT, bF, bF, bF, bF, bT, bF, bF] rfl rfl rfl rfl (by kernel_rfl) (by decide) (by decide) (fun K hK => ?_) (fun K hK => ?_)
    ·skip
     refine goes_ Tryz.func125 (by kernel_rfl) rfl #[.agg #[.slice B0 p1.slots.length d0, .slice B1 p1.vols.length d1], .agg #[.int .i64 o.kind, .string o.name, .string o.dest, .int .i64 o.n, .string o.text]] (by rfl) rfl rfl (by simp only [List.map_toArray, List.map_cons, List.map_nil]; rfl) ?_
     with_reducible refine (hdo.out _ P0.out (Nat.le_trans HBR.out D0.out.b.size)).mono ?_
     rintro e w1_ ⟨vc, vd, bvc, rfl, ho, X1⟩
     have D1 : Hid (Fr base wr w1_) := Lib.hid (D0.out.tr X1 HBR.out)
     have Q1 := Lib.hid ho
     obtain ⟨A2, A3, k2, k3, rfl, rfl, hpi⟩ := ho.reads
     clear ho hpi
     refine ⟨_, rfl, ?_⟩
     refine hK.out _ _ ⟨(hfx.out _ D1.out).1, (hfx.out _ D1.out).2.1, (hfx.out _ D1.out).2.2.1, (hfx.out _ D1.out).2.2.2.1, (hfx.out _ D1.out).2.2.2.2.1, (hfx.out _ D1.out).2.2.2.2.2.1, (hfx.out _ D1.out).2.2.2.2.2.2⟩ (fun hHeld => ?_)
     clear hK K
     refine norm_ (a' := ?_) ?_ ?_
     rotate_left
     ·show Act.put _ (some 21) _ = _
      simp only [Act.put, lA, lB, lC, i64_w, i32_w]
      rfl
     refine pure_ (i := 6) (N := some 15) (v := ?_) (a' := ?_) #[bT, bT, bT, bT, bT, bT, bT, bF, bF, bF, bF, bF] rfl rfl (by kernel_rfl) (fun _ _ _ h => h) (Or.inl ⟨by rfl, ?_⟩) ?_ ?_
     rotate_left
     ·intro w'
      go_simp
      with_reducible rfl
     rotate_left
     ·simp only [Act.put, lA, lB, lC, i64_w, i32_w]
      rfl
     refine pure_ (i := 7) (N := some 22) (v := ?_) (a' := ?_) #[bT, bT, bT, bT, bT, bT, bT, bT, bF, bF, bF, bF] rfl rfl (by kernel_rfl) (fun _ _ _ h => h) (Or.inl ⟨by rfl, ?_⟩) ?_ ?_
     rotate_left
     ·intro w'
      go_simp
      with_reducible rfl
     rotate_left
     ·simp only [Act.put, lA, lB, lC, i64_w, i32_w]
      rfl
     refine pure_ (i := 8) (N := some 23) (v := ?_) (a' := ?_) #[bT, bT, bT, bT, bT, bT, bT, bT, bT, bF, bF, bF] rfl rfl (by kernel_rfl) (fun _ _ _ h => h) (Or.inl ⟨by rfl, ?_⟩) ?_ ?_
     rotate_left
     ·intro w'
      go_simp
      with_reducible rfl
     rotate_left
     ·simp only [Act.put, lA, lB, lC, i64_w, i32_w]
      rfl
     refine one_ (i := 9) (N := some 7) #[bT, bT, bT, bT, bT, bT, bT, bT, bT, bT, bF, bF] rfl rfl (by kernel_rfl) (by decide) (fun K hK => ?_)
     refine value_ (w1 := ?_) (v := ?_) (by rfl) rfl ?_ ?_
     rotate_left 2
     ·go_simp
      constructor
      ·rfl
      ·rfl
     have D2 : Hid (Fr base wr (w1_.alloc (.cells #[.slice none 0 0, .slice none 0 0] 42))) := Lib.hid (Fr.bel D1.out (bel_alloc (Below.refl _ _) (.cells #[.slice none 0 0, .slice none 0 0] 42)) HBR.out)
     have Q2 := Lib.hid (OwnP.bel Q1.out (bel_alloc (Below.refl _ _) (.cells #[.slice none 0 0, .slice none 0 0] 42)))
     have O2 : Hid (Blk (w1_.alloc (.cells #[.slice none 0 0, .slice none 0 0] 42)) w1_.heap.size #[.slice none 0 0, .slice none 0 0] 42) := Lib.hid (Blk.new w1_ #[.slice none 0 0, .slice none 0 0] 42)
     have L2 : w.heap.size + 1 < w1_.heap.size := (D1.out.pool HD.out.res).lt
     refine hK.out _ _ ⟨(hfx.out _ D2.out).1, (hfx.out _ D2.out).2.1, (hfx.out _ D2.out).2.2.1, (hfx.out _ D2.out).2.2.2.1, (hfx.out _ D2.out).2.2.2.2.1, (hfx.out _ D2.out).2.2.2.2.2.1, (hfx.out _ D2.out).2.2.2.2.2.2⟩ (fun hHeld => ?_)
     clear hK K
     refine norm_ (a' := ?_) ?_ ?_
     rotate_left
     ·show Act.put _ (some 7) _ = _
      simp only [Act.put, lA, lB, lC, i64_w, i32_w]
      rfl
     exact norm_ (by simp only [putAll, Act.put, lA, lB, lC]) (hCont (A2, k2, A3, k3, bvc, w1_.heap.size) _ ⟨hHeld, Q2.out, O2.out, L2, D2.out⟩)
    ·skip
     refine value_ (w1 := ?_) (v := ?_) (by rfl) rfl ?_ ?_
     rotate_left 2
     ·go_simp
      constructor
      ·rfl
      ·rfl
     have D1 : Hid (Fr base wr (wr.alloc (.cells #[.slice none 0 0, .slice none 0 0] 42)).drew) := Lib.hid (Fr.bel D0.out (bel_alloc (Below.refl _ _) (.cells #[.slice none 0 0, .slice none 0 0] 42)) HBR.out)
     have P1 : Hid (OwnP (wr.alloc (.cells #[.slice none 0 0, .slice none 0 0] 42)).drew base (.slice B0 p1.slots.length d0) (.slice B1 p1.vols.length d1) p1 bvs) := Lib.hid (OwnP.bel P0.out (bel_alloc (Below.refl _ _) (.cells #[.slice none 0 0, .slice none 0 0] 42)))
     have O1 : Hid (Blk (wr.alloc (.cells #[.slice none 0 0, .slice none 0 0] 42)).drew wr.drew.heap.size #[.slice none 0 0, .slice none 0 0] 42) := Lib.hid (Blk.new wr.drew #[.slice none 0 0, .slice none 0 0] 42)
     have L1 : w.heap.size + 1 < wr.drew.heap.size := HD.out.res.lt
     refine hK.out _ _ ⟨(hfx.out _ D1.out).1, (hfx.out _ D1.out).2.1, (hfx.out _ D1.out).2.2.1, (hfx.out _ D1.out).2.2.2.1, (hfx.out _ D1.out).2.2.2.2.1, (hfx.out _ D1.out).2.2.2.2.2.1, (hfx.out _ D1.out).2.2.2.2.2.2⟩ (fun hHeld => ?_)
     clear hK K
     refine norm_ (a' := ?_) ?_ ?_
     rotate_left
     ·show Act.put _ (some 7) _ = _
      simp only [Act.put, lA, lB, lC, i64_w, i32_w]
      rfl
     refine one_ (i := 5) (N := some 21) #[bT, bT, bT, bT, bT, bT, bF, bF, bF, bT, bF, bF] rfl rfl (by kernel_rfl) (by decide) (fun K hK => ?_)
     refine goes_ Tryz.func125 (by kernel_rfl) rfl #[.agg #[.slice B0 p1.slots.length d0, .slice B1 p1.vols.length d1], .agg #[.int .i64 o.kind, .string o.name, .string o.dest, .int .i64 o.n, .string o.text]] (by rfl) rfl rfl (by simp only [List.map_toArray, List.map_cons, List.map_nil]; rfl) ?_
     with_reducible refine (hdo.out _ P1.out (Nat.le_trans HBR.out D1.out.b.size)).mono ?_
     rintro e w2_ ⟨vc, vd, bvc, rfl, ho, X2⟩
     have D2 : Hid (Fr base wr w2_) := Lib.hid (D1.out.tr X2 HBR.out)
     have O2 := Lib.hid (X2.k _ _ _ (by decide) (by decide) (by decide) O1.out)
     have Q2 := Lib.hid ho
     obtain ⟨A2, A3, k2, k3, rfl, rfl, hpi⟩ := ho.reads
     clear ho hpi
     refine ⟨_, rfl, ?_⟩
     refine hK.out _ _ ⟨(hfx.out _ D2.out).1, (hfx.out _ D2.out).2.1, (hfx.out _ D2.out).2.2.1, (hfx.out _ D2.out).2.2.2.1, (hfx.out _ D2.out).2.2.2.2.1, (hfx.out _ D2.out).2.2.2.2.2.1, (hfx.out _ D2.out).2.2.2.2.2.2⟩ (fun hHeld => ?_)
     clear hK K
     refine norm_ (a' := ?_) ?_ ?_
     rotate_left
     ·show Act.put _ (some 21) _ = _
      simp only [Act.put, lA, lB, lC, i64_w, i32_w]
      rfl
     refine pure_ (i := 6) (N := some 15) (v := ?_) (a' := ?_) #[bT, bT, bT, bT, bT, bT, bT, bF, bF, bT, bF, bF] rfl rfl (by kernel_rfl) (fun _ _ _ h => h) (Or.inl ⟨by rfl, ?_⟩) ?_ ?_
     rotate_left
     ·intro w'
      go_simp
      with_reducible rfl
     rotate_left
     ·simp only [Act.put, lA, lB, lC, i64_w, i32_w]
      rfl
     refine pure_ (i := 7) (N := some 22) (v := ?_) (a' := ?_) #[bT, bT, bT, bT, bT, bT, bT, bT, bF, bT, bF, bF] rfl rfl (by kernel_rfl) (fun _ _ _ h => h) (Or.inl ⟨by rfl, ?_⟩) ?_ ?_
     rotate_left
     ·intro w'
      go_simp
      with_reducible rfl
     rotate_left
     ·simp only [Act.put, lA, lB, lC, i64_w, i32_w]
      rfl
     refine pure_ (i := 8) (N := some 23) (v := ?_) (a' := ?_) #[bT, bT, bT, bT, bT, bT, bT, bT, bT, bT, bF, bF] rfl rfl (by kernel_rfl) (fun _ _ _ h => h) (Or.inl ⟨by rfl, ?_⟩) ?_ ?_
     rotate_left
     ·intro w'
      go_simp
      with_reducible rfl
     rotate_left
     ·simp only [Act.put, lA, lB, lC, i64_w, i32_w]
      rfl
     exact norm_ (by simp only [putAll, Act.put, lA, lB, lC]) (hCont (A2, k2, A3, k3, bvc, wr.heap.size) _ ⟨hHeld, Q2.out, O2.out, L1, D2.out⟩)
   rintro ⟨A2, k2, A3, k3, bvc, nb⟩ w3 ⟨hHeld, hQ, hO, hL, hD⟩
   dsimp only at hQ hO hL
   have r0 := hO.cell 0
   have r1 := hO.cell 1
   have f0 := hO.free 0
   have f1 := hO.free 1
   simp at r0 r1
   refine norm_ (a' := ?_) ?_ ?_
   rotate_left
   ·simp only [putAll, Act.put, lA, lB, lC]
    rfl
   refine last_ (i := 10) (N := none) #[bT, bT, bT, bT, bT, bT, bT, bT, bT, bT, bT, bF] rfl rfl (by kernel_rfl) (by decide) (fun K hK => ?_)
   refine skip_ (w1 := ?_) (by rfl) rfl ?_ ?_
   rotate_left
   ·go_simp
    rfl
   refine hK.out _ _ ?_
   clear hK K
   refine pure_ (i := 11) (N := some 8) (v := ?_) (a' := ?_) #[bT, bT, bT, bT, bT, bT, bT, bT, bT, bT, bT, bT] rfl rfl (by kernel_rfl) (fun _ _ _ h => h) (Or.inl ⟨by rfl, ?_⟩) ?_ ?_
   rotate_left
   ·intro w'
    go_simp
    with_reducible rfl
   rotate_left
   ·simp only [Act.put, lA, lB, lC, i64_w, i32_w]
    rfl
   refine done_ (by kernel_rfl) ?_
   have hO4 := hO.set 0 (.slice A2 q.slots.length k2) (cs' := #[.slice A2 q.slots.length k2, .slice none 0 0]) rfl
   have HO5 := Lib.hid (hO4.set 1 (.slice A3 q.vols.length k3) (cs' := #[.slice A2 q.slots.length k2, .slice A3 q.vols.length k3]) rfl)
   have HQ5 := Lib.hid ((hQ.far hO (by decide) (by decide) (by decide) 0 (.slice A2 q.slots.length k2)).far hO4 (by decide) (by decide) (by decide) 1 (.slice A3 q.vols.length k3))
   have HF5 := Lib.hid (((HD.out.fr.tr hD HB.out).set (b := nb) (by omega) HB.out 0 (.slice A2 q.slots.length k2)).set (b := nb) (by omega) HB.out 1 (.slice A3 q.vols.length k3))
   have HP5 := Lib.hid (((hD.pool HD.out.pool).apart (show nb ≠ w.heap.size by omega) 0 (.slice A2 q.slots.length k2)).apart (show nb ≠ w.heap.size by omega) 1 (.slice A3 q.vols.length k3))
   have HR5 := Lib.hid (((hD.pool HD.out.res).apart (show nb ≠ w.heap.size + 1 by omega) 0 (.slice A2 q.slots.length k2)).apart (show nb ≠ w.heap.size + 1 by omega) 1 (.slice A3 q.vols.length k3))
   clear hQ hO hO4 hD f0 f1 r0 r1 hHeld s0 s1 s2 s3 s4 s5 s6 hdo hfx D0 P0
   generalize ((w3.setCell ⟨nb, 0, none⟩ (.slice A2 q.slots.length k2)).setCell ⟨nb, 1, none⟩ (.slice A3 q.vols.length k3)) = W8 at HO5 HQ5 HF5 HP5 HR5 ⊢
   obtain ⟨ad', e, a0, a1, a2, a3, a4⟩ := at_op (HC.out W8 HF5.out) HX.out
   cases e
   go_wp2_with fail
   refine (specOpOk_c o hnm.out _).mono ?_
   rintro e w9 ⟨rfl, hb9⟩
   clear a0 a1 a2 a3 a4
   replace HO5 := Lib.hid (HO5.out.bel hb9)
   replace HQ5 := Lib.hid (HQ5.out.bel hb9)
   replace HF5 := Lib.hid (HF5.out.bel hb9 HB.out)
   replace HP5 := Lib.hid (HP5.out.bel hb9)
   replace HR5 := Lib.hid (HR5.out.bel hb9)
   clear hb9
   cases hok : opOk o with
   | false =>
    have HN := Lib.hid (show runP p os = none from runP_stop (k := j + 1) (by rw [runP_step HX.out HR.out]; unfold opR; rw [hok]; rfl))
    clear hok
    have q0 := HP5.out.cell 0
    have q1 := HP5.out.cell 1
    have r0 := HR5.out.cell 0
    have r1 := HR5.out.cell 1
    have f0 := HR5.out.free 0
    have f1 := HR5.out.free 1
    have y := HR5.out.lt
    have y2 := HP5.out.lt
    simp at q0 q1 r0 r1
    go_wp2
    have hR1 := HR5.out.set 0 (.slice B0 p1.slots.length d0) (cs' := #[.slice B0 p1.slots.length d0, .slice none 0 0]) rfl
    have hR2 := hR1.set 1 (.slice B1 p1.vols.length d1) (cs' := #[.slice B0 p1.slots.length d0, .slice B1 p1.vols.length d1]) rfl
    refine bodyPost_ret (results_ct rfl _ _ (w.heap.size + 1) 42 #[.slice B0 p1.slots.length d0, .slice B1 p1.vols.length d1] (0, 0) _ rfl hR2 Tryz.underlying42 rfl (by kernel_rfl)) rfl ?_
    exact ⟨B0, B1, _, _, d0, d1, by rw [HN.out]; rfl, fun q h => (by rw [HN.out] at h; cases h), (HF5.out.set (Nat.le_succ _) HB.out 0 (.slice B0 p1.slots.length d0)).set (Nat.le_succ _) HB.out 1 (.slice B1 p1.vols.length d1)⟩
   | true =>
    cases ok with
    | false =>
     have HN := Lib.hid (show runP p os = none from runP_stop (k := j + 1) (by rw [runP_step HX.out HR.out]; unfold opR; rw [if_pos hok]; exact Option.isSome_eq_false_iff.1 HE.out.2 |> Option.isNone_iff_eq_none.1))
     clear hok
     have q0 := HP5.out.cell 0
     have q1 := HP5.out.cell 1
     have r0 := HR5.out.cell 0
     have r1 := HR5.out.cell 1
     have f0 := HR5.out.free 0
     have f1 := HR5.out.free 1
     have y := HR5.out.lt
     have y2 := HP5.out.lt
     simp at q0 q1 r0 r1
     go_wp2
     have hR1 := HR5.out.set 0 (.slice B0 p1.slots.length d0) (cs' := #[.slice B0 p1.slots.length d0, .slice none 0 0]) rfl
     have hR2 := hR1.set 1 (.slice B1 p1.vols.length d1) (cs' := #[.slice B0 p1.slots.length d0, .slice B1 p1.vols.length d1]) rfl
     refine bodyPost_ret (results_ct rfl _ _ (w.heap.size + 1) 42 #[.slice B0 p1.slots.length d0, .slice B1 p1.vols.length d1] (0, 0) _ rfl hR2 Tryz.underlying42 rfl (by kernel_rfl)) rfl ?_
     exact ⟨B0, B1, _, _, d0, d1, by rw [HN.out]; rfl, fun q h => (by rw [HN.out] at h; cases h), (HF5.out.set (Nat.le_succ _) HB.out 0 (.slice B0 p1.slots.length d0)).set (Nat.le_succ _) HB.out 1 (.slice B1 p1.vols.length d1)⟩
    | true =>
     have HN := Lib.hid (show runP p (os.take (j + 1)) = some q by
      rw [runP_step HX.out HR.out]
      unfold opR
      rw [if_pos hok]
      obtain ⟨q', hq'⟩ := Option.isSome_iff_exists.1 HE.out.2
      have h1 := HE.out.1
      rw [hq'] at h1 ⊢
      exact congrArg some h1)
     clear hok
     have HD2 := Lib.hid (RunSt.of HP5.out HR5.out HQ5.out HF5.out HB.out)
     have q0 := HP5.out.cell 0
     have q1 := HP5.out.cell 1
     have r0 := HO5.out.cell 0
     have r1 := HO5.out.cell 1
     have f0 := HP5.out.free 0
     have f1 := HP5.out.free 1
     have y := HP5.out.lt
     simp at q0 q1 r0 r1
     go_wp2
     go_roundg (os.length - (j + 1))
     case measure => omega
     case rel => exact ⟨j + 1, q, A2, A3, k2, k3, bvc, by omega, by go_num, HN.out, HD2.out⟩
  ·have HE := Lib.hid (show runP p os = some p1 by have := HR.out; rwa [List.take_of_length_le (by omega)] at this)
   have q0 := HD.out.pool.cell 0
   have q1 := HD.out.pool.cell 1
   have r0 := HD.out.res.cell 0
   have r1 := HD.out.res.cell 1
   have f0 := HD.out.res.free 0
   have f1 := HD.out.res.free 1
   have y := HD.out.res.lt
   simp at q0 q1 r0 r1
   go_wp2
   have hR1 := HD.out.res.set 0 (.slice B0 p1.slots.length d0) (cs' := #[.slice B0 p1.slots.length d0, .slice none 0 0]) rfl
   have hR2 := hR1.set 1 (.slice B1 p1.vols.length d1) (cs' := #[.slice B0 p1.slots.length d0, .slice B1 p1.vols.length d1]) rfl
   refine bodyPost_ret (results_ct rfl _ _ (w.heap.size + 1) 42 #[.slice B0 p1.slots.length d0, .slice B1 p1.vols.length d1] (0, 0) _ rfl hR2 Tryz.underlying42 rfl (by kernel_rfl)) rfl ?_
   exact ⟨B0, B1, _, _, d0, d1, by rw [HE.out]; rfl, fun q h => (by rw [HE.out] at h; cases h; exact ⟨bvs, (HD.out.own.far HD.out.res (by decide) (by decide) (by decide) 0 (.slice B0 p1.slots.length d0)).far hR1 (by decide) (by decide) (by decide) 1 (.slice B1 p1.vols.length d1)⟩), (HD.out.fr.set (Nat.le_succ _) HB.out 0 (.slice B0 p1.slots.length d0)).set (Nat.le_succ _) HB.out 1 (.slice B1 p1.vols.length d1)⟩
end Go.Proofs.YtccllgpaafgjaaaGreat

namespace Go.Proofs.YtccllgpaafgjaaaGreat
open Go.RowKit Go.Proofs.YtccllgpaafgjaaaGreatW.PrintWords Go.Proofs.YtccllgpaafgjaaaGreatW.PrintLast
section
variable {w : World} {A B C : Option Addr} {a b c : Nat} {l : Log}
def RunQ (r : Option Pool) (w : World) (base : Nat) (A2 : Option Addr) (n2 k2 : Nat) (A3 : Option Addr) (n3 k3 : Nat) : Prop := ∀ q, r = some q → ∃ bq, OwnP w base (.slice A2 n2 k2) (.slice A3 n3 k3) q bq
theorem RunQ.bel {r : Option Pool} {w w' : World} {base : Nat} {A2 A3 : Option Addr} {n2 k2 n3 k3 : Nat} (h : RunQ r w base A2 n2 k2 A3 n3 k3) (hb : Bel w w') : RunQ r w' base A2 n2 k2 A3 n3 k3 := fun q e => by
 obtain ⟨bq, h⟩ := h q e
 exact ⟨bq, h.bel hb⟩
end
end Go.Proofs.YtccllgpaafgjaaaGreat

namespace Go.Proofs.YtccllgpaafgjaaaGreat
open Go.RowKit Go.Proofs.YtccllgpaafgjaaaGreatW.PrintWords Go.Proofs.YtccllgpaafgjaaaGreatW.PrintLast
def MadeLT (w : World) (l : Log) (e : Ending) (w' : World) : Prop := ∃ (v0 v1 v2 : Value) (bvs : List Value), e = .returned (.agg #[v0, v1, v2, .int .i64 l.safe]) ∧ OwnP w' w.heap.size v0 v1 l.base bvs ∧ OwnT w' w.heap.size v2 l.ops ∧ Bel w w'
theorem MadeLT.new {w : World} {l : Log} {e : Ending} {w' : World} (h : MadeLT w l e w') : NewL w l e w' := by
 obtain ⟨v0, v1, v2, bvs, rfl, hp, ho, hb⟩ := h
 obtain ⟨A, B, a, b, rfl, rfl, hi⟩ := hp.reads
 obtain ⟨C, c, rfl, hc, hC⟩ := ho.reads
 exact ⟨A, B, C, a, b, c, rfl, ⟨hi, hC, hc⟩, hb⟩
theorem OwnT.far {w : World} {base : Nat} {v : Value} {os : List Op} (h : OwnT w base v os) {b : Nat} {cs : Array Value} {t : TypeId} (hB : Blk w b cs t) (ht : 27 ≠ t) (i : Nat) (u : Value) : OwnT (w.setCell ⟨b, i, none⟩ u) base v os := by
 have hlt := hB.lt
 have hg : w.grownBy (w.setCell ⟨b, i, none⟩ u) (some b) := ⟨rfl, rfl, rfl, by simp, fun k hk hne => by
  have : b ≠ k := fun e => hne (by rw [e])
  simp [World.setCell, Array.getElem?_modify, this]⟩
 refine h.kept hg fun k hk e => ?_
 injection e with e
 subst e
 obtain ⟨_, _, cs', hc⟩ := h.base b hk
 have h2 := hB.symm.trans hc
 injection h2 with h2
 injection h2 with _ h2
 exact ht h2.symm
section
variable {w : World} {A B C : Option Addr} {a b c : Nat} {l : Log}
end
end Go.Proofs.YtccllgpaafgjaaaGreat

namespace Go.Proofs.YtccllgpaafgjaaaGreat
open Go.RowKit Go.Proofs.YtccllgpaafgjaaaGreatW.PrintWords Go.Proofs.YtccllgpaafgjaaaGreatW.PrintLast
section
variable {w : World} {A B C : Option Addr} {a b c : Nat} {l : Log}
end
end Go.Proofs.YtccllgpaafgjaaaGreat

namespace Go.Proofs.YtccllgpaafgjaaaGreat
open Go.RowKit Go.Proofs.YtccllgpaafgjaaaGreatW.PrintWords Go.Proofs.YtccllgpaafgjaaaGreatW.PrintLast
theorem kOp_keep {w w' : World} {A : Option Addr} {n : Nat} {os : List Op} (h : kOp.C w A n os) (hb : Bel w w') : kOp.C w' A n os := Kd.C_below h hb
section
variable {w : World} {A B C : Option Addr} {a b c : Nat} {l : Log}
end
end Go.Proofs.YtccllgpaafgjaaaGreat

namespace Go.Proofs.YtccllgpaafgjaaaGreat
open Go.RowKit Go.Proofs.YtccllgpaafgjaaaGreatW.PrintWords Go.Proofs.YtccllgpaafgjaaaGreatW.PrintLast
set_option maxHeartbeats 16000000 in
set_option maxRecDepth 10000 in
theorem specNodeOk_c {w : World} {A : Option Addr} {c : Nat} {n : Node} (hC : kOp.C w A n.ops.length n.ops) (ho : SmallOs n.ops) :
    Calls Tryz.prog 75 #[.agg #[.bool n.up, .int .i64 n.term, .bool n.leads, .bool n.alone, .slice A n.ops.length c]] w (Ret (.bool (nodeOk n)) w) := by
  obtain ⟨up, term, leads, alone, os⟩ := n
  unfold nodeOk
  simp only at hC ho ⊢
  have hl := ho.len
  have HC := Lib.hid hC
  have HO := Lib.hid ho
  clear hC ho
  obtain ⟨t, ht⟩ : ∃ t, inR term 0 99 = t := ⟨_, rfl⟩
  obtain ⟨d, hd⟩ : ∃ d, decide (os.length ≤ 20) = d := ⟨_, rfl⟩
  have hdi : decide (20 < (os.length : Int)) = !d := by rw [← hd]; by_cases h : os.length ≤ 20 <;> simp [h] <;> omega
  have hrb : runB newP os = (runP newP os).isSome := by unfold runB; rw [poolOk_iff.2 newP_ok]; rfl
  obtain ⟨b, hb⟩ : ∃ b, (runP newP os).isSome = b := ⟨_, rfl⟩
  rw [ht, hrb, hb, hd]
  have HT := Lib.hid ht
  have HB := Lib.hid hb
  clear ht hb hrb hd
  have HI := Lib.hid (fun W : World => (HT.out ▸ l6In_c term 0 99 W : Calls Tryz.prog 89 #[.int .i64 term, .int .i64 0, .int .i64 99] W (Same (.bool t) W)))
  go_enter Tryz.func75, Tryz.ntmps75
  by_cases hgo : t = true ∧ (alone = true → leads = true) ∧ d = true
  · obtain ⟨rfl, hal, rfl⟩ := hgo
    have hal2 : leads = true ∨ leads = false ∧ alone = false := by cases leads <;> cases alone <;> simp_all
    have hfin : (leads || !alone) = true := by cases leads <;> cases alone <;> simp_all
    rw [hfin]
    simp only [Bool.true_and, Bool.and_true]
    clear hal hfin
    rcases hal2 with rfl | ⟨rfl, rfl⟩
    · cases alone
      · skip
        have hN : Blk (w.alloc (.cells #[.bool up, .int .i64 term, .bool true, .bool false, .slice A os.length c] 25)) w.heap.size #[.bool up, .int .i64 term, .bool true, .bool false, .slice A os.length c] 25 := Blk.new _ _ _
        have hW : Bel w (w.alloc (.cells #[.bool up, .int .i64 term, .bool true, .bool false, .slice A os.length c] 25)) := bel_alloc (Below.refl _ _) _
        go_wp2_with (go_at_call 89; refine (HI.out _).mono ?_; rintro e w' ⟨rfl, rfl⟩)
        generalize w.alloc (.cells #[.bool up, .int .i64 term, .bool true, .bool false, .slice A os.length c] 25) = W1 at hN hW ⊢
        have hfx := Lib.hid (fun (W : World) (hb : Bel W1.drew W) => (show W.cell? ⟨w.heap.size, 4, none⟩ = some (.slice A os.length c) by rw [((hN.bel (Below.refl _ _).drew).bel hb).cell]; rfl))
        have HW := Lib.hid hW
        have hC1 : kOp.C W1.drew A os.length os := Kd.C_below HC.out (hW.tr (Below.refl _ _).drew)
        have hrun := Lib.hid (fun (W : World) (v0 v1 : Value) (bvs : List Value) (h : OwnP W W1.drew.heap.size v0 v1 newP bvs) (hb : Bel W1.drew W) => l13Run_c (c2 := c) h newP_ok (Below.size hb) hC1 (Nat.le_refl _) hb HO.out)
        unfold RunsP at hrun
        rw [HB.out] at hrun
        have D0 := Lib.hid (show Bel W1.drew W1.drew from Below.refl _ _)
        clear hN hW hC1
        have s0 := hfx.out _ D0.out
        refine start_ (n := 10) (S := fun w' => w'.cell? ⟨w.heap.size, 4, none⟩ = some (.slice A os.length c)) (ds := [8]) #[bF, bF, bF, bF, bF, bF, bF, bF, bF, bF] (by kernel_rfl) rfl rfl (s0) (fun hHeld => ?_)
        refine pure_ (i := 1) (N := some 26) (v := ?_) (a' := ?_) #[bF, bT, bF, bF, bF, bF, bF, bF, bF, bF] rfl rfl (by kernel_rfl) (fun _ _ _ h => h) (Or.inl ⟨by rfl, ?_⟩) ?_ ?_
        rotate_left
        · intro w'
          go_simp
          with_reducible rfl
        rotate_left
        · simp only [Act.put, lA, lB, lC, i64_w, i32_w]
          rfl
        refine take_ (i := 2) (N := some 27) (v := ?_) (a' := ?_) #[bF, bT, bT, bF, bF, bF, bF, bF, bF, bF] rfl rfl (by kernel_rfl) (fun _ _ _ h => h) (Or.inl ⟨by rfl, ?_⟩) hHeld ?_ ?_
        rotate_left
        · intro w' s0
          go_simp
          with_reducible rfl
        rotate_left
        · simp only [Act.put, lA, lB, lC, i64_w, i32_w]
          rfl
        refine join_ (σ := Value × Value × Option Addr × Nat × Nat × Option Addr × Nat × Nat × Nat) 2 #[bT, bT, bT, bT, bT, bT, bT, bT, bF, bF] (fun s => [(25, .agg #[s.1, s.2.1]), (28, .tuple #[.agg #[.slice s.2.2.1 s.2.2.2.1 s.2.2.2.2.1, .slice s.2.2.2.2.2.1 s.2.2.2.2.2.2.1 s.2.2.2.2.2.2.2.1], .bool b]), (24, .tuple #[.agg #[.slice s.2.2.1 s.2.2.2.1 s.2.2.2.2.1, .slice s.2.2.2.2.2.1 s.2.2.2.2.2.2.1 s.2.2.2.2.2.2.2.1], .bool b]), (29, .agg #[.slice s.2.2.1 s.2.2.2.1 s.2.2.2.2.1, .slice s.2.2.2.2.2.1 s.2.2.2.2.2.2.1 s.2.2.2.2.2.2.2.1]), (30, .bool b), (3, .pointer (some ⟨s.2.2.2.2.2.2.2.2, 0, none⟩))]) (fun s w' => (w'.cell? ⟨w.heap.size, 4, none⟩ = some (.slice A os.length c)) ∧ Blk w' s.2.2.2.2.2.2.2.2 #[.slice none 0 0, .slice none 0 0] 42 ∧ W1.drew.heap.size ≤ s.2.2.2.2.2.2.2.2 ∧ Bel W1.drew w') ?_ ?_
        rotate_left
        · intro hCont
          refine two_ (i := 0) (j := 7) (Ni := some 25) (Nj := some 3) #[bT, bT, bT, bF, bF, bF, bF, bF, bF, bF] #[bF, bT, bT, bF, bF, bF, bF, bT, bF, bF] rfl rfl rfl rfl (by kernel_rfl) (by decide) (by decide) (fun K hK => ?_) (fun K hK => ?_)
          · skip
            refine goes_ Tryz.func133 (by kernel_rfl) rfl #[] (by rfl) rfl rfl (by simp only [List.map_toArray, List.map_cons, List.map_nil]) ?_
            with_reducible refine (specPoolNew_c _).mono ?_
            rintro e w1_ ⟨va, vb, bva, rfl, ho, X1⟩
            have D1 := Lib.hid (Bel.tr D0.out X1)
            have P1 : Hid (OwnP w1_ W1.drew.heap.size va vb newP bva) := Lib.hid (ho.lower D0.out.size)
            clear ho
            refine ⟨_, rfl, ?_⟩
            refine hK.out _ _ (hfx.out _ D1.out) (fun hHeld => ?_)
            clear hK K
            refine norm_ (a' := ?_) ?_ ?_
            rotate_left
            · show Act.put _ (some 25) _ = _
              simp only [Act.put, lA, lB, lC, i64_w, i32_w]
              rfl
            refine two_ (i := 3) (j := 7) (Ni := some 28) (Nj := some 3) #[bT, bT, bT, bT, bF, bF, bF, bF, bF, bF] #[bT, bT, bT, bF, bF, bF, bF, bT, bF, bF] rfl rfl rfl rfl (by kernel_rfl) (by decide) (by decide) (fun K hK => ?_) (fun K hK => ?_)
            · skip
              refine goes_ Tryz.func104 (by kernel_rfl) rfl #[.agg #[va, vb], .slice A os.length c] (by rfl) rfl rfl (by simp only [List.map_toArray, List.map_cons, List.map_nil]; rfl) ?_
              with_reducible refine (hrun.out _ va vb bva P1.out D1.out).mono ?_
              rintro e w2_ ⟨A2, A3, n2, n3, k2, k3, rfl, hq, X2⟩
              have D2 : Hid (Bel W1.drew w2_) := Lib.hid (D1.out.trans X2.b)
              clear hq
              refine ⟨_, rfl, ?_⟩
              refine hK.out _ _ (hfx.out _ D2.out) (fun hHeld => ?_)
              clear hK K
              refine norm_ (a' := ?_) ?_ ?_
              rotate_left
              · show Act.put _ (some 28) _ = _
                simp only [Act.put, lA, lB, lC, i64_w, i32_w]
                rfl
              refine pure_ (i := 4) (N := some 24) (v := ?_) (a' := ?_) #[bT, bT, bT, bT, bT, bF, bF, bF, bF, bF] rfl rfl (by kernel_rfl) (fun _ _ _ h => h) (Or.inl ⟨by rfl, ?_⟩) ?_ ?_
              rotate_left
              · intro w'
                go_simp
                with_reducible rfl
              rotate_left
              · simp only [Act.put, lA, lB, lC, i64_w, i32_w]
                rfl
              refine pure_ (i := 5) (N := some 29) (v := ?_) (a' := ?_) #[bT, bT, bT, bT, bT, bT, bF, bF, bF, bF] rfl rfl (by kernel_rfl) (fun _ _ _ h => h) (Or.inl ⟨by rfl, ?_⟩) ?_ ?_
              rotate_left
              · intro w'
                go_simp
                with_reducible rfl
              rotate_left
              · simp only [Act.put, lA, lB, lC, i64_w, i32_w]
                rfl
              refine pure_ (i := 6) (N := some 30) (v := ?_) (a' := ?_) #[bT, bT, bT, bT, bT, bT, bT, bF, bF, bF] rfl rfl (by kernel_rfl) (fun _ _ _ h => h) (Or.inl ⟨by rfl, ?_⟩) ?_ ?_
              rotate_left
              · intro w'
                go_simp
                with_reducible rfl
              rotate_left
              · simp only [Act.put, lA, lB, lC, i64_w, i32_w]
                rfl
              refine one_ (i := 7) (N := some 3) #[bT, bT, bT, bT, bT, bT, bT, bT, bF, bF] rfl rfl (by kernel_rfl) (by decide) (fun K hK => ?_)
              refine value_ (w1 := ?_) (v := ?_) (by rfl) rfl ?_ ?_
              rotate_left 2
              · go_simp
                constructor
                · rfl
                · rfl
              have D3 : Hid (Bel W1.drew (w2_.alloc (.cells #[.slice none 0 0, .slice none 0 0] 42))) := Lib.hid (bel_alloc D2.out (.cells #[.slice none 0 0, .slice none 0 0] 42))
              have O3 : Hid (Blk (w2_.alloc (.cells #[.slice none 0 0, .slice none 0 0] 42)) w2_.heap.size #[.slice none 0 0, .slice none 0 0] 42) := Lib.hid (Blk.new w2_ #[.slice none 0 0, .slice none 0 0] 42)
              have L3 := D2.out.size
              refine hK.out _ _ (hfx.out _ D3.out) (fun hHeld => ?_)
              clear hK K
              refine norm_ (a' := ?_) ?_ ?_
              rotate_left
              · show Act.put _ (some 3) _ = _
                simp only [Act.put, lA, lB, lC, i64_w, i32_w]
                rfl
              exact norm_ (by simp only [putAll, Act.put, lA, lB, lC]) (hCont (va, vb, A2, n2, k2, A3, n3, k3, w2_.heap.size) _ ⟨hHeld, O3.out, L3, D3.out⟩)
            · skip
              refine value_ (w1 := ?_) (v := ?_) (by rfl) rfl ?_ ?_
              rotate_left 2
              · go_simp
                constructor
                · rfl
                · rfl
              have D2 : Hid (Bel W1.drew (w1_.alloc (.cells #[.slice none 0 0, .slice none 0 0] 42))) := Lib.hid (bel_alloc D1.out (.cells #[.slice none 0 0, .slice none 0 0] 42))
              have P2 := Lib.hid (OwnP.bel P1.out (bel_alloc (Below.refl _ _) (.cells #[.slice none 0 0, .slice none 0 0] 42)))
              have O2 : Hid (Blk (w1_.alloc (.cells #[.slice none 0 0, .slice none 0 0] 42)) w1_.heap.size #[.slice none 0 0, .slice none 0 0] 42) := Lib.hid (Blk.new w1_ #[.slice none 0 0, .slice none 0 0] 42)
              have L2 := D1.out.size
              refine hK.out _ _ (hfx.out _ D2.out) (fun hHeld => ?_)
              clear hK K
              refine norm_ (a' := ?_) ?_ ?_
              rotate_left
              · show Act.put _ (some 3) _ = _
                simp only [Act.put, lA, lB, lC, i64_w, i32_w]
                rfl
              refine one_ (i := 3) (N := some 28) #[bT, bT, bT, bT, bF, bF, bF, bT, bF, bF] rfl rfl (by kernel_rfl) (by decide) (fun K hK => ?_)
              refine goes_ Tryz.func104 (by kernel_rfl) rfl #[.agg #[va, vb], .slice A os.length c] (by rfl) rfl rfl (by simp only [List.map_toArray, List.map_cons, List.map_nil]; rfl) ?_
              with_reducible refine (hrun.out _ va vb bva P2.out D2.out).mono ?_
              rintro e w3_ ⟨A2, A3, n2, n3, k2, k3, rfl, hq, X3⟩
              have D3 : Hid (Bel W1.drew w3_) := Lib.hid (D2.out.trans X3.b)
              clear hq
              have O3 := Lib.hid (X3.k _ _ _ (by decide) (by decide) (by decide) O2.out)
              refine ⟨_, rfl, ?_⟩
              refine hK.out _ _ (hfx.out _ D3.out) (fun hHeld => ?_)
              clear hK K
              refine norm_ (a' := ?_) ?_ ?_
              rotate_left
              · show Act.put _ (some 28) _ = _
                simp only [Act.put, lA, lB, lC, i64_w, i32_w]
                rfl
              refine pure_ (i := 4) (N := some 24) (v := ?_) (a' := ?_) #[bT, bT, bT, bT, bT, bF, bF, bT, bF, bF] rfl rfl (by kernel_rfl) (fun _ _ _ h => h) (Or.inl ⟨by rfl, ?_⟩) ?_ ?_
              rotate_left
              · intro w'
                go_simp
                with_reducible rfl
              rotate_left
              · simp only [Act.put, lA, lB, lC, i64_w, i32_w]
                rfl
              refine pure_ (i := 5) (N := some 29) (v := ?_) (a' := ?_) #[bT, bT, bT, bT, bT, bT, bF, bT, bF, bF] rfl rfl (by kernel_rfl) (fun _ _ _ h => h) (Or.inl ⟨by rfl, ?_⟩) ?_ ?_
              rotate_left
              · intro w'
                go_simp
                with_reducible rfl
              rotate_left
              · simp only [Act.put, lA, lB, lC, i64_w, i32_w]
                rfl
              refine pure_ (i := 6) (N := some 30) (v := ?_) (a' := ?_) #[bT, bT, bT, bT, bT, bT, bT, bT, bF, bF] rfl rfl (by kernel_rfl) (fun _ _ _ h => h) (Or.inl ⟨by rfl, ?_⟩) ?_ ?_
              rotate_left
              · intro w'
                go_simp
                with_reducible rfl
              rotate_left
              · simp only [Act.put, lA, lB, lC, i64_w, i32_w]
                rfl
              exact norm_ (by simp only [putAll, Act.put, lA, lB, lC]) (hCont (va, vb, A2, n2, k2, A3, n3, k3, w1_.heap.size) _ ⟨hHeld, O3.out, L2, D3.out⟩)
          · skip
            refine value_ (w1 := ?_) (v := ?_) (by rfl) rfl ?_ ?_
            rotate_left 2
            · go_simp
              constructor
              · rfl
              · rfl
            have D1 : Hid (Bel W1.drew (W1.alloc (.cells #[.slice none 0 0, .slice none 0 0] 42)).drew) := Lib.hid (bel_alloc D0.out (.cells #[.slice none 0 0, .slice none 0 0] 42))
            have O1 : Hid (Blk (W1.alloc (.cells #[.slice none 0 0, .slice none 0 0] 42)).drew W1.drew.heap.size #[.slice none 0 0, .slice none 0 0] 42) := Lib.hid (Blk.new W1.drew #[.slice none 0 0, .slice none 0 0] 42)
            have L1 := D0.out.size
            refine hK.out _ _ (hfx.out _ D1.out) (fun hHeld => ?_)
            clear hK K
            refine norm_ (a' := ?_) ?_ ?_
            rotate_left
            · show Act.put _ (some 3) _ = _
              simp only [Act.put, lA, lB, lC, i64_w, i32_w]
              rfl
            refine one_ (i := 0) (N := some 25) #[bT, bT, bT, bF, bF, bF, bF, bT, bF, bF] rfl rfl (by kernel_rfl) (by decide) (fun K hK => ?_)
            refine goes_ Tryz.func133 (by kernel_rfl) rfl #[] (by rfl) rfl rfl (by simp only [List.map_toArray, List.map_cons, List.map_nil]) ?_
            with_reducible refine (specPoolNew_c _).mono ?_
            rintro e w2_ ⟨va, vb, bva, rfl, ho, X2⟩
            have D2 := Lib.hid (Bel.tr D1.out X2)
            have O2 := Lib.hid (Blk.bel O1.out X2)
            have P2 : Hid (OwnP w2_ W1.drew.heap.size va vb newP bva) := Lib.hid (ho.lower D1.out.size)
            clear ho
            refine ⟨_, rfl, ?_⟩
            refine hK.out _ _ (hfx.out _ D2.out) (fun hHeld => ?_)
            clear hK K
            refine norm_ (a' := ?_) ?_ ?_
            rotate_left
            · show Act.put _ (some 25) _ = _
              simp only [Act.put, lA, lB, lC, i64_w, i32_w]
              rfl
            refine one_ (i := 3) (N := some 28) #[bT, bT, bT, bT, bF, bF, bF, bT, bF, bF] rfl rfl (by kernel_rfl) (by decide) (fun K hK => ?_)
            refine goes_ Tryz.func104 (by kernel_rfl) rfl #[.agg #[va, vb], .slice A os.length c] (by rfl) rfl rfl (by simp only [List.map_toArray, List.map_cons, List.map_nil]; rfl) ?_
            with_reducible refine (hrun.out _ va vb bva P2.out D2.out).mono ?_
            rintro e w3_ ⟨A2, A3, n2, n3, k2, k3, rfl, hq, X3⟩
            have D3 : Hid (Bel W1.drew w3_) := Lib.hid (D2.out.trans X3.b)
            clear hq
            have O3 := Lib.hid (X3.k _ _ _ (by decide) (by decide) (by decide) O2.out)
            refine ⟨_, rfl, ?_⟩
            refine hK.out _ _ (hfx.out _ D3.out) (fun hHeld => ?_)
            clear hK K
            refine norm_ (a' := ?_) ?_ ?_
            rotate_left
            · show Act.put _ (some 28) _ = _
              simp only [Act.put, lA, lB, lC, i64_w, i32_w]
              rfl
            refine pure_ (i := 4) (N := some 24) (v := ?_) (a' := ?_) #[bT, bT, bT, bT, bT, bF, bF, bT, bF, bF] rfl rfl (by kernel_rfl) (fun _ _ _ h => h) (Or.inl ⟨by rfl, ?_⟩) ?_ ?_
            rotate_left
            · intro w'
              go_simp
              with_reducible rfl
            rotate_left
            · simp only [Act.put, lA, lB, lC, i64_w, i32_w]
              rfl
            refine pure_ (i := 5) (N := some 29) (v := ?_) (a' := ?_) #[bT, bT, bT, bT, bT, bT, bF, bT, bF, bF] rfl rfl (by kernel_rfl) (fun _ _ _ h => h) (Or.inl ⟨by rfl, ?_⟩) ?_ ?_
            rotate_left
            · intro w'
              go_simp
              with_reducible rfl
            rotate_left
            · simp only [Act.put, lA, lB, lC, i64_w, i32_w]
              rfl
            refine pure_ (i := 6) (N := some 30) (v := ?_) (a' := ?_) #[bT, bT, bT, bT, bT, bT, bT, bT, bF, bF] rfl rfl (by kernel_rfl) (fun _ _ _ h => h) (Or.inl ⟨by rfl, ?_⟩) ?_ ?_
            rotate_left
            · intro w'
              go_simp
              with_reducible rfl
            rotate_left
            · simp only [Act.put, lA, lB, lC, i64_w, i32_w]
              rfl
            exact norm_ (by simp only [putAll, Act.put, lA, lB, lC]) (hCont (va, vb, A2, n2, k2, A3, n3, k3, W1.heap.size) _ ⟨hHeld, O3.out, L1, D3.out⟩)
        rintro ⟨va, vb, A2, n2, k2, A3, n3, k3, nb⟩ w3 ⟨hHeld, hO, hL, hD⟩
        dsimp only at hO hL
        have r0 := hO.cell 0
        have r1 := hO.cell 1
        have f0 := hO.free 0
        have f1 := hO.free 1
        simp at r0 r1
        refine norm_ (a' := ?_) ?_ ?_
        rotate_left
        · simp only [putAll, Act.put, lA, lB, lC]
          rfl
        refine last_ (i := 8) (N := none) #[bT, bT, bT, bT, bT, bT, bT, bT, bT, bF] rfl rfl (by kernel_rfl) (by decide) (fun K hK => ?_)
        refine skip_ (w1 := ?_) (by rfl) rfl ?_ ?_
        rotate_left
        · go_simp
          rfl
        refine hK.out _ _ ?_
        clear hK K
        refine pure_ (i := 9) (N := some 4) (v := ?_) (a' := ?_) #[bT, bT, bT, bT, bT, bT, bT, bT, bT, bT] rfl rfl (by kernel_rfl) (fun _ _ _ h => h) (Or.inl ⟨by rfl, ?_⟩) ?_ ?_
        rotate_left
        · intro w'
          go_simp
          with_reducible rfl
        rotate_left
        · simp only [Act.put, lA, lB, lC, i64_w, i32_w]
          rfl
        refine done_ (by kernel_rfl) ?_
        have hb5 : Bel W1.drew ((w3.setCell ⟨nb, 0, none⟩ (.slice A2 n2 k2)).setCell ⟨nb, 1, none⟩ (.slice A3 n3 k3)) := bel_set (bel_set hD hL 0 (.slice A2 n2 k2)) hL 1 (.slice A3 n3 k3)
        clear hO hD hL f0 f1 r0 r1 hHeld D0 s0 hfx hrun
        go_wp2
        go_ret
        exact ⟨rfl, (HW.out.tr (Below.refl _ _).drew).tr hb5⟩
      · skip
        have hN : Blk (w.alloc (.cells #[.bool up, .int .i64 term, .bool true, .bool true, .slice A os.length c] 25)) w.heap.size #[.bool up, .int .i64 term, .bool true, .bool true, .slice A os.length c] 25 := Blk.new _ _ _
        have hW : Bel w (w.alloc (.cells #[.bool up, .int .i64 term, .bool true, .bool true, .slice A os.length c] 25)) := bel_alloc (Below.refl _ _) _
        go_wp2_with (go_at_call 89; refine (HI.out _).mono ?_; rintro e w' ⟨rfl, rfl⟩)
        generalize w.alloc (.cells #[.bool up, .int .i64 term, .bool true, .bool true, .slice A os.length c] 25) = W1 at hN hW ⊢
        have hfx := Lib.hid (fun (W : World) (hb : Bel W1.drew W) => (show W.cell? ⟨w.heap.size, 4, none⟩ = some (.slice A os.length c) by rw [((hN.bel (Below.refl _ _).drew).bel hb).cell]; rfl))
        have HW := Lib.hid hW
        have hC1 : kOp.C W1.drew A os.length os := Kd.C_below HC.out (hW.tr (Below.refl _ _).drew)
        have hrun := Lib.hid (fun (W : World) (v0 v1 : Value) (bvs : List Value) (h : OwnP W W1.drew.heap.size v0 v1 newP bvs) (hb : Bel W1.drew W) => l13Run_c (c2 := c) h newP_ok (Below.size hb) hC1 (Nat.le_refl _) hb HO.out)
        unfold RunsP at hrun
        rw [HB.out] at hrun
        have D0 := Lib.hid (show Bel W1.drew W1.drew from Below.refl _ _)
        clear hN hW hC1
        have s0 := hfx.out _ D0.out
        refine start_ (n := 10) (S := fun w' => w'.cell? ⟨w.heap.size, 4, none⟩ = some (.slice A os.length c)) (ds := [8]) #[bF, bF, bF, bF, bF, bF, bF, bF, bF, bF] (by kernel_rfl) rfl rfl (s0) (fun hHeld => ?_)
        refine pure_ (i := 1) (N := some 26) (v := ?_) (a' := ?_) #[bF, bT, bF, bF, bF, bF, bF, bF, bF, bF] rfl rfl (by kernel_rfl) (fun _ _ _ h => h) (Or.inl ⟨by rfl, ?_⟩) ?_ ?_
        rotate_left
        · intro w'
          go_simp
          with_reducible rfl
        rotate_left
        · simp only [Act.put, lA, lB, lC, i64_w, i32_w]
          rfl
        refine take_ (i := 2) (N := some 27) (v := ?_) (a' := ?_) #[bF, bT, bT, bF, bF, bF, bF, bF, bF, bF] rfl rfl (by kernel_rfl) (fun _ _ _ h => h) (Or.inl ⟨by rfl, ?_⟩) hHeld ?_ ?_
        rotate_left
        · intro w' s0
          go_simp
          with_reducible rfl
        rotate_left
        · simp only [Act.put, lA, lB, lC, i64_w, i32_w]
          rfl
        refine join_ (σ := Value × Value × Option Addr × Nat × Nat × Option Addr × Nat × Nat × Nat) 2 #[bT, bT, bT, bT, bT, bT, bT, bT, bF, bF] (fun s => [(25, .agg #[s.1, s.2.1]), (28, .tuple #[.agg #[.slice s.2.2.1 s.2.2.2.1 s.2.2.2.2.1, .slice s.2.2.2.2.2.1 s.2.2.2.2.2.2.1 s.2.2.2.2.2.2.2.1], .bool b]), (24, .tuple #[.agg #[.slice s.2.2.1 s.2.2.2.1 s.2.2.2.2.1, .slice s.2.2.2.2.2.1 s.2.2.2.2.2.2.1 s.2.2.2.2.2.2.2.1], .bool b]), (29, .agg #[.slice s.2.2.1 s.2.2.2.1 s.2.2.2.2.1, .slice s.2.2.2.2.2.1 s.2.2.2.2.2.2.1 s.2.2.2.2.2.2.2.1]), (30, .bool b), (3, .pointer (some ⟨s.2.2.2.2.2.2.2.2, 0, none⟩))]) (fun s w' => (w'.cell? ⟨w.heap.size, 4, none⟩ = some (.slice A os.length c)) ∧ Blk w' s.2.2.2.2.2.2.2.2 #[.slice none 0 0, .slice none 0 0] 42 ∧ W1.drew.heap.size ≤ s.2.2.2.2.2.2.2.2 ∧ Bel W1.drew w') ?_ ?_
        rotate_left
        · intro hCont
          refine two_ (i := 0) (j := 7) (Ni := some 25) (Nj := some 3) #[bT, bT, bT, bF, bF, bF, bF, bF, bF, bF] #[bF, bT, bT, bF, bF, bF, bF, bT, bF, bF] rfl rfl rfl rfl (by kernel_rfl) (by decide) (by decide) (fun K hK => ?_) (fun K hK => ?_)
          · skip
            refine goes_ Tryz.func133 (by kernel_rfl) rfl #[] (by rfl) rfl rfl (by simp only [List.map_toArray, List.map_cons, List.map_nil]) ?_
            with_reducible refine (specPoolNew_c _).mono ?_
            rintro e w1_ ⟨va, vb, bva, rfl, ho, X1⟩
            have D1 := Lib.hid (Bel.tr D0.out X1)
            have P1 : Hid (OwnP w1_ W1.drew.heap.size va vb newP bva) := Lib.hid (ho.lower D0.out.size)
            clear ho
            refine ⟨_, rfl, ?_⟩
            refine hK.out _ _ (hfx.out _ D1.out) (fun hHeld => ?_)
            clear hK K
            refine norm_ (a' := ?_) ?_ ?_
            rotate_left
            · show Act.put _ (some 25) _ = _
              simp only [Act.put, lA, lB, lC, i64_w, i32_w]
              rfl
            refine two_ (i := 3) (j := 7) (Ni := some 28) (Nj := some 3) #[bT, bT, bT, bT, bF, bF, bF, bF, bF, bF] #[bT, bT, bT, bF, bF, bF, bF, bT, bF, bF] rfl rfl rfl rfl (by kernel_rfl) (by decide) (by decide) (fun K hK => ?_) (fun K hK => ?_)
            · skip
              refine goes_ Tryz.func104 (by kernel_rfl) rfl #[.agg #[va, vb], .slice A os.length c] (by rfl) rfl rfl (by simp only [List.map_toArray, List.map_cons, List.map_nil]; rfl) ?_
              with_reducible refine (hrun.out _ va vb bva P1.out D1.out).mono ?_
              rintro e w2_ ⟨A2, A3, n2, n3, k2, k3, rfl, hq, X2⟩
              have D2 : Hid (Bel W1.drew w2_) := Lib.hid (D1.out.trans X2.b)
              clear hq
              refine ⟨_, rfl, ?_⟩
              refine hK.out _ _ (hfx.out _ D2.out) (fun hHeld => ?_)
              clear hK K
              refine norm_ (a' := ?_) ?_ ?_
              rotate_left
              · show Act.put _ (some 28) _ = _
                simp only [Act.put, lA, lB, lC, i64_w, i32_w]
                rfl
              refine pure_ (i := 4) (N := some 24) (v := ?_) (a' := ?_) #[bT, bT, bT, bT, bT, bF, bF, bF, bF, bF] rfl rfl (by kernel_rfl) (fun _ _ _ h => h) (Or.inl ⟨by rfl, ?_⟩) ?_ ?_
              rotate_left
              · intro w'
                go_simp
                with_reducible rfl
              rotate_left
              · simp only [Act.put, lA, lB, lC, i64_w, i32_w]
                rfl
              refine pure_ (i := 5) (N := some 29) (v := ?_) (a' := ?_) #[bT, bT, bT, bT, bT, bT, bF, bF, bF, bF] rfl rfl (by kernel_rfl) (fun _ _ _ h => h) (Or.inl ⟨by rfl, ?_⟩) ?_ ?_
              rotate_left
              · intro w'
                go_simp
                with_reducible rfl
              rotate_left
              · simp only [Act.put, lA, lB, lC, i64_w, i32_w]
                rfl
              refine pure_ (i := 6) (N := some 30) (v := ?_) (a' := ?_) #[bT, bT, bT, bT, bT, bT, bT, bF, bF, bF] rfl rfl (by kernel_rfl) (fun _ _ _ h => h) (Or.inl ⟨by rfl, ?_⟩) ?_ ?_
              rotate_left
              · intro w'
                go_simp
                with_reducible rfl
              rotate_left
              · simp only [Act.put, lA, lB, lC, i64_w, i32_w]
                rfl
              refine one_ (i := 7) (N := some 3) #[bT, bT, bT, bT, bT, bT, bT, bT, bF, bF] rfl rfl (by kernel_rfl) (by decide) (fun K hK => ?_)
              refine value_ (w1 := ?_) (v := ?_) (by rfl) rfl ?_ ?_
              rotate_left 2
              · go_simp
                constructor
                · rfl
                · rfl
              have D3 : Hid (Bel W1.drew (w2_.alloc (.cells #[.slice none 0 0, .slice none 0 0] 42))) := Lib.hid (bel_alloc D2.out (.cells #[.slice none 0 0, .slice none 0 0] 42))
              have O3 : Hid (Blk (w2_.alloc (.cells #[.slice none 0 0, .slice none 0 0] 42)) w2_.heap.size #[.slice none 0 0, .slice none 0 0] 42) := Lib.hid (Blk.new w2_ #[.slice none 0 0, .slice none 0 0] 42)
              have L3 := D2.out.size
              refine hK.out _ _ (hfx.out _ D3.out) (fun hHeld => ?_)
              clear hK K
              refine norm_ (a' := ?_) ?_ ?_
              rotate_left
              · show Act.put _ (some 3) _ = _
                simp only [Act.put, lA, lB, lC, i64_w, i32_w]
                rfl
              exact norm_ (by simp only [putAll, Act.put, lA, lB, lC]) (hCont (va, vb, A2, n2, k2, A3, n3, k3, w2_.heap.size) _ ⟨hHeld, O3.out, L3, D3.out⟩)
            · skip
              refine value_ (w1 := ?_) (v := ?_) (by rfl) rfl ?_ ?_
              rotate_left 2
              · go_simp
                constructor
                · rfl
                · rfl
              have D2 : Hid (Bel W1.drew (w1_.alloc (.cells #[.slice none 0 0, .slice none 0 0] 42))) := Lib.hid (bel_alloc D1.out (.cells #[.slice none 0 0, .slice none 0 0] 42))
              have P2 := Lib.hid (OwnP.bel P1.out (bel_alloc (Below.refl _ _) (.cells #[.slice none 0 0, .slice none 0 0] 42)))
              have O2 : Hid (Blk (w1_.alloc (.cells #[.slice none 0 0, .slice none 0 0] 42)) w1_.heap.size #[.slice none 0 0, .slice none 0 0] 42) := Lib.hid (Blk.new w1_ #[.slice none 0 0, .slice none 0 0] 42)
              have L2 := D1.out.size
              refine hK.out _ _ (hfx.out _ D2.out) (fun hHeld => ?_)
              clear hK K
              refine norm_ (a' := ?_) ?_ ?_
              rotate_left
              · show Act.put _ (some 3) _ = _
                simp only [Act.put, lA, lB, lC, i64_w, i32_w]
                rfl
              refine one_ (i := 3) (N := some 28) #[bT, bT, bT, bT, bF, bF, bF, bT, bF, bF] rfl rfl (by kernel_rfl) (by decide) (fun K hK => ?_)
              refine goes_ Tryz.func104 (by kernel_rfl) rfl #[.agg #[va, vb], .slice A os.length c] (by rfl) rfl rfl (by simp only [List.map_toArray, List.map_cons, List.map_nil]; rfl) ?_
              with_reducible refine (hrun.out _ va vb bva P2.out D2.out).mono ?_
              rintro e w3_ ⟨A2, A3, n2, n3, k2, k3, rfl, hq, X3⟩
              have D3 : Hid (Bel W1.drew w3_) := Lib.hid (D2.out.trans X3.b)
              clear hq
              have O3 := Lib.hid (X3.k _ _ _ (by decide) (by decide) (by decide) O2.out)
              refine ⟨_, rfl, ?_⟩
              refine hK.out _ _ (hfx.out _ D3.out) (fun hHeld => ?_)
              clear hK K
              refine norm_ (a' := ?_) ?_ ?_
              rotate_left
              · show Act.put _ (some 28) _ = _
                simp only [Act.put, lA, lB, lC, i64_w, i32_w]
                rfl
              refine pure_ (i := 4) (N := some 24) (v := ?_) (a' := ?_) #[bT, bT, bT, bT, bT, bF, bF, bT, bF, bF] rfl rfl (by kernel_rfl) (fun _ _ _ h => h) (Or.inl ⟨by rfl, ?_⟩) ?_ ?_
              rotate_left
              · intro w'
                go_simp
                with_reducible rfl
              rotate_left
              · simp only [Act.put, lA, lB, lC, i64_w, i32_w]
                rfl
              refine pure_ (i := 5) (N := some 29) (v := ?_) (a' := ?_) #[bT, bT, bT, bT, bT, bT, bF, bT, bF, bF] rfl rfl (by kernel_rfl) (fun _ _ _ h => h) (Or.inl ⟨by rfl, ?_⟩) ?_ ?_
              rotate_left
              · intro w'
                go_simp
                with_reducible rfl
              rotate_left
              · simp only [Act.put, lA, lB, lC, i64_w, i32_w]
                rfl
              refine pure_ (i := 6) (N := some 30) (v := ?_) (a' := ?_) #[bT, bT, bT, bT, bT, bT, bT, bT, bF, bF] rfl rfl (by kernel_rfl) (fun _ _ _ h => h) (Or.inl ⟨by rfl, ?_⟩) ?_ ?_
              rotate_left
              · intro w'
                go_simp
                with_reducible rfl
              rotate_left
              · simp only [Act.put, lA, lB, lC, i64_w, i32_w]
                rfl
              exact norm_ (by simp only [putAll, Act.put, lA, lB, lC]) (hCont (va, vb, A2, n2, k2, A3, n3, k3, w1_.heap.size) _ ⟨hHeld, O3.out, L2, D3.out⟩)
          · skip
            refine value_ (w1 := ?_) (v := ?_) (by rfl) rfl ?_ ?_
            rotate_left 2
            · go_simp
              constructor
              · rfl
              · rfl
            have D1 : Hid (Bel W1.drew (W1.alloc (.cells #[.slice none 0 0, .slice none 0 0] 42)).drew) := Lib.hid (bel_alloc D0.out (.cells #[.slice none 0 0, .slice none 0 0] 42))
            have O1 : Hid (Blk (W1.alloc (.cells #[.slice none 0 0, .slice none 0 0] 42)).drew W1.drew.heap.size #[.slice none 0 0, .slice none 0 0] 42) := Lib.hid (Blk.new W1.drew #[.slice none 0 0, .slice none 0 0] 42)
            have L1 := D0.out.size
            refine hK.out _ _ (hfx.out _ D1.out) (fun hHeld => ?_)
            clear hK K
            refine norm_ (a' := ?_) ?_ ?_
            rotate_left
            · show Act.put _ (some 3) _ = _
              simp only [Act.put, lA, lB, lC, i64_w, i32_w]
              rfl
            refine one_ (i := 0) (N := some 25) #[bT, bT, bT, bF, bF, bF, bF, bT, bF, bF] rfl rfl (by kernel_rfl) (by decide) (fun K hK => ?_)
            refine goes_ Tryz.func133 (by kernel_rfl) rfl #[] (by rfl) rfl rfl (by simp only [List.map_toArray, List.map_cons, List.map_nil]) ?_
            with_reducible refine (specPoolNew_c _).mono ?_
            rintro e w2_ ⟨va, vb, bva, rfl, ho, X2⟩
            have D2 := Lib.hid (Bel.tr D1.out X2)
            have O2 := Lib.hid (Blk.bel O1.out X2)
            have P2 : Hid (OwnP w2_ W1.drew.heap.size va vb newP bva) := Lib.hid (ho.lower D1.out.size)
            clear ho
            refine ⟨_, rfl, ?_⟩
            refine hK.out _ _ (hfx.out _ D2.out) (fun hHeld => ?_)
            clear hK K
            refine norm_ (a' := ?_) ?_ ?_
            rotate_left
            · show Act.put _ (some 25) _ = _
              simp only [Act.put, lA, lB, lC, i64_w, i32_w]
              rfl
            refine one_ (i := 3) (N := some 28) #[bT, bT, bT, bT, bF, bF, bF, bT, bF, bF] rfl rfl (by kernel_rfl) (by decide) (fun K hK => ?_)
            refine goes_ Tryz.func104 (by kernel_rfl) rfl #[.agg #[va, vb], .slice A os.length c] (by rfl) rfl rfl (by simp only [List.map_toArray, List.map_cons, List.map_nil]; rfl) ?_
            with_reducible refine (hrun.out _ va vb bva P2.out D2.out).mono ?_
            rintro e w3_ ⟨A2, A3, n2, n3, k2, k3, rfl, hq, X3⟩
            have D3 : Hid (Bel W1.drew w3_) := Lib.hid (D2.out.trans X3.b)
            clear hq
            have O3 := Lib.hid (X3.k _ _ _ (by decide) (by decide) (by decide) O2.out)
            refine ⟨_, rfl, ?_⟩
            refine hK.out _ _ (hfx.out _ D3.out) (fun hHeld => ?_)
            clear hK K
            refine norm_ (a' := ?_) ?_ ?_
            rotate_left
            · show Act.put _ (some 28) _ = _
              simp only [Act.put, lA, lB, lC, i64_w, i32_w]
              rfl
            refine pure_ (i := 4) (N := some 24) (v := ?_) (a' := ?_) #[bT, bT, bT, bT, bT, bF, bF, bT, bF, bF] rfl rfl (by kernel_rfl) (fun _ _ _ h => h) (Or.inl ⟨by rfl, ?_⟩) ?_ ?_
            rotate_left
            · intro w'
              go_simp
              with_reducible rfl
            rotate_left
            · simp only [Act.put, lA, lB, lC, i64_w, i32_w]
              rfl
            refine pure_ (i := 5) (N := some 29) (v := ?_) (a' := ?_) #[bT, bT, bT, bT, bT, bT, bF, bT, bF, bF] rfl rfl (by kernel_rfl) (fun _ _ _ h => h) (Or.inl ⟨by rfl, ?_⟩) ?_ ?_
            rotate_left
            · intro w'
              go_simp
              with_reducible rfl
            rotate_left
            · simp only [Act.put, lA, lB, lC, i64_w, i32_w]
              rfl
            refine pure_ (i := 6) (N := some 30) (v := ?_) (a' := ?_) #[bT, bT, bT, bT, bT, bT, bT, bT, bF, bF] rfl rfl (by kernel_rfl) (fun _ _ _ h => h) (Or.inl ⟨by rfl, ?_⟩) ?_ ?_
            rotate_left
            · intro w'
              go_simp
              with_reducible rfl
            rotate_left
            · simp only [Act.put, lA, lB, lC, i64_w, i32_w]
              rfl
            exact norm_ (by simp only [putAll, Act.put, lA, lB, lC]) (hCont (va, vb, A2, n2, k2, A3, n3, k3, W1.heap.size) _ ⟨hHeld, O3.out, L1, D3.out⟩)
        rintro ⟨va, vb, A2, n2, k2, A3, n3, k3, nb⟩ w3 ⟨hHeld, hO, hL, hD⟩
        dsimp only at hO hL
        have r0 := hO.cell 0
        have r1 := hO.cell 1
        have f0 := hO.free 0
        have f1 := hO.free 1
        simp at r0 r1
        refine norm_ (a' := ?_) ?_ ?_
        rotate_left
        · simp only [putAll, Act.put, lA, lB, lC]
          rfl
        refine last_ (i := 8) (N := none) #[bT, bT, bT, bT, bT, bT, bT, bT, bT, bF] rfl rfl (by kernel_rfl) (by decide) (fun K hK => ?_)
        refine skip_ (w1 := ?_) (by rfl) rfl ?_ ?_
        rotate_left
        · go_simp
          rfl
        refine hK.out _ _ ?_
        clear hK K
        refine pure_ (i := 9) (N := some 4) (v := ?_) (a' := ?_) #[bT, bT, bT, bT, bT, bT, bT, bT, bT, bT] rfl rfl (by kernel_rfl) (fun _ _ _ h => h) (Or.inl ⟨by rfl, ?_⟩) ?_ ?_
        rotate_left
        · intro w'
          go_simp
          with_reducible rfl
        rotate_left
        · simp only [Act.put, lA, lB, lC, i64_w, i32_w]
          rfl
        refine done_ (by kernel_rfl) ?_
        have hb5 : Bel W1.drew ((w3.setCell ⟨nb, 0, none⟩ (.slice A2 n2 k2)).setCell ⟨nb, 1, none⟩ (.slice A3 n3 k3)) := bel_set (bel_set hD hL 0 (.slice A2 n2 k2)) hL 1 (.slice A3 n3 k3)
        clear hO hD hL f0 f1 r0 r1 hHeld D0 s0 hfx hrun
        go_wp2
        go_ret
        exact ⟨rfl, (HW.out.tr (Below.refl _ _).drew).tr hb5⟩
    · skip
      have hN : Blk (w.alloc (.cells #[.bool up, .int .i64 term, .bool false, .bool false, .slice A os.length c] 25)) w.heap.size #[.bool up, .int .i64 term, .bool false, .bool false, .slice A os.length c] 25 := Blk.new _ _ _
      have hW : Bel w (w.alloc (.cells #[.bool up, .int .i64 term, .bool false, .bool false, .slice A os.length c] 25)) := bel_alloc (Below.refl _ _) _
      go_wp2_with (go_at_call 89; refine (HI.out _).mono ?_; rintro e w' ⟨rfl, rfl⟩)
      generalize w.alloc (.cells #[.bool up, .int .i64 term, .bool false, .bool false, .slice A os.length c] 25) = W1 at hN hW ⊢
      have hfx := Lib.hid (fun (W : World) (hb : Bel W1.drew W) => (show W.cell? ⟨w.heap.size, 4, none⟩ = some (.slice A os.length c) by rw [((hN.bel (Below.refl _ _).drew).bel hb).cell]; rfl))
      have HW := Lib.hid hW
      have hC1 : kOp.C W1.drew A os.length os := Kd.C_below HC.out (hW.tr (Below.refl _ _).drew)
      have hrun := Lib.hid (fun (W : World) (v0 v1 : Value) (bvs : List Value) (h : OwnP W W1.drew.heap.size v0 v1 newP bvs) (hb : Bel W1.drew W) => l13Run_c (c2 := c) h newP_ok (Below.size hb) hC1 (Nat.le_refl _) hb HO.out)
      unfold RunsP at hrun
      rw [HB.out] at hrun
      have D0 := Lib.hid (show Bel W1.drew W1.drew from Below.refl _ _)
      clear hN hW hC1
      have s0 := hfx.out _ D0.out
      refine start_ (n := 10) (S := fun w' => w'.cell? ⟨w.heap.size, 4, none⟩ = some (.slice A os.length c)) (ds := [8]) #[bF, bF, bF, bF, bF, bF, bF, bF, bF, bF] (by kernel_rfl) rfl rfl (s0) (fun hHeld => ?_)
      refine pure_ (i := 1) (N := some 26) (v := ?_) (a' := ?_) #[bF, bT, bF, bF, bF, bF, bF, bF, bF, bF] rfl rfl (by kernel_rfl) (fun _ _ _ h => h) (Or.inl ⟨by rfl, ?_⟩) ?_ ?_
      rotate_left
      · intro w'
        go_simp
        with_reducible rfl
      rotate_left
      · simp only [Act.put, lA, lB, lC, i64_w, i32_w]
        rfl
      refine take_ (i := 2) (N := some 27) (v := ?_) (a' := ?_) #[bF, bT, bT, bF, bF, bF, bF, bF, bF, bF] rfl rfl (by kernel_rfl) (fun _ _ _ h => h) (Or.inl ⟨by rfl, ?_⟩) hHeld ?_ ?_
      rotate_left
      · intro w' s0
        go_simp
        with_reducible rfl
      rotate_left
      · simp only [Act.put, lA, lB, lC, i64_w, i32_w]
        rfl
      refine join_ (σ := Value × Value × Option Addr × Nat × Nat × Option Addr × Nat × Nat × Nat) 2 #[bT, bT, bT, bT, bT, bT, bT, bT, bF, bF] (fun s => [(25, .agg #[s.1, s.2.1]), (28, .tuple #[.agg #[.slice s.2.2.1 s.2.2.2.1 s.2.2.2.2.1, .slice s.2.2.2.2.2.1 s.2.2.2.2.2.2.1 s.2.2.2.2.2.2.2.1], .bool b]), (24, .tuple #[.agg #[.slice s.2.2.1 s.2.2.2.1 s.2.2.2.2.1, .slice s.2.2.2.2.2.1 s.2.2.2.2.2.2.1 s.2.2.2.2.2.2.2.1], .bool b]), (29, .agg #[.slice s.2.2.1 s.2.2.2.1 s.2.2.2.2.1, .slice s.2.2.2.2.2.1 s.2.2.2.2.2.2.1 s.2.2.2.2.2.2.2.1]), (30, .bool b), (3, .pointer (some ⟨s.2.2.2.2.2.2.2.2, 0, none⟩))]) (fun s w' => (w'.cell? ⟨w.heap.size, 4, none⟩ = some (.slice A os.length c)) ∧ Blk w' s.2.2.2.2.2.2.2.2 #[.slice none 0 0, .slice none 0 0] 42 ∧ W1.drew.heap.size ≤ s.2.2.2.2.2.2.2.2 ∧ Bel W1.drew w') ?_ ?_
      rotate_left
      · intro hCont
        refine two_ (i := 0) (j := 7) (Ni := some 25) (Nj := some 3) #[bT, bT, bT, bF, bF, bF, bF, bF, bF, bF] #[bF, bT, bT, bF, bF, bF, bF, bT, bF, bF] rfl rfl rfl rfl (by kernel_rfl) (by decide) (by decide) (fun K hK => ?_) (fun K hK => ?_)
        · skip
          refine goes_ Tryz.func133 (by kernel_rfl) rfl #[] (by rfl) rfl rfl (by simp only [List.map_toArray, List.map_cons, List.map_nil]) ?_
          with_reducible refine (specPoolNew_c _).mono ?_
          rintro e w1_ ⟨va, vb, bva, rfl, ho, X1⟩
          have D1 := Lib.hid (Bel.tr D0.out X1)
          have P1 : Hid (OwnP w1_ W1.drew.heap.size va vb newP bva) := Lib.hid (ho.lower D0.out.size)
          clear ho
          refine ⟨_, rfl, ?_⟩
          refine hK.out _ _ (hfx.out _ D1.out) (fun hHeld => ?_)
          clear hK K
          refine norm_ (a' := ?_) ?_ ?_
          rotate_left
          · show Act.put _ (some 25) _ = _
            simp only [Act.put, lA, lB, lC, i64_w, i32_w]
            rfl
          refine two_ (i := 3) (j := 7) (Ni := some 28) (Nj := some 3) #[bT, bT, bT, bT, bF, bF, bF, bF, bF, bF] #[bT, bT, bT, bF, bF, bF, bF, bT, bF, bF] rfl rfl rfl rfl (by kernel_rfl) (by decide) (by decide) (fun K hK => ?_) (fun K hK => ?_)
          · skip
            refine goes_ Tryz.func104 (by kernel_rfl) rfl #[.agg #[va, vb], .slice A os.length c] (by rfl) rfl rfl (by simp only [List.map_toArray, List.map_cons, List.map_nil]; rfl) ?_
            with_reducible refine (hrun.out _ va vb bva P1.out D1.out).mono ?_
            rintro e w2_ ⟨A2, A3, n2, n3, k2, k3, rfl, hq, X2⟩
            have D2 : Hid (Bel W1.drew w2_) := Lib.hid (D1.out.trans X2.b)
            clear hq
            refine ⟨_, rfl, ?_⟩
            refine hK.out _ _ (hfx.out _ D2.out) (fun hHeld => ?_)
            clear hK K
            refine norm_ (a' := ?_) ?_ ?_
            rotate_left
            · show Act.put _ (some 28) _ = _
              simp only [Act.put, lA, lB, lC, i64_w, i32_w]
              rfl
            refine pure_ (i := 4) (N := some 24) (v := ?_) (a' := ?_) #[bT, bT, bT, bT, bT, bF, bF, bF, bF, bF] rfl rfl (by kernel_rfl) (fun _ _ _ h => h) (Or.inl ⟨by rfl, ?_⟩) ?_ ?_
            rotate_left
            · intro w'
              go_simp
              with_reducible rfl
            rotate_left
            · simp only [Act.put, lA, lB, lC, i64_w, i32_w]
              rfl
            refine pure_ (i := 5) (N := some 29) (v := ?_) (a' := ?_) #[bT, bT, bT, bT, bT, bT, bF, bF, bF, bF] rfl rfl (by kernel_rfl) (fun _ _ _ h => h) (Or.inl ⟨by rfl, ?_⟩) ?_ ?_
            rotate_left
            · intro w'
              go_simp
              with_reducible rfl
            rotate_left
            · simp only [Act.put, lA, lB, lC, i64_w, i32_w]
              rfl
            refine pure_ (i := 6) (N := some 30) (v := ?_) (a' := ?_) #[bT, bT, bT, bT, bT, bT, bT, bF, bF, bF] rfl rfl (by kernel_rfl) (fun _ _ _ h => h) (Or.inl ⟨by rfl, ?_⟩) ?_ ?_
            rotate_left
            · intro w'
              go_simp
              with_reducible rfl
            rotate_left
            · simp only [Act.put, lA, lB, lC, i64_w, i32_w]
              rfl
            refine one_ (i := 7) (N := some 3) #[bT, bT, bT, bT, bT, bT, bT, bT, bF, bF] rfl rfl (by kernel_rfl) (by decide) (fun K hK => ?_)
            refine value_ (w1 := ?_) (v := ?_) (by rfl) rfl ?_ ?_
            rotate_left 2
            · go_simp
              constructor
              · rfl
              · rfl
            have D3 : Hid (Bel W1.drew (w2_.alloc (.cells #[.slice none 0 0, .slice none 0 0] 42))) := Lib.hid (bel_alloc D2.out (.cells #[.slice none 0 0, .slice none 0 0] 42))
            have O3 : Hid (Blk (w2_.alloc (.cells #[.slice none 0 0, .slice none 0 0] 42)) w2_.heap.size #[.slice none 0 0, .slice none 0 0] 42) := Lib.hid (Blk.new w2_ #[.slice none 0 0, .slice none 0 0] 42)
            have L3 := D2.out.size
            refine hK.out _ _ (hfx.out _ D3.out) (fun hHeld => ?_)
            clear hK K
            refine norm_ (a' := ?_) ?_ ?_
            rotate_left
            · show Act.put _ (some 3) _ = _
              simp only [Act.put, lA, lB, lC, i64_w, i32_w]
              rfl
            exact norm_ (by simp only [putAll, Act.put, lA, lB, lC]) (hCont (va, vb, A2, n2, k2, A3, n3, k3, w2_.heap.size) _ ⟨hHeld, O3.out, L3, D3.out⟩)
          · skip
            refine value_ (w1 := ?_) (v := ?_) (by rfl) rfl ?_ ?_
            rotate_left 2
            · go_simp
              constructor
              · rfl
              · rfl
            have D2 : Hid (Bel W1.drew (w1_.alloc (.cells #[.slice none 0 0, .slice none 0 0] 42))) := Lib.hid (bel_alloc D1.out (.cells #[.slice none 0 0, .slice none 0 0] 42))
            have P2 := Lib.hid (OwnP.bel P1.out (bel_alloc (Below.refl _ _) (.cells #[.slice none 0 0, .slice none 0 0] 42)))
            have O2 : Hid (Blk (w1_.alloc (.cells #[.slice none 0 0, .slice none 0 0] 42)) w1_.heap.size #[.slice none 0 0, .slice none 0 0] 42) := Lib.hid (Blk.new w1_ #[.slice none 0 0, .slice none 0 0] 42)
            have L2 := D1.out.size
            refine hK.out _ _ (hfx.out _ D2.out) (fun hHeld => ?_)
            clear hK K
            refine norm_ (a' := ?_) ?_ ?_
            rotate_left
            · show Act.put _ (some 3) _ = _
              simp only [Act.put, lA, lB, lC, i64_w, i32_w]
              rfl
            refine one_ (i := 3) (N := some 28) #[bT, bT, bT, bT, bF, bF, bF, bT, bF, bF] rfl rfl (by kernel_rfl) (by decide) (fun K hK => ?_)
            refine goes_ Tryz.func104 (by kernel_rfl) rfl #[.agg #[va, vb], .slice A os.length c] (by rfl) rfl rfl (by simp only [List.map_toArray, List.map_cons, List.map_nil]; rfl) ?_
            with_reducible refine (hrun.out _ va vb bva P2.out D2.out).mono ?_
            rintro e w3_ ⟨A2, A3, n2, n3, k2, k3, rfl, hq, X3⟩
            have D3 : Hid (Bel W1.drew w3_) := Lib.hid (D2.out.trans X3.b)
            clear hq
            have O3 := Lib.hid (X3.k _ _ _ (by decide) (by decide) (by decide) O2.out)
            refine ⟨_, rfl, ?_⟩
            refine hK.out _ _ (hfx.out _ D3.out) (fun hHeld => ?_)
            clear hK K
            refine norm_ (a' := ?_) ?_ ?_
            rotate_left
            · show Act.put _ (some 28) _ = _
              simp only [Act.put, lA, lB, lC, i64_w, i32_w]
              rfl
            refine pure_ (i := 4) (N := some 24) (v := ?_) (a' := ?_) #[bT, bT, bT, bT, bT, bF, bF, bT, bF, bF] rfl rfl (by kernel_rfl) (fun _ _ _ h => h) (Or.inl ⟨by rfl, ?_⟩) ?_ ?_
            rotate_left
            · intro w'
              go_simp
              with_reducible rfl
            rotate_left
            · simp only [Act.put, lA, lB, lC, i64_w, i32_w]
              rfl
            refine pure_ (i := 5) (N := some 29) (v := ?_) (a' := ?_) #[bT, bT, bT, bT, bT, bT, bF, bT, bF, bF] rfl rfl (by kernel_rfl) (fun _ _ _ h => h) (Or.inl ⟨by rfl, ?_⟩) ?_ ?_
            rotate_left
            · intro w'
              go_simp
              with_reducible rfl
            rotate_left
            · simp only [Act.put, lA, lB, lC, i64_w, i32_w]
              rfl
            refine pure_ (i := 6) (N := some 30) (v := ?_) (a' := ?_) #[bT, bT, bT, bT, bT, bT, bT, bT, bF, bF] rfl rfl (by kernel_rfl) (fun _ _ _ h => h) (Or.inl ⟨by rfl, ?_⟩) ?_ ?_
            rotate_left
            · intro w'
              go_simp
              with_reducible rfl
            rotate_left
            · simp only [Act.put, lA, lB, lC, i64_w, i32_w]
              rfl
            exact norm_ (by simp only [putAll, Act.put, lA, lB, lC]) (hCont (va, vb, A2, n2, k2, A3, n3, k3, w1_.heap.size) _ ⟨hHeld, O3.out, L2, D3.out⟩)
        · skip
          refine value_ (w1 := ?_) (v := ?_) (by rfl) rfl ?_ ?_
          rotate_left 2
          · go_simp
            constructor
            · rfl
            · rfl
          have D1 : Hid (Bel W1.drew (W1.alloc (.cells #[.slice none 0 0, .slice none 0 0] 42)).drew) := Lib.hid (bel_alloc D0.out (.cells #[.slice none 0 0, .slice none 0 0] 42))
          have O1 : Hid (Blk (W1.alloc (.cells #[.slice none 0 0, .slice none 0 0] 42)).drew W1.drew.heap.size #[.slice none 0 0, .slice none 0 0] 42) := Lib.hid (Blk.new W1.drew #[.slice none 0 0, .slice none 0 0] 42)
          have L1 := D0.out.size
          refine hK.out _ _ (hfx.out _ D1.out) (fun hHeld => ?_)
          clear hK K
          refine norm_ (a' := ?_) ?_ ?_
          rotate_left
          · show Act.put _ (some 3) _ = _
            simp only [Act.put, lA, lB, lC, i64_w, i32_w]
            rfl
          refine one_ (i := 0) (N := some 25) #[bT, bT, bT, bF, bF, bF, bF, bT, bF, bF] rfl rfl (by kernel_rfl) (by decide) (fun K hK => ?_)
          refine goes_ Tryz.func133 (by kernel_rfl) rfl #[] (by rfl) rfl rfl (by simp only [List.map_toArray, List.map_cons, List.map_nil]) ?_
          with_reducible refine (specPoolNew_c _).mono ?_
          rintro e w2_ ⟨va, vb, bva, rfl, ho, X2⟩
          have D2 := Lib.hid (Bel.tr D1.out X2)
          have O2 := Lib.hid (Blk.bel O1.out X2)
          have P2 : Hid (OwnP w2_ W1.drew.heap.size va vb newP bva) := Lib.hid (ho.lower D1.out.size)
          clear ho
          refine ⟨_, rfl, ?_⟩
          refine hK.out _ _ (hfx.out _ D2.out) (fun hHeld => ?_)
          clear hK K
          refine norm_ (a' := ?_) ?_ ?_
          rotate_left
          · show Act.put _ (some 25) _ = _
            simp only [Act.put, lA, lB, lC, i64_w, i32_w]
            rfl
          refine one_ (i := 3) (N := some 28) #[bT, bT, bT, bT, bF, bF, bF, bT, bF, bF] rfl rfl (by kernel_rfl) (by decide) (fun K hK => ?_)
          refine goes_ Tryz.func104 (by kernel_rfl) rfl #[.agg #[va, vb], .slice A os.length c] (by rfl) rfl rfl (by simp only [List.map_toArray, List.map_cons, List.map_nil]; rfl) ?_
          with_reducible refine (hrun.out _ va vb bva P2.out D2.out).mono ?_
          rintro e w3_ ⟨A2, A3, n2, n3, k2, k3, rfl, hq, X3⟩
          have D3 : Hid (Bel W1.drew w3_) := Lib.hid (D2.out.trans X3.b)
          clear hq
          have O3 := Lib.hid (X3.k _ _ _ (by decide) (by decide) (by decide) O2.out)
          refine ⟨_, rfl, ?_⟩
          refine hK.out _ _ (hfx.out _ D3.out) (fun hHeld => ?_)
          clear hK K
          refine norm_ (a' := ?_) ?_ ?_
          rotate_left
          · show Act.put _ (some 28) _ = _
            simp only [Act.put, lA, lB, lC, i64_w, i32_w]
            rfl
          refine pure_ (i := 4) (N := some 24) (v := ?_) (a' := ?_) #[bT, bT, bT, bT, bT, bF, bF, bT, bF, bF] rfl rfl (by kernel_rfl) (fun _ _ _ h => h) (Or.inl ⟨by rfl, ?_⟩) ?_ ?_
          rotate_left
          · intro w'
            go_simp
            with_reducible rfl
          rotate_left
          · simp only [Act.put, lA, lB, lC, i64_w, i32_w]
            rfl
          refine pure_ (i := 5) (N := some 29) (v := ?_) (a' := ?_) #[bT, bT, bT, bT, bT, bT, bF, bT, bF, bF] rfl rfl (by kernel_rfl) (fun _ _ _ h => h) (Or.inl ⟨by rfl, ?_⟩) ?_ ?_
          rotate_left
          · intro w'
            go_simp
            with_reducible rfl
          rotate_left
          · simp only [Act.put, lA, lB, lC, i64_w, i32_w]
            rfl
          refine pure_ (i := 6) (N := some 30) (v := ?_) (a' := ?_) #[bT, bT, bT, bT, bT, bT, bT, bT, bF, bF] rfl rfl (by kernel_rfl) (fun _ _ _ h => h) (Or.inl ⟨by rfl, ?_⟩) ?_ ?_
          rotate_left
          · intro w'
            go_simp
            with_reducible rfl
          rotate_left
          · simp only [Act.put, lA, lB, lC, i64_w, i32_w]
            rfl
          exact norm_ (by simp only [putAll, Act.put, lA, lB, lC]) (hCont (va, vb, A2, n2, k2, A3, n3, k3, W1.heap.size) _ ⟨hHeld, O3.out, L1, D3.out⟩)
      rintro ⟨va, vb, A2, n2, k2, A3, n3, k3, nb⟩ w3 ⟨hHeld, hO, hL, hD⟩
      dsimp only at hO hL
      have r0 := hO.cell 0
      have r1 := hO.cell 1
      have f0 := hO.free 0
      have f1 := hO.free 1
      simp at r0 r1
      refine norm_ (a' := ?_) ?_ ?_
      rotate_left
      · simp only [putAll, Act.put, lA, lB, lC]
        rfl
      refine last_ (i := 8) (N := none) #[bT, bT, bT, bT, bT, bT, bT, bT, bT, bF] rfl rfl (by kernel_rfl) (by decide) (fun K hK => ?_)
      refine skip_ (w1 := ?_) (by rfl) rfl ?_ ?_
      rotate_left
      · go_simp
        rfl
      refine hK.out _ _ ?_
      clear hK K
      refine pure_ (i := 9) (N := some 4) (v := ?_) (a' := ?_) #[bT, bT, bT, bT, bT, bT, bT, bT, bT, bT] rfl rfl (by kernel_rfl) (fun _ _ _ h => h) (Or.inl ⟨by rfl, ?_⟩) ?_ ?_
      rotate_left
      · intro w'
        go_simp
        with_reducible rfl
      rotate_left
      · simp only [Act.put, lA, lB, lC, i64_w, i32_w]
        rfl
      refine done_ (by kernel_rfl) ?_
      have hb5 : Bel W1.drew ((w3.setCell ⟨nb, 0, none⟩ (.slice A2 n2 k2)).setCell ⟨nb, 1, none⟩ (.slice A3 n3 k3)) := bel_set (bel_set hD hL 0 (.slice A2 n2 k2)) hL 1 (.slice A3 n3 k3)
      clear hO hD hL f0 f1 r0 r1 hHeld D0 s0 hfx hrun
      go_wp2
      go_ret
      exact ⟨rfl, (HW.out.tr (Below.refl _ _).drew).tr hb5⟩
  · have hno : (t && ((leads || !alone) && (b && d))) = false := by cases t <;> cases leads <;> cases alone <;> cases d <;> simp_all
    rw [hno]
    clear hno
    cases t <;> cases leads <;> cases alone <;> cases d <;> first
      | exact absurd ⟨rfl, by decide, rfl⟩ hgo
      | (clear hgo
         go_wp2_with (go_at_call 89; refine (HI.out _).mono ?_; rintro e w' ⟨rfl, rfl⟩)
         go_ret
         exact ⟨rfl, bel_alloc (Below.refl _ _) _⟩)
end Go.Proofs.YtccllgpaafgjaaaGreat

namespace Go.Proofs.YtccllgpaafgjaaaGreat
open Go.RowKit Go.Proofs.YtccllgpaafgjaaaGreatW.PrintWords
structure SmallN (n : Node) : Prop where
  ops : SmallOs n.ops
set_option maxHeartbeats 2000000 in
theorem eqNode_c {w : World} {A A' : Option Addr} {c c' : Nat} {n : Node} (hC : kOp.C w A n.ops.length n.ops) (hC' : kOp.C w A' n.ops.length n.ops) (hl : n.ops.length ≤ 1048576) :
  Calls Tryz.prog 44 #[.agg #[.bool n.up, .int .i64 n.term, .bool n.leads, .bool n.alone, .slice A n.ops.length c], .agg #[.bool n.up, .int .i64 n.term, .bool n.leads, .bool n.alone, .slice A' n.ops.length c']] w (Ret (.bool true) w) := by
 have H := Lib.hid hC
 have H' := Lib.hid hC'
 clear hC hC'
 go_enter Tryz.func44, Tryz.ntmps44
 go_wp2_with fail
 refine (eqOpS_c (Kd.C_alloc (Kd.C_alloc H.out _) _) (Kd.C_alloc (Kd.C_alloc H'.out _) _) hl).mono ?_
 rintro e w1 ⟨rfl, hb⟩
 go_wp2
 go_ret
 exact ⟨rfl, (bel_alloc (bel_alloc (Below.refl _ _) _) _ : Bel w _).tr hb⟩
end Go.Proofs.YtccllgpaafgjaaaGreat

namespace Go.Proofs.YtccllgpaafgjaaaGreat
open Go.RowKit Go.Proofs.YtccllgpaafgjaaaGreatW.PrintWords Go.Proofs.YtccllgpaafgjaaaGreatW.PrintLast
def nodePF (n : Node) : Pool := if nodeOk n then runV newP n.ops else noP
theorem nodePF_no {n : Node} (h : nodeOk n = false) : nodePF n = noP := by unfold nodePF; rw [h]; rfl
theorem nodePF_yes {n : Node} (h : nodeOk n = true) : ∃ q, nodePF n = q ∧ runP newP n.ops = some q ∧ runV newP n.ops = q := by
 obtain ⟨q, hq⟩ := (nodeOk_iff newP_ok).1 h
 have := (runV_ok newP_ok hq.run).1
 exact ⟨q, by unfold nodePF; rw [h]; exact this, hq.run, this⟩
theorem nodePF_small {n : Node} : SmallP (nodePF n) := by
 unfold nodePF
 split
 ·exact runV_small
 ·exact noP_small
section
variable {w : World} {A : Option Addr} {c : Nat} {n : Node}
set_option maxHeartbeats 16000000 in
set_option maxRecDepth 10000 in
theorem implNodeRun_c {x : Pool} (hC : kOp.C w A n.ops.length n.ops) (ho : SmallOs n.ops) (hr : runP newP n.ops = some x) :
  Calls Tryz.prog 134 #[.agg #[.bool n.up, .int .i64 n.term, .bool n.leads, .bool n.alone, .slice A n.ops.length c]] w (MadeP w x) := by
 have HC := Lib.hid hC
 have HO := Lib.hid ho
 have HRX := Lib.hid hr
 have HNP := Lib.hid implPoolNew_c
 obtain ⟨np, hnp⟩ : ∃ np, newP = np := ⟨_, rfl⟩
 have HNK : Hid (PoolP np) := Lib.hid (hnp ▸ newP_ok)
 rw [hnp] at HNP HRX
 clear hC ho hr hnp
 go_enter Tryz.func134, Tryz.ntmps134
 go_wp2
 have hN : Blk ((w.alloc (.cells #[.bool n.up, .int .i64 n.term, .bool n.leads, .bool n.alone, .slice A n.ops.length c] 25)).alloc (.cells #[.slice none 0 0, .slice none 0 0] 42)) w.heap.size #[.bool n.up, .int .i64 n.term, .bool n.leads, .bool n.alone, .slice A n.ops.length c] 25 := (Blk.new _ _ _).alloc _
 have hR : Blk ((w.alloc (.cells #[.bool n.up, .int .i64 n.term, .bool n.leads, .bool n.alone, .slice A n.ops.length c] 25)).alloc (.cells #[.slice none 0 0, .slice none 0 0] 42)) (w.heap.size + 1) #[.slice none 0 0, .slice none 0 0] 42 := Blk.nw2 _ _ _ _
 have hW : Bel w ((w.alloc (.cells #[.bool n.up, .int .i64 n.term, .bool n.leads, .bool n.alone, .slice A n.ops.length c] 25)).alloc (.cells #[.slice none 0 0, .slice none 0 0] 42)) := bel_alloc (bel_alloc (Below.refl _ _) _) _
 generalize ((w.alloc (.cells #[.bool n.up, .int .i64 n.term, .bool n.leads, .bool n.alone, .slice A n.ops.length c] 25)).alloc (.cells #[.slice none 0 0, .slice none 0 0] 42)) = W0 at hN hR hW ⊢
 have HW := Lib.hid hW
 have HR := Lib.hid hR
 have hfx := Lib.hid (fun (W : World) (hb : Bel W0.drew W) => (show W.cell? ⟨w.heap.size, 4, none⟩ = some (.slice A n.ops.length c) by rw [((hN.bel (Below.refl _ _).drew).bel hb).cell]; rfl))
 have hC1 : kOp.C W0.drew A n.ops.length n.ops := kOp_keep HC.out (hW.tr (Below.refl _ _).drew)
 have D0 : Hid (Bel W0.drew W0.drew) := Lib.hid (Below.refl _ _)
 have hrun := Lib.hid (fun (W' : World) (w0_ w1_ : Value) (bv : List Value) (h : OwnP W' W0.drew.heap.size w0_ w1_ np bv) (hb : Bel W0.drew W') => (by
  have h2 := runV_ok HNK.out HRX.out
  obtain ⟨A5, B5, k5, m5, rfl, rfl, hpi⟩ := h.reads
  have h3 := doAll_c (c2 := c) hpi HNK.out.small (kOp_keep hC1 hb) HO.out
  rw [h2.1, h2.2] at h3
  exact h3 : Calls Tryz.prog 101 #[.agg #[w0_, w1_], .slice A n.ops.length c] W' (MadePB W' x true)))
 clear hN hW hR hC1
 refine start_ (n := 10) (S := fun w' => w'.cell? ⟨w.heap.size, 4, none⟩ = some (.slice A n.ops.length c)) (ds := [8]) #[bF, bF, bF, bF, bF, bF, bF, bF, bF, bF] (by kernel_rfl) rfl rfl ((hfx.out _ D0.out)) (fun hHeld => ?_)
 refine pure_ (i := 1) (N := some 7) (v := ?_) (a' := ?_) #[bF, bT, bF, bF, bF, bF, bF, bF, bF, bF] rfl rfl (by kernel_rfl) (fun _ _ _ h => h) (Or.inl ⟨by rfl, ?_⟩) ?_ ?_
 rotate_left
 ·intro w'
  go_simp
  with_reducible rfl
 rotate_left
 ·simp only [Act.put, lA, lB, lC, i64_w, i32_w]
  rfl
 refine take_ (i := 2) (N := some 8) (v := ?_) (a' := ?_) #[bF, bT, bT, bF, bF, bF, bF, bF, bF, bF] rfl rfl (by kernel_rfl) (fun _ _ _ h => h) (Or.inl ⟨by rfl, ?_⟩) hHeld ?_ ?_
 rotate_left
 ·intro w' s0
  go_simp
  with_reducible rfl
 rotate_left
 ·simp only [Act.put, lA, lB, lC, i64_w, i32_w]
  rfl
 refine join_ (σ := Option Addr × Nat × Option Addr × Nat × Option Addr × Nat × Option Addr × Nat × List Value × Nat) 2 #[bT, bT, bT, bT, bT, bT, bT, bT, bF, bF] (fun s => [(6, .agg #[.slice s.1 np.slots.length s.2.1, .slice s.2.2.1 np.vols.length s.2.2.2.1]), (9, .tuple #[.agg #[.slice s.2.2.2.2.1 x.slots.length s.2.2.2.2.2.1, .slice s.2.2.2.2.2.2.1 x.vols.length s.2.2.2.2.2.2.2.1], .bool true]), (5, .tuple #[.agg #[.slice s.2.2.2.2.1 x.slots.length s.2.2.2.2.2.1, .slice s.2.2.2.2.2.2.1 x.vols.length s.2.2.2.2.2.2.2.1], .bool true]), (10, .agg #[.slice s.2.2.2.2.1 x.slots.length s.2.2.2.2.2.1, .slice s.2.2.2.2.2.2.1 x.vols.length s.2.2.2.2.2.2.2.1]), (11, .bool true), (3, .pointer (some ⟨s.2.2.2.2.2.2.2.2.2, 0, none⟩))]) (fun s w' => (w'.cell? ⟨w.heap.size, 4, none⟩ = some (.slice A n.ops.length c)) ∧ OwnP w' W0.drew.heap.size (.slice s.2.2.2.2.1 x.slots.length s.2.2.2.2.2.1) (.slice s.2.2.2.2.2.2.1 x.vols.length s.2.2.2.2.2.2.2.1) x s.2.2.2.2.2.2.2.2.1 ∧ Blk w' s.2.2.2.2.2.2.2.2.2 #[.slice none 0 0, .slice none 0 0] 42 ∧ W0.drew.heap.size ≤ s.2.2.2.2.2.2.2.2.2 ∧ Bel W0.drew w') ?_ ?_
 rotate_left
 ·intro hCont
  refine two_ (i := 0) (j := 7) (Ni := some 6) (Nj := some 3) #[bT, bT, bT, bF, bF, bF, bF, bF, bF, bF] #[bF, bT, bT, bF, bF, bF, bF, bT, bF, bF] rfl rfl rfl rfl (by kernel_rfl) (by decide) (by decide) (fun K hK => ?_) (fun K hK => ?_)
  ·skip
   refine goes_ Tryz.func79 (by kernel_rfl) rfl #[] (by rfl) rfl rfl (by simp only [List.map_toArray, List.map_cons, List.map_nil]) ?_
   with_reducible refine (HNP.out _).mono ?_
   rintro e w1_ ⟨va, vb, bva, rfl, ho, X1⟩
   have D1 := Lib.hid (Bel.tr D0.out X1)
   obtain ⟨A5, B5, k5, m5, rfl, rfl, hpi⟩ := ho.reads
   have P1 : Hid (OwnP w1_ W0.drew.heap.size (.slice A5 np.slots.length k5) (.slice B5 np.vols.length m5) np bva) := Lib.hid (ho.lower D0.out.size)
   clear ho hpi
   refine ⟨_, rfl, ?_⟩
   refine hK.out _ _ ((hfx.out _ D1.out)) (fun hHeld => ?_)
   clear hK K
   refine norm_ (a' := ?_) ?_ ?_
   rotate_left
   ·show Act.put _ (some 6) _ = _
    simp only [Act.put, lA, lB, lC, i64_w, i32_w]
    rfl
   refine two_ (i := 3) (j := 7) (Ni := some 9) (Nj := some 3) #[bT, bT, bT, bT, bF, bF, bF, bF, bF, bF] #[bT, bT, bT, bF, bF, bF, bF, bT, bF, bF] rfl rfl rfl rfl (by kernel_rfl) (by decide) (by decide) (fun K hK => ?_) (fun K hK => ?_)
   ·skip
    refine goes_ Tryz.func101 (by kernel_rfl) rfl #[.agg #[.slice A5 np.slots.length k5, .slice B5 np.vols.length m5], .slice A n.ops.length c] (by rfl) rfl rfl (by simp only [List.map_toArray, List.map_cons, List.map_nil]; rfl) ?_
    with_reducible refine (hrun.out _ _ _ _ P1.out D1.out).mono ?_
    rintro e w2_ ⟨vc, vd, bvc, rfl, ho, X2⟩
    have D2 : Hid (Bel W0.drew w2_) := Lib.hid (Bel.tr D1.out X2)
    obtain ⟨A2, A3, k2, k3, rfl, rfl, hpi⟩ := ho.reads
    have Q2 : Hid (OwnP w2_ W0.drew.heap.size (.slice A2 x.slots.length k2) (.slice A3 x.vols.length k3) x bvc) := Lib.hid (ho.lower D1.out.size)
    clear ho hpi
    refine ⟨_, rfl, ?_⟩
    refine hK.out _ _ ((hfx.out _ D2.out)) (fun hHeld => ?_)
    clear hK K
    refine norm_ (a' := ?_) ?_ ?_
    rotate_left
    ·show Act.put _ (some 9) _ = _
     simp only [Act.put, lA, lB, lC, i64_w, i32_w]
     rfl
    refine pure_ (i := 4) (N := some 5) (v := ?_) (a' := ?_) #[bT, bT, bT, bT, bT, bF, bF, bF, bF, bF] rfl rfl (by kernel_rfl) (fun _ _ _ h => h) (Or.inl ⟨by rfl, ?_⟩) ?_ ?_
    rotate_left
    ·intro w'
     go_simp
     with_reducible rfl
    rotate_left
    ·simp only [Act.put, lA, lB, lC, i64_w, i32_w]
     rfl
    refine pure_ (i := 5) (N := some 10) (v := ?_) (a' := ?_) #[bT, bT, bT, bT, bT, bT, bF, bF, bF, bF] rfl rfl (by kernel_rfl) (fun _ _ _ h => h) (Or.inl ⟨by rfl, ?_⟩) ?_ ?_
    rotate_left
    ·intro w'
     go_simp
     with_reducible rfl
    rotate_left
    ·simp only [Act.put, lA, lB, lC, i64_w, i32_w]
     rfl
    refine pure_ (i := 6) (N := some 11) (v := ?_) (a' := ?_) #[bT, bT, bT, bT, bT, bT, bT, bF, bF, bF] rfl rfl (by kernel_rfl) (fun _ _ _ h => h) (Or.inl ⟨by rfl, ?_⟩) ?_ ?_
    rotate_left
    ·intro w'
     go_simp
     with_reducible rfl
    rotate_left
    ·simp only [Act.put, lA, lB, lC, i64_w, i32_w]
     rfl
    refine one_ (i := 7) (N := some 3) #[bT, bT, bT, bT, bT, bT, bT, bT, bF, bF] rfl rfl (by kernel_rfl) (by decide) (fun K hK => ?_)
    refine value_ (w1 := ?_) (v := ?_) (by rfl) rfl ?_ ?_
    rotate_left 2
    ·go_simp
     constructor
     ·rfl
     ·rfl
    have D3 : Hid (Bel W0.drew (w2_.alloc (.cells #[.slice none 0 0, .slice none 0 0] 42))) := Lib.hid (bel_alloc D2.out (.cells #[.slice none 0 0, .slice none 0 0] 42))
    have Q3 := Lib.hid (OwnP.bel Q2.out (bel_alloc (Below.refl _ _) (.cells #[.slice none 0 0, .slice none 0 0] 42)))
    have O3 : Hid (Blk (w2_.alloc (.cells #[.slice none 0 0, .slice none 0 0] 42)) w2_.heap.size #[.slice none 0 0, .slice none 0 0] 42) := Lib.hid (Blk.new w2_ _ _)
    have L3 := D2.out.size
    refine hK.out _ _ ((hfx.out _ D3.out)) (fun hHeld => ?_)
    clear hK K
    refine norm_ (a' := ?_) ?_ ?_
    rotate_left
    ·show Act.put _ (some 3) _ = _
     simp only [Act.put, lA, lB, lC, i64_w, i32_w]
     rfl
    exact norm_ (by simp only [putAll, Act.put, lA, lB, lC]) (hCont (A5, k5, B5, m5, A2, k2, A3, k3, bvc, w2_.heap.size) _ ⟨hHeld, Q3.out, O3.out, L3, D3.out⟩)
   ·skip
    refine value_ (w1 := ?_) (v := ?_) (by rfl) rfl ?_ ?_
    rotate_left 2
    ·go_simp
     constructor
     ·rfl
     ·rfl
    have D2 : Hid (Bel W0.drew (w1_.alloc (.cells #[.slice none 0 0, .slice none 0 0] 42))) := Lib.hid (bel_alloc D1.out (.cells #[.slice none 0 0, .slice none 0 0] 42))
    have P2 := Lib.hid (OwnP.bel P1.out (bel_alloc (Below.refl _ _) (.cells #[.slice none 0 0, .slice none 0 0] 42)))
    have O2 : Hid (Blk (w1_.alloc (.cells #[.slice none 0 0, .slice none 0 0] 42)) w1_.heap.size #[.slice none 0 0, .slice none 0 0] 42) := Lib.hid (Blk.new w1_ _ _)
    have L2 := D1.out.size
    refine hK.out _ _ ((hfx.out _ D2.out)) (fun hHeld => ?_)
    clear hK K
    refine norm_ (a' := ?_) ?_ ?_
    rotate_left
    ·show Act.put _ (some 3) _ = _
     simp only [Act.put, lA, lB, lC, i64_w, i32_w]
     rfl
    refine one_ (i := 3) (N := some 9) #[bT, bT, bT, bT, bF, bF, bF, bT, bF, bF] rfl rfl (by kernel_rfl) (by decide) (fun K hK => ?_)
    refine goes_ Tryz.func101 (by kernel_rfl) rfl #[.agg #[.slice A5 np.slots.length k5, .slice B5 np.vols.length m5], .slice A n.ops.length c] (by rfl) rfl rfl (by simp only [List.map_toArray, List.map_cons, List.map_nil]; rfl) ?_
    with_reducible refine (hrun.out _ _ _ _ P2.out D2.out).mono ?_
    rintro e w3_ ⟨vc, vd, bvc, rfl, ho, X3⟩
    have D3 : Hid (Bel W0.drew w3_) := Lib.hid (Bel.tr D2.out X3)
    obtain ⟨A2, A3, k2, k3, rfl, rfl, hpi⟩ := ho.reads
    have Q3 : Hid (OwnP w3_ W0.drew.heap.size (.slice A2 x.slots.length k2) (.slice A3 x.vols.length k3) x bvc) := Lib.hid (ho.lower D2.out.size)
    clear ho hpi
    have O3 := Lib.hid (Blk.bel O2.out X3)
    refine ⟨_, rfl, ?_⟩
    refine hK.out _ _ ((hfx.out _ D3.out)) (fun hHeld => ?_)
    clear hK K
    refine norm_ (a' := ?_) ?_ ?_
    rotate_left
    ·show Act.put _ (some 9) _ = _
     simp only [Act.put, lA, lB, lC, i64_w, i32_w]
     rfl
    refine pure_ (i := 4) (N := some 5) (v := ?_) (a' := ?_) #[bT, bT, bT, bT, bT, bF, bF, bT, bF, bF] rfl rfl (by kernel_rfl) (fun _ _ _ h => h) (Or.inl ⟨by rfl, ?_⟩) ?_ ?_
    rotate_left
    ·intro w'
     go_simp
     with_reducible rfl
    rotate_left
    ·simp only [Act.put, lA, lB, lC, i64_w, i32_w]
     rfl
    refine pure_ (i := 5) (N := some 10) (v := ?_) (a' := ?_) #[bT, bT, bT, bT, bT, bT, bF, bT, bF, bF] rfl rfl (by kernel_rfl) (fun _ _ _ h => h) (Or.inl ⟨by rfl, ?_⟩) ?_ ?_
    rotate_left
    ·intro w'
     go_simp
     with_reducible rfl
    rotate_left
    ·simp only [Act.put, lA, lB, lC, i64_w, i32_w]
     rfl
    refine pure_ (i := 6) (N := some 11) (v := ?_) (a' := ?_) #[bT, bT, bT, bT, bT, bT, bT, bT, bF, bF] rfl rfl (by kernel_rfl) (fun _ _ _ h => h) (Or.inl ⟨by rfl, ?_⟩) ?_ ?_
    rotate_left
    ·intro w'
     go_simp
     with_reducible rfl
    rotate_left
    ·simp only [Act.put, lA, lB, lC, i64_w, i32_w]
     rfl
    exact norm_ (by simp only [putAll, Act.put, lA, lB, lC]) (hCont (A5, k5, B5, m5, A2, k2, A3, k3, bvc, w1_.heap.size) _ ⟨hHeld, Q3.out, O3.out, L2, D3.out⟩)
  ·skip
   refine value_ (w1 := ?_) (v := ?_) (by rfl) rfl ?_ ?_
   rotate_left 2
   ·go_simp
    constructor
    ·rfl
    ·rfl
   have D1 : Hid (Bel W0.drew (W0.alloc (.cells #[.slice none 0 0, .slice none 0 0] 42)).drew) := Lib.hid (bel_alloc D0.out (.cells #[.slice none 0 0, .slice none 0 0] 42))
   have O1 : Hid (Blk (W0.alloc (.cells #[.slice none 0 0, .slice none 0 0] 42)).drew W0.drew.heap.size #[.slice none 0 0, .slice none 0 0] 42) := Lib.hid (Blk.new W0.drew _ _)
   have L1 := D0.out.size
   refine hK.out _ _ ((hfx.out _ D1.out)) (fun hHeld => ?_)
   clear hK K
   refine norm_ (a' := ?_) ?_ ?_
   rotate_left
   ·show Act.put _ (some 3) _ = _
    simp only [Act.put, lA, lB, lC, i64_w, i32_w]
    rfl
   refine one_ (i := 0) (N := some 6) #[bT, bT, bT, bF, bF, bF, bF, bT, bF, bF] rfl rfl (by kernel_rfl) (by decide) (fun K hK => ?_)
   refine goes_ Tryz.func79 (by kernel_rfl) rfl #[] (by rfl) rfl rfl (by simp only [List.map_toArray, List.map_cons, List.map_nil]) ?_
   with_reducible refine (HNP.out _).mono ?_
   rintro e w2_ ⟨va, vb, bva, rfl, ho, X2⟩
   have D2 := Lib.hid (Bel.tr D1.out X2)
   obtain ⟨A5, B5, k5, m5, rfl, rfl, hpi⟩ := ho.reads
   have O2 := Lib.hid (Blk.bel O1.out X2)
   have P2 : Hid (OwnP w2_ W0.drew.heap.size (.slice A5 np.slots.length k5) (.slice B5 np.vols.length m5) np bva) := Lib.hid (ho.lower D1.out.size)
   clear ho hpi
   refine ⟨_, rfl, ?_⟩
   refine hK.out _ _ ((hfx.out _ D2.out)) (fun hHeld => ?_)
   clear hK K
   refine norm_ (a' := ?_) ?_ ?_
   rotate_left
   ·show Act.put _ (some 6) _ = _
    simp only [Act.put, lA, lB, lC, i64_w, i32_w]
    rfl
   refine one_ (i := 3) (N := some 9) #[bT, bT, bT, bT, bF, bF, bF, bT, bF, bF] rfl rfl (by kernel_rfl) (by decide) (fun K hK => ?_)
   refine goes_ Tryz.func101 (by kernel_rfl) rfl #[.agg #[.slice A5 np.slots.length k5, .slice B5 np.vols.length m5], .slice A n.ops.length c] (by rfl) rfl rfl (by simp only [List.map_toArray, List.map_cons, List.map_nil]; rfl) ?_
   with_reducible refine (hrun.out _ _ _ _ P2.out D2.out).mono ?_
   rintro e w3_ ⟨vc, vd, bvc, rfl, ho, X3⟩
   have D3 : Hid (Bel W0.drew w3_) := Lib.hid (Bel.tr D2.out X3)
   obtain ⟨A2, A3, k2, k3, rfl, rfl, hpi⟩ := ho.reads
   have Q3 : Hid (OwnP w3_ W0.drew.heap.size (.slice A2 x.slots.length k2) (.slice A3 x.vols.length k3) x bvc) := Lib.hid (ho.lower D2.out.size)
   clear ho hpi
   have O3 := Lib.hid (Blk.bel O2.out X3)
   refine ⟨_, rfl, ?_⟩
   refine hK.out _ _ ((hfx.out _ D3.out)) (fun hHeld => ?_)
   clear hK K
   refine norm_ (a' := ?_) ?_ ?_
   rotate_left
   ·show Act.put _ (some 9) _ = _
    simp only [Act.put, lA, lB, lC, i64_w, i32_w]
    rfl
   refine pure_ (i := 4) (N := some 5) (v := ?_) (a' := ?_) #[bT, bT, bT, bT, bT, bF, bF, bT, bF, bF] rfl rfl (by kernel_rfl) (fun _ _ _ h => h) (Or.inl ⟨by rfl, ?_⟩) ?_ ?_
   rotate_left
   ·intro w'
    go_simp
    with_reducible rfl
   rotate_left
   ·simp only [Act.put, lA, lB, lC, i64_w, i32_w]
    rfl
   refine pure_ (i := 5) (N := some 10) (v := ?_) (a' := ?_) #[bT, bT, bT, bT, bT, bT, bF, bT, bF, bF] rfl rfl (by kernel_rfl) (fun _ _ _ h => h) (Or.inl ⟨by rfl, ?_⟩) ?_ ?_
   rotate_left
   ·intro w'
    go_simp
    with_reducible rfl
   rotate_left
   ·simp only [Act.put, lA, lB, lC, i64_w, i32_w]
    rfl
   refine pure_ (i := 6) (N := some 11) (v := ?_) (a' := ?_) #[bT, bT, bT, bT, bT, bT, bT, bT, bF, bF] rfl rfl (by kernel_rfl) (fun _ _ _ h => h) (Or.inl ⟨by rfl, ?_⟩) ?_ ?_
   rotate_left
   ·intro w'
    go_simp
    with_reducible rfl
   rotate_left
   ·simp only [Act.put, lA, lB, lC, i64_w, i32_w]
    rfl
   exact norm_ (by simp only [putAll, Act.put, lA, lB, lC]) (hCont (A5, k5, B5, m5, A2, k2, A3, k3, bvc, W0.heap.size) _ ⟨hHeld, Q3.out, O3.out, L1, D3.out⟩)
 rintro ⟨A5, k5, B5, m5, A2, k2, A3, k3, bvc, nb⟩ w3 ⟨hHeld, hQ, hO, hL, hD⟩
 dsimp only at hQ hO hL
 have r0 := hO.cell 0
 have r1 := hO.cell 1
 have f0 := hO.free 0
 have f1 := hO.free 1
 simp at r0 r1
 refine norm_ (a' := ?_) ?_ ?_
 rotate_left
 ·simp only [putAll, Act.put, lA, lB, lC]
  rfl
 refine last_ (i := 8) (N := none) #[bT, bT, bT, bT, bT, bT, bT, bT, bT, bF] rfl rfl (by kernel_rfl) (by decide) (fun K hK => ?_)
 refine skip_ (w1 := ?_) (by rfl) rfl ?_ ?_
 rotate_left
 ·go_simp
  rfl
 refine hK.out _ _ ?_
 clear hK K
 refine pure_ (i := 9) (N := some 4) (v := ?_) (a' := ?_) #[bT, bT, bT, bT, bT, bT, bT, bT, bT, bT] rfl rfl (by kernel_rfl) (fun _ _ _ h => h) (Or.inl ⟨by rfl, ?_⟩) ?_ ?_
 rotate_left
 ·intro w'
  go_simp
  with_reducible rfl
 rotate_left
 ·simp only [Act.put, lA, lB, lC, i64_w, i32_w]
  rfl
 refine done_ (by kernel_rfl) ?_
 have hO1 := hO.set 0 (.slice A2 x.slots.length k2) (cs' := #[.slice A2 x.slots.length k2, .slice none 0 0]) rfl
 have hO2 := hO1.set 1 (.slice A3 x.vols.length k3) (cs' := #[.slice A2 x.slots.length k2, .slice A3 x.vols.length k3]) rfl
 have hq2 := (hQ.far hO (by decide) (by decide) (by decide) 0 (.slice A2 x.slots.length k2)).far hO1 (by decide) (by decide) (by decide) 1 (.slice A3 x.vols.length k3)
 have hb5 : Bel W0.drew ((w3.setCell ⟨nb, 0, none⟩ (.slice A2 x.slots.length k2)).setCell ⟨nb, 1, none⟩ (.slice A3 x.vols.length k3)) := bel_set (bel_set hD hL 0 (.slice A2 x.slots.length k2)) hL 1 (.slice A3 x.vols.length k3)
 have hR3 : Blk w3 (w.heap.size + 1) #[.slice none 0 0, .slice none 0 0] 42 := Blk.bel (w := W0.drew) (HR.out.bel (Below.refl _ _).drew) hD
 have hne : ¬ nb = w.heap.size + 1 := by have h1 := HR.out.lt; have hsz : W0.drew.heap.size = W0.heap.size := rfl; omega
 have hR4 := (hR3.apart hne 0 (.slice A2 x.slots.length k2)).apart hne 1 (.slice A3 x.vols.length k3)
 clear hO hO1 hD hL hQ f0 f1 r0 r1 hHeld D0 hrun hR3
 generalize ((w3.setCell ⟨nb, 0, none⟩ (.slice A2 x.slots.length k2)).setCell ⟨nb, 1, none⟩ (.slice A3 x.vols.length k3)) = W6 at hO2 hq2 hb5 hR4 ⊢
 have HB := Lib.hid (Bel.tr (b := W0.drew) (HW.out.tr (Below.refl _ _).drew) hb5)
 have HU := Lib.hid (hq2.lower (HW.out.tr (Below.refl _ _).drew).size)
 have HR6 := Lib.hid hR4
 have t0 := hO2.cell 0
 have t1 := hO2.cell 1
 have ty := hO2.lt
 have u0 := HR6.out.cell 0
 have u1 := HR6.out.cell 1
 have g0 := HR6.out.free 0
 have g1 := HR6.out.free 1
 have y := HR6.out.lt
 simp at t0 t1 u0 u1
 clear hO2 hq2 hb5 hR4
 go_wp2
 have hR1 := HR6.out.set 0 (.slice A2 x.slots.length k2) (cs' := #[.slice A2 x.slots.length k2, .slice none 0 0]) rfl
 have hR2 := hR1.set 1 (.slice A3 x.vols.length k3) (cs' := #[.slice A2 x.slots.length k2, .slice A3 x.vols.length k3]) rfl
 have hu2 := (HU.out.far HR6.out (by decide) (by decide) (by decide) 0 (.slice A2 x.slots.length k2)).far hR1 (by decide) (by decide) (by decide) 1 (.slice A3 x.vols.length k3)
 have hb3 := bel_set (bel_set HB.out (Nat.le_succ _) 0 (.slice A2 x.slots.length k2)) (Nat.le_succ _) 1 (.slice A3 x.vols.length k3)
 refine bodyPost_ret (results_cell_row rfl _ _ (w.heap.size + 1) 42 #[.slice A2 x.slots.length k2, .slice A3 x.vols.length k3] (0, 0) _ rfl hR2 Tryz.underlying42 rfl (by kernel_rfl)) rfl ?_
 exact ⟨_, _, bvc, rfl, hu2, hb3⟩
set_option maxHeartbeats 8000000 in
theorem implNodePool_c (hC : kOp.C w A n.ops.length n.ops) (ho : SmallOs n.ops) :
  Calls Tryz.prog 67 #[.agg #[.bool n.up, .int .i64 n.term, .bool n.leads, .bool n.alone, .slice A n.ops.length c]] w (MadeP w (nodePF n)) := by
 have HC := Lib.hid hC
 have HO := Lib.hid ho
 obtain ⟨x, hx⟩ : ∃ x, nodePF n = x := ⟨_, rfl⟩
 rw [hx]
 have HX := Lib.hid hx
 clear hC ho hx
 go_enter Tryz.func67, Tryz.ntmps67
 go_wp2_with fail
 have hN : Blk ((w.alloc (.cells #[.bool n.up, .int .i64 n.term, .bool n.leads, .bool n.alone, .slice A n.ops.length c] 25)).alloc (.cells #[.slice none 0 0, .slice none 0 0] 42)) w.heap.size #[.bool n.up, .int .i64 n.term, .bool n.leads, .bool n.alone, .slice A n.ops.length c] 25 := (Blk.new _ _ _).alloc _
 have hR : Blk ((w.alloc (.cells #[.bool n.up, .int .i64 n.term, .bool n.leads, .bool n.alone, .slice A n.ops.length c] 25)).alloc (.cells #[.slice none 0 0, .slice none 0 0] 42)) (w.heap.size + 1) #[.slice none 0 0, .slice none 0 0] 42 := Blk.nw2 _ _ _ _
 have hW : Bel w ((w.alloc (.cells #[.bool n.up, .int .i64 n.term, .bool n.leads, .bool n.alone, .slice A n.ops.length c] 25)).alloc (.cells #[.slice none 0 0, .slice none 0 0] 42)) := bel_alloc (bel_alloc (Below.refl _ _) _) _
 generalize ((w.alloc (.cells #[.bool n.up, .int .i64 n.term, .bool n.leads, .bool n.alone, .slice A n.ops.length c] 25)).alloc (.cells #[.slice none 0 0, .slice none 0 0] 42)) = W0 at hN hR hW ⊢
 have HK := Lib.hid (implNodeOk_c (n := n) (c := c) (kOp_keep HC.out hW) HO.out)
 cases hok : nodeOk n with
 | false =>
  obtain rfl : noP = x := (nodePF_no hok).symm.trans HX.out
  rw [hok] at HK
  clear hok
  refine HK.out.mono ?_
  rintro e w1 ⟨rfl, hb1⟩
  have HR := Lib.hid (hR.bel hb1)
  have HB := Lib.hid (hW.tr hb1)
  have r0 := HR.out.cell 0
  have r1 := HR.out.cell 1
  have f0 := HR.out.free 0
  have f1 := HR.out.free 1
  have y := HR.out.lt
  simp at r0 r1
  clear hN hR hb1 hW
  go_wp2
  have hR2 := (HR.out.set 0 (.slice none 0 0) (cs' := #[.slice none 0 0, .slice none 0 0]) rfl).set 1 (.slice none 0 0) (cs' := #[.slice none 0 0, .slice none 0 0]) rfl
  refine bodyPost_ret (results_cell_row rfl _ _ (w.heap.size + 1) 42 #[.slice none 0 0, .slice none 0 0] (0, 0) _ rfl hR2 Tryz.underlying42 rfl (by kernel_rfl)) rfl ?_
  exact ⟨_, _, [], rfl, OwnP.none _ _, bel_set (bel_set HB.out (Nat.le_succ _) 0 (.slice none 0 0)) (Nat.le_succ _) 1 (.slice none 0 0)⟩
 | true =>
  obtain ⟨q, h1, h2, h3⟩ := nodePF_yes hok
  obtain rfl : q = x := h1.symm.trans HX.out
  have HRX := Lib.hid h2
  rw [hok] at HK
  clear hok h1 h2 h3
  refine HK.out.mono ?_
  rintro e w1 ⟨rfl, hb1⟩
  have KN := Lib.hid (hN.bel hb1)
  have KR := Lib.hid (hR.bel hb1)
  have KW := Lib.hid (hW.tr hb1)
  clear hN hR hb1 hW
  have q0 := KN.out.cell 0
  have q1 := KN.out.cell 1
  have q2 := KN.out.cell 2
  have q3 := KN.out.cell 3
  have q4 := KN.out.cell 4
  have y := KN.out.lt
  simp at q0 q1 q2 q3 q4
  go_wp2_with fail
  refine (implNodeRun_c (n := n) (kOp_keep HC.out KW.out) HO.out HRX.out).mono ?_
  clear q0 q1 q2 q3 q4 y
  rintro e w2 ⟨u0, u1, bu, rfl, hu, hb2⟩
  obtain ⟨E0, E1, k0, k1, rfl, rfl, hpi⟩ := hu.reads
  have HR := Lib.hid (KR.out.bel hb2)
  have HB := Lib.hid (KW.out.tr hb2)
  have HU := Lib.hid (hu.lower KW.out.size)
  have r0 := HR.out.cell 0
  have r1 := HR.out.cell 1
  have f0 := HR.out.free 0
  have f1 := HR.out.free 1
  have y := HR.out.lt
  simp at r0 r1
  clear hpi hu hb2
  go_wp2
  have hR1 := HR.out.set 0 (.slice E0 q.slots.length k0) (cs' := #[.slice E0 q.slots.length k0, .slice none 0 0]) rfl
  have hR2 := hR1.set 1 (.slice E1 q.vols.length k1) (cs' := #[.slice E0 q.slots.length k0, .slice E1 q.vols.length k1]) rfl
  have hu2 := (HU.out.far HR.out (by decide) (by decide) (by decide) 0 (.slice E0 q.slots.length k0)).far hR1 (by decide) (by decide) (by decide) 1 (.slice E1 q.vols.length k1)
  have hb3 := bel_set (bel_set HB.out (Nat.le_succ _) 0 (.slice E0 q.slots.length k0)) (Nat.le_succ _) 1 (.slice E1 q.vols.length k1)
  refine bodyPost_ret (results_cell_row rfl _ _ (w.heap.size + 1) 42 #[.slice E0 q.slots.length k0, .slice E1 q.vols.length k1] (0, 0) _ rfl hR2 Tryz.underlying42 rfl (by kernel_rfl)) rfl ?_
  exact ⟨_, _, bu, rfl, hu2, hb3⟩
set_option maxHeartbeats 16000000 in
set_option maxRecDepth 10000 in
theorem specNodePool_c (hC : kOp.C w A n.ops.length n.ops) (ho : SmallOs n.ops) :
  Calls Tryz.prog 66 #[.agg #[.bool n.up, .int .i64 n.term, .bool n.leads, .bool n.alone, .slice A n.ops.length c]] w (MadeP w (nodePF n)) := by
 have HNP := Lib.hid specPoolNew_c
 have HNK := Lib.hid newP_ok
 have HC := Lib.hid hC
 have HO := Lib.hid ho
 obtain ⟨x, hx⟩ : ∃ x, nodePF n = x := ⟨_, rfl⟩
 rw [hx]
 have HX := Lib.hid hx
 clear hC ho hx
 go_enter Tryz.func66, Tryz.ntmps66
 go_wp2_with fail
 have hN : Blk ((w.alloc (.cells #[.bool n.up, .int .i64 n.term, .bool n.leads, .bool n.alone, .slice A n.ops.length c] 25)).alloc (.cells #[.slice none 0 0, .slice none 0 0] 42)) w.heap.size #[.bool n.up, .int .i64 n.term, .bool n.leads, .bool n.alone, .slice A n.ops.length c] 25 := (Blk.new _ _ _).alloc _
 have hR : Blk ((w.alloc (.cells #[.bool n.up, .int .i64 n.term, .bool n.leads, .bool n.alone, .slice A n.ops.length c] 25)).alloc (.cells #[.slice none 0 0, .slice none 0 0] 42)) (w.heap.size + 1) #[.slice none 0 0, .slice none 0 0] 42 := Blk.nw2 _ _ _ _
 have hW : Bel w ((w.alloc (.cells #[.bool n.up, .int .i64 n.term, .bool n.leads, .bool n.alone, .slice A n.ops.length c] 25)).alloc (.cells #[.slice none 0 0, .slice none 0 0] 42)) := bel_alloc (bel_alloc (Below.refl _ _) _) _
 generalize ((w.alloc (.cells #[.bool n.up, .int .i64 n.term, .bool n.leads, .bool n.alone, .slice A n.ops.length c] 25)).alloc (.cells #[.slice none 0 0, .slice none 0 0] 42)) = W0 at hN hR hW ⊢
 have HK := Lib.hid (specNodeOk_c (n := n) (c := c) (kOp_keep HC.out hW) HO.out)
 cases hok : nodeOk n with
 | false =>
  obtain rfl : noP = x := (nodePF_no hok).symm.trans HX.out
  rw [hok] at HK
  clear hok
  refine HK.out.mono ?_
  rintro e w1 ⟨rfl, hb1⟩
  have HR := Lib.hid (hR.bel hb1)
  have HB := Lib.hid (hW.tr hb1)
  have r0 := HR.out.cell 0
  have r1 := HR.out.cell 1
  have f0 := HR.out.free 0
  have f1 := HR.out.free 1
  have y := HR.out.lt
  simp at r0 r1
  clear hN hR hb1 hW
  go_wp2
  have hR2 := (HR.out.set 0 (.slice none 0 0) (cs' := #[.slice none 0 0, .slice none 0 0]) rfl).set 1 (.slice none 0 0) (cs' := #[.slice none 0 0, .slice none 0 0]) rfl
  refine bodyPost_ret (results_cell_row rfl _ _ (w.heap.size + 1) 42 #[.slice none 0 0, .slice none 0 0] (0, 0) _ rfl hR2 Tryz.underlying42 rfl (by kernel_rfl)) rfl ?_
  exact ⟨_, _, [], rfl, OwnP.none _ _, bel_set (bel_set HB.out (Nat.le_succ _) 0 (.slice none 0 0)) (Nat.le_succ _) 1 (.slice none 0 0)⟩
 | true =>
  obtain ⟨q, h1, h2, h3⟩ := nodePF_yes hok
  obtain rfl : x = q := HX.out.symm.trans h1
  have HRX := Lib.hid h2
  rw [hok] at HK
  have hrs : (runP newP n.ops).isSome = true := by rw [h2]; rfl
  clear hok h1 h2 h3
  refine HK.out.mono ?_
  rintro e w1 ⟨rfl, hb1⟩
  replace hN := hN.bel hb1
  replace hR := hR.bel hb1
  replace hW := hW.tr hb1
  go_wp2
  have HW := Lib.hid hW
  have HR := Lib.hid hR
  have hfx := Lib.hid (fun (W : World) (hb : Bel w1.drew W) => (show W.cell? ⟨w.heap.size, 4, none⟩ = some (.slice A n.ops.length c) by rw [((hN.bel (Below.refl _ _).drew).bel hb).cell]; rfl))
  have hC1 : kOp.C w1.drew A n.ops.length n.ops := kOp_keep HC.out (hW.tr (Below.refl _ _).drew)
  have D0 : Hid (Bel w1.drew w1.drew) := Lib.hid (Below.refl _ _)
  have hrun := Lib.hid (fun (W' : World) (v0 v1 : Value) (bvs : List Value) (h : OwnP W' w1.drew.heap.size v0 v1 newP bvs) (hb : Bel w1.drew W') => l13Run_c (c2 := c) h newP_ok (Below.size hb) hC1 (Nat.le_refl _) hb HO.out)
  unfold RunsP at hrun
  rw [hrs] at hrun
  obtain ⟨np, hnp⟩ : ∃ np, newP = np := ⟨_, rfl⟩
  rw [hnp] at HNP HRX hrun
  clear hN hW hR hC1 hrs hnp hb1
  refine start_ (n := 10) (S := fun w' => w'.cell? ⟨w.heap.size, 4, none⟩ = some (.slice A n.ops.length c)) (ds := [8]) #[bF, bF, bF, bF, bF, bF, bF, bF, bF, bF] (by kernel_rfl) rfl rfl ((hfx.out _ D0.out)) (fun hHeld => ?_)
  refine pure_ (i := 1) (N := some 11) (v := ?_) (a' := ?_) #[bF, bT, bF, bF, bF, bF, bF, bF, bF, bF] rfl rfl (by kernel_rfl) (fun _ _ _ h => h) (Or.inl ⟨by rfl, ?_⟩) ?_ ?_
  rotate_left
  ·intro w'
   go_simp
   with_reducible rfl
  rotate_left
  ·simp only [Act.put, lA, lB, lC, i64_w, i32_w]
   rfl
  refine take_ (i := 2) (N := some 12) (v := ?_) (a' := ?_) #[bF, bT, bT, bF, bF, bF, bF, bF, bF, bF] rfl rfl (by kernel_rfl) (fun _ _ _ h => h) (Or.inl ⟨by rfl, ?_⟩) hHeld ?_ ?_
  rotate_left
  ·intro w' s0
   go_simp
   with_reducible rfl
  rotate_left
  ·simp only [Act.put, lA, lB, lC, i64_w, i32_w]
   rfl
  refine join_ (σ := Option Addr × Nat × Option Addr × Nat × Option Addr × Nat × Option Addr × Nat × List Value × Nat) 2 #[bT, bT, bT, bT, bT, bT, bT, bT, bF, bF] (fun s => [(10, .agg #[.slice s.1 np.slots.length s.2.1, .slice s.2.2.1 np.vols.length s.2.2.2.1]), (13, .tuple #[.agg #[.slice s.2.2.2.2.1 x.slots.length s.2.2.2.2.2.1, .slice s.2.2.2.2.2.2.1 x.vols.length s.2.2.2.2.2.2.2.1], .bool true]), (9, .tuple #[.agg #[.slice s.2.2.2.2.1 x.slots.length s.2.2.2.2.2.1, .slice s.2.2.2.2.2.2.1 x.vols.length s.2.2.2.2.2.2.2.1], .bool true]), (14, .agg #[.slice s.2.2.2.2.1 x.slots.length s.2.2.2.2.2.1, .slice s.2.2.2.2.2.2.1 x.vols.length s.2.2.2.2.2.2.2.1]), (15, .bool true), (3, .pointer (some ⟨s.2.2.2.2.2.2.2.2.2, 0, none⟩))]) (fun s w' => (w'.cell? ⟨w.heap.size, 4, none⟩ = some (.slice A n.ops.length c)) ∧ OwnP w' w1.drew.heap.size (.slice s.2.2.2.2.1 x.slots.length s.2.2.2.2.2.1) (.slice s.2.2.2.2.2.2.1 x.vols.length s.2.2.2.2.2.2.2.1) x s.2.2.2.2.2.2.2.2.1 ∧ Blk w' s.2.2.2.2.2.2.2.2.2 #[.slice none 0 0, .slice none 0 0] 42 ∧ w1.drew.heap.size ≤ s.2.2.2.2.2.2.2.2.2 ∧ Bel w1.drew w') ?_ ?_
  rotate_left
  ·intro hCont
   refine two_ (i := 0) (j := 7) (Ni := some 10) (Nj := some 3) #[bT, bT, bT, bF, bF, bF, bF, bF, bF, bF] #[bF, bT, bT, bF, bF, bF, bF, bT, bF, bF] rfl rfl rfl rfl (by kernel_rfl) (by decide) (by decide) (fun K hK => ?_) (fun K hK => ?_)
   ·skip
    refine goes_ Tryz.func133 (by kernel_rfl) rfl #[] (by rfl) rfl rfl (by simp only [List.map_toArray, List.map_cons, List.map_nil]) ?_
    with_reducible refine (HNP.out _).mono ?_
    rintro e w1_ ⟨va, vb, bva, rfl, ho, X1⟩
    have D1 := Lib.hid (Bel.tr D0.out X1)
    obtain ⟨A5, B5, k5, m5, rfl, rfl, hpi⟩ := ho.reads
    have P1 : Hid (OwnP w1_ w1.drew.heap.size (.slice A5 np.slots.length k5) (.slice B5 np.vols.length m5) np bva) := Lib.hid (ho.lower D0.out.size)
    clear ho hpi
    refine ⟨_, rfl, ?_⟩
    refine hK.out _ _ ((hfx.out _ D1.out)) (fun hHeld => ?_)
    clear hK K
    refine norm_ (a' := ?_) ?_ ?_
    rotate_left
    ·show Act.put _ (some 10) _ = _
     simp only [Act.put, lA, lB, lC, i64_w, i32_w]
     rfl
    refine two_ (i := 3) (j := 7) (Ni := some 13) (Nj := some 3) #[bT, bT, bT, bT, bF, bF, bF, bF, bF, bF] #[bT, bT, bT, bF, bF, bF, bF, bT, bF, bF] rfl rfl rfl rfl (by kernel_rfl) (by decide) (by decide) (fun K hK => ?_) (fun K hK => ?_)
    ·skip
     refine goes_ Tryz.func104 (by kernel_rfl) rfl #[.agg #[.slice A5 np.slots.length k5, .slice B5 np.vols.length m5], .slice A n.ops.length c] (by rfl) rfl rfl (by simp only [List.map_toArray, List.map_cons, List.map_nil]; rfl) ?_
     with_reducible refine (hrun.out _ _ _ _ P1.out D1.out).mono ?_
     rintro e w2_ ⟨A2, A3, n2, n3, k2, k3, rfl, hq, X2⟩
     have D2 : Hid (Bel w1.drew w2_) := Lib.hid (D1.out.trans X2.b)
     obtain ⟨bvc, hq2⟩ := hq x HRX.out
     obtain ⟨E0, E1, d0, d1, e0, e1, hpi⟩ := hq2.reads
     have e0 := slice_eq e0
     have e1 := slice_eq e1
     obtain ⟨rfl, rfl, rfl⟩ := e0
     obtain ⟨rfl, rfl, rfl⟩ := e1
     have Q2 := Lib.hid hq2
     clear hq hq2 hpi
     refine ⟨_, rfl, ?_⟩
     refine hK.out _ _ ((hfx.out _ D2.out)) (fun hHeld => ?_)
     clear hK K
     refine norm_ (a' := ?_) ?_ ?_
     rotate_left
     ·show Act.put _ (some 13) _ = _
      simp only [Act.put, lA, lB, lC, i64_w, i32_w]
      rfl
     refine pure_ (i := 4) (N := some 9) (v := ?_) (a' := ?_) #[bT, bT, bT, bT, bT, bF, bF, bF, bF, bF] rfl rfl (by kernel_rfl) (fun _ _ _ h => h) (Or.inl ⟨by rfl, ?_⟩) ?_ ?_
     rotate_left
     ·intro w'
      go_simp
      with_reducible rfl
     rotate_left
     ·simp only [Act.put, lA, lB, lC, i64_w, i32_w]
      rfl
     refine pure_ (i := 5) (N := some 14) (v := ?_) (a' := ?_) #[bT, bT, bT, bT, bT, bT, bF, bF, bF, bF] rfl rfl (by kernel_rfl) (fun _ _ _ h => h) (Or.inl ⟨by rfl, ?_⟩) ?_ ?_
     rotate_left
     ·intro w'
      go_simp
      with_reducible rfl
     rotate_left
     ·simp only [Act.put, lA, lB, lC, i64_w, i32_w]
      rfl
     refine pure_ (i := 6) (N := some 15) (v := ?_) (a' := ?_) #[bT, bT, bT, bT, bT, bT, bT, bF, bF, bF] rfl rfl (by kernel_rfl) (fun _ _ _ h => h) (Or.inl ⟨by rfl, ?_⟩) ?_ ?_
     rotate_left
     ·intro w'
      go_simp
      with_reducible rfl
     rotate_left
     ·simp only [Act.put, lA, lB, lC, i64_w, i32_w]
      rfl
     refine one_ (i := 7) (N := some 3) #[bT, bT, bT, bT, bT, bT, bT, bT, bF, bF] rfl rfl (by kernel_rfl) (by decide) (fun K hK => ?_)
     refine value_ (w1 := ?_) (v := ?_) (by rfl) rfl ?_ ?_
     rotate_left 2
     ·go_simp
      constructor
      ·rfl
      ·rfl
     have D3 : Hid (Bel w1.drew (w2_.alloc (.cells #[.slice none 0 0, .slice none 0 0] 42))) := Lib.hid (bel_alloc D2.out (.cells #[.slice none 0 0, .slice none 0 0] 42))
     have Q3 := Lib.hid (OwnP.bel Q2.out (bel_alloc (Below.refl _ _) (.cells #[.slice none 0 0, .slice none 0 0] 42)))
     have O3 : Hid (Blk (w2_.alloc (.cells #[.slice none 0 0, .slice none 0 0] 42)) w2_.heap.size #[.slice none 0 0, .slice none 0 0] 42) := Lib.hid (Blk.new w2_ _ _)
     have L3 := D2.out.size
     refine hK.out _ _ ((hfx.out _ D3.out)) (fun hHeld => ?_)
     clear hK K
     refine norm_ (a' := ?_) ?_ ?_
     rotate_left
     ·show Act.put _ (some 3) _ = _
      simp only [Act.put, lA, lB, lC, i64_w, i32_w]
      rfl
     exact norm_ (by simp only [putAll, Act.put, lA, lB, lC]) (hCont (A5, k5, B5, m5, A2, k2, A3, k3, bvc, w2_.heap.size) _ ⟨hHeld, Q3.out, O3.out, L3, D3.out⟩)
    ·skip
     refine value_ (w1 := ?_) (v := ?_) (by rfl) rfl ?_ ?_
     rotate_left 2
     ·go_simp
      constructor
      ·rfl
      ·rfl
     have D2 : Hid (Bel w1.drew (w1_.alloc (.cells #[.slice none 0 0, .slice none 0 0] 42))) := Lib.hid (bel_alloc D1.out (.cells #[.slice none 0 0, .slice none 0 0] 42))
     have P2 := Lib.hid (OwnP.bel P1.out (bel_alloc (Below.refl _ _) (.cells #[.slice none 0 0, .slice none 0 0] 42)))
     have O2 : Hid (Blk (w1_.alloc (.cells #[.slice none 0 0, .slice none 0 0] 42)) w1_.heap.size #[.slice none 0 0, .slice none 0 0] 42) := Lib.hid (Blk.new w1_ _ _)
     have L2 := D1.out.size
     refine hK.out _ _ ((hfx.out _ D2.out)) (fun hHeld => ?_)
     clear hK K
     refine norm_ (a' := ?_) ?_ ?_
     rotate_left
     ·show Act.put _ (some 3) _ = _
      simp only [Act.put, lA, lB, lC, i64_w, i32_w]
      rfl
     refine one_ (i := 3) (N := some 13) #[bT, bT, bT, bT, bF, bF, bF, bT, bF, bF] rfl rfl (by kernel_rfl) (by decide) (fun K hK => ?_)
     refine goes_ Tryz.func104 (by kernel_rfl) rfl #[.agg #[.slice A5 np.slots.length k5, .slice B5 np.vols.length m5], .slice A n.ops.length c] (by rfl) rfl rfl (by simp only [List.map_toArray, List.map_cons, List.map_nil]; rfl) ?_
     with_reducible refine (hrun.out _ _ _ _ P2.out D2.out).mono ?_
     rintro e w3_ ⟨A2, A3, n2, n3, k2, k3, rfl, hq, X3⟩
     have D3 : Hid (Bel w1.drew w3_) := Lib.hid (D2.out.trans X3.b)
     obtain ⟨bvc, hq2⟩ := hq x HRX.out
     obtain ⟨E0, E1, d0, d1, e0, e1, hpi⟩ := hq2.reads
     have e0 := slice_eq e0
     have e1 := slice_eq e1
     obtain ⟨rfl, rfl, rfl⟩ := e0
     obtain ⟨rfl, rfl, rfl⟩ := e1
     have Q3 := Lib.hid hq2
     clear hq hq2 hpi
     have O3 := Lib.hid (X3.k _ _ _ (by decide) (by decide) (by decide) O2.out)
     refine ⟨_, rfl, ?_⟩
     refine hK.out _ _ ((hfx.out _ D3.out)) (fun hHeld => ?_)
     clear hK K
     refine norm_ (a' := ?_) ?_ ?_
     rotate_left
     ·show Act.put _ (some 13) _ = _
      simp only [Act.put, lA, lB, lC, i64_w, i32_w]
      rfl
     refine pure_ (i := 4) (N := some 9) (v := ?_) (a' := ?_) #[bT, bT, bT, bT, bT, bF, bF, bT, bF, bF] rfl rfl (by kernel_rfl) (fun _ _ _ h => h) (Or.inl ⟨by rfl, ?_⟩) ?_ ?_
     rotate_left
     ·intro w'
      go_simp
      with_reducible rfl
     rotate_left
     ·simp only [Act.put, lA, lB, lC, i64_w, i32_w]
      rfl
     refine pure_ (i := 5) (N := some 14) (v := ?_) (a' := ?_) #[bT, bT, bT, bT, bT, bT, bF, bT, bF, bF] rfl rfl (by kernel_rfl) (fun _ _ _ h => h) (Or.inl ⟨by rfl, ?_⟩) ?_ ?_
     rotate_left
     ·intro w'
      go_simp
      with_reducible rfl
     rotate_left
     ·simp only [Act.put, lA, lB, lC, i64_w, i32_w]
      rfl
     refine pure_ (i := 6) (N := some 15) (v := ?_) (a' := ?_) #[bT, bT, bT, bT, bT, bT, bT, bT, bF, bF] rfl rfl (by kernel_rfl) (fun _ _ _ h => h) (Or.inl ⟨by rfl, ?_⟩) ?_ ?_
     rotate_left
     ·intro w'
      go_simp
      with_reducible rfl
     rotate_left
     ·simp only [Act.put, lA, lB, lC, i64_w, i32_w]
      rfl
     exact norm_ (by simp only [putAll, Act.put, lA, lB, lC]) (hCont (A5, k5, B5, m5, A2, k2, A3, k3, bvc, w1_.heap.size) _ ⟨hHeld, Q3.out, O3.out, L2, D3.out⟩)
   ·skip
    refine value_ (w1 := ?_) (v := ?_) (by rfl) rfl ?_ ?_
    rotate_left 2
    ·go_simp
     constructor
     ·rfl
     ·rfl
    have D1 : Hid (Bel w1.drew (w1.alloc (.cells #[.slice none 0 0, .slice none 0 0] 42)).drew) := Lib.hid (bel_alloc D0.out (.cells #[.slice none 0 0, .slice none 0 0] 42))
    have O1 : Hid (Blk (w1.alloc (.cells #[.slice none 0 0, .slice none 0 0] 42)).drew w1.drew.heap.size #[.slice none 0 0, .slice none 0 0] 42) := Lib.hid (Blk.new w1.drew _ _)
    have L1 := D0.out.size
    refine hK.out _ _ ((hfx.out _ D1.out)) (fun hHeld => ?_)
    clear hK K
    refine norm_ (a' := ?_) ?_ ?_
    rotate_left
    ·show Act.put _ (some 3) _ = _
     simp only [Act.put, lA, lB, lC, i64_w, i32_w]
     rfl
    refine one_ (i := 0) (N := some 10) #[bT, bT, bT, bF, bF, bF, bF, bT, bF, bF] rfl rfl (by kernel_rfl) (by decide) (fun K hK => ?_)
    refine goes_ Tryz.func133 (by kernel_rfl) rfl #[] (by rfl) rfl rfl (by simp only [List.map_toArray, List.map_cons, List.map_nil]) ?_
    with_reducible refine (HNP.out _).mono ?_
    rintro e w2_ ⟨va, vb, bva, rfl, ho, X2⟩
    have D2 := Lib.hid (Bel.tr D1.out X2)
    obtain ⟨A5, B5, k5, m5, rfl, rfl, hpi⟩ := ho.reads
    have O2 := Lib.hid (Blk.bel O1.out X2)
    have P2 : Hid (OwnP w2_ w1.drew.heap.size (.slice A5 np.slots.length k5) (.slice B5 np.vols.length m5) np bva) := Lib.hid (ho.lower D1.out.size)
    clear ho hpi
    refine ⟨_, rfl, ?_⟩
    refine hK.out _ _ ((hfx.out _ D2.out)) (fun hHeld => ?_)
    clear hK K
    refine norm_ (a' := ?_) ?_ ?_
    rotate_left
    ·show Act.put _ (some 10) _ = _
     simp only [Act.put, lA, lB, lC, i64_w, i32_w]
     rfl
    refine one_ (i := 3) (N := some 13) #[bT, bT, bT, bT, bF, bF, bF, bT, bF, bF] rfl rfl (by kernel_rfl) (by decide) (fun K hK => ?_)
    refine goes_ Tryz.func104 (by kernel_rfl) rfl #[.agg #[.slice A5 np.slots.length k5, .slice B5 np.vols.length m5], .slice A n.ops.length c] (by rfl) rfl rfl (by simp only [List.map_toArray, List.map_cons, List.map_nil]; rfl) ?_
    with_reducible refine (hrun.out _ _ _ _ P2.out D2.out).mono ?_
    rintro e w3_ ⟨A2, A3, n2, n3, k2, k3, rfl, hq, X3⟩
    have D3 : Hid (Bel w1.drew w3_) := Lib.hid (D2.out.trans X3.b)
    obtain ⟨bvc, hq2⟩ := hq x HRX.out
    obtain ⟨E0, E1, d0, d1, e0, e1, hpi⟩ := hq2.reads
    have e0 := slice_eq e0
    have e1 := slice_eq e1
    obtain ⟨rfl, rfl, rfl⟩ := e0
    obtain ⟨rfl, rfl, rfl⟩ := e1
    have Q3 := Lib.hid hq2
    clear hq hq2 hpi
    have O3 := Lib.hid (X3.k _ _ _ (by decide) (by decide) (by decide) O2.out)
    refine ⟨_, rfl, ?_⟩
    refine hK.out _ _ ((hfx.out _ D3.out)) (fun hHeld => ?_)
    clear hK K
    refine norm_ (a' := ?_) ?_ ?_
    rotate_left
    ·show Act.put _ (some 13) _ = _
     simp only [Act.put, lA, lB, lC, i64_w, i32_w]
     rfl
    refine pure_ (i := 4) (N := some 9) (v := ?_) (a' := ?_) #[bT, bT, bT, bT, bT, bF, bF, bT, bF, bF] rfl rfl (by kernel_rfl) (fun _ _ _ h => h) (Or.inl ⟨by rfl, ?_⟩) ?_ ?_
    rotate_left
    ·intro w'
     go_simp
     with_reducible rfl
    rotate_left
    ·simp only [Act.put, lA, lB, lC, i64_w, i32_w]
     rfl
    refine pure_ (i := 5) (N := some 14) (v := ?_) (a' := ?_) #[bT, bT, bT, bT, bT, bT, bF, bT, bF, bF] rfl rfl (by kernel_rfl) (fun _ _ _ h => h) (Or.inl ⟨by rfl, ?_⟩) ?_ ?_
    rotate_left
    ·intro w'
     go_simp
     with_reducible rfl
    rotate_left
    ·simp only [Act.put, lA, lB, lC, i64_w, i32_w]
     rfl
    refine pure_ (i := 6) (N := some 15) (v := ?_) (a' := ?_) #[bT, bT, bT, bT, bT, bT, bT, bT, bF, bF] rfl rfl (by kernel_rfl) (fun _ _ _ h => h) (Or.inl ⟨by rfl, ?_⟩) ?_ ?_
    rotate_left
    ·intro w'
     go_simp
     with_reducible rfl
    rotate_left
    ·simp only [Act.put, lA, lB, lC, i64_w, i32_w]
     rfl
    exact norm_ (by simp only [putAll, Act.put, lA, lB, lC]) (hCont (A5, k5, B5, m5, A2, k2, A3, k3, bvc, w1.heap.size) _ ⟨hHeld, Q3.out, O3.out, L1, D3.out⟩)
  rintro ⟨A5, k5, B5, m5, A2, k2, A3, k3, bvc, nb⟩ w3 ⟨hHeld, hQ, hO, hL, hD⟩
  dsimp only at hQ hO hL
  have r0 := hO.cell 0
  have r1 := hO.cell 1
  have f0 := hO.free 0
  have f1 := hO.free 1
  simp at r0 r1
  refine norm_ (a' := ?_) ?_ ?_
  rotate_left
  ·simp only [putAll, Act.put, lA, lB, lC]
   rfl
  refine last_ (i := 8) (N := none) #[bT, bT, bT, bT, bT, bT, bT, bT, bT, bF] rfl rfl (by kernel_rfl) (by decide) (fun K hK => ?_)
  refine skip_ (w1 := ?_) (by rfl) rfl ?_ ?_
  rotate_left
  ·go_simp
   rfl
  refine hK.out _ _ ?_
  clear hK K
  refine pure_ (i := 9) (N := some 4) (v := ?_) (a' := ?_) #[bT, bT, bT, bT, bT, bT, bT, bT, bT, bT] rfl rfl (by kernel_rfl) (fun _ _ _ h => h) (Or.inl ⟨by rfl, ?_⟩) ?_ ?_
  rotate_left
  ·intro w'
   go_simp
   with_reducible rfl
  rotate_left
  ·simp only [Act.put, lA, lB, lC, i64_w, i32_w]
   rfl
  refine done_ (by kernel_rfl) ?_
  have hO1 := hO.set 0 (.slice A2 x.slots.length k2) (cs' := #[.slice A2 x.slots.length k2, .slice none 0 0]) rfl
  have hO2 := hO1.set 1 (.slice A3 x.vols.length k3) (cs' := #[.slice A2 x.slots.length k2, .slice A3 x.vols.length k3]) rfl
  have hq2 := (hQ.far hO (by decide) (by decide) (by decide) 0 (.slice A2 x.slots.length k2)).far hO1 (by decide) (by decide) (by decide) 1 (.slice A3 x.vols.length k3)
  have hb5 : Bel w1.drew ((w3.setCell ⟨nb, 0, none⟩ (.slice A2 x.slots.length k2)).setCell ⟨nb, 1, none⟩ (.slice A3 x.vols.length k3)) := bel_set (bel_set hD hL 0 (.slice A2 x.slots.length k2)) hL 1 (.slice A3 x.vols.length k3)
  have hR3 : Blk w3 (w.heap.size + 1) #[.slice none 0 0, .slice none 0 0] 42 := Blk.bel (w := w1.drew) (HR.out.bel (Below.refl _ _).drew) hD
  have hne : ¬ nb = w.heap.size + 1 := by have h1 := HR.out.lt; have hsz : w1.drew.heap.size = w1.heap.size := rfl; omega
  have hR4 := (hR3.apart hne 0 (.slice A2 x.slots.length k2)).apart hne 1 (.slice A3 x.vols.length k3)
  clear hO hO1 hD hL hQ f0 f1 r0 r1 hHeld D0 hrun hR3
  generalize ((w3.setCell ⟨nb, 0, none⟩ (.slice A2 x.slots.length k2)).setCell ⟨nb, 1, none⟩ (.slice A3 x.vols.length k3)) = W6 at hO2 hq2 hb5 hR4 ⊢
  have HB := Lib.hid (Bel.tr (b := w1.drew) (HW.out.tr (Below.refl _ _).drew) hb5)
  have HU := Lib.hid (hq2.lower (HW.out.tr (Below.refl _ _).drew).size)
  have HR6 := Lib.hid hR4
  have t0 := hO2.cell 0
  have t1 := hO2.cell 1
  have ty := hO2.lt
  have u0 := HR6.out.cell 0
  have u1 := HR6.out.cell 1
  have g0 := HR6.out.free 0
  have g1 := HR6.out.free 1
  have y := HR6.out.lt
  simp at t0 t1 u0 u1
  clear hO2 hq2 hb5 hR4
  go_wp2
  have hR1 := HR6.out.set 0 (.slice A2 x.slots.length k2) (cs' := #[.slice A2 x.slots.length k2, .slice none 0 0]) rfl
  have hR2 := hR1.set 1 (.slice A3 x.vols.length k3) (cs' := #[.slice A2 x.slots.length k2, .slice A3 x.vols.length k3]) rfl
  have hu2 := (HU.out.far HR6.out (by decide) (by decide) (by decide) 0 (.slice A2 x.slots.length k2)).far hR1 (by decide) (by decide) (by decide) 1 (.slice A3 x.vols.length k3)
  have hb3 := bel_set (bel_set HB.out (Nat.le_succ _) 0 (.slice A2 x.slots.length k2)) (Nat.le_succ _) 1 (.slice A3 x.vols.length k3)
  refine bodyPost_ret (results_cell_row rfl _ _ (w.heap.size + 1) 42 #[.slice A2 x.slots.length k2, .slice A3 x.vols.length k3] (0, 0) _ rfl hR2 Tryz.underlying42 rfl (by kernel_rfl)) rfl ?_
  exact ⟨_, _, bvc, rfl, hu2, hb3⟩
end
theorem markNode_c {w : World} {base : Nat} {A : Option Addr} {c : Nat} {n : Node} {k : Int} (h : OwnO w base (.slice A n.ops.length c) n.ops) (hl : n.ops.length ≤ 1048576) (hbase : base ≤ w.heap.size) (h0 : 0 < k) (h1 : k ≤ 1099511627776) :
  Calls Tryz.prog 46 #[.agg #[.bool n.up, .int .i64 n.term, .bool n.leads, .bool n.alone, .slice A n.ops.length c], .int .i64 k] w (fun e w' => e = .returned (.int .i64 (k + 5 * n.ops.length)) ∧ w.grownBy w' (Value.slice A n.ops.length c).ownBlock) := by
 have H := Lib.hid h
 clear h
 go_enter Tryz.func46, Tryz.ntmps46
 go_wp2_with fail
 have hb : Bel w (w.alloc (.cells #[.bool n.up, .int .i64 n.term, .bool n.leads, .bool n.alone, .slice A n.ops.length c] 25)) := bel_alloc (Below.refl _ _) _
 generalize w.alloc (.cells #[.bool n.up, .int .i64 n.term, .bool n.leads, .bool n.alone, .slice A n.ops.length c] 25) = W0 at hb ⊢
 refine (markOpS_c (H.out.bel hb) hl h0 (by omega)).mono ?_
 rintro e w1 ⟨rfl, _, hg⟩
 have HG := Lib.hid (grown_tr (grown_of_bel hb _) hg)
 clear hg hb
 go_wp2
 go_ret
 exact ⟨rfl, HG.out⟩
end Go.Proofs.YtccllgpaafgjaaaGreat

namespace Go.Proofs.YtccllgpaafgjaaaGreat
open Go.ChangeShapes Go.WideShapes
theorem joined_of {P : Program} {f : FuncId} {fn : Func} {s : ChangeSpec} {c : OpenClaim}
  (h0 : (c.wf (OpenSpec.ofChange s)) = true)
  (h1 : (laidOutB P) = true)
  (h2 : (mapsRowed P) = true)
  (h3 : (fn.params.all (P.readableRec ·)) = true)
  (h4 : (namedTie P c.named s.vars) = true)
  (h5 : (c.stops == []) = true)
  (h6 : (P.stops == []) = true)
  (h7 : (c.knobs == []) = true)
  (h8 : (P.stopKnobs == []) = true)
  (h9 : (c.inPlace == P.inPlace f) = true)
  (h10 : (c.unfollowed == P.unfollowed f) = true)
  (h11 : (c.recurses == P.recurses f) = true)
  (h12 : (c.named == P.varsNamed f) = true)
  (h13 : (c.maps == (fn.params.toList ++ s.plain.varTypes P).any (P.mapsRec ·)) = true)
  (h14 : (c.ifaces == (fn.params.toList ++ s.plain.varTypes P).any (P.ifacesRec ·)) = true)
  (h15 : (c.mapsOut == P.mapsAmong fn.resultTypes.toList) = true)
  (h16 : (c.loops == (fn.params.toList ++ s.plain.varTypes P).any (P.loopsFrom ·)) = true)
  (h17 : (c.wideKeys == (fn.params.toList ++ s.plain.varTypes P ++ fn.resultTypes.toList).any (P.wideKeysFrom ·)) = true)
  (h18 : (s.vars.all (P.varReadable ·)) = true)
  (h19 : (fn.resultTypes.all (fun t => P.readableRec t && decide (t < P.types.size))) = true)
  (h20 : (c.ifacesOut == fn.resultTypes.toList.any (P.ifacesRec ·)) = true)
  (h21 : (c.loopsOut == fn.resultTypes.toList.any (P.loopsFrom ·)) = true)
  (h22 : (c.plainKeys == P.plainKeys) = true)
  (h23 : (c.shortTexts.isNone) = true)
  (h24 : (P.stopsHeard) = true)
  (h25 : (P.mayEnter) = true)
  (h26 : (c.lifted == P.liftsFinal) = true)
  (h27 : (P.make == some c.make) = true)
  (h28 : (c.kinds == (if c.domain.isEmpty then [] else fn.params.toList.map fun t => match P.underlying t with | some (.int k) => some k | _ => none)) = true)
  (h29 : (c.pinned == c.pinnedBy) = true)
  (h30 : (c.veiled == (fn.params.toList ++ s.plain.varTypes P ++ fn.resultTypes.toList).any (P.veiledRec ·)) = true)
  (h31 : (c.veiledFits P fn.params.toList (fn.params.toList ++ s.plain.varTypes P ++ fn.resultTypes.toList)) = true) : joinedFacts P f fn s c = true := by
 unfold joinedFacts
 simp only [Bool.and_eq_true]
 exact ⟨⟨⟨⟨⟨⟨⟨⟨⟨⟨⟨⟨⟨⟨⟨⟨⟨⟨⟨⟨⟨⟨⟨⟨⟨⟨⟨⟨⟨⟨⟨h0, h1⟩, h2⟩, h3⟩, h4⟩, h5⟩, h6⟩, h7⟩, h8⟩, h9⟩, h10⟩, h11⟩, h12⟩, h13⟩, h14⟩, h15⟩, h16⟩, h17⟩, h18⟩, h19⟩, h20⟩, h21⟩, h22⟩, h23⟩, h24⟩, h25⟩, h26⟩, h27⟩, h28⟩, h29⟩, h30⟩, h31⟩
def ordN : List Nat := [104, 97, 114, 110, 101, 115, 115, 32, 102, 49, 50, 48, 98, 98, 97, 51, 102, 53, 55, 102, 97, 55, 97, 55, 100, 50, 50, 100, 54, 99, 50, 53, 55, 102, 99, 101, 50, 101, 52, 54,
 102, 102, 57, 100, 52, 51, 102, 52, 54, 98, 56, 55, 100, 50, 51, 99, 101, 101, 51, 53, 49, 100, 52, 55, 54, 51, 55, 102, 55, 101, 52, 98, 32, 99, 117, 116, 32, 97, 116, 32,
 108, 111, 111, 112, 46, 101, 120, 97, 109, 112, 108, 101, 47, 103, 97, 114, 110, 101, 114, 47, 108, 97, 119, 115, 46, 70, 110, 72, 101, 97, 114, 71, 97, 112, 32, 108, 111, 111, 112, 46,
 101, 120, 97, 109, 112, 108, 101, 47, 103, 97, 114, 110, 101, 114, 47, 108, 97, 119, 115, 46, 70, 110, 72, 101, 97, 114, 74, 111, 105, 110, 32, 108, 111, 111, 112, 46, 101, 120, 97, 109,
 112, 108, 101, 47, 103, 97, 114, 110, 101, 114, 47, 108, 97, 119, 115, 46, 70, 110, 72, 101, 97, 114, 67, 111, 112, 121, 32, 108, 111, 111, 112, 46, 101, 120, 97, 109, 112, 108, 101, 47,
 103, 97, 114, 110, 101, 114, 47, 108, 97, 119, 115, 46, 70, 110, 76, 111, 103, 80, 97, 99, 107, 32, 108, 111, 111, 112, 46, 101, 120, 97, 109, 112, 108, 101, 47, 103, 97, 114, 110, 101,
 114, 47, 108, 97, 119, 115, 46, 70, 110, 69, 120, 97, 99, 116, 78, 111, 100, 101, 65, 115, 107, 32, 108, 111, 111, 112, 46, 101, 120, 97, 109, 112, 108, 101, 47, 103, 97, 114, 110, 101,
 114, 47, 108, 97, 119, 115, 46, 70, 110, 76, 111, 103, 75, 101, 101, 112, 32, 108, 111, 111, 112, 46, 101, 120, 97, 109, 112, 108, 101, 47, 103, 97, 114, 110, 101, 114, 47, 108, 97, 119,
 115, 46, 70, 110, 80, 97, 99, 107, 70, 97, 108, 108, 32, 108, 111, 111, 112, 46, 101, 120, 97, 109, 112, 108, 101, 47, 103, 97, 114, 110, 101, 114, 47, 108, 97, 119, 115, 46, 70, 110,
 76, 111, 103, 70, 114, 101, 101, 32, 108, 111, 111, 112, 46, 101, 120, 97, 109, 112, 108, 101, 47, 103, 97, 114, 110, 101, 114, 47, 108, 97, 119, 115, 46, 70, 110, 76, 111, 103, 65, 100,
 100, 32, 108, 111, 111, 112, 46, 101, 120, 97, 109, 112, 108, 101, 47, 103, 97, 114, 110, 101, 114, 47, 108, 97, 119, 115, 46, 70, 110, 75, 101, 101, 112, 65, 100, 100, 32, 108, 111, 111,
 112, 46, 101, 120, 97, 109, 112, 108, 101, 47, 103, 97, 114, 110, 101, 114, 47, 108, 97, 119, 115, 46, 70, 110, 69, 120, 97, 99, 116, 78, 111, 100, 101, 80, 111, 111, 108, 32, 108, 111,
 111, 112, 46, 101, 120, 97, 109, 112, 108, 101, 47, 103, 97, 114, 110, 101, 114, 47, 108, 97, 119, 115, 46, 70, 110, 69, 120, 97, 99, 116, 76, 111, 103, 79, 107, 32, 108, 111, 111, 112,
 46, 101, 120, 97, 109, 112, 108, 101, 47, 103, 97, 114, 110, 101, 114, 47, 108, 97, 119, 115, 46, 70, 110, 78, 111, 100, 101, 76, 101, 115, 115, 32, 108, 111, 111, 112, 46, 101, 120, 97,
 109, 112, 108, 101, 47, 103, 97, 114, 110, 101, 114, 47, 108, 97, 119, 115, 46, 70, 110, 69, 120, 97, 99, 116, 78, 111, 100, 101, 72, 101, 97, 114, 32, 108, 111, 111, 112, 46, 101, 120,
 97, 109, 112, 108, 101, 47, 103, 97, 114, 110, 101, 114, 47, 108, 97, 119, 115, 46, 70, 110, 78, 111, 100, 101, 80, 111, 111, 108, 32, 108, 111, 111, 112, 46, 101, 120, 97, 109, 112, 108,
 101, 47, 103, 97, 114, 110, 101, 114, 47, 108, 97, 119, 115, 46, 70, 110, 69, 120, 97, 99, 116, 87, 111, 114, 108, 100, 79, 107, 32, 108, 111, 111, 112, 46, 101, 120, 97, 109, 112, 108,
 101, 47, 103, 97, 114, 110, 101, 114, 47, 108, 97, 119, 115, 46, 70, 110, 72, 101, 97, 114, 65, 103, 97, 105, 110, 32, 108, 111, 111, 112, 46, 101, 120, 97, 109, 112, 108, 101, 47, 103,
 97, 114, 110, 101, 114, 47, 108, 97, 119, 115, 46, 70, 110, 72, 101, 97, 114, 68, 111, 119, 110, 32, 108, 111, 111, 112, 46, 101, 120, 97, 109, 112, 108, 101, 47, 103, 97, 114, 110, 101,
 114, 47, 108, 97, 119, 115, 46, 70, 110, 72, 101, 97, 114, 69, 108, 100, 101, 114]
theorem ord_eq : Tryz.prog.initOrder = String.ofList (ordN.map Char.ofNat) := by kernel_rfl
theorem ord_list : Tryz.prog.initOrder.toList = ordN.map Char.ofNat := by rw [ord_eq, String.toList_ofList]
theorem jo_laid : laidOutB Tryz.prog = true := by kernel_rfl
theorem jo_maps : mapsRowed Tryz.prog = true := by kernel_rfl
theorem jo_stops : (Tryz.prog.stops == []) = true := by kernel_rfl
theorem jo_knobs : (Tryz.prog.stopKnobs == []) = true := by kernel_rfl
theorem jo_keys : (true == Tryz.prog.plainKeys) = true := by kernel_rfl
theorem jo_heard : Tryz.prog.stopsHeard = true := by kernel_rfl
theorem ord_words : behindMainWord (wordsSigns (ordN.map Char.ofNat)) = "cut".toList :: (behindMainWord (wordsSigns (ordN.map Char.ofNat))).tail := by kernel_rfl
theorem strip_cut (W : List (List Char)) : stripLifts liftWords ("cut".toList :: W) = ([], "cut".toList :: W) := by kernel_rfl
theorem jo_later : Tryz.prog.laysLater = false := by kernel_rfl
theorem jo_reflect : Tryz.prog.bearsReflect = false := by kernel_rfl
theorem jo_door : Tryz.prog.doorFits [] = true := by kernel_rfl
theorem cut_gc : ("cut".toList == "gc".toList) = false := by kernel_rfl
theorem cut_spec : ("cut".toList == "spec".toList) = false := by kernel_rfl
theorem cut_carried : ("cut".toList == "carried".toList) = false := by kernel_rfl
theorem cut_cut : ("cut".toList == "cut".toList) = true := by kernel_rfl
theorem some_cut : (some "cut".toList == some "cut".toList) = true := by kernel_rfl
theorem jo_enter : Tryz.prog.mayEnter = true := by
 rw [Program.mayEnter, ord_list, ord_words]
 generalize (behindMainWord (wordsSigns (ordN.map Char.ofNat))).tail = W
 simp only [strip_cut, cut_gc, cut_spec, cut_carried, List.head?_cons, some_cut, jo_later, jo_reflect, jo_door, Bool.or_self, Bool.false_and, Bool.not_false, Bool.or_true, Bool.and_self, List.contains_nil]
theorem jo_lifts : Tryz.prog.headLifts = [] := by
 unfold Program.headLifts
 rw [ord_list, ord_words]
 generalize (behindMainWord (wordsSigns (ordN.map Char.ofNat))).tail = W
 simp only [strip_cut, List.head?_cons, some_cut, if_true]
theorem jo_final : (false == Tryz.prog.liftsFinal) = true := by
 unfold Program.liftsFinal
 rw [jo_lifts, ord_list, ord_words]
 generalize (behindMainWord (wordsSigns (ordN.map Char.ofNat))).tail = W
 kernel_rfl
theorem jo_make : (Tryz.prog.make == some .cut) = true := by
 rw [Program.make, ord_list, ord_words]
 generalize (behindMainWord (wordsSigns (ordN.map Char.ofNat))).tail = W
 simp only [cut_gc, cut_spec, cut_cut, Bool.or_self, Bool.true_or, if_true, Bool.false_eq_true, if_false]
 kernel_rfl
end Go.Proofs.YtccllgpaafgjaaaGreat

namespace Go.Proofs.YtccllgpaafgjaaaGreat
open Go.RowKit Go.Proofs.YtccllgpaafgjaaaGreatW.PrintWords Go.Joins Go.ChangeShapes Go.WideShapes Go.Deep
section
variable {H : Type} {enc : TypeId × Value → H} {w : World} {base : Nat} {spare : Nat → Bool} {held : Bool}
theorem cells_opL : Tryz.prog.cellsOf 54 = 5 := by kernel_rfl
theorem cells_opsL : Tryz.prog.cellsOf 51 = 1 := by kernel_rfl
theorem cells_boolL : Tryz.prog.cellsOf 4 = 1 := by kernel_rfl
set_option maxRecDepth 100000 in
theorem open_node {r : Reach} {b0 : Nat} {v : Value} {d : DataW H} {p : List MemPlace} (hv : Value.okWide Tryz.prog w r b0 53 v) (h : DataW.Trod enc Tryz.prog w base spare held 53 v d p) :
  ∃ (n : Node) (A : Option Addr) (c : Nat), v = .agg #[.bool n.up, .int .i64 n.term, .bool n.leads, .bool n.alone, .slice A n.ops.length c] ∧ kOp.C w A n.ops.length n.ops ∧ RawOs n.ops := by
 obtain ⟨cs, rfl, hsz⟩ := okWide_struct Tryz.underlying53 hv
 obtain ⟨c0, c1, c2, c3, c4, rfl⟩ := array5 (hsz.trans (show Tryz.prog.cellsOf 53 = 5 by kernel_rfl))
 obtain ⟨fuel, hf⟩ := h
 obtain ⟨y0, y1, y2, y3, y4, m, _, h0, h1, h2, h3, h4⟩ := trod_struct5 Tryz.underlying53 hf
 simp only [cells_boolL, cells_int, cells_opsL, List.drop_zero, List.drop_succ_cons, List.take_succ_cons, List.take_zero, Value.cells] at h0 h1 h2 h3 h4
 obtain ⟨u, e0, _⟩ := DataW.trod_bool Tryz.underlying4 h0
 obtain ⟨k, e1, _, hk⟩ := DataW.trod_int Tryz.underlying3 h1
 obtain ⟨l, e2, _⟩ := DataW.trod_bool Tryz.underlying4 h2
 obtain ⟨a, e3, _⟩ := DataW.trod_bool Tryz.underlying4 h3
 obtain ⟨A, c, xs, e4, hc, hC, hq, hm⟩ := open_row kOp (Q := RawO) Tryz.underlying51 cells_opL (fun n c y hl hy => by
  obtain ⟨o, rfl, hr⟩ := open_opE hl hy
  exact ⟨o, kOp_mk _ o, hr⟩) h4
 have := big_max
 simp only [List.cons.injEq, and_true] at e0 e1 e2 e3 e4
 subst e0 e1 e2 e3 e4
 exact ⟨⟨u, k, l, a, xs⟩, A, c, rfl, hC, ⟨by show xs.length ≤ _; omega, hq⟩⟩
end
end Go.Proofs.YtccllgpaafgjaaaGreat

/- Contracts of the program's and the reference's functions, and the plain laws behind them: part 7 of 12. -/
import Derived.Test.YtccllgpaafgjaaaGreatS1
import Derived.Test.YtccllgpaafgjaaaGreatS2
import Derived.Test.YtccllgpaafgjaaaGreatS3
import Derived.Test.YtccllgpaafgjaaaGreatS4
import Derived.Test.YtccllgpaafgjaaaGreatS5
import Derived.Test.YtccllgpaafgjaaaGreatS6
set_option linter.unusedVariables false
set_option linter.unusedSimpArgs false

namespace Go.Proofs.YtccllgpaafgjaaaGreat
open Go.RowKit Go.Proofs.YtccllgpaafgjaaaGreatW.PrintWords Go.Proofs.YtccllgpaafgjaaaGreatW.PrintLast
def Opened (w : World) (e : Ending) (w' : World) : Prop := ∃ rb, e = .returned (.pointer (some ⟨rb, 0, none⟩)) ∧ Rd w' rb 0 ∧ w.heap.size ≤ rb ∧ Bel w w'
structure CodeIn (w : World) (A : Option Addr) (n c : Nat) (bs : List Int) : Prop where
  len : bs.length = n
  cap : n ≤ c
  C : kByte.C w A n bs
  bd : ∀ x ∈ bs, 0 ≤ x ∧ x ≤ 255
  lt : ∀ ad, A = some ad → ad.block < w.heap.size
theorem CodeIn.bel {w w' : World} {A : Option Addr} {n c : Nat} {bs : List Int} (h : CodeIn w A n c bs) (hb : Bel w w') : CodeIn w' A n c bs := ⟨h.len, h.cap, Kd.C_below h.C hb, h.bd, fun ad e => Nat.lt_of_lt_of_le (h.lt ad e) hb.size⟩
def OfV (xs : List ByteArray) (v : Value) : Prop := ∃ s, v = .string s ∧ s ∈ xs
def TextV (v : Value) : Prop := ∃ s : ByteArray, v = .string s ∧ s.size ≤ 7
def sOf (l : List UInt8) : ByteArray := ⟨l.toArray⟩
def abc : List ByteArray := [sOf [97], sOf [98], sOf [99], sOf [100], sOf [97]]
def eee : List ByteArray := [sOf [101], sOf [97, 97, 97, 97], sOf [32], sOf [65]]
end Go.Proofs.YtccllgpaafgjaaaGreat

namespace Go.Proofs.YtccllgpaafgjaaaGreat
open Go.RowKit Go.Proofs.YtccllgpaafgjaaaGreatW.PrintWords Go.Proofs.YtccllgpaafgjaaaGreatW.PrintLast
theorem newP_ok : PoolP newP := poolOk_iff.1 (by kernel_rfl)
theorem isTerm_c (t : Int) (w : World) : Calls Tryz.prog 98 #[.int .i64 t] w (Same (.bool (inR t 0 99)) w) := by
 go_enter Tryz.func98, Tryz.ntmps98
 go_wp2_with (go_at_call 110; refine (within_c t 0 99 _).mono ?_; rintro e w' ⟨rfl, rfl⟩)
 go_ret
 exact ⟨rfl, rfl⟩
set_option maxHeartbeats 2000000 in
theorem areOps_c {w : World} {A : Option Addr} {c : Nat} {os : List Op} (hC : kOp.C w A os.length os) (ho : SmallOs os) :
    Calls Tryz.prog 99 #[.slice A os.length c] w (Ret (.bool (runB newP os && decide (os.length ≤ 20))) w) := by
  have HC := Lib.hid hC
  have HO := Lib.hid ho
  have hl := ho.len
  obtain ⟨b, hb⟩ : ∃ b, runB newP os = b := ⟨_, rfl⟩
  obtain ⟨d, hd⟩ : ∃ d, decide (os.length ≤ 20) = d := ⟨_, rfl⟩
  have hdi : decide ((os.length : Int) ≤ 20) = d := by rw [← hd]; congr 1; exact propext ⟨fun h => by omega, fun h => by omega⟩
  rw [hb, hd]
  have HRB := Lib.hid hb
  clear hC ho hd hb
  go_enter Tryz.func99, Tryz.ntmps99
  go_wp2_with fail
  refine (implPoolNew_c _).mono ?_
  rintro e w1 ⟨v0, v1, bvs, rfl, hp, hb1⟩
  obtain ⟨A0, A1, c0, c1, rfl, rfl, hpi⟩ := hp.reads
  clear hpi
  go_wp2_with fail
  refine (doAll_c hp.inn newP_ok.small (Kd.C_below HC.out hb1) HO.out).mono ?_
  rw [HRB.out]
  generalize runV newP os = q
  rintro e w2 ⟨u0, u1, bu, rfl, hu, hb2⟩
  obtain ⟨E0, E1, k0, k1, rfl, rfl, hpi⟩ := hu.reads
  have HB := Lib.hid (hb1.tr hb2)
  clear hpi hu hp hb1 hb2
  cases b <;>
    (go_wp2
     go_ret
     exact ⟨rfl, bel_alloc HB.out _⟩)
def NV (n : Node) (A : Option Addr) (c : Nat) : Value := .agg #[.bool n.up, .int .i64 n.term, .bool n.leads, .bool n.alone, .slice A n.ops.length c]
set_option maxHeartbeats 4000000 in
theorem implNodeOk_c {w : World} {A : Option Addr} {c : Nat} {n : Node} (hC : kOp.C w A n.ops.length n.ops) (ho : SmallOs n.ops) :
    Calls Tryz.prog 28 #[.agg #[.bool n.up, .int .i64 n.term, .bool n.leads, .bool n.alone, .slice A n.ops.length c]] w (Ret (.bool (nodeOk n)) w) := by
  obtain ⟨up, term, leads, alone, os⟩ := n
  unfold nodeOk
  simp only at hC ho ⊢
  have HC := Lib.hid hC
  have HO := Lib.hid ho
  clear hC ho
  obtain ⟨t, ht⟩ : ∃ t, inR term 0 99 = t := ⟨_, rfl⟩
  obtain ⟨b, hb⟩ : ∃ b, (runB newP os && decide (os.length ≤ 20)) = b := ⟨_, rfl⟩
  rw [ht, hb]
  have HT := Lib.hid ht
  have HB := Lib.hid hb
  clear ht hb
  have hA : ∀ W : World, Bel w W → Calls Tryz.prog 99 #[.slice A os.length c] W (Ret (.bool b) W) := fun W h => HB.out ▸ areOps_c (Kd.C_below HC.out h) HO.out
  have hI : ∀ W : World, Calls Tryz.prog 98 #[.int .i64 term] W (Same (.bool t) W) := fun W => HT.out ▸ isTerm_c term W
  have HA := Lib.hid hA
  have HI := Lib.hid hI
  clear hA hI
  go_enter Tryz.func28, Tryz.ntmps28
  cases t <;> cases leads <;> cases alone <;> cases b <;>
    (go_wp2_with (first | (go_at_call 98; refine (HI.out _).mono ?_; rintro e w' ⟨rfl, rfl⟩) | (go_at_call 99; refine (HA.out _ (bel_alloc (Below.refl _ _) _)).mono ?_; rintro e w3 ⟨rfl, hb3⟩))
     go_ret
     first | exact ⟨rfl, bel_alloc (Below.refl _ _) _⟩ | exact ⟨rfl, (bel_alloc (Below.refl _ _) _ : Bel w _).tr hb3⟩)
end Go.Proofs.YtccllgpaafgjaaaGreat

namespace Go.Proofs.YtccllgpaafgjaaaGreat
open Go.RowKit Go.Proofs.YtccllgpaafgjaaaGreatW.PrintWords
set_option maxHeartbeats 2000000 in
theorem szNode_c {w : World} {A : Option Addr} {c : Nat} {n : Node} {left : Int} (hC : kOp.C w A n.ops.length n.ops) (hr : RawOs n.ops) (h0 : 0 ≤ left) (h1 : left ≤ 1048576) :
  Calls Tryz.prog 38 #[.agg #[.bool n.up, .int .i64 n.term, .bool n.leads, .bool n.alone, .slice A n.ops.length c], .int .i64 left] w (Left (SmallOs n.ops) left w) := by
 have H := Lib.hid hC
 have HR := Lib.hid hr
 clear hC hr
 go_enter Tryz.func38, Tryz.ntmps38
 go_wp2_with fail
 refine (szOpS_c (Kd.C_alloc H.out _) HR.out h0 h1).mono ?_
 rintro e w1 ⟨r, rfl, hb1, hr, hr1⟩
 have hb : Bel w w1 := (bel_alloc (Below.refl _ _) _ : Bel w _).tr hb1
 have HRR := Lib.hid hr
 clear hr hb1
 by_cases hrn : r < 0
 ·go_wp2
  go_ret
  exact ⟨-1, rfl, hb, by omega, by omega⟩
 ·go_wp2
  go_ret
  exact ⟨r, rfl, hb, HRR.out, hr1⟩
def MadeNd (w : World) (n : Node) (e : Ending) (w' : World) : Prop := ∃ v, e = .returned (.agg #[.bool n.up, .int .i64 n.term, .bool n.leads, .bool n.alone, v]) ∧ OwnO w' w.heap.size v n.ops ∧ Bel w w'
theorem OwnO.far {w : World} {base : Nat} {v : Value} {s : List Op} (h : OwnO w base v s) {b : Nat} {cs : Array Value} {t : TypeId} (hB : Blk w b cs t) (ht : 27 ≠ t) (i : Nat) (u : Value) : OwnO (w.setCell ⟨b, i, none⟩ u) base v s :=
 own_setCell (p := ⟨b, i, none⟩) h (own_ne h hB ht) u
set_option maxHeartbeats 4000000 in
theorem toNode_c {w : World} {A : Option Addr} {c : Nat} {n : Node} (hC : kOp.C w A n.ops.length n.ops) (hl : n.ops.length ≤ 1048576) :
  Calls Tryz.prog 41 #[.agg #[.bool n.up, .int .i64 n.term, .bool n.leads, .bool n.alone, .slice A n.ops.length c]] w (MadeNd w n) := by
 have H := Lib.hid hC
 clear hC
 go_enter Tryz.func41, Tryz.ntmps41
 go_wp2_with fail
 have hR : Blk (((w.alloc (.cells #[.bool n.up, .int .i64 n.term, .bool n.leads, .bool n.alone, .slice A n.ops.length c] 53)).alloc (.cells #[.bool false, .int .i64 0, .bool false, .bool false, .slice none 0 0] 25)).alloc (.cells #[.bool n.up, .int .i64 n.term, .bool n.leads, .bool n.alone, .slice none 0 0] 25)) (w.heap.size + 1) #[.bool false, .int .i64 0, .bool false, .bool false, .slice none 0 0] 25 := (Blk.nw2 _ _ _ _).alloc _
 have hL : Blk (((w.alloc (.cells #[.bool n.up, .int .i64 n.term, .bool n.leads, .bool n.alone, .slice A n.ops.length c] 53)).alloc (.cells #[.bool false, .int .i64 0, .bool false, .bool false, .slice none 0 0] 25)).alloc (.cells #[.bool n.up, .int .i64 n.term, .bool n.leads, .bool n.alone, .slice none 0 0] 25)) (w.heap.size + 1 + 1) #[.bool n.up, .int .i64 n.term, .bool n.leads, .bool n.alone, .slice none 0 0] 25 := Blk.nw3 _ _ _ _ _
 have hW : Bel w (((w.alloc (.cells #[.bool n.up, .int .i64 n.term, .bool n.leads, .bool n.alone, .slice A n.ops.length c] 53)).alloc (.cells #[.bool false, .int .i64 0, .bool false, .bool false, .slice none 0 0] 25)).alloc (.cells #[.bool n.up, .int .i64 n.term, .bool n.leads, .bool n.alone, .slice none 0 0] 25)) := bel_alloc (bel_alloc (bel_alloc (Below.refl _ _) _) _) _
 generalize (((w.alloc (.cells #[.bool n.up, .int .i64 n.term, .bool n.leads, .bool n.alone, .slice A n.ops.length c] 53)).alloc (.cells #[.bool false, .int .i64 0, .bool false, .bool false, .slice none 0 0] 25)).alloc (.cells #[.bool n.up, .int .i64 n.term, .bool n.leads, .bool n.alone, .slice none 0 0] 25)) = W at hR hL hW ⊢
 refine (toOpS_c (Kd.C_below H.out hW) hl).mono ?_
 rintro e w1 ⟨b, rfl, ho, hb1⟩
 obtain ⟨B, d, rfl, hd, hCd⟩ := ho.reads
 clear hCd
 have HR := Lib.hid (hR.bel hb1)
 have HL := Lib.hid (hL.bel hb1)
 have HW := Lib.hid (hW.tr hb1)
 have HO := Lib.hid (show OwnO w1 w.heap.size (.slice B n.ops.length d) n.ops from own_lower ho hW.size)
 clear hR hL hW ho hb1
 have l0 := HL.out.cell 0
 have r0 := HR.out.cell 0
 have f0 := HR.out.free 0
 have l1 := HL.out.cell 1
 have r1 := HR.out.cell 1
 have f1 := HR.out.free 1
 have l2 := HL.out.cell 2
 have r2 := HR.out.cell 2
 have f2 := HR.out.free 2
 have l3 := HL.out.cell 3
 have r3 := HR.out.cell 3
 have f3 := HR.out.free 3
 have l4 := HL.out.cell 4
 have r4 := HR.out.cell 4
 have f4 := HR.out.free 4
 have g4 := HL.out.free 4
 have y1 := HL.out.lt
 have y2 := HR.out.lt
 simp at l0 r0 l1 r1 l2 r2 l3 r3 l4 r4
 go_wp2
 have hL1 := HL.out.set 4 (.slice B n.ops.length d) (cs' := #[.bool n.up, .int .i64 n.term, .bool n.leads, .bool n.alone, .slice B n.ops.length d]) rfl
 have hR0 := HR.out.apart (show w.heap.size + 1 + 1 ≠ w.heap.size + 1 by omega) 4 (.slice B n.ops.length d)
 have ho0 := HO.out.far HL.out (by decide) 4 (.slice B n.ops.length d)
 have hb0 := bel_set HW.out (show w.heap.size ≤ w.heap.size + 1 + 1 by omega) 4 (.slice B n.ops.length d)
 have hR1 := hR0.set 0 (.bool n.up) (cs' := #[.bool n.up, .int .i64 0, .bool false, .bool false, .slice none 0 0]) rfl
 have ho1 := ho0.far hR0 (by decide) 0 (.bool n.up)
 have hb1 := bel_set hb0 (show w.heap.size ≤ w.heap.size + 1 by omega) 0 (.bool n.up)
 have hR2 := hR1.set 1 (.int .i64 n.term) (cs' := #[.bool n.up, .int .i64 n.term, .bool false, .bool false, .slice none 0 0]) rfl
 have ho2 := ho1.far hR1 (by decide) 1 (.int .i64 n.term)
 have hb2 := bel_set hb1 (show w.heap.size ≤ w.heap.size + 1 by omega) 1 (.int .i64 n.term)
 have hR3 := hR2.set 2 (.bool n.leads) (cs' := #[.bool n.up, .int .i64 n.term, .bool n.leads, .bool false, .slice none 0 0]) rfl
 have ho3 := ho2.far hR2 (by decide) 2 (.bool n.leads)
 have hb3 := bel_set hb2 (show w.heap.size ≤ w.heap.size + 1 by omega) 2 (.bool n.leads)
 have hR4 := hR3.set 3 (.bool n.alone) (cs' := #[.bool n.up, .int .i64 n.term, .bool n.leads, .bool n.alone, .slice none 0 0]) rfl
 have ho4 := ho3.far hR3 (by decide) 3 (.bool n.alone)
 have hb4 := bel_set hb3 (show w.heap.size ≤ w.heap.size + 1 by omega) 3 (.bool n.alone)
 have hR5 := hR4.set 4 (.slice B n.ops.length d) (cs' := #[.bool n.up, .int .i64 n.term, .bool n.leads, .bool n.alone, .slice B n.ops.length d]) rfl
 have ho5 := ho4.far hR4 (by decide) 4 (.slice B n.ops.length d)
 have hb5 := bel_set hb4 (show w.heap.size ≤ w.heap.size + 1 by omega) 4 (.slice B n.ops.length d)
 refine bodyPost_ret (results_cell_row rfl _ _ (w.heap.size + 1) 25 #[.bool n.up, .int .i64 n.term, .bool n.leads, .bool n.alone, .slice B n.ops.length d] (0, 0) _ rfl hR5 Tryz.underlying25 rfl (by kernel_rfl)) rfl ?_
 exact ⟨_, rfl, ho5, hb5⟩
end Go.Proofs.YtccllgpaafgjaaaGreat

namespace Go.Proofs.YtccllgpaafgjaaaGreat
open Go.RowKit Go.Proofs.YtccllgpaafgjaaaGreatW.PrintWords Go.Proofs.YtccllgpaafgjaaaGreatW.PrintLast
def MadeL (w : World) (l : Log) (e : Ending) (w' : World) : Prop := ∃ (A B C : Option Addr) (a b c : Nat) (bvs : List Value), e = .returned (.agg #[.slice A l.base.slots.length a, .slice B l.base.vols.length b, .slice C l.ops.length c, .int .i64 l.safe]) ∧ OwnP w' w.heap.size (.slice A l.base.slots.length a) (.slice B l.base.vols.length b) l.base bvs ∧ OwnO w' w.heap.size (.slice C l.ops.length c) l.ops ∧ Bel w w'
theorem OwnO.innC {w : World} {base n c : Nat} {C : Option Addr} {s : List Op} (h : OwnO w base (.slice C n c) s) (hn : n = s.length) : s.length ≤ c ∧ kOp.C w C s.length s := by
 subst hn
 obtain ⟨A, k, e, hk, hC⟩ := h.reads
 have e := slice_eq e
 obtain ⟨rfl, -, rfl⟩ := e
 exact ⟨hk, hC⟩
theorem MadeL.new {w : World} {l : Log} {e : Ending} {w' : World} (h : MadeL w l e w') : NewL w l e w' := by
 obtain ⟨A, B, C, a, b, c, bvs, rfl, hp, ho, hb⟩ := h
 have h1 := ho.innC rfl
 exact ⟨A, B, C, a, b, c, rfl, ⟨hp.inn, h1.2, h1.1⟩, hb⟩
abbrev wset4 (W : World) (b : Nat) (u0 u1 u2 u3 : Value) : World := (((W.setCell ⟨b, 0, none⟩ u0).setCell ⟨b, 1, none⟩ u1).setCell ⟨b, 2, none⟩ u2).setCell ⟨b, 3, none⟩ u3
theorem OwnP.far4 {W : World} {base b : Nat} {v0 v1 : Value} {p : Pool} {bvs : List Value} (h : OwnP W base v0 v1 p bvs) {x0 x1 x2 x3 : Value} (hB : Blk W b #[x0, x1, x2, x3] 44) (u0 u1 u2 u3 : Value) : OwnP (wset4 W b u0 u1 u2 u3) base v0 v1 p bvs := by
 have h1 := hB.set 0 u0 (cs' := #[u0, x1, x2, x3]) rfl
 have h2 := h1.set 1 u1 (cs' := #[u0, u1, x2, x3]) rfl
 have h3 := h2.set 2 u2 (cs' := #[u0, u1, u2, x3]) rfl
 exact (((h.far hB (by decide) (by decide) (by decide) 0 u0).far h1 (by decide) (by decide) (by decide) 1 u1).far h2 (by decide) (by decide) (by decide) 2 u2).far h3 (by decide) (by decide) (by decide) 3 u3
theorem OwnO.far4 {W : World} {base b : Nat} {v : Value} {s : List Op} (h : OwnO W base v s) {x0 x1 x2 x3 : Value} (hB : Blk W b #[x0, x1, x2, x3] 44) (u0 u1 u2 u3 : Value) : OwnO (wset4 W b u0 u1 u2 u3) base v s := by
 have h1 := hB.set 0 u0 (cs' := #[u0, x1, x2, x3]) rfl
 have h2 := h1.set 1 u1 (cs' := #[u0, u1, x2, x3]) rfl
 have h3 := h2.set 2 u2 (cs' := #[u0, u1, u2, x3]) rfl
 exact (((h.far hB (by decide) 0 u0).far h1 (by decide) 1 u1).far h2 (by decide) 2 u2).far h3 (by decide) 3 u3
section
variable {w : World} {A B C : Option Addr} {a b c : Nat} {l : Log}
end
end Go.Proofs.YtccllgpaafgjaaaGreat

namespace Go.Proofs.YtccllgpaafgjaaaGreat
open Go.RowKit Go.Proofs.YtccllgpaafgjaaaGreatW.PrintWords Go.Proofs.YtccllgpaafgjaaaGreatW.PrintLast
def RunsP (base : Nat) (p : Pool) (os : List Op) (w : World) (e : Ending) (w' : World) : Prop := ∃ (A0 A1 : Option Addr) (n0 n1 c0 c1 : Nat), e = .returned (.tuple #[.agg #[.slice A0 n0 c0, .slice A1 n1 c1], .bool (runP p os).isSome]) ∧ (∀ q, runP p os = some q → ∃ bq, OwnP w' base (.slice A0 n0 c0) (.slice A1 n1 c1) q bq) ∧ Fr base w w'
structure RunSt (base : Nat) (w W : World) (p : Pool) (v0 v1 : Value) (bvs : List Value) : Prop where
  pool : Blk W w.heap.size #[v0, v1] 42
  res : Blk W (w.heap.size + 1) #[.slice none 0 0, .slice none 0 0] 42
  own : OwnP W base v0 v1 p bvs
  fr : Fr base w W
theorem Fr.refl (base : Nat) (w : World) : Fr base w w := ⟨Below.refl _ _, fun _ _ _ _ _ _ h => h⟩
theorem Fr.pool {base : Nat} {w W : World} (h : Fr base w W) {b : Nat} {cs : Array Value} (hB : Blk w b cs 42) : Blk W b cs 42 := h.k b cs _ (by decide) (by decide) (by decide) hB
theorem RunSt.of {base : Nat} {w W : World} {q : Pool} {x0 x1 u0 u1 : Value} {bq : List Value} (hB : Blk W w.heap.size #[x0, x1] 42) (hR : Blk W (w.heap.size + 1) #[.slice none 0 0, .slice none 0 0] 42) (ho : OwnP W base u0 u1 q bq) (hf : Fr base w W) (hbase : base ≤ w.heap.size) :
  RunSt base w ((W.setCell ⟨w.heap.size, 0, none⟩ u0).setCell ⟨w.heap.size, 1, none⟩ u1) q u0 u1 bq := by
 have h1 := hB.set 0 u0 (cs' := #[u0, x1]) rfl
 exact ⟨h1.set 1 u1 rfl, (hR.apart (by omega) 0 u0).apart (by omega) 1 u1, (ho.far hB (by decide) (by decide) (by decide) 0 u0).far h1 (by decide) (by decide) (by decide) 1 u1, (hf.set (Nat.le_refl _) hbase 0 u0).set (Nat.le_refl _) hbase 1 u1⟩
set_option maxHeartbeats 16000000 in
set_option maxRecDepth 10000 in
theorem l13Run_c {w0 w : World} {base : Nat} {v0 v1 : Value} {bvs : List Value} {p : Pool} {os : List Op} {A2 : Option Addr} {c2 : Nat} (h : OwnP w base v0 v1 p bvs) (hp : PoolP p) (hbase : base ≤ w.heap.size) (hC : kOp.C w0 A2 os.length os) (h0 : w0.heap.size ≤ base) (hb0 : Below base w0 w) (ho : SmallOs os) :
  Calls Tryz.prog 104 #[.agg #[v0, v1], .slice A2 os.length c2] w (RunsP base p os w) := by
 obtain ⟨A0, A1, c0, c1, rfl, rfl, hpi⟩ := h.reads
 clear hpi
 have HV := Lib.hid hp
 have HO := Lib.hid ho
 have hl := ho.len
 have HC := Lib.hid (fun (W : World) (hW : Fr base w W) => Kd.C_below hC ((hb0.trans hW.b).mono h0))
 have HB := Lib.hid hbase
 have HW := Lib.hid h
 clear hp ho hC h0 hb0 hbase h
 go_enter Tryz.func104, Tryz.ntmps104
 go_wp2
 have hst : RunSt base w ((w.alloc (.cells #[.slice A0 p.slots.length c0, .slice A1 p.vols.length c1] 42)).alloc (.cells #[.slice none 0 0, .slice none 0 0] 42)) p (.slice A0 p.slots.length c0) (.slice A1 p.vols.length c1) bvs := by
  have hb : Bel w ((w.alloc (.cells #[.slice A0 p.slots.length c0, .slice A1 p.vols.length c1] 42)).alloc (.cells #[.slice none 0 0, .slice none 0 0] 42)) := bel_alloc (bel_alloc (Below.refl _ _) _) _
  exact ⟨(Blk.new _ _ _).alloc _, Blk.nw2 _ _ _ _, HW.out.bel hb, Fr.ofBel hb HB.out⟩
 have HST := Lib.hid hst
 clear hst HW
 generalize ((w.alloc (.cells #[.slice A0 p.slots.length c0, .slice A1 p.vols.length c1] 42)).alloc (.cells #[.slice none 0 0, .slice none 0 0] 42)) = W0 at HST ⊢
 go_loopg [6] os.length (fun g v6 W => ∃ (j : Nat) (q : Pool) (B0 B1 : Option Addr) (d0 d1 : Nat) (bvs : List Value), g + j = os.length ∧ v6 = .int .i64 j ∧ Hid (runP p (os.take j) = some q) ∧ Hid (RunSt base w W q (.slice B0 q.slots.length d0) (.slice B1 q.vols.length d1) bvs))
 case atStart => exact ⟨0, p, A0, A1, c0, c1, bvs, rfl, rfl, rfl, HST.out⟩
 case round =>
  clear HST bvs
  obtain ⟨j, p1, B0, B1, d0, d1, bvs, hj, rfl, HR, HD⟩ := hrel
  have HQ := Lib.hid (runP_ok _ HV.out HR.out)
  by_cases hlt : j < os.length
  ·obtain ⟨o, hx⟩ := getQ hlt
   have HX := Lib.hid hx
   have hnm := Lib.hid (HO.out.op o (List.mem_of_getElem? hx))
   clear hx
   obtain ⟨ad, rfl, _⟩ := at_op (HC.out _ HD.out.fr) HX.out
   have hfx := Lib.hid (fun (W : World) (hW : Fr base wr W) => (show (W.cell? ⟨w.heap.size, 0, none⟩ = some (.slice B0 p1.slots.length d0) ∧ W.cell? ⟨w.heap.size, 1, none⟩ = some (.slice B1 p1.vols.length d1) ∧ W.cell? (ad.add (j * 5)) = some (.int .i64 o.kind) ∧ W.cell? ⟨(ad.add (j * 5)).block, (ad.add (j * 5)).off + 1, none⟩ = some (.string o.name) ∧ W.cell? ⟨(ad.add (j * 5)).block, (ad.add (j * 5)).off + 2, none⟩ = some (.string o.dest) ∧ W.cell? ⟨(ad.add (j * 5)).block, (ad.add (j * 5)).off + 3, none⟩ = some (.int .i64 o.n) ∧ W.cell? ⟨(ad.add (j * 5)).block, (ad.add (j * 5)).off + 4, none⟩ = some (.string o.text)) from by
    obtain ⟨ad', e, a⟩ := at_op (HC.out W (HD.out.fr.tr hW HB.out)) HX.out
    cases e
    exact ⟨by rw [(hW.pool HD.out.pool).cell]; rfl, by rw [(hW.pool HD.out.pool).cell]; rfl, a⟩))
   have D0 := Lib.hid (show Fr base wr wr.drew from (Fr.refl base wr).drew)
   have hbr : base ≤ wr.heap.size := Nat.le_trans HB.out (by have := HD.out.pool.lt; omega)
   have HBR := Lib.hid hbr
   have P0 := Lib.hid (show OwnP wr.drew base (.slice B0 p1.slots.length d0) (.slice B1 p1.vols.length d1) p1 bvs from HD.out.own.bel (Below.refl _ _).drew)
   obtain ⟨q, hq⟩ : ∃ q, (opF p1 o).getD p1 = q := ⟨_, rfl⟩
   obtain ⟨ok, hokk⟩ : ∃ ok, (opF p1 o).isSome = ok := ⟨_, rfl⟩
   have hdo := Lib.hid (fun (W : World) (h : OwnP W base (.slice B0 p1.slots.length d0) (.slice B1 p1.vols.length d1) p1 bvs) (hb : base ≤ W.heap.size) => l12Do_c (o := o) h HQ.out hb hnm.out)
   unfold TurnsP at hdo
   rw [hq, hokk] at hdo
   have HE := Lib.hid (And.intro hq hokk)
   clear hq hokk hbr
   obtain ⟨s0, s1, s2, s3, s4, s5, s6⟩ := hfx.out _ D0.out
   go_wp2
   refine start_ (n := 12) (S := fun w' => w'.cell? ⟨w.heap.size, 0, none⟩ = some (.slice B0 p1.slots.length d0) ∧ w'.cell? ⟨w.heap.size, 1, none⟩ = some (.slice B1 p1.vols.length d1) ∧ w'.cell? (ad.add (j * 5)) = some (.int .i64 o.kind) ∧ w'.cell? ⟨(ad.add (j * 5)).block, (ad.add (j * 5)).off + 1, none⟩ = some (.string o.name) ∧ w'.cell? ⟨(ad.add (j * 5)).block, (ad.add (j * 5)).off + 2, none⟩ = some (.string o.dest) ∧ w'.cell? ⟨(ad.add (j * 5)).block, (ad.add (j * 5)).off + 3, none⟩ = some (.int .i64 o.n) ∧ w'.cell? ⟨(ad.add (j * 5)).block, (ad.add (j * 5)).off + 4, none⟩ = some (.string o.text)) (ds := [10]) #[bF, bF, bF, bF, bF, bF, bF, bF, bF, bF, bF, bF] (by kernel_rfl) rfl rfl ⟨s0, s1, s2, s3, s4, s5, s6⟩ (fun hHeld => ?_)
   refine ppx (i := 1) (N := some 17) #[bF, bT, bF, bF, bF, bF, bF, bF, bF, bF, bF, bF] (h := ?_)
   refine ppx (i := 2) (N := some 18) #[bF, bT, bT, bF, bF, bF, bF, bF, bF, bF, bF, bF] (h := ?_)
   refine ppx (i := 3) (N := some 19) #[bF, bT, bT, bT, bF, bF, bF, bF, bF, bF, bF, bF] (h := ?_)
   refine tpx (i := 0) (N := some 16) #[bT, bT, bT, bT, bF, bF, bF, bF, bF, bF, bF, bF] (hy := (Or.inl ⟨by rfl, by rintro w' ⟨s0, s1, s2, s3, s4, s5, s6⟩; go_simp; with_reducible rfl⟩)) (hS := hHeld) (h := ?_)
   refine tpx (i := 4) (N := some 20) #[bT, bT, bT, bT, bT, bF, bF, bF, bF, bF, bF, bF] (hy := (Or.inl ⟨by rfl, by rintro w' ⟨s0, s1, s2, s3, s4, s5, s6⟩; go_simp; with_reducible rfl⟩)) (hS := hHeld) (h := ?_)
   refine join_ (σ := Option Addr × Nat × Option Addr × Nat × List Value × Nat) 2 #[bT, bT, bT, bT, bT, bT, bT, bT, bT, bT, bF, bF] (fun s => [(21, .tuple #[.agg #[.slice s.1 q.slots.length s.2.1, .slice s.2.2.1 q.vols.length s.2.2.2.1], .bool ok]), (15, .tuple #[.agg #[.slice s.1 q.slots.length s.2.1, .slice s.2.2.1 q.vols.length s.2.2.2.1], .bool ok]), (22, .agg #[.slice s.1 q.slots.length s.2.1, .slice s.2.2.1 q.vols.length s.2.2.2.1]), (23, .bool ok), (7, .pointer (some ⟨s.2.2.2.2.2, 0, none⟩))]) (fun s w' => (w'.cell? ⟨w.heap.size, 0, none⟩ = some (.slice B0 p1.slots.length d0) ∧ w'.cell? ⟨w.heap.size, 1, none⟩ = some (.slice B1 p1.vols.length d1) ∧ w'.cell? (ad.add (j * 5)) = some (.int .i64 o.kind) ∧ w'.cell? ⟨(ad.add (j * 5)).block, (ad.add (j * 5)).off + 1, none⟩ = some (.string o.name) ∧ w'.cell? ⟨(ad.add (j * 5)).block, (ad.add (j * 5)).off + 2, none⟩ = some (.string o.dest) ∧ w'.cell? ⟨(ad.add (j * 5)).block, (ad.add (j * 5)).off + 3, none⟩ = some (.int .i64 o.n) ∧ w'.cell? ⟨(ad.add (j * 5)).block, (ad.add (j * 5)).off + 4, none⟩ = some (.string o.text)) ∧ OwnP w' base (.slice s.1 q.slots.length s.2.1) (.slice s.2.2.1 q.vols.length s.2.2.2.1) q s.2.2.2.2.1 ∧ Blk w' s.2.2.2.2.2 #[.slice none 0 0, .slice none 0 0] 42 ∧ w.heap.size + 1 < s.2.2.2.2.2 ∧ Fr base wr w') ?_ ?_
   rotate_left
   ·intro hCont
    refine two_ (i := 5) (j := 9) (Ni := some 21) (Nj := some 7) #[bT, bT, bT, bT, bT, bT, bF, bF, bF, bF, bF, bF] #[bT, bT, bT, bT, bT, bF, bF, bF, bF, bT, bF, bF] rfl rfl rfl rfl (by kernel_rfl) (by decide) (by decide) (fun K hK => ?_) (fun K hK => ?_)
    ·skip
     refine goes_ Tryz.func125 (by kernel_rfl) rfl #[.agg #[.slice B0 p1.slots.length d0, .slice B1 p1.vols.length d1], .agg #[.int .i64 o.kind, .string o.name, .string o.dest, .int .i64 o.n, .string o.text]] (by rfl) rfl rfl (by simp only [List.map_toArray, List.map_cons, List.map_nil]; rfl) ?_
     with_reducible refine (hdo.out _ P0.out (Nat.le_trans HBR.out D0.out.b.size)).mono ?_
     rintro e w1_ ⟨vc, vd, bvc, rfl, ho, X1⟩
     have D1 : Hid (Fr base wr w1_) := Lib.hid (D0.out.tr X1 HBR.out)
     have Q1 := Lib.hid ho
     obtain ⟨A2, A3, k2, k3, rfl, rfl, hpi⟩ := ho.reads
     clear ho hpi
     refine ⟨_, rfl, ?_⟩
     refine hK.out _ _ ⟨(hfx.out _ D1.out).1, (hfx.out _ D1.out).2.1, (hfx.out _ D1.out).2.2.1, (hfx.out _ D1.out).2.2.2.1, (hfx.out _ D1.out).2.2.2.2.1, (hfx.out _ D1.out).2.2.2.2.2.1, (hfx.out _ D1.out).2.2.2.2.2.2⟩ (fun hHeld => ?_)
     clear hK K
     refine nox 21 (h := ?_)
     refine ppx (i := 6) (N := some 15) #[bT, bT, bT, bT, bT, bT, bT, bF, bF, bF, bF, bF] (h := ?_)
     refine ppx (i := 7) (N := some 22) #[bT, bT, bT, bT, bT, bT, bT, bT, bF, bF, bF, bF] (h := ?_)
     refine ppx (i := 8) (N := some 23) #[bT, bT, bT, bT, bT, bT, bT, bT, bT, bF, bF, bF] (h := ?_)
     refine one_ (i := 9) (N := some 7) #[bT, bT, bT, bT, bT, bT, bT, bT, bT, bT, bF, bF] rfl rfl (by kernel_rfl) (by decide) (fun K hK => ?_)
     refine value_ (by rfl) rfl (by go_simp; constructor <;> rfl) ?_
     have D2 : Hid (Fr base wr (w1_.alloc (.cells #[.slice none 0 0, .slice none 0 0] 42))) := Lib.hid (Fr.bel D1.out (bel_alloc (Below.refl _ _) (.cells #[.slice none 0 0, .slice none 0 0] 42)) HBR.out)
     have Q2 := Lib.hid (OwnP.bel Q1.out (bel_alloc (Below.refl _ _) (.cells #[.slice none 0 0, .slice none 0 0] 42)))
     have O2 : Hid (Blk (w1_.alloc (.cells #[.slice none 0 0, .slice none 0 0] 42)) w1_.heap.size #[.slice none 0 0, .slice none 0 0] 42) := Lib.hid (Blk.new w1_ #[.slice none 0 0, .slice none 0 0] 42)
     have L2 : w.heap.size + 1 < w1_.heap.size := (D1.out.pool HD.out.res).lt
     refine hK.out _ _ ⟨(hfx.out _ D2.out).1, (hfx.out _ D2.out).2.1, (hfx.out _ D2.out).2.2.1, (hfx.out _ D2.out).2.2.2.1, (hfx.out _ D2.out).2.2.2.2.1, (hfx.out _ D2.out).2.2.2.2.2.1, (hfx.out _ D2.out).2.2.2.2.2.2⟩ (fun hHeld => ?_)
     clear hK K
     refine nox 7 (h := ?_)
     exact nof (hCont (A2, k2, A3, k3, bvc, w1_.heap.size) _ ⟨hHeld, Q2.out, O2.out, L2, D2.out⟩)
    ·skip
     refine value_ (by rfl) rfl (by go_simp; constructor <;> rfl) ?_
     have D1 : Hid (Fr base wr (wr.alloc (.cells #[.slice none 0 0, .slice none 0 0] 42)).drew) := Lib.hid (Fr.bel D0.out (bel_alloc (Below.refl _ _) (.cells #[.slice none 0 0, .slice none 0 0] 42)) HBR.out)
     have P1 : Hid (OwnP (wr.alloc (.cells #[.slice none 0 0, .slice none 0 0] 42)).drew base (.slice B0 p1.slots.length d0) (.slice B1 p1.vols.length d1) p1 bvs) := Lib.hid (OwnP.bel P0.out (bel_alloc (Below.refl _ _) (.cells #[.slice none 0 0, .slice none 0 0] 42)))
     have O1 : Hid (Blk (wr.alloc (.cells #[.slice none 0 0, .slice none 0 0] 42)).drew wr.drew.heap.size #[.slice none 0 0, .slice none 0 0] 42) := Lib.hid (Blk.new wr.drew #[.slice none 0 0, .slice none 0 0] 42)
     have L1 : w.heap.size + 1 < wr.drew.heap.size := HD.out.res.lt
     refine hK.out _ _ ⟨(hfx.out _ D1.out).1, (hfx.out _ D1.out).2.1, (hfx.out _ D1.out).2.2.1, (hfx.out _ D1.out).2.2.2.1, (hfx.out _ D1.out).2.2.2.2.1, (hfx.out _ D1.out).2.2.2.2.2.1, (hfx.out _ D1.out).2.2.2.2.2.2⟩ (fun hHeld => ?_)
     clear hK K
     refine nox 7 (h := ?_)
     refine one_ (i := 5) (N := some 21) #[bT, bT, bT, bT, bT, bT, bF, bF, bF, bT, bF, bF] rfl rfl (by kernel_rfl) (by decide) (fun K hK => ?_)
     refine goes_ Tryz.func125 (by kernel_rfl) rfl #[.agg #[.slice B0 p1.slots.length d0, .slice B1 p1.vols.length d1], .agg #[.int .i64 o.kind, .string o.name, .string o.dest, .int .i64 o.n, .string o.text]] (by rfl) rfl rfl (by simp only [List.map_toArray, List.map_cons, List.map_nil]; rfl) ?_
     with_reducible refine (hdo.out _ P1.out (Nat.le_trans HBR.out D1.out.b.size)).mono ?_
     rintro e w2_ ⟨vc, vd, bvc, rfl, ho, X2⟩
     have D2 : Hid (Fr base wr w2_) := Lib.hid (D1.out.tr X2 HBR.out)
     have O2 := Lib.hid (X2.k _ _ _ (by decide) (by decide) (by decide) O1.out)
     have Q2 := Lib.hid ho
     obtain ⟨A2, A3, k2, k3, rfl, rfl, hpi⟩ := ho.reads
     clear ho hpi
     refine ⟨_, rfl, ?_⟩
     refine hK.out _ _ ⟨(hfx.out _ D2.out).1, (hfx.out _ D2.out).2.1, (hfx.out _ D2.out).2.2.1, (hfx.out _ D2.out).2.2.2.1, (hfx.out _ D2.out).2.2.2.2.1, (hfx.out _ D2.out).2.2.2.2.2.1, (hfx.out _ D2.out).2.2.2.2.2.2⟩ (fun hHeld => ?_)
     clear hK K
     refine nox 21 (h := ?_)
     refine ppx (i := 6) (N := some 15) #[bT, bT, bT, bT, bT, bT, bT, bF, bF, bT, bF, bF] (h := ?_)
     refine ppx (i := 7) (N := some 22) #[bT, bT, bT, bT, bT, bT, bT, bT, bF, bT, bF, bF] (h := ?_)
     refine ppx (i := 8) (N := some 23) #[bT, bT, bT, bT, bT, bT, bT, bT, bT, bT, bF, bF] (h := ?_)
     exact nof (hCont (A2, k2, A3, k3, bvc, wr.heap.size) _ ⟨hHeld, Q2.out, O2.out, L1, D2.out⟩)
   rintro ⟨A2, k2, A3, k3, bvc, nb⟩ w3 ⟨hHeld, hQ, hO, hL, hD⟩
   dsimp only at hQ hO hL
   have r0 := hO.cell 0
   have r1 := hO.cell 1
   have f0 := hO.free 0
   have f1 := hO.free 1
   simp at r0 r1
   refine norm_ (a' := ?_) ?_ ?_
   rotate_left
   ·simp only [putAll, Act.put, lA, lB, lC]
    rfl
   refine last_ (i := 10) (N := none) #[bT, bT, bT, bT, bT, bT, bT, bT, bT, bT, bT, bF] rfl rfl (by kernel_rfl) (by decide) (fun K hK => ?_)
   refine skip_ (by rfl) rfl (by go_simp; rfl) ?_
   refine hK.out _ _ ?_
   clear hK K
   refine ppx (i := 11) (N := some 8) #[bT, bT, bT, bT, bT, bT, bT, bT, bT, bT, bT, bT] (h := ?_)
   refine done_ (by kernel_rfl) ?_
   have hO4 := hO.set 0 (.slice A2 q.slots.length k2) (cs' := #[.slice A2 q.slots.length k2, .slice none 0 0]) rfl
   have HO5 := Lib.hid (hO4.set 1 (.slice A3 q.vols.length k3) (cs' := #[.slice A2 q.slots.length k2, .slice A3 q.vols.length k3]) rfl)
   have HQ5 := Lib.hid ((hQ.far hO (by decide) (by decide) (by decide) 0 (.slice A2 q.slots.length k2)).far hO4 (by decide) (by decide) (by decide) 1 (.slice A3 q.vols.length k3))
   have HF5 := Lib.hid (((HD.out.fr.tr hD HB.out).set (b := nb) (by omega) HB.out 0 (.slice A2 q.slots.length k2)).set (b := nb) (by omega) HB.out 1 (.slice A3 q.vols.length k3))
   have HP5 := Lib.hid (((hD.pool HD.out.pool).apart (show nb ≠ w.heap.size by omega) 0 (.slice A2 q.slots.length k2)).apart (show nb ≠ w.heap.size by omega) 1 (.slice A3 q.vols.length k3))
   have HR5 := Lib.hid (((hD.pool HD.out.res).apart (show nb ≠ w.heap.size + 1 by omega) 0 (.slice A2 q.slots.length k2)).apart (show nb ≠ w.heap.size + 1 by omega) 1 (.slice A3 q.vols.length k3))
   clear hQ hO hO4 hD f0 f1 r0 r1 hHeld s0 s1 s2 s3 s4 s5 s6 hdo hfx D0 P0
   generalize ((w3.setCell ⟨nb, 0, none⟩ (.slice A2 q.slots.length k2)).setCell ⟨nb, 1, none⟩ (.slice A3 q.vols.length k3)) = W8 at HO5 HQ5 HF5 HP5 HR5 ⊢
   obtain ⟨ad', e, a0, a1, a2, a3, a4⟩ := at_op (HC.out W8 HF5.out) HX.out
   cases e
   go_wp2_with fail
   refine (specOpOk_c o hnm.out _).mono ?_
   rintro e w9 ⟨rfl, hb9⟩
   clear a0 a1 a2 a3 a4
   replace HO5 := Lib.hid (HO5.out.bel hb9)
   replace HQ5 := Lib.hid (HQ5.out.bel hb9)
   replace HF5 := Lib.hid (HF5.out.bel hb9 HB.out)
   replace HP5 := Lib.hid (HP5.out.bel hb9)
   replace HR5 := Lib.hid (HR5.out.bel hb9)
   clear hb9
   cases hok : opOk o with
   | false =>
    have HN := Lib.hid (show runP p os = none from runP_stop (k := j + 1) (by rw [runP_step HX.out HR.out]; unfold opR; rw [hok]; rfl))
    clear hok
    have q0 := HP5.out.cell 0
    have q1 := HP5.out.cell 1
    have r0 := HR5.out.cell 0
    have r1 := HR5.out.cell 1
    have f0 := HR5.out.free 0
    have f1 := HR5.out.free 1
    have y := HR5.out.lt
    have y2 := HP5.out.lt
    simp at q0 q1 r0 r1
    go_wp2
    have hR1 := HR5.out.set 0 (.slice B0 p1.slots.length d0) (cs' := #[.slice B0 p1.slots.length d0, .slice none 0 0]) rfl
    have hR2 := hR1.set 1 (.slice B1 p1.vols.length d1) (cs' := #[.slice B0 p1.slots.length d0, .slice B1 p1.vols.length d1]) rfl
    refine bodyPost_ret (results_ct rfl _ _ (w.heap.size + 1) 42 #[.slice B0 p1.slots.length d0, .slice B1 p1.vols.length d1] (0, 0) _ rfl hR2 Tryz.underlying42 rfl (by kernel_rfl)) rfl ?_
    exact ⟨B0, B1, _, _, d0, d1, by rw [HN.out]; rfl, fun q h => (by rw [HN.out] at h; cases h), (HF5.out.set (Nat.le_succ _) HB.out 0 (.slice B0 p1.slots.length d0)).set (Nat.le_succ _) HB.out 1 (.slice B1 p1.vols.length d1)⟩
   | true =>
    cases ok with
    | false =>
     have HN := Lib.hid (show runP p os = none from runP_stop (k := j + 1) (by rw [runP_step HX.out HR.out]; unfold opR; rw [if_pos hok]; exact Option.isSome_eq_false_iff.1 HE.out.2 |> Option.isNone_iff_eq_none.1))
     clear hok
     have q0 := HP5.out.cell 0
     have q1 := HP5.out.cell 1
     have r0 := HR5.out.cell 0
     have r1 := HR5.out.cell 1
     have f0 := HR5.out.free 0
     have f1 := HR5.out.free 1
     have y := HR5.out.lt
     have y2 := HP5.out.lt
     simp at q0 q1 r0 r1
     go_wp2
     have hR1 := HR5.out.set 0 (.slice B0 p1.slots.length d0) (cs' := #[.slice B0 p1.slots.length d0, .slice none 0 0]) rfl
     have hR2 := hR1.set 1 (.slice B1 p1.vols.length d1) (cs' := #[.slice B0 p1.slots.length d0, .slice B1 p1.vols.length d1]) rfl
     refine bodyPost_ret (results_ct rfl _ _ (w.heap.size + 1) 42 #[.slice B0 p1.slots.length d0, .slice B1 p1.vols.length d1] (0, 0) _ rfl hR2 Tryz.underlying42 rfl (by kernel_rfl)) rfl ?_
     exact ⟨B0, B1, _, _, d0, d1, by rw [HN.out]; rfl, fun q h => (by rw [HN.out] at h; cases h), (HF5.out.set (Nat.le_succ _) HB.out 0 (.slice B0 p1.slots.length d0)).set (Nat.le_succ _) HB.out 1 (.slice B1 p1.vols.length d1)⟩
    | true =>
     have HN := Lib.hid (show runP p (os.take (j + 1)) = some q by
      rw [runP_step HX.out HR.out]
      unfold opR
      rw [if_pos hok]
      obtain ⟨q', hq'⟩ := Option.isSome_iff_exists.1 HE.out.2
      have h1 := HE.out.1
      rw [hq'] at h1 ⊢
      exact congrArg some h1)
     clear hok
     have HD2 := Lib.hid (RunSt.of HP5.out HR5.out HQ5.out HF5.out HB.out)
     have q0 := HP5.out.cell 0
     have q1 := HP5.out.cell 1
     have r0 := HO5.out.cell 0
     have r1 := HO5.out.cell 1
     have f0 := HP5.out.free 0
     have f1 := HP5.out.free 1
     have y := HP5.out.lt
     simp at q0 q1 r0 r1
     go_wp2
     go_roundg (os.length - (j + 1))
     case measure => omega
     case rel => exact ⟨j + 1, q, A2, A3, k2, k3, bvc, by omega, by go_num, HN.out, HD2.out⟩
  ·have HE := Lib.hid (show runP p os = some p1 by have := HR.out; rwa [List.take_of_length_le (by omega)] at this)
   have q0 := HD.out.pool.cell 0
   have q1 := HD.out.pool.cell 1
   have r0 := HD.out.res.cell 0
   have r1 := HD.out.res.cell 1
   have f0 := HD.out.res.free 0
   have f1 := HD.out.res.free 1
   have y := HD.out.res.lt
   simp at q0 q1 r0 r1
   go_wp2
   have hR1 := HD.out.res.set 0 (.slice B0 p1.slots.length d0) (cs' := #[.slice B0 p1.slots.length d0, .slice none 0 0]) rfl
   have hR2 := hR1.set 1 (.slice B1 p1.vols.length d1) (cs' := #[.slice B0 p1.slots.length d0, .slice B1 p1.vols.length d1]) rfl
   refine bodyPost_ret (results_ct rfl _ _ (w.heap.size + 1) 42 #[.slice B0 p1.slots.length d0, .slice B1 p1.vols.length d1] (0, 0) _ rfl hR2 Tryz.underlying42 rfl (by kernel_rfl)) rfl ?_
   exact ⟨B0, B1, _, _, d0, d1, by rw [HE.out]; rfl, fun q h => (by rw [HE.out] at h; cases h; exact ⟨bvs, (HD.out.own.far HD.out.res (by decide) (by decide) (by decide) 0 (.slice B0 p1.slots.length d0)).far hR1 (by decide) (by decide) (by decide) 1 (.slice B1 p1.vols.length d1)⟩), (HD.out.fr.set (Nat.le_succ _) HB.out 0 (.slice B0 p1.slots.length d0)).set (Nat.le_succ _) HB.out 1 (.slice B1 p1.vols.length d1)⟩
end Go.Proofs.YtccllgpaafgjaaaGreat

namespace Go.Proofs.YtccllgpaafgjaaaGreat
open Go.RowKit Go.Proofs.YtccllgpaafgjaaaGreatW.PrintWords Go.Proofs.YtccllgpaafgjaaaGreatW.PrintLast
section
variable {w : World} {A B C : Option Addr} {a b c : Nat} {l : Log}
def RunQ (r : Option Pool) (w : World) (base : Nat) (A2 : Option Addr) (n2 k2 : Nat) (A3 : Option Addr) (n3 k3 : Nat) : Prop := ∀ q, r = some q → ∃ bq, OwnP w base (.slice A2 n2 k2) (.slice A3 n3 k3) q bq
theorem RunQ.bel {r : Option Pool} {w w' : World} {base : Nat} {A2 A3 : Option Addr} {n2 k2 n3 k3 : Nat} (h : RunQ r w base A2 n2 k2 A3 n3 k3) (hb : Bel w w') : RunQ r w' base A2 n2 k2 A3 n3 k3 := fun q e => by
 obtain ⟨bq, h⟩ := h q e
 exact ⟨bq, h.bel hb⟩
end
end Go.Proofs.YtccllgpaafgjaaaGreat

namespace Go.Proofs.YtccllgpaafgjaaaGreat
open Go.RowKit Go.Proofs.YtccllgpaafgjaaaGreatW.PrintWords Go.Proofs.YtccllgpaafgjaaaGreatW.PrintLast
def MadeLT (w : World) (l : Log) (e : Ending) (w' : World) : Prop := ∃ (v0 v1 v2 : Value) (bvs : List Value), e = .returned (.agg #[v0, v1, v2, .int .i64 l.safe]) ∧ OwnP w' w.heap.size v0 v1 l.base bvs ∧ OwnT w' w.heap.size v2 l.ops ∧ Bel w w'
theorem MadeLT.new {w : World} {l : Log} {e : Ending} {w' : World} (h : MadeLT w l e w') : NewL w l e w' := by
 obtain ⟨v0, v1, v2, bvs, rfl, hp, ho, hb⟩ := h
 obtain ⟨A, B, a, b, rfl, rfl, hi⟩ := hp.reads
 obtain ⟨C, c, rfl, hc, hC⟩ := ho.reads
 exact ⟨A, B, C, a, b, c, rfl, ⟨hi, hC, hc⟩, hb⟩
theorem OwnT.far {w : World} {base : Nat} {v : Value} {os : List Op} (h : OwnT w base v os) {b : Nat} {cs : Array Value} {t : TypeId} (hB : Blk w b cs t) (ht : 27 ≠ t) (i : Nat) (u : Value) : OwnT (w.setCell ⟨b, i, none⟩ u) base v os := by
 have hlt := hB.lt
 have hg : w.grownBy (w.setCell ⟨b, i, none⟩ u) (some b) := ⟨rfl, rfl, rfl, by simp, fun k hk hne => by
  have : b ≠ k := fun e => hne (by rw [e])
  simp [World.setCell, Array.getElem?_modify, this]⟩
 refine h.kept hg fun k hk e => ?_
 injection e with e
 subst e
 obtain ⟨_, _, cs', hc⟩ := h.base b hk
 have h2 := hB.symm.trans hc
 injection h2 with h2
 injection h2 with _ h2
 exact ht h2.symm
theorem OwnT.far4 {W : World} {base b : Nat} {v : Value} {os : List Op} (h : OwnT W base v os) {x0 x1 x2 x3 : Value} (hB : Blk W b #[x0, x1, x2, x3] 44) (u0 u1 u2 u3 : Value) : OwnT (wset4 W b u0 u1 u2 u3) base v os := by
 have h1 := hB.set 0 u0 (cs' := #[u0, x1, x2, x3]) rfl
 have h2 := h1.set 1 u1 (cs' := #[u0, u1, x2, x3]) rfl
 have h3 := h2.set 2 u2 (cs' := #[u0, u1, u2, x3]) rfl
 exact (((h.far hB (by decide) 0 u0).far h1 (by decide) 1 u1).far h2 (by decide) 2 u2).far h3 (by decide) 3 u3
section
variable {w : World} {A B C : Option Addr} {a b c : Nat} {l : Log}
end
end Go.Proofs.YtccllgpaafgjaaaGreat

namespace Go.Proofs.YtccllgpaafgjaaaGreat
open Go.RowKit Go.Proofs.YtccllgpaafgjaaaGreatW.PrintWords Go.Proofs.YtccllgpaafgjaaaGreatW.PrintLast
section
variable {w : World} {A B C : Option Addr} {a b c : Nat} {l : Log}
end
end Go.Proofs.YtccllgpaafgjaaaGreat

namespace Go.Proofs.YtccllgpaafgjaaaGreat
open Go.RowKit Go.Proofs.YtccllgpaafgjaaaGreatW.PrintWords Go.Proofs.YtccllgpaafgjaaaGreatW.PrintLast
theorem kOp_keep {w w' : World} {A : Option Addr} {n : Nat} {os : List Op} (h : kOp.C w A n os) (hb : Bel w w') : kOp.C w' A n os := Kd.C_below h hb
section
variable {w : World} {A B C : Option Addr} {a b c : Nat} {l : Log}
end
end Go.Proofs.YtccllgpaafgjaaaGreat

namespace Go.Proofs.YtccllgpaafgjaaaGreat
open Go.RowKit Go.Proofs.YtccllgpaafgjaaaGreatW.PrintWords Go.Proofs.YtccllgpaafgjaaaGreatW.PrintLast
set_option maxHeartbeats 16000000 in
set_option maxRecDepth 10000 in
theorem specNodeOk_c {w : World} {A : Option Addr} {c : Nat} {n : Node} (hC : kOp.C w A n.ops.length n.ops) (ho : SmallOs n.ops) :
    Calls Tryz.prog 75 #[.agg #[.bool n.up, .int .i64 n.term, .bool n.leads, .bool n.alone, .slice A n.ops.length c]] w (Ret (.bool (nodeOk n)) w) := by
  obtain ⟨up, term, leads, alone, os⟩ := n
  unfold nodeOk
  simp only at hC ho ⊢
  have hl := ho.len
  have HC := Lib.hid hC
  have HO := Lib.hid ho
  clear hC ho
  obtain ⟨t, ht⟩ : ∃ t, inR term 0 99 = t := ⟨_, rfl⟩
  obtain ⟨d, hd⟩ : ∃ d, decide (os.length ≤ 20) = d := ⟨_, rfl⟩
  have hdi : decide (20 < (os.length : Int)) = !d := by rw [← hd]; by_cases h : os.length ≤ 20 <;> simp [h] <;> omega
  have hrb : runB newP os = (runP newP os).isSome := by unfold runB; rw [poolOk_iff.2 newP_ok]; rfl
  obtain ⟨b, hb⟩ : ∃ b, (runP newP os).isSome = b := ⟨_, rfl⟩
  rw [ht, hrb, hb, hd]
  have HT := Lib.hid ht
  have HB := Lib.hid hb
  clear ht hb hrb hd
  have HI := Lib.hid (fun W : World => (HT.out ▸ l6In_c term 0 99 W : Calls Tryz.prog 89 #[.int .i64 term, .int .i64 0, .int .i64 99] W (Same (.bool t) W)))
  go_enter Tryz.func75, Tryz.ntmps75
  by_cases hgo : t = true ∧ (alone = true → leads = true) ∧ d = true
  · obtain ⟨rfl, hal, rfl⟩ := hgo
    have hal2 : leads = true ∨ leads = false ∧ alone = false := by cases leads <;> cases alone <;> simp_all
    have hfin : (leads || !alone) = true := by cases leads <;> cases alone <;> simp_all
    rw [hfin]
    simp only [Bool.true_and, Bool.and_true]
    clear hal hfin
    rcases hal2 with rfl | ⟨rfl, rfl⟩
    · cases alone
      · skip
        have hN : Blk (w.alloc (.cells #[.bool up, .int .i64 term, .bool true, .bool false, .slice A os.length c] 25)) w.heap.size #[.bool up, .int .i64 term, .bool true, .bool false, .slice A os.length c] 25 := Blk.new _ _ _
        have hW : Bel w (w.alloc (.cells #[.bool up, .int .i64 term, .bool true, .bool false, .slice A os.length c] 25)) := bel_alloc (Below.refl _ _) _
        go_wp2_with (go_at_call 89; refine (HI.out _).mono ?_; rintro e w' ⟨rfl, rfl⟩)
        generalize w.alloc (.cells #[.bool up, .int .i64 term, .bool true, .bool false, .slice A os.length c] 25) = W1 at hN hW ⊢
        have hfx := Lib.hid (fun (W : World) (hb : Bel W1.drew W) => (show W.cell? ⟨w.heap.size, 4, none⟩ = some (.slice A os.length c) by rw [((hN.bel (Below.refl _ _).drew).bel hb).cell]; rfl))
        have HW := Lib.hid hW
        have hC1 : kOp.C W1.drew A os.length os := Kd.C_below HC.out (hW.tr (Below.refl _ _).drew)
        have hrun := Lib.hid (fun (W : World) (v0 v1 : Value) (bvs : List Value) (h : OwnP W W1.drew.heap.size v0 v1 newP bvs) (hb : Bel W1.drew W) => l13Run_c (c2 := c) h newP_ok (Below.size hb) hC1 (Nat.le_refl _) hb HO.out)
        unfold RunsP at hrun
        rw [HB.out] at hrun
        have D0 := Lib.hid (show Bel W1.drew W1.drew from Below.refl _ _)
        clear hN hW hC1
        have s0 := hfx.out _ D0.out
        refine start_ (n := 10) (S := fun w' => w'.cell? ⟨w.heap.size, 4, none⟩ = some (.slice A os.length c)) (ds := [8]) #[bF, bF, bF, bF, bF, bF, bF, bF, bF, bF] (by kernel_rfl) rfl rfl (s0) (fun hHeld => ?_)
        refine ppx (i := 1) (N := some 26) #[bF, bT, bF, bF, bF, bF, bF, bF, bF, bF] (h := ?_)
        refine tpx (i := 2) (N := some 27) #[bF, bT, bT, bF, bF, bF, bF, bF, bF, bF] (hy := (Or.inl ⟨by rfl, by intro w' s0; go_simp; with_reducible rfl⟩)) (hS := hHeld) (h := ?_)
        refine join_ (σ := Value × Value × Option Addr × Nat × Nat × Option Addr × Nat × Nat × Nat) 2 #[bT, bT, bT, bT, bT, bT, bT, bT, bF, bF] (fun s => [(25, .agg #[s.1, s.2.1]), (28, .tuple #[.agg #[.slice s.2.2.1 s.2.2.2.1 s.2.2.2.2.1, .slice s.2.2.2.2.2.1 s.2.2.2.2.2.2.1 s.2.2.2.2.2.2.2.1], .bool b]), (24, .tuple #[.agg #[.slice s.2.2.1 s.2.2.2.1 s.2.2.2.2.1, .slice s.2.2.2.2.2.1 s.2.2.2.2.2.2.1 s.2.2.2.2.2.2.2.1], .bool b]), (29, .agg #[.slice s.2.2.1 s.2.2.2.1 s.2.2.2.2.1, .slice s.2.2.2.2.2.1 s.2.2.2.2.2.2.1 s.2.2.2.2.2.2.2.1]), (30, .bool b), (3, .pointer (some ⟨s.2.2.2.2.2.2.2.2, 0, none⟩))]) (fun s w' => (w'.cell? ⟨w.heap.size, 4, none⟩ = some (.slice A os.length c)) ∧ Blk w' s.2.2.2.2.2.2.2.2 #[.slice none 0 0, .slice none 0 0] 42 ∧ W1.drew.heap.size ≤ s.2.2.2.2.2.2.2.2 ∧ Bel W1.drew w') ?_ ?_
        rotate_left
        · intro hCont
          refine two_ (i := 0) (j := 7) (Ni := some 25) (Nj := some 3) #[bT, bT, bT, bF, bF, bF, bF, bF, bF, bF] #[bF, bT, bT, bF, bF, bF, bF, bT, bF, bF] rfl rfl rfl rfl (by kernel_rfl) (by decide) (by decide) (fun K hK => ?_) (fun K hK => ?_)
          · skip
            refine goes_ Tryz.func133 (by kernel_rfl) rfl #[] (by rfl) rfl rfl (by simp only [List.map_toArray, List.map_cons, List.map_nil]) ?_
            with_reducible refine (specPoolNew_c _).mono ?_
            rintro e w1_ ⟨va, vb, bva, rfl, ho, X1⟩
            have D1 := Lib.hid (Bel.tr D0.out X1)
            have P1 : Hid (OwnP w1_ W1.drew.heap.size va vb newP bva) := Lib.hid (ho.lower D0.out.size)
            clear ho
            refine ⟨_, rfl, ?_⟩
            refine hK.out _ _ (hfx.out _ D1.out) (fun hHeld => ?_)
            clear hK K
            refine nox 25 (h := ?_)
            refine two_ (i := 3) (j := 7) (Ni := some 28) (Nj := some 3) #[bT, bT, bT, bT, bF, bF, bF, bF, bF, bF] #[bT, bT, bT, bF, bF, bF, bF, bT, bF, bF] rfl rfl rfl rfl (by kernel_rfl) (by decide) (by decide) (fun K hK => ?_) (fun K hK => ?_)
            · skip
              refine goes_ Tryz.func104 (by kernel_rfl) rfl #[.agg #[va, vb], .slice A os.length c] (by rfl) rfl rfl (by simp only [List.map_toArray, List.map_cons, List.map_nil]; rfl) ?_
              with_reducible refine (hrun.out _ va vb bva P1.out D1.out).mono ?_
              rintro e w2_ ⟨A2, A3, n2, n3, k2, k3, rfl, hq, X2⟩
              have D2 : Hid (Bel W1.drew w2_) := Lib.hid (D1.out.trans X2.b)
              clear hq
              refine ⟨_, rfl, ?_⟩
              refine hK.out _ _ (hfx.out _ D2.out) (fun hHeld => ?_)
              clear hK K
              refine nox 28 (h := ?_)
              refine ppx (i := 4) (N := some 24) #[bT, bT, bT, bT, bT, bF, bF, bF, bF, bF] (h := ?_)
              refine ppx (i := 5) (N := some 29) #[bT, bT, bT, bT, bT, bT, bF, bF, bF, bF] (h := ?_)
              refine ppx (i := 6) (N := some 30) #[bT, bT, bT, bT, bT, bT, bT, bF, bF, bF] (h := ?_)
              refine one_ (i := 7) (N := some 3) #[bT, bT, bT, bT, bT, bT, bT, bT, bF, bF] rfl rfl (by kernel_rfl) (by decide) (fun K hK => ?_)
              refine value_ (by rfl) rfl (by go_simp; constructor <;> rfl) ?_
              have D3 : Hid (Bel W1.drew (w2_.alloc (.cells #[.slice none 0 0, .slice none 0 0] 42))) := Lib.hid (bel_alloc D2.out (.cells #[.slice none 0 0, .slice none 0 0] 42))
              have O3 : Hid (Blk (w2_.alloc (.cells #[.slice none 0 0, .slice none 0 0] 42)) w2_.heap.size #[.slice none 0 0, .slice none 0 0] 42) := Lib.hid (Blk.new w2_ #[.slice none 0 0, .slice none 0 0] 42)
              have L3 := D2.out.size
              refine hK.out _ _ (hfx.out _ D3.out) (fun hHeld => ?_)
              clear hK K
              refine nox 3 (h := ?_)
              exact nof (hCont (va, vb, A2, n2, k2, A3, n3, k3, w2_.heap.size) _ ⟨hHeld, O3.out, L3, D3.out⟩)
            · skip
              refine value_ (by rfl) rfl (by go_simp; constructor <;> rfl) ?_
              have D2 : Hid (Bel W1.drew (w1_.alloc (.cells #[.slice none 0 0, .slice none 0 0] 42))) := Lib.hid (bel_alloc D1.out (.cells #[.slice none 0 0, .slice none 0 0] 42))
              have P2 := Lib.hid (OwnP.bel P1.out (bel_alloc (Below.refl _ _) (.cells #[.slice none 0 0, .slice none 0 0] 42)))
              have O2 : Hid (Blk (w1_.alloc (.cells #[.slice none 0 0, .slice none 0 0] 42)) w1_.heap.size #[.slice none 0 0, .slice none 0 0] 42) := Lib.hid (Blk.new w1_ #[.slice none 0 0, .slice none 0 0] 42)
              have L2 := D1.out.size
              refine hK.out _ _ (hfx.out _ D2.out) (fun hHeld => ?_)
              clear hK K
              refine nox 3 (h := ?_)
              refine one_ (i := 3) (N := some 28) #[bT, bT, bT, bT, bF, bF, bF, bT, bF, bF] rfl rfl (by kernel_rfl) (by decide) (fun K hK => ?_)
              refine goes_ Tryz.func104 (by kernel_rfl) rfl #[.agg #[va, vb], .slice A os.length c] (by rfl) rfl rfl (by simp only [List.map_toArray, List.map_cons, List.map_nil]; rfl) ?_
              with_reducible refine (hrun.out _ va vb bva P2.out D2.out).mono ?_
              rintro e w3_ ⟨A2, A3, n2, n3, k2, k3, rfl, hq, X3⟩
              have D3 : Hid (Bel W1.drew w3_) := Lib.hid (D2.out.trans X3.b)
              clear hq
              have O3 := Lib.hid (X3.k _ _ _ (by decide) (by decide) (by decide) O2.out)
              refine ⟨_, rfl, ?_⟩
              refine hK.out _ _ (hfx.out _ D3.out) (fun hHeld => ?_)
              clear hK K
              refine nox 28 (h := ?_)
              refine ppx (i := 4) (N := some 24) #[bT, bT, bT, bT, bT, bF, bF, bT, bF, bF] (h := ?_)
              refine ppx (i := 5) (N := some 29) #[bT, bT, bT, bT, bT, bT, bF, bT, bF, bF] (h := ?_)
              refine ppx (i := 6) (N := some 30) #[bT, bT, bT, bT, bT, bT, bT, bT, bF, bF] (h := ?_)
              exact nof (hCont (va, vb, A2, n2, k2, A3, n3, k3, w1_.heap.size) _ ⟨hHeld, O3.out, L2, D3.out⟩)
          · skip
            refine value_ (by rfl) rfl (by go_simp; constructor <;> rfl) ?_
            have D1 : Hid (Bel W1.drew (W1.alloc (.cells #[.slice none 0 0, .slice none 0 0] 42)).drew) := Lib.hid (bel_alloc D0.out (.cells #[.slice none 0 0, .slice none 0 0] 42))
            have O1 : Hid (Blk (W1.alloc (.cells #[.slice none 0 0, .slice none 0 0] 42)).drew W1.drew.heap.size #[.slice none 0 0, .slice none 0 0] 42) := Lib.hid (Blk.new W1.drew #[.slice none 0 0, .slice none 0 0] 42)
            have L1 := D0.out.size
            refine hK.out _ _ (hfx.out _ D1.out) (fun hHeld => ?_)
            clear hK K
            refine nox 3 (h := ?_)
            refine one_ (i := 0) (N := some 25) #[bT, bT, bT, bF, bF, bF, bF, bT, bF, bF] rfl rfl (by kernel_rfl) (by decide) (fun K hK => ?_)
            refine goes_ Tryz.func133 (by kernel_rfl) rfl #[] (by rfl) rfl rfl (by simp only [List.map_toArray, List.map_cons, List.map_nil]) ?_
            with_reducible refine (specPoolNew_c _).mono ?_
            rintro e w2_ ⟨va, vb, bva, rfl, ho, X2⟩
            have D2 := Lib.hid (Bel.tr D1.out X2)
            have O2 := Lib.hid (Blk.bel O1.out X2)
            have P2 : Hid (OwnP w2_ W1.drew.heap.size va vb newP bva) := Lib.hid (ho.lower D1.out.size)
            clear ho
            refine ⟨_, rfl, ?_⟩
            refine hK.out _ _ (hfx.out _ D2.out) (fun hHeld => ?_)
            clear hK K
            refine nox 25 (h := ?_)
            refine one_ (i := 3) (N := some 28) #[bT, bT, bT, bT, bF, bF, bF, bT, bF, bF] rfl rfl (by kernel_rfl) (by decide) (fun K hK => ?_)
            refine goes_ Tryz.func104 (by kernel_rfl) rfl #[.agg #[va, vb], .slice A os.length c] (by rfl) rfl rfl (by simp only [List.map_toArray, List.map_cons, List.map_nil]; rfl) ?_
            with_reducible refine (hrun.out _ va vb bva P2.out D2.out).mono ?_
            rintro e w3_ ⟨A2, A3, n2, n3, k2, k3, rfl, hq, X3⟩
            have D3 : Hid (Bel W1.drew w3_) := Lib.hid (D2.out.trans X3.b)
            clear hq
            have O3 := Lib.hid (X3.k _ _ _ (by decide) (by decide) (by decide) O2.out)
            refine ⟨_, rfl, ?_⟩
            refine hK.out _ _ (hfx.out _ D3.out) (fun hHeld => ?_)
            clear hK K
            refine nox 28 (h := ?_)
            refine ppx (i := 4) (N := some 24) #[bT, bT, bT, bT, bT, bF, bF, bT, bF, bF] (h := ?_)
            refine ppx (i := 5) (N := some 29) #[bT, bT, bT, bT, bT, bT, bF, bT, bF, bF] (h := ?_)
            refine ppx (i := 6) (N := some 30) #[bT, bT, bT, bT, bT, bT, bT, bT, bF, bF] (h := ?_)
            exact nof (hCont (va, vb, A2, n2, k2, A3, n3, k3, W1.heap.size) _ ⟨hHeld, O3.out, L1, D3.out⟩)
        rintro ⟨va, vb, A2, n2, k2, A3, n3, k3, nb⟩ w3 ⟨hHeld, hO, hL, hD⟩
        dsimp only at hO hL
        have r0 := hO.cell 0
        have r1 := hO.cell 1
        have f0 := hO.free 0
        have f1 := hO.free 1
        simp at r0 r1
        refine norm_ (a' := ?_) ?_ ?_
        rotate_left
        · simp only [putAll, Act.put, lA, lB, lC]
          rfl
        refine last_ (i := 8) (N := none) #[bT, bT, bT, bT, bT, bT, bT, bT, bT, bF] rfl rfl (by kernel_rfl) (by decide) (fun K hK => ?_)
        refine skip_ (by rfl) rfl (by go_simp; rfl) ?_
        refine hK.out _ _ ?_
        clear hK K
        refine ppx (i := 9) (N := some 4) #[bT, bT, bT, bT, bT, bT, bT, bT, bT, bT] (h := ?_)
        refine done_ (by kernel_rfl) ?_
        have hb5 : Bel W1.drew ((w3.setCell ⟨nb, 0, none⟩ (.slice A2 n2 k2)).setCell ⟨nb, 1, none⟩ (.slice A3 n3 k3)) := bel_set (bel_set hD hL 0 (.slice A2 n2 k2)) hL 1 (.slice A3 n3 k3)
        clear hO hD hL f0 f1 r0 r1 hHeld D0 s0 hfx hrun
        go_wp2
        go_ret
        exact ⟨rfl, (HW.out.tr (Below.refl _ _).drew).tr hb5⟩
      · skip
        have hN : Blk (w.alloc (.cells #[.bool up, .int .i64 term, .bool true, .bool true, .slice A os.length c] 25)) w.heap.size #[.bool up, .int .i64 term, .bool true, .bool true, .slice A os.length c] 25 := Blk.new _ _ _
        have hW : Bel w (w.alloc (.cells #[.bool up, .int .i64 term, .bool true, .bool true, .slice A os.length c] 25)) := bel_alloc (Below.refl _ _) _
        go_wp2_with (go_at_call 89; refine (HI.out _).mono ?_; rintro e w' ⟨rfl, rfl⟩)
        generalize w.alloc (.cells #[.bool up, .int .i64 term, .bool true, .bool true, .slice A os.length c] 25) = W1 at hN hW ⊢
        have hfx := Lib.hid (fun (W : World) (hb : Bel W1.drew W) => (show W.cell? ⟨w.heap.size, 4, none⟩ = some (.slice A os.length c) by rw [((hN.bel (Below.refl _ _).drew).bel hb).cell]; rfl))
        have HW := Lib.hid hW
        have hC1 : kOp.C W1.drew A os.length os := Kd.C_below HC.out (hW.tr (Below.refl _ _).drew)
        have hrun := Lib.hid (fun (W : World) (v0 v1 : Value) (bvs : List Value) (h : OwnP W W1.drew.heap.size v0 v1 newP bvs) (hb : Bel W1.drew W) => l13Run_c (c2 := c) h newP_ok (Below.size hb) hC1 (Nat.le_refl _) hb HO.out)
        unfold RunsP at hrun
        rw [HB.out] at hrun
        have D0 := Lib.hid (show Bel W1.drew W1.drew from Below.refl _ _)
        clear hN hW hC1
        have s0 := hfx.out _ D0.out
        refine start_ (n := 10) (S := fun w' => w'.cell? ⟨w.heap.size, 4, none⟩ = some (.slice A os.length c)) (ds := [8]) #[bF, bF, bF, bF, bF, bF, bF, bF, bF, bF] (by kernel_rfl) rfl rfl (s0) (fun hHeld => ?_)
        refine ppx (i := 1) (N := some 26) #[bF, bT, bF, bF, bF, bF, bF, bF, bF, bF] (h := ?_)
        refine tpx (i := 2) (N := some 27) #[bF, bT, bT, bF, bF, bF, bF, bF, bF, bF] (hy := (Or.inl ⟨by rfl, by intro w' s0; go_simp; with_reducible rfl⟩)) (hS := hHeld) (h := ?_)
        refine join_ (σ := Value × Value × Option Addr × Nat × Nat × Option Addr × Nat × Nat × Nat) 2 #[bT, bT, bT, bT, bT, bT, bT, bT, bF, bF] (fun s => [(25, .agg #[s.1, s.2.1]), (28, .tuple #[.agg #[.slice s.2.2.1 s.2.2.2.1 s.2.2.2.2.1, .slice s.2.2.2.2.2.1 s.2.2.2.2.2.2.1 s.2.2.2.2.2.2.2.1], .bool b]), (24, .tuple #[.agg #[.slice s.2.2.1 s.2.2.2.1 s.2.2.2.2.1, .slice s.2.2.2.2.2.1 s.2.2.2.2.2.2.1 s.2.2.2.2.2.2.2.1], .bool b]), (29, .agg #[.slice s.2.2.1 s.2.2.2.1 s.2.2.2.2.1, .slice s.2.2.2.2.2.1 s.2.2.2.2.2.2.1 s.2.2.2.2.2.2.2.1]), (30, .bool b), (3, .pointer (some ⟨s.2.2.2.2.2.2.2.2, 0, none⟩))]) (fun s w' => (w'.cell? ⟨w.heap.size, 4, none⟩ = some (.slice A os.length c)) ∧ Blk w' s.2.2.2.2.2.2.2.2 #[.slice none 0 0, .slice none 0 0] 42 ∧ W1.drew.heap.size ≤ s.2.2.2.2.2.2.2.2 ∧ Bel W1.drew w') ?_ ?_
        rotate_left
        · intro hCont
          refine two_ (i := 0) (j := 7) (Ni := some 25) (Nj := some 3) #[bT, bT, bT, bF, bF, bF, bF, bF, bF, bF] #[bF, bT, bT, bF, bF, bF, bF, bT, bF, bF] rfl rfl rfl rfl (by kernel_rfl) (by decide) (by decide) (fun K hK => ?_) (fun K hK => ?_)
          · skip
            refine goes_ Tryz.func133 (by kernel_rfl) rfl #[] (by rfl) rfl rfl (by simp only [List.map_toArray, List.map_cons, List.map_nil]) ?_
            with_reducible refine (specPoolNew_c _).mono ?_
            rintro e w1_ ⟨va, vb, bva, rfl, ho, X1⟩
            have D1 := Lib.hid (Bel.tr D0.out X1)
            have P1 : Hid (OwnP w1_ W1.drew.heap.size va vb newP bva) := Lib.hid (ho.lower D0.out.size)
            clear ho
            refine ⟨_, rfl, ?_⟩
            refine hK.out _ _ (hfx.out _ D1.out) (fun hHeld => ?_)
            clear hK K
            refine nox 25 (h := ?_)
            refine two_ (i := 3) (j := 7) (Ni := some 28) (Nj := some 3) #[bT, bT, bT, bT, bF, bF, bF, bF, bF, bF] #[bT, bT, bT, bF, bF, bF, bF, bT, bF, bF] rfl rfl rfl rfl (by kernel_rfl) (by decide) (by decide) (fun K hK => ?_) (fun K hK => ?_)
            · skip
              refine goes_ Tryz.func104 (by kernel_rfl) rfl #[.agg #[va, vb], .slice A os.length c] (by rfl) rfl rfl (by simp only [List.map_toArray, List.map_cons, List.map_nil]; rfl) ?_
              with_reducible refine (hrun.out _ va vb bva P1.out D1.out).mono ?_
              rintro e w2_ ⟨A2, A3, n2, n3, k2, k3, rfl, hq, X2⟩
              have D2 : Hid (Bel W1.drew w2_) := Lib.hid (D1.out.trans X2.b)
              clear hq
              refine ⟨_, rfl, ?_⟩
              refine hK.out _ _ (hfx.out _ D2.out) (fun hHeld => ?_)
              clear hK K
              refine nox 28 (h := ?_)
              refine ppx (i := 4) (N := some 24) #[bT, bT, bT, bT, bT, bF, bF, bF, bF, bF] (h := ?_)
              refine ppx (i := 5) (N := some 29) #[bT, bT, bT, bT, bT, bT, bF, bF, bF, bF] (h := ?_)
              refine ppx (i := 6) (N := some 30) #[bT, bT, bT, bT, bT, bT, bT, bF, bF, bF] (h := ?_)
              refine one_ (i := 7) (N := some 3) #[bT, bT, bT, bT, bT, bT, bT, bT, bF, bF] rfl rfl (by kernel_rfl) (by decide) (fun K hK => ?_)
              refine value_ (by rfl) rfl (by go_simp; constructor <;> rfl) ?_
              have D3 : Hid (Bel W1.drew (w2_.alloc (.cells #[.slice none 0 0, .slice none 0 0] 42))) := Lib.hid (bel_alloc D2.out (.cells #[.slice none 0 0, .slice none 0 0] 42))
              have O3 : Hid (Blk (w2_.alloc (.cells #[.slice none 0 0, .slice none 0 0] 42)) w2_.heap.size #[.slice none 0 0, .slice none 0 0] 42) := Lib.hid (Blk.new w2_ #[.slice none 0 0, .slice none 0 0] 42)
              have L3 := D2.out.size
              refine hK.out _ _ (hfx.out _ D3.out) (fun hHeld => ?_)
              clear hK K
              refine nox 3 (h := ?_)
              exact nof (hCont (va, vb, A2, n2, k2, A3, n3, k3, w2_.heap.size) _ ⟨hHeld, O3.out, L3, D3.out⟩)
            · skip
              refine value_ (by rfl) rfl (by go_simp; constructor <;> rfl) ?_
              have D2 : Hid (Bel W1.drew (w1_.alloc (.cells #[.slice none 0 0, .slice none 0 0] 42))) := Lib.hid (bel_alloc D1.out (.cells #[.slice none 0 0, .slice none 0 0] 42))
              have P2 := Lib.hid (OwnP.bel P1.out (bel_alloc (Below.refl _ _) (.cells #[.slice none 0 0, .slice none 0 0] 42)))
              have O2 : Hid (Blk (w1_.alloc (.cells #[.slice none 0 0, .slice none 0 0] 42)) w1_.heap.size #[.slice none 0 0, .slice none 0 0] 42) := Lib.hid (Blk.new w1_ #[.slice none 0 0, .slice none 0 0] 42)
              have L2 := D1.out.size
              refine hK.out _ _ (hfx.out _ D2.out) (fun hHeld => ?_)
              clear hK K
              refine nox 3 (h := ?_)
              refine one_ (i := 3) (N := some 28) #[bT, bT, bT, bT, bF, bF, bF, bT, bF, bF] rfl rfl (by kernel_rfl) (by decide) (fun K hK => ?_)
              refine goes_ Tryz.func104 (by kernel_rfl) rfl #[.agg #[va, vb], .slice A os.length c] (by rfl) rfl rfl (by simp only [List.map_toArray, List.map_cons, List.map_nil]; rfl) ?_
              with_reducible refine (hrun.out _ va vb bva P2.out D2.out).mono ?_
              rintro e w3_ ⟨A2, A3, n2, n3, k2, k3, rfl, hq, X3⟩
              have D3 : Hid (Bel W1.drew w3_) := Lib.hid (D2.out.trans X3.b)
              clear hq
              have O3 := Lib.hid (X3.k _ _ _ (by decide) (by decide) (by decide) O2.out)
              refine ⟨_, rfl, ?_⟩
              refine hK.out _ _ (hfx.out _ D3.out) (fun hHeld => ?_)
              clear hK K
              refine nox 28 (h := ?_)
              refine ppx (i := 4) (N := some 24) #[bT, bT, bT, bT, bT, bF, bF, bT, bF, bF] (h := ?_)
              refine ppx (i := 5) (N := some 29) #[bT, bT, bT, bT, bT, bT, bF, bT, bF, bF] (h := ?_)
              refine ppx (i := 6) (N := some 30) #[bT, bT, bT, bT, bT, bT, bT, bT, bF, bF] (h := ?_)
              exact nof (hCont (va, vb, A2, n2, k2, A3, n3, k3, w1_.heap.size) _ ⟨hHeld, O3.out, L2, D3.out⟩)
          · skip
            refine value_ (by rfl) rfl (by go_simp; constructor <;> rfl) ?_
            have D1 : Hid (Bel W1.drew (W1.alloc (.cells #[.slice none 0 0, .slice none 0 0] 42)).drew) := Lib.hid (bel_alloc D0.out (.cells #[.slice none 0 0, .slice none 0 0] 42))
            have O1 : Hid (Blk (W1.alloc (.cells #[.slice none 0 0, .slice none 0 0] 42)).drew W1.drew.heap.size #[.slice none 0 0, .slice none 0 0] 42) := Lib.hid (Blk.new W1.drew #[.slice none 0 0, .slice none 0 0] 42)
            have L1 := D0.out.size
            refine hK.out _ _ (hfx.out _ D1.out) (fun hHeld => ?_)
            clear hK K
            refine nox 3 (h := ?_)
            refine one_ (i := 0) (N := some 25) #[bT, bT, bT, bF, bF, bF, bF, bT, bF, bF] rfl rfl (by kernel_rfl) (by decide) (fun K hK => ?_)
            refine goes_ Tryz.func133 (by kernel_rfl) rfl #[] (by rfl) rfl rfl (by simp only [List.map_toArray, List.map_cons, List.map_nil]) ?_
            with_reducible refine (specPoolNew_c _).mono ?_
            rintro e w2_ ⟨va, vb, bva, rfl, ho, X2⟩
            have D2 := Lib.hid (Bel.tr D1.out X2)
            have O2 := Lib.hid (Blk.bel O1.out X2)
            have P2 : Hid (OwnP w2_ W1.drew.heap.size va vb newP bva) := Lib.hid (ho.lower D1.out.size)
            clear ho
            refine ⟨_, rfl, ?_⟩
            refine hK.out _ _ (hfx.out _ D2.out) (fun hHeld => ?_)
            clear hK K
            refine nox 25 (h := ?_)
            refine one_ (i := 3) (N := some 28) #[bT, bT, bT, bT, bF, bF, bF, bT, bF, bF] rfl rfl (by kernel_rfl) (by decide) (fun K hK => ?_)
            refine goes_ Tryz.func104 (by kernel_rfl) rfl #[.agg #[va, vb], .slice A os.length c] (by rfl) rfl rfl (by simp only [List.map_toArray, List.map_cons, List.map_nil]; rfl) ?_
            with_reducible refine (hrun.out _ va vb bva P2.out D2.out).mono ?_
            rintro e w3_ ⟨A2, A3, n2, n3, k2, k3, rfl, hq, X3⟩
            have D3 : Hid (Bel W1.drew w3_) := Lib.hid (D2.out.trans X3.b)
            clear hq
            have O3 := Lib.hid (X3.k _ _ _ (by decide) (by decide) (by decide) O2.out)
            refine ⟨_, rfl, ?_⟩
            refine hK.out _ _ (hfx.out _ D3.out) (fun hHeld => ?_)
            clear hK K
            refine nox 28 (h := ?_)
            refine ppx (i := 4) (N := some 24) #[bT, bT, bT, bT, bT, bF, bF, bT, bF, bF] (h := ?_)
            refine ppx (i := 5) (N := some 29) #[bT, bT, bT, bT, bT, bT, bF, bT, bF, bF] (h := ?_)
            refine ppx (i := 6) (N := some 30) #[bT, bT, bT, bT, bT, bT, bT, bT, bF, bF] (h := ?_)
            exact nof (hCont (va, vb, A2, n2, k2, A3, n3, k3, W1.heap.size) _ ⟨hHeld, O3.out, L1, D3.out⟩)
        rintro ⟨va, vb, A2, n2, k2, A3, n3, k3, nb⟩ w3 ⟨hHeld, hO, hL, hD⟩
        dsimp only at hO hL
        have r0 := hO.cell 0
        have r1 := hO.cell 1
        have f0 := hO.free 0
        have f1 := hO.free 1
        simp at r0 r1
        refine norm_ (a' := ?_) ?_ ?_
        rotate_left
        · simp only [putAll, Act.put, lA, lB, lC]
          rfl
        refine last_ (i := 8) (N := none) #[bT, bT, bT, bT, bT, bT, bT, bT, bT, bF] rfl rfl (by kernel_rfl) (by decide) (fun K hK => ?_)
        refine skip_ (by rfl) rfl (by go_simp; rfl) ?_
        refine hK.out _ _ ?_
        clear hK K
        refine ppx (i := 9) (N := some 4) #[bT, bT, bT, bT, bT, bT, bT, bT, bT, bT] (h := ?_)
        refine done_ (by kernel_rfl) ?_
        have hb5 : Bel W1.drew ((w3.setCell ⟨nb, 0, none⟩ (.slice A2 n2 k2)).setCell ⟨nb, 1, none⟩ (.slice A3 n3 k3)) := bel_set (bel_set hD hL 0 (.slice A2 n2 k2)) hL 1 (.slice A3 n3 k3)
        clear hO hD hL f0 f1 r0 r1 hHeld D0 s0 hfx hrun
        go_wp2
        go_ret
        exact ⟨rfl, (HW.out.tr (Below.refl _ _).drew).tr hb5⟩
    · skip
      have hN : Blk (w.alloc (.cells #[.bool up, .int .i64 term, .bool false, .bool false, .slice A os.length c] 25)) w.heap.size #[.bool up, .int .i64 term, .bool false, .bool false, .slice A os.length c] 25 := Blk.new _ _ _
      have hW : Bel w (w.alloc (.cells #[.bool up, .int .i64 term, .bool false, .bool false, .slice A os.length c] 25)) := bel_alloc (Below.refl _ _) _
      go_wp2_with (go_at_call 89; refine (HI.out _).mono ?_; rintro e w' ⟨rfl, rfl⟩)
      generalize w.alloc (.cells #[.bool up, .int .i64 term, .bool false, .bool false, .slice A os.length c] 25) = W1 at hN hW ⊢
      have hfx := Lib.hid (fun (W : World) (hb : Bel W1.drew W) => (show W.cell? ⟨w.heap.size, 4, none⟩ = some (.slice A os.length c) by rw [((hN.bel (Below.refl _ _).drew).bel hb).cell]; rfl))
      have HW := Lib.hid hW
      have hC1 : kOp.C W1.drew A os.length os := Kd.C_below HC.out (hW.tr (Below.refl _ _).drew)
      have hrun := Lib.hid (fun (W : World) (v0 v1 : Value) (bvs : List Value) (h : OwnP W W1.drew.heap.size v0 v1 newP bvs) (hb : Bel W1.drew W) => l13Run_c (c2 := c) h newP_ok (Below.size hb) hC1 (Nat.le_refl _) hb HO.out)
      unfold RunsP at hrun
      rw [HB.out] at hrun
      have D0 := Lib.hid (show Bel W1.drew W1.drew from Below.refl _ _)
      clear hN hW hC1
      have s0 := hfx.out _ D0.out
      refine start_ (n := 10) (S := fun w' => w'.cell? ⟨w.heap.size, 4, none⟩ = some (.slice A os.length c)) (ds := [8]) #[bF, bF, bF, bF, bF, bF, bF, bF, bF, bF] (by kernel_rfl) rfl rfl (s0) (fun hHeld => ?_)
      refine ppx (i := 1) (N := some 26) #[bF, bT, bF, bF, bF, bF, bF, bF, bF, bF] (h := ?_)
      refine tpx (i := 2) (N := some 27) #[bF, bT, bT, bF, bF, bF, bF, bF, bF, bF] (hy := (Or.inl ⟨by rfl, by intro w' s0; go_simp; with_reducible rfl⟩)) (hS := hHeld) (h := ?_)
      refine join_ (σ := Value × Value × Option Addr × Nat × Nat × Option Addr × Nat × Nat × Nat) 2 #[bT, bT, bT, bT, bT, bT, bT, bT, bF, bF] (fun s => [(25, .agg #[s.1, s.2.1]), (28, .tuple #[.agg #[.slice s.2.2.1 s.2.2.2.1 s.2.2.2.2.1, .slice s.2.2.2.2.2.1 s.2.2.2.2.2.2.1 s.2.2.2.2.2.2.2.1], .bool b]), (24, .tuple #[.agg #[.slice s.2.2.1 s.2.2.2.1 s.2.2.2.2.1, .slice s.2.2.2.2.2.1 s.2.2.2.2.2.2.1 s.2.2.2.2.2.2.2.1], .bool b]), (29, .agg #[.slice s.2.2.1 s.2.2.2.1 s.2.2.2.2.1, .slice s.2.2.2.2.2.1 s.2.2.2.2.2.2.1 s.2.2.2.2.2.2.2.1]), (30, .bool b), (3, .pointer (some ⟨s.2.2.2.2.2.2.2.2, 0, none⟩))]) (fun s w' => (w'.cell? ⟨w.heap.size, 4, none⟩ = some (.slice A os.length c)) ∧ Blk w' s.2.2.2.2.2.2.2.2 #[.slice none 0 0, .slice none 0 0] 42 ∧ W1.drew.heap.size ≤ s.2.2.2.2.2.2.2.2 ∧ Bel W1.drew w') ?_ ?_
      rotate_left
      · intro hCont
        refine two_ (i := 0) (j := 7) (Ni := some 25) (Nj := some 3) #[bT, bT, bT, bF, bF, bF, bF, bF, bF, bF] #[bF, bT, bT, bF, bF, bF, bF, bT, bF, bF] rfl rfl rfl rfl (by kernel_rfl) (by decide) (by decide) (fun K hK => ?_) (fun K hK => ?_)
        · skip
          refine goes_ Tryz.func133 (by kernel_rfl) rfl #[] (by rfl) rfl rfl (by simp only [List.map_toArray, List.map_cons, List.map_nil]) ?_
          with_reducible refine (specPoolNew_c _).mono ?_
          rintro e w1_ ⟨va, vb, bva, rfl, ho, X1⟩
          have D1 := Lib.hid (Bel.tr D0.out X1)
          have P1 : Hid (OwnP w1_ W1.drew.heap.size va vb newP bva) := Lib.hid (ho.lower D0.out.size)
          clear ho
          refine ⟨_, rfl, ?_⟩
          refine hK.out _ _ (hfx.out _ D1.out) (fun hHeld => ?_)
          clear hK K
          refine nox 25 (h := ?_)
          refine two_ (i := 3) (j := 7) (Ni := some 28) (Nj := some 3) #[bT, bT, bT, bT, bF, bF, bF, bF, bF, bF] #[bT, bT, bT, bF, bF, bF, bF, bT, bF, bF] rfl rfl rfl rfl (by kernel_rfl) (by decide) (by decide) (fun K hK => ?_) (fun K hK => ?_)
          · skip
            refine goes_ Tryz.func104 (by kernel_rfl) rfl #[.agg #[va, vb], .slice A os.length c] (by rfl) rfl rfl (by simp only [List.map_toArray, List.map_cons, List.map_nil]; rfl) ?_
            with_reducible refine (hrun.out _ va vb bva P1.out D1.out).mono ?_
            rintro e w2_ ⟨A2, A3, n2, n3, k2, k3, rfl, hq, X2⟩
            have D2 : Hid (Bel W1.drew w2_) := Lib.hid (D1.out.trans X2.b)
            clear hq
            refine ⟨_, rfl, ?_⟩
            refine hK.out _ _ (hfx.out _ D2.out) (fun hHeld => ?_)
            clear hK K
            refine nox 28 (h := ?_)
            refine ppx (i := 4) (N := some 24) #[bT, bT, bT, bT, bT, bF, bF, bF, bF, bF] (h := ?_)
            refine ppx (i := 5) (N := some 29) #[bT, bT, bT, bT, bT, bT, bF, bF, bF, bF] (h := ?_)
            refine ppx (i := 6) (N := some 30) #[bT, bT, bT, bT, bT, bT, bT, bF, bF, bF] (h := ?_)
            refine one_ (i := 7) (N := some 3) #[bT, bT, bT, bT, bT, bT, bT, bT, bF, bF] rfl rfl (by kernel_rfl) (by decide) (fun K hK => ?_)
            refine value_ (by rfl) rfl (by go_simp; constructor <;> rfl) ?_
            have D3 : Hid (Bel W1.drew (w2_.alloc (.cells #[.slice none 0 0, .slice none 0 0] 42))) := Lib.hid (bel_alloc D2.out (.cells #[.slice none 0 0, .slice none 0 0] 42))
            have O3 : Hid (Blk (w2_.alloc (.cells #[.slice none 0 0, .slice none 0 0] 42)) w2_.heap.size #[.slice none 0 0, .slice none 0 0] 42) := Lib.hid (Blk.new w2_ #[.slice none 0 0, .slice none 0 0] 42)
            have L3 := D2.out.size
            refine hK.out _ _ (hfx.out _ D3.out) (fun hHeld => ?_)
            clear hK K
            refine nox 3 (h := ?_)
            exact nof (hCont (va, vb, A2, n2, k2, A3, n3, k3, w2_.heap.size) _ ⟨hHeld, O3.out, L3, D3.out⟩)
          · skip
            refine value_ (by rfl) rfl (by go_simp; constructor <;> rfl) ?_
            have D2 : Hid (Bel W1.drew (w1_.alloc (.cells #[.slice none 0 0, .slice none 0 0] 42))) := Lib.hid (bel_alloc D1.out (.cells #[.slice none 0 0, .slice none 0 0] 42))
            have P2 := Lib.hid (OwnP.bel P1.out (bel_alloc (Below.refl _ _) (.cells #[.slice none 0 0, .slice none 0 0] 42)))
            have O2 : Hid (Blk (w1_.alloc (.cells #[.slice none 0 0, .slice none 0 0] 42)) w1_.heap.size #[.slice none 0 0, .slice none 0 0] 42) := Lib.hid (Blk.new w1_ #[.slice none 0 0, .slice none 0 0] 42)
            have L2 := D1.out.size
            refine hK.out _ _ (hfx.out _ D2.out) (fun hHeld => ?_)
            clear hK K
            refine nox 3 (h := ?_)
            refine one_ (i := 3) (N := some 28) #[bT, bT, bT, bT, bF, bF, bF, bT, bF, bF] rfl rfl (by kernel_rfl) (by decide) (fun K hK => ?_)
            refine goes_ Tryz.func104 (by kernel_rfl) rfl #[.agg #[va, vb], .slice A os.length c] (by rfl) rfl rfl (by simp only [List.map_toArray, List.map_cons, List.map_nil]; rfl) ?_
            with_reducible refine (hrun.out _ va vb bva P2.out D2.out).mono ?_
            rintro e w3_ ⟨A2, A3, n2, n3, k2, k3, rfl, hq, X3⟩
            have D3 : Hid (Bel W1.drew w3_) := Lib.hid (D2.out.trans X3.b)
            clear hq
            have O3 := Lib.hid (X3.k _ _ _ (by decide) (by decide) (by decide) O2.out)
            refine ⟨_, rfl, ?_⟩
            refine hK.out _ _ (hfx.out _ D3.out) (fun hHeld => ?_)
            clear hK K
            refine nox 28 (h := ?_)
            refine ppx (i := 4) (N := some 24) #[bT, bT, bT, bT, bT, bF, bF, bT, bF, bF] (h := ?_)
            refine ppx (i := 5) (N := some 29) #[bT, bT, bT, bT, bT, bT, bF, bT, bF, bF] (h := ?_)
            refine ppx (i := 6) (N := some 30) #[bT, bT, bT, bT, bT, bT, bT, bT, bF, bF] (h := ?_)
            exact nof (hCont (va, vb, A2, n2, k2, A3, n3, k3, w1_.heap.size) _ ⟨hHeld, O3.out, L2, D3.out⟩)
        · skip
          refine value_ (by rfl) rfl (by go_simp; constructor <;> rfl) ?_
          have D1 : Hid (Bel W1.drew (W1.alloc (.cells #[.slice none 0 0, .slice none 0 0] 42)).drew) := Lib.hid (bel_alloc D0.out (.cells #[.slice none 0 0, .slice none 0 0] 42))
          have O1 : Hid (Blk (W1.alloc (.cells #[.slice none 0 0, .slice none 0 0] 42)).drew W1.drew.heap.size #[.slice none 0 0, .slice none 0 0] 42) := Lib.hid (Blk.new W1.drew #[.slice none 0 0, .slice none 0 0] 42)
          have L1 := D0.out.size
          refine hK.out _ _ (hfx.out _ D1.out) (fun hHeld => ?_)
          clear hK K
          refine nox 3 (h := ?_)
          refine one_ (i := 0) (N := some 25) #[bT, bT, bT, bF, bF, bF, bF, bT, bF, bF] rfl rfl (by kernel_rfl) (by decide) (fun K hK => ?_)
          refine goes_ Tryz.func133 (by kernel_rfl) rfl #[] (by rfl) rfl rfl (by simp only [List.map_toArray, List.map_cons, List.map_nil]) ?_
          with_reducible refine (specPoolNew_c _).mono ?_
          rintro e w2_ ⟨va, vb, bva, rfl, ho, X2⟩
          have D2 := Lib.hid (Bel.tr D1.out X2)
          have O2 := Lib.hid (Blk.bel O1.out X2)
          have P2 : Hid (OwnP w2_ W1.drew.heap.size va vb newP bva) := Lib.hid (ho.lower D1.out.size)
          clear ho
          refine ⟨_, rfl, ?_⟩
          refine hK.out _ _ (hfx.out _ D2.out) (fun hHeld => ?_)
          clear hK K
          refine nox 25 (h := ?_)
          refine one_ (i := 3) (N := some 28) #[bT, bT, bT, bT, bF, bF, bF, bT, bF, bF] rfl rfl (by kernel_rfl) (by decide) (fun K hK => ?_)
          refine goes_ Tryz.func104 (by kernel_rfl) rfl #[.agg #[va, vb], .slice A os.length c] (by rfl) rfl rfl (by simp only [List.map_toArray, List.map_cons, List.map_nil]; rfl) ?_
          with_reducible refine (hrun.out _ va vb bva P2.out D2.out).mono ?_
          rintro e w3_ ⟨A2, A3, n2, n3, k2, k3, rfl, hq, X3⟩
          have D3 : Hid (Bel W1.drew w3_) := Lib.hid (D2.out.trans X3.b)
          clear hq
          have O3 := Lib.hid (X3.k _ _ _ (by decide) (by decide) (by decide) O2.out)
          refine ⟨_, rfl, ?_⟩
          refine hK.out _ _ (hfx.out _ D3.out) (fun hHeld => ?_)
          clear hK K
          refine nox 28 (h := ?_)
          refine ppx (i := 4) (N := some 24) #[bT, bT, bT, bT, bT, bF, bF, bT, bF, bF] (h := ?_)
          refine ppx (i := 5) (N := some 29) #[bT, bT, bT, bT, bT, bT, bF, bT, bF, bF] (h := ?_)
          refine ppx (i := 6) (N := some 30) #[bT, bT, bT, bT, bT, bT, bT, bT, bF, bF] (h := ?_)
          exact nof (hCont (va, vb, A2, n2, k2, A3, n3, k3, W1.heap.size) _ ⟨hHeld, O3.out, L1, D3.out⟩)
      rintro ⟨va, vb, A2, n2, k2, A3, n3, k3, nb⟩ w3 ⟨hHeld, hO, hL, hD⟩
      dsimp only at hO hL
      have r0 := hO.cell 0
      have r1 := hO.cell 1
      have f0 := hO.free 0
      have f1 := hO.free 1
      simp at r0 r1
      refine norm_ (a' := ?_) ?_ ?_
      rotate_left
      · simp only [putAll, Act.put, lA, lB, lC]
        rfl
      refine last_ (i := 8) (N := none) #[bT, bT, bT, bT, bT, bT, bT, bT, bT, bF] rfl rfl (by kernel_rfl) (by decide) (fun K hK => ?_)
      refine skip_ (by rfl) rfl (by go_simp; rfl) ?_
      refine hK.out _ _ ?_
      clear hK K
      refine ppx (i := 9) (N := some 4) #[bT, bT, bT, bT, bT, bT, bT, bT, bT, bT] (h := ?_)
      refine done_ (by kernel_rfl) ?_
      have hb5 : Bel W1.drew ((w3.setCell ⟨nb, 0, none⟩ (.slice A2 n2 k2)).setCell ⟨nb, 1, none⟩ (.slice A3 n3 k3)) := bel_set (bel_set hD hL 0 (.slice A2 n2 k2)) hL 1 (.slice A3 n3 k3)
      clear hO hD hL f0 f1 r0 r1 hHeld D0 s0 hfx hrun
      go_wp2
      go_ret
      exact ⟨rfl, (HW.out.tr (Below.refl _ _).drew).tr hb5⟩
  · have hno : (t && ((leads || !alone) && (b && d))) = false := by cases t <;> cases leads <;> cases alone <;> cases d <;> simp_all
    rw [hno]
    clear hno
    cases t <;> cases leads <;> cases alone <;> cases d <;> first
      | exact absurd ⟨rfl, by decide, rfl⟩ hgo
      | (clear hgo
         go_wp2_with (go_at_call 89; refine (HI.out _).mono ?_; rintro e w' ⟨rfl, rfl⟩)
         go_ret
         exact ⟨rfl, bel_alloc (Below.refl _ _) _⟩)
end Go.Proofs.YtccllgpaafgjaaaGreat

namespace Go.Proofs.YtccllgpaafgjaaaGreat
open Go.RowKit Go.Proofs.YtccllgpaafgjaaaGreatW.PrintWords
structure SmallN (n : Node) : Prop where
  ops : SmallOs n.ops
theorem reads2 {w : World} {nb : Nat} {u1 l1 a1 u2 l2 a2 : Bool} {t1 t2 : Int} {A1 A2 : Option Addr} {c1 c2 : Nat} (hB : Blk w nb #[.bool u1, .int .i64 t1, .bool l1, .bool a1, .slice A1 0 c1, .bool u2, .int .i64 t2, .bool l2, .bool a2, .slice A2 0 c2] 25) : kNode.C w (some ⟨nb, 0, none⟩) 2 [⟨u1, t1, l1, a1, []⟩, ⟨u2, t2, l2, a2, []⟩] := by
 have hz : ∀ A, kOp.C w A ([] : List Op).length [] := fun A => ⟨rfl, by simp, fun h => absurd h (Nat.lt_irrefl 0)⟩
 refine ⟨rfl, by omega, fun _ => ⟨_, rfl, fun j p hj => ?_⟩⟩
 match j, hj with
 | 0, hj =>
  obtain rfl := Option.some.inj hj
  refine ⟨[.bool u1, .int .i64 t1, .bool l1, .bool a1, .slice A1 0 c1], by first | rfl | exact ⟨[.bool u1], _, rfl, rfl, ⟨[.int .i64 t1], _, rfl, rfl, ⟨[.bool l1], _, rfl, rfl, ⟨[.bool a1], [.slice A1 0 c1], rfl, rfl, ⟨A1, c1, rfl, Nat.zero_le _, hz A1⟩⟩⟩⟩⟩, by first | rfl | exact ⟨[.bool u1], _, rfl, rfl, ⟨[.int .i64 t1], _, rfl, rfl, ⟨[.bool l1], _, rfl, rfl, ⟨[.bool a1], [.slice A1 0 c1], rfl, rfl, ⟨A1, c1, rfl, Nat.zero_le _, hz A1⟩⟩⟩⟩⟩, fun i u hu => ?_⟩
  rw [Addr.add_lit, hB.cell]
  show (#[_, _, _, _, _, _, _, _, _, _] : Array Value)[0 + (0 * 5 + i)]? = _
  match i, hu with
  | 0, hu => exact hu
  | 1, hu => exact hu
  | 2, hu => exact hu
  | 3, hu => exact hu
  | 4, hu => exact hu
  | i + 5, hu => simp at hu
 | 1, hj =>
  obtain rfl := Option.some.inj hj
  refine ⟨[.bool u2, .int .i64 t2, .bool l2, .bool a2, .slice A2 0 c2], by first | rfl | exact ⟨[.bool u2], _, rfl, rfl, ⟨[.int .i64 t2], _, rfl, rfl, ⟨[.bool l2], _, rfl, rfl, ⟨[.bool a2], [.slice A2 0 c2], rfl, rfl, ⟨A2, c2, rfl, Nat.zero_le _, hz A2⟩⟩⟩⟩⟩, by first | rfl | exact ⟨[.bool u2], _, rfl, rfl, ⟨[.int .i64 t2], _, rfl, rfl, ⟨[.bool l2], _, rfl, rfl, ⟨[.bool a2], [.slice A2 0 c2], rfl, rfl, ⟨A2, c2, rfl, Nat.zero_le _, hz A2⟩⟩⟩⟩⟩, fun i u hu => ?_⟩
  rw [Addr.add_lit, hB.cell]
  show (#[_, _, _, _, _, _, _, _, _, _] : Array Value)[0 + (1 * 5 + i)]? = _
  match i, hu with
  | 0, hu => exact hu
  | 1, hu => exact hu
  | 2, hu => exact hu
  | 3, hu => exact hu
  | 4, hu => exact hu
  | i + 5, hu => simp at hu
 | j + 2, hj => simp at hj
set_option maxHeartbeats 2000000 in
theorem eqNode_c {w : World} {A A' : Option Addr} {c c' : Nat} {n : Node} (hC : kOp.C w A n.ops.length n.ops) (hC' : kOp.C w A' n.ops.length n.ops) (hl : n.ops.length ≤ 1048576) :
  Calls Tryz.prog 44 #[.agg #[.bool n.up, .int .i64 n.term, .bool n.leads, .bool n.alone, .slice A n.ops.length c], .agg #[.bool n.up, .int .i64 n.term, .bool n.leads, .bool n.alone, .slice A' n.ops.length c']] w (Ret (.bool true) w) := by
 have H := Lib.hid hC
 have H' := Lib.hid hC'
 clear hC hC'
 go_enter Tryz.func44, Tryz.ntmps44
 go_wp2_with fail
 refine (eqOpS_c (Kd.C_alloc (Kd.C_alloc H.out _) _) (Kd.C_alloc (Kd.C_alloc H'.out _) _) hl).mono ?_
 rintro e w1 ⟨rfl, hb⟩
 go_wp2
 go_ret
 exact ⟨rfl, (bel_alloc (bel_alloc (Below.refl _ _) _) _ : Bel w _).tr hb⟩
end Go.Proofs.YtccllgpaafgjaaaGreat

namespace Go.Proofs.YtccllgpaafgjaaaGreat
open Go.RowKit Go.Proofs.YtccllgpaafgjaaaGreatW.PrintWords Go.Proofs.YtccllgpaafgjaaaGreatW.PrintLast
def nodePF (n : Node) : Pool := if nodeOk n then runV newP n.ops else noP
theorem nodePF_yes {n : Node} (h : nodeOk n = true) : ∃ q, nodePF n = q ∧ runP newP n.ops = some q ∧ runV newP n.ops = q := by
 obtain ⟨q, hq⟩ := (nodeOk_iff newP_ok).1 h
 have := (runV_ok newP_ok hq.run).1
 exact ⟨q, by unfold nodePF; rw [h]; exact this, hq.run, this⟩
section
variable {w : World} {A : Option Addr} {c : Nat} {n : Node}
set_option maxHeartbeats 16000000 in
set_option maxRecDepth 10000 in
theorem implNodeRun_c {x : Pool} (hC : kOp.C w A n.ops.length n.ops) (ho : SmallOs n.ops) (hr : runP newP n.ops = some x) :
  Calls Tryz.prog 134 #[.agg #[.bool n.up, .int .i64 n.term, .bool n.leads, .bool n.alone, .slice A n.ops.length c]] w (MadeP w x) := by
 have HC := Lib.hid hC
 have HO := Lib.hid ho
 have HRX := Lib.hid hr
 have HNP := Lib.hid implPoolNew_c
 obtain ⟨np, hnp⟩ : ∃ np, newP = np := ⟨_, rfl⟩
 have HNK : Hid (PoolP np) := Lib.hid (hnp ▸ newP_ok)
 rw [hnp] at HNP HRX
 clear hC ho hr hnp
 go_enter Tryz.func134, Tryz.ntmps134
 go_wp2
 have hN : Blk ((w.alloc (.cells #[.bool n.up, .int .i64 n.term, .bool n.leads, .bool n.alone, .slice A n.ops.length c] 25)).alloc (.cells #[.slice none 0 0, .slice none 0 0] 42)) w.heap.size #[.bool n.up, .int .i64 n.term, .bool n.leads, .bool n.alone, .slice A n.ops.length c] 25 := (Blk.new _ _ _).alloc _
 have hR : Blk ((w.alloc (.cells #[.bool n.up, .int .i64 n.term, .bool n.leads, .bool n.alone, .slice A n.ops.length c] 25)).alloc (.cells #[.slice none 0 0, .slice none 0 0] 42)) (w.heap.size + 1) #[.slice none 0 0, .slice none 0 0] 42 := Blk.nw2 _ _ _ _
 have hW : Bel w ((w.alloc (.cells #[.bool n.up, .int .i64 n.term, .bool n.leads, .bool n.alone, .slice A n.ops.length c] 25)).alloc (.cells #[.slice none 0 0, .slice none 0 0] 42)) := bel_alloc (bel_alloc (Below.refl _ _) _) _
 generalize ((w.alloc (.cells #[.bool n.up, .int .i64 n.term, .bool n.leads, .bool n.alone, .slice A n.ops.length c] 25)).alloc (.cells #[.slice none 0 0, .slice none 0 0] 42)) = W0 at hN hR hW ⊢
 have HW := Lib.hid hW
 have HR := Lib.hid hR
 have hfx := Lib.hid (fun (W : World) (hb : Bel W0.drew W) => (show W.cell? ⟨w.heap.size, 4, none⟩ = some (.slice A n.ops.length c) by rw [((hN.bel (Below.refl _ _).drew).bel hb).cell]; rfl))
 have hC1 : kOp.C W0.drew A n.ops.length n.ops := kOp_keep HC.out (hW.tr (Below.refl _ _).drew)
 have D0 : Hid (Bel W0.drew W0.drew) := Lib.hid (Below.refl _ _)
 have hrun := Lib.hid (fun (W' : World) (w0_ w1_ : Value) (bv : List Value) (h : OwnP W' W0.drew.heap.size w0_ w1_ np bv) (hb : Bel W0.drew W') => (by
  have h2 := runV_ok HNK.out HRX.out
  obtain ⟨A5, B5, k5, m5, rfl, rfl, hpi⟩ := h.reads
  have h3 := doAll_c (c2 := c) hpi HNK.out.small (kOp_keep hC1 hb) HO.out
  rw [h2.1, h2.2] at h3
  exact h3 : Calls Tryz.prog 101 #[.agg #[w0_, w1_], .slice A n.ops.length c] W' (MadePB W' x true)))
 clear hN hW hR hC1
 refine start_ (n := 10) (S := fun w' => w'.cell? ⟨w.heap.size, 4, none⟩ = some (.slice A n.ops.length c)) (ds := [8]) #[bF, bF, bF, bF, bF, bF, bF, bF, bF, bF] (by kernel_rfl) rfl rfl ((hfx.out _ D0.out)) (fun hHeld => ?_)
 refine ppx (i := 1) (N := some 7) #[bF, bT, bF, bF, bF, bF, bF, bF, bF, bF] (h := ?_)
 refine tpx (i := 2) (N := some 8) #[bF, bT, bT, bF, bF, bF, bF, bF, bF, bF] (hy := (Or.inl ⟨by rfl, by intro w' s0; go_simp; with_reducible rfl⟩)) (hS := hHeld) (h := ?_)
 refine join_ (σ := Option Addr × Nat × Option Addr × Nat × Option Addr × Nat × Option Addr × Nat × List Value × Nat) 2 #[bT, bT, bT, bT, bT, bT, bT, bT, bF, bF] (fun s => [(6, .agg #[.slice s.1 np.slots.length s.2.1, .slice s.2.2.1 np.vols.length s.2.2.2.1]), (9, .tuple #[.agg #[.slice s.2.2.2.2.1 x.slots.length s.2.2.2.2.2.1, .slice s.2.2.2.2.2.2.1 x.vols.length s.2.2.2.2.2.2.2.1], .bool true]), (5, .tuple #[.agg #[.slice s.2.2.2.2.1 x.slots.length s.2.2.2.2.2.1, .slice s.2.2.2.2.2.2.1 x.vols.length s.2.2.2.2.2.2.2.1], .bool true]), (10, .agg #[.slice s.2.2.2.2.1 x.slots.length s.2.2.2.2.2.1, .slice s.2.2.2.2.2.2.1 x.vols.length s.2.2.2.2.2.2.2.1]), (11, .bool true), (3, .pointer (some ⟨s.2.2.2.2.2.2.2.2.2, 0, none⟩))]) (fun s w' => (w'.cell? ⟨w.heap.size, 4, none⟩ = some (.slice A n.ops.length c)) ∧ OwnP w' W0.drew.heap.size (.slice s.2.2.2.2.1 x.slots.length s.2.2.2.2.2.1) (.slice s.2.2.2.2.2.2.1 x.vols.length s.2.2.2.2.2.2.2.1) x s.2.2.2.2.2.2.2.2.1 ∧ Blk w' s.2.2.2.2.2.2.2.2.2 #[.slice none 0 0, .slice none 0 0] 42 ∧ W0.drew.heap.size ≤ s.2.2.2.2.2.2.2.2.2 ∧ Bel W0.drew w') ?_ ?_
 rotate_left
 ·intro hCont
  refine two_ (i := 0) (j := 7) (Ni := some 6) (Nj := some 3) #[bT, bT, bT, bF, bF, bF, bF, bF, bF, bF] #[bF, bT, bT, bF, bF, bF, bF, bT, bF, bF] rfl rfl rfl rfl (by kernel_rfl) (by decide) (by decide) (fun K hK => ?_) (fun K hK => ?_)
  ·skip
   refine goes_ Tryz.func79 (by kernel_rfl) rfl #[] (by rfl) rfl rfl (by simp only [List.map_toArray, List.map_cons, List.map_nil]) ?_
   with_reducible refine (HNP.out _).mono ?_
   rintro e w1_ ⟨va, vb, bva, rfl, ho, X1⟩
   have D1 := Lib.hid (Bel.tr D0.out X1)
   obtain ⟨A5, B5, k5, m5, rfl, rfl, hpi⟩ := ho.reads
   have P1 : Hid (OwnP w1_ W0.drew.heap.size (.slice A5 np.slots.length k5) (.slice B5 np.vols.length m5) np bva) := Lib.hid (ho.lower D0.out.size)
   clear ho hpi
   refine ⟨_, rfl, ?_⟩
   refine hK.out _ _ ((hfx.out _ D1.out)) (fun hHeld => ?_)
   clear hK K
   refine nox 6 (h := ?_)
   refine two_ (i := 3) (j := 7) (Ni := some 9) (Nj := some 3) #[bT, bT, bT, bT, bF, bF, bF, bF, bF, bF] #[bT, bT, bT, bF, bF, bF, bF, bT, bF, bF] rfl rfl rfl rfl (by kernel_rfl) (by decide) (by decide) (fun K hK => ?_) (fun K hK => ?_)
   ·skip
    refine goes_ Tryz.func101 (by kernel_rfl) rfl #[.agg #[.slice A5 np.slots.length k5, .slice B5 np.vols.length m5], .slice A n.ops.length c] (by rfl) rfl rfl (by simp only [List.map_toArray, List.map_cons, List.map_nil]; rfl) ?_
    with_reducible refine (hrun.out _ _ _ _ P1.out D1.out).mono ?_
    rintro e w2_ ⟨vc, vd, bvc, rfl, ho, X2⟩
    have D2 : Hid (Bel W0.drew w2_) := Lib.hid (Bel.tr D1.out X2)
    obtain ⟨A2, A3, k2, k3, rfl, rfl, hpi⟩ := ho.reads
    have Q2 : Hid (OwnP w2_ W0.drew.heap.size (.slice A2 x.slots.length k2) (.slice A3 x.vols.length k3) x bvc) := Lib.hid (ho.lower D1.out.size)
    clear ho hpi
    refine ⟨_, rfl, ?_⟩
    refine hK.out _ _ ((hfx.out _ D2.out)) (fun hHeld => ?_)
    clear hK K
    refine nox 9 (h := ?_)
    refine ppx (i := 4) (N := some 5) #[bT, bT, bT, bT, bT, bF, bF, bF, bF, bF] (h := ?_)
    refine ppx (i := 5) (N := some 10) #[bT, bT, bT, bT, bT, bT, bF, bF, bF, bF] (h := ?_)
    refine ppx (i := 6) (N := some 11) #[bT, bT, bT, bT, bT, bT, bT, bF, bF, bF] (h := ?_)
    refine one_ (i := 7) (N := some 3) #[bT, bT, bT, bT, bT, bT, bT, bT, bF, bF] rfl rfl (by kernel_rfl) (by decide) (fun K hK => ?_)
    refine value_ (by rfl) rfl (by go_simp; constructor <;> rfl) ?_
    have D3 : Hid (Bel W0.drew (w2_.alloc (.cells #[.slice none 0 0, .slice none 0 0] 42))) := Lib.hid (bel_alloc D2.out (.cells #[.slice none 0 0, .slice none 0 0] 42))
    have Q3 := Lib.hid (OwnP.bel Q2.out (bel_alloc (Below.refl _ _) (.cells #[.slice none 0 0, .slice none 0 0] 42)))
    have O3 : Hid (Blk (w2_.alloc (.cells #[.slice none 0 0, .slice none 0 0] 42)) w2_.heap.size #[.slice none 0 0, .slice none 0 0] 42) := Lib.hid (Blk.new w2_ _ _)
    have L3 := D2.out.size
    refine hK.out _ _ ((hfx.out _ D3.out)) (fun hHeld => ?_)
    clear hK K
    refine nox 3 (h := ?_)
    exact nof (hCont (A5, k5, B5, m5, A2, k2, A3, k3, bvc, w2_.heap.size) _ ⟨hHeld, Q3.out, O3.out, L3, D3.out⟩)
   ·skip
    refine value_ (by rfl) rfl (by go_simp; constructor <;> rfl) ?_
    have D2 : Hid (Bel W0.drew (w1_.alloc (.cells #[.slice none 0 0, .slice none 0 0] 42))) := Lib.hid (bel_alloc D1.out (.cells #[.slice none 0 0, .slice none 0 0] 42))
    have P2 := Lib.hid (OwnP.bel P1.out (bel_alloc (Below.refl _ _) (.cells #[.slice none 0 0, .slice none 0 0] 42)))
    have O2 : Hid (Blk (w1_.alloc (.cells #[.slice none 0 0, .slice none 0 0] 42)) w1_.heap.size #[.slice none 0 0, .slice none 0 0] 42) := Lib.hid (Blk.new w1_ _ _)
    have L2 := D1.out.size
    refine hK.out _ _ ((hfx.out _ D2.out)) (fun hHeld => ?_)
    clear hK K
    refine nox 3 (h := ?_)
    refine one_ (i := 3) (N := some 9) #[bT, bT, bT, bT, bF, bF, bF, bT, bF, bF] rfl rfl (by kernel_rfl) (by decide) (fun K hK => ?_)
    refine goes_ Tryz.func101 (by kernel_rfl) rfl #[.agg #[.slice A5 np.slots.length k5, .slice B5 np.vols.length m5], .slice A n.ops.length c] (by rfl) rfl rfl (by simp only [List.map_toArray, List.map_cons, List.map_nil]; rfl) ?_
    with_reducible refine (hrun.out _ _ _ _ P2.out D2.out).mono ?_
    rintro e w3_ ⟨vc, vd, bvc, rfl, ho, X3⟩
    have D3 : Hid (Bel W0.drew w3_) := Lib.hid (Bel.tr D2.out X3)
    obtain ⟨A2, A3, k2, k3, rfl, rfl, hpi⟩ := ho.reads
    have Q3 : Hid (OwnP w3_ W0.drew.heap.size (.slice A2 x.slots.length k2) (.slice A3 x.vols.length k3) x bvc) := Lib.hid (ho.lower D2.out.size)
    clear ho hpi
    have O3 := Lib.hid (Blk.bel O2.out X3)
    refine ⟨_, rfl, ?_⟩
    refine hK.out _ _ ((hfx.out _ D3.out)) (fun hHeld => ?_)
    clear hK K
    refine nox 9 (h := ?_)
    refine ppx (i := 4) (N := some 5) #[bT, bT, bT, bT, bT, bF, bF, bT, bF, bF] (h := ?_)
    refine ppx (i := 5) (N := some 10) #[bT, bT, bT, bT, bT, bT, bF, bT, bF, bF] (h := ?_)
    refine ppx (i := 6) (N := some 11) #[bT, bT, bT, bT, bT, bT, bT, bT, bF, bF] (h := ?_)
    exact nof (hCont (A5, k5, B5, m5, A2, k2, A3, k3, bvc, w1_.heap.size) _ ⟨hHeld, Q3.out, O3.out, L2, D3.out⟩)
  ·skip
   refine value_ (by rfl) rfl (by go_simp; constructor <;> rfl) ?_
   have D1 : Hid (Bel W0.drew (W0.alloc (.cells #[.slice none 0 0, .slice none 0 0] 42)).drew) := Lib.hid (bel_alloc D0.out (.cells #[.slice none 0 0, .slice none 0 0] 42))
   have O1 : Hid (Blk (W0.alloc (.cells #[.slice none 0 0, .slice none 0 0] 42)).drew W0.drew.heap.size #[.slice none 0 0, .slice none 0 0] 42) := Lib.hid (Blk.new W0.drew _ _)
   have L1 := D0.out.size
   refine hK.out _ _ ((hfx.out _ D1.out)) (fun hHeld => ?_)
   clear hK K
   refine nox 3 (h := ?_)
   refine one_ (i := 0) (N := some 6) #[bT, bT, bT, bF, bF, bF, bF, bT, bF, bF] rfl rfl (by kernel_rfl) (by decide) (fun K hK => ?_)
   refine goes_ Tryz.func79 (by kernel_rfl) rfl #[] (by rfl) rfl rfl (by simp only [List.map_toArray, List.map_cons, List.map_nil]) ?_
   with_reducible refine (HNP.out _).mono ?_
   rintro e w2_ ⟨va, vb, bva, rfl, ho, X2⟩
   have D2 := Lib.hid (Bel.tr D1.out X2)
   obtain ⟨A5, B5, k5, m5, rfl, rfl, hpi⟩ := ho.reads
   have O2 := Lib.hid (Blk.bel O1.out X2)
   have P2 : Hid (OwnP w2_ W0.drew.heap.size (.slice A5 np.slots.length k5) (.slice B5 np.vols.length m5) np bva) := Lib.hid (ho.lower D1.out.size)
   clear ho hpi
   refine ⟨_, rfl, ?_⟩
   refine hK.out _ _ ((hfx.out _ D2.out)) (fun hHeld => ?_)
   clear hK K
   refine nox 6 (h := ?_)
   refine one_ (i := 3) (N := some 9) #[bT, bT, bT, bT, bF, bF, bF, bT, bF, bF] rfl rfl (by kernel_rfl) (by decide) (fun K hK => ?_)
   refine goes_ Tryz.func101 (by kernel_rfl) rfl #[.agg #[.slice A5 np.slots.length k5, .slice B5 np.vols.length m5], .slice A n.ops.length c] (by rfl) rfl rfl (by simp only [List.map_toArray, List.map_cons, List.map_nil]; rfl) ?_
   with_reducible refine (hrun.out _ _ _ _ P2.out D2.out).mono ?_
   rintro e w3_ ⟨vc, vd, bvc, rfl, ho, X3⟩
   have D3 : Hid (Bel W0.drew w3_) := Lib.hid (Bel.tr D2.out X3)
   obtain ⟨A2, A3, k2, k3, rfl, rfl, hpi⟩ := ho.reads
   have Q3 : Hid (OwnP w3_ W0.drew.heap.size (.slice A2 x.slots.length k2) (.slice A3 x.vols.length k3) x bvc) := Lib.hid (ho.lower D2.out.size)
   clear ho hpi
   have O3 := Lib.hid (Blk.bel O2.out X3)
   refine ⟨_, rfl, ?_⟩
   refine hK.out _ _ ((hfx.out _ D3.out)) (fun hHeld => ?_)
   clear hK K
   refine nox 9 (h := ?_)
   refine ppx (i := 4) (N := some 5) #[bT, bT, bT, bT, bT, bF, bF, bT, bF, bF] (h := ?_)
   refine ppx (i := 5) (N := some 10) #[bT, bT, bT, bT, bT, bT, bF, bT, bF, bF] (h := ?_)
   refine ppx (i := 6) (N := some 11) #[bT, bT, bT, bT, bT, bT, bT, bT, bF, bF] (h := ?_)
   exact nof (hCont (A5, k5, B5, m5, A2, k2, A3, k3, bvc, W0.heap.size) _ ⟨hHeld, Q3.out, O3.out, L1, D3.out⟩)
 rintro ⟨A5, k5, B5, m5, A2, k2, A3, k3, bvc, nb⟩ w3 ⟨hHeld, hQ, hO, hL, hD⟩
 dsimp only at hQ hO hL
 have r0 := hO.cell 0
 have r1 := hO.cell 1
 have f0 := hO.free 0
 have f1 := hO.free 1
 simp at r0 r1
 refine norm_ (a' := ?_) ?_ ?_
 rotate_left
 ·simp only [putAll, Act.put, lA, lB, lC]
  rfl
 refine last_ (i := 8) (N := none) #[bT, bT, bT, bT, bT, bT, bT, bT, bT, bF] rfl rfl (by kernel_rfl) (by decide) (fun K hK => ?_)
 refine skip_ (by rfl) rfl (by go_simp; rfl) ?_
 refine hK.out _ _ ?_
 clear hK K
 refine ppx (i := 9) (N := some 4) #[bT, bT, bT, bT, bT, bT, bT, bT, bT, bT] (h := ?_)
 refine done_ (by kernel_rfl) ?_
 have hO1 := hO.set 0 (.slice A2 x.slots.length k2) (cs' := #[.slice A2 x.slots.length k2, .slice none 0 0]) rfl
 have hO2 := hO1.set 1 (.slice A3 x.vols.length k3) (cs' := #[.slice A2 x.slots.length k2, .slice A3 x.vols.length k3]) rfl
 have hq2 := (hQ.far hO (by decide) (by decide) (by decide) 0 (.slice A2 x.slots.length k2)).far hO1 (by decide) (by decide) (by decide) 1 (.slice A3 x.vols.length k3)
 have hb5 : Bel W0.drew ((w3.setCell ⟨nb, 0, none⟩ (.slice A2 x.slots.length k2)).setCell ⟨nb, 1, none⟩ (.slice A3 x.vols.length k3)) := bel_set (bel_set hD hL 0 (.slice A2 x.slots.length k2)) hL 1 (.slice A3 x.vols.length k3)
 have hR3 : Blk w3 (w.heap.size + 1) #[.slice none 0 0, .slice none 0 0] 42 := Blk.bel (w := W0.drew) (HR.out.bel (Below.refl _ _).drew) hD
 have hne : ¬ nb = w.heap.size + 1 := by have h1 := HR.out.lt; have hsz : W0.drew.heap.size = W0.heap.size := rfl; omega
 have hR4 := (hR3.apart hne 0 (.slice A2 x.slots.length k2)).apart hne 1 (.slice A3 x.vols.length k3)
 clear hO hO1 hD hL hQ f0 f1 r0 r1 hHeld D0 hrun hR3
 generalize ((w3.setCell ⟨nb, 0, none⟩ (.slice A2 x.slots.length k2)).setCell ⟨nb, 1, none⟩ (.slice A3 x.vols.length k3)) = W6 at hO2 hq2 hb5 hR4 ⊢
 have HB := Lib.hid (Bel.tr (b := W0.drew) (HW.out.tr (Below.refl _ _).drew) hb5)
 have HU := Lib.hid (hq2.lower (HW.out.tr (Below.refl _ _).drew).size)
 have HR6 := Lib.hid hR4
 have t0 := hO2.cell 0
 have t1 := hO2.cell 1
 have ty := hO2.lt
 have u0 := HR6.out.cell 0
 have u1 := HR6.out.cell 1
 have g0 := HR6.out.free 0
 have g1 := HR6.out.free 1
 have y := HR6.out.lt
 simp at t0 t1 u0 u1
 clear hO2 hq2 hb5 hR4
 go_wp2
 have hR1 := HR6.out.set 0 (.slice A2 x.slots.length k2) (cs' := #[.slice A2 x.slots.length k2, .slice none 0 0]) rfl
 have hR2 := hR1.set 1 (.slice A3 x.vols.length k3) (cs' := #[.slice A2 x.slots.length k2, .slice A3 x.vols.length k3]) rfl
 have hu2 := (HU.out.far HR6.out (by decide) (by decide) (by decide) 0 (.slice A2 x.slots.length k2)).far hR1 (by decide) (by decide) (by decide) 1 (.slice A3 x.vols.length k3)
 have hb3 := bel_set (bel_set HB.out (Nat.le_succ _) 0 (.slice A2 x.slots.length k2)) (Nat.le_succ _) 1 (.slice A3 x.vols.length k3)
 refine bodyPost_ret (results_cell_row rfl _ _ (w.heap.size + 1) 42 #[.slice A2 x.slots.length k2, .slice A3 x.vols.length k3] (0, 0) _ rfl hR2 Tryz.underlying42 rfl (by kernel_rfl)) rfl ?_
 exact ⟨_, _, bvc, rfl, hu2, hb3⟩
end
end Go.Proofs.YtccllgpaafgjaaaGreat

namespace Go.Proofs.YtccllgpaafgjaaaGreat
open Go.RowKit Go.Proofs.YtccllgpaafgjaaaGreatW.PrintWords Go.Proofs.YtccllgpaafgjaaaGreatW.PrintLast
abbrev wset5 (W : World) (b : Nat) (u0 u1 u2 u3 u4 : Value) : World := ((((W.setCell ⟨b, 0, none⟩ u0).setCell ⟨b, 1, none⟩ u1).setCell ⟨b, 2, none⟩ u2).setCell ⟨b, 3, none⟩ u3).setCell ⟨b, 4, none⟩ u4
theorem Blk.set5 {W : World} {b : Nat} {x0 x1 x2 x3 x4 : Value} {t : TypeId} (h : Blk W b #[x0, x1, x2, x3, x4] t) (u0 u1 u2 u3 u4 : Value) : Blk (wset5 W b u0 u1 u2 u3 u4) b #[u0, u1, u2, u3, u4] t :=
 ((((h.set 0 u0 (cs' := #[u0, x1, x2, x3, x4]) rfl).set 1 u1 (cs' := #[u0, u1, x2, x3, x4]) rfl).set 2 u2 (cs' := #[u0, u1, u2, x3, x4]) rfl).set 3 u3 (cs' := #[u0, u1, u2, u3, x4]) rfl).set 4 u4 rfl
theorem bel_set5 {w w1 : World} (h : Bel w w1) {b : Nat} (hb : w.heap.size ≤ b) (u0 u1 u2 u3 u4 : Value) : Bel w (wset5 w1 b u0 u1 u2 u3 u4) := bel_set (bel_set (bel_set (bel_set (bel_set h hb 0 u0) hb 1 u1) hb 2 u2) hb 3 u3) hb 4 u4
theorem Blk.apart5 {W : World} {b d : Nat} {cs : Array Value} {t : TypeId} (h : Blk W b cs t) (hne : d ≠ b) (u0 u1 u2 u3 u4 : Value) : Blk (wset5 W d u0 u1 u2 u3 u4) b cs t := ((((h.apart hne 0 u0).apart hne 1 u1).apart hne 2 u2).apart hne 3 u3).apart hne 4 u4
theorem OwnO.far5 {W : World} {base b : Nat} {v : Value} {s : List Op} (h : OwnO W base v s) {x0 x1 x2 x3 x4 : Value} (hB : Blk W b #[x0, x1, x2, x3, x4] 25) (u0 u1 u2 u3 u4 : Value) : OwnO (wset5 W b u0 u1 u2 u3 u4) base v s := by
 have h1 := hB.set 0 u0 (cs' := #[u0, x1, x2, x3, x4]) rfl
 have h2 := h1.set 1 u1 (cs' := #[u0, u1, x2, x3, x4]) rfl
 have h3 := h2.set 2 u2 (cs' := #[u0, u1, u2, x3, x4]) rfl
 have h4 := h3.set 3 u3 (cs' := #[u0, u1, u2, u3, x4]) rfl
 exact ((((h.far hB (by decide) 0 u0).far h1 (by decide) 1 u1).far h2 (by decide) 2 u2).far h3 (by decide) 3 u3).far h4 (by decide) 4 u4
section
variable {w : World} {A : Option Addr} {c : Nat} {n : Node}
set_option maxHeartbeats 8000000 in
theorem implNodeClone_c (hC : kOp.C w A n.ops.length n.ops) (hl : n.ops.length ≤ 1048576) :
  Calls Tryz.prog 95 #[.agg #[.bool n.up, .int .i64 n.term, .bool n.leads, .bool n.alone, .slice A n.ops.length c]] w (MadeNd w n) := by
 have HC := Lib.hid hC
 clear hC
 go_enter Tryz.func95, Tryz.ntmps95
 go_wp2_with fail
 have hB : Blk ((w.alloc (.cells #[.bool n.up, .int .i64 n.term, .bool n.leads, .bool n.alone, .slice A n.ops.length c] 25)).alloc (.cells #[.bool false, .int .i64 0, .bool false, .bool false, .slice none 0 0] 25)) w.heap.size #[.bool n.up, .int .i64 n.term, .bool n.leads, .bool n.alone, .slice A n.ops.length c] 25 := (Blk.new _ _ _).alloc _
 have hR : Blk ((w.alloc (.cells #[.bool n.up, .int .i64 n.term, .bool n.leads, .bool n.alone, .slice A n.ops.length c] 25)).alloc (.cells #[.bool false, .int .i64 0, .bool false, .bool false, .slice none 0 0] 25)) (w.heap.size + 1) #[.bool false, .int .i64 0, .bool false, .bool false, .slice none 0 0] 25 := Blk.nw2 _ _ _ _
 have hb : Bel w ((w.alloc (.cells #[.bool n.up, .int .i64 n.term, .bool n.leads, .bool n.alone, .slice A n.ops.length c] 25)).alloc (.cells #[.bool false, .int .i64 0, .bool false, .bool false, .slice none 0 0] 25)) := bel_alloc (bel_alloc (Below.refl _ _) _) _
 generalize ((w.alloc (.cells #[.bool n.up, .int .i64 n.term, .bool n.leads, .bool n.alone, .slice A n.ops.length c] 25)).alloc (.cells #[.bool false, .int .i64 0, .bool false, .bool false, .slice none 0 0] 25)) = W0 at hB hR hb ⊢
 refine (cloneO_c (kOp_keep HC.out hb) hl).mono ?_
 rintro e w1 ⟨v, rfl, ho, hb1⟩
 have hB1 := hB.bel hb1
 have hR1 := hR.bel hb1
 have hw1 := hb.tr hb1
 have hbs := hb.size
 clear hB hR hb hb1
 obtain ⟨B, d, rfl, hd, hCd⟩ := ho.reads
 have HO := Lib.hid (show OwnO w1 w.heap.size (.slice B n.ops.length d) n.ops from own_lower ho hbs)
 have HW := Lib.hid hw1
 clear ho hd hCd hw1
 have b0 := hB1.cell 0
 have b1 := hB1.cell 1
 have b2 := hB1.cell 2
 have b3 := hB1.cell 3
 have b4 := hB1.cell 4
 have bf0 := hB1.free 0
 have bf1 := hB1.free 1
 have bf2 := hB1.free 2
 have bf3 := hB1.free 3
 have bf4 := hB1.free 4
 have by_ := hB1.lt
 have r0 := hR1.cell 0
 have r1 := hR1.cell 1
 have r2 := hR1.cell 2
 have r3 := hR1.cell 3
 have r4 := hR1.cell 4
 have f0 := hR1.free 0
 have f1 := hR1.free 1
 have f2 := hR1.free 2
 have f3 := hR1.free 3
 have f4 := hR1.free 4
 have ry := hR1.lt
 simp at b0 b1 b2 b3 b4 r0 r1 r2 r3 r4
 go_wp2
 have hB2 := hB1.set 4 (.slice B n.ops.length d) (cs' := #[.bool n.up, .int .i64 n.term, .bool n.leads, .bool n.alone, .slice B n.ops.length d]) rfl
 have hR2 := hR1.apart (c := w.heap.size) (by omega) 4 (.slice B n.ops.length d)
 have hR3 := hR2.set5 (.bool n.up) (.int .i64 n.term) (.bool n.leads) (.bool n.alone) (.slice B n.ops.length d)
 have ho3 := OwnO.far5 (HO.out.far hB1 (by decide) 4 (.slice B n.ops.length d)) hR2 (.bool n.up) (.int .i64 n.term) (.bool n.leads) (.bool n.alone) (.slice B n.ops.length d)
 have hb3 := bel_set5 (bel_set HW.out (Nat.le_refl _) 4 (.slice B n.ops.length d)) (Nat.le_succ _) (.bool n.up) (.int .i64 n.term) (.bool n.leads) (.bool n.alone) (.slice B n.ops.length d)
 refine bodyPost_ret (results_cell_row rfl _ _ (w.heap.size + 1) 25 #[.bool n.up, .int .i64 n.term, .bool n.leads, .bool n.alone, .slice B n.ops.length d] (0, 0) _ rfl hR3 Tryz.underlying25 rfl (by kernel_rfl)) rfl ?_
 exact ⟨_, rfl, ho3, hb3⟩
set_option maxHeartbeats 8000000 in
theorem l21Copy_c (hC : kOp.C w A n.ops.length n.ops) (hl : n.ops.length ≤ 1048576) :
  Calls Tryz.prog 92 #[.agg #[.bool n.up, .int .i64 n.term, .bool n.leads, .bool n.alone, .slice A n.ops.length c]] w (MadeNd w n) := by
 have HC := Lib.hid hC
 clear hC
 go_enter Tryz.func92, Tryz.ntmps92
 go_wp2_with (
  at_builtin
  have hB : Blk ((w.alloc (.cells #[.bool n.up, .int .i64 n.term, .bool n.leads, .bool n.alone, .slice A n.ops.length c] 25)).alloc (.cells #[.bool false, .int .i64 0, .bool false, .bool false, .slice none 0 0] 25)) w.heap.size #[.bool n.up, .int .i64 n.term, .bool n.leads, .bool n.alone, .slice A n.ops.length c] 25 := (Blk.new _ _ _).alloc _
  have hR : Blk ((w.alloc (.cells #[.bool n.up, .int .i64 n.term, .bool n.leads, .bool n.alone, .slice A n.ops.length c] 25)).alloc (.cells #[.bool false, .int .i64 0, .bool false, .bool false, .slice none 0 0] 25)) (w.heap.size + 1) #[.bool false, .int .i64 0, .bool false, .bool false, .slice none 0 0] 25 := Blk.nw2 _ _ _ _
  have hb : Bel w ((w.alloc (.cells #[.bool n.up, .int .i64 n.term, .bool n.leads, .bool n.alone, .slice A n.ops.length c] 25)).alloc (.cells #[.bool false, .int .i64 0, .bool false, .bool false, .slice none 0 0] 25)) := bel_alloc (bel_alloc (Below.refl _ _) _) _
  have hz : w.heap.size + 1 + 1 = ((w.alloc (.cells #[.bool n.up, .int .i64 n.term, .bool n.leads, .bool n.alone, .slice A n.ops.length c] 25)).alloc (.cells #[.bool false, .int .i64 0, .bool false, .bool false, .slice none 0 0] 25)).heap.size := by simp
  generalize ((w.alloc (.cells #[.bool n.up, .int .i64 n.term, .bool n.leads, .bool n.alone, .slice A n.ops.length c] 25)).alloc (.cells #[.bool false, .int .i64 0, .bool false, .bool false, .slice none 0 0] 25)) = W0 at hB hR hb hz ⊢
  rw [hz]
  refine Kd.R_append_rows kOp (w0 := W0) W0.heap.size rfl (.tmp 3) (.tmp 5) 23 27 (.agg #[.int .i64 0, .string ⟨#[]⟩, .string ⟨#[]⟩, .int .i64 0, .string ⟨#[]⟩]) 64 rfl Tryz.underlying23 info_opR rfl (by decide) (by decide) _ [] n.ops _ _ _ (fun _ => True) (fun _ => False) rfl rfl (R_emptyO W0 W0.heap.size (Nat.le_refl _)) (Kd.C_alloc (kOp_keep HC.out hb) _) (fun x cs h => by obtain rfl := kOp_open h; exact kOp_mkM _ _ _ x) (fun _ h => h.elim) (fun _ _ => trivial) ?a2 ?a3 ?a4 ?_
  case a2 => exact bel_alloc (Below.refl _ _) _
  case a3 => simp
  case a4 => simp; omega
  intro v w1 hoR hb1 hg hat
  have ho : OwnO w1 W0.heap.size v n.ops := ownO_of_R hoR
  have hB1 := hB.bel hb1
  have hR1 := hR.bel hb1
  have hw1 := hb.tr hb1
  have hbs := hb.size
  clear hB hR hb hb1 hoR hg hat hz
  obtain ⟨B, d, rfl, hd, hCd⟩ := ho.reads
  have HO := Lib.hid (show OwnO w1 w.heap.size (.slice B n.ops.length d) n.ops from own_lower ho hbs)
  have HW := Lib.hid hw1
  clear ho hd hCd hw1
  have b0 := hB1.cell 0
  have b1 := hB1.cell 1
  have b2 := hB1.cell 2
  have b3 := hB1.cell 3
  have b4 := hB1.cell 4
  have bf0 := hB1.free 0
  have bf1 := hB1.free 1
  have bf2 := hB1.free 2
  have bf3 := hB1.free 3
  have bf4 := hB1.free 4
  have by_ := hB1.lt
  have r0 := hR1.cell 0
  have r1 := hR1.cell 1
  have r2 := hR1.cell 2
  have r3 := hR1.cell 3
  have r4 := hR1.cell 4
  have f0 := hR1.free 0
  have f1 := hR1.free 1
  have f2 := hR1.free 2
  have f3 := hR1.free 3
  have f4 := hR1.free 4
  have ry := hR1.lt
  simp at b0 b1 b2 b3 b4 r0 r1 r2 r3 r4)
 have hB2 := hB1.set 4 (.slice B n.ops.length d) (cs' := #[.bool n.up, .int .i64 n.term, .bool n.leads, .bool n.alone, .slice B n.ops.length d]) rfl
 have hR2 := hR1.apart (c := w.heap.size) (by omega) 4 (.slice B n.ops.length d)
 have hR3 := hR2.set5 (.bool n.up) (.int .i64 n.term) (.bool n.leads) (.bool n.alone) (.slice B n.ops.length d)
 have ho3 := OwnO.far5 (HO.out.far hB1 (by decide) 4 (.slice B n.ops.length d)) hR2 (.bool n.up) (.int .i64 n.term) (.bool n.leads) (.bool n.alone) (.slice B n.ops.length d)
 have hb3 := bel_set5 (bel_set HW.out (Nat.le_refl _) 4 (.slice B n.ops.length d)) (Nat.le_succ _) (.bool n.up) (.int .i64 n.term) (.bool n.leads) (.bool n.alone) (.slice B n.ops.length d)
 refine bodyPost_ret (results_cell_row rfl _ _ (w.heap.size + 1) 25 #[.bool n.up, .int .i64 n.term, .bool n.leads, .bool n.alone, .slice B n.ops.length d] (0, 0) _ rfl hR3 Tryz.underlying25 rfl (by kernel_rfl)) rfl ?_
 exact ⟨_, rfl, ho3, hb3⟩
end
end Go.Proofs.YtccllgpaafgjaaaGreat

namespace Go.Proofs.YtccllgpaafgjaaaGreat
open Go.RowKit Go.Proofs.YtccllgpaafgjaaaGreatW.PrintWords Go.Proofs.YtccllgpaafgjaaaGreatW.PrintLast
theorem blkn {w : World} {b : Nat} {cs : Array Value} {t : TypeId} (h : Blk w b cs t) (j : Nat) (v : Value) (hv : cs[j]? = some v) : w.cell? ⟨b, j, none⟩ = some v := by rw [h.cell]; exact hv
section
variable {w : World} {A : Option Addr} {c : Nat} {n : Node} {o : Op}
set_option maxHeartbeats 16000000 in
set_option maxRecDepth 10000 in
theorem canTake_c {q : Pool} (hC : kOp.C w A n.ops.length n.ops) (ho : SmallOs n.ops) (hso : SmallO o) (hr : runP newP n.ops = some q) :
    Calls Tryz.prog 114 #[.agg #[.bool n.up, .int .i64 n.term, .bool n.leads, .bool n.alone, .slice A n.ops.length c], .agg #[.int .i64 o.kind, .string o.name, .string o.dest, .int .i64 o.n, .string o.text]] w (Ret (.bool ((opR q o).isSome && decide (n.ops.length < 20))) w) := by
  have HC := Lib.hid hC
  have HO := Lib.hid ho
  have HSO := Lib.hid hso
  have HRX := Lib.hid hr
  have HQ := Lib.hid (runP_ok _ newP_ok hr)
  obtain ⟨qq, hqq⟩ : ∃ qq, chO q o = qq := ⟨_, rfl⟩
  obtain ⟨ok, hok⟩ : ∃ ok, chOB q o = ok := ⟨_, rfl⟩
  obtain ⟨d, hd⟩ : ∃ d, decide (n.ops.length < 20) = d := ⟨_, rfl⟩
  have hdi : decide ((n.ops.length : Int) < 20) = d := by rw [← hd]; congr 1; exact propext ⟨fun h => by omega, fun h => by omega⟩
  have hch := chO_opR HQ.out o
  rw [hok] at hch
  rw [← hch.1, hd]
  have hdo := Lib.hid (fun (W : World) (A0 A1 : Option Addr) (c0 c1 : Nat) (h : PoolIn W A0 A1 c0 c1 q) => (hqq ▸ hok ▸ implOpDo_c (o := o) h HQ.out.small HSO.out : Calls Tryz.prog 65 #[.agg #[.slice A0 q.slots.length c0, .slice A1 q.vols.length c1], .agg #[.int .i64 o.kind, .string o.name, .string o.dest, .int .i64 o.n, .string o.text]] W (MadePB W qq ok)))
  clear hC ho hso hr hch hqq hok hd
  go_enter Tryz.func114, Tryz.ntmps114
  go_wp2
  have hN : Blk ((w.alloc (.cells #[.bool n.up, .int .i64 n.term, .bool n.leads, .bool n.alone, .slice A n.ops.length c] 25)).alloc (.cells #[.int .i64 o.kind, .string o.name, .string o.dest, .int .i64 o.n, .string o.text] 27)) w.heap.size #[.bool n.up, .int .i64 n.term, .bool n.leads, .bool n.alone, .slice A n.ops.length c] 25 := (Blk.new _ _ _).alloc _
  have hP : Blk ((w.alloc (.cells #[.bool n.up, .int .i64 n.term, .bool n.leads, .bool n.alone, .slice A n.ops.length c] 25)).alloc (.cells #[.int .i64 o.kind, .string o.name, .string o.dest, .int .i64 o.n, .string o.text] 27)) (w.heap.size + 1) #[.int .i64 o.kind, .string o.name, .string o.dest, .int .i64 o.n, .string o.text] 27 := Blk.nw2 _ _ _ _
  have hW : Bel w ((w.alloc (.cells #[.bool n.up, .int .i64 n.term, .bool n.leads, .bool n.alone, .slice A n.ops.length c] 25)).alloc (.cells #[.int .i64 o.kind, .string o.name, .string o.dest, .int .i64 o.n, .string o.text] 27)) := bel_alloc (bel_alloc (Below.refl _ _) _) _
  generalize ((w.alloc (.cells #[.bool n.up, .int .i64 n.term, .bool n.leads, .bool n.alone, .slice A n.ops.length c] 25)).alloc (.cells #[.int .i64 o.kind, .string o.name, .string o.dest, .int .i64 o.n, .string o.text] 27)) = W0 at hN hP hW ⊢
  have V0 : Hid (Blk W0.drew w.heap.size #[.bool n.up, .int .i64 n.term, .bool n.leads, .bool n.alone, .slice A n.ops.length c] 25) := Lib.hid (hN.bel (Below.refl _ _).drew)
  have HOC : Hid (Blk W0.drew (w.heap.size + 1) #[.int .i64 o.kind, .string o.name, .string o.dest, .int .i64 o.n, .string o.text] 27) := Lib.hid (hP.bel (Below.refl _ _).drew)
  have HW : Hid (Bel w W0.drew) := Lib.hid (hW.tr (Below.refl _ _).drew)
  have D0 : Hid (Bel W0.drew W0.drew) := Lib.hid (Below.refl _ _)
  have hrp := Lib.hid (fun (W : World) (hW : Bel W0.drew W) => implNodeRun_c (n := n) (c := c) (kOp_keep HC.out (HW.out.tr hW)) HO.out HRX.out)
  clear hN hP hW
  refine start_ (n := 10) (S := fun w' => w'.cell? ⟨w.heap.size, 0, none⟩ = some (.bool n.up) ∧ w'.cell? ⟨w.heap.size, 1, none⟩ = some (.int .i64 n.term) ∧ w'.cell? ⟨w.heap.size, 2, none⟩ = some (.bool n.leads) ∧ w'.cell? ⟨w.heap.size, 3, none⟩ = some (.bool n.alone) ∧ w'.cell? ⟨w.heap.size, 4, none⟩ = some (.slice A n.ops.length c) ∧ w'.cell? ⟨w.heap.size + 1, 0, none⟩ = some (.int .i64 o.kind) ∧ w'.cell? ⟨w.heap.size + 1, 1, none⟩ = some (.string o.name) ∧ w'.cell? ⟨w.heap.size + 1, 2, none⟩ = some (.string o.dest) ∧ w'.cell? ⟨w.heap.size + 1, 3, none⟩ = some (.int .i64 o.n) ∧ w'.cell? ⟨w.heap.size + 1, 4, none⟩ = some (.string o.text)) (ds := [8]) #[bF, bF, bF, bF, bF, bF, bF, bF, bF, bF] (by kernel_rfl) rfl rfl ⟨(blkn V0.out 0 _ rfl), (blkn V0.out 1 _ rfl), (blkn V0.out 2 _ rfl), (blkn V0.out 3 _ rfl), (blkn V0.out 4 _ rfl), (blkn HOC.out 0 _ rfl), (blkn HOC.out 1 _ rfl), (blkn HOC.out 2 _ rfl), (blkn HOC.out 3 _ rfl), (blkn HOC.out 4 _ rfl)⟩ (fun hHeld => ?_)
  refine tpx (i := 0) (N := some 8) #[bT, bF, bF, bF, bF, bF, bF, bF, bF, bF] (hy := (Or.inl ⟨by rfl, by rintro w' ⟨s0, s1, s2, s3, s4, s5, s6, s7, s8, s9⟩; go_simp; with_reducible rfl⟩)) (hS := hHeld) (h := ?_)
  refine tpx (i := 2) (N := some 10) #[bT, bF, bT, bF, bF, bF, bF, bF, bF, bF] (hy := (Or.inl ⟨by rfl, by rintro w' ⟨s0, s1, s2, s3, s4, s5, s6, s7, s8, s9⟩; go_simp; with_reducible rfl⟩)) (hS := hHeld) (h := ?_)
  refine join_ (σ := Option Addr × Nat × Option Addr × Nat × Option Addr × Nat × Option Addr × Nat × Nat) 2 #[bT, bT, bT, bT, bT, bT, bT, bT, bF, bF] (fun s => [(9, .agg #[.slice s.1 q.slots.length s.2.1, .slice s.2.2.1 q.vols.length s.2.2.2.1]), (11, .tuple #[.agg #[.slice s.2.2.2.2.1 qq.slots.length s.2.2.2.2.2.1, .slice s.2.2.2.2.2.2.1 qq.vols.length s.2.2.2.2.2.2.2.1], .bool ok]), (7, .tuple #[.agg #[.slice s.2.2.2.2.1 qq.slots.length s.2.2.2.2.2.1, .slice s.2.2.2.2.2.2.1 qq.vols.length s.2.2.2.2.2.2.2.1], .bool ok]), (12, .agg #[.slice s.2.2.2.2.1 qq.slots.length s.2.2.2.2.2.1, .slice s.2.2.2.2.2.2.1 qq.vols.length s.2.2.2.2.2.2.2.1]), (13, .bool ok), (5, .pointer (some ⟨s.2.2.2.2.2.2.2.2, 0, none⟩))]) (fun s w' => (w'.cell? ⟨w.heap.size, 0, none⟩ = some (.bool n.up) ∧ w'.cell? ⟨w.heap.size, 1, none⟩ = some (.int .i64 n.term) ∧ w'.cell? ⟨w.heap.size, 2, none⟩ = some (.bool n.leads) ∧ w'.cell? ⟨w.heap.size, 3, none⟩ = some (.bool n.alone) ∧ w'.cell? ⟨w.heap.size, 4, none⟩ = some (.slice A n.ops.length c) ∧ w'.cell? ⟨w.heap.size + 1, 0, none⟩ = some (.int .i64 o.kind) ∧ w'.cell? ⟨w.heap.size + 1, 1, none⟩ = some (.string o.name) ∧ w'.cell? ⟨w.heap.size + 1, 2, none⟩ = some (.string o.dest) ∧ w'.cell? ⟨w.heap.size + 1, 3, none⟩ = some (.int .i64 o.n) ∧ w'.cell? ⟨w.heap.size + 1, 4, none⟩ = some (.string o.text)) ∧ Blk w' s.2.2.2.2.2.2.2.2 #[.slice none 0 0, .slice none 0 0] 42 ∧ W0.drew.heap.size ≤ s.2.2.2.2.2.2.2.2 ∧ Bel W0.drew w') ?_ ?_
  rotate_left
  · intro hCont
    refine two_ (i := 1) (j := 7) (Ni := some 9) (Nj := some 5) #[bT, bT, bT, bF, bF, bF, bF, bF, bF, bF] #[bT, bF, bT, bF, bF, bF, bF, bT, bF, bF] rfl rfl rfl rfl (by kernel_rfl) (by decide) (by decide) (fun K hK => ?_) (fun K hK => ?_)
    · skip
      refine goes_ Tryz.func134 (by kernel_rfl) rfl #[.agg #[.bool n.up, .int .i64 n.term, .bool n.leads, .bool n.alone, .slice A n.ops.length c]] (by rfl) rfl rfl (by simp only [List.map_toArray, List.map_cons, List.map_nil]; rfl) ?_
      with_reducible refine (hrp.out _ D0.out).mono ?_
      rintro e w1_ ⟨va, vb, bva, rfl, hoo, X1⟩
      have D1 := Lib.hid (Bel.tr D0.out X1)
      obtain ⟨A6, B6, a6, b6, rfl, rfl, hpi⟩ := hoo.reads
      have P1 := Lib.hid hpi
      clear hoo hpi
      refine ⟨_, rfl, ?_⟩
      refine hK.out _ _ ⟨(blkn (V0.out.bel D1.out) 0 _ rfl), (blkn (V0.out.bel D1.out) 1 _ rfl), (blkn (V0.out.bel D1.out) 2 _ rfl), (blkn (V0.out.bel D1.out) 3 _ rfl), (blkn (V0.out.bel D1.out) 4 _ rfl), (blkn (HOC.out.bel D1.out) 0 _ rfl), (blkn (HOC.out.bel D1.out) 1 _ rfl), (blkn (HOC.out.bel D1.out) 2 _ rfl), (blkn (HOC.out.bel D1.out) 3 _ rfl), (blkn (HOC.out.bel D1.out) 4 _ rfl)⟩ (fun hHeld => ?_)
      clear hK K
      refine nox 9 (h := ?_)
      refine two_ (i := 3) (j := 7) (Ni := some 11) (Nj := some 5) #[bT, bT, bT, bT, bF, bF, bF, bF, bF, bF] #[bT, bT, bT, bF, bF, bF, bF, bT, bF, bF] rfl rfl rfl rfl (by kernel_rfl) (by decide) (by decide) (fun K hK => ?_) (fun K hK => ?_)
      · skip
        refine goes_ Tryz.func65 (by kernel_rfl) rfl #[.agg #[.slice A6 q.slots.length a6, .slice B6 q.vols.length b6], .agg #[.int .i64 o.kind, .string o.name, .string o.dest, .int .i64 o.n, .string o.text]] (by rfl) rfl rfl (by simp only [List.map_toArray, List.map_cons, List.map_nil]; rfl) ?_
        with_reducible refine (hdo.out _ _ _ _ _ P1.out).mono ?_
        rintro e w2_ ⟨vc, vd, bvc, rfl, hoo, X2⟩
        have D2 := Lib.hid (Bel.tr D1.out X2)
        obtain ⟨A7, B7, a7, b7, rfl, rfl, hpi⟩ := hoo.reads
        clear hoo hpi
        refine ⟨_, rfl, ?_⟩
        refine hK.out _ _ ⟨(blkn (V0.out.bel D2.out) 0 _ rfl), (blkn (V0.out.bel D2.out) 1 _ rfl), (blkn (V0.out.bel D2.out) 2 _ rfl), (blkn (V0.out.bel D2.out) 3 _ rfl), (blkn (V0.out.bel D2.out) 4 _ rfl), (blkn (HOC.out.bel D2.out) 0 _ rfl), (blkn (HOC.out.bel D2.out) 1 _ rfl), (blkn (HOC.out.bel D2.out) 2 _ rfl), (blkn (HOC.out.bel D2.out) 3 _ rfl), (blkn (HOC.out.bel D2.out) 4 _ rfl)⟩ (fun hHeld => ?_)
        clear hK K
        refine nox 11 (h := ?_)
        refine ppx (i := 4) (N := some 7) #[bT, bT, bT, bT, bT, bF, bF, bF, bF, bF] (h := ?_)
        refine ppx (i := 5) (N := some 12) #[bT, bT, bT, bT, bT, bT, bF, bF, bF, bF] (h := ?_)
        refine ppx (i := 6) (N := some 13) #[bT, bT, bT, bT, bT, bT, bT, bF, bF, bF] (h := ?_)
        refine one_ (i := 7) (N := some 5) #[bT, bT, bT, bT, bT, bT, bT, bT, bF, bF] rfl rfl (by kernel_rfl) (by decide) (fun K hK => ?_)
        refine value_ (by rfl) rfl (by go_simp; constructor <;> rfl) ?_
        have D3 : Hid (Bel W0.drew (w2_.alloc (.cells #[.slice none 0 0, .slice none 0 0] 42))) := Lib.hid (bel_alloc D2.out (.cells #[.slice none 0 0, .slice none 0 0] 42))
        have O3 : Hid (Blk (w2_.alloc (.cells #[.slice none 0 0, .slice none 0 0] 42)) w2_.heap.size #[.slice none 0 0, .slice none 0 0] 42) := Lib.hid (Blk.new w2_ _ _)
        have L3 := D2.out.size
        refine hK.out _ _ ⟨(blkn (V0.out.bel D3.out) 0 _ rfl), (blkn (V0.out.bel D3.out) 1 _ rfl), (blkn (V0.out.bel D3.out) 2 _ rfl), (blkn (V0.out.bel D3.out) 3 _ rfl), (blkn (V0.out.bel D3.out) 4 _ rfl), (blkn (HOC.out.bel D3.out) 0 _ rfl), (blkn (HOC.out.bel D3.out) 1 _ rfl), (blkn (HOC.out.bel D3.out) 2 _ rfl), (blkn (HOC.out.bel D3.out) 3 _ rfl), (blkn (HOC.out.bel D3.out) 4 _ rfl)⟩ (fun hHeld => ?_)
        clear hK K
        refine nox 5 (h := ?_)
        exact nof (hCont (A6, a6, B6, b6, A7, a7, B7, b7, w2_.heap.size) _ ⟨hHeld, O3.out, L3, D3.out⟩)
      · skip
        refine value_ (by rfl) rfl (by go_simp; constructor <;> rfl) ?_
        have D2 : Hid (Bel W0.drew (w1_.alloc (.cells #[.slice none 0 0, .slice none 0 0] 42))) := Lib.hid (bel_alloc D1.out (.cells #[.slice none 0 0, .slice none 0 0] 42))
        have P2 := Lib.hid (PoolIn.bel P1.out (bel_alloc (Below.refl _ _) (.cells #[.slice none 0 0, .slice none 0 0] 42)))
        have O2 : Hid (Blk (w1_.alloc (.cells #[.slice none 0 0, .slice none 0 0] 42)) w1_.heap.size #[.slice none 0 0, .slice none 0 0] 42) := Lib.hid (Blk.new w1_ _ _)
        have L2 := D1.out.size
        refine hK.out _ _ ⟨(blkn (V0.out.bel D2.out) 0 _ rfl), (blkn (V0.out.bel D2.out) 1 _ rfl), (blkn (V0.out.bel D2.out) 2 _ rfl), (blkn (V0.out.bel D2.out) 3 _ rfl), (blkn (V0.out.bel D2.out) 4 _ rfl), (blkn (HOC.out.bel D2.out) 0 _ rfl), (blkn (HOC.out.bel D2.out) 1 _ rfl), (blkn (HOC.out.bel D2.out) 2 _ rfl), (blkn (HOC.out.bel D2.out) 3 _ rfl), (blkn (HOC.out.bel D2.out) 4 _ rfl)⟩ (fun hHeld => ?_)
        clear hK K
        refine nox 5 (h := ?_)
        refine one_ (i := 3) (N := some 11) #[bT, bT, bT, bT, bF, bF, bF, bT, bF, bF] rfl rfl (by kernel_rfl) (by decide) (fun K hK => ?_)
        refine goes_ Tryz.func65 (by kernel_rfl) rfl #[.agg #[.slice A6 q.slots.length a6, .slice B6 q.vols.length b6], .agg #[.int .i64 o.kind, .string o.name, .string o.dest, .int .i64 o.n, .string o.text]] (by rfl) rfl rfl (by simp only [List.map_toArray, List.map_cons, List.map_nil]; rfl) ?_
        with_reducible refine (hdo.out _ _ _ _ _ P2.out).mono ?_
        rintro e w3_ ⟨vc, vd, bvc, rfl, hoo, X3⟩
        have D3 := Lib.hid (Bel.tr D2.out X3)
        obtain ⟨A7, B7, a7, b7, rfl, rfl, hpi⟩ := hoo.reads
        clear hoo hpi
        have O3 := Lib.hid (Blk.bel O2.out X3)
        refine ⟨_, rfl, ?_⟩
        refine hK.out _ _ ⟨(blkn (V0.out.bel D3.out) 0 _ rfl), (blkn (V0.out.bel D3.out) 1 _ rfl), (blkn (V0.out.bel D3.out) 2 _ rfl), (blkn (V0.out.bel D3.out) 3 _ rfl), (blkn (V0.out.bel D3.out) 4 _ rfl), (blkn (HOC.out.bel D3.out) 0 _ rfl), (blkn (HOC.out.bel D3.out) 1 _ rfl), (blkn (HOC.out.bel D3.out) 2 _ rfl), (blkn (HOC.out.bel D3.out) 3 _ rfl), (blkn (HOC.out.bel D3.out) 4 _ rfl)⟩ (fun hHeld => ?_)
        clear hK K
        refine nox 11 (h := ?_)
        refine ppx (i := 4) (N := some 7) #[bT, bT, bT, bT, bT, bF, bF, bT, bF, bF] (h := ?_)
        refine ppx (i := 5) (N := some 12) #[bT, bT, bT, bT, bT, bT, bF, bT, bF, bF] (h := ?_)
        refine ppx (i := 6) (N := some 13) #[bT, bT, bT, bT, bT, bT, bT, bT, bF, bF] (h := ?_)
        exact nof (hCont (A6, a6, B6, b6, A7, a7, B7, b7, w1_.heap.size) _ ⟨hHeld, O3.out, L2, D3.out⟩)
    · skip
      refine value_ (by rfl) rfl (by go_simp; constructor <;> rfl) ?_
      have D1 : Hid (Bel W0.drew (W0.alloc (.cells #[.slice none 0 0, .slice none 0 0] 42)).drew) := Lib.hid (bel_alloc D0.out (.cells #[.slice none 0 0, .slice none 0 0] 42))
      have O1 : Hid (Blk (W0.alloc (.cells #[.slice none 0 0, .slice none 0 0] 42)).drew W0.drew.heap.size #[.slice none 0 0, .slice none 0 0] 42) := Lib.hid (Blk.new W0.drew _ _)
      have L1 := D0.out.size
      refine hK.out _ _ ⟨(blkn (V0.out.bel D1.out) 0 _ rfl), (blkn (V0.out.bel D1.out) 1 _ rfl), (blkn (V0.out.bel D1.out) 2 _ rfl), (blkn (V0.out.bel D1.out) 3 _ rfl), (blkn (V0.out.bel D1.out) 4 _ rfl), (blkn (HOC.out.bel D1.out) 0 _ rfl), (blkn (HOC.out.bel D1.out) 1 _ rfl), (blkn (HOC.out.bel D1.out) 2 _ rfl), (blkn (HOC.out.bel D1.out) 3 _ rfl), (blkn (HOC.out.bel D1.out) 4 _ rfl)⟩ (fun hHeld => ?_)
      clear hK K
      refine nox 5 (h := ?_)
      refine one_ (i := 1) (N := some 9) #[bT, bT, bT, bF, bF, bF, bF, bT, bF, bF] rfl rfl (by kernel_rfl) (by decide) (fun K hK => ?_)
      refine goes_ Tryz.func134 (by kernel_rfl) rfl #[.agg #[.bool n.up, .int .i64 n.term, .bool n.leads, .bool n.alone, .slice A n.ops.length c]] (by rfl) rfl rfl (by simp only [List.map_toArray, List.map_cons, List.map_nil]; rfl) ?_
      with_reducible refine (hrp.out _ D1.out).mono ?_
      rintro e w2_ ⟨va, vb, bva, rfl, hoo, X2⟩
      have D2 := Lib.hid (Bel.tr D1.out X2)
      obtain ⟨A6, B6, a6, b6, rfl, rfl, hpi⟩ := hoo.reads
      have P2 := Lib.hid hpi
      clear hoo hpi
      have O2 := Lib.hid (Blk.bel O1.out X2)
      refine ⟨_, rfl, ?_⟩
      refine hK.out _ _ ⟨(blkn (V0.out.bel D2.out) 0 _ rfl), (blkn (V0.out.bel D2.out) 1 _ rfl), (blkn (V0.out.bel D2.out) 2 _ rfl), (blkn (V0.out.bel D2.out) 3 _ rfl), (blkn (V0.out.bel D2.out) 4 _ rfl), (blkn (HOC.out.bel D2.out) 0 _ rfl), (blkn (HOC.out.bel D2.out) 1 _ rfl), (blkn (HOC.out.bel D2.out) 2 _ rfl), (blkn (HOC.out.bel D2.out) 3 _ rfl), (blkn (HOC.out.bel D2.out) 4 _ rfl)⟩ (fun hHeld => ?_)
      clear hK K
      refine nox 9 (h := ?_)
      refine one_ (i := 3) (N := some 11) #[bT, bT, bT, bT, bF, bF, bF, bT, bF, bF] rfl rfl (by kernel_rfl) (by decide) (fun K hK => ?_)
      refine goes_ Tryz.func65 (by kernel_rfl) rfl #[.agg #[.slice A6 q.slots.length a6, .slice B6 q.vols.length b6], .agg #[.int .i64 o.kind, .string o.name, .string o.dest, .int .i64 o.n, .string o.text]] (by rfl) rfl rfl (by simp only [List.map_toArray, List.map_cons, List.map_nil]; rfl) ?_
      with_reducible refine (hdo.out _ _ _ _ _ P2.out).mono ?_
      rintro e w3_ ⟨vc, vd, bvc, rfl, hoo, X3⟩
      have D3 := Lib.hid (Bel.tr D2.out X3)
      obtain ⟨A7, B7, a7, b7, rfl, rfl, hpi⟩ := hoo.reads
      clear hoo hpi
      have O3 := Lib.hid (Blk.bel O2.out X3)
      refine ⟨_, rfl, ?_⟩
      refine hK.out _ _ ⟨(blkn (V0.out.bel D3.out) 0 _ rfl), (blkn (V0.out.bel D3.out) 1 _ rfl), (blkn (V0.out.bel D3.out) 2 _ rfl), (blkn (V0.out.bel D3.out) 3 _ rfl), (blkn (V0.out.bel D3.out) 4 _ rfl), (blkn (HOC.out.bel D3.out) 0 _ rfl), (blkn (HOC.out.bel D3.out) 1 _ rfl), (blkn (HOC.out.bel D3.out) 2 _ rfl), (blkn (HOC.out.bel D3.out) 3 _ rfl), (blkn (HOC.out.bel D3.out) 4 _ rfl)⟩ (fun hHeld => ?_)
      clear hK K
      refine nox 11 (h := ?_)
      refine ppx (i := 4) (N := some 7) #[bT, bT, bT, bT, bT, bF, bF, bT, bF, bF] (h := ?_)
      refine ppx (i := 5) (N := some 12) #[bT, bT, bT, bT, bT, bT, bF, bT, bF, bF] (h := ?_)
      refine ppx (i := 6) (N := some 13) #[bT, bT, bT, bT, bT, bT, bT, bT, bF, bF] (h := ?_)
      exact nof (hCont (A6, a6, B6, b6, A7, a7, B7, b7, W0.heap.size) _ ⟨hHeld, O3.out, L1, D3.out⟩)
  rintro ⟨A6, a6, B6, b6, A7, a7, B7, b7, nb⟩ w4 ⟨hHeld, hO, hL, hD⟩
  dsimp only at hO hL
  have r0 := hO.cell 0
  have r1 := hO.cell 1
  have f0 := hO.free 0
  have f1 := hO.free 1
  simp at r0 r1
  refine norm_ (a' := ?_) ?_ ?_
  rotate_left
  · simp only [putAll, Act.put, lA, lB, lC]
    rfl
  refine last_ (i := 8) (N := none) #[bT, bT, bT, bT, bT, bT, bT, bT, bT, bF] rfl rfl (by kernel_rfl) (by decide) (fun K hK => ?_)
  refine skip_ (by rfl) rfl (by go_simp; rfl) ?_
  refine hK.out _ _ ?_
  clear hK K
  refine ppx (i := 9) (N := some 6) #[bT, bT, bT, bT, bT, bT, bT, bT, bT, bT] (h := ?_)
  refine done_ (by kernel_rfl) ?_
  have hb5 : Bel W0.drew ((w4.setCell ⟨nb, 0, none⟩ (.slice A7 qq.slots.length a7)).setCell ⟨nb, 1, none⟩ (.slice B7 qq.vols.length b7)) := bel_set (bel_set hD hL 0 (.slice A7 qq.slots.length a7)) hL 1 (.slice B7 qq.vols.length b7)
  clear hO hL hD f0 f1 r0 r1 hHeld D0 hdo hrp
  generalize ((w4.setCell ⟨nb, 0, none⟩ (.slice A7 qq.slots.length a7)).setCell ⟨nb, 1, none⟩ (.slice B7 qq.vols.length b7)) = W5 at hb5 ⊢
  have q4 := blkn (V0.out.bel hb5) 4 _ rfl
  have vy := (V0.out.bel hb5).lt
  have HB := Lib.hid (HW.out.tr hb5)
  clear hb5
  cases ok <;> cases d <;>
    (go_wp2
     go_ret
     exact ⟨rfl, HB.out⟩)
end
end Go.Proofs.YtccllgpaafgjaaaGreat

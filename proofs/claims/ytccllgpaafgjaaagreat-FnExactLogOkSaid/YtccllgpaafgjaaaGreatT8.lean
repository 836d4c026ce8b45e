/- Contracts of the program's and the reference's functions, and the plain laws behind them: part 8 of 8. -/
import Derived.Test.YtccllgpaafgjaaaGreatT1
import Derived.Test.YtccllgpaafgjaaaGreatT2
import Derived.Test.YtccllgpaafgjaaaGreatT3
import Derived.Test.YtccllgpaafgjaaaGreatT4
import Derived.Test.YtccllgpaafgjaaaGreatT5
import Derived.Test.YtccllgpaafgjaaaGreatT6
import Derived.Test.YtccllgpaafgjaaaGreatT7
import Derived.Test.YtccllgpaafgjaaaGreatRows
import Derived.JoinedOf
import Derived.KernelRfl
set_option linter.unusedVariables false
set_option linter.unusedSimpArgs false

namespace Go.Proofs.YtccllgpaafgjaaaGreat
open Go.RowKit Go.Proofs.YtccllgpaafgjaaaGreatW.PrintWords Go.Proofs.YtccllgpaafgjaaaGreatW.PrintLast
/-- What l6Open leaves: a new reader. -/
def Opened (w : World) (e : Ending) (w' : World) : Prop := ∃ rb, e = .returned (.pointer (some ⟨rb, 0, none⟩)) ∧ Rd w' rb 0 ∧ w.heap.size ≤ rb ∧ Bel w w'
/-- A code that came in. -/
structure CodeIn (w : World) (A : Option Addr) (n c : Nat) (bs : List Int) : Prop where
  len : bs.length = n
  cap : n ≤ c
  C : kByte.C w A n bs
  bd : ∀ x ∈ bs, 0 ≤ x ∧ x ≤ 255
  lt : ∀ ad, A = some ad → ad.block < w.heap.size
theorem CodeIn.bel {w w' : World} {A : Option Addr} {n c : Nat} {bs : List Int} (h : CodeIn w A n c bs) (hb : Bel w w') : CodeIn w' A n c bs := ⟨h.len, h.cap, Kd.C_below h.C hb, h.bd, fun ad e => Nat.lt_of_lt_of_le (h.lt ad e) hb.size⟩
def OfV (xs : List ByteArray) (v : Value) : Prop := ∃ s, v = .string s ∧ s ∈ xs
def TextV (v : Value) : Prop := ∃ s : ByteArray, v = .string s ∧ s.size ≤ 7
def sOf (l : List UInt8) : ByteArray := ⟨l.toArray⟩
def abc : List ByteArray := [sOf [97], sOf [98], sOf [99], sOf [100], sOf [97]]
def eee : List ByteArray := [sOf [101], sOf [97, 97, 97, 97], sOf [32], sOf [65]]
end Go.Proofs.YtccllgpaafgjaaaGreat

namespace Go.Proofs.YtccllgpaafgjaaaGreat
open Go.RowKit Go.Proofs.YtccllgpaafgjaaaGreatW.PrintWords Go.Proofs.YtccllgpaafgjaaaGreatW.PrintLast
def NV (n : Node) (A : Option Addr) (c : Nat) : Value := .agg #[.bool n.up, .int .i64 n.term, .bool n.leads, .bool n.alone, .slice A n.ops.length c]
end Go.Proofs.YtccllgpaafgjaaaGreat

namespace Go.Proofs.YtccllgpaafgjaaaGreat
open Go.RowKit Go.Proofs.YtccllgpaafgjaaaGreatW.PrintWords
/-- What a maker of nodes leaves. -/
def MadeNd (w : World) (n : Node) (e : Ending) (w' : World) : Prop := ∃ v, e = .returned (.agg #[.bool n.up, .int .i64 n.term, .bool n.leads, .bool n.alone, v]) ∧ OwnO w' w.heap.size v n.ops ∧ Bel w w'
theorem OwnO.far {w : World} {base : Nat} {v : Value} {s : List Op} (h : OwnO w base v s) {b : Nat} {cs : Array Value} {t : TypeId} (hB : Blk w b cs t) (ht : 27 ≠ t) (i : Nat) (u : Value) : OwnO (w.setCell ⟨b, i, none⟩ u) base v s :=
  own_setCell (p := ⟨b, i, none⟩) h (own_ne h hB ht) u
end Go.Proofs.YtccllgpaafgjaaaGreat

namespace Go.Proofs.YtccllgpaafgjaaaGreat
open Go.RowKit Go.Proofs.YtccllgpaafgjaaaGreatW.PrintWords Go.Proofs.YtccllgpaafgjaaaGreatW.PrintLast
/-- A log of one's own. -/
def MadeL (w : World) (l : Log) (e : Ending) (w' : World) : Prop := ∃ (A B C : Option Addr) (a b c : Nat) (bvs : List Value), e = .returned (.agg #[.slice A l.base.slots.length a, .slice B l.base.vols.length b, .slice C l.ops.length c, .int .i64 l.safe]) ∧ OwnP w' w.heap.size (.slice A l.base.slots.length a) (.slice B l.base.vols.length b) l.base bvs ∧ OwnO w' w.heap.size (.slice C l.ops.length c) l.ops ∧ Bel w w'
theorem OwnO.innC {w : World} {base n c : Nat} {C : Option Addr} {s : List Op} (h : OwnO w base (.slice C n c) s) (hn : n = s.length) : s.length ≤ c ∧ kOp.C w C s.length s := by
  subst hn
  obtain ⟨A, k, e, hk, hC⟩ := h.reads
  have e := slice_eq e
  obtain ⟨rfl, -, rfl⟩ := e
  exact ⟨hk, hC⟩
theorem MadeL.new {w : World} {l : Log} {e : Ending} {w' : World} (h : MadeL w l e w') : NewL w l e w' := by
  obtain ⟨A, B, C, a, b, c, bvs, rfl, hp, ho, hb⟩ := h
  have h1 := ho.innC rfl
  exact ⟨A, B, C, a, b, c, rfl, ⟨hp.inn, h1.2, h1.1⟩, hb⟩
/-- Four cells of a block written. -/
abbrev wset4 (W : World) (b : Nat) (u0 u1 u2 u3 : Value) : World := (((W.setCell ⟨b, 0, none⟩ u0).setCell ⟨b, 1, none⟩ u1).setCell ⟨b, 2, none⟩ u2).setCell ⟨b, 3, none⟩ u3
theorem Blk.set4 {W : World} {b : Nat} {x0 x1 x2 x3 : Value} {t : TypeId} (h : Blk W b #[x0, x1, x2, x3] t) (u0 u1 u2 u3 : Value) : Blk (wset4 W b u0 u1 u2 u3) b #[u0, u1, u2, u3] t :=
  (((h.set 0 u0 (cs' := #[u0, x1, x2, x3]) rfl).set 1 u1 (cs' := #[u0, u1, x2, x3]) rfl).set 2 u2 (cs' := #[u0, u1, u2, x3]) rfl).set 3 u3 rfl
theorem bel_set4 {w w1 : World} (h : Bel w w1) {b : Nat} (hb : w.heap.size ≤ b) (u0 u1 u2 u3 : Value) : Bel w (wset4 w1 b u0 u1 u2 u3) := bel_set (bel_set (bel_set (bel_set h hb 0 u0) hb 1 u1) hb 2 u2) hb 3 u3
theorem OwnP.far4 {W : World} {base b : Nat} {v0 v1 : Value} {p : Pool} {bvs : List Value} (h : OwnP W base v0 v1 p bvs) {x0 x1 x2 x3 : Value} (hB : Blk W b #[x0, x1, x2, x3] 44) (u0 u1 u2 u3 : Value) : OwnP (wset4 W b u0 u1 u2 u3) base v0 v1 p bvs := by
  have h1 := hB.set 0 u0 (cs' := #[u0, x1, x2, x3]) rfl
  have h2 := h1.set 1 u1 (cs' := #[u0, u1, x2, x3]) rfl
  have h3 := h2.set 2 u2 (cs' := #[u0, u1, u2, x3]) rfl
  exact (((h.far hB (by decide) (by decide) (by decide) 0 u0).far h1 (by decide) (by decide) (by decide) 1 u1).far h2 (by decide) (by decide) (by decide) 2 u2).far h3 (by decide) (by decide) (by decide) 3 u3
theorem OwnO.far4 {W : World} {base b : Nat} {v : Value} {s : List Op} (h : OwnO W base v s) {x0 x1 x2 x3 : Value} (hB : Blk W b #[x0, x1, x2, x3] 44) (u0 u1 u2 u3 : Value) : OwnO (wset4 W b u0 u1 u2 u3) base v s := by
  have h1 := hB.set 0 u0 (cs' := #[u0, x1, x2, x3]) rfl
  have h2 := h1.set 1 u1 (cs' := #[u0, u1, x2, x3]) rfl
  have h3 := h2.set 2 u2 (cs' := #[u0, u1, u2, x3]) rfl
  exact (((h.far hB (by decide) 0 u0).far h1 (by decide) 1 u1).far h2 (by decide) 2 u2).far h3 (by decide) 3 u3
section
variable {w : World} {A B C : Option Addr} {a b c : Nat} {l : Log}
set_option maxHeartbeats 8000000 in
theorem implLogOk_c (h : LogIn w A B C a b c l) (hs : SmallL l) :
    Calls Tryz.prog 37 #[.agg #[.slice A l.base.slots.length a, .slice B l.base.vols.length b, .slice C l.ops.length c, .int .i64 l.safe]] w (Ret (.bool (logOk l)) w) := by
  have HI := Lib.hid h
  have HS := Lib.hid hs
  have hl := hs.ops.len
  obtain ⟨r, hr⟩ : ∃ r, runB l.base l.ops = r := ⟨_, rfl⟩
  obtain ⟨d, hd⟩ : ∃ d, decide (l.ops.length ≤ 20) = d := ⟨_, rfl⟩
  obtain ⟨t, ht⟩ : ∃ t, inR l.safe 0 l.ops.length = t := ⟨_, rfl⟩
  have hdi : decide ((l.ops.length : Int) ≤ 20) = d := by rw [← hd]; congr 1; exact propext ⟨fun h => by omega, fun h => by omega⟩
  unfold logOk
  rw [hr, hd, ht]
  have HR := Lib.hid hr
  have HT := Lib.hid (fun W : World => (ht ▸ within_c l.safe 0 l.ops.length W : Calls Tryz.prog 110 #[.int .i64 l.safe, .int .i64 0, .int .i64 l.ops.length] W (Same (.bool t) W)))
  clear h hs hr hd ht
  go_enter Tryz.func37, Tryz.ntmps37
  go_wp2_with fail
  have hV := LVar.new HI.out
  have hW : Bel w (w.alloc (.cells #[.slice A l.base.slots.length a, .slice B l.base.vols.length b, .slice C l.ops.length c, .int .i64 l.safe] 44)) := bel_alloc (Below.refl _ _) _
  generalize w.alloc (.cells #[.slice A l.base.slots.length a, .slice B l.base.vols.length b, .slice C l.ops.length c, .int .i64 l.safe] 44) = W0 at hV hW ⊢
  refine (doAll_c hV.inn.p HS.out.base hV.inn.o HS.out.ops).mono ?_
  rw [HR.out]
  generalize runV l.base l.ops = q
  rintro e w2 ⟨u0, u1, bu, rfl, hu, hb2⟩
  obtain ⟨E0, E1, k0, k1, rfl, rfl, hpi⟩ := hu.reads
  have HB := Lib.hid (hW.tr hb2)
  have q2 := (hV.bel hb2).c2
  have q3 := (hV.bel hb2).c3
  have y := (hV.bel hb2).lt
  clear hpi hu hV hb2 hW
  cases r <;> cases d <;> cases t <;>
    (go_wp2_with (go_at_call 110; refine (HT.out _).mono ?_; rintro e w' ⟨rfl, rfl⟩)
     go_ret
     exact ⟨rfl, bel_alloc HB.out _⟩)
end
end Go.Proofs.YtccllgpaafgjaaaGreat

namespace Go.Proofs.YtccllgpaafgjaaaGreat
open Go.RowKit Go.Proofs.YtccllgpaafgjaaaGreatW.PrintWords Go.Proofs.YtccllgpaafgjaaaGreatW.PrintLast
/-- What l13Run leaves: whether all could be done, and then the pool behind all. -/
def RunsP (base : Nat) (p : Pool) (os : List Op) (w : World) (e : Ending) (w' : World) : Prop := ∃ (A0 A1 : Option Addr) (n0 n1 c0 c1 : Nat), e = .returned (.tuple #[.agg #[.slice A0 n0 c0, .slice A1 n1 c1], .bool (runP p os).isSome]) ∧ (∀ q, runP p os = some q → ∃ bq, OwnP w' base (.slice A0 n0 c0) (.slice A1 n1 c1) q bq) ∧ Fr base w w'
structure RunSt (base : Nat) (w W : World) (p : Pool) (v0 v1 : Value) (bvs : List Value) : Prop where
  pool : Blk W w.heap.size #[v0, v1] 42
  res : Blk W (w.heap.size + 1) #[.slice none 0 0, .slice none 0 0] 42
  own : OwnP W base v0 v1 p bvs
  fr : Fr base w W
theorem Fr.refl (base : Nat) (w : World) : Fr base w w := ⟨Below.refl _ _, fun _ _ _ _ _ _ h => h⟩
theorem Fr.pool {base : Nat} {w W : World} (h : Fr base w W) {b : Nat} {cs : Array Value} (hB : Blk w b cs 42) : Blk W b cs 42 := h.k b cs _ (by decide) (by decide) (by decide) hB
theorem RunSt.of {base : Nat} {w W : World} {q : Pool} {x0 x1 u0 u1 : Value} {bq : List Value} (hB : Blk W w.heap.size #[x0, x1] 42) (hR : Blk W (w.heap.size + 1) #[.slice none 0 0, .slice none 0 0] 42) (ho : OwnP W base u0 u1 q bq) (hf : Fr base w W) (hbase : base ≤ w.heap.size) :
    RunSt base w ((W.setCell ⟨w.heap.size, 0, none⟩ u0).setCell ⟨w.heap.size, 1, none⟩ u1) q u0 u1 bq := by
  have h1 := hB.set 0 u0 (cs' := #[u0, x1]) rfl
  exact ⟨h1.set 1 u1 rfl, (hR.apart (by omega) 0 u0).apart (by omega) 1 u1, (ho.far hB (by decide) (by decide) (by decide) 0 u0).far h1 (by decide) (by decide) (by decide) 1 u1, (hf.set (Nat.le_refl _) hbase 0 u0).set (Nat.le_refl _) hbase 1 u1⟩
set_option maxHeartbeats 16000000 in
set_option maxRecDepth 10000 in
theorem l13Run_c {w0 w : World} {base : Nat} {v0 v1 : Value} {bvs : List Value} {p : Pool} {os : List Op} {A2 : Option Addr} {c2 : Nat} (h : OwnP w base v0 v1 p bvs) (hp : PoolP p) (hbase : base ≤ w.heap.size) (hC : kOp.C w0 A2 os.length os) (h0 : w0.heap.size ≤ base) (hb0 : Below base w0 w) (ho : SmallOs os) :
    Calls Tryz.prog 104 #[.agg #[v0, v1], .slice A2 os.length c2] w (RunsP base p os w) := by
  obtain ⟨A0, A1, c0, c1, rfl, rfl, hpi⟩ := h.reads
  clear hpi
  have HV := Lib.hid hp
  have HO := Lib.hid ho
  have hl := ho.len
  have HC := Lib.hid (fun (W : World) (hW : Fr base w W) => Kd.C_below hC ((hb0.trans hW.b).mono h0))
  have HB := Lib.hid hbase
  have HW := Lib.hid h
  clear hp ho hC h0 hb0 hbase h
  go_enter Tryz.func104, Tryz.ntmps104
  go_wp2
  have hst : RunSt base w ((w.alloc (.cells #[.slice A0 p.slots.length c0, .slice A1 p.vols.length c1] 42)).alloc (.cells #[.slice none 0 0, .slice none 0 0] 42)) p (.slice A0 p.slots.length c0) (.slice A1 p.vols.length c1) bvs := by
    have hb : Bel w ((w.alloc (.cells #[.slice A0 p.slots.length c0, .slice A1 p.vols.length c1] 42)).alloc (.cells #[.slice none 0 0, .slice none 0 0] 42)) := bel_alloc (bel_alloc (Below.refl _ _) _) _
    exact ⟨(Blk.new _ _ _).alloc _, Blk.nw2 _ _ _ _, HW.out.bel hb, Fr.ofBel hb HB.out⟩
  have HST := Lib.hid hst
  clear hst HW
  generalize ((w.alloc (.cells #[.slice A0 p.slots.length c0, .slice A1 p.vols.length c1] 42)).alloc (.cells #[.slice none 0 0, .slice none 0 0] 42)) = W0 at HST ⊢
  go_loopg [6] os.length (fun g v6 W => ∃ (j : Nat) (q : Pool) (B0 B1 : Option Addr) (d0 d1 : Nat) (bvs : List Value), g + j = os.length ∧ v6 = .int .i64 j ∧ Hid (runP p (os.take j) = some q) ∧ Hid (RunSt base w W q (.slice B0 q.slots.length d0) (.slice B1 q.vols.length d1) bvs))
  case atStart => exact ⟨0, p, A0, A1, c0, c1, bvs, rfl, rfl, rfl, HST.out⟩
  case round =>
    clear HST bvs
    obtain ⟨j, p1, B0, B1, d0, d1, bvs, hj, rfl, HR, HD⟩ := hrel
    have HQ := Lib.hid (runP_ok _ HV.out HR.out)
    by_cases hlt : j < os.length
    · obtain ⟨o, hx⟩ := getQ hlt
      have HX := Lib.hid hx
      have hnm := Lib.hid (HO.out.op o (List.mem_of_getElem? hx))
      clear hx
      obtain ⟨ad, rfl, _⟩ := at_op (HC.out _ HD.out.fr) HX.out
      have hfx := Lib.hid (fun (W : World) (hW : Fr base wr W) => (show (W.cell? ⟨w.heap.size, 0, none⟩ = some (.slice B0 p1.slots.length d0) ∧ W.cell? ⟨w.heap.size, 1, none⟩ = some (.slice B1 p1.vols.length d1) ∧ W.cell? (ad.add (j * 5)) = some (.int .i64 o.kind) ∧ W.cell? ⟨(ad.add (j * 5)).block, (ad.add (j * 5)).off + 1, none⟩ = some (.string o.name) ∧ W.cell? ⟨(ad.add (j * 5)).block, (ad.add (j * 5)).off + 2, none⟩ = some (.string o.dest) ∧ W.cell? ⟨(ad.add (j * 5)).block, (ad.add (j * 5)).off + 3, none⟩ = some (.int .i64 o.n) ∧ W.cell? ⟨(ad.add (j * 5)).block, (ad.add (j * 5)).off + 4, none⟩ = some (.string o.text)) from by
        obtain ⟨ad', e, a⟩ := at_op (HC.out W (HD.out.fr.tr hW HB.out)) HX.out
        cases e
        exact ⟨by rw [(hW.pool HD.out.pool).cell]; rfl, by rw [(hW.pool HD.out.pool).cell]; rfl, a⟩))
      have D0 := Lib.hid (show Fr base wr wr.drew from (Fr.refl base wr).drew)
      have hbr : base ≤ wr.heap.size := Nat.le_trans HB.out (by have := HD.out.pool.lt; omega)
      have HBR := Lib.hid hbr
      have P0 := Lib.hid (show OwnP wr.drew base (.slice B0 p1.slots.length d0) (.slice B1 p1.vols.length d1) p1 bvs from HD.out.own.bel (Below.refl _ _).drew)
      obtain ⟨q, hq⟩ : ∃ q, (opF p1 o).getD p1 = q := ⟨_, rfl⟩
      obtain ⟨ok, hokk⟩ : ∃ ok, (opF p1 o).isSome = ok := ⟨_, rfl⟩
      have hdo := Lib.hid (fun (W : World) (h : OwnP W base (.slice B0 p1.slots.length d0) (.slice B1 p1.vols.length d1) p1 bvs) (hb : base ≤ W.heap.size) => l12Do_c (o := o) h HQ.out hb hnm.out)
      unfold TurnsP at hdo
      rw [hq, hokk] at hdo
      have HE := Lib.hid (And.intro hq hokk)
      clear hq hokk hbr
      obtain ⟨s0, s1, s2, s3, s4, s5, s6⟩ := hfx.out _ D0.out
      go_wp2
      refine start_ (n := 12) (S := fun w' => w'.cell? ⟨w.heap.size, 0, none⟩ = some (.slice B0 p1.slots.length d0) ∧ w'.cell? ⟨w.heap.size, 1, none⟩ = some (.slice B1 p1.vols.length d1) ∧ w'.cell? (ad.add (j * 5)) = some (.int .i64 o.kind) ∧ w'.cell? ⟨(ad.add (j * 5)).block, (ad.add (j * 5)).off + 1, none⟩ = some (.string o.name) ∧ w'.cell? ⟨(ad.add (j * 5)).block, (ad.add (j * 5)).off + 2, none⟩ = some (.string o.dest) ∧ w'.cell? ⟨(ad.add (j * 5)).block, (ad.add (j * 5)).off + 3, none⟩ = some (.int .i64 o.n) ∧ w'.cell? ⟨(ad.add (j * 5)).block, (ad.add (j * 5)).off + 4, none⟩ = some (.string o.text)) (ds := [10]) #[bF, bF, bF, bF, bF, bF, bF, bF, bF, bF, bF, bF] (by kernel_rfl) rfl rfl ⟨s0, s1, s2, s3, s4, s5, s6⟩ (fun hHeld => ?_)
      refine pure_ (i := 1) (N := some 17) (v := ?_) (a' := ?_) #[bF, bT, bF, bF, bF, bF, bF, bF, bF, bF, bF, bF] rfl rfl (by kernel_rfl) (fun _ _ _ h => h) (Or.inl ⟨by rfl, ?_⟩) ?_ ?_
      rotate_left
      · intro w'
        go_simp
        with_reducible rfl
      rotate_left
      · simp only [Act.put, lA, lB, lC, i64_w, i32_w]
        rfl
      refine pure_ (i := 2) (N := some 18) (v := ?_) (a' := ?_) #[bF, bT, bT, bF, bF, bF, bF, bF, bF, bF, bF, bF] rfl rfl (by kernel_rfl) (fun _ _ _ h => h) (Or.inl ⟨by rfl, ?_⟩) ?_ ?_
      rotate_left
      · intro w'
        go_simp
        with_reducible rfl
      rotate_left
      · simp only [Act.put, lA, lB, lC, i64_w, i32_w]
        rfl
      refine pure_ (i := 3) (N := some 19) (v := ?_) (a' := ?_) #[bF, bT, bT, bT, bF, bF, bF, bF, bF, bF, bF, bF] rfl rfl (by kernel_rfl) (fun _ _ _ h => h) (Or.inl ⟨by rfl, ?_⟩) ?_ ?_
      rotate_left
      · intro w'
        go_simp
        with_reducible rfl
      rotate_left
      · simp only [Act.put, lA, lB, lC, i64_w, i32_w]
        rfl
      refine take_ (i := 0) (N := some 16) (v := ?_) (a' := ?_) #[bT, bT, bT, bT, bF, bF, bF, bF, bF, bF, bF, bF] rfl rfl (by kernel_rfl) (fun _ _ _ h => h) (Or.inl ⟨by rfl, ?_⟩) hHeld ?_ ?_
      rotate_left
      · rintro w' ⟨s0, s1, s2, s3, s4, s5, s6⟩
        go_simp
        with_reducible rfl
      rotate_left
      · simp only [Act.put, lA, lB, lC, i64_w, i32_w]
        rfl
      refine take_ (i := 4) (N := some 20) (v := ?_) (a' := ?_) #[bT, bT, bT, bT, bT, bF, bF, bF, bF, bF, bF, bF] rfl rfl (by kernel_rfl) (fun _ _ _ h => h) (Or.inl ⟨by rfl, ?_⟩) hHeld ?_ ?_
      rotate_left
      · rintro w' ⟨s0, s1, s2, s3, s4, s5, s6⟩
        go_simp
        with_reducible rfl
      rotate_left
      · simp only [Act.put, lA, lB, lC, i64_w, i32_w]
        rfl
      refine join_ (σ := Option Addr × Nat × Option Addr × Nat × List Value × Nat) 2 #[bT, bT, bT, bT, bT, bT, bT, bT, bT, bT, bF, bF] (fun s => [(21, .tuple #[.agg #[.slice s.1 q.slots.length s.2.1, .slice s.2.2.1 q.vols.length s.2.2.2.1], .bool ok]), (15, .tuple #[.agg #[.slice s.1 q.slots.length s.2.1, .slice s.2.2.1 q.vols.length s.2.2.2.1], .bool ok]), (22, .agg #[.slice s.1 q.slots.length s.2.1, .slice s.2.2.1 q.vols.length s.2.2.2.1]), (23, .bool ok), (7, .pointer (some ⟨s.2.2.2.2.2, 0, none⟩))]) (fun s w' => (w'.cell? ⟨w.heap.size, 0, none⟩ = some (.slice B0 p1.slots.length d0) ∧ w'.cell? ⟨w.heap.size, 1, none⟩ = some (.slice B1 p1.vols.length d1) ∧ w'.cell? (ad.add (j * 5)) = some (.int .i64 o.kind) ∧ w'.cell? ⟨(ad.add (j * 5)).block, (ad.add (j * 5)).off + 1, none⟩ = some (.string o.name) ∧ w'.cell? ⟨(ad.add (j * 5)).block, (ad.add (j * 5)).off + 2, none⟩ = some (.string o.dest) ∧ w'.cell? ⟨(ad.add (j * 5)).block, (ad.add (j * 5)).off + 3, none⟩ = some (.int .i64 o.n) ∧ w'.cell? ⟨(ad.add (j * 5)).block, (ad.add (j * 5)).off + 4, none⟩ = some (.string o.text)) ∧ OwnP w' base (.slice s.1 q.slots.length s.2.1) (.slice s.2.2.1 q.vols.length s.2.2.2.1) q s.2.2.2.2.1 ∧ Blk w' s.2.2.2.2.2 #[.slice none 0 0, .slice none 0 0] 42 ∧ w.heap.size + 1 < s.2.2.2.2.2 ∧ Fr base wr w') ?_ ?_
      rotate_left
      · intro hCont
        refine two_ (i := 5) (j := 9) (Ni := some 21) (Nj := some 7) #[bT, bT, bT, bT, bT, bT, bF, bF, bF, bF, bF, bF] #[bT, bT, bT, bT, bT, bF, bF, bF, bF, bT, bF, bF] rfl rfl rfl rfl (by kernel_rfl) (by decide) (by decide) (fun K hK => ?_) (fun K hK => ?_)
        · skip
          refine goes_ Tryz.func125 (by kernel_rfl) rfl #[.agg #[.slice B0 p1.slots.length d0, .slice B1 p1.vols.length d1], .agg #[.int .i64 o.kind, .string o.name, .string o.dest, .int .i64 o.n, .string o.text]] (by rfl) rfl rfl (by simp only [List.map_toArray, List.map_cons, List.map_nil]; rfl) ?_
          with_reducible refine (hdo.out _ P0.out (Nat.le_trans HBR.out D0.out.b.size)).mono ?_
          rintro e w1_ ⟨vc, vd, bvc, rfl, ho, X1⟩
          have D1 : Hid (Fr base wr w1_) := Lib.hid (D0.out.tr X1 HBR.out)
          have Q1 := Lib.hid ho
          obtain ⟨A2, A3, k2, k3, rfl, rfl, hpi⟩ := ho.reads
          clear ho hpi
          refine ⟨_, rfl, ?_⟩
          refine hK.out _ _ ⟨(hfx.out _ D1.out).1, (hfx.out _ D1.out).2.1, (hfx.out _ D1.out).2.2.1, (hfx.out _ D1.out).2.2.2.1, (hfx.out _ D1.out).2.2.2.2.1, (hfx.out _ D1.out).2.2.2.2.2.1, (hfx.out _ D1.out).2.2.2.2.2.2⟩ (fun hHeld => ?_)
          clear hK K
          refine norm_ (a' := ?_) ?_ ?_
          rotate_left
          · show Act.put _ (some 21) _ = _
            simp only [Act.put, lA, lB, lC, i64_w, i32_w]
            rfl
          refine pure_ (i := 6) (N := some 15) (v := ?_) (a' := ?_) #[bT, bT, bT, bT, bT, bT, bT, bF, bF, bF, bF, bF] rfl rfl (by kernel_rfl) (fun _ _ _ h => h) (Or.inl ⟨by rfl, ?_⟩) ?_ ?_
          rotate_left
          · intro w'
            go_simp
            with_reducible rfl
          rotate_left
          · simp only [Act.put, lA, lB, lC, i64_w, i32_w]
            rfl
          refine pure_ (i := 7) (N := some 22) (v := ?_) (a' := ?_) #[bT, bT, bT, bT, bT, bT, bT, bT, bF, bF, bF, bF] rfl rfl (by kernel_rfl) (fun _ _ _ h => h) (Or.inl ⟨by rfl, ?_⟩) ?_ ?_
          rotate_left
          · intro w'
            go_simp
            with_reducible rfl
          rotate_left
          · simp only [Act.put, lA, lB, lC, i64_w, i32_w]
            rfl
          refine pure_ (i := 8) (N := some 23) (v := ?_) (a' := ?_) #[bT, bT, bT, bT, bT, bT, bT, bT, bT, bF, bF, bF] rfl rfl (by kernel_rfl) (fun _ _ _ h => h) (Or.inl ⟨by rfl, ?_⟩) ?_ ?_
          rotate_left
          · intro w'
            go_simp
            with_reducible rfl
          rotate_left
          · simp only [Act.put, lA, lB, lC, i64_w, i32_w]
            rfl
          refine one_ (i := 9) (N := some 7) #[bT, bT, bT, bT, bT, bT, bT, bT, bT, bT, bF, bF] rfl rfl (by kernel_rfl) (by decide) (fun K hK => ?_)
          refine value_ (w1 := ?_) (v := ?_) (by rfl) rfl ?_ ?_
          rotate_left 2
          · go_simp
            constructor
            · rfl
            · rfl
          have D2 : Hid (Fr base wr (w1_.alloc (.cells #[.slice none 0 0, .slice none 0 0] 42))) := Lib.hid (Fr.bel D1.out (bel_alloc (Below.refl _ _) (.cells #[.slice none 0 0, .slice none 0 0] 42)) HBR.out)
          have Q2 := Lib.hid (OwnP.bel Q1.out (bel_alloc (Below.refl _ _) (.cells #[.slice none 0 0, .slice none 0 0] 42)))
          have O2 : Hid (Blk (w1_.alloc (.cells #[.slice none 0 0, .slice none 0 0] 42)) w1_.heap.size #[.slice none 0 0, .slice none 0 0] 42) := Lib.hid (Blk.new w1_ #[.slice none 0 0, .slice none 0 0] 42)
          have L2 : w.heap.size + 1 < w1_.heap.size := (D1.out.pool HD.out.res).lt
          refine hK.out _ _ ⟨(hfx.out _ D2.out).1, (hfx.out _ D2.out).2.1, (hfx.out _ D2.out).2.2.1, (hfx.out _ D2.out).2.2.2.1, (hfx.out _ D2.out).2.2.2.2.1, (hfx.out _ D2.out).2.2.2.2.2.1, (hfx.out _ D2.out).2.2.2.2.2.2⟩ (fun hHeld => ?_)
          clear hK K
          refine norm_ (a' := ?_) ?_ ?_
          rotate_left
          · show Act.put _ (some 7) _ = _
            simp only [Act.put, lA, lB, lC, i64_w, i32_w]
            rfl
          exact norm_ (by simp only [putAll, Act.put, lA, lB, lC]) (hCont (A2, k2, A3, k3, bvc, w1_.heap.size) _ ⟨hHeld, Q2.out, O2.out, L2, D2.out⟩)
        · skip
          refine value_ (w1 := ?_) (v := ?_) (by rfl) rfl ?_ ?_
          rotate_left 2
          · go_simp
            constructor
            · rfl
            · rfl
          have D1 : Hid (Fr base wr (wr.alloc (.cells #[.slice none 0 0, .slice none 0 0] 42)).drew) := Lib.hid (Fr.bel D0.out (bel_alloc (Below.refl _ _) (.cells #[.slice none 0 0, .slice none 0 0] 42)) HBR.out)
          have P1 : Hid (OwnP (wr.alloc (.cells #[.slice none 0 0, .slice none 0 0] 42)).drew base (.slice B0 p1.slots.length d0) (.slice B1 p1.vols.length d1) p1 bvs) := Lib.hid (OwnP.bel P0.out (bel_alloc (Below.refl _ _) (.cells #[.slice none 0 0, .slice none 0 0] 42)))
          have O1 : Hid (Blk (wr.alloc (.cells #[.slice none 0 0, .slice none 0 0] 42)).drew wr.drew.heap.size #[.slice none 0 0, .slice none 0 0] 42) := Lib.hid (Blk.new wr.drew #[.slice none 0 0, .slice none 0 0] 42)
          have L1 : w.heap.size + 1 < wr.drew.heap.size := HD.out.res.lt
          refine hK.out _ _ ⟨(hfx.out _ D1.out).1, (hfx.out _ D1.out).2.1, (hfx.out _ D1.out).2.2.1, (hfx.out _ D1.out).2.2.2.1, (hfx.out _ D1.out).2.2.2.2.1, (hfx.out _ D1.out).2.2.2.2.2.1, (hfx.out _ D1.out).2.2.2.2.2.2⟩ (fun hHeld => ?_)
          clear hK K
          refine norm_ (a' := ?_) ?_ ?_
          rotate_left
          · show Act.put _ (some 7) _ = _
            simp only [Act.put, lA, lB, lC, i64_w, i32_w]
            rfl
          refine one_ (i := 5) (N := some 21) #[bT, bT, bT, bT, bT, bT, bF, bF, bF, bT, bF, bF] rfl rfl (by kernel_rfl) (by decide) (fun K hK => ?_)
          refine goes_ Tryz.func125 (by kernel_rfl) rfl #[.agg #[.slice B0 p1.slots.length d0, .slice B1 p1.vols.length d1], .agg #[.int .i64 o.kind, .string o.name, .string o.dest, .int .i64 o.n, .string o.text]] (by rfl) rfl rfl (by simp only [List.map_toArray, List.map_cons, List.map_nil]; rfl) ?_
          with_reducible refine (hdo.out _ P1.out (Nat.le_trans HBR.out D1.out.b.size)).mono ?_
          rintro e w2_ ⟨vc, vd, bvc, rfl, ho, X2⟩
          have D2 : Hid (Fr base wr w2_) := Lib.hid (D1.out.tr X2 HBR.out)
          have O2 := Lib.hid (X2.k _ _ _ (by decide) (by decide) (by decide) O1.out)
          have Q2 := Lib.hid ho
          obtain ⟨A2, A3, k2, k3, rfl, rfl, hpi⟩ := ho.reads
          clear ho hpi
          refine ⟨_, rfl, ?_⟩
          refine hK.out _ _ ⟨(hfx.out _ D2.out).1, (hfx.out _ D2.out).2.1, (hfx.out _ D2.out).2.2.1, (hfx.out _ D2.out).2.2.2.1, (hfx.out _ D2.out).2.2.2.2.1, (hfx.out _ D2.out).2.2.2.2.2.1, (hfx.out _ D2.out).2.2.2.2.2.2⟩ (fun hHeld => ?_)
          clear hK K
          refine norm_ (a' := ?_) ?_ ?_
          rotate_left
          · show Act.put _ (some 21) _ = _
            simp only [Act.put, lA, lB, lC, i64_w, i32_w]
            rfl
          refine pure_ (i := 6) (N := some 15) (v := ?_) (a' := ?_) #[bT, bT, bT, bT, bT, bT, bT, bF, bF, bT, bF, bF] rfl rfl (by kernel_rfl) (fun _ _ _ h => h) (Or.inl ⟨by rfl, ?_⟩) ?_ ?_
          rotate_left
          · intro w'
            go_simp
            with_reducible rfl
          rotate_left
          · simp only [Act.put, lA, lB, lC, i64_w, i32_w]
            rfl
          refine pure_ (i := 7) (N := some 22) (v := ?_) (a' := ?_) #[bT, bT, bT, bT, bT, bT, bT, bT, bF, bT, bF, bF] rfl rfl (by kernel_rfl) (fun _ _ _ h => h) (Or.inl ⟨by rfl, ?_⟩) ?_ ?_
          rotate_left
          · intro w'
            go_simp
            with_reducible rfl
          rotate_left
          · simp only [Act.put, lA, lB, lC, i64_w, i32_w]
            rfl
          refine pure_ (i := 8) (N := some 23) (v := ?_) (a' := ?_) #[bT, bT, bT, bT, bT, bT, bT, bT, bT, bT, bF, bF] rfl rfl (by kernel_rfl) (fun _ _ _ h => h) (Or.inl ⟨by rfl, ?_⟩) ?_ ?_
          rotate_left
          · intro w'
            go_simp
            with_reducible rfl
          rotate_left
          · simp only [Act.put, lA, lB, lC, i64_w, i32_w]
            rfl
          exact norm_ (by simp only [putAll, Act.put, lA, lB, lC]) (hCont (A2, k2, A3, k3, bvc, wr.heap.size) _ ⟨hHeld, Q2.out, O2.out, L1, D2.out⟩)
      rintro ⟨A2, k2, A3, k3, bvc, nb⟩ w3 ⟨hHeld, hQ, hO, hL, hD⟩
      dsimp only at hQ hO hL
      have r0 := hO.cell 0
      have r1 := hO.cell 1
      have f0 := hO.free 0
      have f1 := hO.free 1
      simp at r0 r1
      refine norm_ (a' := ?_) ?_ ?_
      rotate_left
      · simp only [putAll, Act.put, lA, lB, lC]
        rfl
      refine last_ (i := 10) (N := none) #[bT, bT, bT, bT, bT, bT, bT, bT, bT, bT, bT, bF] rfl rfl (by kernel_rfl) (by decide) (fun K hK => ?_)
      refine skip_ (w1 := ?_) (by rfl) rfl ?_ ?_
      rotate_left
      · go_simp
        rfl
      refine hK.out _ _ ?_
      clear hK K
      refine pure_ (i := 11) (N := some 8) (v := ?_) (a' := ?_) #[bT, bT, bT, bT, bT, bT, bT, bT, bT, bT, bT, bT] rfl rfl (by kernel_rfl) (fun _ _ _ h => h) (Or.inl ⟨by rfl, ?_⟩) ?_ ?_
      rotate_left
      · intro w'
        go_simp
        with_reducible rfl
      rotate_left
      · simp only [Act.put, lA, lB, lC, i64_w, i32_w]
        rfl
      refine done_ (by kernel_rfl) ?_
      have hO4 := hO.set 0 (.slice A2 q.slots.length k2) (cs' := #[.slice A2 q.slots.length k2, .slice none 0 0]) rfl
      have HO5 := Lib.hid (hO4.set 1 (.slice A3 q.vols.length k3) (cs' := #[.slice A2 q.slots.length k2, .slice A3 q.vols.length k3]) rfl)
      have HQ5 := Lib.hid ((hQ.far hO (by decide) (by decide) (by decide) 0 (.slice A2 q.slots.length k2)).far hO4 (by decide) (by decide) (by decide) 1 (.slice A3 q.vols.length k3))
      have HF5 := Lib.hid (((HD.out.fr.tr hD HB.out).set (b := nb) (by omega) HB.out 0 (.slice A2 q.slots.length k2)).set (b := nb) (by omega) HB.out 1 (.slice A3 q.vols.length k3))
      have HP5 := Lib.hid (((hD.pool HD.out.pool).apart (show nb ≠ w.heap.size by omega) 0 (.slice A2 q.slots.length k2)).apart (show nb ≠ w.heap.size by omega) 1 (.slice A3 q.vols.length k3))
      have HR5 := Lib.hid (((hD.pool HD.out.res).apart (show nb ≠ w.heap.size + 1 by omega) 0 (.slice A2 q.slots.length k2)).apart (show nb ≠ w.heap.size + 1 by omega) 1 (.slice A3 q.vols.length k3))
      clear hQ hO hO4 hD f0 f1 r0 r1 hHeld s0 s1 s2 s3 s4 s5 s6 hdo hfx D0 P0
      generalize ((w3.setCell ⟨nb, 0, none⟩ (.slice A2 q.slots.length k2)).setCell ⟨nb, 1, none⟩ (.slice A3 q.vols.length k3)) = W8 at HO5 HQ5 HF5 HP5 HR5 ⊢
      obtain ⟨ad', e, a0, a1, a2, a3, a4⟩ := at_op (HC.out W8 HF5.out) HX.out
      cases e
      go_wp2_with fail
      refine (specOpOk_c o hnm.out _).mono ?_
      rintro e w9 ⟨rfl, hb9⟩
      clear a0 a1 a2 a3 a4
      replace HO5 := Lib.hid (HO5.out.bel hb9)
      replace HQ5 := Lib.hid (HQ5.out.bel hb9)
      replace HF5 := Lib.hid (HF5.out.bel hb9 HB.out)
      replace HP5 := Lib.hid (HP5.out.bel hb9)
      replace HR5 := Lib.hid (HR5.out.bel hb9)
      clear hb9
      cases hok : opOk o with
      | false =>
        have HN := Lib.hid (show runP p os = none from runP_stop (k := j + 1) (by rw [runP_step HX.out HR.out]; unfold opR; rw [hok]; rfl))
        clear hok
        have q0 := HP5.out.cell 0
        have q1 := HP5.out.cell 1
        have r0 := HR5.out.cell 0
        have r1 := HR5.out.cell 1
        have f0 := HR5.out.free 0
        have f1 := HR5.out.free 1
        have y := HR5.out.lt
        have y2 := HP5.out.lt
        simp at q0 q1 r0 r1
        go_wp2
        have hR1 := HR5.out.set 0 (.slice B0 p1.slots.length d0) (cs' := #[.slice B0 p1.slots.length d0, .slice none 0 0]) rfl
        have hR2 := hR1.set 1 (.slice B1 p1.vols.length d1) (cs' := #[.slice B0 p1.slots.length d0, .slice B1 p1.vols.length d1]) rfl
        refine bodyPost_ret (results_ct rfl _ _ (w.heap.size + 1) 42 #[.slice B0 p1.slots.length d0, .slice B1 p1.vols.length d1] (0, 0) _ rfl hR2 Tryz.underlying42 rfl (by kernel_rfl)) rfl ?_
        exact ⟨B0, B1, _, _, d0, d1, by rw [HN.out]; rfl, fun q h => (by rw [HN.out] at h; cases h), (HF5.out.set (Nat.le_succ _) HB.out 0 (.slice B0 p1.slots.length d0)).set (Nat.le_succ _) HB.out 1 (.slice B1 p1.vols.length d1)⟩
      | true =>
        cases ok with
        | false =>
          have HN := Lib.hid (show runP p os = none from runP_stop (k := j + 1) (by rw [runP_step HX.out HR.out]; unfold opR; rw [if_pos hok]; exact Option.isSome_eq_false_iff.1 HE.out.2 |> Option.isNone_iff_eq_none.1))
          clear hok
          have q0 := HP5.out.cell 0
          have q1 := HP5.out.cell 1
          have r0 := HR5.out.cell 0
          have r1 := HR5.out.cell 1
          have f0 := HR5.out.free 0
          have f1 := HR5.out.free 1
          have y := HR5.out.lt
          have y2 := HP5.out.lt
          simp at q0 q1 r0 r1
          go_wp2
          have hR1 := HR5.out.set 0 (.slice B0 p1.slots.length d0) (cs' := #[.slice B0 p1.slots.length d0, .slice none 0 0]) rfl
          have hR2 := hR1.set 1 (.slice B1 p1.vols.length d1) (cs' := #[.slice B0 p1.slots.length d0, .slice B1 p1.vols.length d1]) rfl
          refine bodyPost_ret (results_ct rfl _ _ (w.heap.size + 1) 42 #[.slice B0 p1.slots.length d0, .slice B1 p1.vols.length d1] (0, 0) _ rfl hR2 Tryz.underlying42 rfl (by kernel_rfl)) rfl ?_
          exact ⟨B0, B1, _, _, d0, d1, by rw [HN.out]; rfl, fun q h => (by rw [HN.out] at h; cases h), (HF5.out.set (Nat.le_succ _) HB.out 0 (.slice B0 p1.slots.length d0)).set (Nat.le_succ _) HB.out 1 (.slice B1 p1.vols.length d1)⟩
        | true =>
          have HN := Lib.hid (show runP p (os.take (j + 1)) = some q by
            rw [runP_step HX.out HR.out]
            unfold opR
            rw [if_pos hok]
            obtain ⟨q', hq'⟩ := Option.isSome_iff_exists.1 HE.out.2
            have h1 := HE.out.1
            rw [hq'] at h1 ⊢
            exact congrArg some h1)
          clear hok
          have HD2 := Lib.hid (RunSt.of HP5.out HR5.out HQ5.out HF5.out HB.out)
          have q0 := HP5.out.cell 0
          have q1 := HP5.out.cell 1
          have r0 := HO5.out.cell 0
          have r1 := HO5.out.cell 1
          have f0 := HP5.out.free 0
          have f1 := HP5.out.free 1
          have y := HP5.out.lt
          simp at q0 q1 r0 r1
          go_wp2
          go_roundg (os.length - (j + 1))
          case measure => omega
          case rel => exact ⟨j + 1, q, A2, A3, k2, k3, bvc, by omega, by go_num, HN.out, HD2.out⟩
    · have HE := Lib.hid (show runP p os = some p1 by have := HR.out; rwa [List.take_of_length_le (by omega)] at this)
      have q0 := HD.out.pool.cell 0
      have q1 := HD.out.pool.cell 1
      have r0 := HD.out.res.cell 0
      have r1 := HD.out.res.cell 1
      have f0 := HD.out.res.free 0
      have f1 := HD.out.res.free 1
      have y := HD.out.res.lt
      simp at q0 q1 r0 r1
      go_wp2
      have hR1 := HD.out.res.set 0 (.slice B0 p1.slots.length d0) (cs' := #[.slice B0 p1.slots.length d0, .slice none 0 0]) rfl
      have hR2 := hR1.set 1 (.slice B1 p1.vols.length d1) (cs' := #[.slice B0 p1.slots.length d0, .slice B1 p1.vols.length d1]) rfl
      refine bodyPost_ret (results_ct rfl _ _ (w.heap.size + 1) 42 #[.slice B0 p1.slots.length d0, .slice B1 p1.vols.length d1] (0, 0) _ rfl hR2 Tryz.underlying42 rfl (by kernel_rfl)) rfl ?_
      exact ⟨B0, B1, _, _, d0, d1, by rw [HE.out]; rfl, fun q h => (by rw [HE.out] at h; cases h; exact ⟨bvs, (HD.out.own.far HD.out.res (by decide) (by decide) (by decide) 0 (.slice B0 p1.slots.length d0)).far hR1 (by decide) (by decide) (by decide) 1 (.slice B1 p1.vols.length d1)⟩), (HD.out.fr.set (Nat.le_succ _) HB.out 0 (.slice B0 p1.slots.length d0)).set (Nat.le_succ _) HB.out 1 (.slice B1 p1.vols.length d1)⟩
end Go.Proofs.YtccllgpaafgjaaaGreat

namespace Go.Proofs.YtccllgpaafgjaaaGreat
open Go.RowKit Go.Proofs.YtccllgpaafgjaaaGreatW.PrintWords Go.Proofs.YtccllgpaafgjaaaGreatW.PrintLast
section
variable {w : World} {A B C : Option Addr} {a b c : Nat} {l : Log}
/-- What is known of the pool that l13Run gave. -/
def RunQ (r : Option Pool) (w : World) (base : Nat) (A2 : Option Addr) (n2 k2 : Nat) (A3 : Option Addr) (n3 k3 : Nat) : Prop := ∀ q, r = some q → ∃ bq, OwnP w base (.slice A2 n2 k2) (.slice A3 n3 k3) q bq
theorem RunQ.bel {r : Option Pool} {w w' : World} {base : Nat} {A2 A3 : Option Addr} {n2 k2 n3 k3 : Nat} (h : RunQ r w base A2 n2 k2 A3 n3 k3) (hb : Bel w w') : RunQ r w' base A2 n2 k2 A3 n3 k3 := fun q e => by
  obtain ⟨bq, h⟩ := h q e
  exact ⟨bq, h.bel hb⟩
theorem runB_ok {p : Pool} {os : List Op} (h : poolOk p = true) : runB p os = (runP p os).isSome := by unfold runB; rw [h]; rfl
set_option maxHeartbeats 16000000 in
set_option maxRecDepth 10000 in
theorem specLogOk_c (h : LogIn w A B C a b c l) (hs : SmallL l) :
    Calls Tryz.prog 34 #[.agg #[.slice A l.base.slots.length a, .slice B l.base.vols.length b, .slice C l.ops.length c, .int .i64 l.safe]] w (Ret (.bool (logOk l)) w) := by
  have HI := Lib.hid h
  have HS := Lib.hid hs
  have hl := hs.ops.len
  obtain ⟨d, hd⟩ : ∃ d, decide (l.ops.length ≤ 20) = d := ⟨_, rfl⟩
  obtain ⟨t, ht⟩ : ∃ t, inR l.safe 0 l.ops.length = t := ⟨_, rfl⟩
  have hdi : decide (20 < (l.ops.length : Int)) = !d := by rw [← hd]; by_cases h : l.ops.length ≤ 20 <;> simp [h] <;> omega
  obtain ⟨z, hz⟩ : ∃ z, logOk l = z := ⟨_, rfl⟩
  rw [hz]
  have HZ := Lib.hid (show (runB l.base l.ops && (d && t)) = z by rw [← hz, ← hd, ← ht]; rfl)
  clear hz
  have HT := Lib.hid (fun W : World => (ht ▸ l6In_c l.safe 0 l.ops.length W : Calls Tryz.prog 89 #[.int .i64 l.safe, .int .i64 0, .int .i64 l.ops.length] W (Same (.bool t) W)))
  clear h hs hd ht
  go_enter Tryz.func34, Tryz.ntmps34
  go_wp2_with fail
  have hV := LVar.new HI.out
  have hW : Bel w (w.alloc (.cells #[.slice A l.base.slots.length a, .slice B l.base.vols.length b, .slice C l.ops.length c, .int .i64 l.safe] 44)) := bel_alloc (Below.refl _ _) _
  generalize w.alloc (.cells #[.slice A l.base.slots.length a, .slice B l.base.vols.length b, .slice C l.ops.length c, .int .i64 l.safe] 44) = W0 at hV hW ⊢
  have HK := Lib.hid (specPoolOk_in hV.inn.p HS.out.base)
  cases hok : poolOk l.base with
  | false =>
    rw [hok] at HK
    obtain rfl : z = false := by rw [← HZ.out]; unfold runB; rw [hok]; rfl
    clear hok
    refine HK.out.mono ?_
    rintro e w1 ⟨rfl, hb1⟩
    have HB := Lib.hid (hW.tr hb1)
    clear hV hW hb1
    go_wp2
    go_ret
    exact ⟨rfl, HB.out⟩
  | true =>
    have HV := Lib.hid (poolOk_iff.1 hok)
    rw [hok] at HK
    have HZ2 := Lib.hid (show ((runP l.base l.ops).isSome && (d && t)) = z by rw [← runB_ok hok]; exact HZ.out)
    clear hok
    refine HK.out.mono ?_
    rintro e w1 ⟨rfl, hb1⟩
    have KW := Lib.hid (hW.tr hb1)
    have KV := Lib.hid (hV.bel hb1)
    clear hV hW hb1
    have q0 := KV.out.c0
    have q1 := KV.out.c1
    have q2 := KV.out.c2
    have q3 := KV.out.c3
    have y := KV.out.lt
    by_cases hgo : d = true ∧ t = true
    · obtain ⟨rfl, rfl⟩ := hgo
      have hr : (runP l.base l.ops).isSome = z := by have := HZ2.out; simpa using this
      go_wp2_with (go_at_call 89; refine (HT.out _).mono ?_; rintro e w' ⟨rfl, rfl⟩)
      have V0 : Hid (LVar w1.drew w.heap.size A B C a b c l) := Lib.hid (KV.out.bel (Below.refl _ _).drew)
      have D0 : Hid (Bel w1.drew w1.drew) := Lib.hid (Below.refl _ _)
      have s0 := V0.out.c0
      have s1 := V0.out.c1
      have s2 := V0.out.c2
      have s3 := V0.out.c3
      have hrun := Lib.hid (fun (W' : World) (v0 v1 : Value) (bvs : List Value) (h : OwnP W' w1.drew.heap.size v0 v1 l.base bvs) (hb : Bel w1.drew W') => l13Run_c (c2 := c) h HV.out (Below.size hb) V0.out.inn.o (Nat.le_refl _) hb HS.out.ops)
      unfold RunsP at hrun
      rw [hr] at hrun
      have HR := Lib.hid hr
      clear hr q0 q1 q2 q3 y
      refine start_ (n := 12) (S := fun w' => w'.cell? ⟨w.heap.size, 0, none⟩ = some (.slice A l.base.slots.length a) ∧ w'.cell? ⟨w.heap.size, 1, none⟩ = some (.slice B l.base.vols.length b) ∧ w'.cell? ⟨w.heap.size, 2, none⟩ = some (.slice C l.ops.length c) ∧ w'.cell? ⟨w.heap.size, 3, none⟩ = some (.int .i64 l.safe)) (ds := [10]) #[bF, bF, bF, bF, bF, bF, bF, bF, bF, bF, bF, bF] (by kernel_rfl) rfl rfl ⟨s0, s1, s2, s3⟩ (fun hHeld => ?_)
      refine pure_ (i := 0) (N := some 25) (v := ?_) (a' := ?_) #[bT, bF, bF, bF, bF, bF, bF, bF, bF, bF, bF, bF] rfl rfl (by kernel_rfl) (fun _ _ _ h => h) (Or.inl ⟨by rfl, ?_⟩) ?_ ?_
      rotate_left
      · intro w'
        go_simp
        with_reducible rfl
      rotate_left
      · simp only [Act.put, lA, lB, lC, i64_w, i32_w]
        rfl
      refine pure_ (i := 3) (N := some 28) (v := ?_) (a' := ?_) #[bT, bF, bF, bT, bF, bF, bF, bF, bF, bF, bF, bF] rfl rfl (by kernel_rfl) (fun _ _ _ h => h) (Or.inl ⟨by rfl, ?_⟩) ?_ ?_
      rotate_left
      · intro w'
        go_simp
        with_reducible rfl
      rotate_left
      · simp only [Act.put, lA, lB, lC, i64_w, i32_w]
        rfl
      refine take_ (i := 1) (N := some 26) (v := ?_) (a' := ?_) #[bT, bT, bF, bT, bF, bF, bF, bF, bF, bF, bF, bF] rfl rfl (by kernel_rfl) (fun _ _ _ h => h) (Or.inl ⟨by rfl, ?_⟩) hHeld ?_ ?_
      rotate_left
      · rintro w' ⟨s0, s1, s2, s3⟩
        go_simp
        with_reducible rfl
      rotate_left
      · simp only [Act.put, lA, lB, lC, i64_w, i32_w]
        rfl
      refine take_ (i := 4) (N := some 29) (v := ?_) (a' := ?_) #[bT, bT, bF, bT, bT, bF, bF, bF, bF, bF, bF, bF] rfl rfl (by kernel_rfl) (fun _ _ _ h => h) (Or.inl ⟨by rfl, ?_⟩) hHeld ?_ ?_
      rotate_left
      · rintro w' ⟨s0, s1, s2, s3⟩
        go_simp
        with_reducible rfl
      rotate_left
      · simp only [Act.put, lA, lB, lC, i64_w, i32_w]
        rfl
      refine join_ (σ := Value × Value × Option Addr × Nat × Nat × Option Addr × Nat × Nat × Nat) 2 #[bT, bT, bT, bT, bT, bT, bT, bT, bT, bT, bF, bF] (fun s => [(27, .agg #[s.1, s.2.1]), (30, .tuple #[.agg #[.slice s.2.2.1 s.2.2.2.1 s.2.2.2.2.1, .slice s.2.2.2.2.2.1 s.2.2.2.2.2.2.1 s.2.2.2.2.2.2.2.1], .bool z]), (24, .tuple #[.agg #[.slice s.2.2.1 s.2.2.2.1 s.2.2.2.2.1, .slice s.2.2.2.2.2.1 s.2.2.2.2.2.2.1 s.2.2.2.2.2.2.2.1], .bool z]), (31, .agg #[.slice s.2.2.1 s.2.2.2.1 s.2.2.2.2.1, .slice s.2.2.2.2.2.1 s.2.2.2.2.2.2.1 s.2.2.2.2.2.2.2.1]), (32, .bool z), (3, .pointer (some ⟨s.2.2.2.2.2.2.2.2, 0, none⟩))]) (fun s w' => (w'.cell? ⟨w.heap.size, 0, none⟩ = some (.slice A l.base.slots.length a) ∧ w'.cell? ⟨w.heap.size, 1, none⟩ = some (.slice B l.base.vols.length b) ∧ w'.cell? ⟨w.heap.size, 2, none⟩ = some (.slice C l.ops.length c) ∧ w'.cell? ⟨w.heap.size, 3, none⟩ = some (.int .i64 l.safe)) ∧ Blk w' s.2.2.2.2.2.2.2.2 #[.slice none 0 0, .slice none 0 0] 42 ∧ w1.drew.heap.size ≤ s.2.2.2.2.2.2.2.2 ∧ RunQ (runP l.base l.ops) w' w1.drew.heap.size s.2.2.1 s.2.2.2.1 s.2.2.2.2.1 s.2.2.2.2.2.1 s.2.2.2.2.2.2.1 s.2.2.2.2.2.2.2.1 ∧ Bel w1.drew w') ?_ ?_
      rotate_left
      · intro hCont
        refine two_ (i := 2) (j := 9) (Ni := some 27) (Nj := some 3) #[bT, bT, bT, bT, bT, bF, bF, bF, bF, bF, bF, bF] #[bT, bT, bF, bT, bT, bF, bF, bF, bF, bT, bF, bF] rfl rfl rfl rfl (by kernel_rfl) (by decide) (by decide) (fun K hK => ?_) (fun K hK => ?_)
        · skip
          refine goes_ Tryz.func105 (by kernel_rfl) rfl #[.agg #[.slice A l.base.slots.length a, .slice B l.base.vols.length b]] (by rfl) rfl rfl (by simp only [List.map_toArray, List.map_cons, List.map_nil]; rfl) ?_
          with_reducible refine (l11Copy_c (V0.out.bel D0.out).inn.p HS.out.base).mono ?_
          rintro e w1_ ⟨va, vb, bva, rfl, ho, X1⟩
          have D1 := Lib.hid (Bel.tr D0.out X1)
          have P1 : Hid (OwnP w1_ w1.drew.heap.size va vb l.base bva) := Lib.hid (ho.lower D0.out.size)
          clear ho
          refine ⟨_, rfl, ?_⟩
          refine hK.out _ _ ⟨(V0.out.bel D1.out).c0, (V0.out.bel D1.out).c1, (V0.out.bel D1.out).c2, (V0.out.bel D1.out).c3⟩ (fun hHeld => ?_)
          clear hK K
          refine norm_ (a' := ?_) ?_ ?_
          rotate_left
          · show Act.put _ (some 27) _ = _
            simp only [Act.put, lA, lB, lC, i64_w, i32_w]
            rfl
          refine two_ (i := 5) (j := 9) (Ni := some 30) (Nj := some 3) #[bT, bT, bT, bT, bT, bT, bF, bF, bF, bF, bF, bF] #[bT, bT, bT, bT, bT, bF, bF, bF, bF, bT, bF, bF] rfl rfl rfl rfl (by kernel_rfl) (by decide) (by decide) (fun K hK => ?_) (fun K hK => ?_)
          · skip
            refine goes_ Tryz.func104 (by kernel_rfl) rfl #[.agg #[va, vb], .slice C l.ops.length c] (by rfl) rfl rfl (by simp only [List.map_toArray, List.map_cons, List.map_nil]; rfl) ?_
            with_reducible refine (hrun.out _ va vb bva P1.out D1.out).mono ?_
            rintro e w2_ ⟨A2, A3, n2, n3, k2, k3, rfl, hq, X2⟩
            have D2 : Hid (Bel w1.drew w2_) := Lib.hid (D1.out.trans X2.b)
            have Q2 := Lib.hid (show RunQ _ w2_ _ A2 n2 k2 A3 n3 k3 from hq)
            clear hq
            refine ⟨_, rfl, ?_⟩
            refine hK.out _ _ ⟨(V0.out.bel D2.out).c0, (V0.out.bel D2.out).c1, (V0.out.bel D2.out).c2, (V0.out.bel D2.out).c3⟩ (fun hHeld => ?_)
            clear hK K
            refine norm_ (a' := ?_) ?_ ?_
            rotate_left
            · show Act.put _ (some 30) _ = _
              simp only [Act.put, lA, lB, lC, i64_w, i32_w]
              rfl
            refine pure_ (i := 6) (N := some 24) (v := ?_) (a' := ?_) #[bT, bT, bT, bT, bT, bT, bT, bF, bF, bF, bF, bF] rfl rfl (by kernel_rfl) (fun _ _ _ h => h) (Or.inl ⟨by rfl, ?_⟩) ?_ ?_
            rotate_left
            · intro w'
              go_simp
              with_reducible rfl
            rotate_left
            · simp only [Act.put, lA, lB, lC, i64_w, i32_w]
              rfl
            refine pure_ (i := 7) (N := some 31) (v := ?_) (a' := ?_) #[bT, bT, bT, bT, bT, bT, bT, bT, bF, bF, bF, bF] rfl rfl (by kernel_rfl) (fun _ _ _ h => h) (Or.inl ⟨by rfl, ?_⟩) ?_ ?_
            rotate_left
            · intro w'
              go_simp
              with_reducible rfl
            rotate_left
            · simp only [Act.put, lA, lB, lC, i64_w, i32_w]
              rfl
            refine pure_ (i := 8) (N := some 32) (v := ?_) (a' := ?_) #[bT, bT, bT, bT, bT, bT, bT, bT, bT, bF, bF, bF] rfl rfl (by kernel_rfl) (fun _ _ _ h => h) (Or.inl ⟨by rfl, ?_⟩) ?_ ?_
            rotate_left
            · intro w'
              go_simp
              with_reducible rfl
            rotate_left
            · simp only [Act.put, lA, lB, lC, i64_w, i32_w]
              rfl
            refine one_ (i := 9) (N := some 3) #[bT, bT, bT, bT, bT, bT, bT, bT, bT, bT, bF, bF] rfl rfl (by kernel_rfl) (by decide) (fun K hK => ?_)
            refine value_ (w1 := ?_) (v := ?_) (by rfl) rfl ?_ ?_
            rotate_left 2
            · go_simp
              constructor
              · rfl
              · rfl
            have D3 : Hid (Bel w1.drew (w2_.alloc (.cells #[.slice none 0 0, .slice none 0 0] 42))) := Lib.hid (bel_alloc D2.out (.cells #[.slice none 0 0, .slice none 0 0] 42))
            have Q3 := Lib.hid (RunQ.bel Q2.out (bel_alloc (Below.refl _ _) (.cells #[.slice none 0 0, .slice none 0 0] 42)))
            have O3 : Hid (Blk (w2_.alloc (.cells #[.slice none 0 0, .slice none 0 0] 42)) w2_.heap.size #[.slice none 0 0, .slice none 0 0] 42) := Lib.hid (Blk.new w2_ #[.slice none 0 0, .slice none 0 0] 42)
            have L3 := D2.out.size
            refine hK.out _ _ ⟨(V0.out.bel D3.out).c0, (V0.out.bel D3.out).c1, (V0.out.bel D3.out).c2, (V0.out.bel D3.out).c3⟩ (fun hHeld => ?_)
            clear hK K
            refine norm_ (a' := ?_) ?_ ?_
            rotate_left
            · show Act.put _ (some 3) _ = _
              simp only [Act.put, lA, lB, lC, i64_w, i32_w]
              rfl
            exact norm_ (by simp only [putAll, Act.put, lA, lB, lC]) (hCont (va, vb, A2, n2, k2, A3, n3, k3, w2_.heap.size) _ ⟨hHeld, O3.out, L3, Q3.out, D3.out⟩)
          · skip
            refine value_ (w1 := ?_) (v := ?_) (by rfl) rfl ?_ ?_
            rotate_left 2
            · go_simp
              constructor
              · rfl
              · rfl
            have D2 : Hid (Bel w1.drew (w1_.alloc (.cells #[.slice none 0 0, .slice none 0 0] 42))) := Lib.hid (bel_alloc D1.out (.cells #[.slice none 0 0, .slice none 0 0] 42))
            have P2 := Lib.hid (OwnP.bel P1.out (bel_alloc (Below.refl _ _) (.cells #[.slice none 0 0, .slice none 0 0] 42)))
            have O2 : Hid (Blk (w1_.alloc (.cells #[.slice none 0 0, .slice none 0 0] 42)) w1_.heap.size #[.slice none 0 0, .slice none 0 0] 42) := Lib.hid (Blk.new w1_ #[.slice none 0 0, .slice none 0 0] 42)
            have L2 := D1.out.size
            refine hK.out _ _ ⟨(V0.out.bel D2.out).c0, (V0.out.bel D2.out).c1, (V0.out.bel D2.out).c2, (V0.out.bel D2.out).c3⟩ (fun hHeld => ?_)
            clear hK K
            refine norm_ (a' := ?_) ?_ ?_
            rotate_left
            · show Act.put _ (some 3) _ = _
              simp only [Act.put, lA, lB, lC, i64_w, i32_w]
              rfl
            refine one_ (i := 5) (N := some 30) #[bT, bT, bT, bT, bT, bT, bF, bF, bF, bT, bF, bF] rfl rfl (by kernel_rfl) (by decide) (fun K hK => ?_)
            refine goes_ Tryz.func104 (by kernel_rfl) rfl #[.agg #[va, vb], .slice C l.ops.length c] (by rfl) rfl rfl (by simp only [List.map_toArray, List.map_cons, List.map_nil]; rfl) ?_
            with_reducible refine (hrun.out _ va vb bva P2.out D2.out).mono ?_
            rintro e w3_ ⟨A2, A3, n2, n3, k2, k3, rfl, hq, X3⟩
            have D3 : Hid (Bel w1.drew w3_) := Lib.hid (D2.out.trans X3.b)
            have Q3 := Lib.hid (show RunQ _ w3_ _ A2 n2 k2 A3 n3 k3 from hq)
            clear hq
            have O3 := Lib.hid (X3.k _ _ _ (by decide) (by decide) (by decide) O2.out)
            refine ⟨_, rfl, ?_⟩
            refine hK.out _ _ ⟨(V0.out.bel D3.out).c0, (V0.out.bel D3.out).c1, (V0.out.bel D3.out).c2, (V0.out.bel D3.out).c3⟩ (fun hHeld => ?_)
            clear hK K
            refine norm_ (a' := ?_) ?_ ?_
            rotate_left
            · show Act.put _ (some 30) _ = _
              simp only [Act.put, lA, lB, lC, i64_w, i32_w]
              rfl
            refine pure_ (i := 6) (N := some 24) (v := ?_) (a' := ?_) #[bT, bT, bT, bT, bT, bT, bT, bF, bF, bT, bF, bF] rfl rfl (by kernel_rfl) (fun _ _ _ h => h) (Or.inl ⟨by rfl, ?_⟩) ?_ ?_
            rotate_left
            · intro w'
              go_simp
              with_reducible rfl
            rotate_left
            · simp only [Act.put, lA, lB, lC, i64_w, i32_w]
              rfl
            refine pure_ (i := 7) (N := some 31) (v := ?_) (a' := ?_) #[bT, bT, bT, bT, bT, bT, bT, bT, bF, bT, bF, bF] rfl rfl (by kernel_rfl) (fun _ _ _ h => h) (Or.inl ⟨by rfl, ?_⟩) ?_ ?_
            rotate_left
            · intro w'
              go_simp
              with_reducible rfl
            rotate_left
            · simp only [Act.put, lA, lB, lC, i64_w, i32_w]
              rfl
            refine pure_ (i := 8) (N := some 32) (v := ?_) (a' := ?_) #[bT, bT, bT, bT, bT, bT, bT, bT, bT, bT, bF, bF] rfl rfl (by kernel_rfl) (fun _ _ _ h => h) (Or.inl ⟨by rfl, ?_⟩) ?_ ?_
            rotate_left
            · intro w'
              go_simp
              with_reducible rfl
            rotate_left
            · simp only [Act.put, lA, lB, lC, i64_w, i32_w]
              rfl
            exact norm_ (by simp only [putAll, Act.put, lA, lB, lC]) (hCont (va, vb, A2, n2, k2, A3, n3, k3, w1_.heap.size) _ ⟨hHeld, O3.out, L2, Q3.out, D3.out⟩)
        · skip
          refine value_ (w1 := ?_) (v := ?_) (by rfl) rfl ?_ ?_
          rotate_left 2
          · go_simp
            constructor
            · rfl
            · rfl
          have D1 : Hid (Bel w1.drew (w1.alloc (.cells #[.slice none 0 0, .slice none 0 0] 42)).drew) := Lib.hid (bel_alloc D0.out (.cells #[.slice none 0 0, .slice none 0 0] 42))
          have O1 : Hid (Blk (w1.alloc (.cells #[.slice none 0 0, .slice none 0 0] 42)).drew w1.drew.heap.size #[.slice none 0 0, .slice none 0 0] 42) := Lib.hid (Blk.new w1.drew #[.slice none 0 0, .slice none 0 0] 42)
          have L1 := D0.out.size
          refine hK.out _ _ ⟨(V0.out.bel D1.out).c0, (V0.out.bel D1.out).c1, (V0.out.bel D1.out).c2, (V0.out.bel D1.out).c3⟩ (fun hHeld => ?_)
          clear hK K
          refine norm_ (a' := ?_) ?_ ?_
          rotate_left
          · show Act.put _ (some 3) _ = _
            simp only [Act.put, lA, lB, lC, i64_w, i32_w]
            rfl
          refine one_ (i := 2) (N := some 27) #[bT, bT, bT, bT, bT, bF, bF, bF, bF, bT, bF, bF] rfl rfl (by kernel_rfl) (by decide) (fun K hK => ?_)
          refine goes_ Tryz.func105 (by kernel_rfl) rfl #[.agg #[.slice A l.base.slots.length a, .slice B l.base.vols.length b]] (by rfl) rfl rfl (by simp only [List.map_toArray, List.map_cons, List.map_nil]; rfl) ?_
          with_reducible refine (l11Copy_c (V0.out.bel D1.out).inn.p HS.out.base).mono ?_
          rintro e w2_ ⟨va, vb, bva, rfl, ho, X2⟩
          have D2 := Lib.hid (Bel.tr D1.out X2)
          have O2 := Lib.hid (Blk.bel O1.out X2)
          have P2 : Hid (OwnP w2_ w1.drew.heap.size va vb l.base bva) := Lib.hid (ho.lower D1.out.size)
          clear ho
          refine ⟨_, rfl, ?_⟩
          refine hK.out _ _ ⟨(V0.out.bel D2.out).c0, (V0.out.bel D2.out).c1, (V0.out.bel D2.out).c2, (V0.out.bel D2.out).c3⟩ (fun hHeld => ?_)
          clear hK K
          refine norm_ (a' := ?_) ?_ ?_
          rotate_left
          · show Act.put _ (some 27) _ = _
            simp only [Act.put, lA, lB, lC, i64_w, i32_w]
            rfl
          refine one_ (i := 5) (N := some 30) #[bT, bT, bT, bT, bT, bT, bF, bF, bF, bT, bF, bF] rfl rfl (by kernel_rfl) (by decide) (fun K hK => ?_)
          refine goes_ Tryz.func104 (by kernel_rfl) rfl #[.agg #[va, vb], .slice C l.ops.length c] (by rfl) rfl rfl (by simp only [List.map_toArray, List.map_cons, List.map_nil]; rfl) ?_
          with_reducible refine (hrun.out _ va vb bva P2.out D2.out).mono ?_
          rintro e w3_ ⟨A2, A3, n2, n3, k2, k3, rfl, hq, X3⟩
          have D3 : Hid (Bel w1.drew w3_) := Lib.hid (D2.out.trans X3.b)
          have Q3 := Lib.hid (show RunQ _ w3_ _ A2 n2 k2 A3 n3 k3 from hq)
          clear hq
          have O3 := Lib.hid (X3.k _ _ _ (by decide) (by decide) (by decide) O2.out)
          refine ⟨_, rfl, ?_⟩
          refine hK.out _ _ ⟨(V0.out.bel D3.out).c0, (V0.out.bel D3.out).c1, (V0.out.bel D3.out).c2, (V0.out.bel D3.out).c3⟩ (fun hHeld => ?_)
          clear hK K
          refine norm_ (a' := ?_) ?_ ?_
          rotate_left
          · show Act.put _ (some 30) _ = _
            simp only [Act.put, lA, lB, lC, i64_w, i32_w]
            rfl
          refine pure_ (i := 6) (N := some 24) (v := ?_) (a' := ?_) #[bT, bT, bT, bT, bT, bT, bT, bF, bF, bT, bF, bF] rfl rfl (by kernel_rfl) (fun _ _ _ h => h) (Or.inl ⟨by rfl, ?_⟩) ?_ ?_
          rotate_left
          · intro w'
            go_simp
            with_reducible rfl
          rotate_left
          · simp only [Act.put, lA, lB, lC, i64_w, i32_w]
            rfl
          refine pure_ (i := 7) (N := some 31) (v := ?_) (a' := ?_) #[bT, bT, bT, bT, bT, bT, bT, bT, bF, bT, bF, bF] rfl rfl (by kernel_rfl) (fun _ _ _ h => h) (Or.inl ⟨by rfl, ?_⟩) ?_ ?_
          rotate_left
          · intro w'
            go_simp
            with_reducible rfl
          rotate_left
          · simp only [Act.put, lA, lB, lC, i64_w, i32_w]
            rfl
          refine pure_ (i := 8) (N := some 32) (v := ?_) (a' := ?_) #[bT, bT, bT, bT, bT, bT, bT, bT, bT, bT, bF, bF] rfl rfl (by kernel_rfl) (fun _ _ _ h => h) (Or.inl ⟨by rfl, ?_⟩) ?_ ?_
          rotate_left
          · intro w'
            go_simp
            with_reducible rfl
          rotate_left
          · simp only [Act.put, lA, lB, lC, i64_w, i32_w]
            rfl
          exact norm_ (by simp only [putAll, Act.put, lA, lB, lC]) (hCont (va, vb, A2, n2, k2, A3, n3, k3, w1.heap.size) _ ⟨hHeld, O3.out, L1, Q3.out, D3.out⟩)
      rintro ⟨va, vb, A2, n2, k2, A3, n3, k3, nb⟩ w3 ⟨hHeld, hO, hL, hQ, hD⟩
      dsimp only at hO hL hQ hD
      have r0 := hO.cell 0
      have r1 := hO.cell 1
      have f0 := hO.free 0
      have f1 := hO.free 1
      simp at r0 r1
      refine norm_ (a' := ?_) ?_ ?_
      rotate_left
      · simp only [putAll, Act.put, lA, lB, lC]
        rfl
      refine last_ (i := 10) (N := none) #[bT, bT, bT, bT, bT, bT, bT, bT, bT, bT, bT, bF] rfl rfl (by kernel_rfl) (by decide) (fun K hK => ?_)
      refine skip_ (w1 := ?_) (by rfl) rfl ?_ ?_
      rotate_left
      · go_simp
        rfl
      refine hK.out _ _ ?_
      clear hK K
      refine pure_ (i := 11) (N := some 4) (v := ?_) (a' := ?_) #[bT, bT, bT, bT, bT, bT, bT, bT, bT, bT, bT, bT] rfl rfl (by kernel_rfl) (fun _ _ _ h => h) (Or.inl ⟨by rfl, ?_⟩) ?_ ?_
      rotate_left
      · intro w'
        go_simp
        with_reducible rfl
      rotate_left
      · simp only [Act.put, lA, lB, lC, i64_w, i32_w]
        rfl
      refine done_ (by kernel_rfl) ?_
      have hb5 : Bel w1.drew ((w3.setCell ⟨nb, 0, none⟩ (.slice A2 n2 k2)).setCell ⟨nb, 1, none⟩ (.slice A3 n3 k3)) := bel_set (bel_set hD hL 0 (.slice A2 n2 k2)) hL 1 (.slice A3 n3 k3)
      clear hO hD hL hQ f0 f1 r0 r1 hHeld D0 s0 s1 s2 s3 hrun
      go_wp2
      go_ret
      exact ⟨rfl, (KW.out.tr (Below.refl _ _).drew).tr hb5⟩
    · obtain rfl : z = false := by rw [← HZ2.out]; cases (runP l.base l.ops).isSome <;> cases d <;> cases t <;> simp_all
      cases d <;> cases t <;> first
        | exact absurd ⟨rfl, rfl⟩ hgo
        | (clear hgo
           go_wp2_with (go_at_call 89; refine (HT.out _).mono ?_; rintro e w' ⟨rfl, rfl⟩)
           go_ret
           exact ⟨rfl, KW.out⟩)
end
end Go.Proofs.YtccllgpaafgjaaaGreat

namespace Go.Proofs.YtccllgpaafgjaaaGreat
open Go.RowKit Go.Proofs.YtccllgpaafgjaaaGreatW.PrintWords Go.Proofs.YtccllgpaafgjaaaGreatW.PrintLast
section
variable {w w' : World} {A B C : Option Addr} {a b c bk : Nat} {l : Log}
/-- A log of the laws' own type in a variable. -/
structure LVarL (w : World) (bk : Nat) (A B C : Option Addr) (a b c : Nat) (l : Log) : Prop where
  blk : Blk w bk #[.slice A l.base.slots.length a, .slice B l.base.vols.length b, .slice C l.ops.length c, .int .i64 l.safe] 84
  inn : LogIn w A B C a b c l
theorem LVarL.bel (h : LVarL w bk A B C a b c l) (hb : Bel w w') : LVarL w' bk A B C a b c l := ⟨h.blk.bel hb, h.inn.bel hb⟩
theorem LVarL.c0 (h : LVarL w bk A B C a b c l) : w.cell? ⟨bk, 0, none⟩ = some (.slice A l.base.slots.length a) := by have := h.blk.cell 0; simpa using this
theorem LVarL.c1 (h : LVarL w bk A B C a b c l) : w.cell? ⟨bk, 1, none⟩ = some (.slice B l.base.vols.length b) := by have := h.blk.cell 1; simpa using this
theorem LVarL.c2 (h : LVarL w bk A B C a b c l) : w.cell? ⟨bk, 2, none⟩ = some (.slice C l.ops.length c) := by have := h.blk.cell 2; simpa using this
theorem LVarL.c3 (h : LVarL w bk A B C a b c l) : w.cell? ⟨bk, 3, none⟩ = some (.int .i64 l.safe) := by have := h.blk.cell 3; simpa using this
theorem LVarL.lt (h : LVarL w bk A B C a b c l) : bk < w.heap.size := h.blk.lt
end
section
variable {w : World} {A B C : Option Addr} {a b c : Nat} {l : Log}
set_option maxHeartbeats 4000000 in
theorem szLog_c {left : Int} (h : LogIn w A B C a b c l) (hS : RawS l.base.slots) (hV : RawV l.base.vols) (hO : RawOs l.ops) (h0 : 0 ≤ left) (h1 : left ≤ 1048576) :
    Calls Tryz.prog 71 #[.agg #[.slice A l.base.slots.length a, .slice B l.base.vols.length b, .slice C l.ops.length c, .int .i64 l.safe], .int .i64 left] w (Left (SmallL l) left w) := by
  have HI := Lib.hid h
  have HRS := Lib.hid hS
  have HRV := Lib.hid hV
  have HRO := Lib.hid hO
  clear h hS hV hO
  go_enter Tryz.func71, Tryz.ntmps71
  go_wp2_with fail
  have hB : Blk (w.alloc (.cells #[.slice A l.base.slots.length a, .slice B l.base.vols.length b, .slice C l.ops.length c, .int .i64 l.safe] 84)) w.heap.size #[.slice A l.base.slots.length a, .slice B l.base.vols.length b, .slice C l.ops.length c, .int .i64 l.safe] 84 := Blk.new _ _ _
  have hb : Bel w (w.alloc (.cells #[.slice A l.base.slots.length a, .slice B l.base.vols.length b, .slice C l.ops.length c, .int .i64 l.safe] 84)) := bel_alloc (Below.refl _ _) _
  generalize w.alloc (.cells #[.slice A l.base.slots.length a, .slice B l.base.vols.length b, .slice C l.ops.length c, .int .i64 l.safe] 84) = W0 at hB hb ⊢
  refine (szPool_c (HI.out.bel hb).p HRS.out HRV.out h0 h1).mono ?_
  rintro e w1 ⟨r, rfl, hb1, hr, hr1⟩
  have KB := Lib.hid (hB.bel hb1)
  have KW := Lib.hid (hb.tr hb1)
  have HR := Lib.hid hr
  clear hB hb hb1 hr
  have q2 := KB.out.cell 2
  have y := KB.out.lt
  simp at q2
  by_cases hrn : r < 0
  · go_wp2
    go_ret
    exact ⟨-1, rfl, KW.out, by omega, by omega⟩
  have HR2 := Lib.hid (HR.out (by omega))
  have hr2 := HR2.out.2
  clear HR
  go_wp2_with fail
  refine (szOpS_c (HI.out.bel KW.out).o HRO.out (by omega) (by omega)).mono ?_
  rintro e w2 ⟨s, rfl, hb2, hs, hs1⟩
  have HB := Lib.hid (KW.out.tr hb2)
  have HS := Lib.hid hs
  clear hs hb2 q2
  by_cases hsn : s < 0
  · go_wp2
    go_ret
    exact ⟨-1, rfl, HB.out, by omega, by omega⟩
  · have h3 := HS.out (by omega)
    go_wp2
    go_ret
    exact ⟨s, rfl, HB.out, fun _ => ⟨⟨HR2.out.1, h3.1⟩, by omega⟩, by omega⟩
set_option maxHeartbeats 8000000 in
theorem toLog_c (h : LogIn w A B C a b c l) (hs : SmallL l) :
    Calls Tryz.prog 72 #[.agg #[.slice A l.base.slots.length a, .slice B l.base.vols.length b, .slice C l.ops.length c, .int .i64 l.safe]] w (MadeL w l) := by
  have HI := Lib.hid h
  have HS := Lib.hid hs
  clear h hs
  go_enter Tryz.func72, Tryz.ntmps72
  go_wp2_with fail
  have hB : Blk (((w.alloc (.cells #[.slice A l.base.slots.length a, .slice B l.base.vols.length b, .slice C l.ops.length c, .int .i64 l.safe] 84)).alloc (.cells #[.slice none 0 0, .slice none 0 0, .slice none 0 0, .int .i64 0] 44)).alloc (.cells #[.slice none 0 0, .slice none 0 0, .slice none 0 0, .int .i64 0] 44)) w.heap.size #[.slice A l.base.slots.length a, .slice B l.base.vols.length b, .slice C l.ops.length c, .int .i64 l.safe] 84 := ((Blk.new _ _ _).alloc _).alloc _
  have hR : Blk (((w.alloc (.cells #[.slice A l.base.slots.length a, .slice B l.base.vols.length b, .slice C l.ops.length c, .int .i64 l.safe] 84)).alloc (.cells #[.slice none 0 0, .slice none 0 0, .slice none 0 0, .int .i64 0] 44)).alloc (.cells #[.slice none 0 0, .slice none 0 0, .slice none 0 0, .int .i64 0] 44)) (w.heap.size + 1) #[.slice none 0 0, .slice none 0 0, .slice none 0 0, .int .i64 0] 44 := (Blk.nw2 w _ _ _).alloc _
  have hX : Blk (((w.alloc (.cells #[.slice A l.base.slots.length a, .slice B l.base.vols.length b, .slice C l.ops.length c, .int .i64 l.safe] 84)).alloc (.cells #[.slice none 0 0, .slice none 0 0, .slice none 0 0, .int .i64 0] 44)).alloc (.cells #[.slice none 0 0, .slice none 0 0, .slice none 0 0, .int .i64 0] 44)) (w.heap.size + 1 + 1) #[.slice none 0 0, .slice none 0 0, .slice none 0 0, .int .i64 0] 44 := by have := Blk.new ((w.alloc (.cells #[.slice A l.base.slots.length a, .slice B l.base.vols.length b, .slice C l.ops.length c, .int .i64 l.safe] 84)).alloc (.cells #[.slice none 0 0, .slice none 0 0, .slice none 0 0, .int .i64 0] 44)) #[.slice none 0 0, .slice none 0 0, .slice none 0 0, .int .i64 0] 44; simpa using this
  have hb : Bel w (((w.alloc (.cells #[.slice A l.base.slots.length a, .slice B l.base.vols.length b, .slice C l.ops.length c, .int .i64 l.safe] 84)).alloc (.cells #[.slice none 0 0, .slice none 0 0, .slice none 0 0, .int .i64 0] 44)).alloc (.cells #[.slice none 0 0, .slice none 0 0, .slice none 0 0, .int .i64 0] 44)) := bel_alloc (bel_alloc (bel_alloc (Below.refl _ _) _) _) _
  generalize (((w.alloc (.cells #[.slice A l.base.slots.length a, .slice B l.base.vols.length b, .slice C l.ops.length c, .int .i64 l.safe] 84)).alloc (.cells #[.slice none 0 0, .slice none 0 0, .slice none 0 0, .int .i64 0] 44)).alloc (.cells #[.slice none 0 0, .slice none 0 0, .slice none 0 0, .int .i64 0] 44)) = W0 at hB hR hX hb ⊢
  refine (toPool_c (HI.out.bel hb).p HS.out.base).mono ?_
  rintro e w1 ⟨v0, v1, bvs, rfl, hp, hb1⟩
  obtain ⟨A2, B2, a2, b2, rfl, rfl, hpi⟩ := hp.reads
  have hx1 := (hX.bel hb1).set 0 (.slice A2 l.base.slots.length a2) (cs' := #[.slice A2 l.base.slots.length a2, .slice none 0 0, .slice none 0 0, .int .i64 0]) rfl
  have hx2 := hx1.set 1 (.slice B2 l.base.vols.length b2) (cs' := #[.slice A2 l.base.slots.length a2, .slice B2 l.base.vols.length b2, .slice none 0 0, .int .i64 0]) rfl
  have hp2 := ((hp.lower hb.size).far (hX.bel hb1) (by decide) (by decide) (by decide) 0 (.slice A2 l.base.slots.length a2)).far hx1 (by decide) (by decide) (by decide) 1 (.slice B2 l.base.vols.length b2)
  have hr2 := ((hR.bel hb1).apart (c := w.heap.size + 1 + 1) (by omega) 0 (.slice A2 l.base.slots.length a2)).apart (c := w.heap.size + 1 + 1) (by omega) 1 (.slice B2 l.base.vols.length b2)
  have hB2 := ((hB.bel hb1).apart (c := w.heap.size + 1 + 1) (by omega) 0 (.slice A2 l.base.slots.length a2)).apart (c := w.heap.size + 1 + 1) (by omega) 1 (.slice B2 l.base.vols.length b2)
  have hbw := bel_set (bel_set (hb.tr hb1) (show w.heap.size ≤ w.heap.size + 1 + 1 by omega) 0 (.slice A2 l.base.slots.length a2)) (show w.heap.size ≤ w.heap.size + 1 + 1 by omega) 1 (.slice B2 l.base.vols.length b2)
  have hXb := hX.bel hb1
  have HBb := Lib.hid (hB.bel hb1)
  have q2 := HBb.out.cell 2
  have yq := HBb.out.lt
  have x0 := hXb.cell 0
  have x1 := hXb.cell 1
  have x2 := hXb.cell 2
  have x3 := hXb.cell 3
  have xf0 := hXb.free 0
  have xf1 := hXb.free 1
  have xf2 := hXb.free 2
  have xf3 := hXb.free 3
  have xy := hXb.lt
  simp at q2 x0 x1 x2 x3
  have HP := Lib.hid hp2
  have HX := Lib.hid hx2
  have HR := Lib.hid hr2
  have HB := Lib.hid hB2
  have HW := Lib.hid hbw
  clear hx1 hx2 hp2 hr2 hB2 hbw hXb hp hpi hB hR hX hb
  go_wp2_with fail
  clear q2 yq x0 x1 x2 x3 xf0 xf1 xf2 xf3 xy HBb
  generalize ((w1.setCell ⟨w.heap.size + 1 + 1, 0, none⟩ (.slice A2 l.base.slots.length a2)).setCell ⟨w.heap.size + 1 + 1, 1, none⟩ (.slice B2 l.base.vols.length b2)) = W2 at HP HX HR HB HW ⊢
  refine (toOpS_c (HI.out.bel HW.out).o HS.out.ops.len).mono ?_
  rintro e w3 ⟨v, rfl, ho, hb3⟩
  obtain ⟨C2, c2, rfl, hc2, hC2⟩ := ho.reads
  have HO := Lib.hid (show OwnO w3 w.heap.size (.slice C2 l.ops.length c2) l.ops from own_lower ho HW.out.size)
  replace HP := Lib.hid (HP.out.bel hb3)
  replace HX := Lib.hid (HX.out.bel hb3)
  replace HR := Lib.hid (HR.out.bel hb3)
  replace HB := Lib.hid (HB.out.bel hb3)
  replace HW := Lib.hid (HW.out.tr hb3)
  clear ho hc2 hC2 hb3 hb1
  have q3 := HB.out.cell 3
  have yq := HB.out.lt
  have x0 := HX.out.cell 0
  have x1 := HX.out.cell 1
  have x2 := HX.out.cell 2
  have x3 := HX.out.cell 3
  have xf0 := HX.out.free 0
  have xf1 := HX.out.free 1
  have xf2 := HX.out.free 2
  have xf3 := HX.out.free 3
  have xy := HX.out.lt
  have r0 := HR.out.cell 0
  have r1 := HR.out.cell 1
  have r2 := HR.out.cell 2
  have r3 := HR.out.cell 3
  have f0 := HR.out.free 0
  have f1 := HR.out.free 1
  have f2 := HR.out.free 2
  have f3 := HR.out.free 3
  have ry := HR.out.lt
  simp at q3 x0 x1 x2 x3 r0 r1 r2 r3
  go_wp2
  have hx1 := HX.out.set 2 (.slice C2 l.ops.length c2) (cs' := #[.slice A2 l.base.slots.length a2, .slice B2 l.base.vols.length b2, .slice C2 l.ops.length c2, .int .i64 0]) rfl
  have hr1 := (HR.out.apart (c := w.heap.size + 1 + 1) (by omega) 2 (.slice C2 l.ops.length c2)).apart (c := w.heap.size + 1 + 1) (by omega) 3 (.int .i64 l.safe)
  have hr4 := hr1.set4 (.slice A2 l.base.slots.length a2) (.slice B2 l.base.vols.length b2) (.slice C2 l.ops.length c2) (.int .i64 l.safe)
  have hp4 := ((HP.out.far HX.out (by decide) (by decide) (by decide) 2 (.slice C2 l.ops.length c2)).far hx1 (by decide) (by decide) (by decide) 3 (.int .i64 l.safe)).far4 hr1 (.slice A2 l.base.slots.length a2) (.slice B2 l.base.vols.length b2) (.slice C2 l.ops.length c2) (.int .i64 l.safe)
  have ho4 := OwnO.far4 ((HO.out.far HX.out (by decide) 2 (.slice C2 l.ops.length c2)).far hx1 (by decide) 3 (.int .i64 l.safe)) hr1 (.slice A2 l.base.slots.length a2) (.slice B2 l.base.vols.length b2) (.slice C2 l.ops.length c2) (.int .i64 l.safe)
  have hb4 := bel_set4 (bel_set (bel_set HW.out (show w.heap.size ≤ w.heap.size + 1 + 1 by omega) 2 (.slice C2 l.ops.length c2)) (show w.heap.size ≤ w.heap.size + 1 + 1 by omega) 3 (.int .i64 l.safe)) (Nat.le_succ _) (.slice A2 l.base.slots.length a2) (.slice B2 l.base.vols.length b2) (.slice C2 l.ops.length c2) (.int .i64 l.safe)
  refine bodyPost_ret (results_cell_row rfl _ _ (w.heap.size + 1) 44 #[.slice A2 l.base.slots.length a2, .slice B2 l.base.vols.length b2, .slice C2 l.ops.length c2, .int .i64 l.safe] (0, 0) _ rfl hr4 Tryz.underlying44 rfl (by kernel_rfl)) rfl ?_
  exact ⟨A2, B2, C2, a2, b2, c2, bvs, rfl, hp4, ho4, hb4⟩
set_option maxHeartbeats 4000000 in
theorem eqLog_c {A' B' C' : Option Addr} {a' b' c' : Nat} (h : LogIn w A B C a b c l) (h' : LogIn w A' B' C' a' b' c' l) (hs : SmallL l) :
    Calls Tryz.prog 73 #[.agg #[.slice A l.base.slots.length a, .slice B l.base.vols.length b, .slice C l.ops.length c, .int .i64 l.safe], .agg #[.slice A' l.base.slots.length a', .slice B' l.base.vols.length b', .slice C' l.ops.length c', .int .i64 l.safe]] w (Ret (.bool true) w) := by
  have H := Lib.hid h
  have H' := Lib.hid h'
  have HS := Lib.hid hs
  clear h h' hs
  go_enter Tryz.func73, Tryz.ntmps73
  go_wp2_with fail
  have hV := (LVar.new H.out).bel (bel_alloc (Below.refl _ _) (.cells #[.slice A' l.base.slots.length a', .slice B' l.base.vols.length b', .slice C' l.ops.length c', .int .i64 l.safe] 44))
  have hV2 : LVar ((w.alloc (.cells #[.slice A l.base.slots.length a, .slice B l.base.vols.length b, .slice C l.ops.length c, .int .i64 l.safe] 44)).alloc (.cells #[.slice A' l.base.slots.length a', .slice B' l.base.vols.length b', .slice C' l.ops.length c', .int .i64 l.safe] 44)) (w.heap.size + 1) A' B' C' a' b' c' l := ⟨Blk.nw2 _ _ _ _, (H'.out.alloc _).alloc _⟩
  have hW : Bel w ((w.alloc (.cells #[.slice A l.base.slots.length a, .slice B l.base.vols.length b, .slice C l.ops.length c, .int .i64 l.safe] 44)).alloc (.cells #[.slice A' l.base.slots.length a', .slice B' l.base.vols.length b', .slice C' l.ops.length c', .int .i64 l.safe] 44)) := bel_alloc (bel_alloc (Below.refl _ _) _) _
  generalize ((w.alloc (.cells #[.slice A l.base.slots.length a, .slice B l.base.vols.length b, .slice C l.ops.length c, .int .i64 l.safe] 44)).alloc (.cells #[.slice A' l.base.slots.length a', .slice B' l.base.vols.length b', .slice C' l.ops.length c', .int .i64 l.safe] 44)) = W0 at hV hV2 hW ⊢
  refine (eqPool_c hV.inn.p hV2.inn.p HS.out.base).mono ?_
  rintro e w1 ⟨rfl, hb1⟩
  have KV := Lib.hid (hV.bel hb1)
  have KV2 := Lib.hid (hV2.bel hb1)
  have KW := Lib.hid (hW.tr hb1)
  clear hV hV2 hW hb1
  have q2 := KV.out.c2
  have p2 := KV2.out.c2
  have y1 := KV.out.lt
  have y2 := KV2.out.lt
  go_wp2_with fail
  refine (eqOpS_c KV.out.inn.o KV2.out.inn.o HS.out.ops.len).mono ?_
  rintro e w2 ⟨rfl, hb2⟩
  have HB := Lib.hid (KW.out.tr hb2)
  have q3 := (KV.out.bel hb2).c3
  have p3 := (KV2.out.bel hb2).c3
  clear q2 p2 hb2 y1 y2
  go_wp2
  go_ret
  exact ⟨rfl, HB.out⟩
end
end Go.Proofs.YtccllgpaafgjaaaGreat

namespace Go.Proofs.YtccllgpaafgjaaaGreat
open Go.ChangeShapes Go.WideShapes
theorem joined_of {P : Program} {f : FuncId} {fn : Func} {s : ChangeSpec} {c : OpenClaim}
    (h0 : (c.wf (OpenSpec.ofChange s)) = true)
    (h1 : (laidOutB P) = true)
    (h2 : (mapsRowed P) = true)
    (h3 : (fn.params.all (P.readableRec ·)) = true)
    (h4 : (namedTie P c.named s.vars) = true)
    (h5 : (c.stops == []) = true)
    (h6 : (P.stops == []) = true)
    (h7 : (c.knobs == []) = true)
    (h8 : (P.stopKnobs == []) = true)
    (h9 : (c.inPlace == P.inPlace f) = true)
    (h10 : (c.unfollowed == P.unfollowed f) = true)
    (h11 : (c.recurses == P.recurses f) = true)
    (h12 : (c.named == P.varsNamed f) = true)
    (h13 : (c.maps == (fn.params.toList ++ s.plain.varTypes P).any (P.mapsRec ·)) = true)
    (h14 : (c.ifaces == (fn.params.toList ++ s.plain.varTypes P).any (P.ifacesRec ·)) = true)
    (h15 : (c.mapsOut == P.mapsAmong fn.resultTypes.toList) = true)
    (h16 : (c.loops == (fn.params.toList ++ s.plain.varTypes P).any (P.loopsFrom ·)) = true)
    (h17 : (c.wideKeys == (fn.params.toList ++ s.plain.varTypes P ++ fn.resultTypes.toList).any (P.wideKeysFrom ·)) = true)
    (h18 : (s.vars.all (P.varReadable ·)) = true)
    (h19 : (fn.resultTypes.all (fun t => P.readableRec t && decide (t < P.types.size))) = true)
    (h20 : (c.ifacesOut == fn.resultTypes.toList.any (P.ifacesRec ·)) = true)
    (h21 : (c.loopsOut == fn.resultTypes.toList.any (P.loopsFrom ·)) = true)
    (h22 : (c.plainKeys == P.plainKeys) = true)
    (h23 : (c.shortTexts.isNone) = true)
    (h24 : (P.stopsHeard) = true)
    (h25 : (P.mayEnter) = true)
    (h26 : (c.lifted == P.liftsFinal) = true)
    (h27 : (P.make == some c.make) = true)
    (h28 : (c.kinds == (if c.domain.isEmpty then [] else fn.params.toList.map fun t => match P.underlying t with | some (.int k) => some k | _ => none)) = true)
    (h29 : (c.pinned == c.pinnedBy) = true)
    (h30 : (c.veiled == (fn.params.toList ++ s.plain.varTypes P ++ fn.resultTypes.toList).any (P.veiledRec ·)) = true)
    (h31 : (c.veiledFits P fn.params.toList (fn.params.toList ++ s.plain.varTypes P ++ fn.resultTypes.toList)) = true) : joinedFacts P f fn s c = true := by
  unfold joinedFacts
  simp only [Bool.and_eq_true]
  exact ⟨⟨⟨⟨⟨⟨⟨⟨⟨⟨⟨⟨⟨⟨⟨⟨⟨⟨⟨⟨⟨⟨⟨⟨⟨⟨⟨⟨⟨⟨⟨h0, h1⟩, h2⟩, h3⟩, h4⟩, h5⟩, h6⟩, h7⟩, h8⟩, h9⟩, h10⟩, h11⟩, h12⟩, h13⟩, h14⟩, h15⟩, h16⟩, h17⟩, h18⟩, h19⟩, h20⟩, h21⟩, h22⟩, h23⟩, h24⟩, h25⟩, h26⟩, h27⟩, h28⟩, h29⟩, h30⟩, h31⟩
def ordN : List Nat := [104, 97, 114, 110, 101, 115, 115, 32, 102, 49, 50, 48, 98, 98, 97, 51, 102, 53, 55, 102, 97, 55, 97, 55, 100, 50, 50, 100, 54, 99, 50, 53, 55, 102, 99, 101, 50, 101, 52, 54,
  102, 102, 57, 100, 52, 51, 102, 52, 54, 98, 56, 55, 100, 50, 51, 99, 101, 101, 51, 53, 49, 100, 52, 55, 54, 51, 55, 102, 55, 101, 52, 98, 32, 99, 117, 116, 32, 97, 116, 32,
  108, 111, 111, 112, 46, 101, 120, 97, 109, 112, 108, 101, 47, 103, 97, 114, 110, 101, 114, 47, 108, 97, 119, 115, 46, 70, 110, 72, 101, 97, 114, 71, 97, 112, 32, 108, 111, 111, 112, 46,
  101, 120, 97, 109, 112, 108, 101, 47, 103, 97, 114, 110, 101, 114, 47, 108, 97, 119, 115, 46, 70, 110, 72, 101, 97, 114, 74, 111, 105, 110, 32, 108, 111, 111, 112, 46, 101, 120, 97, 109,
  112, 108, 101, 47, 103, 97, 114, 110, 101, 114, 47, 108, 97, 119, 115, 46, 70, 110, 72, 101, 97, 114, 67, 111, 112, 121, 32, 108, 111, 111, 112, 46, 101, 120, 97, 109, 112, 108, 101, 47,
  103, 97, 114, 110, 101, 114, 47, 108, 97, 119, 115, 46, 70, 110, 76, 111, 103, 80, 97, 99, 107, 32, 108, 111, 111, 112, 46, 101, 120, 97, 109, 112, 108, 101, 47, 103, 97, 114, 110, 101,
  114, 47, 108, 97, 119, 115, 46, 70, 110, 69, 120, 97, 99, 116, 78, 111, 100, 101, 65, 115, 107, 32, 108, 111, 111, 112, 46, 101, 120, 97, 109, 112, 108, 101, 47, 103, 97, 114, 110, 101,
  114, 47, 108, 97, 119, 115, 46, 70, 110, 76, 111, 103, 75, 101, 101, 112, 32, 108, 111, 111, 112, 46, 101, 120, 97, 109, 112, 108, 101, 47, 103, 97, 114, 110, 101, 114, 47, 108, 97, 119,
  115, 46, 70, 110, 80, 97, 99, 107, 70, 97, 108, 108, 32, 108, 111, 111, 112, 46, 101, 120, 97, 109, 112, 108, 101, 47, 103, 97, 114, 110, 101, 114, 47, 108, 97, 119, 115, 46, 70, 110,
  76, 111, 103, 70, 114, 101, 101, 32, 108, 111, 111, 112, 46, 101, 120, 97, 109, 112, 108, 101, 47, 103, 97, 114, 110, 101, 114, 47, 108, 97, 119, 115, 46, 70, 110, 76, 111, 103, 65, 100,
  100, 32, 108, 111, 111, 112, 46, 101, 120, 97, 109, 112, 108, 101, 47, 103, 97, 114, 110, 101, 114, 47, 108, 97, 119, 115, 46, 70, 110, 75, 101, 101, 112, 65, 100, 100, 32, 108, 111, 111,
  112, 46, 101, 120, 97, 109, 112, 108, 101, 47, 103, 97, 114, 110, 101, 114, 47, 108, 97, 119, 115, 46, 70, 110, 69, 120, 97, 99, 116, 78, 111, 100, 101, 80, 111, 111, 108, 32, 108, 111,
  111, 112, 46, 101, 120, 97, 109, 112, 108, 101, 47, 103, 97, 114, 110, 101, 114, 47, 108, 97, 119, 115, 46, 70, 110, 69, 120, 97, 99, 116, 76, 111, 103, 79, 107, 32, 108, 111, 111, 112,
  46, 101, 120, 97, 109, 112, 108, 101, 47, 103, 97, 114, 110, 101, 114, 47, 108, 97, 119, 115, 46, 70, 110, 78, 111, 100, 101, 76, 101, 115, 115, 32, 108, 111, 111, 112, 46, 101, 120, 97,
  109, 112, 108, 101, 47, 103, 97, 114, 110, 101, 114, 47, 108, 97, 119, 115, 46, 70, 110, 69, 120, 97, 99, 116, 78, 111, 100, 101, 72, 101, 97, 114, 32, 108, 111, 111, 112, 46, 101, 120,
  97, 109, 112, 108, 101, 47, 103, 97, 114, 110, 101, 114, 47, 108, 97, 119, 115, 46, 70, 110, 78, 111, 100, 101, 80, 111, 111, 108, 32, 108, 111, 111, 112, 46, 101, 120, 97, 109, 112, 108,
  101, 47, 103, 97, 114, 110, 101, 114, 47, 108, 97, 119, 115, 46, 70, 110, 69, 120, 97, 99, 116, 87, 111, 114, 108, 100, 79, 107, 32, 108, 111, 111, 112, 46, 101, 120, 97, 109, 112, 108,
  101, 47, 103, 97, 114, 110, 101, 114, 47, 108, 97, 119, 115, 46, 70, 110, 72, 101, 97, 114, 65, 103, 97, 105, 110, 32, 108, 111, 111, 112, 46, 101, 120, 97, 109, 112, 108, 101, 47, 103,
  97, 114, 110, 101, 114, 47, 108, 97, 119, 115, 46, 70, 110, 72, 101, 97, 114, 68, 111, 119, 110, 32, 108, 111, 111, 112, 46, 101, 120, 97, 109, 112, 108, 101, 47, 103, 97, 114, 110, 101,
  114, 47, 108, 97, 119, 115, 46, 70, 110, 72, 101, 97, 114, 69, 108, 100, 101, 114]
theorem ord_eq : Tryz.prog.initOrder = String.ofList (ordN.map Char.ofNat) := by kernel_rfl
theorem ord_list : Tryz.prog.initOrder.toList = ordN.map Char.ofNat := by rw [ord_eq, String.toList_ofList]
theorem jo_laid : laidOutB Tryz.prog = true := by kernel_rfl
theorem jo_maps : mapsRowed Tryz.prog = true := by kernel_rfl
theorem jo_stops : (Tryz.prog.stops == []) = true := by kernel_rfl
theorem jo_knobs : (Tryz.prog.stopKnobs == []) = true := by kernel_rfl
theorem jo_keys : (true == Tryz.prog.plainKeys) = true := by kernel_rfl
theorem jo_heard : Tryz.prog.stopsHeard = true := by kernel_rfl
theorem ord_words : behindMainWord (wordsSigns (ordN.map Char.ofNat)) = "cut".toList :: (behindMainWord (wordsSigns (ordN.map Char.ofNat))).tail := by kernel_rfl
theorem strip_cut (W : List (List Char)) : stripLifts liftWords ("cut".toList :: W) = ([], "cut".toList :: W) := by kernel_rfl
theorem jo_later : Tryz.prog.laysLater = false := by kernel_rfl
theorem jo_reflect : Tryz.prog.bearsReflect = false := by kernel_rfl
theorem jo_door : Tryz.prog.doorFits [] = true := by kernel_rfl
theorem cut_gc : ("cut".toList == "gc".toList) = false := by kernel_rfl
theorem cut_spec : ("cut".toList == "spec".toList) = false := by kernel_rfl
theorem cut_carried : ("cut".toList == "carried".toList) = false := by kernel_rfl
theorem cut_cut : ("cut".toList == "cut".toList) = true := by kernel_rfl
theorem some_cut : (some "cut".toList == some "cut".toList) = true := by kernel_rfl
theorem jo_enter : Tryz.prog.mayEnter = true := by
  rw [Program.mayEnter, ord_list, ord_words]
  generalize (behindMainWord (wordsSigns (ordN.map Char.ofNat))).tail = W
  simp only [strip_cut, cut_gc, cut_spec, cut_carried, List.head?_cons, some_cut, jo_later, jo_reflect, jo_door, Bool.or_self, Bool.false_and, Bool.not_false, Bool.or_true, Bool.and_self, List.contains_nil]
theorem jo_lifts : Tryz.prog.headLifts = [] := by
  unfold Program.headLifts
  rw [ord_list, ord_words]
  generalize (behindMainWord (wordsSigns (ordN.map Char.ofNat))).tail = W
  simp only [strip_cut, List.head?_cons, some_cut, if_true]
theorem jo_final : (false == Tryz.prog.liftsFinal) = true := by
  unfold Program.liftsFinal
  rw [jo_lifts, ord_list, ord_words]
  generalize (behindMainWord (wordsSigns (ordN.map Char.ofNat))).tail = W
  kernel_rfl
theorem jo_make : (Tryz.prog.make == some .cut) = true := by
  rw [Program.make, ord_list, ord_words]
  generalize (behindMainWord (wordsSigns (ordN.map Char.ofNat))).tail = W
  simp only [cut_gc, cut_spec, cut_cut, Bool.or_self, Bool.true_or, if_true, Bool.false_eq_true, if_false]
  kernel_rfl
end Go.Proofs.YtccllgpaafgjaaaGreat

namespace Go.Proofs.YtccllgpaafgjaaaGreat
open Go.RowKit Go.Proofs.YtccllgpaafgjaaaGreatW.PrintWords Go.Joins Go.ChangeShapes Go.WideShapes Go.Deep
section
variable {H : Type} {enc : TypeId × Value → H} {w : World} {base : Nat} {spare : Nat → Bool} {held : Bool}
theorem cells_opL : Tryz.prog.cellsOf 54 = 5 := by kernel_rfl
theorem cells_opsL : Tryz.prog.cellsOf 51 = 1 := by kernel_rfl
end
end Go.Proofs.YtccllgpaafgjaaaGreat

namespace Go.Proofs.YtccllgpaafgjaaaGreat
open Go.RowKit Go.Proofs.YtccllgpaafgjaaaGreatW.PrintWords Go.Joins Go.ChangeShapes Go.WideShapes Go.Deep
theorem array4 {α : Type} {cs : Array α} (h : cs.size = 4) : ∃ c0 c1 c2 c3, cs = #[c0, c1, c2, c3] := by
  obtain ⟨l⟩ := cs
  match l, h with
  | [c0, c1, c2, c3], _ => exact ⟨c0, c1, c2, c3, rfl⟩
section
variable {H : Type} {enc : TypeId × Value → H} {P : Program} {w : World} {base : Nat} {spare : Nat → Bool} {held : Bool}
theorem trod_struct3 {t : TypeId} {f0 f1 f2 : Field} {fuel : Nat} {cs : List Value} {x : DataW H × List MemPlace} (ht : P.underlying t = some (.struct #[f0, f1, f2])) (h : DataW.trod enc P w base spare held fuel t cs = some x) :
    ∃ y0 y1 y2 n, cs.length = P.cellsOf t ∧ DataW.trod enc P w base spare held n f0.type ((cs.drop f0.offset).take (P.cellsOf f0.type)) = some y0 ∧
      DataW.trod enc P w base spare held n f1.type ((cs.drop f1.offset).take (P.cellsOf f1.type)) = some y1 ∧ DataW.trod enc P w base spare held n f2.type ((cs.drop f2.offset).take (P.cellsOf f2.type)) = some y2 := by
  obtain ⟨xs, n, _, rfl, hl, hlen, hf⟩ := DataW.trod_struct ht h
  match xs, hlen with
  | [y0, y1, y2], _ => exact ⟨y0, y1, y2, n, hl, by simpa using hf 0 f0 rfl, by simpa using hf 1 f1 rfl, by simpa using hf 2 f2 rfl⟩
end
section
variable {H : Type} {enc : TypeId × Value → H} {w : World} {base : Nat} {spare : Nat → Bool} {held : Bool}
theorem cells_poolL : Tryz.prog.cellsOf 82 = 2 := by kernel_rfl
theorem cells_slotsL : Tryz.prog.cellsOf 79 = 1 := by kernel_rfl
theorem cells_volsL : Tryz.prog.cellsOf 80 = 1 := by kernel_rfl
set_option maxRecDepth 100000 in
theorem open_log {r : Reach} {b0 : Nat} {v : Value} {d : DataW H} {p : List MemPlace} (hv : Value.okWide Tryz.prog w r b0 84 v) (h : DataW.Trod enc Tryz.prog w base spare held 84 v d p) :
    ∃ (l : Log) (A B C : Option Addr) (a b c : Nat), v = .agg #[.slice A l.base.slots.length a, .slice B l.base.vols.length b, .slice C l.ops.length c, .int .i64 l.safe] ∧ LogIn w A B C a b c l ∧ RawS l.base.slots ∧ RawV l.base.vols ∧ RawOs l.ops := by
  obtain ⟨cs, rfl, hsz⟩ := okWide_struct Tryz.underlying84 hv
  obtain ⟨c0, c1, c2, c3, rfl⟩ := array4 (hsz.trans (show Tryz.prog.cellsOf 84 = 4 by kernel_rfl))
  obtain ⟨fuel, hf⟩ := h
  obtain ⟨y0, y1, y2, m, _, h0, h1, h2⟩ := trod_struct3 Tryz.underlying84 hf
  simp only [cells_poolL, cells_int, cells_opsL, List.drop_zero, List.drop_succ_cons, List.take_succ_cons, List.take_zero, Value.cells] at h0 h1 h2
  obtain ⟨z0, z1, m2, _, _, g0, g1⟩ := trod_struct2 Tryz.underlying82 h0
  simp only [cells_slotsL, cells_volsL, List.drop_zero, List.drop_succ_cons, List.take_succ_cons, List.take_zero, Value.cells] at g0 g1
  obtain ⟨A0, n0, ss, e0, l0, C0, Q0, m0⟩ := open_row kSlot (Q := fun z => z.text.size ≤ 9223372036854775807) Tryz.underlying79 (show Tryz.prog.cellsOf 222 = 2 by kernel_rfl) (fun n c y hl h => open_slotE hl h) g0
  obtain ⟨A1, n1, vs, e1, l1, C1, Q1, m1⟩ := open_row kVol (Q := fun z => z.name.size ≤ 9223372036854775807 ∧ z.blocks.length ≤ 9223372036854775807) Tryz.underlying80 (show Tryz.prog.cellsOf 224 = 2 by kernel_rfl) (fun n c y hl h => open_volE hl h) g1
  obtain ⟨A2, n2, xs, e2, l2, C2, Q2, m3⟩ := open_row kOp (Q := RawO) Tryz.underlying51 cells_opL (fun n c y hl hy => by
    obtain ⟨o, rfl, hr⟩ := open_opE hl hy
    exact ⟨o, kOp_mk _ o, hr⟩) h1
  obtain ⟨k, e3, _, hk⟩ := DataW.trod_int Tryz.underlying3 h2
  have := big_max
  simp only [List.cons.injEq, and_true] at e0 e1 e2 e3
  subst e0 e1 e2 e3
  exact ⟨⟨⟨ss, vs⟩, xs, k⟩, A0, A1, A2, n0, n1, n2, rfl, ⟨⟨C0, l0, C1, l1⟩, C2, l2⟩, ⟨by show ss.length ≤ _; omega, Q0⟩, ⟨by show vs.length ≤ _; omega, fun x hx => (Q1 x hx).1, fun x hx => (Q1 x hx).2⟩, ⟨by show xs.length ≤ _; omega, Q2⟩⟩
end
end Go.Proofs.YtccllgpaafgjaaaGreat

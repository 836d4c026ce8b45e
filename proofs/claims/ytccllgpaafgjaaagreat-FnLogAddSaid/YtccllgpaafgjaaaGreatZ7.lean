/- Contracts of the program's and the reference's functions, and the plain laws behind them: part 7 of 12. -/
import Derived.Test.YtccllgpaafgjaaaGreatZ1
import Derived.Test.YtccllgpaafgjaaaGreatZ2
import Derived.Test.YtccllgpaafgjaaaGreatZ3
import Derived.Test.YtccllgpaafgjaaaGreatZ4
import Derived.Test.YtccllgpaafgjaaaGreatZ5
import Derived.Test.YtccllgpaafgjaaaGreatZ6
set_option linter.unusedVariables false
set_option linter.unusedSimpArgs false

namespace Go.Proofs.YtccllgpaafgjaaaGreat
open Go.RowKit Go.Proofs.YtccllgpaafgjaaaGreatW.PrintWords Go.Proofs.YtccllgpaafgjaaaGreatW.PrintLast
def Opened (w : World) (e : Ending) (w' : World) : Prop := ∃ rb, e = .returned (.pointer (some ⟨rb, 0, none⟩)) ∧ Rd w' rb 0 ∧ w.heap.size ≤ rb ∧ Bel w w'
structure CodeIn (w : World) (A : Option Addr) (n c : Nat) (bs : List Int) : Prop where
  len : bs.length = n
  cap : n ≤ c
  C : kByte.C w A n bs
  bd : ∀ x ∈ bs, 0 ≤ x ∧ x ≤ 255
  lt : ∀ ad, A = some ad → ad.block < w.heap.size
theorem CodeIn.bel {w w' : World} {A : Option Addr} {n c : Nat} {bs : List Int} (h : CodeIn w A n c bs) (hb : Bel w w') : CodeIn w' A n c bs := ⟨h.len, h.cap, Kd.C_below h.C hb, h.bd, fun ad e => Nat.lt_of_lt_of_le (h.lt ad e) hb.size⟩
set_option maxHeartbeats 2000000 in
theorem open_c {w : World} {A : Option Addr} {n c : Nat} {bs : List Int} (h : CodeIn w A n c bs) (hn : n ≤ 9223372036854775807) :
  Calls Tryz.prog 85 #[.slice A n c] w (Opened w) := by
 have hcap := h.cap
 have H := Lib.hid h
 clear h
 by_cases hl : (2000 : Int) < (n : Int)
 ·go_enter Tryz.func85, Tryz.ntmps85
  go_wp2
  go_ret
  have hlen : (bs.take 2000).length = 2000 := by rw [List.length_take, H.out.len]; omega
  refine ⟨w.heap.size, rfl, ⟨⟨A, c, bs.take 2000, 0, ?_, ?_, fun x hx => H.out.bd x (List.mem_of_mem_take hx), by omega, Nat.le_refl _, H.out.lt⟩⟩, Nat.le_refl _, bel_alloc (Below.refl _ _) _⟩
  ·rw [hlen]; exact Blk.new _ _ _
  ·rw [hlen]; exact Kd.C_alloc (C_take H.out.C 2000 (by omega)) _
 ·go_enter Tryz.func85, Tryz.ntmps85
  go_wp2
  go_ret
  refine ⟨w.heap.size, rfl, ⟨⟨A, c, bs, 0, ?_, ?_, H.out.bd, by rw [H.out.len]; omega, Nat.le_refl _, H.out.lt⟩⟩, Nat.le_refl _, bel_alloc (Below.refl _ _) _⟩
  ·rw [H.out.len]; exact Blk.new _ _ _
  ·rw [H.out.len]; exact Kd.C_alloc H.out.C _
def OfV (xs : List ByteArray) (v : Value) : Prop := ∃ s, v = .string s ∧ s ∈ xs
theorem cell_str {w : World} {b : Nat} {xs : List ByteArray} {t : TypeId} (h : Blk w b (xs.map Value.string).toArray t) {j : Nat} {s : ByteArray} (hj : xs[j]? = some s) : w.cell? ⟨b, j, none⟩ = some (.string s) := by
 rw [h.cell]; simp [hj]
set_option maxHeartbeats 2000000 in
theorem of_c {w : World} {rb lb k : Nat} {xs : List ByteArray} {T : TypeId} (h : Rd w rb k) (hk : k ≤ 1099511627776) (hL : Blk w lb (xs.map Value.string).toArray T) (hne : lb ≠ rb) (h1 : 1 ≤ xs.length) (h2 : xs.length ≤ 100) (m c : Nat) (hm : xs.length = m) (hmc : m ≤ c) :
  Calls Tryz.prog 158 #[.pointer (some ⟨rb, 0, none⟩), .slice (some ⟨lb, 0, none⟩) m c] w (Drawn rb k 1 (OfV xs) w) := by
 have H := Lib.hid h
 have HL := Lib.hid hL
 have HM := Lib.hid hm
 have hm1 : 1 ≤ m := by omega
 have hm2 : m ≤ 100 := by omega
 clear h hL hm
 go_enter Tryz.func158, Tryz.ntmps158
 go_wp2_with fail
 refine (pick_c H.out hk (m : Int) (by omega)).mono ?_
 rintro e w1 ⟨v, rfl, ⟨r, rfl, hr0, hr1, -⟩, hR, hg⟩
 have hr2 := hr1 (by omega)
 obtain ⟨j, rfl⟩ : ∃ j : Nat, r = j := ⟨r.toNat, by omega⟩
 have hjm : j < m := by omega
 obtain ⟨s, hs⟩ := getQ (show j < xs.length by rw [HM.out]; exact hjm)
 have hc := cell_str (HL.out.grown hg (by intro e; injection e with e; exact hne e)) hs
 have HR := Lib.hid (And.intro hR hg)
 have HS := Lib.hid (List.mem_of_getElem? hs)
 clear hR hg hs hr1
 go_wp2
 go_ret
 exact ⟨_, rfl, ⟨s, rfl, HS.out⟩, HR.out.1, HR.out.2⟩
def TextV (v : Value) : Prop := ∃ s : ByteArray, v = .string s ∧ s.size ≤ 7
def sOf (l : List UInt8) : ByteArray := ⟨l.toArray⟩
def abc : List ByteArray := [sOf [97], sOf [98], sOf [99], sOf [100], sOf [97]]
def eee : List ByteArray := [sOf [101], sOf [97, 97, 97, 97], sOf [32], sOf [65]]
theorem abc_size {s : ByteArray} (h : s ∈ abc) : s.size = 1 := by
 simp only [abc, List.mem_cons, List.not_mem_nil, or_false] at h
 rcases h with rfl | rfl | rfl | rfl | rfl <;> rfl
theorem eee_size {s : ByteArray} (h : s ∈ eee) : s.size ≤ 4 := by
 simp only [eee, List.mem_cons, List.not_mem_nil, or_false] at h
 rcases h with rfl | rfl | rfl | rfl <;> decide
set_option maxHeartbeats 4000000 in
set_option maxRecDepth 10000 in
theorem text_c {w : World} {rb k : Nat} (h : Rd w rb k) (hk : k ≤ 1099511600000) :
  Calls Tryz.prog 159 #[.pointer (some ⟨rb, 0, none⟩)] w (Drawn rb k 6 TextV w) := by
 have H := Lib.hid h
 clear h
 go_enter Tryz.func159, Tryz.ntmps159
 go_wp2_with fail
 refine (pick_c H.out (by omega) 4 (by omega)).mono ?_
 rintro e w1 ⟨v, rfl, ⟨r, rfl, hr0, hr1, -⟩, hR, hg⟩
 have hr2 := hr1 (by omega)
 obtain ⟨j0, rfl⟩ : ∃ j : Nat, r = j := ⟨r.toNat, by omega⟩
 have hj0 : j0 ≤ 3 := by omega
 have HR := Lib.hid (And.intro hR hg)
 clear hR hg hr1 hr2
 go_wp2
 go_loopg [3, 4] j0 (fun gg v3 v4 W => ∃ (j : Nat) (s : ByteArray), j = gg ∧ j ≤ j0 ∧ v4 = .int .i64 j ∧ v3 = .string s ∧ s.size + j ≤ 3 ∧ Hid (Rd W rb (k + 1 + (3 - j)) ∧ w.grownBy W (some rb)))
 case atStart => exact ⟨j0, ⟨#[]⟩, rfl, Nat.le_refl _, rfl, rfl, by simp [ByteArray.size]; omega, HR.out.1.more (by omega), HR.out.2⟩
 case round =>
  obtain ⟨j, s, hj, hjj, rfl, rfl, hs, hI⟩ := hrel
  subst hj
  by_cases hlt : 0 < j
  ·go_wp2_with fail
   have hB : Blk (wr.alloc (.cells #[.string ⟨#[97]⟩, .string ⟨#[98]⟩, .string ⟨#[99]⟩, .string ⟨#[100]⟩, .string ⟨#[97]⟩] 9)) wr.heap.size (abc.map Value.string).toArray 9 := Blk.new wr _ _
   have hne : wr.heap.size ≠ rb := by have := hI.out.1.lt; omega
   refine (of_c (hI.out.1.bel (bel_alloc (Below.refl _ _) _)) (by omega) hB hne (by decide) (by decide) 5 5 rfl (by omega)).mono ?_
   rintro e w4 ⟨v, rfl, ⟨s', rfl, hs'⟩, hR4, hg4⟩
   have hsz := abc_size hs'
   have hsz1 : s'.size ≤ 1 := by omega
   have HSZ := Lib.hid hsz
   have HI := Lib.hid (And.intro hR4 (grown_tr hI.out.2 (grown_tr (grown_of_bel (bel_alloc (Below.refl _ _) _) _) hg4)))
   have hs3 : s.size ≤ 3 := by omega
   clear hB hne hs' hR4 hg4 hI hsz
   go_wp2
   go_roundg (j - 1)
   case measure => omega
   case rel => exact ⟨j - 1, _, rfl, by omega, int_eq (by omega), rfl, by rw [ByteArray.size_append, HSZ.out]; omega, HI.out.1.more (by omega), HI.out.2⟩
  ·have hj : j = 0 := by omega
   have HI := Lib.hid (And.intro (hI.out.1.more (show k + 1 + (3 - j) ≤ k + 4 by omega)) hI.out.2)
   have hs3 : s.size ≤ 3 := by omega
   clear hI
   go_wp2_with fail
   refine (pick_c HI.out.1 (by omega) 30 (by omega)).mono ?_
   rintro e w4 ⟨v, rfl, ⟨r, rfl, hr0, hr1, -⟩, hR4, hg4⟩
   have HI4 := Lib.hid (And.intro hR4 (grown_tr HI.out.2 hg4))
   clear hR4 hg4 hr1
   by_cases hr : r = 0
   ·subst hr
    go_wp2_with fail
    have hB : Blk (w4.alloc (.cells #[.string ⟨#[101]⟩, .string ⟨#[97, 97, 97, 97]⟩, .string ⟨#[32]⟩, .string ⟨#[65]⟩] 9)) w4.heap.size (eee.map Value.string).toArray 9 := Blk.new w4 _ _
    have hne : w4.heap.size ≠ rb := by have := HI4.out.1.lt; omega
    refine (of_c (HI4.out.1.bel (bel_alloc (Below.refl _ _) _)) (by omega) hB hne (by decide) (by decide) 4 4 rfl (by omega)).mono ?_
    rintro e w5 ⟨v, rfl, ⟨s', rfl, hs'⟩, hR5, hg5⟩
    have hsz := eee_size hs'
    have HI5 := Lib.hid (And.intro (hR5.more (show k + 4 + 1 + 1 ≤ k + 6 by omega)) (grown_tr HI4.out.2 (grown_tr (grown_of_bel (bel_alloc (Below.refl _ _) _) _) hg5)))
    clear hB hne hs' hR5 hg5
    go_wp2
    go_ret
    exact ⟨_, rfl, ⟨_, rfl, by rw [ByteArray.size_append]; omega⟩, HI5.out.1, HI5.out.2⟩
   ·go_wp2
    go_ret
    exact ⟨_, rfl, ⟨_, rfl, by omega⟩, HI4.out.1.more (by omega), HI4.out.2⟩
end Go.Proofs.YtccllgpaafgjaaaGreat

namespace Go.Proofs.YtccllgpaafgjaaaGreat
open Go.RowKit Go.Proofs.YtccllgpaafgjaaaGreatW.PrintWords Go.Proofs.YtccllgpaafgjaaaGreatW.PrintLast
theorem newP_ok : PoolP newP := poolOk_iff.1 (by kernel_rfl)
def NV (n : Node) (A : Option Addr) (c : Nat) : Value := .agg #[.bool n.up, .int .i64 n.term, .bool n.leads, .bool n.alone, .slice A n.ops.length c]
end Go.Proofs.YtccllgpaafgjaaaGreat

namespace Go.Proofs.YtccllgpaafgjaaaGreat
open Go.RowKit Go.Proofs.YtccllgpaafgjaaaGreatW.PrintWords
def MadeNd (w : World) (n : Node) (e : Ending) (w' : World) : Prop := ∃ v, e = .returned (.agg #[.bool n.up, .int .i64 n.term, .bool n.leads, .bool n.alone, v]) ∧ OwnO w' w.heap.size v n.ops ∧ Bel w w'
theorem OwnO.far {w : World} {base : Nat} {v : Value} {s : List Op} (h : OwnO w base v s) {b : Nat} {cs : Array Value} {t : TypeId} (hB : Blk w b cs t) (ht : 27 ≠ t) (i : Nat) (u : Value) : OwnO (w.setCell ⟨b, i, none⟩ u) base v s :=
 own_setCell (p := ⟨b, i, none⟩) h (own_ne h hB ht) u
end Go.Proofs.YtccllgpaafgjaaaGreat

namespace Go.Proofs.YtccllgpaafgjaaaGreat
open Go.RowKit Go.Proofs.YtccllgpaafgjaaaGreatW.PrintWords Go.Proofs.YtccllgpaafgjaaaGreatW.PrintLast
def MadeL (w : World) (l : Log) (e : Ending) (w' : World) : Prop := ∃ (A B C : Option Addr) (a b c : Nat) (bvs : List Value), e = .returned (.agg #[.slice A l.base.slots.length a, .slice B l.base.vols.length b, .slice C l.ops.length c, .int .i64 l.safe]) ∧ OwnP w' w.heap.size (.slice A l.base.slots.length a) (.slice B l.base.vols.length b) l.base bvs ∧ OwnO w' w.heap.size (.slice C l.ops.length c) l.ops ∧ Bel w w'
theorem OwnO.innC {w : World} {base n c : Nat} {C : Option Addr} {s : List Op} (h : OwnO w base (.slice C n c) s) (hn : n = s.length) : s.length ≤ c ∧ kOp.C w C s.length s := by
 subst hn
 obtain ⟨A, k, e, hk, hC⟩ := h.reads
 have e := slice_eq e
 obtain ⟨rfl, -, rfl⟩ := e
 exact ⟨hk, hC⟩
theorem MadeL.new {w : World} {l : Log} {e : Ending} {w' : World} (h : MadeL w l e w') : NewL w l e w' := by
 obtain ⟨A, B, C, a, b, c, bvs, rfl, hp, ho, hb⟩ := h
 have h1 := ho.innC rfl
 exact ⟨A, B, C, a, b, c, rfl, ⟨hp.inn, h1.2, h1.1⟩, hb⟩
abbrev wset4 (W : World) (b : Nat) (u0 u1 u2 u3 : Value) : World := (((W.setCell ⟨b, 0, none⟩ u0).setCell ⟨b, 1, none⟩ u1).setCell ⟨b, 2, none⟩ u2).setCell ⟨b, 3, none⟩ u3
theorem Blk.set4 {W : World} {b : Nat} {x0 x1 x2 x3 : Value} {t : TypeId} (h : Blk W b #[x0, x1, x2, x3] t) (u0 u1 u2 u3 : Value) : Blk (wset4 W b u0 u1 u2 u3) b #[u0, u1, u2, u3] t :=
 (((h.set 0 u0 (cs' := #[u0, x1, x2, x3]) rfl).set 1 u1 (cs' := #[u0, u1, x2, x3]) rfl).set 2 u2 (cs' := #[u0, u1, u2, x3]) rfl).set 3 u3 rfl
theorem bel_set4 {w w1 : World} (h : Bel w w1) {b : Nat} (hb : w.heap.size ≤ b) (u0 u1 u2 u3 : Value) : Bel w (wset4 w1 b u0 u1 u2 u3) := bel_set (bel_set (bel_set (bel_set h hb 0 u0) hb 1 u1) hb 2 u2) hb 3 u3
theorem OwnP.far4 {W : World} {base b : Nat} {v0 v1 : Value} {p : Pool} {bvs : List Value} (h : OwnP W base v0 v1 p bvs) {x0 x1 x2 x3 : Value} (hB : Blk W b #[x0, x1, x2, x3] 44) (u0 u1 u2 u3 : Value) : OwnP (wset4 W b u0 u1 u2 u3) base v0 v1 p bvs := by
 have h1 := hB.set 0 u0 (cs' := #[u0, x1, x2, x3]) rfl
 have h2 := h1.set 1 u1 (cs' := #[u0, u1, x2, x3]) rfl
 have h3 := h2.set 2 u2 (cs' := #[u0, u1, u2, x3]) rfl
 exact (((h.far hB (by decide) (by decide) (by decide) 0 u0).far h1 (by decide) (by decide) (by decide) 1 u1).far h2 (by decide) (by decide) (by decide) 2 u2).far h3 (by decide) (by decide) (by decide) 3 u3
theorem OwnO.far4 {W : World} {base b : Nat} {v : Value} {s : List Op} (h : OwnO W base v s) {x0 x1 x2 x3 : Value} (hB : Blk W b #[x0, x1, x2, x3] 44) (u0 u1 u2 u3 : Value) : OwnO (wset4 W b u0 u1 u2 u3) base v s := by
 have h1 := hB.set 0 u0 (cs' := #[u0, x1, x2, x3]) rfl
 have h2 := h1.set 1 u1 (cs' := #[u0, u1, x2, x3]) rfl
 have h3 := h2.set 2 u2 (cs' := #[u0, u1, u2, x3]) rfl
 exact (((h.far hB (by decide) 0 u0).far h1 (by decide) 1 u1).far h2 (by decide) 2 u2).far h3 (by decide) 3 u3
theorem OwnP.otherO {w w' : World} {b2 : Nat} {v2 : Value} {s2 : List Op} {base : Nat} {v0 v1 : Value} {p : Pool} {bvs : List Value} (h : OwnP w base v0 v1 p bvs) (h2 : OwnO w b2 v2 s2) (hg : w.grownBy w' v2.ownBlock) : OwnP w' base v0 v1 p bvs :=
 ⟨own_other_type h.s h2 (by decide) hg, ⟨⟨h.v.row.len, own_other_type h.v.row.row h2 (by decide) hg⟩, fun m x b hx hb => own_other_type (h.v.inner m x b hx hb) h2 (by decide) hg, h.v.apart⟩⟩
theorem Blk.apart4 {W : World} {b d : Nat} {cs : Array Value} {t : TypeId} (h : Blk W b cs t) (hne : d ≠ b) (u0 u1 u2 u3 : Value) : Blk (wset4 W d u0 u1 u2 u3) b cs t := (((h.apart hne 0 u0).apart hne 1 u1).apart hne 2 u2).apart hne 3 u3
section
variable {w : World} {A B C : Option Addr} {a b c : Nat} {l : Log}
set_option maxHeartbeats 8000000 in
theorem implLogOk_c (h : LogIn w A B C a b c l) (hs : SmallL l) :
    Calls Tryz.prog 37 #[.agg #[.slice A l.base.slots.length a, .slice B l.base.vols.length b, .slice C l.ops.length c, .int .i64 l.safe]] w (Ret (.bool (logOk l)) w) := by
  have HI := Lib.hid h
  have HS := Lib.hid hs
  have hl := hs.ops.len
  obtain ⟨r, hr⟩ : ∃ r, runB l.base l.ops = r := ⟨_, rfl⟩
  obtain ⟨d, hd⟩ : ∃ d, decide (l.ops.length ≤ 20) = d := ⟨_, rfl⟩
  obtain ⟨t, ht⟩ : ∃ t, inR l.safe 0 l.ops.length = t := ⟨_, rfl⟩
  have hdi : decide ((l.ops.length : Int) ≤ 20) = d := by rw [← hd]; congr 1; exact propext ⟨fun h => by omega, fun h => by omega⟩
  unfold logOk
  rw [hr, hd, ht]
  have HR := Lib.hid hr
  have HT := Lib.hid (fun W : World => (ht ▸ within_c l.safe 0 l.ops.length W : Calls Tryz.prog 110 #[.int .i64 l.safe, .int .i64 0, .int .i64 l.ops.length] W (Same (.bool t) W)))
  clear h hs hr hd ht
  go_enter Tryz.func37, Tryz.ntmps37
  go_wp2_with fail
  have hV := LVar.new HI.out
  have hW : Bel w (w.alloc (.cells #[.slice A l.base.slots.length a, .slice B l.base.vols.length b, .slice C l.ops.length c, .int .i64 l.safe] 44)) := bel_alloc (Below.refl _ _) _
  generalize w.alloc (.cells #[.slice A l.base.slots.length a, .slice B l.base.vols.length b, .slice C l.ops.length c, .int .i64 l.safe] 44) = W0 at hV hW ⊢
  refine (doAll_c hV.inn.p HS.out.base hV.inn.o HS.out.ops).mono ?_
  rw [HR.out]
  generalize runV l.base l.ops = q
  rintro e w2 ⟨u0, u1, bu, rfl, hu, hb2⟩
  obtain ⟨E0, E1, k0, k1, rfl, rfl, hpi⟩ := hu.reads
  have HB := Lib.hid (hW.tr hb2)
  have q2 := (hV.bel hb2).c2
  have q3 := (hV.bel hb2).c3
  have y := (hV.bel hb2).lt
  clear hpi hu hV hb2 hW
  cases r <;> cases d <;> cases t <;>
    (go_wp2_with (go_at_call 110; refine (HT.out _).mono ?_; rintro e w' ⟨rfl, rfl⟩)
     go_ret
     exact ⟨rfl, bel_alloc HB.out _⟩)
set_option maxHeartbeats 8000000 in
theorem implLogRun_c (h : LogIn w A B C a b c l) (hs : SmallL l) :
  Calls Tryz.prog 109 #[.agg #[.slice A l.base.slots.length a, .slice B l.base.vols.length b, .slice C l.ops.length c, .int .i64 l.safe]] w (MadeP w (runV l.base l.ops)) := by
 have HI := Lib.hid h
 obtain ⟨q, hq⟩ : ∃ q, runV l.base l.ops = q := ⟨_, rfl⟩
 rw [hq]
 have HQ := Lib.hid hq
 clear hq
 have HS := Lib.hid hs
 clear h hs
 go_enter Tryz.func109, Tryz.ntmps109
 go_wp2_with fail
 have hV := (LVar.new HI.out).bel (bel_alloc (Below.refl _ _) (.cells #[.slice none 0 0, .slice none 0 0] 42))
 have hR : Blk ((w.alloc (.cells #[.slice A l.base.slots.length a, .slice B l.base.vols.length b, .slice C l.ops.length c, .int .i64 l.safe] 44)).alloc (.cells #[.slice none 0 0, .slice none 0 0] 42)) (w.heap.size + 1) #[.slice none 0 0, .slice none 0 0] 42 := Blk.nw2 _ _ _ _
 have hW : Bel w ((w.alloc (.cells #[.slice A l.base.slots.length a, .slice B l.base.vols.length b, .slice C l.ops.length c, .int .i64 l.safe] 44)).alloc (.cells #[.slice none 0 0, .slice none 0 0] 42)) := bel_alloc (bel_alloc (Below.refl _ _) _) _
 generalize ((w.alloc (.cells #[.slice A l.base.slots.length a, .slice B l.base.vols.length b, .slice C l.ops.length c, .int .i64 l.safe] 44)).alloc (.cells #[.slice none 0 0, .slice none 0 0] 42)) = W0 at hV hR hW ⊢
 refine (doAll_c hV.inn.p HS.out.base hV.inn.o HS.out.ops).mono ?_
 rw [HQ.out]
 generalize runB l.base l.ops = r
 rintro e w2 ⟨u0, u1, bu, rfl, hu, hb2⟩
 obtain ⟨E0, E1, k0, k1, rfl, rfl, hpi⟩ := hu.reads
 have HR := Lib.hid (hR.bel hb2)
 have HB := Lib.hid (hW.tr hb2)
 have HU := Lib.hid (hu.lower hW.size)
 have r0 := HR.out.cell 0
 have r1 := HR.out.cell 1
 have f0 := HR.out.free 0
 have f1 := HR.out.free 1
 have y := HR.out.lt
 simp at r0 r1
 clear hpi hu hV hR hb2 hW
 go_wp2
 have hR1 := HR.out.set 0 (.slice E0 q.slots.length k0) (cs' := #[.slice E0 q.slots.length k0, .slice none 0 0]) rfl
 have hR2 := hR1.set 1 (.slice E1 q.vols.length k1) (cs' := #[.slice E0 q.slots.length k0, .slice E1 q.vols.length k1]) rfl
 have hu2 := (HU.out.far HR.out (by decide) (by decide) (by decide) 0 (.slice E0 q.slots.length k0)).far hR1 (by decide) (by decide) (by decide) 1 (.slice E1 q.vols.length k1)
 have hb3 := bel_set (bel_set HB.out (Nat.le_succ _) 0 (.slice E0 q.slots.length k0)) (Nat.le_succ _) 1 (.slice E1 q.vols.length k1)
 refine bodyPost_ret (results_cell_row rfl _ _ (w.heap.size + 1) 42 #[.slice E0 q.slots.length k0, .slice E1 q.vols.length k1] (0, 0) _ rfl (hR2.alloc _) Tryz.underlying42 rfl (by kernel_rfl)) rfl ?_
 exact ⟨_, _, bu, rfl, hu2.bel (bel_alloc (Below.refl _ _) _), bel_alloc hb3 _⟩
theorem poolF_no (h : logOk l = false) : poolF l = noP := by unfold poolF; rw [h]; rfl
theorem poolF_yes (h : logOk l = true) : poolF l = runV l.base l.ops := by unfold poolF; rw [h]; rfl
set_option maxHeartbeats 8000000 in
theorem implLogPool_c (h : LogIn w A B C a b c l) (hs : SmallL l) :
  Calls Tryz.prog 36 #[.agg #[.slice A l.base.slots.length a, .slice B l.base.vols.length b, .slice C l.ops.length c, .int .i64 l.safe]] w (MadeP w (poolF l)) := by
 have HI := Lib.hid h
 obtain ⟨q, hpf⟩ : ∃ q, poolF l = q := ⟨_, rfl⟩
 rw [hpf]
 have HPF := Lib.hid hpf
 clear hpf
 have HS := Lib.hid hs
 clear h hs
 go_enter Tryz.func36, Tryz.ntmps36
 go_wp2_with fail
 have hV := (LVar.new HI.out).bel (bel_alloc (Below.refl _ _) (.cells #[.slice none 0 0, .slice none 0 0] 42))
 have hR : Blk ((w.alloc (.cells #[.slice A l.base.slots.length a, .slice B l.base.vols.length b, .slice C l.ops.length c, .int .i64 l.safe] 44)).alloc (.cells #[.slice none 0 0, .slice none 0 0] 42)) (w.heap.size + 1) #[.slice none 0 0, .slice none 0 0] 42 := Blk.nw2 _ _ _ _
 have hW : Bel w ((w.alloc (.cells #[.slice A l.base.slots.length a, .slice B l.base.vols.length b, .slice C l.ops.length c, .int .i64 l.safe] 44)).alloc (.cells #[.slice none 0 0, .slice none 0 0] 42)) := bel_alloc (bel_alloc (Below.refl _ _) _) _
 generalize ((w.alloc (.cells #[.slice A l.base.slots.length a, .slice B l.base.vols.length b, .slice C l.ops.length c, .int .i64 l.safe] 44)).alloc (.cells #[.slice none 0 0, .slice none 0 0] 42)) = W0 at hV hR hW ⊢
 have HK := Lib.hid (implLogOk_c hV.inn HS.out)
 cases hok : logOk l with
 | false =>
  obtain rfl : noP = q := (poolF_no hok).symm.trans HPF.out
  rw [hok] at HK
  clear hok
  refine HK.out.mono ?_
  rintro e w1 ⟨rfl, hb1⟩
  have HR := Lib.hid (hR.bel hb1)
  have HB := Lib.hid (hW.tr hb1)
  have r0 := HR.out.cell 0
  have r1 := HR.out.cell 1
  have f0 := HR.out.free 0
  have f1 := HR.out.free 1
  have y := HR.out.lt
  simp at r0 r1
  clear hV hR hb1 hW
  go_wp2
  have hR2 := (HR.out.set 0 (.slice none 0 0) (cs' := #[.slice none 0 0, .slice none 0 0]) rfl).set 1 (.slice none 0 0) (cs' := #[.slice none 0 0, .slice none 0 0]) rfl
  refine bodyPost_ret (results_cell_row rfl _ _ (w.heap.size + 1) 42 #[.slice none 0 0, .slice none 0 0] (0, 0) _ rfl hR2 Tryz.underlying42 rfl (by kernel_rfl)) rfl ?_
  exact ⟨_, _, [], rfl, OwnP.none _ _, bel_set (bel_set HB.out (Nat.le_succ _) 0 (.slice none 0 0)) (Nat.le_succ _) 1 (.slice none 0 0)⟩
 | true =>
  have HQ := Lib.hid ((poolF_yes hok).symm.trans HPF.out)
  rw [hok] at HK
  clear hok
  refine HK.out.mono ?_
  rintro e w1 ⟨rfl, hb1⟩
  have KV := Lib.hid (hV.bel hb1)
  have KR := Lib.hid (hR.bel hb1)
  have KW := Lib.hid (hW.tr hb1)
  clear hV hR hb1 hW
  have q0 := KV.out.c0
  have q1 := KV.out.c1
  have q2 := KV.out.c2
  have q3 := KV.out.c3
  have y := KV.out.lt
  go_wp2_with fail
  refine (implLogRun_c KV.out.inn HS.out).mono ?_
  rw [HQ.out]
  clear q0 q1 q2 q3 y
  rintro e w2 ⟨u0, u1, bu, rfl, hu, hb2⟩
  obtain ⟨E0, E1, k0, k1, rfl, rfl, hpi⟩ := hu.reads
  have HR := Lib.hid (KR.out.bel hb2)
  have HB := Lib.hid (KW.out.tr hb2)
  have HU := Lib.hid (hu.lower KW.out.size)
  have r0 := HR.out.cell 0
  have r1 := HR.out.cell 1
  have f0 := HR.out.free 0
  have f1 := HR.out.free 1
  have y := HR.out.lt
  simp at r0 r1
  clear hpi hu hb2
  go_wp2
  have hR1 := HR.out.set 0 (.slice E0 q.slots.length k0) (cs' := #[.slice E0 q.slots.length k0, .slice none 0 0]) rfl
  have hR2 := hR1.set 1 (.slice E1 q.vols.length k1) (cs' := #[.slice E0 q.slots.length k0, .slice E1 q.vols.length k1]) rfl
  have hu2 := (HU.out.far HR.out (by decide) (by decide) (by decide) 0 (.slice E0 q.slots.length k0)).far hR1 (by decide) (by decide) (by decide) 1 (.slice E1 q.vols.length k1)
  have hb3 := bel_set (bel_set HB.out (Nat.le_succ _) 0 (.slice E0 q.slots.length k0)) (Nat.le_succ _) 1 (.slice E1 q.vols.length k1)
  refine bodyPost_ret (results_cell_row rfl _ _ (w.heap.size + 1) 42 #[.slice E0 q.slots.length k0, .slice E1 q.vols.length k1] (0, 0) _ rfl hR2 Tryz.underlying42 rfl (by kernel_rfl)) rfl ?_
  exact ⟨_, _, bu, rfl, hu2, hb3⟩
set_option maxHeartbeats 8000000 in
set_option maxRecDepth 10000 in
theorem implLogClone_c (h : LogIn w A B C a b c l) (hs : SmallL l) :
  Calls Tryz.prog 119 #[.agg #[.slice A l.base.slots.length a, .slice B l.base.vols.length b, .slice C l.ops.length c, .int .i64 l.safe]] w (MadeL w l) := by
 have HI := Lib.hid h
 have HS := Lib.hid hs
 clear h hs
 go_enter Tryz.func119, Tryz.ntmps119
 go_wp2
 have hV := (LVar.new HI.out).bel (bel_alloc (Below.refl _ _) (.cells #[.slice none 0 0, .slice none 0 0, .slice none 0 0, .int .i64 0] 44))
 have hR : Blk ((w.alloc (.cells #[.slice A l.base.slots.length a, .slice B l.base.vols.length b, .slice C l.ops.length c, .int .i64 l.safe] 44)).alloc (.cells #[.slice none 0 0, .slice none 0 0, .slice none 0 0, .int .i64 0] 44)) (w.heap.size + 1) #[.slice none 0 0, .slice none 0 0, .slice none 0 0, .int .i64 0] 44 := Blk.nw2 _ _ _ _
 have hW : Bel w ((w.alloc (.cells #[.slice A l.base.slots.length a, .slice B l.base.vols.length b, .slice C l.ops.length c, .int .i64 l.safe] 44)).alloc (.cells #[.slice none 0 0, .slice none 0 0, .slice none 0 0, .int .i64 0] 44)) := bel_alloc (bel_alloc (Below.refl _ _) _) _
 generalize ((w.alloc (.cells #[.slice A l.base.slots.length a, .slice B l.base.vols.length b, .slice C l.ops.length c, .int .i64 l.safe] 44)).alloc (.cells #[.slice none 0 0, .slice none 0 0, .slice none 0 0, .int .i64 0] 44)) = W at hV hR hW ⊢
 have HR := Lib.hid hR
 have HW := Lib.hid hW
 have V0 : Hid (LVar W.drew w.heap.size A B C a b c l) := Lib.hid (hV.bel (Below.refl _ _).drew)
 have D0 : Hid (Bel W.drew W.drew) := Lib.hid (Below.refl _ _)
 have s0 := V0.out.c0
 have s1 := V0.out.c1
 have s2 := V0.out.c2
 have s3 := V0.out.c3
 clear hV hR hW
 refine start_ (n := 10) (S := fun w' => w'.cell? ⟨w.heap.size, 0, none⟩ = some (.slice A l.base.slots.length a) ∧ w'.cell? ⟨w.heap.size, 1, none⟩ = some (.slice B l.base.vols.length b) ∧ w'.cell? ⟨w.heap.size, 2, none⟩ = some (.slice C l.ops.length c) ∧ w'.cell? ⟨w.heap.size, 3, none⟩ = some (.int .i64 l.safe)) (ds := [9]) #[bF, bF, bF, bF, bF, bF, bF, bF, bF, bF] (by kernel_rfl) rfl rfl ⟨s0, s1, s2, s3⟩ (fun hHeld => ?_)
 refine pure_ (i := 0) (N := some 3) (v := ?_) (a' := ?_) #[bT, bF, bF, bF, bF, bF, bF, bF, bF, bF] rfl rfl (by kernel_rfl) (fun _ _ _ h => h) (Or.inl ⟨by rfl, ?_⟩) ?_ ?_
 rotate_left
 ·intro w'
  go_simp
  with_reducible rfl
 rotate_left
 ·simp only [Act.put, lA, lB, lC, i64_w, i32_w]
  rfl
 refine pure_ (i := 3) (N := some 6) (v := ?_) (a' := ?_) #[bT, bF, bF, bT, bF, bF, bF, bF, bF, bF] rfl rfl (by kernel_rfl) (fun _ _ _ h => h) (Or.inl ⟨by rfl, ?_⟩) ?_ ?_
 rotate_left
 ·intro w'
  go_simp
  with_reducible rfl
 rotate_left
 ·simp only [Act.put, lA, lB, lC, i64_w, i32_w]
  rfl
 refine pure_ (i := 6) (N := some 9) (v := ?_) (a' := ?_) #[bT, bF, bF, bT, bF, bF, bT, bF, bF, bF] rfl rfl (by kernel_rfl) (fun _ _ _ h => h) (Or.inl ⟨by rfl, ?_⟩) ?_ ?_
 rotate_left
 ·intro w'
  go_simp
  with_reducible rfl
 rotate_left
 ·simp only [Act.put, lA, lB, lC, i64_w, i32_w]
  rfl
 refine take_ (i := 1) (N := some 4) (v := ?_) (a' := ?_) #[bT, bT, bF, bT, bF, bF, bT, bF, bF, bF] rfl rfl (by kernel_rfl) (fun _ _ _ h => h) (Or.inl ⟨by rfl, ?_⟩) hHeld ?_ ?_
 rotate_left
 ·rintro w' ⟨s0, s1, s2, s3⟩
  go_simp
  with_reducible rfl
 rotate_left
 ·simp only [Act.put, lA, lB, lC, i64_w, i32_w]
  rfl
 refine take_ (i := 4) (N := some 7) (v := ?_) (a' := ?_) #[bT, bT, bF, bT, bT, bF, bT, bF, bF, bF] rfl rfl (by kernel_rfl) (fun _ _ _ h => h) (Or.inl ⟨by rfl, ?_⟩) hHeld ?_ ?_
 rotate_left
 ·rintro w' ⟨s0, s1, s2, s3⟩
  go_simp
  with_reducible rfl
 rotate_left
 ·simp only [Act.put, lA, lB, lC, i64_w, i32_w]
  rfl
 refine take_ (i := 7) (N := some 10) (v := ?_) (a' := ?_) #[bT, bT, bF, bT, bT, bF, bT, bT, bF, bF] rfl rfl (by kernel_rfl) (fun _ _ _ h => h) (Or.inl ⟨by rfl, ?_⟩) hHeld ?_ ?_
 rotate_left
 ·rintro w' ⟨s0, s1, s2, s3⟩
  go_simp
  with_reducible rfl
 rotate_left
 ·simp only [Act.put, lA, lB, lC, i64_w, i32_w]
  rfl
 refine one_ (i := 2) (N := some 5) #[bT, bT, bT, bT, bT, bF, bT, bT, bF, bF] rfl rfl (by kernel_rfl) (by decide) (fun K hK => ?_)
 refine goes_ Tryz.func163 (by kernel_rfl) rfl #[.agg #[.slice A l.base.slots.length a, .slice B l.base.vols.length b]] (by rfl) rfl rfl (by simp only [List.map_toArray, List.map_cons, List.map_nil]; rfl) ?_
 with_reducible refine (poolClone_c (V0.out.bel D0.out).inn.p HS.out.base).mono ?_
 rintro e w1_ ⟨va, vb, bva, rfl, ho, X1⟩
 have D1 : Hid (Bel W.drew w1_) := Lib.hid (Bel.tr D0.out X1)
 obtain ⟨A2, B2, a2, b2, rfl, rfl, hpi⟩ := ho.reads
 have P1 : Hid (OwnP w1_ W.drew.heap.size (.slice A2 l.base.slots.length a2) (.slice B2 l.base.vols.length b2) l.base bva) := Lib.hid (ho.lower D0.out.size)
 clear ho hpi
 refine ⟨_, rfl, ?_⟩
 refine hK.out _ _ ⟨(V0.out.bel D1.out).c0, (V0.out.bel D1.out).c1, (V0.out.bel D1.out).c2, (V0.out.bel D1.out).c3⟩ (fun hHeld => ?_)
 clear hK K
 refine norm_ (a' := ?_) ?_ ?_
 rotate_left
 ·show Act.put _ (some 5) _ = _
  simp only [Act.put, lA, lB, lC, i64_w, i32_w]
  rfl
 refine one_ (i := 5) (N := some 8) #[bT, bT, bT, bT, bT, bT, bT, bT, bF, bF] rfl rfl (by kernel_rfl) (by decide) (fun K hK => ?_)
 refine goes_ Tryz.func102 (by kernel_rfl) rfl #[.slice C l.ops.length c] (by rfl) rfl rfl (by simp only [List.map_toArray, List.map_cons, List.map_nil]; rfl) ?_
 with_reducible refine (cloneO_c (V0.out.bel D1.out).inn.o HS.out.ops.len).mono ?_
 rintro e w3 ⟨vc, rfl, ho, X2⟩
 have D2 : Hid (Bel W.drew w3) := Lib.hid (Bel.tr D1.out X2)
 have hP := OwnP.bel P1.out X2
 obtain ⟨C2, c2, rfl, hc2, hC2⟩ := ho.reads
 have hQ : OwnO w3 W.drew.heap.size (.slice C2 l.ops.length c2) l.ops := own_lower ho D1.out.size
 clear ho hc2 hC2
 have hR3 : Blk w3 (w.heap.size + 1) #[.slice none 0 0, .slice none 0 0, .slice none 0 0, .int .i64 0] 44 := Blk.bel (w := W.drew) HR.out D2.out
 have r0 := hR3.cell 0
 have r1 := hR3.cell 1
 have r2 := hR3.cell 2
 have r3 := hR3.cell 3
 have f0 := hR3.free 0
 have f1 := hR3.free 1
 have f2 := hR3.free 2
 have f3 := hR3.free 3
 simp at r0 r1 r2 r3
 refine ⟨_, rfl, ?_⟩
 refine hK.out _ _ ⟨(V0.out.bel D2.out).c0, (V0.out.bel D2.out).c1, (V0.out.bel D2.out).c2, (V0.out.bel D2.out).c3⟩ (fun hHeld => ?_)
 clear hK K
 refine norm_ (a' := ?_) ?_ ?_
 rotate_left
 ·show Act.put _ (some 8) _ = _
  simp only [Act.put, lA, lB, lC, i64_w, i32_w]
  rfl
 refine pure_ (i := 8) (N := some 11) (v := ?_) (a' := ?_) #[bT, bT, bT, bT, bT, bT, bT, bT, bT, bF] rfl rfl (by kernel_rfl) (fun _ _ _ h => h) (Or.inl ⟨by rfl, ?_⟩) ?_ ?_
 rotate_left
 ·intro w'
  go_simp
  with_reducible rfl
 rotate_left
 ·simp only [Act.put, lA, lB, lC, i64_w, i32_w]
  rfl
 refine last_ (i := 9) (N := none) #[bT, bT, bT, bT, bT, bT, bT, bT, bT, bT] rfl rfl (by kernel_rfl) (by decide) (fun K hK => ?_)
 refine skip_ (w1 := ?_) (by rfl) rfl ?_ ?_
 rotate_left
 ·go_simp
  rfl
 refine hK.out _ _ ?_
 clear hK K
 refine done_ (by kernel_rfl) ?_
 have hb3 : Bel w w3 := Bel.tr (b := W.drew) HW.out.drew D2.out
 have hl2 : w.heap.size ≤ W.drew.heap.size := HW.out.drew.size
 have hR4 := hR3.set4 (.slice A2 l.base.slots.length a2) (.slice B2 l.base.vols.length b2) (.slice C2 l.ops.length c2) (.int .i64 l.safe)
 have hP4 := (hP.lower hl2).far4 hR3 (.slice A2 l.base.slots.length a2) (.slice B2 l.base.vols.length b2) (.slice C2 l.ops.length c2) (.int .i64 l.safe)
 have hQ4 := OwnO.far4 (own_lower hQ hl2) hR3 (.slice A2 l.base.slots.length a2) (.slice B2 l.base.vols.length b2) (.slice C2 l.ops.length c2) (.int .i64 l.safe)
 have hb4 := bel_set4 hb3 (Nat.le_succ _) (.slice A2 l.base.slots.length a2) (.slice B2 l.base.vols.length b2) (.slice C2 l.ops.length c2) (.int .i64 l.safe)
 go_wp2
 refine bodyPost_ret (results_cell_row rfl _ _ (w.heap.size + 1) 44 #[.slice A2 l.base.slots.length a2, .slice B2 l.base.vols.length b2, .slice C2 l.ops.length c2, .int .i64 l.safe] (0, 0) _ rfl hR4 Tryz.underlying44 rfl (by kernel_rfl)) rfl ?_
 exact ⟨A2, B2, C2, a2, b2, c2, bva, rfl, hP4, hQ4, hb4⟩
end
end Go.Proofs.YtccllgpaafgjaaaGreat

namespace Go.Proofs.YtccllgpaafgjaaaGreat
open Go.RowKit Go.Proofs.YtccllgpaafgjaaaGreatW.PrintWords Go.Proofs.YtccllgpaafgjaaaGreatW.PrintLast
def RunsP (base : Nat) (p : Pool) (os : List Op) (w : World) (e : Ending) (w' : World) : Prop := ∃ (A0 A1 : Option Addr) (n0 n1 c0 c1 : Nat), e = .returned (.tuple #[.agg #[.slice A0 n0 c0, .slice A1 n1 c1], .bool (runP p os).isSome]) ∧ (∀ q, runP p os = some q → ∃ bq, OwnP w' base (.slice A0 n0 c0) (.slice A1 n1 c1) q bq) ∧ Fr base w w'
structure RunSt (base : Nat) (w W : World) (p : Pool) (v0 v1 : Value) (bvs : List Value) : Prop where
  pool : Blk W w.heap.size #[v0, v1] 42
  res : Blk W (w.heap.size + 1) #[.slice none 0 0, .slice none 0 0] 42
  own : OwnP W base v0 v1 p bvs
  fr : Fr base w W
theorem Fr.refl (base : Nat) (w : World) : Fr base w w := ⟨Below.refl _ _, fun _ _ _ _ _ _ h => h⟩
theorem Fr.pool {base : Nat} {w W : World} (h : Fr base w W) {b : Nat} {cs : Array Value} (hB : Blk w b cs 42) : Blk W b cs 42 := h.k b cs _ (by decide) (by decide) (by decide) hB
theorem RunSt.of {base : Nat} {w W : World} {q : Pool} {x0 x1 u0 u1 : Value} {bq : List Value} (hB : Blk W w.heap.size #[x0, x1] 42) (hR : Blk W (w.heap.size + 1) #[.slice none 0 0, .slice none 0 0] 42) (ho : OwnP W base u0 u1 q bq) (hf : Fr base w W) (hbase : base ≤ w.heap.size) :
  RunSt base w ((W.setCell ⟨w.heap.size, 0, none⟩ u0).setCell ⟨w.heap.size, 1, none⟩ u1) q u0 u1 bq := by
 have h1 := hB.set 0 u0 (cs' := #[u0, x1]) rfl
 exact ⟨h1.set 1 u1 rfl, (hR.apart (by omega) 0 u0).apart (by omega) 1 u1, (ho.far hB (by decide) (by decide) (by decide) 0 u0).far h1 (by decide) (by decide) (by decide) 1 u1, (hf.set (Nat.le_refl _) hbase 0 u0).set (Nat.le_refl _) hbase 1 u1⟩
set_option maxHeartbeats 16000000 in
set_option maxRecDepth 10000 in
theorem l13Run_c {w0 w : World} {base : Nat} {v0 v1 : Value} {bvs : List Value} {p : Pool} {os : List Op} {A2 : Option Addr} {c2 : Nat} (h : OwnP w base v0 v1 p bvs) (hp : PoolP p) (hbase : base ≤ w.heap.size) (hC : kOp.C w0 A2 os.length os) (h0 : w0.heap.size ≤ base) (hb0 : Below base w0 w) (ho : SmallOs os) :
  Calls Tryz.prog 104 #[.agg #[v0, v1], .slice A2 os.length c2] w (RunsP base p os w) := by
 obtain ⟨A0, A1, c0, c1, rfl, rfl, hpi⟩ := h.reads
 clear hpi
 have HV := Lib.hid hp
 have HO := Lib.hid ho
 have hl := ho.len
 have HC := Lib.hid (fun (W : World) (hW : Fr base w W) => Kd.C_below hC ((hb0.trans hW.b).mono h0))
 have HB := Lib.hid hbase
 have HW := Lib.hid h
 clear hp ho hC h0 hb0 hbase h
 go_enter Tryz.func104, Tryz.ntmps104
 go_wp2
 have hst : RunSt base w ((w.alloc (.cells #[.slice A0 p.slots.length c0, .slice A1 p.vols.length c1] 42)).alloc (.cells #[.slice none 0 0, .slice none 0 0] 42)) p (.slice A0 p.slots.length c0) (.slice A1 p.vols.length c1) bvs := by
  have hb : Bel w ((w.alloc (.cells #[.slice A0 p.slots.length c0, .slice A1 p.vols.length c1] 42)).alloc (.cells #[.slice none 0 0, .slice none 0 0] 42)) := bel_alloc (bel_alloc (Below.refl _ _) _) _
  exact ⟨(Blk.new _ _ _).alloc _, Blk.nw2 _ _ _ _, HW.out.bel hb, Fr.ofBel hb HB.out⟩
 have HST := Lib.hid hst
 clear hst HW
 generalize ((w.alloc (.cells #[.slice A0 p.slots.length c0, .slice A1 p.vols.length c1] 42)).alloc (.cells #[.slice none 0 0, .slice none 0 0] 42)) = W0 at HST ⊢
 go_loopg [6] os.length (fun g v6 W => ∃ (j : Nat) (q : Pool) (B0 B1 : Option Addr) (d0 d1 : Nat) (bvs : List Value), g + j = os.length ∧ v6 = .int .i64 j ∧ Hid (runP p (os.take j) = some q) ∧ Hid (RunSt base w W q (.slice B0 q.slots.length d0) (.slice B1 q.vols.length d1) bvs))
 case atStart => exact ⟨0, p, A0, A1, c0, c1, bvs, rfl, rfl, rfl, HST.out⟩
 case round =>
  clear HST bvs
  obtain ⟨j, p1, B0, B1, d0, d1, bvs, hj, rfl, HR, HD⟩ := hrel
  have HQ := Lib.hid (runP_ok _ HV.out HR.out)
  by_cases hlt : j < os.length
  ·obtain ⟨o, hx⟩ := getQ hlt
   have HX := Lib.hid hx
   have hnm := Lib.hid (HO.out.op o (List.mem_of_getElem? hx))
   clear hx
   obtain ⟨ad, rfl, _⟩ := at_op (HC.out _ HD.out.fr) HX.out
   have hfx := Lib.hid (fun (W : World) (hW : Fr base wr W) => (show (W.cell? ⟨w.heap.size, 0, none⟩ = some (.slice B0 p1.slots.length d0) ∧ W.cell? ⟨w.heap.size, 1, none⟩ = some (.slice B1 p1.vols.length d1) ∧ W.cell? (ad.add (j * 5)) = some (.int .i64 o.kind) ∧ W.cell? ⟨(ad.add (j * 5)).block, (ad.add (j * 5)).off + 1, none⟩ = some (.string o.name) ∧ W.cell? ⟨(ad.add (j * 5)).block, (ad.add (j * 5)).off + 2, none⟩ = some (.string o.dest) ∧ W.cell? ⟨(ad.add (j * 5)).block, (ad.add (j * 5)).off + 3, none⟩ = some (.int .i64 o.n) ∧ W.cell? ⟨(ad.add (j * 5)).block, (ad.add (j * 5)).off + 4, none⟩ = some (.string o.text)) from by
    obtain ⟨ad', e, a⟩ := at_op (HC.out W (HD.out.fr.tr hW HB.out)) HX.out
    cases e
    exact ⟨by rw [(hW.pool HD.out.pool).cell]; rfl, by rw [(hW.pool HD.out.pool).cell]; rfl, a⟩))
   have D0 := Lib.hid (show Fr base wr wr.drew from (Fr.refl base wr).drew)
   have hbr : base ≤ wr.heap.size := Nat.le_trans HB.out (by have := HD.out.pool.lt; omega)
   have HBR := Lib.hid hbr
   have P0 := Lib.hid (show OwnP wr.drew base (.slice B0 p1.slots.length d0) (.slice B1 p1.vols.length d1) p1 bvs from HD.out.own.bel (Below.refl _ _).drew)
   obtain ⟨q, hq⟩ : ∃ q, (opF p1 o).getD p1 = q := ⟨_, rfl⟩
   obtain ⟨ok, hokk⟩ : ∃ ok, (opF p1 o).isSome = ok := ⟨_, rfl⟩
   have hdo := Lib.hid (fun (W : World) (h : OwnP W base (.slice B0 p1.slots.length d0) (.slice B1 p1.vols.length d1) p1 bvs) (hb : base ≤ W.heap.size) => l12Do_c (o := o) h HQ.out hb hnm.out)
   unfold TurnsP at hdo
   rw [hq, hokk] at hdo
   have HE := Lib.hid (And.intro hq hokk)
   clear hq hokk hbr
   obtain ⟨s0, s1, s2, s3, s4, s5, s6⟩ := hfx.out _ D0.out
   go_wp2
   refine start_ (n := 12) (S := fun w' => w'.cell? ⟨w.heap.size, 0, none⟩ = some (.slice B0 p1.slots.length d0) ∧ w'.cell? ⟨w.heap.size, 1, none⟩ = some (.slice B1 p1.vols.length d1) ∧ w'.cell? (ad.add (j * 5)) = some (.int .i64 o.kind) ∧ w'.cell? ⟨(ad.add (j * 5)).block, (ad.add (j * 5)).off + 1, none⟩ = some (.string o.name) ∧ w'.cell? ⟨(ad.add (j * 5)).block, (ad.add (j * 5)).off + 2, none⟩ = some (.string o.dest) ∧ w'.cell? ⟨(ad.add (j * 5)).block, (ad.add (j * 5)).off + 3, none⟩ = some (.int .i64 o.n) ∧ w'.cell? ⟨(ad.add (j * 5)).block, (ad.add (j * 5)).off + 4, none⟩ = some (.string o.text)) (ds := [10]) #[bF, bF, bF, bF, bF, bF, bF, bF, bF, bF, bF, bF] (by kernel_rfl) rfl rfl ⟨s0, s1, s2, s3, s4, s5, s6⟩ (fun hHeld => ?_)
   refine pure_ (i := 1) (N := some 17) (v := ?_) (a' := ?_) #[bF, bT, bF, bF, bF, bF, bF, bF, bF, bF, bF, bF] rfl rfl (by kernel_rfl) (fun _ _ _ h => h) (Or.inl ⟨by rfl, ?_⟩) ?_ ?_
   rotate_left
   ·intro w'
    go_simp
    with_reducible rfl
   rotate_left
   ·simp only [Act.put, lA, lB, lC, i64_w, i32_w]
    rfl
   refine pure_ (i := 2) (N := some 18) (v := ?_) (a' := ?_) #[bF, bT, bT, bF, bF, bF, bF, bF, bF, bF, bF, bF] rfl rfl (by kernel_rfl) (fun _ _ _ h => h) (Or.inl ⟨by rfl, ?_⟩) ?_ ?_
   rotate_left
   ·intro w'
    go_simp
    with_reducible rfl
   rotate_left
   ·simp only [Act.put, lA, lB, lC, i64_w, i32_w]
    rfl
   refine pure_ (i := 3) (N := some 19) (v := ?_) (a' := ?_) #[bF, bT, bT, bT, bF, bF, bF, bF, bF, bF, bF, bF] rfl rfl (by kernel_rfl) (fun _ _ _ h => h) (Or.inl ⟨by rfl, ?_⟩) ?_ ?_
   rotate_left
   ·intro w'
    go_simp
    with_reducible rfl
   rotate_left
   ·simp only [Act.put, lA, lB, lC, i64_w, i32_w]
    rfl
   refine take_ (i := 0) (N := some 16) (v := ?_) (a' := ?_) #[bT, bT, bT, bT, bF, bF, bF, bF, bF, bF, bF, bF] rfl rfl (by kernel_rfl) (fun _ _ _ h => h) (Or.inl ⟨by rfl, ?_⟩) hHeld ?_ ?_
   rotate_left
   ·rintro w' ⟨s0, s1, s2, s3, s4, s5, s6⟩
    go_simp
    with_reducible rfl
   rotate_left
   ·simp only [Act.put, lA, lB, lC, i64_w, i32_w]
    rfl
   refine take_ (i := 4) (N := some 20) (v := ?_) (a' := ?_) #[bT, bT, bT, bT, bT, bF, bF, bF, bF, bF, bF, bF] rfl rfl (by kernel_rfl) (fun _ _ _ h => h) (Or.inl ⟨by rfl, ?_⟩) hHeld ?_ ?_
   rotate_left
   ·rintro w' ⟨s0, s1, s2, s3, s4, s5, s6⟩
    go_simp
    with_reducible rfl
   rotate_left
   ·simp only [Act.put, lA, lB, lC, i64_w, i32_w]
    rfl
   refine join_ (σ := Option Addr × Nat × Option Addr × Nat × List Value × Nat) 2 #[bT, bT, bT, bT, bT, bT, bT, bT, bT, bT, bF, bF] (fun s => [(21, .tuple #[.agg #[.slice s.1 q.slots.length s.2.1, .slice s.2.2.1 q.vols.length s.2.2.2.1], .bool ok]), (15, .tuple #[.agg #[.slice s.1 q.slots.length s.2.1, .slice s.2.2.1 q.vols.length s.2.2.2.1], .bool ok]), (22, .agg #[.slice s.1 q.slots.length s.2.1, .slice s.2.2.1 q.vols.length s.2.2.2.1]), (23, .bool ok), (7, .pointer (some ⟨s.2.2.2.2.2, 0, none⟩))]) (fun s w' => (w'.cell? ⟨w.heap.size, 0, none⟩ = some (.slice B0 p1.slots.length d0) ∧ w'.cell? ⟨w.heap.size, 1, none⟩ = some (.slice B1 p1.vols.length d1) ∧ w'.cell? (ad.add (j * 5)) = some (.int .i64 o.kind) ∧ w'.cell? ⟨(ad.add (j * 5)).block, (ad.add (j * 5)).off + 1, none⟩ = some (.string o.name) ∧ w'.cell? ⟨(ad.add (j * 5)).block, (ad.add (j * 5)).off + 2, none⟩ = some (.string o.dest) ∧ w'.cell? ⟨(ad.add (j * 5)).block, (ad.add (j * 5)).off + 3, none⟩ = some (.int .i64 o.n) ∧ w'.cell? ⟨(ad.add (j * 5)).block, (ad.add (j * 5)).off + 4, none⟩ = some (.string o.text)) ∧ OwnP w' base (.slice s.1 q.slots.length s.2.1) (.slice s.2.2.1 q.vols.length s.2.2.2.1) q s.2.2.2.2.1 ∧ Blk w' s.2.2.2.2.2 #[.slice none 0 0, .slice none 0 0] 42 ∧ w.heap.size + 1 < s.2.2.2.2.2 ∧ Fr base wr w') ?_ ?_
   rotate_left
   ·intro hCont
    refine two_ (i := 5) (j := 9) (Ni := some 21) (Nj := some 7) #[bT, bT, bT, bT, bT, bT, bF, bF, bF, bF, bF, bF] #[bT, bT, bT, bT, bT, bF, bF, bF, bF, bT, bF, bF] rfl rfl rfl rfl (by kernel_rfl) (by decide) (by decide) (fun K hK => ?_) (fun K hK => ?_)
    ·skip
     refine goes_ Tryz.func125 (by kernel_rfl) rfl #[.agg #[.slice B0 p1.slots.length d0, .slice B1 p1.vols.length d1], .agg #[.int .i64 o.kind, .string o.name, .string o.dest, .int .i64 o.n, .string o.text]] (by rfl) rfl rfl (by simp only [List.map_toArray, List.map_cons, List.map_nil]; rfl) ?_
     with_reducible refine (hdo.out _ P0.out (Nat.le_trans HBR.out D0.out.b.size)).mono ?_
     rintro e w1_ ⟨vc, vd, bvc, rfl, ho, X1⟩
     have D1 : Hid (Fr base wr w1_) := Lib.hid (D0.out.tr X1 HBR.out)
     have Q1 := Lib.hid ho
     obtain ⟨A2, A3, k2, k3, rfl, rfl, hpi⟩ := ho.reads
     clear ho hpi
     refine ⟨_, rfl, ?_⟩
     refine hK.out _ _ ⟨(hfx.out _ D1.out).1, (hfx.out _ D1.out).2.1, (hfx.out _ D1.out).2.2.1, (hfx.out _ D1.out).2.2.2.1, (hfx.out _ D1.out).2.2.2.2.1, (hfx.out _ D1.out).2.2.2.2.2.1, (hfx.out _ D1.out).2.2.2.2.2.2⟩ (fun hHeld => ?_)
     clear hK K
     refine norm_ (a' := ?_) ?_ ?_
     rotate_left
     ·show Act.put _ (some 21) _ = _
      simp only [Act.put, lA, lB, lC, i64_w, i32_w]
      rfl
     refine pure_ (i := 6) (N := some 15) (v := ?_) (a' := ?_) #[bT, bT, bT, bT, bT, bT, bT, bF, bF, bF, bF, bF] rfl rfl (by kernel_rfl) (fun _ _ _ h => h) (Or.inl ⟨by rfl, ?_⟩) ?_ ?_
     rotate_left
     ·intro w'
      go_simp
      with_reducible rfl
     rotate_left
     ·simp only [Act.put, lA, lB, lC, i64_w, i32_w]
      rfl
     refine pure_ (i := 7) (N := some 22) (v := ?_) (a' := ?_) #[bT, bT, bT, bT, bT, bT, bT, bT, bF, bF, bF, bF] rfl rfl (by kernel_rfl) (fun _ _ _ h => h) (Or.inl ⟨by rfl, ?_⟩) ?_ ?_
     rotate_left
     ·intro w'
      go_simp
      with_reducible rfl
     rotate_left
     ·simp only [Act.put, lA, lB, lC, i64_w, i32_w]
      rfl
     refine pure_ (i := 8) (N := some 23) (v := ?_) (a' := ?_) #[bT, bT, bT, bT, bT, bT, bT, bT, bT, bF, bF, bF] rfl rfl (by kernel_rfl) (fun _ _ _ h => h) (Or.inl ⟨by rfl, ?_⟩) ?_ ?_
     rotate_left
     ·intro w'
      go_simp
      with_reducible rfl
     rotate_left
     ·simp only [Act.put, lA, lB, lC, i64_w, i32_w]
      rfl
     refine one_ (i := 9) (N := some 7) #[bT, bT, bT, bT, bT, bT, bT, bT, bT, bT, bF, bF] rfl rfl (by kernel_rfl) (by decide) (fun K hK => ?_)
     refine value_ (w1 := ?_) (v := ?_) (by rfl) rfl ?_ ?_
     rotate_left 2
     ·go_simp
      constructor
      ·rfl
      ·rfl
     have D2 : Hid (Fr base wr (w1_.alloc (.cells #[.slice none 0 0, .slice none 0 0] 42))) := Lib.hid (Fr.bel D1.out (bel_alloc (Below.refl _ _) (.cells #[.slice none 0 0, .slice none 0 0] 42)) HBR.out)
     have Q2 := Lib.hid (OwnP.bel Q1.out (bel_alloc (Below.refl _ _) (.cells #[.slice none 0 0, .slice none 0 0] 42)))
     have O2 : Hid (Blk (w1_.alloc (.cells #[.slice none 0 0, .slice none 0 0] 42)) w1_.heap.size #[.slice none 0 0, .slice none 0 0] 42) := Lib.hid (Blk.new w1_ #[.slice none 0 0, .slice none 0 0] 42)
     have L2 : w.heap.size + 1 < w1_.heap.size := (D1.out.pool HD.out.res).lt
     refine hK.out _ _ ⟨(hfx.out _ D2.out).1, (hfx.out _ D2.out).2.1, (hfx.out _ D2.out).2.2.1, (hfx.out _ D2.out).2.2.2.1, (hfx.out _ D2.out).2.2.2.2.1, (hfx.out _ D2.out).2.2.2.2.2.1, (hfx.out _ D2.out).2.2.2.2.2.2⟩ (fun hHeld => ?_)
     clear hK K
     refine norm_ (a' := ?_) ?_ ?_
     rotate_left
     ·show Act.put _ (some 7) _ = _
      simp only [Act.put, lA, lB, lC, i64_w, i32_w]
      rfl
     exact norm_ (by simp only [putAll, Act.put, lA, lB, lC]) (hCont (A2, k2, A3, k3, bvc, w1_.heap.size) _ ⟨hHeld, Q2.out, O2.out, L2, D2.out⟩)
    ·skip
     refine value_ (w1 := ?_) (v := ?_) (by rfl) rfl ?_ ?_
     rotate_left 2
     ·go_simp
      constructor
      ·rfl
      ·rfl
     have D1 : Hid (Fr base wr (wr.alloc (.cells #[.slice none 0 0, .slice none 0 0] 42)).drew) := Lib.hid (Fr.bel D0.out (bel_alloc (Below.refl _ _) (.cells #[.slice none 0 0, .slice none 0 0] 42)) HBR.out)
     have P1 : Hid (OwnP (wr.alloc (.cells #[.slice none 0 0, .slice none 0 0] 42)).drew base (.slice B0 p1.slots.length d0) (.slice B1 p1.vols.length d1) p1 bvs) := Lib.hid (OwnP.bel P0.out (bel_alloc (Below.refl _ _) (.cells #[.slice none 0 0, .slice none 0 0] 42)))
     have O1 : Hid (Blk (wr.alloc (.cells #[.slice none 0 0, .slice none 0 0] 42)).drew wr.drew.heap.size #[.slice none 0 0, .slice none 0 0] 42) := Lib.hid (Blk.new wr.drew #[.slice none 0 0, .slice none 0 0] 42)
     have L1 : w.heap.size + 1 < wr.drew.heap.size := HD.out.res.lt
     refine hK.out _ _ ⟨(hfx.out _ D1.out).1, (hfx.out _ D1.out).2.1, (hfx.out _ D1.out).2.2.1, (hfx.out _ D1.out).2.2.2.1, (hfx.out _ D1.out).2.2.2.2.1, (hfx.out _ D1.out).2.2.2.2.2.1, (hfx.out _ D1.out).2.2.2.2.2.2⟩ (fun hHeld => ?_)
     clear hK K
     refine norm_ (a' := ?_) ?_ ?_
     rotate_left
     ·show Act.put _ (some 7) _ = _
      simp only [Act.put, lA, lB, lC, i64_w, i32_w]
      rfl
     refine one_ (i := 5) (N := some 21) #[bT, bT, bT, bT, bT, bT, bF, bF, bF, bT, bF, bF] rfl rfl (by kernel_rfl) (by decide) (fun K hK => ?_)
     refine goes_ Tryz.func125 (by kernel_rfl) rfl #[.agg #[.slice B0 p1.slots.length d0, .slice B1 p1.vols.length d1], .agg #[.int .i64 o.kind, .string o.name, .string o.dest, .int .i64 o.n, .string o.text]] (by rfl) rfl rfl (by simp only [List.map_toArray, List.map_cons, List.map_nil]; rfl) ?_
     with_reducible refine (hdo.out _ P1.out (Nat.le_trans HBR.out D1.out.b.size)).mono ?_
     rintro e w2_ ⟨vc, vd, bvc, rfl, ho, X2⟩
     have D2 : Hid (Fr base wr w2_) := Lib.hid (D1.out.tr X2 HBR.out)
     have O2 := Lib.hid (X2.k _ _ _ (by decide) (by decide) (by decide) O1.out)
     have Q2 := Lib.hid ho
     obtain ⟨A2, A3, k2, k3, rfl, rfl, hpi⟩ := ho.reads
     clear ho hpi
     refine ⟨_, rfl, ?_⟩
     refine hK.out _ _ ⟨(hfx.out _ D2.out).1, (hfx.out _ D2.out).2.1, (hfx.out _ D2.out).2.2.1, (hfx.out _ D2.out).2.2.2.1, (hfx.out _ D2.out).2.2.2.2.1, (hfx.out _ D2.out).2.2.2.2.2.1, (hfx.out _ D2.out).2.2.2.2.2.2⟩ (fun hHeld => ?_)
     clear hK K
     refine norm_ (a' := ?_) ?_ ?_
     rotate_left
     ·show Act.put _ (some 21) _ = _
      simp only [Act.put, lA, lB, lC, i64_w, i32_w]
      rfl
     refine pure_ (i := 6) (N := some 15) (v := ?_) (a' := ?_) #[bT, bT, bT, bT, bT, bT, bT, bF, bF, bT, bF, bF] rfl rfl (by kernel_rfl) (fun _ _ _ h => h) (Or.inl ⟨by rfl, ?_⟩) ?_ ?_
     rotate_left
     ·intro w'
      go_simp
      with_reducible rfl
     rotate_left
     ·simp only [Act.put, lA, lB, lC, i64_w, i32_w]
      rfl
     refine pure_ (i := 7) (N := some 22) (v := ?_) (a' := ?_) #[bT, bT, bT, bT, bT, bT, bT, bT, bF, bT, bF, bF] rfl rfl (by kernel_rfl) (fun _ _ _ h => h) (Or.inl ⟨by rfl, ?_⟩) ?_ ?_
     rotate_left
     ·intro w'
      go_simp
      with_reducible rfl
     rotate_left
     ·simp only [Act.put, lA, lB, lC, i64_w, i32_w]
      rfl
     refine pure_ (i := 8) (N := some 23) (v := ?_) (a' := ?_) #[bT, bT, bT, bT, bT, bT, bT, bT, bT, bT, bF, bF] rfl rfl (by kernel_rfl) (fun _ _ _ h => h) (Or.inl ⟨by rfl, ?_⟩) ?_ ?_
     rotate_left
     ·intro w'
      go_simp
      with_reducible rfl
     rotate_left
     ·simp only [Act.put, lA, lB, lC, i64_w, i32_w]
      rfl
     exact norm_ (by simp only [putAll, Act.put, lA, lB, lC]) (hCont (A2, k2, A3, k3, bvc, wr.heap.size) _ ⟨hHeld, Q2.out, O2.out, L1, D2.out⟩)
   rintro ⟨A2, k2, A3, k3, bvc, nb⟩ w3 ⟨hHeld, hQ, hO, hL, hD⟩
   dsimp only at hQ hO hL
   have r0 := hO.cell 0
   have r1 := hO.cell 1
   have f0 := hO.free 0
   have f1 := hO.free 1
   simp at r0 r1
   refine norm_ (a' := ?_) ?_ ?_
   rotate_left
   ·simp only [putAll, Act.put, lA, lB, lC]
    rfl
   refine last_ (i := 10) (N := none) #[bT, bT, bT, bT, bT, bT, bT, bT, bT, bT, bT, bF] rfl rfl (by kernel_rfl) (by decide) (fun K hK => ?_)
   refine skip_ (w1 := ?_) (by rfl) rfl ?_ ?_
   rotate_left
   ·go_simp
    rfl
   refine hK.out _ _ ?_
   clear hK K
   refine pure_ (i := 11) (N := some 8) (v := ?_) (a' := ?_) #[bT, bT, bT, bT, bT, bT, bT, bT, bT, bT, bT, bT] rfl rfl (by kernel_rfl) (fun _ _ _ h => h) (Or.inl ⟨by rfl, ?_⟩) ?_ ?_
   rotate_left
   ·intro w'
    go_simp
    with_reducible rfl
   rotate_left
   ·simp only [Act.put, lA, lB, lC, i64_w, i32_w]
    rfl
   refine done_ (by kernel_rfl) ?_
   have hO4 := hO.set 0 (.slice A2 q.slots.length k2) (cs' := #[.slice A2 q.slots.length k2, .slice none 0 0]) rfl
   have HO5 := Lib.hid (hO4.set 1 (.slice A3 q.vols.length k3) (cs' := #[.slice A2 q.slots.length k2, .slice A3 q.vols.length k3]) rfl)
   have HQ5 := Lib.hid ((hQ.far hO (by decide) (by decide) (by decide) 0 (.slice A2 q.slots.length k2)).far hO4 (by decide) (by decide) (by decide) 1 (.slice A3 q.vols.length k3))
   have HF5 := Lib.hid (((HD.out.fr.tr hD HB.out).set (b := nb) (by omega) HB.out 0 (.slice A2 q.slots.length k2)).set (b := nb) (by omega) HB.out 1 (.slice A3 q.vols.length k3))
   have HP5 := Lib.hid (((hD.pool HD.out.pool).apart (show nb ≠ w.heap.size by omega) 0 (.slice A2 q.slots.length k2)).apart (show nb ≠ w.heap.size by omega) 1 (.slice A3 q.vols.length k3))
   have HR5 := Lib.hid (((hD.pool HD.out.res).apart (show nb ≠ w.heap.size + 1 by omega) 0 (.slice A2 q.slots.length k2)).apart (show nb ≠ w.heap.size + 1 by omega) 1 (.slice A3 q.vols.length k3))
   clear hQ hO hO4 hD f0 f1 r0 r1 hHeld s0 s1 s2 s3 s4 s5 s6 hdo hfx D0 P0
   generalize ((w3.setCell ⟨nb, 0, none⟩ (.slice A2 q.slots.length k2)).setCell ⟨nb, 1, none⟩ (.slice A3 q.vols.length k3)) = W8 at HO5 HQ5 HF5 HP5 HR5 ⊢
   obtain ⟨ad', e, a0, a1, a2, a3, a4⟩ := at_op (HC.out W8 HF5.out) HX.out
   cases e
   go_wp2_with fail
   refine (specOpOk_c o hnm.out _).mono ?_
   rintro e w9 ⟨rfl, hb9⟩
   clear a0 a1 a2 a3 a4
   replace HO5 := Lib.hid (HO5.out.bel hb9)
   replace HQ5 := Lib.hid (HQ5.out.bel hb9)
   replace HF5 := Lib.hid (HF5.out.bel hb9 HB.out)
   replace HP5 := Lib.hid (HP5.out.bel hb9)
   replace HR5 := Lib.hid (HR5.out.bel hb9)
   clear hb9
   cases hok : opOk o with
   | false =>
    have HN := Lib.hid (show runP p os = none from runP_stop (k := j + 1) (by rw [runP_step HX.out HR.out]; unfold opR; rw [hok]; rfl))
    clear hok
    have q0 := HP5.out.cell 0
    have q1 := HP5.out.cell 1
    have r0 := HR5.out.cell 0
    have r1 := HR5.out.cell 1
    have f0 := HR5.out.free 0
    have f1 := HR5.out.free 1
    have y := HR5.out.lt
    have y2 := HP5.out.lt
    simp at q0 q1 r0 r1
    go_wp2
    have hR1 := HR5.out.set 0 (.slice B0 p1.slots.length d0) (cs' := #[.slice B0 p1.slots.length d0, .slice none 0 0]) rfl
    have hR2 := hR1.set 1 (.slice B1 p1.vols.length d1) (cs' := #[.slice B0 p1.slots.length d0, .slice B1 p1.vols.length d1]) rfl
    refine bodyPost_ret (results_ct rfl _ _ (w.heap.size + 1) 42 #[.slice B0 p1.slots.length d0, .slice B1 p1.vols.length d1] (0, 0) _ rfl hR2 Tryz.underlying42 rfl (by kernel_rfl)) rfl ?_
    exact ⟨B0, B1, _, _, d0, d1, by rw [HN.out]; rfl, fun q h => (by rw [HN.out] at h; cases h), (HF5.out.set (Nat.le_succ _) HB.out 0 (.slice B0 p1.slots.length d0)).set (Nat.le_succ _) HB.out 1 (.slice B1 p1.vols.length d1)⟩
   | true =>
    cases ok with
    | false =>
     have HN := Lib.hid (show runP p os = none from runP_stop (k := j + 1) (by rw [runP_step HX.out HR.out]; unfold opR; rw [if_pos hok]; exact Option.isSome_eq_false_iff.1 HE.out.2 |> Option.isNone_iff_eq_none.1))
     clear hok
     have q0 := HP5.out.cell 0
     have q1 := HP5.out.cell 1
     have r0 := HR5.out.cell 0
     have r1 := HR5.out.cell 1
     have f0 := HR5.out.free 0
     have f1 := HR5.out.free 1
     have y := HR5.out.lt
     have y2 := HP5.out.lt
     simp at q0 q1 r0 r1
     go_wp2
     have hR1 := HR5.out.set 0 (.slice B0 p1.slots.length d0) (cs' := #[.slice B0 p1.slots.length d0, .slice none 0 0]) rfl
     have hR2 := hR1.set 1 (.slice B1 p1.vols.length d1) (cs' := #[.slice B0 p1.slots.length d0, .slice B1 p1.vols.length d1]) rfl
     refine bodyPost_ret (results_ct rfl _ _ (w.heap.size + 1) 42 #[.slice B0 p1.slots.length d0, .slice B1 p1.vols.length d1] (0, 0) _ rfl hR2 Tryz.underlying42 rfl (by kernel_rfl)) rfl ?_
     exact ⟨B0, B1, _, _, d0, d1, by rw [HN.out]; rfl, fun q h => (by rw [HN.out] at h; cases h), (HF5.out.set (Nat.le_succ _) HB.out 0 (.slice B0 p1.slots.length d0)).set (Nat.le_succ _) HB.out 1 (.slice B1 p1.vols.length d1)⟩
    | true =>
     have HN := Lib.hid (show runP p (os.take (j + 1)) = some q by
      rw [runP_step HX.out HR.out]
      unfold opR
      rw [if_pos hok]
      obtain ⟨q', hq'⟩ := Option.isSome_iff_exists.1 HE.out.2
      have h1 := HE.out.1
      rw [hq'] at h1 ⊢
      exact congrArg some h1)
     clear hok
     have HD2 := Lib.hid (RunSt.of HP5.out HR5.out HQ5.out HF5.out HB.out)
     have q0 := HP5.out.cell 0
     have q1 := HP5.out.cell 1
     have r0 := HO5.out.cell 0
     have r1 := HO5.out.cell 1
     have f0 := HP5.out.free 0
     have f1 := HP5.out.free 1
     have y := HP5.out.lt
     simp at q0 q1 r0 r1
     go_wp2
     go_roundg (os.length - (j + 1))
     case measure => omega
     case rel => exact ⟨j + 1, q, A2, A3, k2, k3, bvc, by omega, by go_num, HN.out, HD2.out⟩
  ·have HE := Lib.hid (show runP p os = some p1 by have := HR.out; rwa [List.take_of_length_le (by omega)] at this)
   have q0 := HD.out.pool.cell 0
   have q1 := HD.out.pool.cell 1
   have r0 := HD.out.res.cell 0
   have r1 := HD.out.res.cell 1
   have f0 := HD.out.res.free 0
   have f1 := HD.out.res.free 1
   have y := HD.out.res.lt
   simp at q0 q1 r0 r1
   go_wp2
   have hR1 := HD.out.res.set 0 (.slice B0 p1.slots.length d0) (cs' := #[.slice B0 p1.slots.length d0, .slice none 0 0]) rfl
   have hR2 := hR1.set 1 (.slice B1 p1.vols.length d1) (cs' := #[.slice B0 p1.slots.length d0, .slice B1 p1.vols.length d1]) rfl
   refine bodyPost_ret (results_ct rfl _ _ (w.heap.size + 1) 42 #[.slice B0 p1.slots.length d0, .slice B1 p1.vols.length d1] (0, 0) _ rfl hR2 Tryz.underlying42 rfl (by kernel_rfl)) rfl ?_
   exact ⟨B0, B1, _, _, d0, d1, by rw [HE.out]; rfl, fun q h => (by rw [HE.out] at h; cases h; exact ⟨bvs, (HD.out.own.far HD.out.res (by decide) (by decide) (by decide) 0 (.slice B0 p1.slots.length d0)).far hR1 (by decide) (by decide) (by decide) 1 (.slice B1 p1.vols.length d1)⟩), (HD.out.fr.set (Nat.le_succ _) HB.out 0 (.slice B0 p1.slots.length d0)).set (Nat.le_succ _) HB.out 1 (.slice B1 p1.vols.length d1)⟩
end Go.Proofs.YtccllgpaafgjaaaGreat

namespace Go.Proofs.YtccllgpaafgjaaaGreat
open Go.RowKit Go.Proofs.YtccllgpaafgjaaaGreatW.PrintWords Go.Proofs.YtccllgpaafgjaaaGreatW.PrintLast
section
variable {w : World} {A B C : Option Addr} {a b c : Nat} {l : Log}
set_option maxHeartbeats 8000000 in
set_option maxRecDepth 10000 in
theorem l13Copy_c (h : LogIn w A B C a b c l) (hs : SmallL l) :
  Calls Tryz.prog 103 #[.agg #[.slice A l.base.slots.length a, .slice B l.base.vols.length b, .slice C l.ops.length c, .int .i64 l.safe]] w (MadeL w l) := by
 have HI := Lib.hid h
 have HS := Lib.hid hs
 have hl := hs.ops.len
 clear h hs
 go_enter Tryz.func103, Tryz.ntmps103
 go_wp2
 have hV := (LVar.new HI.out).bel (bel_alloc (Below.refl _ _) (.cells #[.slice none 0 0, .slice none 0 0, .slice none 0 0, .int .i64 0] 44))
 have hR : Blk ((w.alloc (.cells #[.slice A l.base.slots.length a, .slice B l.base.vols.length b, .slice C l.ops.length c, .int .i64 l.safe] 44)).alloc (.cells #[.slice none 0 0, .slice none 0 0, .slice none 0 0, .int .i64 0] 44)) (w.heap.size + 1) #[.slice none 0 0, .slice none 0 0, .slice none 0 0, .int .i64 0] 44 := Blk.nw2 _ _ _ _
 have hW : Bel w ((w.alloc (.cells #[.slice A l.base.slots.length a, .slice B l.base.vols.length b, .slice C l.ops.length c, .int .i64 l.safe] 44)).alloc (.cells #[.slice none 0 0, .slice none 0 0, .slice none 0 0, .int .i64 0] 44)) := bel_alloc (bel_alloc (Below.refl _ _) _) _
 generalize ((w.alloc (.cells #[.slice A l.base.slots.length a, .slice B l.base.vols.length b, .slice C l.ops.length c, .int .i64 l.safe] 44)).alloc (.cells #[.slice none 0 0, .slice none 0 0, .slice none 0 0, .int .i64 0] 44)) = W at hV hR hW ⊢
 have HR := Lib.hid hR
 have HW := Lib.hid hW
 have V0 : Hid (LVar W.drew w.heap.size A B C a b c l) := Lib.hid (hV.bel (Below.refl _ _).drew)
 have D0 : Hid (Bel W.drew W.drew) := Lib.hid (Below.refl _ _)
 have s0 := V0.out.c0
 have s1 := V0.out.c1
 have s2 := V0.out.c2
 have s3 := V0.out.c3
 clear hV hR hW
 refine start_ (n := 11) (S := fun w' => w'.cell? ⟨w.heap.size, 0, none⟩ = some (.slice A l.base.slots.length a) ∧ w'.cell? ⟨w.heap.size, 1, none⟩ = some (.slice B l.base.vols.length b) ∧ w'.cell? ⟨w.heap.size, 2, none⟩ = some (.slice C l.ops.length c) ∧ w'.cell? ⟨w.heap.size, 3, none⟩ = some (.int .i64 l.safe)) (ds := [10]) #[bF, bF, bF, bF, bF, bF, bF, bF, bF, bF, bF] (by kernel_rfl) rfl rfl ⟨s0, s1, s2, s3⟩ (fun hHeld => ?_)
 refine pure_ (i := 0) (N := some 3) (v := ?_) (a' := ?_) #[bT, bF, bF, bF, bF, bF, bF, bF, bF, bF, bF] rfl rfl (by kernel_rfl) (fun _ _ _ h => h) (Or.inl ⟨by rfl, ?_⟩) ?_ ?_
 rotate_left
 ·intro w'
  go_simp
  with_reducible rfl
 rotate_left
 ·simp only [Act.put, lA, lB, lC, i64_w, i32_w]
  rfl
 refine pure_ (i := 4) (N := some 7) (v := ?_) (a' := ?_) #[bT, bF, bF, bF, bT, bF, bF, bF, bF, bF, bF] rfl rfl (by kernel_rfl) (fun _ _ _ h => h) (Or.inl ⟨by rfl, ?_⟩) ?_ ?_
 rotate_left
 ·intro w'
  go_simp
  with_reducible rfl
 rotate_left
 ·simp only [Act.put, lA, lB, lC, i64_w, i32_w]
  rfl
 refine pure_ (i := 7) (N := some 10) (v := ?_) (a' := ?_) #[bT, bF, bF, bF, bT, bF, bF, bT, bF, bF, bF] rfl rfl (by kernel_rfl) (fun _ _ _ h => h) (Or.inl ⟨by rfl, ?_⟩) ?_ ?_
 rotate_left
 ·intro w'
  go_simp
  with_reducible rfl
 rotate_left
 ·simp only [Act.put, lA, lB, lC, i64_w, i32_w]
  rfl
 refine take_ (i := 1) (N := some 4) (v := ?_) (a' := ?_) #[bT, bT, bF, bF, bT, bF, bF, bT, bF, bF, bF] rfl rfl (by kernel_rfl) (fun _ _ _ h => h) (Or.inl ⟨by rfl, ?_⟩) hHeld ?_ ?_
 rotate_left
 ·rintro w' ⟨s0, s1, s2, s3⟩
  go_simp
  with_reducible rfl
 rotate_left
 ·simp only [Act.put, lA, lB, lC, i64_w, i32_w]
  rfl
 refine take_ (i := 5) (N := some 8) (v := ?_) (a' := ?_) #[bT, bT, bF, bF, bT, bT, bF, bT, bF, bF, bF] rfl rfl (by kernel_rfl) (fun _ _ _ h => h) (Or.inl ⟨by rfl, ?_⟩) hHeld ?_ ?_
 rotate_left
 ·rintro w' ⟨s0, s1, s2, s3⟩
  go_simp
  with_reducible rfl
 rotate_left
 ·simp only [Act.put, lA, lB, lC, i64_w, i32_w]
  rfl
 refine take_ (i := 8) (N := some 11) (v := ?_) (a' := ?_) #[bT, bT, bF, bF, bT, bT, bF, bT, bT, bF, bF] rfl rfl (by kernel_rfl) (fun _ _ _ h => h) (Or.inl ⟨by rfl, ?_⟩) hHeld ?_ ?_
 rotate_left
 ·rintro w' ⟨s0, s1, s2, s3⟩
  go_simp
  with_reducible rfl
 rotate_left
 ·simp only [Act.put, lA, lB, lC, i64_w, i32_w]
  rfl
 refine join_ (σ := Option Addr × Nat × Option Addr × Nat × List Value × Nat) 3 #[bT, bT, bT, bT, bT, bT, bF, bT, bT, bF, bF] (fun s => [(5, .agg #[.slice s.1 l.base.slots.length s.2.1, .slice s.2.2.1 l.base.vols.length s.2.2.2.1]), (6, .slice (some ⟨s.2.2.2.2.2, 0, none⟩) 0 0)]) (fun s w' => (w'.cell? ⟨w.heap.size, 0, none⟩ = some (.slice A l.base.slots.length a) ∧ w'.cell? ⟨w.heap.size, 1, none⟩ = some (.slice B l.base.vols.length b) ∧ w'.cell? ⟨w.heap.size, 2, none⟩ = some (.slice C l.ops.length c) ∧ w'.cell? ⟨w.heap.size, 3, none⟩ = some (.int .i64 l.safe)) ∧ OwnP w' W.drew.heap.size (.slice s.1 l.base.slots.length s.2.1) (.slice s.2.2.1 l.base.vols.length s.2.2.2.1) l.base s.2.2.2.2.1 ∧ OwnO w' W.drew.heap.size (.slice (some ⟨s.2.2.2.2.2, 0, none⟩) 0 0) [] ∧ Bel W.drew w') ?_ ?_
 rotate_left
 ·intro hCont
  refine two_ (i := 2) (j := 3) (Ni := some 5) (Nj := some 6) #[bT, bT, bT, bF, bT, bT, bF, bT, bT, bF, bF] #[bT, bT, bF, bT, bT, bT, bF, bT, bT, bF, bF] rfl rfl rfl rfl (by kernel_rfl) (by decide) (by decide) (fun K hK => ?_) (fun K hK => ?_)
  ·skip
   refine goes_ Tryz.func105 (by kernel_rfl) rfl #[.agg #[.slice A l.base.slots.length a, .slice B l.base.vols.length b]] (by rfl) rfl rfl (by simp only [List.map_toArray, List.map_cons, List.map_nil]; rfl) ?_
   with_reducible refine (l11Copy_c (V0.out.bel D0.out).inn.p HS.out.base).mono ?_
   rintro e w1_ ⟨va, vb, bva, rfl, ho, X1⟩
   have D1 : Hid (Bel W.drew w1_) := Lib.hid (Bel.tr D0.out X1)
   obtain ⟨A2, B2, a2, b2, rfl, rfl, hpi⟩ := ho.reads
   have P1 : Hid (OwnP w1_ W.drew.heap.size (.slice A2 l.base.slots.length a2) (.slice B2 l.base.vols.length b2) l.base bva) := Lib.hid (ho.lower D0.out.size)
   clear ho hpi
   refine ⟨_, rfl, ?_⟩
   refine hK.out _ _ ⟨(V0.out.bel D1.out).c0, (V0.out.bel D1.out).c1, (V0.out.bel D1.out).c2, (V0.out.bel D1.out).c3⟩ (fun hHeld => ?_)
   clear hK K
   refine norm_ (a' := ?_) ?_ ?_
   rotate_left
   ·show Act.put _ (some 5) _ = _
    simp only [Act.put, lA, lB, lC, i64_w, i32_w]
    rfl
   refine one_ (i := 3) (N := some 6) #[bT, bT, bT, bT, bT, bT, bF, bT, bT, bF, bF] rfl rfl (by kernel_rfl) (by decide) (fun K hK => ?_)
   refine value_ (w1 := ?_) (v := ?_) (by rfl) rfl ?_ ?_
   rotate_left 2
   ·go_simp
    constructor
    ·rfl
    ·rfl
   have D2 : Hid (Bel W.drew (w1_.alloc (.cells #[] 27))) := Lib.hid (bel_alloc D1.out (.cells #[] 27))
   have P2 := Lib.hid (OwnP.bel P1.out (bel_alloc (Below.refl _ _) (.cells #[] 27)))
   have E2 : Hid (OwnO (w1_.alloc (.cells #[] 27)) W.drew.heap.size (.slice (some ⟨w1_.heap.size, 0, none⟩) 0 0) []) := Lib.hid (own_empty w1_ W.drew.heap.size _ _ D1.out.size)
   refine hK.out _ _ ⟨(V0.out.bel D2.out).c0, (V0.out.bel D2.out).c1, (V0.out.bel D2.out).c2, (V0.out.bel D2.out).c3⟩ (fun hHeld => ?_)
   clear hK K
   refine norm_ (a' := ?_) ?_ ?_
   rotate_left
   ·show Act.put _ (some 6) _ = _
    simp only [Act.put, lA, lB, lC, i64_w, i32_w]
    rfl
   exact norm_ (by simp only [putAll, Act.put, lA, lB, lC]) (hCont (A2, a2, B2, b2, bva, w1_.heap.size) _ ⟨hHeld, P2.out, E2.out, D2.out⟩)
  ·skip
   refine value_ (w1 := ?_) (v := ?_) (by rfl) rfl ?_ ?_
   rotate_left 2
   ·go_simp
    constructor
    ·rfl
    ·rfl
   have D1 : Hid (Bel W.drew (W.alloc (.cells #[] 27)).drew) := Lib.hid (bel_alloc D0.out (.cells #[] 27))
   have E1 : Hid (OwnO (W.alloc (.cells #[] 27)).drew W.drew.heap.size (.slice (some ⟨W.drew.heap.size, 0, none⟩) 0 0) []) := Lib.hid (own_empty W.drew W.drew.heap.size _ _ D0.out.size)
   refine hK.out _ _ ⟨(V0.out.bel D1.out).c0, (V0.out.bel D1.out).c1, (V0.out.bel D1.out).c2, (V0.out.bel D1.out).c3⟩ (fun hHeld => ?_)
   clear hK K
   refine norm_ (a' := ?_) ?_ ?_
   rotate_left
   ·show Act.put _ (some 6) _ = _
    simp only [Act.put, lA, lB, lC, i64_w, i32_w]
    rfl
   refine one_ (i := 2) (N := some 5) #[bT, bT, bT, bT, bT, bT, bF, bT, bT, bF, bF] rfl rfl (by kernel_rfl) (by decide) (fun K hK => ?_)
   refine goes_ Tryz.func105 (by kernel_rfl) rfl #[.agg #[.slice A l.base.slots.length a, .slice B l.base.vols.length b]] (by rfl) rfl rfl (by simp only [List.map_toArray, List.map_cons, List.map_nil]; rfl) ?_
   with_reducible refine (l11Copy_c (V0.out.bel D1.out).inn.p HS.out.base).mono ?_
   rintro e w2_ ⟨va, vb, bva, rfl, ho, X2⟩
   have D2 : Hid (Bel W.drew w2_) := Lib.hid (Bel.tr D1.out X2)
   have E2 := Lib.hid (OwnO.bel E1.out X2)
   obtain ⟨A2, B2, a2, b2, rfl, rfl, hpi⟩ := ho.reads
   have P2 : Hid (OwnP w2_ W.drew.heap.size (.slice A2 l.base.slots.length a2) (.slice B2 l.base.vols.length b2) l.base bva) := Lib.hid (ho.lower D1.out.size)
   clear ho hpi
   refine ⟨_, rfl, ?_⟩
   refine hK.out _ _ ⟨(V0.out.bel D2.out).c0, (V0.out.bel D2.out).c1, (V0.out.bel D2.out).c2, (V0.out.bel D2.out).c3⟩ (fun hHeld => ?_)
   clear hK K
   refine norm_ (a' := ?_) ?_ ?_
   rotate_left
   ·show Act.put _ (some 5) _ = _
    simp only [Act.put, lA, lB, lC, i64_w, i32_w]
    rfl
   exact norm_ (by simp only [putAll, Act.put, lA, lB, lC]) (hCont (A2, a2, B2, b2, bva, W.heap.size) _ ⟨hHeld, P2.out, E2.out, D2.out⟩)
 rintro ⟨A2, a2, B2, b2, bva, eb⟩ w3 ⟨hHeld, hP, hE, hD⟩
 dsimp only at hP hE hD
 refine norm_ (a' := ?_) ?_ ?_
 rotate_left
 ·simp only [putAll, Act.put, lA, lB, lC]
  rfl
 refine one_ (i := 6) (N := some 9) #[bT, bT, bT, bT, bT, bT, bT, bT, bT, bF, bF] rfl rfl (by kernel_rfl) (by decide) (fun K hK => ?_)
 refine Kd.R_append_rows_step kOp (w0 := W.drew) W.drew.heap.size (by rfl) (.tmp 6) (.tmp 8) 23 27 (.agg #[.int .i64 0, .string ⟨#[]⟩, .string ⟨#[]⟩, .int .i64 0, .string ⟨#[]⟩]) 64 rfl Tryz.underlying23 info_opR rfl (by decide) (by decide) _ [] l.ops _ _ _ (fun _ => True) (fun _ => False) rfl rfl (R_ownO hE) (V0.out.bel hD).inn.o (fun x cs h => by obtain rfl := kOp_open h; exact kOp_mkM _ _ _ x) (fun _ h => h.elim) (fun _ _ => trivial) ?a2 ?a3 ?a4 ?_
 case a2 => exact hD
 case a3 => exact hD.size
 case a4 => simp; omega
 intro v1 w4 ho hb hg hat
 clear hat
 have hQ : OwnO w4 W.drew.heap.size v1 l.ops := ownO_of_R ho
 have hP4 : OwnP w4 W.drew.heap.size (.slice A2 l.base.slots.length a2) (.slice B2 l.base.vols.length b2) l.base bva := hP.otherO hE hg
 obtain ⟨C2, c2, rfl, hc2, hC2⟩ := hQ.reads
 clear ho hc2 hC2 hg
 have hR3 : Blk w4 (w.heap.size + 1) #[.slice none 0 0, .slice none 0 0, .slice none 0 0, .int .i64 0] 44 := Blk.bel (w := W.drew) HR.out hb
 have r0 := hR3.cell 0
 have r1 := hR3.cell 1
 have r2 := hR3.cell 2
 have r3 := hR3.cell 3
 have f0 := hR3.free 0
 have f1 := hR3.free 1
 have f2 := hR3.free 2
 have f3 := hR3.free 3
 simp at r0 r1 r2 r3
 refine hK.out _ _ ⟨(V0.out.bel hb).c0, (V0.out.bel hb).c1, (V0.out.bel hb).c2, (V0.out.bel hb).c3⟩ (fun hHeld => ?_)
 clear hK K
 refine norm_ (a' := ?_) ?_ ?_
 rotate_left
 ·show Act.put _ (some 9) _ = _
  simp only [Act.put, lA, lB, lC, i64_w, i32_w]
  rfl
 refine pure_ (i := 9) (N := some 12) (v := ?_) (a' := ?_) #[bT, bT, bT, bT, bT, bT, bT, bT, bT, bT, bF] rfl rfl (by kernel_rfl) (fun _ _ _ h => h) (Or.inl ⟨by rfl, ?_⟩) ?_ ?_
 rotate_left
 ·intro w'
  go_simp
  with_reducible rfl
 rotate_left
 ·simp only [Act.put, lA, lB, lC, i64_w, i32_w]
  rfl
 refine last_ (i := 10) (N := none) #[bT, bT, bT, bT, bT, bT, bT, bT, bT, bT, bT] rfl rfl (by kernel_rfl) (by decide) (fun K hK => ?_)
 refine skip_ (w1 := ?_) (by rfl) rfl ?_ ?_
 rotate_left
 ·go_simp
  rfl
 refine hK.out _ _ ?_
 clear hK K
 refine done_ (by kernel_rfl) ?_
 have hb3 : Bel w w4 := Bel.tr (b := W.drew) HW.out.drew hb
 have hl2 : w.heap.size ≤ W.drew.heap.size := HW.out.drew.size
 have hR4 := hR3.set4 (.slice A2 l.base.slots.length a2) (.slice B2 l.base.vols.length b2) (.slice C2 l.ops.length c2) (.int .i64 l.safe)
 have hP5 := (hP4.lower hl2).far4 hR3 (.slice A2 l.base.slots.length a2) (.slice B2 l.base.vols.length b2) (.slice C2 l.ops.length c2) (.int .i64 l.safe)
 have hQ5 := OwnO.far4 (own_lower hQ hl2) hR3 (.slice A2 l.base.slots.length a2) (.slice B2 l.base.vols.length b2) (.slice C2 l.ops.length c2) (.int .i64 l.safe)
 have hb5 := bel_set4 hb3 (Nat.le_succ _) (.slice A2 l.base.slots.length a2) (.slice B2 l.base.vols.length b2) (.slice C2 l.ops.length c2) (.int .i64 l.safe)
 go_wp2
 refine bodyPost_ret (results_cell_row rfl _ _ (w.heap.size + 1) 44 #[.slice A2 l.base.slots.length a2, .slice B2 l.base.vols.length b2, .slice C2 l.ops.length c2, .int .i64 l.safe] (0, 0) _ rfl hR4 Tryz.underlying44 rfl (by kernel_rfl)) rfl ?_
 exact ⟨A2, B2, C2, a2, b2, c2, bva, rfl, hP5, hQ5, hb5⟩
def RunQ (r : Option Pool) (w : World) (base : Nat) (A2 : Option Addr) (n2 k2 : Nat) (A3 : Option Addr) (n3 k3 : Nat) : Prop := ∀ q, r = some q → ∃ bq, OwnP w base (.slice A2 n2 k2) (.slice A3 n3 k3) q bq
theorem RunQ.bel {r : Option Pool} {w w' : World} {base : Nat} {A2 A3 : Option Addr} {n2 k2 n3 k3 : Nat} (h : RunQ r w base A2 n2 k2 A3 n3 k3) (hb : Bel w w') : RunQ r w' base A2 n2 k2 A3 n3 k3 := fun q e => by
 obtain ⟨bq, h⟩ := h q e
 exact ⟨bq, h.bel hb⟩
theorem runB_ok {p : Pool} {os : List Op} (h : poolOk p = true) : runB p os = (runP p os).isSome := by unfold runB; rw [h]; rfl
set_option maxHeartbeats 16000000 in
set_option maxRecDepth 10000 in
theorem specLogOk_c (h : LogIn w A B C a b c l) (hs : SmallL l) :
    Calls Tryz.prog 34 #[.agg #[.slice A l.base.slots.length a, .slice B l.base.vols.length b, .slice C l.ops.length c, .int .i64 l.safe]] w (Ret (.bool (logOk l)) w) := by
  have HI := Lib.hid h
  have HS := Lib.hid hs
  have hl := hs.ops.len
  obtain ⟨d, hd⟩ : ∃ d, decide (l.ops.length ≤ 20) = d := ⟨_, rfl⟩
  obtain ⟨t, ht⟩ : ∃ t, inR l.safe 0 l.ops.length = t := ⟨_, rfl⟩
  have hdi : decide (20 < (l.ops.length : Int)) = !d := by rw [← hd]; by_cases h : l.ops.length ≤ 20 <;> simp [h] <;> omega
  obtain ⟨z, hz⟩ : ∃ z, logOk l = z := ⟨_, rfl⟩
  rw [hz]
  have HZ := Lib.hid (show (runB l.base l.ops && (d && t)) = z by rw [← hz, ← hd, ← ht]; rfl)
  clear hz
  have HT := Lib.hid (fun W : World => (ht ▸ l6In_c l.safe 0 l.ops.length W : Calls Tryz.prog 89 #[.int .i64 l.safe, .int .i64 0, .int .i64 l.ops.length] W (Same (.bool t) W)))
  clear h hs hd ht
  go_enter Tryz.func34, Tryz.ntmps34
  go_wp2_with fail
  have hV := LVar.new HI.out
  have hW : Bel w (w.alloc (.cells #[.slice A l.base.slots.length a, .slice B l.base.vols.length b, .slice C l.ops.length c, .int .i64 l.safe] 44)) := bel_alloc (Below.refl _ _) _
  generalize w.alloc (.cells #[.slice A l.base.slots.length a, .slice B l.base.vols.length b, .slice C l.ops.length c, .int .i64 l.safe] 44) = W0 at hV hW ⊢
  have HK := Lib.hid (specPoolOk_in hV.inn.p HS.out.base)
  cases hok : poolOk l.base with
  | false =>
    rw [hok] at HK
    obtain rfl : z = false := by rw [← HZ.out]; unfold runB; rw [hok]; rfl
    clear hok
    refine HK.out.mono ?_
    rintro e w1 ⟨rfl, hb1⟩
    have HB := Lib.hid (hW.tr hb1)
    clear hV hW hb1
    go_wp2
    go_ret
    exact ⟨rfl, HB.out⟩
  | true =>
    have HV := Lib.hid (poolOk_iff.1 hok)
    rw [hok] at HK
    have HZ2 := Lib.hid (show ((runP l.base l.ops).isSome && (d && t)) = z by rw [← runB_ok hok]; exact HZ.out)
    clear hok
    refine HK.out.mono ?_
    rintro e w1 ⟨rfl, hb1⟩
    have KW := Lib.hid (hW.tr hb1)
    have KV := Lib.hid (hV.bel hb1)
    clear hV hW hb1
    have q0 := KV.out.c0
    have q1 := KV.out.c1
    have q2 := KV.out.c2
    have q3 := KV.out.c3
    have y := KV.out.lt
    by_cases hgo : d = true ∧ t = true
    · obtain ⟨rfl, rfl⟩ := hgo
      have hr : (runP l.base l.ops).isSome = z := by have := HZ2.out; simpa using this
      go_wp2_with (go_at_call 89; refine (HT.out _).mono ?_; rintro e w' ⟨rfl, rfl⟩)
      have V0 : Hid (LVar w1.drew w.heap.size A B C a b c l) := Lib.hid (KV.out.bel (Below.refl _ _).drew)
      have D0 : Hid (Bel w1.drew w1.drew) := Lib.hid (Below.refl _ _)
      have s0 := V0.out.c0
      have s1 := V0.out.c1
      have s2 := V0.out.c2
      have s3 := V0.out.c3
      have hrun := Lib.hid (fun (W' : World) (v0 v1 : Value) (bvs : List Value) (h : OwnP W' w1.drew.heap.size v0 v1 l.base bvs) (hb : Bel w1.drew W') => l13Run_c (c2 := c) h HV.out (Below.size hb) V0.out.inn.o (Nat.le_refl _) hb HS.out.ops)
      unfold RunsP at hrun
      rw [hr] at hrun
      have HR := Lib.hid hr
      clear hr q0 q1 q2 q3 y
      refine start_ (n := 12) (S := fun w' => w'.cell? ⟨w.heap.size, 0, none⟩ = some (.slice A l.base.slots.length a) ∧ w'.cell? ⟨w.heap.size, 1, none⟩ = some (.slice B l.base.vols.length b) ∧ w'.cell? ⟨w.heap.size, 2, none⟩ = some (.slice C l.ops.length c) ∧ w'.cell? ⟨w.heap.size, 3, none⟩ = some (.int .i64 l.safe)) (ds := [10]) #[bF, bF, bF, bF, bF, bF, bF, bF, bF, bF, bF, bF] (by kernel_rfl) rfl rfl ⟨s0, s1, s2, s3⟩ (fun hHeld => ?_)
      refine pure_ (i := 0) (N := some 25) (v := ?_) (a' := ?_) #[bT, bF, bF, bF, bF, bF, bF, bF, bF, bF, bF, bF] rfl rfl (by kernel_rfl) (fun _ _ _ h => h) (Or.inl ⟨by rfl, ?_⟩) ?_ ?_
      rotate_left
      · intro w'
        go_simp
        with_reducible rfl
      rotate_left
      · simp only [Act.put, lA, lB, lC, i64_w, i32_w]
        rfl
      refine pure_ (i := 3) (N := some 28) (v := ?_) (a' := ?_) #[bT, bF, bF, bT, bF, bF, bF, bF, bF, bF, bF, bF] rfl rfl (by kernel_rfl) (fun _ _ _ h => h) (Or.inl ⟨by rfl, ?_⟩) ?_ ?_
      rotate_left
      · intro w'
        go_simp
        with_reducible rfl
      rotate_left
      · simp only [Act.put, lA, lB, lC, i64_w, i32_w]
        rfl
      refine take_ (i := 1) (N := some 26) (v := ?_) (a' := ?_) #[bT, bT, bF, bT, bF, bF, bF, bF, bF, bF, bF, bF] rfl rfl (by kernel_rfl) (fun _ _ _ h => h) (Or.inl ⟨by rfl, ?_⟩) hHeld ?_ ?_
      rotate_left
      · rintro w' ⟨s0, s1, s2, s3⟩
        go_simp
        with_reducible rfl
      rotate_left
      · simp only [Act.put, lA, lB, lC, i64_w, i32_w]
        rfl
      refine take_ (i := 4) (N := some 29) (v := ?_) (a' := ?_) #[bT, bT, bF, bT, bT, bF, bF, bF, bF, bF, bF, bF] rfl rfl (by kernel_rfl) (fun _ _ _ h => h) (Or.inl ⟨by rfl, ?_⟩) hHeld ?_ ?_
      rotate_left
      · rintro w' ⟨s0, s1, s2, s3⟩
        go_simp
        with_reducible rfl
      rotate_left
      · simp only [Act.put, lA, lB, lC, i64_w, i32_w]
        rfl
      refine join_ (σ := Value × Value × Option Addr × Nat × Nat × Option Addr × Nat × Nat × Nat) 2 #[bT, bT, bT, bT, bT, bT, bT, bT, bT, bT, bF, bF] (fun s => [(27, .agg #[s.1, s.2.1]), (30, .tuple #[.agg #[.slice s.2.2.1 s.2.2.2.1 s.2.2.2.2.1, .slice s.2.2.2.2.2.1 s.2.2.2.2.2.2.1 s.2.2.2.2.2.2.2.1], .bool z]), (24, .tuple #[.agg #[.slice s.2.2.1 s.2.2.2.1 s.2.2.2.2.1, .slice s.2.2.2.2.2.1 s.2.2.2.2.2.2.1 s.2.2.2.2.2.2.2.1], .bool z]), (31, .agg #[.slice s.2.2.1 s.2.2.2.1 s.2.2.2.2.1, .slice s.2.2.2.2.2.1 s.2.2.2.2.2.2.1 s.2.2.2.2.2.2.2.1]), (32, .bool z), (3, .pointer (some ⟨s.2.2.2.2.2.2.2.2, 0, none⟩))]) (fun s w' => (w'.cell? ⟨w.heap.size, 0, none⟩ = some (.slice A l.base.slots.length a) ∧ w'.cell? ⟨w.heap.size, 1, none⟩ = some (.slice B l.base.vols.length b) ∧ w'.cell? ⟨w.heap.size, 2, none⟩ = some (.slice C l.ops.length c) ∧ w'.cell? ⟨w.heap.size, 3, none⟩ = some (.int .i64 l.safe)) ∧ Blk w' s.2.2.2.2.2.2.2.2 #[.slice none 0 0, .slice none 0 0] 42 ∧ w1.drew.heap.size ≤ s.2.2.2.2.2.2.2.2 ∧ RunQ (runP l.base l.ops) w' w1.drew.heap.size s.2.2.1 s.2.2.2.1 s.2.2.2.2.1 s.2.2.2.2.2.1 s.2.2.2.2.2.2.1 s.2.2.2.2.2.2.2.1 ∧ Bel w1.drew w') ?_ ?_
      rotate_left
      · intro hCont
        refine two_ (i := 2) (j := 9) (Ni := some 27) (Nj := some 3) #[bT, bT, bT, bT, bT, bF, bF, bF, bF, bF, bF, bF] #[bT, bT, bF, bT, bT, bF, bF, bF, bF, bT, bF, bF] rfl rfl rfl rfl (by kernel_rfl) (by decide) (by decide) (fun K hK => ?_) (fun K hK => ?_)
        · skip
          refine goes_ Tryz.func105 (by kernel_rfl) rfl #[.agg #[.slice A l.base.slots.length a, .slice B l.base.vols.length b]] (by rfl) rfl rfl (by simp only [List.map_toArray, List.map_cons, List.map_nil]; rfl) ?_
          with_reducible refine (l11Copy_c (V0.out.bel D0.out).inn.p HS.out.base).mono ?_
          rintro e w1_ ⟨va, vb, bva, rfl, ho, X1⟩
          have D1 := Lib.hid (Bel.tr D0.out X1)
          have P1 : Hid (OwnP w1_ w1.drew.heap.size va vb l.base bva) := Lib.hid (ho.lower D0.out.size)
          clear ho
          refine ⟨_, rfl, ?_⟩
          refine hK.out _ _ ⟨(V0.out.bel D1.out).c0, (V0.out.bel D1.out).c1, (V0.out.bel D1.out).c2, (V0.out.bel D1.out).c3⟩ (fun hHeld => ?_)
          clear hK K
          refine norm_ (a' := ?_) ?_ ?_
          rotate_left
          · show Act.put _ (some 27) _ = _
            simp only [Act.put, lA, lB, lC, i64_w, i32_w]
            rfl
          refine two_ (i := 5) (j := 9) (Ni := some 30) (Nj := some 3) #[bT, bT, bT, bT, bT, bT, bF, bF, bF, bF, bF, bF] #[bT, bT, bT, bT, bT, bF, bF, bF, bF, bT, bF, bF] rfl rfl rfl rfl (by kernel_rfl) (by decide) (by decide) (fun K hK => ?_) (fun K hK => ?_)
          · skip
            refine goes_ Tryz.func104 (by kernel_rfl) rfl #[.agg #[va, vb], .slice C l.ops.length c] (by rfl) rfl rfl (by simp only [List.map_toArray, List.map_cons, List.map_nil]; rfl) ?_
            with_reducible refine (hrun.out _ va vb bva P1.out D1.out).mono ?_
            rintro e w2_ ⟨A2, A3, n2, n3, k2, k3, rfl, hq, X2⟩
            have D2 : Hid (Bel w1.drew w2_) := Lib.hid (D1.out.trans X2.b)
            have Q2 := Lib.hid (show RunQ _ w2_ _ A2 n2 k2 A3 n3 k3 from hq)
            clear hq
            refine ⟨_, rfl, ?_⟩
            refine hK.out _ _ ⟨(V0.out.bel D2.out).c0, (V0.out.bel D2.out).c1, (V0.out.bel D2.out).c2, (V0.out.bel D2.out).c3⟩ (fun hHeld => ?_)
            clear hK K
            refine norm_ (a' := ?_) ?_ ?_
            rotate_left
            · show Act.put _ (some 30) _ = _
              simp only [Act.put, lA, lB, lC, i64_w, i32_w]
              rfl
            refine pure_ (i := 6) (N := some 24) (v := ?_) (a' := ?_) #[bT, bT, bT, bT, bT, bT, bT, bF, bF, bF, bF, bF] rfl rfl (by kernel_rfl) (fun _ _ _ h => h) (Or.inl ⟨by rfl, ?_⟩) ?_ ?_
            rotate_left
            · intro w'
              go_simp
              with_reducible rfl
            rotate_left
            · simp only [Act.put, lA, lB, lC, i64_w, i32_w]
              rfl
            refine pure_ (i := 7) (N := some 31) (v := ?_) (a' := ?_) #[bT, bT, bT, bT, bT, bT, bT, bT, bF, bF, bF, bF] rfl rfl (by kernel_rfl) (fun _ _ _ h => h) (Or.inl ⟨by rfl, ?_⟩) ?_ ?_
            rotate_left
            · intro w'
              go_simp
              with_reducible rfl
            rotate_left
            · simp only [Act.put, lA, lB, lC, i64_w, i32_w]
              rfl
            refine pure_ (i := 8) (N := some 32) (v := ?_) (a' := ?_) #[bT, bT, bT, bT, bT, bT, bT, bT, bT, bF, bF, bF] rfl rfl (by kernel_rfl) (fun _ _ _ h => h) (Or.inl ⟨by rfl, ?_⟩) ?_ ?_
            rotate_left
            · intro w'
              go_simp
              with_reducible rfl
            rotate_left
            · simp only [Act.put, lA, lB, lC, i64_w, i32_w]
              rfl
            refine one_ (i := 9) (N := some 3) #[bT, bT, bT, bT, bT, bT, bT, bT, bT, bT, bF, bF] rfl rfl (by kernel_rfl) (by decide) (fun K hK => ?_)
            refine value_ (w1 := ?_) (v := ?_) (by rfl) rfl ?_ ?_
            rotate_left 2
            · go_simp
              constructor
              · rfl
              · rfl
            have D3 : Hid (Bel w1.drew (w2_.alloc (.cells #[.slice none 0 0, .slice none 0 0] 42))) := Lib.hid (bel_alloc D2.out (.cells #[.slice none 0 0, .slice none 0 0] 42))
            have Q3 := Lib.hid (RunQ.bel Q2.out (bel_alloc (Below.refl _ _) (.cells #[.slice none 0 0, .slice none 0 0] 42)))
            have O3 : Hid (Blk (w2_.alloc (.cells #[.slice none 0 0, .slice none 0 0] 42)) w2_.heap.size #[.slice none 0 0, .slice none 0 0] 42) := Lib.hid (Blk.new w2_ #[.slice none 0 0, .slice none 0 0] 42)
            have L3 := D2.out.size
            refine hK.out _ _ ⟨(V0.out.bel D3.out).c0, (V0.out.bel D3.out).c1, (V0.out.bel D3.out).c2, (V0.out.bel D3.out).c3⟩ (fun hHeld => ?_)
            clear hK K
            refine norm_ (a' := ?_) ?_ ?_
            rotate_left
            · show Act.put _ (some 3) _ = _
              simp only [Act.put, lA, lB, lC, i64_w, i32_w]
              rfl
            exact norm_ (by simp only [putAll, Act.put, lA, lB, lC]) (hCont (va, vb, A2, n2, k2, A3, n3, k3, w2_.heap.size) _ ⟨hHeld, O3.out, L3, Q3.out, D3.out⟩)
          · skip
            refine value_ (w1 := ?_) (v := ?_) (by rfl) rfl ?_ ?_
            rotate_left 2
            · go_simp
              constructor
              · rfl
              · rfl
            have D2 : Hid (Bel w1.drew (w1_.alloc (.cells #[.slice none 0 0, .slice none 0 0] 42))) := Lib.hid (bel_alloc D1.out (.cells #[.slice none 0 0, .slice none 0 0] 42))
            have P2 := Lib.hid (OwnP.bel P1.out (bel_alloc (Below.refl _ _) (.cells #[.slice none 0 0, .slice none 0 0] 42)))
            have O2 : Hid (Blk (w1_.alloc (.cells #[.slice none 0 0, .slice none 0 0] 42)) w1_.heap.size #[.slice none 0 0, .slice none 0 0] 42) := Lib.hid (Blk.new w1_ #[.slice none 0 0, .slice none 0 0] 42)
            have L2 := D1.out.size
            refine hK.out _ _ ⟨(V0.out.bel D2.out).c0, (V0.out.bel D2.out).c1, (V0.out.bel D2.out).c2, (V0.out.bel D2.out).c3⟩ (fun hHeld => ?_)
            clear hK K
            refine norm_ (a' := ?_) ?_ ?_
            rotate_left
            · show Act.put _ (some 3) _ = _
              simp only [Act.put, lA, lB, lC, i64_w, i32_w]
              rfl
            refine one_ (i := 5) (N := some 30) #[bT, bT, bT, bT, bT, bT, bF, bF, bF, bT, bF, bF] rfl rfl (by kernel_rfl) (by decide) (fun K hK => ?_)
            refine goes_ Tryz.func104 (by kernel_rfl) rfl #[.agg #[va, vb], .slice C l.ops.length c] (by rfl) rfl rfl (by simp only [List.map_toArray, List.map_cons, List.map_nil]; rfl) ?_
            with_reducible refine (hrun.out _ va vb bva P2.out D2.out).mono ?_
            rintro e w3_ ⟨A2, A3, n2, n3, k2, k3, rfl, hq, X3⟩
            have D3 : Hid (Bel w1.drew w3_) := Lib.hid (D2.out.trans X3.b)
            have Q3 := Lib.hid (show RunQ _ w3_ _ A2 n2 k2 A3 n3 k3 from hq)
            clear hq
            have O3 := Lib.hid (X3.k _ _ _ (by decide) (by decide) (by decide) O2.out)
            refine ⟨_, rfl, ?_⟩
            refine hK.out _ _ ⟨(V0.out.bel D3.out).c0, (V0.out.bel D3.out).c1, (V0.out.bel D3.out).c2, (V0.out.bel D3.out).c3⟩ (fun hHeld => ?_)
            clear hK K
            refine norm_ (a' := ?_) ?_ ?_
            rotate_left
            · show Act.put _ (some 30) _ = _
              simp only [Act.put, lA, lB, lC, i64_w, i32_w]
              rfl
            refine pure_ (i := 6) (N := some 24) (v := ?_) (a' := ?_) #[bT, bT, bT, bT, bT, bT, bT, bF, bF, bT, bF, bF] rfl rfl (by kernel_rfl) (fun _ _ _ h => h) (Or.inl ⟨by rfl, ?_⟩) ?_ ?_
            rotate_left
            · intro w'
              go_simp
              with_reducible rfl
            rotate_left
            · simp only [Act.put, lA, lB, lC, i64_w, i32_w]
              rfl
            refine pure_ (i := 7) (N := some 31) (v := ?_) (a' := ?_) #[bT, bT, bT, bT, bT, bT, bT, bT, bF, bT, bF, bF] rfl rfl (by kernel_rfl) (fun _ _ _ h => h) (Or.inl ⟨by rfl, ?_⟩) ?_ ?_
            rotate_left
            · intro w'
              go_simp
              with_reducible rfl
            rotate_left
            · simp only [Act.put, lA, lB, lC, i64_w, i32_w]
              rfl
            refine pure_ (i := 8) (N := some 32) (v := ?_) (a' := ?_) #[bT, bT, bT, bT, bT, bT, bT, bT, bT, bT, bF, bF] rfl rfl (by kernel_rfl) (fun _ _ _ h => h) (Or.inl ⟨by rfl, ?_⟩) ?_ ?_
            rotate_left
            · intro w'
              go_simp
              with_reducible rfl
            rotate_left
            · simp only [Act.put, lA, lB, lC, i64_w, i32_w]
              rfl
            exact norm_ (by simp only [putAll, Act.put, lA, lB, lC]) (hCont (va, vb, A2, n2, k2, A3, n3, k3, w1_.heap.size) _ ⟨hHeld, O3.out, L2, Q3.out, D3.out⟩)
        · skip
          refine value_ (w1 := ?_) (v := ?_) (by rfl) rfl ?_ ?_
          rotate_left 2
          · go_simp
            constructor
            · rfl
            · rfl
          have D1 : Hid (Bel w1.drew (w1.alloc (.cells #[.slice none 0 0, .slice none 0 0] 42)).drew) := Lib.hid (bel_alloc D0.out (.cells #[.slice none 0 0, .slice none 0 0] 42))
          have O1 : Hid (Blk (w1.alloc (.cells #[.slice none 0 0, .slice none 0 0] 42)).drew w1.drew.heap.size #[.slice none 0 0, .slice none 0 0] 42) := Lib.hid (Blk.new w1.drew #[.slice none 0 0, .slice none 0 0] 42)
          have L1 := D0.out.size
          refine hK.out _ _ ⟨(V0.out.bel D1.out).c0, (V0.out.bel D1.out).c1, (V0.out.bel D1.out).c2, (V0.out.bel D1.out).c3⟩ (fun hHeld => ?_)
          clear hK K
          refine norm_ (a' := ?_) ?_ ?_
          rotate_left
          · show Act.put _ (some 3) _ = _
            simp only [Act.put, lA, lB, lC, i64_w, i32_w]
            rfl
          refine one_ (i := 2) (N := some 27) #[bT, bT, bT, bT, bT, bF, bF, bF, bF, bT, bF, bF] rfl rfl (by kernel_rfl) (by decide) (fun K hK => ?_)
          refine goes_ Tryz.func105 (by kernel_rfl) rfl #[.agg #[.slice A l.base.slots.length a, .slice B l.base.vols.length b]] (by rfl) rfl rfl (by simp only [List.map_toArray, List.map_cons, List.map_nil]; rfl) ?_
          with_reducible refine (l11Copy_c (V0.out.bel D1.out).inn.p HS.out.base).mono ?_
          rintro e w2_ ⟨va, vb, bva, rfl, ho, X2⟩
          have D2 := Lib.hid (Bel.tr D1.out X2)
          have O2 := Lib.hid (Blk.bel O1.out X2)
          have P2 : Hid (OwnP w2_ w1.drew.heap.size va vb l.base bva) := Lib.hid (ho.lower D1.out.size)
          clear ho
          refine ⟨_, rfl, ?_⟩
          refine hK.out _ _ ⟨(V0.out.bel D2.out).c0, (V0.out.bel D2.out).c1, (V0.out.bel D2.out).c2, (V0.out.bel D2.out).c3⟩ (fun hHeld => ?_)
          clear hK K
          refine norm_ (a' := ?_) ?_ ?_
          rotate_left
          · show Act.put _ (some 27) _ = _
            simp only [Act.put, lA, lB, lC, i64_w, i32_w]
            rfl
          refine one_ (i := 5) (N := some 30) #[bT, bT, bT, bT, bT, bT, bF, bF, bF, bT, bF, bF] rfl rfl (by kernel_rfl) (by decide) (fun K hK => ?_)
          refine goes_ Tryz.func104 (by kernel_rfl) rfl #[.agg #[va, vb], .slice C l.ops.length c] (by rfl) rfl rfl (by simp only [List.map_toArray, List.map_cons, List.map_nil]; rfl) ?_
          with_reducible refine (hrun.out _ va vb bva P2.out D2.out).mono ?_
          rintro e w3_ ⟨A2, A3, n2, n3, k2, k3, rfl, hq, X3⟩
          have D3 : Hid (Bel w1.drew w3_) := Lib.hid (D2.out.trans X3.b)
          have Q3 := Lib.hid (show RunQ _ w3_ _ A2 n2 k2 A3 n3 k3 from hq)
          clear hq
          have O3 := Lib.hid (X3.k _ _ _ (by decide) (by decide) (by decide) O2.out)
          refine ⟨_, rfl, ?_⟩
          refine hK.out _ _ ⟨(V0.out.bel D3.out).c0, (V0.out.bel D3.out).c1, (V0.out.bel D3.out).c2, (V0.out.bel D3.out).c3⟩ (fun hHeld => ?_)
          clear hK K
          refine norm_ (a' := ?_) ?_ ?_
          rotate_left
          · show Act.put _ (some 30) _ = _
            simp only [Act.put, lA, lB, lC, i64_w, i32_w]
            rfl
          refine pure_ (i := 6) (N := some 24) (v := ?_) (a' := ?_) #[bT, bT, bT, bT, bT, bT, bT, bF, bF, bT, bF, bF] rfl rfl (by kernel_rfl) (fun _ _ _ h => h) (Or.inl ⟨by rfl, ?_⟩) ?_ ?_
          rotate_left
          · intro w'
            go_simp
            with_reducible rfl
          rotate_left
          · simp only [Act.put, lA, lB, lC, i64_w, i32_w]
            rfl
          refine pure_ (i := 7) (N := some 31) (v := ?_) (a' := ?_) #[bT, bT, bT, bT, bT, bT, bT, bT, bF, bT, bF, bF] rfl rfl (by kernel_rfl) (fun _ _ _ h => h) (Or.inl ⟨by rfl, ?_⟩) ?_ ?_
          rotate_left
          · intro w'
            go_simp
            with_reducible rfl
          rotate_left
          · simp only [Act.put, lA, lB, lC, i64_w, i32_w]
            rfl
          refine pure_ (i := 8) (N := some 32) (v := ?_) (a' := ?_) #[bT, bT, bT, bT, bT, bT, bT, bT, bT, bT, bF, bF] rfl rfl (by kernel_rfl) (fun _ _ _ h => h) (Or.inl ⟨by rfl, ?_⟩) ?_ ?_
          rotate_left
          · intro w'
            go_simp
            with_reducible rfl
          rotate_left
          · simp only [Act.put, lA, lB, lC, i64_w, i32_w]
            rfl
          exact norm_ (by simp only [putAll, Act.put, lA, lB, lC]) (hCont (va, vb, A2, n2, k2, A3, n3, k3, w1.heap.size) _ ⟨hHeld, O3.out, L1, Q3.out, D3.out⟩)
      rintro ⟨va, vb, A2, n2, k2, A3, n3, k3, nb⟩ w3 ⟨hHeld, hO, hL, hQ, hD⟩
      dsimp only at hO hL hQ hD
      have r0 := hO.cell 0
      have r1 := hO.cell 1
      have f0 := hO.free 0
      have f1 := hO.free 1
      simp at r0 r1
      refine norm_ (a' := ?_) ?_ ?_
      rotate_left
      · simp only [putAll, Act.put, lA, lB, lC]
        rfl
      refine last_ (i := 10) (N := none) #[bT, bT, bT, bT, bT, bT, bT, bT, bT, bT, bT, bF] rfl rfl (by kernel_rfl) (by decide) (fun K hK => ?_)
      refine skip_ (w1 := ?_) (by rfl) rfl ?_ ?_
      rotate_left
      · go_simp
        rfl
      refine hK.out _ _ ?_
      clear hK K
      refine pure_ (i := 11) (N := some 4) (v := ?_) (a' := ?_) #[bT, bT, bT, bT, bT, bT, bT, bT, bT, bT, bT, bT] rfl rfl (by kernel_rfl) (fun _ _ _ h => h) (Or.inl ⟨by rfl, ?_⟩) ?_ ?_
      rotate_left
      · intro w'
        go_simp
        with_reducible rfl
      rotate_left
      · simp only [Act.put, lA, lB, lC, i64_w, i32_w]
        rfl
      refine done_ (by kernel_rfl) ?_
      have hb5 : Bel w1.drew ((w3.setCell ⟨nb, 0, none⟩ (.slice A2 n2 k2)).setCell ⟨nb, 1, none⟩ (.slice A3 n3 k3)) := bel_set (bel_set hD hL 0 (.slice A2 n2 k2)) hL 1 (.slice A3 n3 k3)
      clear hO hD hL hQ f0 f1 r0 r1 hHeld D0 s0 s1 s2 s3 hrun
      go_wp2
      go_ret
      exact ⟨rfl, (KW.out.tr (Below.refl _ _).drew).tr hb5⟩
    · obtain rfl : z = false := by rw [← HZ2.out]; cases (runP l.base l.ops).isSome <;> cases d <;> cases t <;> simp_all
      cases d <;> cases t <;> first
        | exact absurd ⟨rfl, rfl⟩ hgo
        | (clear hgo
           go_wp2_with (go_at_call 89; refine (HT.out _).mono ?_; rintro e w' ⟨rfl, rfl⟩)
           go_ret
           exact ⟨rfl, KW.out⟩)
set_option maxHeartbeats 16000000 in
set_option maxRecDepth 10000 in
theorem specLogPool_c (h : LogIn w A B C a b c l) (hs : SmallL l) :
  Calls Tryz.prog 57 #[.agg #[.slice A l.base.slots.length a, .slice B l.base.vols.length b, .slice C l.ops.length c, .int .i64 l.safe]] w (MadeP w (poolF l)) := by
 have HI := Lib.hid h
 obtain ⟨q, hpf⟩ : ∃ q, poolF l = q := ⟨_, rfl⟩
 rw [hpf]
 have HPF := Lib.hid hpf
 clear hpf
 have HS := Lib.hid hs
 clear h hs
 go_enter Tryz.func57, Tryz.ntmps57
 go_wp2_with fail
 have hV := (LVar.new HI.out).bel (bel_alloc (Below.refl _ _) (.cells #[.slice none 0 0, .slice none 0 0] 42))
 have hR : Blk ((w.alloc (.cells #[.slice A l.base.slots.length a, .slice B l.base.vols.length b, .slice C l.ops.length c, .int .i64 l.safe] 44)).alloc (.cells #[.slice none 0 0, .slice none 0 0] 42)) (w.heap.size + 1) #[.slice none 0 0, .slice none 0 0] 42 := Blk.nw2 _ _ _ _
 have hW : Bel w ((w.alloc (.cells #[.slice A l.base.slots.length a, .slice B l.base.vols.length b, .slice C l.ops.length c, .int .i64 l.safe] 44)).alloc (.cells #[.slice none 0 0, .slice none 0 0] 42)) := bel_alloc (bel_alloc (Below.refl _ _) _) _
 generalize ((w.alloc (.cells #[.slice A l.base.slots.length a, .slice B l.base.vols.length b, .slice C l.ops.length c, .int .i64 l.safe] 44)).alloc (.cells #[.slice none 0 0, .slice none 0 0] 42)) = W0 at hV hR hW ⊢
 have HK := Lib.hid (specLogOk_c hV.inn HS.out)
 cases hok : logOk l with
 | false =>
  obtain rfl : noP = q := (poolF_no hok).symm.trans HPF.out
  rw [hok] at HK
  clear hok
  refine HK.out.mono ?_
  rintro e w1 ⟨rfl, hb1⟩
  have HR := Lib.hid (hR.bel hb1)
  have HB := Lib.hid (hW.tr hb1)
  have r0 := HR.out.cell 0
  have r1 := HR.out.cell 1
  have f0 := HR.out.free 0
  have f1 := HR.out.free 1
  have y := HR.out.lt
  simp at r0 r1
  clear hV hR hb1 hW
  go_wp2
  have hR2 := (HR.out.set 0 (.slice none 0 0) (cs' := #[.slice none 0 0, .slice none 0 0]) rfl).set 1 (.slice none 0 0) (cs' := #[.slice none 0 0, .slice none 0 0]) rfl
  refine bodyPost_ret (results_cell_row rfl _ _ (w.heap.size + 1) 42 #[.slice none 0 0, .slice none 0 0] (0, 0) _ rfl hR2 Tryz.underlying42 rfl (by kernel_rfl)) rfl ?_
  exact ⟨_, _, [], rfl, OwnP.none _ _, bel_set (bel_set HB.out (Nat.le_succ _) 0 (.slice none 0 0)) (Nat.le_succ _) 1 (.slice none 0 0)⟩
 | true =>
  obtain ⟨q', hq⟩ := logOk_iff.1 hok
  obtain rfl : q' = q := hq.poolE.symm.trans HPF.out
  rw [hok] at HK
  have HV := Lib.hid hq.base
  have HR0 := Lib.hid hq.run
  have hrs : (runP l.base l.ops).isSome = true := by rw [hq.run]; rfl
  clear hok hq
  refine HK.out.mono ?_
  rintro e w1 ⟨rfl, hb1⟩
  have KV := Lib.hid (hV.bel hb1)
  have KR := Lib.hid (hR.bel hb1)
  have KW := Lib.hid (hW.tr hb1)
  clear hV hR hb1 hW
  go_wp2
  have V0 : Hid (LVar w1.drew w.heap.size A B C a b c l) := Lib.hid (KV.out.bel (Below.refl _ _).drew)
  have D0 : Hid (Bel w1.drew w1.drew) := Lib.hid (Below.refl _ _)
  have s0 := V0.out.c0
  have s1 := V0.out.c1
  have s2 := V0.out.c2
  have s3 := V0.out.c3
  have hrun := Lib.hid (fun (W' : World) (v0 v1 : Value) (bvs : List Value) (h : OwnP W' w1.drew.heap.size v0 v1 l.base bvs) (hb : Bel w1.drew W') => l13Run_c (c2 := c) h HV.out (Below.size hb) V0.out.inn.o (Nat.le_refl _) hb HS.out.ops)
  unfold RunsP at hrun
  rw [hrs] at hrun
  clear hrs
  refine start_ (n := 12) (S := fun w' => w'.cell? ⟨w.heap.size, 0, none⟩ = some (.slice A l.base.slots.length a) ∧ w'.cell? ⟨w.heap.size, 1, none⟩ = some (.slice B l.base.vols.length b) ∧ w'.cell? ⟨w.heap.size, 2, none⟩ = some (.slice C l.ops.length c) ∧ w'.cell? ⟨w.heap.size, 3, none⟩ = some (.int .i64 l.safe)) (ds := [10]) #[bF, bF, bF, bF, bF, bF, bF, bF, bF, bF, bF, bF] (by kernel_rfl) rfl rfl ⟨s0, s1, s2, s3⟩ (fun hHeld => ?_)
  refine pure_ (i := 0) (N := some 10) (v := ?_) (a' := ?_) #[bT, bF, bF, bF, bF, bF, bF, bF, bF, bF, bF, bF] rfl rfl (by kernel_rfl) (fun _ _ _ h => h) (Or.inl ⟨by rfl, ?_⟩) ?_ ?_
  rotate_left
  ·intro w'
   go_simp
   with_reducible rfl
  rotate_left
  ·simp only [Act.put, lA, lB, lC, i64_w, i32_w]
   rfl
  refine pure_ (i := 3) (N := some 13) (v := ?_) (a' := ?_) #[bT, bF, bF, bT, bF, bF, bF, bF, bF, bF, bF, bF] rfl rfl (by kernel_rfl) (fun _ _ _ h => h) (Or.inl ⟨by rfl, ?_⟩) ?_ ?_
  rotate_left
  ·intro w'
   go_simp
   with_reducible rfl
  rotate_left
  ·simp only [Act.put, lA, lB, lC, i64_w, i32_w]
   rfl
  refine take_ (i := 1) (N := some 11) (v := ?_) (a' := ?_) #[bT, bT, bF, bT, bF, bF, bF, bF, bF, bF, bF, bF] rfl rfl (by kernel_rfl) (fun _ _ _ h => h) (Or.inl ⟨by rfl, ?_⟩) hHeld ?_ ?_
  rotate_left
  ·rintro w' ⟨s0, s1, s2, s3⟩
   go_simp
   with_reducible rfl
  rotate_left
  ·simp only [Act.put, lA, lB, lC, i64_w, i32_w]
   rfl
  refine take_ (i := 4) (N := some 14) (v := ?_) (a' := ?_) #[bT, bT, bF, bT, bT, bF, bF, bF, bF, bF, bF, bF] rfl rfl (by kernel_rfl) (fun _ _ _ h => h) (Or.inl ⟨by rfl, ?_⟩) hHeld ?_ ?_
  rotate_left
  ·rintro w' ⟨s0, s1, s2, s3⟩
   go_simp
   with_reducible rfl
  rotate_left
  ·simp only [Act.put, lA, lB, lC, i64_w, i32_w]
   rfl
  refine join_ (σ := Value × Value × Option Addr × Nat × Nat × Option Addr × Nat × Nat × Nat) 2 #[bT, bT, bT, bT, bT, bT, bT, bT, bT, bT, bF, bF] (fun s => [(12, .agg #[s.1, s.2.1]), (15, .tuple #[.agg #[.slice s.2.2.1 s.2.2.2.1 s.2.2.2.2.1, .slice s.2.2.2.2.2.1 s.2.2.2.2.2.2.1 s.2.2.2.2.2.2.2.1], .bool true]), (9, .tuple #[.agg #[.slice s.2.2.1 s.2.2.2.1 s.2.2.2.2.1, .slice s.2.2.2.2.2.1 s.2.2.2.2.2.2.1 s.2.2.2.2.2.2.2.1], .bool true]), (16, .agg #[.slice s.2.2.1 s.2.2.2.1 s.2.2.2.2.1, .slice s.2.2.2.2.2.1 s.2.2.2.2.2.2.1 s.2.2.2.2.2.2.2.1]), (17, .bool true), (3, .pointer (some ⟨s.2.2.2.2.2.2.2.2, 0, none⟩))]) (fun s w' => (w'.cell? ⟨w.heap.size, 0, none⟩ = some (.slice A l.base.slots.length a) ∧ w'.cell? ⟨w.heap.size, 1, none⟩ = some (.slice B l.base.vols.length b) ∧ w'.cell? ⟨w.heap.size, 2, none⟩ = some (.slice C l.ops.length c) ∧ w'.cell? ⟨w.heap.size, 3, none⟩ = some (.int .i64 l.safe)) ∧ Blk w' s.2.2.2.2.2.2.2.2 #[.slice none 0 0, .slice none 0 0] 42 ∧ w1.drew.heap.size ≤ s.2.2.2.2.2.2.2.2 ∧ RunQ (runP l.base l.ops) w' w1.drew.heap.size s.2.2.1 s.2.2.2.1 s.2.2.2.2.1 s.2.2.2.2.2.1 s.2.2.2.2.2.2.1 s.2.2.2.2.2.2.2.1 ∧ Bel w1.drew w') ?_ ?_
  rotate_left
  ·intro hCont
   refine two_ (i := 2) (j := 9) (Ni := some 12) (Nj := some 3) #[bT, bT, bT, bT, bT, bF, bF, bF, bF, bF, bF, bF] #[bT, bT, bF, bT, bT, bF, bF, bF, bF, bT, bF, bF] rfl rfl rfl rfl (by kernel_rfl) (by decide) (by decide) (fun K hK => ?_) (fun K hK => ?_)
   ·skip
    refine goes_ Tryz.func105 (by kernel_rfl) rfl #[.agg #[.slice A l.base.slots.length a, .slice B l.base.vols.length b]] (by rfl) rfl rfl (by simp only [List.map_toArray, List.map_cons, List.map_nil]; rfl) ?_
    with_reducible refine (l11Copy_c (V0.out.bel D0.out).inn.p HS.out.base).mono ?_
    rintro e w1_ ⟨va, vb, bva, rfl, ho, X1⟩
    have D1 := Lib.hid (Bel.tr D0.out X1)
    have P1 : Hid (OwnP w1_ w1.drew.heap.size va vb l.base bva) := Lib.hid (ho.lower D0.out.size)
    clear ho
    refine ⟨_, rfl, ?_⟩
    refine hK.out _ _ ⟨(V0.out.bel D1.out).c0, (V0.out.bel D1.out).c1, (V0.out.bel D1.out).c2, (V0.out.bel D1.out).c3⟩ (fun hHeld => ?_)
    clear hK K
    refine norm_ (a' := ?_) ?_ ?_
    rotate_left
    ·show Act.put _ (some 12) _ = _
     simp only [Act.put, lA, lB, lC, i64_w, i32_w]
     rfl
    refine two_ (i := 5) (j := 9) (Ni := some 15) (Nj := some 3) #[bT, bT, bT, bT, bT, bT, bF, bF, bF, bF, bF, bF] #[bT, bT, bT, bT, bT, bF, bF, bF, bF, bT, bF, bF] rfl rfl rfl rfl (by kernel_rfl) (by decide) (by decide) (fun K hK => ?_) (fun K hK => ?_)
    ·skip
     refine goes_ Tryz.func104 (by kernel_rfl) rfl #[.agg #[va, vb], .slice C l.ops.length c] (by rfl) rfl rfl (by simp only [List.map_toArray, List.map_cons, List.map_nil]; rfl) ?_
     with_reducible refine (hrun.out _ va vb bva P1.out D1.out).mono ?_
     rintro e w2_ ⟨A2, A3, n2, n3, k2, k3, rfl, hq, X2⟩
     have D2 : Hid (Bel w1.drew w2_) := Lib.hid (D1.out.trans X2.b)
     have Q2 := Lib.hid (show RunQ _ w2_ _ A2 n2 k2 A3 n3 k3 from hq)
     clear hq
     refine ⟨_, rfl, ?_⟩
     refine hK.out _ _ ⟨(V0.out.bel D2.out).c0, (V0.out.bel D2.out).c1, (V0.out.bel D2.out).c2, (V0.out.bel D2.out).c3⟩ (fun hHeld => ?_)
     clear hK K
     refine norm_ (a' := ?_) ?_ ?_
     rotate_left
     ·show Act.put _ (some 15) _ = _
      simp only [Act.put, lA, lB, lC, i64_w, i32_w]
      rfl
     refine pure_ (i := 6) (N := some 9) (v := ?_) (a' := ?_) #[bT, bT, bT, bT, bT, bT, bT, bF, bF, bF, bF, bF] rfl rfl (by kernel_rfl) (fun _ _ _ h => h) (Or.inl ⟨by rfl, ?_⟩) ?_ ?_
     rotate_left
     ·intro w'
      go_simp
      with_reducible rfl
     rotate_left
     ·simp only [Act.put, lA, lB, lC, i64_w, i32_w]
      rfl
     refine pure_ (i := 7) (N := some 16) (v := ?_) (a' := ?_) #[bT, bT, bT, bT, bT, bT, bT, bT, bF, bF, bF, bF] rfl rfl (by kernel_rfl) (fun _ _ _ h => h) (Or.inl ⟨by rfl, ?_⟩) ?_ ?_
     rotate_left
     ·intro w'
      go_simp
      with_reducible rfl
     rotate_left
     ·simp only [Act.put, lA, lB, lC, i64_w, i32_w]
      rfl
     refine pure_ (i := 8) (N := some 17) (v := ?_) (a' := ?_) #[bT, bT, bT, bT, bT, bT, bT, bT, bT, bF, bF, bF] rfl rfl (by kernel_rfl) (fun _ _ _ h => h) (Or.inl ⟨by rfl, ?_⟩) ?_ ?_
     rotate_left
     ·intro w'
      go_simp
      with_reducible rfl
     rotate_left
     ·simp only [Act.put, lA, lB, lC, i64_w, i32_w]
      rfl
     refine one_ (i := 9) (N := some 3) #[bT, bT, bT, bT, bT, bT, bT, bT, bT, bT, bF, bF] rfl rfl (by kernel_rfl) (by decide) (fun K hK => ?_)
     refine value_ (w1 := ?_) (v := ?_) (by rfl) rfl ?_ ?_
     rotate_left 2
     ·go_simp
      constructor
      ·rfl
      ·rfl
     have D3 : Hid (Bel w1.drew (w2_.alloc (.cells #[.slice none 0 0, .slice none 0 0] 42))) := Lib.hid (bel_alloc D2.out (.cells #[.slice none 0 0, .slice none 0 0] 42))
     have Q3 := Lib.hid (RunQ.bel Q2.out (bel_alloc (Below.refl _ _) (.cells #[.slice none 0 0, .slice none 0 0] 42)))
     have O3 : Hid (Blk (w2_.alloc (.cells #[.slice none 0 0, .slice none 0 0] 42)) w2_.heap.size #[.slice none 0 0, .slice none 0 0] 42) := Lib.hid (Blk.new w2_ #[.slice none 0 0, .slice none 0 0] 42)
     have L3 := D2.out.size
     refine hK.out _ _ ⟨(V0.out.bel D3.out).c0, (V0.out.bel D3.out).c1, (V0.out.bel D3.out).c2, (V0.out.bel D3.out).c3⟩ (fun hHeld => ?_)
     clear hK K
     refine norm_ (a' := ?_) ?_ ?_
     rotate_left
     ·show Act.put _ (some 3) _ = _
      simp only [Act.put, lA, lB, lC, i64_w, i32_w]
      rfl
     exact norm_ (by simp only [putAll, Act.put, lA, lB, lC]) (hCont (va, vb, A2, n2, k2, A3, n3, k3, w2_.heap.size) _ ⟨hHeld, O3.out, L3, Q3.out, D3.out⟩)
    ·skip
     refine value_ (w1 := ?_) (v := ?_) (by rfl) rfl ?_ ?_
     rotate_left 2
     ·go_simp
      constructor
      ·rfl
      ·rfl
     have D2 : Hid (Bel w1.drew (w1_.alloc (.cells #[.slice none 0 0, .slice none 0 0] 42))) := Lib.hid (bel_alloc D1.out (.cells #[.slice none 0 0, .slice none 0 0] 42))
     have P2 := Lib.hid (OwnP.bel P1.out (bel_alloc (Below.refl _ _) (.cells #[.slice none 0 0, .slice none 0 0] 42)))
     have O2 : Hid (Blk (w1_.alloc (.cells #[.slice none 0 0, .slice none 0 0] 42)) w1_.heap.size #[.slice none 0 0, .slice none 0 0] 42) := Lib.hid (Blk.new w1_ #[.slice none 0 0, .slice none 0 0] 42)
     have L2 := D1.out.size
     refine hK.out _ _ ⟨(V0.out.bel D2.out).c0, (V0.out.bel D2.out).c1, (V0.out.bel D2.out).c2, (V0.out.bel D2.out).c3⟩ (fun hHeld => ?_)
     clear hK K
     refine norm_ (a' := ?_) ?_ ?_
     rotate_left
     ·show Act.put _ (some 3) _ = _
      simp only [Act.put, lA, lB, lC, i64_w, i32_w]
      rfl
     refine one_ (i := 5) (N := some 15) #[bT, bT, bT, bT, bT, bT, bF, bF, bF, bT, bF, bF] rfl rfl (by kernel_rfl) (by decide) (fun K hK => ?_)
     refine goes_ Tryz.func104 (by kernel_rfl) rfl #[.agg #[va, vb], .slice C l.ops.length c] (by rfl) rfl rfl (by simp only [List.map_toArray, List.map_cons, List.map_nil]; rfl) ?_
     with_reducible refine (hrun.out _ va vb bva P2.out D2.out).mono ?_
     rintro e w3_ ⟨A2, A3, n2, n3, k2, k3, rfl, hq, X3⟩
     have D3 : Hid (Bel w1.drew w3_) := Lib.hid (D2.out.trans X3.b)
     have Q3 := Lib.hid (show RunQ _ w3_ _ A2 n2 k2 A3 n3 k3 from hq)
     clear hq
     have O3 := Lib.hid (X3.k _ _ _ (by decide) (by decide) (by decide) O2.out)
     refine ⟨_, rfl, ?_⟩
     refine hK.out _ _ ⟨(V0.out.bel D3.out).c0, (V0.out.bel D3.out).c1, (V0.out.bel D3.out).c2, (V0.out.bel D3.out).c3⟩ (fun hHeld => ?_)
     clear hK K
     refine norm_ (a' := ?_) ?_ ?_
     rotate_left
     ·show Act.put _ (some 15) _ = _
      simp only [Act.put, lA, lB, lC, i64_w, i32_w]
      rfl
     refine pure_ (i := 6) (N := some 9) (v := ?_) (a' := ?_) #[bT, bT, bT, bT, bT, bT, bT, bF, bF, bT, bF, bF] rfl rfl (by kernel_rfl) (fun _ _ _ h => h) (Or.inl ⟨by rfl, ?_⟩) ?_ ?_
     rotate_left
     ·intro w'
      go_simp
      with_reducible rfl
     rotate_left
     ·simp only [Act.put, lA, lB, lC, i64_w, i32_w]
      rfl
     refine pure_ (i := 7) (N := some 16) (v := ?_) (a' := ?_) #[bT, bT, bT, bT, bT, bT, bT, bT, bF, bT, bF, bF] rfl rfl (by kernel_rfl) (fun _ _ _ h => h) (Or.inl ⟨by rfl, ?_⟩) ?_ ?_
     rotate_left
     ·intro w'
      go_simp
      with_reducible rfl
     rotate_left
     ·simp only [Act.put, lA, lB, lC, i64_w, i32_w]
      rfl
     refine pure_ (i := 8) (N := some 17) (v := ?_) (a' := ?_) #[bT, bT, bT, bT, bT, bT, bT, bT, bT, bT, bF, bF] rfl rfl (by kernel_rfl) (fun _ _ _ h => h) (Or.inl ⟨by rfl, ?_⟩) ?_ ?_
     rotate_left
     ·intro w'
      go_simp
      with_reducible rfl
     rotate_left
     ·simp only [Act.put, lA, lB, lC, i64_w, i32_w]
      rfl
     exact norm_ (by simp only [putAll, Act.put, lA, lB, lC]) (hCont (va, vb, A2, n2, k2, A3, n3, k3, w1_.heap.size) _ ⟨hHeld, O3.out, L2, Q3.out, D3.out⟩)
   ·skip
    refine value_ (w1 := ?_) (v := ?_) (by rfl) rfl ?_ ?_
    rotate_left 2
    ·go_simp
     constructor
     ·rfl
     ·rfl
    have D1 : Hid (Bel w1.drew (w1.alloc (.cells #[.slice none 0 0, .slice none 0 0] 42)).drew) := Lib.hid (bel_alloc D0.out (.cells #[.slice none 0 0, .slice none 0 0] 42))
    have O1 : Hid (Blk (w1.alloc (.cells #[.slice none 0 0, .slice none 0 0] 42)).drew w1.drew.heap.size #[.slice none 0 0, .slice none 0 0] 42) := Lib.hid (Blk.new w1.drew #[.slice none 0 0, .slice none 0 0] 42)
    have L1 := D0.out.size
    refine hK.out _ _ ⟨(V0.out.bel D1.out).c0, (V0.out.bel D1.out).c1, (V0.out.bel D1.out).c2, (V0.out.bel D1.out).c3⟩ (fun hHeld => ?_)
    clear hK K
    refine norm_ (a' := ?_) ?_ ?_
    rotate_left
    ·show Act.put _ (some 3) _ = _
     simp only [Act.put, lA, lB, lC, i64_w, i32_w]
     rfl
    refine one_ (i := 2) (N := some 12) #[bT, bT, bT, bT, bT, bF, bF, bF, bF, bT, bF, bF] rfl rfl (by kernel_rfl) (by decide) (fun K hK => ?_)
    refine goes_ Tryz.func105 (by kernel_rfl) rfl #[.agg #[.slice A l.base.slots.length a, .slice B l.base.vols.length b]] (by rfl) rfl rfl (by simp only [List.map_toArray, List.map_cons, List.map_nil]; rfl) ?_
    with_reducible refine (l11Copy_c (V0.out.bel D1.out).inn.p HS.out.base).mono ?_
    rintro e w2_ ⟨va, vb, bva, rfl, ho, X2⟩
    have D2 := Lib.hid (Bel.tr D1.out X2)
    have O2 := Lib.hid (Blk.bel O1.out X2)
    have P2 : Hid (OwnP w2_ w1.drew.heap.size va vb l.base bva) := Lib.hid (ho.lower D1.out.size)
    clear ho
    refine ⟨_, rfl, ?_⟩
    refine hK.out _ _ ⟨(V0.out.bel D2.out).c0, (V0.out.bel D2.out).c1, (V0.out.bel D2.out).c2, (V0.out.bel D2.out).c3⟩ (fun hHeld => ?_)
    clear hK K
    refine norm_ (a' := ?_) ?_ ?_
    rotate_left
    ·show Act.put _ (some 12) _ = _
     simp only [Act.put, lA, lB, lC, i64_w, i32_w]
     rfl
    refine one_ (i := 5) (N := some 15) #[bT, bT, bT, bT, bT, bT, bF, bF, bF, bT, bF, bF] rfl rfl (by kernel_rfl) (by decide) (fun K hK => ?_)
    refine goes_ Tryz.func104 (by kernel_rfl) rfl #[.agg #[va, vb], .slice C l.ops.length c] (by rfl) rfl rfl (by simp only [List.map_toArray, List.map_cons, List.map_nil]; rfl) ?_
    with_reducible refine (hrun.out _ va vb bva P2.out D2.out).mono ?_
    rintro e w3_ ⟨A2, A3, n2, n3, k2, k3, rfl, hq, X3⟩
    have D3 : Hid (Bel w1.drew w3_) := Lib.hid (D2.out.trans X3.b)
    have Q3 := Lib.hid (show RunQ _ w3_ _ A2 n2 k2 A3 n3 k3 from hq)
    clear hq
    have O3 := Lib.hid (X3.k _ _ _ (by decide) (by decide) (by decide) O2.out)
    refine ⟨_, rfl, ?_⟩
    refine hK.out _ _ ⟨(V0.out.bel D3.out).c0, (V0.out.bel D3.out).c1, (V0.out.bel D3.out).c2, (V0.out.bel D3.out).c3⟩ (fun hHeld => ?_)
    clear hK K
    refine norm_ (a' := ?_) ?_ ?_
    rotate_left
    ·show Act.put _ (some 15) _ = _
     simp only [Act.put, lA, lB, lC, i64_w, i32_w]
     rfl
    refine pure_ (i := 6) (N := some 9) (v := ?_) (a' := ?_) #[bT, bT, bT, bT, bT, bT, bT, bF, bF, bT, bF, bF] rfl rfl (by kernel_rfl) (fun _ _ _ h => h) (Or.inl ⟨by rfl, ?_⟩) ?_ ?_
    rotate_left
    ·intro w'
     go_simp
     with_reducible rfl
    rotate_left
    ·simp only [Act.put, lA, lB, lC, i64_w, i32_w]
     rfl
    refine pure_ (i := 7) (N := some 16) (v := ?_) (a' := ?_) #[bT, bT, bT, bT, bT, bT, bT, bT, bF, bT, bF, bF] rfl rfl (by kernel_rfl) (fun _ _ _ h => h) (Or.inl ⟨by rfl, ?_⟩) ?_ ?_
    rotate_left
    ·intro w'
     go_simp
     with_reducible rfl
    rotate_left
    ·simp only [Act.put, lA, lB, lC, i64_w, i32_w]
     rfl
    refine pure_ (i := 8) (N := some 17) (v := ?_) (a' := ?_) #[bT, bT, bT, bT, bT, bT, bT, bT, bT, bT, bF, bF] rfl rfl (by kernel_rfl) (fun _ _ _ h => h) (Or.inl ⟨by rfl, ?_⟩) ?_ ?_
    rotate_left
    ·intro w'
     go_simp
     with_reducible rfl
    rotate_left
    ·simp only [Act.put, lA, lB, lC, i64_w, i32_w]
     rfl
    exact norm_ (by simp only [putAll, Act.put, lA, lB, lC]) (hCont (va, vb, A2, n2, k2, A3, n3, k3, w1.heap.size) _ ⟨hHeld, O3.out, L1, Q3.out, D3.out⟩)
  rintro ⟨va, vb, A2, n2, k2, A3, n3, k3, nb⟩ w3 ⟨hHeld, hO, hL, hQ, hD⟩
  dsimp only at hO hL hQ hD
  have r0 := hO.cell 0
  have r1 := hO.cell 1
  have f0 := hO.free 0
  have f1 := hO.free 1
  simp at r0 r1
  refine norm_ (a' := ?_) ?_ ?_
  rotate_left
  ·simp only [putAll, Act.put, lA, lB, lC]
   rfl
  refine last_ (i := 10) (N := none) #[bT, bT, bT, bT, bT, bT, bT, bT, bT, bT, bT, bF] rfl rfl (by kernel_rfl) (by decide) (fun K hK => ?_)
  refine skip_ (w1 := ?_) (by rfl) rfl ?_ ?_
  rotate_left
  ·go_simp
   rfl
  refine hK.out _ _ ?_
  clear hK K
  refine pure_ (i := 11) (N := some 4) (v := ?_) (a' := ?_) #[bT, bT, bT, bT, bT, bT, bT, bT, bT, bT, bT, bT] rfl rfl (by kernel_rfl) (fun _ _ _ h => h) (Or.inl ⟨by rfl, ?_⟩) ?_ ?_
  rotate_left
  ·intro w'
   go_simp
   with_reducible rfl
  rotate_left
  ·simp only [Act.put, lA, lB, lC, i64_w, i32_w]
   rfl
  refine done_ (by kernel_rfl) ?_
  obtain ⟨bq, hq⟩ := hQ q' HR0.out
  obtain ⟨E0, E1, d0, d1, e0, e1, hpi⟩ := hq.reads
  have e0 := slice_eq e0
  have e1 := slice_eq e1
  obtain ⟨rfl, rfl, rfl⟩ := e0
  obtain ⟨rfl, rfl, rfl⟩ := e1
  have hR3 : Blk w3 (w.heap.size + 1) #[.slice none 0 0, .slice none 0 0] 42 := Blk.bel (w := w1.drew) (KR.out.bel (Below.refl _ _).drew) hD
  have hne : w.heap.size + 1 ≠ nb := by have := KR.out.lt; have hsz : w1.drew.heap.size = w1.heap.size := rfl; omega
  have hO1 := hO.set 0 (.slice A2 q'.slots.length k2) (cs' := #[.slice A2 q'.slots.length k2, .slice none 0 0]) rfl
  have hO2 := hO1.set 1 (.slice A3 q'.vols.length k3) (cs' := #[.slice A2 q'.slots.length k2, .slice A3 q'.vols.length k3]) rfl
  have hq2 := (hq.far hO (by decide) (by decide) (by decide) 0 (.slice A2 q'.slots.length k2)).far hO1 (by decide) (by decide) (by decide) 1 (.slice A3 q'.vols.length k3)
  have hb5 : Bel w1.drew ((w3.setCell ⟨nb, 0, none⟩ (.slice A2 q'.slots.length k2)).setCell ⟨nb, 1, none⟩ (.slice A3 q'.vols.length k3)) := bel_set (bel_set hD hL 0 (.slice A2 q'.slots.length k2)) hL 1 (.slice A3 q'.vols.length k3)
  have hR4 := (hR3.apart hne.symm 0 (.slice A2 q'.slots.length k2)).apart hne.symm 1 (.slice A3 q'.vols.length k3)
  generalize ((w3.setCell ⟨nb, 0, none⟩ (.slice A2 q'.slots.length k2)).setCell ⟨nb, 1, none⟩ (.slice A3 q'.vols.length k3)) = W6 at hO2 hq2 hb5 hR4 ⊢
  have HB := Lib.hid (Bel.tr (b := w1.drew) (KW.out.tr (Below.refl _ _).drew) hb5)
  have HU := Lib.hid (hq2.lower (KW.out.tr (Below.refl _ _).drew).size)
  have HR := Lib.hid hR4
  have t0 := hO2.cell 0
  have t1 := hO2.cell 1
  have ty := hO2.lt
  have u0 := HR.out.cell 0
  have u1 := HR.out.cell 1
  have g0 := HR.out.free 0
  have g1 := HR.out.free 1
  have y := HR.out.lt
  simp at t0 t1 u0 u1
  clear hO hO1 hO2 hD hL hQ hq hq2 hb5 hR3 hR4 f0 f1 r0 r1 hHeld D0 s0 s1 s2 s3 hrun hpi
  go_wp2
  have hR1 := HR.out.set 0 (.slice A2 q'.slots.length k2) (cs' := #[.slice A2 q'.slots.length k2, .slice none 0 0]) rfl
  have hR2 := hR1.set 1 (.slice A3 q'.vols.length k3) (cs' := #[.slice A2 q'.slots.length k2, .slice A3 q'.vols.length k3]) rfl
  have hu2 := (HU.out.far HR.out (by decide) (by decide) (by decide) 0 (.slice A2 q'.slots.length k2)).far hR1 (by decide) (by decide) (by decide) 1 (.slice A3 q'.vols.length k3)
  have hb3 := bel_set (bel_set HB.out (Nat.le_succ _) 0 (.slice A2 q'.slots.length k2)) (Nat.le_succ _) 1 (.slice A3 q'.vols.length k3)
  refine bodyPost_ret (results_cell_row rfl _ _ (w.heap.size + 1) 42 #[.slice A2 q'.slots.length k2, .slice A3 q'.vols.length k3] (0, 0) _ rfl hR2 Tryz.underlying42 rfl (by kernel_rfl)) rfl ?_
  exact ⟨_, _, bq, rfl, hu2, hb3⟩
end
end Go.Proofs.YtccllgpaafgjaaaGreat

namespace Go.Proofs.YtccllgpaafgjaaaGreat
open Go.RowKit Go.Proofs.YtccllgpaafgjaaaGreatW.PrintWords Go.Proofs.YtccllgpaafgjaaaGreatW.PrintLast
section
variable {w : World} {A B C : Option Addr} {a b c : Nat} {l : Log}
end
end Go.Proofs.YtccllgpaafgjaaaGreat

namespace Go.Proofs.YtccllgpaafgjaaaGreat
open Go.RowKit Go.Proofs.YtccllgpaafgjaaaGreatW.PrintWords
end Go.Proofs.YtccllgpaafgjaaaGreat

namespace Go.Proofs.YtccllgpaafgjaaaGreat
open Go.RowKit Go.Proofs.YtccllgpaafgjaaaGreatW.PrintWords
set_option maxHeartbeats 2000000 in
theorem lgInts_c {w : World} {A A' : Option Addr} {c c' : Nat} {xs : List Int} (hC : kInt.C w A xs.length xs) (hC' : kInt.C w A' xs.length xs) (hl : xs.length ≤ 1048576) :
  Calls Tryz.prog 169 #[.slice A xs.length c, .slice A' xs.length c'] w (Ret (.bool true) w) := by
 have H := Lib.hid hC
 have H' := Lib.hid hC'
 clear hC hC'
 go_enter Tryz.func169, Tryz.ntmps169
 go_wp2
 go_loopg [5] xs.length (fun g v W => ∃ k : Nat, g + k = xs.length ∧ v = .int .i64 k ∧ Bel w W)
 case atStart => exact ⟨0, rfl, rfl, Below.refl _ _⟩
 case round =>
  obtain ⟨k, hk, rfl, hW⟩ := hrel
  by_cases hlt : k < xs.length
  ·obtain ⟨x, hx⟩ := getQ hlt
   obtain ⟨ad, rfl, hc⟩ := at_int (Kd.C_below H.out hW) hx
   obtain ⟨ad2, rfl, hc2⟩ := at_int (Kd.C_below H'.out hW) hx
   have g0 := gb_cell hc
   have g1 := gb_cell hc2
   clear hx hc hc2
   go_wp2
   refine wp_region_gb (by kernel_rfl) (by kernel_rfl) ?_
   repeat (first | go_big_quiet_skip | (go_big_quiet_want; go_big_quiet_op; go_big_quiet_on))
   refine wpQuiet_nil ?_
   rintro _ ⟨⟨w4, hb4⟩, rfl⟩
   go_wp2
   go_roundg (xs.length - (k + 1))
   case measure => omega
   case rel => exact ⟨k + 1, by omega, by go_num, hW.tr hb4⟩
  ·go_wp2
   go_ret
   exact ⟨rfl, hW⟩
set_option maxHeartbeats 1000000 in
theorem lgVol_c {w : World} {A A' : Option Addr} {c c' : Nat} {v : Vol} (hC : kInt.C w A v.blocks.length v.blocks) (hC' : kInt.C w A' v.blocks.length v.blocks) (hl : v.blocks.length ≤ 1048576) :
  Calls Tryz.prog 108 #[.agg #[.string v.name, .slice A v.blocks.length c], .agg #[.string v.name, .slice A' v.blocks.length c']] w (Ret (.bool true) w) := by
 have H := Lib.hid hC
 have H' := Lib.hid hC'
 clear hC hC'
 have h1 : (v.name.toList == v.name.toList) = true := by simp
 go_enter Tryz.func108, Tryz.ntmps108
 go_wp2_with fail
 refine (lgInts_c (Kd.C_alloc (Kd.C_alloc H.out _) _) (Kd.C_alloc (Kd.C_alloc H'.out _) _) hl).mono ?_
 rintro e w1 ⟨rfl, hb1⟩
 go_wp2
 go_ret
 exact ⟨rfl, (bel_alloc (bel_alloc (Below.refl _ _) _) _).tr hb1⟩
set_option maxHeartbeats 2000000 in
theorem lgSlots_c {w : World} {A A' : Option Addr} {c c' : Nat} {xs : List Slot} (hC : kSlot.C w A xs.length xs) (hC' : kSlot.C w A' xs.length xs) (hl : xs.length ≤ 1048576) :
  Calls Tryz.prog 107 #[.slice A xs.length c, .slice A' xs.length c'] w (Ret (.bool true) w) := by
 have H := Lib.hid hC
 have H' := Lib.hid hC'
 clear hC hC'
 go_enter Tryz.func107, Tryz.ntmps107
 go_wp2
 go_loopg [5] xs.length (fun g v W => ∃ k : Nat, g + k = xs.length ∧ v = .int .i64 k ∧ Bel w W)
 case atStart => exact ⟨0, rfl, rfl, Below.refl _ _⟩
 case round =>
  obtain ⟨k, hk, rfl, hW⟩ := hrel
  by_cases hlt : k < xs.length
  ·obtain ⟨x, hx⟩ := getQ hlt
   obtain ⟨ad, rfl, hc, hd⟩ := at_slot (Kd.C_below H.out hW) hx
   obtain ⟨ad2, rfl, hc2, hd2⟩ := at_slot (Kd.C_below H'.out hW) hx
   have h1 : (x.text.toList == x.text.toList) = true := by simp
   have g0 := gb_cell hc
   have g1 := gb_cell hc2
   have g2 := gb_cell hd
   have g3 := gb_cell hd2
   clear hx hc hc2 hd hd2
   go_wp2
   refine wp_region_gb (by kernel_rfl) (by kernel_rfl) ?_
   repeat (first | go_big_quiet_skip | (go_big_quiet_want; go_big_quiet_op; go_big_quiet_on))
   refine wpQuiet_nil ?_
   rintro _ ⟨⟨w4, hb4⟩, rfl⟩
   go_wp2
   go_roundg (xs.length - (k + 1))
   case measure => omega
   case rel => exact ⟨k + 1, by omega, by go_num, hW.tr hb4⟩
  ·go_wp2
   go_ret
   exact ⟨rfl, hW⟩
set_option maxHeartbeats 4000000 in
theorem lgPool_c {w : World} {A0 A1 B0 B1 : Option Addr} {c0 c1 d0 d1 : Nat} {p : Pool} (h : PoolIn w A0 A1 c0 c1 p) (h' : PoolIn w B0 B1 d0 d1 p) (hs : SmallP p) :
  Calls Tryz.prog 35 #[.agg #[.slice A0 p.slots.length c0, .slice A1 p.vols.length c1], .agg #[.slice B0 p.slots.length d0, .slice B1 p.vols.length d1]] w (Ret (.bool true) w) := by
 have H := Lib.hid h
 have H' := Lib.hid h'
 have HS := Lib.hid hs
 have hl := hs.vols.len
 clear h h' hs
 go_enter Tryz.func35, Tryz.ntmps35
 go_wp2_with fail
 refine (lgSlots_c ((H.out.alloc _).alloc _).s ((H'.out.alloc _).alloc _).s HS.out.slots.len).mono ?_
 rintro e w1 ⟨rfl, hb1⟩
 have hB : Blk ((w.alloc (.cells #[.slice A0 p.slots.length c0, .slice A1 p.vols.length c1] 42)).alloc (.cells #[.slice B0 p.slots.length d0, .slice B1 p.vols.length d1] 42)) w.heap.size #[.slice A0 p.slots.length c0, .slice A1 p.vols.length c1] 42 := (Blk.new _ _ _).alloc _
 have hB' := Blk.new2 w (.cells #[.slice A0 p.slots.length c0, .slice A1 p.vols.length c1] 42) #[.slice B0 p.slots.length d0, .slice B1 p.vols.length d1] 42
 have hw1 := (bel_alloc (bel_alloc (Below.refl _ w) (.cells #[.slice A0 p.slots.length c0, .slice A1 p.vols.length c1] 42)) (.cells #[.slice B0 p.slots.length d0, .slice B1 p.vols.length d1] 42) : Bel w _).tr hb1
 have HB := Lib.hid (hB.bel hb1)
 have HB' := Lib.hid (hB'.bel hb1)
 have HW1 := Lib.hid hw1
 have q1 := HB.out.cell 1
 have q2 := HB'.out.cell 1
 simp at q1 q2
 clear hB hB' hb1 hw1
 go_wp2
 clear q1 q2
 go_loopg [5] p.vols.length (fun g v W => ∃ k : Nat, g + k = p.vols.length ∧ v = .int .i64 k ∧ Bel w1 W)
 case atStart => exact ⟨0, rfl, rfl, Below.refl _ _⟩
 case round =>
  obtain ⟨k, hk, rfl, hW⟩ := hrel
  have q1 := (HB.out.bel hW).cell 1
  have q2 := (HB'.out.bel hW).cell 1
  simp at q1 q2
  by_cases hlt : k < p.vols.length
  ·obtain ⟨x, hx⟩ := getQ hlt
   obtain ⟨ad, A3, n1, rfl, hc, hd, hn1, hC1⟩ := at_vol (H.out.bel (HW1.out.tr hW)).v hx
   obtain ⟨ad2, A4, n2, rfl, hc2, hd2, hn2, hC2⟩ := at_vol (H'.out.bel (HW1.out.tr hW)).v hx
   have hx1 : x.blocks.length ≤ 1048576 := HS.out.vols.blocks x (List.mem_of_getElem? hx)
   have HE : Hid (∀ p : GB wr, Calls Tryz.prog 108 #[.agg #[.string x.name, .slice A3 x.blocks.length n1], .agg #[.string x.name, .slice A4 x.blocks.length n2]] p.W (Ret (.bool true) p.W)) := fun p => lgVol_c (Kd.C_below hC1 p.h) (Kd.C_below hC2 p.h) hx1
   have g0 := gb_cell hc
   have g1 := gb_cell hc2
   have g2 := gb_cell hd
   have g3 := gb_cell hd2
   have g4 := gb_cell q1
   have g5 := gb_cell q2
   clear hx hc hc2 hd hd2 hC1 hC2
   go_wp2
   clear q1 q2
   refine wp_region_gb (by kernel_rfl) (by kernel_rfl) ?_
   repeat (first | go_big_quiet_skip | (go_big_quiet_want; go_big_quiet_op; first | go_big_quiet_on | (apply Exists.intro; refine ⟨fun _ => ?_, ?_⟩; (go_at_call 108; exact gb_call (HE.out _)); go_big_quiet_on)))
   refine wpQuiet_nil ?_
   rintro _ ⟨⟨w4, hb4⟩, rfl⟩
   go_wp2
   go_roundg (p.vols.length - (k + 1))
   case measure => omega
   case rel => exact ⟨k + 1, by omega, by go_num, hW.tr hb4⟩
  ·go_wp2
   go_ret
   exact ⟨rfl, HW1.out.tr hW⟩
end Go.Proofs.YtccllgpaafgjaaaGreat

namespace Go.Proofs.YtccllgpaafgjaaaGreat
open Go.RowKit Go.Proofs.YtccllgpaafgjaaaGreatW.PrintWords
set_option maxHeartbeats 4000000 in
theorem lgOps_c {w : World} {A A' : Option Addr} {c c' : Nat} {xs : List Op} (hC : kOp.C w A xs.length xs) (hC' : kOp.C w A' xs.length xs) (hl : xs.length ≤ 1048576) :
  Calls Tryz.prog 27 #[.slice A xs.length c, .slice A' xs.length c'] w (Ret (.bool true) w) := by
 have H := Lib.hid hC
 have H' := Lib.hid hC'
 clear hC hC'
 go_enter Tryz.func27, Tryz.ntmps27
 go_wp2
 go_loopg [5] xs.length (fun g v W => ∃ k : Nat, g + k = xs.length ∧ v = .int .i64 k ∧ Bel w W)
 case atStart => exact ⟨0, rfl, rfl, Below.refl _ _⟩
 case round =>
  obtain ⟨k, hk, rfl, hW⟩ := hrel
  by_cases hlt : k < xs.length
  ·obtain ⟨x, hx⟩ := getQ hlt
   obtain ⟨ad, rfl, a0, a1, a2, a3, a4⟩ := at_op (Kd.C_below H.out hW) hx
   obtain ⟨ad2, rfl, b0, b1, b2, b3, b4⟩ := at_op (Kd.C_below H'.out hW) hx
   have g0 := gb_cell a0
   have g1 := gb_cell a1
   have g2 := gb_cell a2
   have g3 := gb_cell a3
   have g4 := gb_cell a4
   have g5 := gb_cell b0
   have g6 := gb_cell b1
   have g7 := gb_cell b2
   have g8 := gb_cell b3
   have g9 := gb_cell b4
   clear hx a0 a1 a2 a3 a4 b0 b1 b2 b3 b4
   go_wp2
   refine wp_region_gb (by kernel_rfl) (by kernel_rfl) ?_
   repeat (first | go_big_quiet_skip | (go_big_quiet_want; go_big_quiet_op; go_big_quiet_on))
   refine wpQuiet_nil ?_
   rintro _ ⟨⟨w4, hb4⟩, rfl⟩
   go_wp2
   go_roundg (xs.length - (k + 1))
   case measure => omega
   case rel => exact ⟨k + 1, by omega, by go_num, hW.tr hb4⟩
  ·go_wp2
   go_ret
   exact ⟨rfl, hW⟩
set_option maxHeartbeats 4000000 in
theorem lgLog_c {w : World} {A B C A' B' C' : Option Addr} {a b c a' b' c' : Nat} {l : Log} (h : LogIn w A B C a b c l) (h' : LogIn w A' B' C' a' b' c' l) (hs : SmallL l) :
  Calls Tryz.prog 32 #[.agg #[.slice A l.base.slots.length a, .slice B l.base.vols.length b, .slice C l.ops.length c, .int .i64 l.safe], .agg #[.slice A' l.base.slots.length a', .slice B' l.base.vols.length b', .slice C' l.ops.length c', .int .i64 l.safe]] w (Ret (.bool true) w) := by
 have H := Lib.hid h
 have H' := Lib.hid h'
 have HS := Lib.hid hs
 clear h h' hs
 go_enter Tryz.func32, Tryz.ntmps32
 go_wp2_with fail
 have hV := (LVar.new H.out).bel (bel_alloc (Below.refl _ _) (.cells #[.slice A' l.base.slots.length a', .slice B' l.base.vols.length b', .slice C' l.ops.length c', .int .i64 l.safe] 44))
 have hV2 : LVar ((w.alloc (.cells #[.slice A l.base.slots.length a, .slice B l.base.vols.length b, .slice C l.ops.length c, .int .i64 l.safe] 44)).alloc (.cells #[.slice A' l.base.slots.length a', .slice B' l.base.vols.length b', .slice C' l.ops.length c', .int .i64 l.safe] 44)) (w.heap.size + 1) A' B' C' a' b' c' l := ⟨Blk.nw2 _ _ _ _, (H'.out.alloc _).alloc _⟩
 have hW : Bel w ((w.alloc (.cells #[.slice A l.base.slots.length a, .slice B l.base.vols.length b, .slice C l.ops.length c, .int .i64 l.safe] 44)).alloc (.cells #[.slice A' l.base.slots.length a', .slice B' l.base.vols.length b', .slice C' l.ops.length c', .int .i64 l.safe] 44)) := bel_alloc (bel_alloc (Below.refl _ _) _) _
 generalize ((w.alloc (.cells #[.slice A l.base.slots.length a, .slice B l.base.vols.length b, .slice C l.ops.length c, .int .i64 l.safe] 44)).alloc (.cells #[.slice A' l.base.slots.length a', .slice B' l.base.vols.length b', .slice C' l.ops.length c', .int .i64 l.safe] 44)) = W0 at hV hV2 hW ⊢
 refine (lgPool_c hV.inn.p hV2.inn.p HS.out.base).mono ?_
 rintro e w1 ⟨rfl, hb1⟩
 have KV := Lib.hid (hV.bel hb1)
 have KV2 := Lib.hid (hV2.bel hb1)
 have KW := Lib.hid (hW.tr hb1)
 clear hV hV2 hW hb1
 have q2 := KV.out.c2
 have p2 := KV2.out.c2
 go_wp2_with fail
 refine (lgOps_c KV.out.inn.o KV2.out.inn.o HS.out.ops.len).mono ?_
 rintro e w2 ⟨rfl, hb2⟩
 have HB := Lib.hid (KW.out.tr hb2)
 have q3 := (KV.out.bel hb2).c3
 have p3 := (KV2.out.bel hb2).c3
 clear q2 p2 hb2
 go_wp2
 go_ret
 exact ⟨rfl, HB.out⟩
end Go.Proofs.YtccllgpaafgjaaaGreat

namespace Go.Proofs.YtccllgpaafgjaaaGreat
open Go.RowKit Go.Proofs.YtccllgpaafgjaaaGreatW.PrintWords Go.Proofs.YtccllgpaafgjaaaGreatW.PrintLast
def MadeLT (w : World) (l : Log) (e : Ending) (w' : World) : Prop := ∃ (v0 v1 v2 : Value) (bvs : List Value), e = .returned (.agg #[v0, v1, v2, .int .i64 l.safe]) ∧ OwnP w' w.heap.size v0 v1 l.base bvs ∧ OwnT w' w.heap.size v2 l.ops ∧ Bel w w'
theorem MadeLT.new {w : World} {l : Log} {e : Ending} {w' : World} (h : MadeLT w l e w') : NewL w l e w' := by
 obtain ⟨v0, v1, v2, bvs, rfl, hp, ho, hb⟩ := h
 obtain ⟨A, B, a, b, rfl, rfl, hi⟩ := hp.reads
 obtain ⟨C, c, rfl, hc, hC⟩ := ho.reads
 exact ⟨A, B, C, a, b, c, rfl, ⟨hi, hC, hc⟩, hb⟩
theorem OwnT.far {w : World} {base : Nat} {v : Value} {os : List Op} (h : OwnT w base v os) {b : Nat} {cs : Array Value} {t : TypeId} (hB : Blk w b cs t) (ht : 27 ≠ t) (i : Nat) (u : Value) : OwnT (w.setCell ⟨b, i, none⟩ u) base v os := by
 have hlt := hB.lt
 have hg : w.grownBy (w.setCell ⟨b, i, none⟩ u) (some b) := ⟨rfl, rfl, rfl, by simp, fun k hk hne => by
  have : b ≠ k := fun e => hne (by rw [e])
  simp [World.setCell, Array.getElem?_modify, this]⟩
 refine h.kept hg fun k hk e => ?_
 injection e with e
 subst e
 obtain ⟨_, _, cs', hc⟩ := h.base b hk
 have h2 := hB.symm.trans hc
 injection h2 with h2
 injection h2 with _ h2
 exact ht h2.symm
theorem OwnT.far4 {W : World} {base b : Nat} {v : Value} {os : List Op} (h : OwnT W base v os) {x0 x1 x2 x3 : Value} (hB : Blk W b #[x0, x1, x2, x3] 44) (u0 u1 u2 u3 : Value) : OwnT (wset4 W b u0 u1 u2 u3) base v os := by
 have h1 := hB.set 0 u0 (cs' := #[u0, x1, x2, x3]) rfl
 have h2 := h1.set 1 u1 (cs' := #[u0, u1, x2, x3]) rfl
 have h3 := h2.set 2 u2 (cs' := #[u0, u1, u2, x3]) rfl
 exact (((h.far hB (by decide) 0 u0).far h1 (by decide) 1 u1).far h2 (by decide) 2 u2).far h3 (by decide) 3 u3
section
variable {w : World} {A B C : Option Addr} {a b c : Nat} {l : Log}
theorem packF_no (h : logOk l = false) : packF l = noL := by unfold packF; rw [h]; rfl
set_option maxHeartbeats 8000000 in
theorem specLogPack_no (h : LogIn w A B C a b c l) (hs : SmallL l) (hok : logOk l = false) :
  Calls Tryz.prog 33 #[.agg #[.slice A l.base.slots.length a, .slice B l.base.vols.length b, .slice C l.ops.length c, .int .i64 l.safe]] w (MadeLT w noL) := by
 have HI := Lib.hid h
 have HS := Lib.hid hs
 have HOK := Lib.hid hok
 clear h hs hok
 go_enter Tryz.func33, Tryz.ntmps33
 go_wp2_with fail
 have hV := (LVar.new HI.out).bel (bel_alloc (Below.refl _ _) (.cells #[.slice none 0 0, .slice none 0 0, .slice none 0 0, .int .i64 0] 44))
 have hR : Blk ((w.alloc (.cells #[.slice A l.base.slots.length a, .slice B l.base.vols.length b, .slice C l.ops.length c, .int .i64 l.safe] 44)).alloc (.cells #[.slice none 0 0, .slice none 0 0, .slice none 0 0, .int .i64 0] 44)) (w.heap.size + 1) #[.slice none 0 0, .slice none 0 0, .slice none 0 0, .int .i64 0] 44 := Blk.nw2 _ _ _ _
 have hW : Bel w ((w.alloc (.cells #[.slice A l.base.slots.length a, .slice B l.base.vols.length b, .slice C l.ops.length c, .int .i64 l.safe] 44)).alloc (.cells #[.slice none 0 0, .slice none 0 0, .slice none 0 0, .int .i64 0] 44)) := bel_alloc (bel_alloc (Below.refl _ _) _) _
 generalize ((w.alloc (.cells #[.slice A l.base.slots.length a, .slice B l.base.vols.length b, .slice C l.ops.length c, .int .i64 l.safe] 44)).alloc (.cells #[.slice none 0 0, .slice none 0 0, .slice none 0 0, .int .i64 0] 44)) = W0 at hV hR hW ⊢
 have HK := specLogOk_c hV.inn HS.out
 rw [HOK.out] at HK
 refine HK.mono ?_
 rintro e w1 ⟨rfl, hb1⟩
 have HR := Lib.hid (hR.bel hb1)
 have HB := Lib.hid (hW.tr hb1)
 clear hV hR hb1 hW HK
 have r0 := HR.out.cell 0
 have r1 := HR.out.cell 1
 have r2 := HR.out.cell 2
 have r3 := HR.out.cell 3
 have f0 := HR.out.free 0
 have f1 := HR.out.free 1
 have f2 := HR.out.free 2
 have f3 := HR.out.free 3
 have y := HR.out.lt
 simp at r0 r1 r2 r3
 go_wp2
 have hR4 := HR.out.set4 (.slice none 0 0) (.slice none 0 0) (.slice none 0 0) (.int .i64 0)
 refine bodyPost_ret (results_cell_row rfl _ _ (w.heap.size + 1) 44 #[.slice none 0 0, .slice none 0 0, .slice none 0 0, .int .i64 0] (0, 0) _ rfl hR4 Tryz.underlying44 rfl (by kernel_rfl)) rfl ?_
 exact ⟨_, _, _, [], rfl, OwnP.none _ _, .inl ⟨rfl, none, rfl, fun a e => by cases e⟩, bel_set4 HB.out (Nat.le_succ _) _ _ _ _⟩
set_option maxHeartbeats 16000000 in
set_option maxRecDepth 10000 in
theorem specLogPack_yes {p q r : Pool} {os : List Op} {sn : Nat} (h : LogIn w A B C a b c ⟨p, os, sn⟩) (hs : SmallL ⟨p, os, sn⟩) (hq : LogP ⟨p, os, sn⟩ q) (hr : runP p (os.take sn) = some r) :
    Calls Tryz.prog 33 #[.agg #[.slice A p.slots.length a, .slice B p.vols.length b, .slice C os.length c, .int .i64 (sn : Int)]] w (MadeLT w ⟨r, os.drop sn, 0⟩) := by
  have HI := Lib.hid h
  have HS := Lib.hid hs
  have HOK := Lib.hid hq.ok
  have HV := Lib.hid (show PoolP p from hq.base)
  have HRR := Lib.hid hr
  have hrs : (runP p (os.take sn)).isSome = true := by rw [hr]; rfl
  have h20 : os.length ≤ 20 := hq.len
  have hsl : sn ≤ os.length := by have := hq.s1; simpa using this
  have HSL := Lib.hid (And.intro h20 hsl)
  have hlk : (os.take sn).length = sn := by rw [List.length_take]; omega
  have HLK := Lib.hid hlk
  clear h hs hq hr hlk
  go_enter Tryz.func33, Tryz.ntmps33
  go_wp2_with fail
  have hV : LVar ((w.alloc (.cells #[.slice A p.slots.length a, .slice B p.vols.length b, .slice C os.length c, .int .i64 (sn : Int)] 44)).alloc (.cells #[.slice none 0 0, .slice none 0 0, .slice none 0 0, .int .i64 0] 44)) w.heap.size A B C a b c ⟨p, os, sn⟩ := (LVar.new HI.out).bel (bel_alloc (Below.refl _ _) (.cells #[.slice none 0 0, .slice none 0 0, .slice none 0 0, .int .i64 0] 44))
  have hR : Blk ((w.alloc (.cells #[.slice A p.slots.length a, .slice B p.vols.length b, .slice C os.length c, .int .i64 (sn : Int)] 44)).alloc (.cells #[.slice none 0 0, .slice none 0 0, .slice none 0 0, .int .i64 0] 44)) (w.heap.size + 1) #[.slice none 0 0, .slice none 0 0, .slice none 0 0, .int .i64 0] 44 := Blk.nw2 _ _ _ _
  have hW : Bel w ((w.alloc (.cells #[.slice A p.slots.length a, .slice B p.vols.length b, .slice C os.length c, .int .i64 (sn : Int)] 44)).alloc (.cells #[.slice none 0 0, .slice none 0 0, .slice none 0 0, .int .i64 0] 44)) := bel_alloc (bel_alloc (Below.refl _ _) _) _
  generalize ((w.alloc (.cells #[.slice A p.slots.length a, .slice B p.vols.length b, .slice C os.length c, .int .i64 (sn : Int)] 44)).alloc (.cells #[.slice none 0 0, .slice none 0 0, .slice none 0 0, .int .i64 0] 44)) = W0 at hV hR hW ⊢
  have HK := specLogOk_c hV.inn HS.out
  rw [HOK.out] at HK
  try dsimp only at HK
  refine HK.mono ?_
  rintro e w1 ⟨rfl, hb1⟩
  have KV := Lib.hid (hV.bel hb1)
  have KR := Lib.hid (hR.bel hb1)
  have KW := Lib.hid (hW.tr hb1)
  clear hV hR hb1 hW HK
  have q0 := KV.out.c0
  have q1 := KV.out.c1
  have q2 := KV.out.c2
  have q3 := KV.out.c3
  have y := KV.out.lt
  try dsimp only at q0 q1 q2 q3
  go_wp2_with fail
  clear q0 q1 q2 q3 y
  have HC := l13Copy_c KV.out.inn HS.out
  try dsimp only at HC
  refine HC.mono ?_
  rintro e w2 ⟨A2, B2, C2, a2, b2, c2, bvs, rfl, hp, ho, hb2⟩
  try dsimp only at hp ho
  replace KV := Lib.hid (KV.out.bel hb2)
  replace KR := Lib.hid (KR.out.bel hb2)
  have hsz := KW.out.size
  replace KW := Lib.hid (KW.out.tr hb2)
  have HO := Lib.hid (show OwnO w2 w.heap.size (.slice C2 os.length c2) os from own_lower ho hsz)
  have hc2 := (ho.innC rfl).1
  clear hp ho hb2 hsz HC
  have q2 := KV.out.c2
  have q3 := KV.out.c3
  have y := KV.out.lt
  have yr := KR.out.lt
  try dsimp only at q2 q3
  go_wp2
  obtain ⟨xb, hxb⟩ : ∃ xb, w2.heap.size = xb := ⟨_, rfl⟩
  have hX : Blk (w2.alloc (.cells #[.slice A2 p.slots.length a2, .slice B2 p.vols.length b2, .slice C2 os.length c2, .int .i64 (sn : Int)] 44)) w2.heap.size #[.slice A2 p.slots.length a2, .slice B2 p.vols.length b2, .slice C2 os.length c2, .int .i64 (sn : Int)] 44 := Blk.new _ _ _
  have hb3 : Bel w2 (w2.alloc (.cells #[.slice A2 p.slots.length a2, .slice B2 p.vols.length b2, .slice C2 os.length c2, .int .i64 (sn : Int)] 44)) := bel_alloc (Below.refl _ _) _
  generalize (w2.alloc (.cells #[.slice A2 p.slots.length a2, .slice B2 p.vols.length b2, .slice C2 os.length c2, .int .i64 (sn : Int)] 44)) = W3 at hX hb3 ⊢
  rw [hxb] at hX ⊢
  have hne : ¬ xb = w.heap.size + 1 := by omega
  have hxw : w.heap.size ≤ xb := by omega
  have hneV : ¬ xb = w.heap.size := by omega
  clear q2 q3 y yr hxb
  have HX := Lib.hid hX
  replace HO := Lib.hid (HO.out.bel hb3)
  replace KR := Lib.hid (KR.out.bel hb3)
  replace KW := Lib.hid (KW.out.tr hb3)
  replace KV := Lib.hid (KV.out.bel hb3)
  have V0 : Hid (LVar W3.drew w.heap.size A B C a b c ⟨p, os, sn⟩) := Lib.hid (KV.out.bel (Below.refl _ _).drew)
  have D0 : Hid (Bel W3.drew W3.drew) := Lib.hid (Below.refl _ _)
  have s0 := V0.out.c0
  have s1 := V0.out.c1
  have s2 := V0.out.c2
  have s3 := V0.out.c3
  try dsimp only at s0 s1 s2 s3
  have hCs : kOp.C W3.drew C (os.take sn).length (os.take sn) := by
    have hh := C_take V0.out.inn.o sn HSL.out.2
    rw [← HLK.out] at hh
    rw [HLK.out] at hh ⊢
    exact hh
  have hsc : sn ≤ c := Nat.le_trans HSL.out.2 V0.out.inn.oc
  have hrun := Lib.hid (fun (W' : World) (v0 v1 : Value) (bvs : List Value) (h : OwnP W' W3.drew.heap.size v0 v1 p bvs) (hb : Bel W3.drew W') => l13Run_c (c2 := c) h HV.out (Below.size hb) hCs (Nat.le_refl _) hb (HS.out.ops.take sn))
  unfold RunsP at hrun
  rw [hrs] at hrun
  try dsimp only at hrun
  rw [HLK.out] at hrun
  clear hrs hX hb3 hCs
  refine start_ (n := 15) (S := fun w' => w'.cell? ⟨w.heap.size, 0, none⟩ = some (.slice A p.slots.length a) ∧ w'.cell? ⟨w.heap.size, 1, none⟩ = some (.slice B p.vols.length b) ∧ w'.cell? ⟨w.heap.size, 2, none⟩ = some (.slice C os.length c) ∧ w'.cell? ⟨w.heap.size, 3, none⟩ = some (.int .i64 (sn : Int))) (ds := [13]) #[bF, bF, bF, bF, bF, bF, bF, bF, bF, bF, bF, bF, bF, bF, bF] (by kernel_rfl) rfl rfl ⟨s0, s1, s2, s3⟩ (fun hHeld => ?_)
  refine pure_ (i := 0) (N := some 13) (v := ?_) (a' := ?_) #[bT, bF, bF, bF, bF, bF, bF, bF, bF, bF, bF, bF, bF, bF, bF] rfl rfl (by kernel_rfl) (fun _ _ _ h => h) (Or.inl ⟨by rfl, ?_⟩) ?_ ?_
  rotate_left
  · intro w'
    go_simp
    with_reducible rfl
  rotate_left
  · simp only [Act.put, lA, lB, lC, i64_w, i32_w]
    rfl
  refine pure_ (i := 3) (N := some 16) (v := ?_) (a' := ?_) #[bT, bF, bF, bT, bF, bF, bF, bF, bF, bF, bF, bF, bF, bF, bF] rfl rfl (by kernel_rfl) (fun _ _ _ h => h) (Or.inl ⟨by rfl, ?_⟩) ?_ ?_
  rotate_left
  · intro w'
    go_simp
    with_reducible rfl
  rotate_left
  · simp only [Act.put, lA, lB, lC, i64_w, i32_w]
    rfl
  refine pure_ (i := 5) (N := some 18) (v := ?_) (a' := ?_) #[bT, bF, bF, bT, bF, bT, bF, bF, bF, bF, bF, bF, bF, bF, bF] rfl rfl (by kernel_rfl) (fun _ _ _ h => h) (Or.inl ⟨by rfl, ?_⟩) ?_ ?_
  rotate_left
  · intro w'
    go_simp
    with_reducible rfl
  rotate_left
  · simp only [Act.put, lA, lB, lC, i64_w, i32_w]
    rfl
  refine take_ (i := 1) (N := some 14) (v := ?_) (a' := ?_) #[bT, bT, bF, bT, bF, bT, bF, bF, bF, bF, bF, bF, bF, bF, bF] rfl rfl (by kernel_rfl) (fun _ _ _ h => h) (Or.inl ⟨by rfl, ?_⟩) hHeld ?_ ?_
  rotate_left
  · rintro w' ⟨s0, s1, s2, s3⟩
    go_simp
    with_reducible rfl
  rotate_left
  · simp only [Act.put, lA, lB, lC, i64_w, i32_w]
    rfl
  refine take_ (i := 4) (N := some 17) (v := ?_) (a' := ?_) #[bT, bT, bF, bT, bT, bT, bF, bF, bF, bF, bF, bF, bF, bF, bF] rfl rfl (by kernel_rfl) (fun _ _ _ h => h) (Or.inl ⟨by rfl, ?_⟩) hHeld ?_ ?_
  rotate_left
  · rintro w' ⟨s0, s1, s2, s3⟩
    go_simp
    with_reducible rfl
  rotate_left
  · simp only [Act.put, lA, lB, lC, i64_w, i32_w]
    rfl
  refine take_ (i := 6) (N := some 19) (v := ?_) (a' := ?_) #[bT, bT, bF, bT, bT, bT, bT, bF, bF, bF, bF, bF, bF, bF, bF] rfl rfl (by kernel_rfl) (fun _ _ _ h => h) (Or.inl ⟨by rfl, ?_⟩) hHeld ?_ ?_
  rotate_left
  · rintro w' ⟨s0, s1, s2, s3⟩
    go_simp
    with_reducible rfl
  rotate_left
  · simp only [Act.put, lA, lB, lC, i64_w, i32_w]
    rfl
  refine pure_ (i := 7) (N := some 20) (v := ?_) (a' := ?_) #[bT, bT, bF, bT, bT, bT, bT, bT, bF, bF, bF, bF, bF, bF, bF] rfl rfl (by kernel_rfl) (fun _ _ _ h => h) (Or.inl ⟨by rfl, ?_⟩) ?_ ?_
  rotate_left
  · intro w'
    go_simp
    with_reducible rfl
  rotate_left
  · simp only [Act.put, lA, lB, lC, i64_w, i32_w]
    rfl
  refine join_ (σ := Value × Value × Option Addr × Nat × Nat × Option Addr × Nat × Nat × Nat) 2 #[bT, bT, bT, bT, bT, bT, bT, bT, bT, bT, bT, bT, bT, bF, bF] (fun s => [(15, .agg #[s.1, s.2.1]), (21, .tuple #[.agg #[.slice s.2.2.1 s.2.2.2.1 s.2.2.2.2.1, .slice s.2.2.2.2.2.1 s.2.2.2.2.2.2.1 s.2.2.2.2.2.2.2.1], .bool true]), (12, .tuple #[.agg #[.slice s.2.2.1 s.2.2.2.1 s.2.2.2.2.1, .slice s.2.2.2.2.2.1 s.2.2.2.2.2.2.1 s.2.2.2.2.2.2.2.1], .bool true]), (22, .agg #[.slice s.2.2.1 s.2.2.2.1 s.2.2.2.2.1, .slice s.2.2.2.2.2.1 s.2.2.2.2.2.2.1 s.2.2.2.2.2.2.2.1]), (23, .bool true), (4, .pointer (some ⟨s.2.2.2.2.2.2.2.2, 0, none⟩))]) (fun s w' => (w'.cell? ⟨w.heap.size, 0, none⟩ = some (.slice A p.slots.length a) ∧ w'.cell? ⟨w.heap.size, 1, none⟩ = some (.slice B p.vols.length b) ∧ w'.cell? ⟨w.heap.size, 2, none⟩ = some (.slice C os.length c) ∧ w'.cell? ⟨w.heap.size, 3, none⟩ = some (.int .i64 (sn : Int))) ∧ Blk w' s.2.2.2.2.2.2.2.2 #[.slice none 0 0, .slice none 0 0] 42 ∧ W3.drew.heap.size ≤ s.2.2.2.2.2.2.2.2 ∧ RunQ (runP p (os.take sn)) w' W3.drew.heap.size s.2.2.1 s.2.2.2.1 s.2.2.2.2.1 s.2.2.2.2.2.1 s.2.2.2.2.2.2.1 s.2.2.2.2.2.2.2.1 ∧ Bel W3.drew w') ?_ ?_
  rotate_left
  · intro hCont
    refine two_ (i := 2) (j := 12) (Ni := some 15) (Nj := some 4) #[bT, bT, bT, bT, bT, bT, bT, bT, bF, bF, bF, bF, bF, bF, bF] #[bT, bT, bF, bT, bT, bT, bT, bT, bF, bF, bF, bF, bT, bF, bF] rfl rfl rfl rfl (by kernel_rfl) (by decide) (by decide) (fun K hK => ?_) (fun K hK => ?_)
    · skip
      refine goes_ Tryz.func105 (by kernel_rfl) rfl #[.agg #[.slice A p.slots.length a, .slice B p.vols.length b]] (by rfl) rfl rfl (by simp only [List.map_toArray, List.map_cons, List.map_nil]; rfl) ?_
      with_reducible refine (l11Copy_c (V0.out.bel D0.out).inn.p HS.out.base).mono ?_
      rintro e w1_ ⟨va, vb, bva, rfl, ho, X1⟩
      have D1 := Lib.hid (Bel.tr D0.out X1)
      have P1 : Hid (OwnP w1_ W3.drew.heap.size va vb p bva) := Lib.hid (ho.lower D0.out.size)
      clear ho
      refine ⟨_, rfl, ?_⟩
      refine hK.out _ _ ⟨(V0.out.bel D1.out).c0, (V0.out.bel D1.out).c1, (V0.out.bel D1.out).c2, (V0.out.bel D1.out).c3⟩ (fun hHeld => ?_)
      clear hK K
      refine norm_ (a' := ?_) ?_ ?_
      rotate_left
      · show Act.put _ (some 15) _ = _
        simp only [Act.put, lA, lB, lC, i64_w, i32_w]
        rfl
      refine two_ (i := 8) (j := 12) (Ni := some 21) (Nj := some 4) #[bT, bT, bT, bT, bT, bT, bT, bT, bT, bF, bF, bF, bF, bF, bF] #[bT, bT, bT, bT, bT, bT, bT, bT, bF, bF, bF, bF, bT, bF, bF] rfl rfl rfl rfl (by kernel_rfl) (by decide) (by decide) (fun K hK => ?_) (fun K hK => ?_)
      · skip
        refine goes_ Tryz.func104 (by kernel_rfl) rfl #[.agg #[va, vb], .slice C sn c] (by rfl) rfl rfl (by simp only [List.map_toArray, List.map_cons, List.map_nil]; rfl) ?_
        with_reducible refine (hrun.out _ va vb bva P1.out D1.out).mono ?_
        rintro e w2_ ⟨A2, A3, n2, n3, k2, k3, rfl, hq, X2⟩
        have D2 : Hid (Bel W3.drew w2_) := Lib.hid (D1.out.trans X2.b)
        have Q2 := Lib.hid (show RunQ _ w2_ _ A2 n2 k2 A3 n3 k3 from hq)
        clear hq
        refine ⟨_, rfl, ?_⟩
        refine hK.out _ _ ⟨(V0.out.bel D2.out).c0, (V0.out.bel D2.out).c1, (V0.out.bel D2.out).c2, (V0.out.bel D2.out).c3⟩ (fun hHeld => ?_)
        clear hK K
        refine norm_ (a' := ?_) ?_ ?_
        rotate_left
        · show Act.put _ (some 21) _ = _
          simp only [Act.put, lA, lB, lC, i64_w, i32_w]
          rfl
        refine pure_ (i := 9) (N := some 12) (v := ?_) (a' := ?_) #[bT, bT, bT, bT, bT, bT, bT, bT, bT, bT, bF, bF, bF, bF, bF] rfl rfl (by kernel_rfl) (fun _ _ _ h => h) (Or.inl ⟨by rfl, ?_⟩) ?_ ?_
        rotate_left
        · intro w'
          go_simp
          with_reducible rfl
        rotate_left
        · simp only [Act.put, lA, lB, lC, i64_w, i32_w]
          rfl
        refine pure_ (i := 10) (N := some 22) (v := ?_) (a' := ?_) #[bT, bT, bT, bT, bT, bT, bT, bT, bT, bT, bT, bF, bF, bF, bF] rfl rfl (by kernel_rfl) (fun _ _ _ h => h) (Or.inl ⟨by rfl, ?_⟩) ?_ ?_
        rotate_left
        · intro w'
          go_simp
          with_reducible rfl
        rotate_left
        · simp only [Act.put, lA, lB, lC, i64_w, i32_w]
          rfl
        refine pure_ (i := 11) (N := some 23) (v := ?_) (a' := ?_) #[bT, bT, bT, bT, bT, bT, bT, bT, bT, bT, bT, bT, bF, bF, bF] rfl rfl (by kernel_rfl) (fun _ _ _ h => h) (Or.inl ⟨by rfl, ?_⟩) ?_ ?_
        rotate_left
        · intro w'
          go_simp
          with_reducible rfl
        rotate_left
        · simp only [Act.put, lA, lB, lC, i64_w, i32_w]
          rfl
        refine one_ (i := 12) (N := some 4) #[bT, bT, bT, bT, bT, bT, bT, bT, bT, bT, bT, bT, bT, bF, bF] rfl rfl (by kernel_rfl) (by decide) (fun K hK => ?_)
        refine value_ (w1 := ?_) (v := ?_) (by rfl) rfl ?_ ?_
        rotate_left 2
        · go_simp
          constructor
          · rfl
          · rfl
        have D3 : Hid (Bel W3.drew (w2_.alloc (.cells #[.slice none 0 0, .slice none 0 0] 42))) := Lib.hid (bel_alloc D2.out (.cells #[.slice none 0 0, .slice none 0 0] 42))
        have Q3 := Lib.hid (RunQ.bel Q2.out (bel_alloc (Below.refl _ _) (.cells #[.slice none 0 0, .slice none 0 0] 42)))
        have O3 : Hid (Blk (w2_.alloc (.cells #[.slice none 0 0, .slice none 0 0] 42)) w2_.heap.size #[.slice none 0 0, .slice none 0 0] 42) := Lib.hid (Blk.new w2_ #[.slice none 0 0, .slice none 0 0] 42)
        have L3 := D2.out.size
        refine hK.out _ _ ⟨(V0.out.bel D3.out).c0, (V0.out.bel D3.out).c1, (V0.out.bel D3.out).c2, (V0.out.bel D3.out).c3⟩ (fun hHeld => ?_)
        clear hK K
        refine norm_ (a' := ?_) ?_ ?_
        rotate_left
        · show Act.put _ (some 4) _ = _
          simp only [Act.put, lA, lB, lC, i64_w, i32_w]
          rfl
        exact norm_ (by simp only [putAll, Act.put, lA, lB, lC]) (hCont (va, vb, A2, n2, k2, A3, n3, k3, w2_.heap.size) _ ⟨hHeld, O3.out, L3, Q3.out, D3.out⟩)
      · skip
        refine value_ (w1 := ?_) (v := ?_) (by rfl) rfl ?_ ?_
        rotate_left 2
        · go_simp
          constructor
          · rfl
          · rfl
        have D2 : Hid (Bel W3.drew (w1_.alloc (.cells #[.slice none 0 0, .slice none 0 0] 42))) := Lib.hid (bel_alloc D1.out (.cells #[.slice none 0 0, .slice none 0 0] 42))
        have P2 := Lib.hid (OwnP.bel P1.out (bel_alloc (Below.refl _ _) (.cells #[.slice none 0 0, .slice none 0 0] 42)))
        have O2 : Hid (Blk (w1_.alloc (.cells #[.slice none 0 0, .slice none 0 0] 42)) w1_.heap.size #[.slice none 0 0, .slice none 0 0] 42) := Lib.hid (Blk.new w1_ #[.slice none 0 0, .slice none 0 0] 42)
        have L2 := D1.out.size
        refine hK.out _ _ ⟨(V0.out.bel D2.out).c0, (V0.out.bel D2.out).c1, (V0.out.bel D2.out).c2, (V0.out.bel D2.out).c3⟩ (fun hHeld => ?_)
        clear hK K
        refine norm_ (a' := ?_) ?_ ?_
        rotate_left
        · show Act.put _ (some 4) _ = _
          simp only [Act.put, lA, lB, lC, i64_w, i32_w]
          rfl
        refine one_ (i := 8) (N := some 21) #[bT, bT, bT, bT, bT, bT, bT, bT, bT, bF, bF, bF, bT, bF, bF] rfl rfl (by kernel_rfl) (by decide) (fun K hK => ?_)
        refine goes_ Tryz.func104 (by kernel_rfl) rfl #[.agg #[va, vb], .slice C sn c] (by rfl) rfl rfl (by simp only [List.map_toArray, List.map_cons, List.map_nil]; rfl) ?_
        with_reducible refine (hrun.out _ va vb bva P2.out D2.out).mono ?_
        rintro e w3_ ⟨A2, A3, n2, n3, k2, k3, rfl, hq, X3⟩
        have D3 : Hid (Bel W3.drew w3_) := Lib.hid (D2.out.trans X3.b)
        have Q3 := Lib.hid (show RunQ _ w3_ _ A2 n2 k2 A3 n3 k3 from hq)
        clear hq
        have O3 := Lib.hid (X3.k _ _ _ (by decide) (by decide) (by decide) O2.out)
        refine ⟨_, rfl, ?_⟩
        refine hK.out _ _ ⟨(V0.out.bel D3.out).c0, (V0.out.bel D3.out).c1, (V0.out.bel D3.out).c2, (V0.out.bel D3.out).c3⟩ (fun hHeld => ?_)
        clear hK K
        refine norm_ (a' := ?_) ?_ ?_
        rotate_left
        · show Act.put _ (some 21) _ = _
          simp only [Act.put, lA, lB, lC, i64_w, i32_w]
          rfl
        refine pure_ (i := 9) (N := some 12) (v := ?_) (a' := ?_) #[bT, bT, bT, bT, bT, bT, bT, bT, bT, bT, bF, bF, bT, bF, bF] rfl rfl (by kernel_rfl) (fun _ _ _ h => h) (Or.inl ⟨by rfl, ?_⟩) ?_ ?_
        rotate_left
        · intro w'
          go_simp
          with_reducible rfl
        rotate_left
        · simp only [Act.put, lA, lB, lC, i64_w, i32_w]
          rfl
        refine pure_ (i := 10) (N := some 22) (v := ?_) (a' := ?_) #[bT, bT, bT, bT, bT, bT, bT, bT, bT, bT, bT, bF, bT, bF, bF] rfl rfl (by kernel_rfl) (fun _ _ _ h => h) (Or.inl ⟨by rfl, ?_⟩) ?_ ?_
        rotate_left
        · intro w'
          go_simp
          with_reducible rfl
        rotate_left
        · simp only [Act.put, lA, lB, lC, i64_w, i32_w]
          rfl
        refine pure_ (i := 11) (N := some 23) (v := ?_) (a' := ?_) #[bT, bT, bT, bT, bT, bT, bT, bT, bT, bT, bT, bT, bT, bF, bF] rfl rfl (by kernel_rfl) (fun _ _ _ h => h) (Or.inl ⟨by rfl, ?_⟩) ?_ ?_
        rotate_left
        · intro w'
          go_simp
          with_reducible rfl
        rotate_left
        · simp only [Act.put, lA, lB, lC, i64_w, i32_w]
          rfl
        exact norm_ (by simp only [putAll, Act.put, lA, lB, lC]) (hCont (va, vb, A2, n2, k2, A3, n3, k3, w1_.heap.size) _ ⟨hHeld, O3.out, L2, Q3.out, D3.out⟩)
    · skip
      refine value_ (w1 := ?_) (v := ?_) (by rfl) rfl ?_ ?_
      rotate_left 2
      · go_simp
        constructor
        · rfl
        · rfl
      have D1 : Hid (Bel W3.drew (W3.alloc (.cells #[.slice none 0 0, .slice none 0 0] 42)).drew) := Lib.hid (bel_alloc D0.out (.cells #[.slice none 0 0, .slice none 0 0] 42))
      have O1 : Hid (Blk (W3.alloc (.cells #[.slice none 0 0, .slice none 0 0] 42)).drew W3.drew.heap.size #[.slice none 0 0, .slice none 0 0] 42) := Lib.hid (Blk.new W3.drew #[.slice none 0 0, .slice none 0 0] 42)
      have L1 := D0.out.size
      refine hK.out _ _ ⟨(V0.out.bel D1.out).c0, (V0.out.bel D1.out).c1, (V0.out.bel D1.out).c2, (V0.out.bel D1.out).c3⟩ (fun hHeld => ?_)
      clear hK K
      refine norm_ (a' := ?_) ?_ ?_
      rotate_left
      · show Act.put _ (some 4) _ = _
        simp only [Act.put, lA, lB, lC, i64_w, i32_w]
        rfl
      refine one_ (i := 2) (N := some 15) #[bT, bT, bT, bT, bT, bT, bT, bT, bF, bF, bF, bF, bT, bF, bF] rfl rfl (by kernel_rfl) (by decide) (fun K hK => ?_)
      refine goes_ Tryz.func105 (by kernel_rfl) rfl #[.agg #[.slice A p.slots.length a, .slice B p.vols.length b]] (by rfl) rfl rfl (by simp only [List.map_toArray, List.map_cons, List.map_nil]; rfl) ?_
      with_reducible refine (l11Copy_c (V0.out.bel D1.out).inn.p HS.out.base).mono ?_
      rintro e w2_ ⟨va, vb, bva, rfl, ho, X2⟩
      have D2 := Lib.hid (Bel.tr D1.out X2)
      have O2 := Lib.hid (Blk.bel O1.out X2)
      have P2 : Hid (OwnP w2_ W3.drew.heap.size va vb p bva) := Lib.hid (ho.lower D1.out.size)
      clear ho
      refine ⟨_, rfl, ?_⟩
      refine hK.out _ _ ⟨(V0.out.bel D2.out).c0, (V0.out.bel D2.out).c1, (V0.out.bel D2.out).c2, (V0.out.bel D2.out).c3⟩ (fun hHeld => ?_)
      clear hK K
      refine norm_ (a' := ?_) ?_ ?_
      rotate_left
      · show Act.put _ (some 15) _ = _
        simp only [Act.put, lA, lB, lC, i64_w, i32_w]
        rfl
      refine one_ (i := 8) (N := some 21) #[bT, bT, bT, bT, bT, bT, bT, bT, bT, bF, bF, bF, bT, bF, bF] rfl rfl (by kernel_rfl) (by decide) (fun K hK => ?_)
      refine goes_ Tryz.func104 (by kernel_rfl) rfl #[.agg #[va, vb], .slice C sn c] (by rfl) rfl rfl (by simp only [List.map_toArray, List.map_cons, List.map_nil]; rfl) ?_
      with_reducible refine (hrun.out _ va vb bva P2.out D2.out).mono ?_
      rintro e w3_ ⟨A2, A3, n2, n3, k2, k3, rfl, hq, X3⟩
      have D3 : Hid (Bel W3.drew w3_) := Lib.hid (D2.out.trans X3.b)
      have Q3 := Lib.hid (show RunQ _ w3_ _ A2 n2 k2 A3 n3 k3 from hq)
      clear hq
      have O3 := Lib.hid (X3.k _ _ _ (by decide) (by decide) (by decide) O2.out)
      refine ⟨_, rfl, ?_⟩
      refine hK.out _ _ ⟨(V0.out.bel D3.out).c0, (V0.out.bel D3.out).c1, (V0.out.bel D3.out).c2, (V0.out.bel D3.out).c3⟩ (fun hHeld => ?_)
      clear hK K
      refine norm_ (a' := ?_) ?_ ?_
      rotate_left
      · show Act.put _ (some 21) _ = _
        simp only [Act.put, lA, lB, lC, i64_w, i32_w]
        rfl
      refine pure_ (i := 9) (N := some 12) (v := ?_) (a' := ?_) #[bT, bT, bT, bT, bT, bT, bT, bT, bT, bT, bF, bF, bT, bF, bF] rfl rfl (by kernel_rfl) (fun _ _ _ h => h) (Or.inl ⟨by rfl, ?_⟩) ?_ ?_
      rotate_left
      · intro w'
        go_simp
        with_reducible rfl
      rotate_left
      · simp only [Act.put, lA, lB, lC, i64_w, i32_w]
        rfl
      refine pure_ (i := 10) (N := some 22) (v := ?_) (a' := ?_) #[bT, bT, bT, bT, bT, bT, bT, bT, bT, bT, bT, bF, bT, bF, bF] rfl rfl (by kernel_rfl) (fun _ _ _ h => h) (Or.inl ⟨by rfl, ?_⟩) ?_ ?_
      rotate_left
      · intro w'
        go_simp
        with_reducible rfl
      rotate_left
      · simp only [Act.put, lA, lB, lC, i64_w, i32_w]
        rfl
      refine pure_ (i := 11) (N := some 23) (v := ?_) (a' := ?_) #[bT, bT, bT, bT, bT, bT, bT, bT, bT, bT, bT, bT, bT, bF, bF] rfl rfl (by kernel_rfl) (fun _ _ _ h => h) (Or.inl ⟨by rfl, ?_⟩) ?_ ?_
      rotate_left
      · intro w'
        go_simp
        with_reducible rfl
      rotate_left
      · simp only [Act.put, lA, lB, lC, i64_w, i32_w]
        rfl
      exact norm_ (by simp only [putAll, Act.put, lA, lB, lC]) (hCont (va, vb, A2, n2, k2, A3, n3, k3, W3.heap.size) _ ⟨hHeld, O3.out, L1, Q3.out, D3.out⟩)
  rintro ⟨va, vb, A2, n2, k2, A3, n3, k3, nb⟩ w3 ⟨hHeld, hO, hL, hQ, hD⟩
  dsimp only at hO hL hQ hD
  have r0 := hO.cell 0
  have r1 := hO.cell 1
  have f0 := hO.free 0
  have f1 := hO.free 1
  simp at r0 r1
  refine norm_ (a' := ?_) ?_ ?_
  rotate_left
  · simp only [putAll, Act.put, lA, lB, lC]
    rfl
  refine last_ (i := 13) (N := none) #[bT, bT, bT, bT, bT, bT, bT, bT, bT, bT, bT, bT, bT, bT, bF] rfl rfl (by kernel_rfl) (by decide) (fun K hK => ?_)
  refine skip_ (w1 := ?_) (by rfl) rfl ?_ ?_
  rotate_left
  · go_simp
    rfl
  refine hK.out _ _ ?_
  clear hK K
  refine pure_ (i := 14) (N := some 5) (v := ?_) (a' := ?_) #[bT, bT, bT, bT, bT, bT, bT, bT, bT, bT, bT, bT, bT, bT, bT] rfl rfl (by kernel_rfl) (fun _ _ _ h => h) (Or.inl ⟨by rfl, ?_⟩) ?_ ?_
  rotate_left
  · intro w'
    go_simp
    with_reducible rfl
  rotate_left
  · simp only [Act.put, lA, lB, lC, i64_w, i32_w]
    rfl
  refine done_ (by kernel_rfl) ?_
  obtain ⟨bq, hq⟩ := hQ r HRR.out
  obtain ⟨E0, E1, d0, d1, e0, e1, hpi⟩ := hq.reads
  have e0 := slice_eq e0
  have e1 := slice_eq e1
  obtain ⟨rfl, rfl, rfl⟩ := e0
  obtain ⟨rfl, rfl, rfl⟩ := e1
  have hX3 := Blk.bel (w := W3.drew) (HX.out.bel (Below.refl _ _).drew) hD
  have hR3 : Blk w3 (w.heap.size + 1) #[.slice none 0 0, .slice none 0 0, .slice none 0 0, .int .i64 0] 44 := Blk.bel (w := W3.drew) (KR.out.bel (Below.refl _ _).drew) hD
  have hl1 := HX.out.lt
  have hl2 := KR.out.lt
  have hsz : W3.drew.heap.size = W3.heap.size := rfl
  have hneX : ¬ nb = xb := by omega
  have hneR : ¬ nb = w.heap.size + 1 := by omega
  have hO1 := hO.set 0 (.slice A2 r.slots.length k2) (cs' := #[.slice A2 r.slots.length k2, .slice none 0 0]) rfl
  have hO2 := hO1.set 1 (.slice A3 r.vols.length k3) (cs' := #[.slice A2 r.slots.length k2, .slice A3 r.vols.length k3]) rfl
  have hq2 := (hq.far hO (by decide) (by decide) (by decide) 0 (.slice A2 r.slots.length k2)).far hO1 (by decide) (by decide) (by decide) 1 (.slice A3 r.vols.length k3)
  have hb5 : Bel W3.drew ((w3.setCell ⟨nb, 0, none⟩ (.slice A2 r.slots.length k2)).setCell ⟨nb, 1, none⟩ (.slice A3 r.vols.length k3)) := bel_set (bel_set hD hL 0 (.slice A2 r.slots.length k2)) hL 1 (.slice A3 r.vols.length k3)
  have hR4 := (hR3.apart hneR 0 (.slice A2 r.slots.length k2)).apart hneR 1 (.slice A3 r.vols.length k3)
  have hX4 := (hX3.apart hneX 0 (.slice A2 r.slots.length k2)).apart hneX 1 (.slice A3 r.vols.length k3)
  clear hO hO1 hD hL hQ hq hX3 hR3 f0 f1 r0 r1 hHeld D0 s0 s1 s2 s3 hrun hpi hl1 hl2 hsz hneX hneR
  generalize ((w3.setCell ⟨nb, 0, none⟩ (.slice A2 r.slots.length k2)).setCell ⟨nb, 1, none⟩ (.slice A3 r.vols.length k3)) = W6 at hO2 hq2 hb5 hR4 hX4 ⊢
  have hbw : Bel w W6 := Bel.tr (b := W3.drew) (KW.out.tr (Below.refl _ _).drew) hb5
  have HB := Lib.hid hbw
  have HU := Lib.hid (hq2.lower (KW.out.tr (Below.refl _ _).drew).size)
  have HR := Lib.hid hR4
  have HX6 := Lib.hid hX4
  have hO6 : OwnO W6 w.heap.size (.slice C2 os.length c2) os := (OwnO.bel (w' := W3.drew) HO.out (Below.refl _ _).drew).bel hb5
  have HT6 := Lib.hid (OwnT.cut hO6 (by omega) HSL.out.2)
  have t0 := hO2.cell 0
  have t1 := hO2.cell 1
  have ty := hO2.lt
  have x0 := HX6.out.cell 0
  have x1 := HX6.out.cell 1
  have x2 := HX6.out.cell 2
  have x3 := HX6.out.cell 3
  have xf0 := HX6.out.free 0
  have xf1 := HX6.out.free 1
  have xf2 := HX6.out.free 2
  have xf3 := HX6.out.free 3
  have xy := HX6.out.lt
  have v3 := (V0.out.bel hb5).c3
  try dsimp only at v3
  have r0 := HR.out.cell 0
  have r1 := HR.out.cell 1
  have r2 := HR.out.cell 2
  have r3 := HR.out.cell 3
  have f0 := HR.out.free 0
  have f1 := HR.out.free 1
  have f2 := HR.out.free 2
  have f3 := HR.out.free 3
  have ry := HR.out.lt
  have vy := (V0.out.bel hb5).lt
  simp at t0 t1 x0 x1 x2 x3 r0 r1 r2 r3
  have hne2 : ¬ w.heap.size + 1 = xb := fun e => hne e.symm
  have hsl2 := HSL.out.2
  clear hO2 hq2 hR4 hX4 hb5 hbw hO6
  go_wp2
  all_goals first
    | (have hT : OwnT W6 w.heap.size (.slice C2 (os.length - sn) 0) (os.drop sn) := by have hh := HT6.out; rw [if_pos ‹c2 = sn›] at hh; rw [show c2 - sn = 0 by omega] at hh; exact hh
       have hR7 := HR.out.apart4 hne (.slice A2 r.slots.length k2) (.slice A3 r.vols.length k3) (.slice C2 (os.length - sn) 0) (.int .i64 0)
       have hR8 := hR7.set4 (.slice A2 r.slots.length k2) (.slice A3 r.vols.length k3) (.slice C2 (os.length - sn) 0) (.int .i64 0)
       have hP8 := (HU.out.far4 HX6.out (.slice A2 r.slots.length k2) (.slice A3 r.vols.length k3) (.slice C2 (os.length - sn) 0) (.int .i64 0)).far4 hR7 (.slice A2 r.slots.length k2) (.slice A3 r.vols.length k3) (.slice C2 (os.length - sn) 0) (.int .i64 0)
       have hT8 := (hT.far4 HX6.out (.slice A2 r.slots.length k2) (.slice A3 r.vols.length k3) (.slice C2 (os.length - sn) 0) (.int .i64 0)).far4 hR7 (.slice A2 r.slots.length k2) (.slice A3 r.vols.length k3) (.slice C2 (os.length - sn) 0) (.int .i64 0)
       have hb8 := bel_set4 (bel_set4 HB.out hxw (.slice A2 r.slots.length k2) (.slice A3 r.vols.length k3) (.slice C2 (os.length - sn) 0) (.int .i64 0)) (Nat.le_succ _) (.slice A2 r.slots.length k2) (.slice A3 r.vols.length k3) (.slice C2 (os.length - sn) 0) (.int .i64 0)
       refine bodyPost_ret (results_cell_row rfl _ _ (w.heap.size + 1) 44 #[.slice A2 r.slots.length k2, .slice A3 r.vols.length k3, (.slice C2 (os.length - sn) 0), .int .i64 0] (0, 0) _ rfl hR8 Tryz.underlying44 rfl (by kernel_rfl)) rfl ?_
       exact ⟨_, _, _, bq, rfl, hP8, hT8, hb8⟩)
    | (have hT : OwnT W6 w.heap.size (.slice (Option.map (fun x => x.add (sn * 5)) C2) (os.length - sn) (c2 - sn)) (os.drop sn) := by have hh := HT6.out; rw [if_neg ‹¬c2 = sn›] at hh; exact hh
       have hR7 := HR.out.apart4 hne (.slice A2 r.slots.length k2) (.slice A3 r.vols.length k3) (.slice (Option.map (fun x => x.add (sn * 5)) C2) (os.length - sn) (c2 - sn)) (.int .i64 0)
       have hR8 := hR7.set4 (.slice A2 r.slots.length k2) (.slice A3 r.vols.length k3) (.slice (Option.map (fun x => x.add (sn * 5)) C2) (os.length - sn) (c2 - sn)) (.int .i64 0)
       have hP8 := (HU.out.far4 HX6.out (.slice A2 r.slots.length k2) (.slice A3 r.vols.length k3) (.slice (Option.map (fun x => x.add (sn * 5)) C2) (os.length - sn) (c2 - sn)) (.int .i64 0)).far4 hR7 (.slice A2 r.slots.length k2) (.slice A3 r.vols.length k3) (.slice (Option.map (fun x => x.add (sn * 5)) C2) (os.length - sn) (c2 - sn)) (.int .i64 0)
       have hT8 := (hT.far4 HX6.out (.slice A2 r.slots.length k2) (.slice A3 r.vols.length k3) (.slice (Option.map (fun x => x.add (sn * 5)) C2) (os.length - sn) (c2 - sn)) (.int .i64 0)).far4 hR7 (.slice A2 r.slots.length k2) (.slice A3 r.vols.length k3) (.slice (Option.map (fun x => x.add (sn * 5)) C2) (os.length - sn) (c2 - sn)) (.int .i64 0)
       have hb8 := bel_set4 (bel_set4 HB.out hxw (.slice A2 r.slots.length k2) (.slice A3 r.vols.length k3) (.slice (Option.map (fun x => x.add (sn * 5)) C2) (os.length - sn) (c2 - sn)) (.int .i64 0)) (Nat.le_succ _) (.slice A2 r.slots.length k2) (.slice A3 r.vols.length k3) (.slice (Option.map (fun x => x.add (sn * 5)) C2) (os.length - sn) (c2 - sn)) (.int .i64 0)
       refine bodyPost_ret (results_cell_row rfl _ _ (w.heap.size + 1) 44 #[.slice A2 r.slots.length k2, .slice A3 r.vols.length k3, (.slice (Option.map (fun x => x.add (sn * 5)) C2) (os.length - sn) (c2 - sn)), .int .i64 0] (0, 0) _ rfl hR8 Tryz.underlying44 rfl (by kernel_rfl)) rfl ?_
       exact ⟨_, _, _, bq, rfl, hP8, hT8, hb8⟩)
theorem specLogPack_c (h : LogIn w A B C a b c l) (hs : SmallL l) :
  Calls Tryz.prog 33 #[.agg #[.slice A l.base.slots.length a, .slice B l.base.vols.length b, .slice C l.ops.length c, .int .i64 l.safe]] w (MadeLT w (packF l)) := by
 cases hok : logOk l with
 | false => rw [packF_no hok]; exact specLogPack_no h hs hok
 | true =>
  obtain ⟨q, hq⟩ := logOk_iff.1 hok
  obtain ⟨p, os, safe⟩ := l
  obtain ⟨sn, rfl⟩ : ∃ sn : Nat, safe = sn := ⟨safe.toNat, by have := hq.s0; simp only at this; omega⟩
  obtain ⟨r, he, _, hr⟩ := hq.packE
  rw [he]
  exact specLogPack_yes h hs hq hr
end
end Go.Proofs.YtccllgpaafgjaaaGreat

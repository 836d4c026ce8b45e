/- Contracts of the program's and the reference's functions, and the plain laws behind them: part 7 of 13. -/
import Derived.Test.YtljfoglilggkjaaGreatM1
import Derived.Test.YtljfoglilggkjaaGreatM2
import Derived.Test.YtljfoglilggkjaaGreatM3
import Derived.Test.YtljfoglilggkjaaGreatM4
import Derived.Test.YtljfoglilggkjaaGreatM5
import Derived.Test.YtljfoglilggkjaaGreatM6
set_option linter.unusedVariables false
set_option linter.unusedSimpArgs false
set_option maxHeartbeats 64000000
set_option maxRecDepth 10000
namespace Go.Proofs.YtljfoglilggkjaaGreat
open Go.RowKit Go.Proofs.YtljfoglilggkjaaGreatW.PrintWords Go.Proofs.YtljfoglilggkjaaGreatW.PrintLast
def Opened (w : World) (e : Ending) (w' : World) : Prop := ∃ rb, e = .returned (.pointer (some ⟨rb, 0, none⟩)) ∧ Rd w' rb 0 ∧ w.heap.size ≤ rb ∧ Bel w w'
structure CodeIn (w : World) (A : Option Addr) (n c : Nat) (bs : List Int) : Prop where
  len : bs.length = n
  cap : n ≤ c
  C : kByte.C w A n bs
  bd : ∀ x ∈ bs, 0 ≤ x ∧ x ≤ 255
  lt : ∀ ad, A = some ad → ad.block < w.heap.size
theorem CodeIn.bel {w w' : World} {A : Option Addr} {n c : Nat} {bs : List Int} (h : CodeIn w A n c bs) (hb : Bel w w') : CodeIn w' A n c bs := ⟨h.len, h.cap, Kd.C_below h.C hb, h.bd, fun ad e => Nat.lt_of_lt_of_le (h.lt ad e) hb.size⟩
theorem open_c {w : World} {A : Option Addr} {n c : Nat} {bs : List Int} (h : CodeIn w A n c bs) (hn : n ≤ 9223372036854775807) :
  Calls Tryz.prog 34 #[.slice A n c] w (Opened w) := by
 have hcap := h.cap
 have H := Lib.hid h
 clear h
 by_cases hl : (2000 : Int) < (n : Int)
 ·go_enter Tryz.func34, Tryz.ntmps34
  go_wp2
  go_ret
  have hlen : (bs.take 2000).length = 2000 := by rw [List.length_take, H.out.len]; omega
  refine ⟨w.heap.size, rfl, ⟨⟨A, c, bs.take 2000, 0, ?_, ?_, fun x hx => H.out.bd x (List.mem_of_mem_take hx), by omega, Nat.le_refl _, H.out.lt⟩⟩, Nat.le_refl _, bel_alloc (Below.refl _ _) _⟩
  ·rw [hlen]; exact Blk.new _ _ _
  ·rw [hlen]; exact Kd.C_alloc (C_take H.out.C 2000 (by omega)) _
 ·go_enter Tryz.func34, Tryz.ntmps34
  go_wp2
  go_ret
  refine ⟨w.heap.size, rfl, ⟨⟨A, c, bs, 0, ?_, ?_, H.out.bd, by rw [H.out.len]; omega, Nat.le_refl _, H.out.lt⟩⟩, Nat.le_refl _, bel_alloc (Below.refl _ _) _⟩
  ·rw [H.out.len]; exact Blk.new _ _ _
  ·rw [H.out.len]; exact Kd.C_alloc H.out.C _
def OfV (xs : List ByteArray) (v : Value) : Prop := ∃ s, v = .string s ∧ s ∈ xs
theorem cell_str {w : World} {b : Nat} {xs : List ByteArray} {t : TypeId} (h : Blk w b (xs.map Value.string).toArray t) {j : Nat} {s : ByteArray} (hj : xs[j]? = some s) : w.cell? ⟨b, j, none⟩ = some (.string s) := by
 rw [h.cell]; simp [hj]
theorem of_c {w : World} {rb lb k : Nat} {xs : List ByteArray} {T : TypeId} (h : Rd w rb k) (hk : k ≤ 1099511627776) (hL : Blk w lb (xs.map Value.string).toArray T) (hne : lb ≠ rb) (h1 : 1 ≤ xs.length) (h2 : xs.length ≤ 100) (m c : Nat) (hm : xs.length = m) (hmc : m ≤ c) :
  Calls Tryz.prog 77 #[.pointer (some ⟨rb, 0, none⟩), .slice (some ⟨lb, 0, none⟩) m c] w (Drawn rb k 1 (OfV xs) w) := by
 have H := Lib.hid h
 have HL := Lib.hid hL
 have HM := Lib.hid hm
 have hm1 : 1 ≤ m := by omega
 have hm2 : m ≤ 100 := by omega
 clear h hL hm
 go_enter Tryz.func77, Tryz.ntmps77
 go_wp2_with fail
 refine (pick_c H.out hk (m : Int) (by omega)).mono ?_
 rintro e w1 ⟨v, rfl, ⟨r, rfl, hr0, hr1, -⟩, hR, hg⟩
 have hr2 := hr1 (by omega)
 obtain ⟨j, rfl⟩ : ∃ j : Nat, r = j := ⟨r.toNat, by omega⟩
 have hjm : j < m := by omega
 obtain ⟨s, hs⟩ := getQ (show j < xs.length by rw [HM.out]; exact hjm)
 have hc := cell_str (HL.out.grown hg (by intro e; injection e with e; exact hne e)) hs
 have HR := Lib.hid (And.intro hR hg)
 have HS := Lib.hid (List.mem_of_getElem? hs)
 clear hR hg hs hr1
 go_wp2
 go_ret
 exact ⟨_, rfl, ⟨s, rfl, HS.out⟩, HR.out.1, HR.out.2⟩
def TextV (v : Value) : Prop := ∃ s : ByteArray, v = .string s ∧ s.size ≤ 7
def sOf (l : List UInt8) : ByteArray := ⟨l.toArray⟩
def abc : List ByteArray := [sOf [97], sOf [98], sOf [99], sOf [100], sOf [97]]
def eee : List ByteArray := [sOf [101], sOf [97, 97, 97, 97], sOf [32], sOf [65]]
theorem abc_size {s : ByteArray} (h : s ∈ abc) : s.size = 1 := by
 simp only [abc, List.mem_cons, List.not_mem_nil, or_false] at h
 rcases h with rfl | rfl | rfl | rfl | rfl <;> rfl
theorem eee_size {s : ByteArray} (h : s ∈ eee) : s.size ≤ 4 := by
 simp only [eee, List.mem_cons, List.not_mem_nil, or_false] at h
 rcases h with rfl | rfl | rfl | rfl <;> decide
theorem text_c {w : World} {rb k : Nat} (h : Rd w rb k) (hk : k ≤ 1099511600000) :
  Calls Tryz.prog 78 #[.pointer (some ⟨rb, 0, none⟩)] w (Drawn rb k 6 TextV w) := by
 have H := Lib.hid h
 clear h
 go_enter Tryz.func78, Tryz.ntmps78
 go_wp2_with fail
 refine (pick_c H.out (by omega) 4 (by omega)).mono ?_
 rintro e w1 ⟨v, rfl, ⟨r, rfl, hr0, hr1, -⟩, hR, hg⟩
 have hr2 := hr1 (by omega)
 obtain ⟨j0, rfl⟩ : ∃ j : Nat, r = j := ⟨r.toNat, by omega⟩
 have hj0 : j0 ≤ 3 := by omega
 have HR := Lib.hid (And.intro hR hg)
 clear hR hg hr1 hr2
 go_wp2
 go_loopg [3, 4] j0 (fun gg v3 v4 W => ∃ (j : Nat) (s : ByteArray), j = gg ∧ j ≤ j0 ∧ v4 = .int .i64 j ∧ v3 = .string s ∧ s.size + j ≤ 3 ∧ Hid (Rd W rb (k + 1 + (3 - j)) ∧ w.grownBy W (some rb)))
 case atStart => exact ⟨j0, ⟨#[]⟩, rfl, Nat.le_refl _, rfl, rfl, by simp [ByteArray.size]; omega, HR.out.1.more (by omega), HR.out.2⟩
 case round =>
  obtain ⟨j, s, hj, hjj, rfl, rfl, hs, hI⟩ := hrel
  subst hj
  by_cases hlt : 0 < j
  ·go_wp2_with fail
   have hB : Blk (wr.alloc (.cells #[.string ⟨#[97]⟩, .string ⟨#[98]⟩, .string ⟨#[99]⟩, .string ⟨#[100]⟩, .string ⟨#[97]⟩] 9)) wr.heap.size (abc.map Value.string).toArray 9 := Blk.new wr _ _
   have hne : wr.heap.size ≠ rb := by have := hI.out.1.lt; omega
   refine (of_c (hI.out.1.bel (bel_alloc (Below.refl _ _) _)) (by omega) hB hne (by decide) (by decide) 5 5 rfl (by omega)).mono ?_
   rintro e w4 ⟨v, rfl, ⟨s', rfl, hs'⟩, hR4, hg4⟩
   have hsz := abc_size hs'
   have hsz1 : s'.size ≤ 1 := by omega
   have HSZ := Lib.hid hsz
   have HI := Lib.hid (And.intro hR4 (grown_tr hI.out.2 (grown_tr (grown_of_bel (bel_alloc (Below.refl _ _) _) _) hg4)))
   have hs3 : s.size ≤ 3 := by omega
   clear hB hne hs' hR4 hg4 hI hsz
   go_wp2
   go_roundg (j - 1)
   case measure => omega
   case rel => exact ⟨j - 1, _, rfl, by omega, int_eq (by omega), rfl, by rw [ByteArray.size_append, HSZ.out]; omega, HI.out.1.more (by omega), HI.out.2⟩
  ·have hj : j = 0 := by omega
   have HI := Lib.hid (And.intro (hI.out.1.more (show k + 1 + (3 - j) ≤ k + 4 by omega)) hI.out.2)
   have hs3 : s.size ≤ 3 := by omega
   clear hI
   go_wp2_with fail
   refine (pick_c HI.out.1 (by omega) 30 (by omega)).mono ?_
   rintro e w4 ⟨v, rfl, ⟨r, rfl, hr0, hr1, -⟩, hR4, hg4⟩
   have HI4 := Lib.hid (And.intro hR4 (grown_tr HI.out.2 hg4))
   clear hR4 hg4 hr1
   by_cases hr : r = 0
   ·subst hr
    go_wp2_with fail
    have hB : Blk (w4.alloc (.cells #[.string ⟨#[101]⟩, .string ⟨#[97, 97, 97, 97]⟩, .string ⟨#[32]⟩, .string ⟨#[65]⟩] 9)) w4.heap.size (eee.map Value.string).toArray 9 := Blk.new w4 _ _
    have hne : w4.heap.size ≠ rb := by have := HI4.out.1.lt; omega
    refine (of_c (HI4.out.1.bel (bel_alloc (Below.refl _ _) _)) (by omega) hB hne (by decide) (by decide) 4 4 rfl (by omega)).mono ?_
    rintro e w5 ⟨v, rfl, ⟨s', rfl, hs'⟩, hR5, hg5⟩
    have hsz := eee_size hs'
    have HI5 := Lib.hid (And.intro (hR5.more (show k + 4 + 1 + 1 ≤ k + 6 by omega)) (grown_tr HI4.out.2 (grown_tr (grown_of_bel (bel_alloc (Below.refl _ _) _) _) hg5)))
    clear hB hne hs' hR5 hg5
    go_wp2
    go_ret
    exact ⟨_, rfl, ⟨_, rfl, by rw [ByteArray.size_append]; omega⟩, HI5.out.1, HI5.out.2⟩
   ·go_wp2
    go_ret
    exact ⟨_, rfl, ⟨_, rfl, by omega⟩, HI4.out.1.more (by omega), HI4.out.2⟩
theorem newP_ok : PoolP newP := poolOk_iff.1 (by kernel_rfl)
theorem isTerm_c (t : Int) (w : World) : Calls Tryz.prog 47 #[.int .i64 t] w (Same (.bool (inR t 0 99)) w) := by
 go_enter Tryz.func47, Tryz.ntmps47
 go_wp2_with (go_at_call 81; refine (within_c t 0 99 _).mono ?_; rintro e w' ⟨rfl, rfl⟩)
 go_ret
 exact ⟨rfl, rfl⟩
theorem areOps_c {w : World} {A : Option Addr} {c : Nat} {os : List Op} (hC : kOp.C w A os.length os) (ho : SmallOs os) :
    Calls Tryz.prog 48 #[.slice A os.length c] w (Ret (.bool (runB newP os && decide (os.length ≤ 20))) w) := by
  have HC := Lib.hid hC
  have HO := Lib.hid ho
  have hl := ho.len
  obtain ⟨b, hb⟩ : ∃ b, runB newP os = b := ⟨_, rfl⟩
  obtain ⟨d, hd⟩ : ∃ d, decide (os.length ≤ 20) = d := ⟨_, rfl⟩
  have hdi : decide ((os.length : Int) ≤ 20) = d := by rw [← hd]; congr 1; exact propext ⟨fun h => by omega, fun h => by omega⟩
  rw [hb, hd]
  have HRB := Lib.hid hb
  clear hC ho hd hb
  go_enter Tryz.func48, Tryz.ntmps48
  go_wp2_with fail
  refine (implPoolNew_c _).mono ?_
  rintro e w1 ⟨v0, v1, bvs, rfl, hp, hb1⟩
  obtain ⟨A0, A1, c0, c1, rfl, rfl, hpi⟩ := hp.reads
  clear hpi
  go_wp2_with fail
  refine (doAll_c hp.inn newP_ok.small (Kd.C_below HC.out hb1) HO.out).mono ?_
  rw [HRB.out]
  generalize runV newP os = q
  rintro e w2 ⟨u0, u1, bu, rfl, hu, hb2⟩
  obtain ⟨E0, E1, k0, k1, rfl, rfl, hpi⟩ := hu.reads
  have HB := Lib.hid (hb1.tr hb2)
  clear hpi hu hp hb1 hb2
  cases b <;>
    (go_wp2
     go_ret
     exact ⟨rfl, bel_alloc HB.out _⟩)
def NV (n : Node) (A : Option Addr) (c : Nat) : Value := .agg #[.bool n.up, .int .i64 n.term, .bool n.leads, .bool n.alone, .slice A n.ops.length c]
theorem implNodeOk_c {w : World} {A : Option Addr} {c : Nat} {n : Node} (hC : kOp.C w A n.ops.length n.ops) (ho : SmallOs n.ops) :
    Calls Tryz.prog 18 #[.agg #[.bool n.up, .int .i64 n.term, .bool n.leads, .bool n.alone, .slice A n.ops.length c]] w (Ret (.bool (nodeOk n)) w) := by
  obtain ⟨up, term, leads, alone, os⟩ := n
  unfold nodeOk
  simp only at hC ho ⊢
  have HC := Lib.hid hC
  have HO := Lib.hid ho
  clear hC ho
  obtain ⟨t, ht⟩ : ∃ t, inR term 0 99 = t := ⟨_, rfl⟩
  obtain ⟨b, hb⟩ : ∃ b, (runB newP os && decide (os.length ≤ 20)) = b := ⟨_, rfl⟩
  rw [ht, hb]
  have HT := Lib.hid ht
  have HB := Lib.hid hb
  clear ht hb
  have hA : ∀ W : World, Bel w W → Calls Tryz.prog 48 #[.slice A os.length c] W (Ret (.bool b) W) := fun W h => HB.out ▸ areOps_c (Kd.C_below HC.out h) HO.out
  have hI : ∀ W : World, Calls Tryz.prog 47 #[.int .i64 term] W (Same (.bool t) W) := fun W => HT.out ▸ isTerm_c term W
  have HA := Lib.hid hA
  have HI := Lib.hid hI
  clear hA hI
  go_enter Tryz.func18, Tryz.ntmps18
  cases t <;> cases leads <;> cases alone <;> cases b <;>
    (go_wp2_with (first | (go_at_call 47; refine (HI.out _).mono ?_; rintro e w' ⟨rfl, rfl⟩) | (go_at_call 48; refine (HA.out _ (bel_alloc (Below.refl _ _) _)).mono ?_; rintro e w3 ⟨rfl, hb3⟩))
     go_ret
     first | exact ⟨rfl, bel_alloc (Below.refl _ _) _⟩ | exact ⟨rfl, (bel_alloc (Below.refl _ _) _ : Bel w _).tr hb3⟩)
open Go.RowKit Go.Proofs.YtljfoglilggkjaaGreatW.PrintWords
def MadeNd (w : World) (n : Node) (e : Ending) (w' : World) : Prop := ∃ v, e = .returned (.agg #[.bool n.up, .int .i64 n.term, .bool n.leads, .bool n.alone, v]) ∧ OwnO w' w.heap.size v n.ops ∧ Bel w w'
theorem OwnO.far {w : World} {base : Nat} {v : Value} {s : List Op} (h : OwnO w base v s) {b : Nat} {cs : Array Value} {t : TypeId} (hB : Blk w b cs t) (ht : 27 ≠ t) (i : Nat) (u : Value) : OwnO (w.setCell ⟨b, i, none⟩ u) base v s :=
 own_setCell (p := ⟨b, i, none⟩) h (own_ne h hB ht) u
open Go.RowKit Go.Proofs.YtljfoglilggkjaaGreatW.PrintWords Go.Proofs.YtljfoglilggkjaaGreatW.PrintLast
def MadeL (w : World) (l : Log) (e : Ending) (w' : World) : Prop := ∃ (A B C : Option Addr) (a b c : Nat) (bvs : List Value), e = .returned (.agg #[.slice A l.base.slots.length a, .slice B l.base.vols.length b, .slice C l.ops.length c, .int .i64 l.safe]) ∧ OwnP w' w.heap.size (.slice A l.base.slots.length a) (.slice B l.base.vols.length b) l.base bvs ∧ OwnO w' w.heap.size (.slice C l.ops.length c) l.ops ∧ Bel w w'
theorem OwnO.innC {w : World} {base n c : Nat} {C : Option Addr} {s : List Op} (h : OwnO w base (.slice C n c) s) (hn : n = s.length) : s.length ≤ c ∧ kOp.C w C s.length s := by
 subst hn
 obtain ⟨A, k, e, hk, hC⟩ := h.reads
 have e := slice_eq e
 obtain ⟨rfl, -, rfl⟩ := e
 exact ⟨hk, hC⟩
theorem MadeL.new {w : World} {l : Log} {e : Ending} {w' : World} (h : MadeL w l e w') : NewL w l e w' := by
 obtain ⟨A, B, C, a, b, c, bvs, rfl, hp, ho, hb⟩ := h
 have h1 := ho.innC rfl
 exact ⟨A, B, C, a, b, c, rfl, ⟨hp.inn, h1.2, h1.1⟩, hb⟩
abbrev wset4 (W : World) (b : Nat) (u0 u1 u2 u3 : Value) : World := (((W.setCell ⟨b, 0, none⟩ u0).setCell ⟨b, 1, none⟩ u1).setCell ⟨b, 2, none⟩ u2).setCell ⟨b, 3, none⟩ u3
theorem OwnP.far4 {W : World} {base b : Nat} {v0 v1 : Value} {p : Pool} {bvs : List Value} (h : OwnP W base v0 v1 p bvs) {x0 x1 x2 x3 : Value} (hB : Blk W b #[x0, x1, x2, x3] 50) (u0 u1 u2 u3 : Value) : OwnP (wset4 W b u0 u1 u2 u3) base v0 v1 p bvs := by
 have h1 := hB.set 0 u0 (cs' := #[u0, x1, x2, x3]) rfl
 have h2 := h1.set 1 u1 (cs' := #[u0, u1, x2, x3]) rfl
 have h3 := h2.set 2 u2 (cs' := #[u0, u1, u2, x3]) rfl
 exact (((h.far hB (by decide) (by decide) (by decide) 0 u0).far h1 (by decide) (by decide) (by decide) 1 u1).far h2 (by decide) (by decide) (by decide) 2 u2).far h3 (by decide) (by decide) (by decide) 3 u3
theorem OwnO.far4 {W : World} {base b : Nat} {v : Value} {s : List Op} (h : OwnO W base v s) {x0 x1 x2 x3 : Value} (hB : Blk W b #[x0, x1, x2, x3] 50) (u0 u1 u2 u3 : Value) : OwnO (wset4 W b u0 u1 u2 u3) base v s := by
 have h1 := hB.set 0 u0 (cs' := #[u0, x1, x2, x3]) rfl
 have h2 := h1.set 1 u1 (cs' := #[u0, u1, x2, x3]) rfl
 have h3 := h2.set 2 u2 (cs' := #[u0, u1, u2, x3]) rfl
 exact (((h.far hB (by decide) 0 u0).far h1 (by decide) 1 u1).far h2 (by decide) 2 u2).far h3 (by decide) 3 u3
section
variable {w : World} {A B C : Option Addr} {a b c : Nat} {l : Log}
theorem implLogOk_c (h : LogIn w A B C a b c l) (hs : SmallL l) :
    Calls Tryz.prog 55 #[.agg #[.slice A l.base.slots.length a, .slice B l.base.vols.length b, .slice C l.ops.length c, .int .i64 l.safe]] w (Ret (.bool (logOk l)) w) := by
  have HI := Lib.hid h
  have HS := Lib.hid hs
  have hl := hs.ops.len
  obtain ⟨r, hr⟩ : ∃ r, runB l.base l.ops = r := ⟨_, rfl⟩
  obtain ⟨d, hd⟩ : ∃ d, decide (l.ops.length ≤ 20) = d := ⟨_, rfl⟩
  obtain ⟨t, ht⟩ : ∃ t, inR l.safe 0 l.ops.length = t := ⟨_, rfl⟩
  have hdi : decide ((l.ops.length : Int) ≤ 20) = d := by rw [← hd]; congr 1; exact propext ⟨fun h => by omega, fun h => by omega⟩
  unfold logOk
  rw [hr, hd, ht]
  have HR := Lib.hid hr
  have HT := Lib.hid (fun W : World => (ht ▸ within_c l.safe 0 l.ops.length W : Calls Tryz.prog 81 #[.int .i64 l.safe, .int .i64 0, .int .i64 l.ops.length] W (Same (.bool t) W)))
  clear h hs hr hd ht
  go_enter Tryz.func55, Tryz.ntmps55
  go_wp2_with fail
  have hV := LVar.new HI.out
  have hW : Bel w (w.alloc (.cells #[.slice A l.base.slots.length a, .slice B l.base.vols.length b, .slice C l.ops.length c, .int .i64 l.safe] 50)) := bel_alloc (Below.refl _ _) _
  generalize w.alloc (.cells #[.slice A l.base.slots.length a, .slice B l.base.vols.length b, .slice C l.ops.length c, .int .i64 l.safe] 50) = W0 at hV hW ⊢
  refine (doAll_c hV.inn.p HS.out.base hV.inn.o HS.out.ops).mono ?_
  rw [HR.out]
  generalize runV l.base l.ops = q
  rintro e w2 ⟨u0, u1, bu, rfl, hu, hb2⟩
  obtain ⟨E0, E1, k0, k1, rfl, rfl, hpi⟩ := hu.reads
  have HB := Lib.hid (hW.tr hb2)
  have q2 := (hV.bel hb2).c2
  have q3 := (hV.bel hb2).c3
  have y := (hV.bel hb2).lt
  clear hpi hu hV hb2 hW
  cases r <;> cases d <;> cases t <;>
    (go_wp2_with (go_at_call 81; refine (HT.out _).mono ?_; rintro e w' ⟨rfl, rfl⟩)
     go_ret
     exact ⟨rfl, bel_alloc HB.out _⟩)
theorem implLogRun_c (h : LogIn w A B C a b c l) (hs : SmallL l) :
  Calls Tryz.prog 56 #[.agg #[.slice A l.base.slots.length a, .slice B l.base.vols.length b, .slice C l.ops.length c, .int .i64 l.safe]] w (MadeP w (runV l.base l.ops)) := by
 have HI := Lib.hid h
 obtain ⟨q, hq⟩ : ∃ q, runV l.base l.ops = q := ⟨_, rfl⟩
 rw [hq]
 have HQ := Lib.hid hq
 clear hq
 have HS := Lib.hid hs
 clear h hs
 go_enter Tryz.func56, Tryz.ntmps56
 go_wp2_with fail
 have hV := (LVar.new HI.out).bel (bel_alloc (Below.refl _ _) (.cells #[.slice none 0 0, .slice none 0 0] 44))
 have hR : Blk ((w.alloc (.cells #[.slice A l.base.slots.length a, .slice B l.base.vols.length b, .slice C l.ops.length c, .int .i64 l.safe] 50)).alloc (.cells #[.slice none 0 0, .slice none 0 0] 44)) (w.heap.size + 1) #[.slice none 0 0, .slice none 0 0] 44 := Blk.nw2 _ _ _ _
 have hW : Bel w ((w.alloc (.cells #[.slice A l.base.slots.length a, .slice B l.base.vols.length b, .slice C l.ops.length c, .int .i64 l.safe] 50)).alloc (.cells #[.slice none 0 0, .slice none 0 0] 44)) := bel_alloc (bel_alloc (Below.refl _ _) _) _
 generalize ((w.alloc (.cells #[.slice A l.base.slots.length a, .slice B l.base.vols.length b, .slice C l.ops.length c, .int .i64 l.safe] 50)).alloc (.cells #[.slice none 0 0, .slice none 0 0] 44)) = W0 at hV hR hW ⊢
 refine (doAll_c hV.inn.p HS.out.base hV.inn.o HS.out.ops).mono ?_
 rw [HQ.out]
 generalize runB l.base l.ops = r
 rintro e w2 ⟨u0, u1, bu, rfl, hu, hb2⟩
 obtain ⟨E0, E1, k0, k1, rfl, rfl, hpi⟩ := hu.reads
 have HR := Lib.hid (hR.bel hb2)
 have HB := Lib.hid (hW.tr hb2)
 have HU := Lib.hid (hu.lower hW.size)
 obtain ⟨r0, r1, f0, f1, y⟩ := k2f HR.out
 clear hpi hu hV hR hb2 hW
 go_wp2
 have hR1 := HR.out.set 0 (.slice E0 q.slots.length k0) (cs' := #[.slice E0 q.slots.length k0, .slice none 0 0]) rfl
 have hR2 := hR1.set 1 (.slice E1 q.vols.length k1) (cs' := #[.slice E0 q.slots.length k0, .slice E1 q.vols.length k1]) rfl
 have hu2 := (HU.out.far HR.out (by decide) (by decide) (by decide) 0 (.slice E0 q.slots.length k0)).far hR1 (by decide) (by decide) (by decide) 1 (.slice E1 q.vols.length k1)
 have hb3 := bel_set (bel_set HB.out (Nat.le_succ _) 0 (.slice E0 q.slots.length k0)) (Nat.le_succ _) 1 (.slice E1 q.vols.length k1)
 refine bodyPost_ret (results_cell_row rfl _ _ (w.heap.size + 1) 44 #[.slice E0 q.slots.length k0, .slice E1 q.vols.length k1] (0, 0) _ rfl (hR2.alloc _) Tryz.underlying44 rfl (by kernel_rfl)) rfl ?_
 exact ⟨_, _, bu, rfl, hu2.bel (bel_alloc (Below.refl _ _) _), bel_alloc hb3 _⟩
theorem poolF_no (h : logOk l = false) : poolF l = noP := by unfold poolF; rw [h]; rfl
theorem poolF_yes (h : logOk l = true) : poolF l = runV l.base l.ops := by unfold poolF; rw [h]; rfl
theorem implLogPool_c (h : LogIn w A B C a b c l) (hs : SmallL l) :
  Calls Tryz.prog 26 #[.agg #[.slice A l.base.slots.length a, .slice B l.base.vols.length b, .slice C l.ops.length c, .int .i64 l.safe]] w (MadeP w (poolF l)) := by
 have HI := Lib.hid h
 obtain ⟨q, hpf⟩ : ∃ q, poolF l = q := ⟨_, rfl⟩
 rw [hpf]
 have HPF := Lib.hid hpf
 clear hpf
 have HS := Lib.hid hs
 clear h hs
 go_enter Tryz.func26, Tryz.ntmps26
 go_wp2_with fail
 have hV := (LVar.new HI.out).bel (bel_alloc (Below.refl _ _) (.cells #[.slice none 0 0, .slice none 0 0] 44))
 have hR : Blk ((w.alloc (.cells #[.slice A l.base.slots.length a, .slice B l.base.vols.length b, .slice C l.ops.length c, .int .i64 l.safe] 50)).alloc (.cells #[.slice none 0 0, .slice none 0 0] 44)) (w.heap.size + 1) #[.slice none 0 0, .slice none 0 0] 44 := Blk.nw2 _ _ _ _
 have hW : Bel w ((w.alloc (.cells #[.slice A l.base.slots.length a, .slice B l.base.vols.length b, .slice C l.ops.length c, .int .i64 l.safe] 50)).alloc (.cells #[.slice none 0 0, .slice none 0 0] 44)) := bel_alloc (bel_alloc (Below.refl _ _) _) _
 generalize ((w.alloc (.cells #[.slice A l.base.slots.length a, .slice B l.base.vols.length b, .slice C l.ops.length c, .int .i64 l.safe] 50)).alloc (.cells #[.slice none 0 0, .slice none 0 0] 44)) = W0 at hV hR hW ⊢
 have HK := Lib.hid (implLogOk_c hV.inn HS.out)
 cases hok : logOk l with
 | false =>
  obtain rfl : noP = q := (poolF_no hok).symm.trans HPF.out
  rw [hok] at HK
  clear hok
  refine HK.out.mono ?_
  rintro e w1 ⟨rfl, hb1⟩
  have HR := Lib.hid (hR.bel hb1)
  have HB := Lib.hid (hW.tr hb1)
  obtain ⟨r0, r1, f0, f1, y⟩ := k2f HR.out
  clear hV hR hb1 hW
  go_wp2
  have hR2 := (HR.out.set 0 (.slice none 0 0) (cs' := #[.slice none 0 0, .slice none 0 0]) rfl).set 1 (.slice none 0 0) (cs' := #[.slice none 0 0, .slice none 0 0]) rfl
  refine bodyPost_ret (results_cell_row rfl _ _ (w.heap.size + 1) 44 #[.slice none 0 0, .slice none 0 0] (0, 0) _ rfl hR2 Tryz.underlying44 rfl (by kernel_rfl)) rfl ?_
  exact ⟨_, _, [], rfl, OwnP.none _ _, bel_set (bel_set HB.out (Nat.le_succ _) 0 (.slice none 0 0)) (Nat.le_succ _) 1 (.slice none 0 0)⟩
 | true =>
  have HQ := Lib.hid ((poolF_yes hok).symm.trans HPF.out)
  rw [hok] at HK
  clear hok
  refine HK.out.mono ?_
  rintro e w1 ⟨rfl, hb1⟩
  have KV := Lib.hid (hV.bel hb1)
  have KR := Lib.hid (hR.bel hb1)
  have KW := Lib.hid (hW.tr hb1)
  clear hV hR hb1 hW
  have q0 := KV.out.c0
  have q1 := KV.out.c1
  have q2 := KV.out.c2
  have q3 := KV.out.c3
  have y := KV.out.lt
  go_wp2_with fail
  refine (implLogRun_c KV.out.inn HS.out).mono ?_
  rw [HQ.out]
  clear q0 q1 q2 q3 y
  rintro e w2 ⟨u0, u1, bu, rfl, hu, hb2⟩
  obtain ⟨E0, E1, k0, k1, rfl, rfl, hpi⟩ := hu.reads
  have HR := Lib.hid (KR.out.bel hb2)
  have HB := Lib.hid (KW.out.tr hb2)
  have HU := Lib.hid (hu.lower KW.out.size)
  obtain ⟨r0, r1, f0, f1, y⟩ := k2f HR.out
  clear hpi hu hb2
  go_wp2
  have hR1 := HR.out.set 0 (.slice E0 q.slots.length k0) (cs' := #[.slice E0 q.slots.length k0, .slice none 0 0]) rfl
  have hR2 := hR1.set 1 (.slice E1 q.vols.length k1) (cs' := #[.slice E0 q.slots.length k0, .slice E1 q.vols.length k1]) rfl
  have hu2 := (HU.out.far HR.out (by decide) (by decide) (by decide) 0 (.slice E0 q.slots.length k0)).far hR1 (by decide) (by decide) (by decide) 1 (.slice E1 q.vols.length k1)
  have hb3 := bel_set (bel_set HB.out (Nat.le_succ _) 0 (.slice E0 q.slots.length k0)) (Nat.le_succ _) 1 (.slice E1 q.vols.length k1)
  refine bodyPost_ret (results_cell_row rfl _ _ (w.heap.size + 1) 44 #[.slice E0 q.slots.length k0, .slice E1 q.vols.length k1] (0, 0) _ rfl hR2 Tryz.underlying44 rfl (by kernel_rfl)) rfl ?_
  exact ⟨_, _, bu, rfl, hu2, hb3⟩
end
def RunsP (base : Nat) (p : Pool) (os : List Op) (w : World) (e : Ending) (w' : World) : Prop := ∃ (A0 A1 : Option Addr) (n0 n1 c0 c1 : Nat), e = .returned (.tuple #[.agg #[.slice A0 n0 c0, .slice A1 n1 c1], .bool (runP p os).isSome]) ∧ (∀ q, runP p os = some q → ∃ bq, OwnP w' base (.slice A0 n0 c0) (.slice A1 n1 c1) q bq) ∧ Fr base w w'
structure RunSt (base : Nat) (w W : World) (p : Pool) (v0 v1 : Value) (bvs : List Value) : Prop where
  pool : Blk W w.heap.size #[v0, v1] 44
  res : Blk W (w.heap.size + 1) #[.slice none 0 0, .slice none 0 0] 44
  own : OwnP W base v0 v1 p bvs
  fr : Fr base w W
theorem Fr.refl (base : Nat) (w : World) : Fr base w w := ⟨Below.refl _ _, fun _ _ _ _ _ _ h => h⟩
theorem Fr.pool {base : Nat} {w W : World} (h : Fr base w W) {b : Nat} {cs : Array Value} (hB : Blk w b cs 44) : Blk W b cs 44 := h.k b cs _ (by decide) (by decide) (by decide) hB
theorem RunSt.of {base : Nat} {w W : World} {q : Pool} {x0 x1 u0 u1 : Value} {bq : List Value} (hB : Blk W w.heap.size #[x0, x1] 44) (hR : Blk W (w.heap.size + 1) #[.slice none 0 0, .slice none 0 0] 44) (ho : OwnP W base u0 u1 q bq) (hf : Fr base w W) (hbase : base ≤ w.heap.size) :
  RunSt base w ((W.setCell ⟨w.heap.size, 0, none⟩ u0).setCell ⟨w.heap.size, 1, none⟩ u1) q u0 u1 bq := by
 have h1 := hB.set 0 u0 (cs' := #[u0, x1]) rfl
 exact ⟨h1.set 1 u1 rfl, (hR.apart (by omega) 0 u0).apart (by omega) 1 u1, (ho.far hB (by decide) (by decide) (by decide) 0 u0).far h1 (by decide) (by decide) (by decide) 1 u1, (hf.set (Nat.le_refl _) hbase 0 u0).set (Nat.le_refl _) hbase 1 u1⟩
theorem l13Run_c {w0 w : World} {base : Nat} {v0 v1 : Value} {bvs : List Value} {p : Pool} {os : List Op} {A2 : Option Addr} {c2 : Nat} (h : OwnP w base v0 v1 p bvs) (hp : PoolP p) (hbase : base ≤ w.heap.size) (hC : kOp.C w0 A2 os.length os) (h0 : w0.heap.size ≤ base) (hb0 : Below base w0 w) (ho : SmallOs os) :
  Calls Tryz.prog 50 #[.agg #[v0, v1], .slice A2 os.length c2] w (RunsP base p os w) := by
 obtain ⟨A0, A1, c0, c1, rfl, rfl, hpi⟩ := h.reads
 clear hpi
 have HV := Lib.hid hp
 have HO := Lib.hid ho
 have hl := ho.len
 have HC := Lib.hid (fun (W : World) (hW : Fr base w W) => Kd.C_below hC ((hb0.trans hW.b).mono h0))
 have HB := Lib.hid hbase
 have HW := Lib.hid h
 clear hp ho hC h0 hb0 hbase h
 go_enter Tryz.func50, Tryz.ntmps50
 go_wp2
 have hst : RunSt base w ((w.alloc (.cells #[.slice A0 p.slots.length c0, .slice A1 p.vols.length c1] 44)).alloc (.cells #[.slice none 0 0, .slice none 0 0] 44)) p (.slice A0 p.slots.length c0) (.slice A1 p.vols.length c1) bvs := by
  have hb : Bel w ((w.alloc (.cells #[.slice A0 p.slots.length c0, .slice A1 p.vols.length c1] 44)).alloc (.cells #[.slice none 0 0, .slice none 0 0] 44)) := bel_alloc (bel_alloc (Below.refl _ _) _) _
  exact ⟨(Blk.new _ _ _).alloc _, Blk.nw2 _ _ _ _, HW.out.bel hb, Fr.ofBel hb HB.out⟩
 have HST := Lib.hid hst
 clear hst HW
 generalize ((w.alloc (.cells #[.slice A0 p.slots.length c0, .slice A1 p.vols.length c1] 44)).alloc (.cells #[.slice none 0 0, .slice none 0 0] 44)) = W0 at HST ⊢
 go_loopg [6] os.length (fun g v6 W => ∃ (j : Nat) (q : Pool) (B0 B1 : Option Addr) (d0 d1 : Nat) (bvs : List Value), g + j = os.length ∧ v6 = .int .i64 j ∧ Hid (runP p (os.take j) = some q) ∧ Hid (RunSt base w W q (.slice B0 q.slots.length d0) (.slice B1 q.vols.length d1) bvs))
 case atStart => exact ⟨0, p, A0, A1, c0, c1, bvs, rfl, rfl, rfl, HST.out⟩
 case round =>
  clear HST bvs
  obtain ⟨j, p1, B0, B1, d0, d1, bvs, hj, rfl, HR, HD⟩ := hrel
  have HQ := Lib.hid (runP_ok _ HV.out HR.out)
  by_cases hlt : j < os.length
  ·obtain ⟨o, hx⟩ := getQ hlt
   have HX := Lib.hid hx
   have hnm := Lib.hid (HO.out.op o (List.mem_of_getElem? hx))
   clear hx
   obtain ⟨ad, rfl, _⟩ := at_op (HC.out _ HD.out.fr) HX.out
   have hfx := Lib.hid (fun (W : World) (hW : Fr base wr W) => (show (W.cell? ⟨w.heap.size, 0, none⟩ = some (.slice B0 p1.slots.length d0) ∧ W.cell? ⟨w.heap.size, 1, none⟩ = some (.slice B1 p1.vols.length d1) ∧ W.cell? (ad.add (j * 5)) = some (.int .i64 o.kind) ∧ W.cell? ⟨(ad.add (j * 5)).block, (ad.add (j * 5)).off + 1, none⟩ = some (.string o.name) ∧ W.cell? ⟨(ad.add (j * 5)).block, (ad.add (j * 5)).off + 2, none⟩ = some (.string o.dest) ∧ W.cell? ⟨(ad.add (j * 5)).block, (ad.add (j * 5)).off + 3, none⟩ = some (.int .i64 o.n) ∧ W.cell? ⟨(ad.add (j * 5)).block, (ad.add (j * 5)).off + 4, none⟩ = some (.string o.text)) from by
    obtain ⟨ad', e, a⟩ := at_op (HC.out W (HD.out.fr.tr hW HB.out)) HX.out
    cases e
    exact ⟨by rw [(hW.pool HD.out.pool).cell]; rfl, by rw [(hW.pool HD.out.pool).cell]; rfl, a⟩))
   have D0 := Lib.hid (show Fr base wr wr.drew from (Fr.refl base wr).drew)
   have hbr : base ≤ wr.heap.size := Nat.le_trans HB.out (by have := HD.out.pool.lt; omega)
   have HBR := Lib.hid hbr
   have P0 := Lib.hid (show OwnP wr.drew base (.slice B0 p1.slots.length d0) (.slice B1 p1.vols.length d1) p1 bvs from HD.out.own.bel (Below.refl _ _).drew)
   obtain ⟨q, hq⟩ : ∃ q, (opF p1 o).getD p1 = q := ⟨_, rfl⟩
   obtain ⟨ok, hokk⟩ : ∃ ok, (opF p1 o).isSome = ok := ⟨_, rfl⟩
   have hdo := Lib.hid (fun (W : World) (h : OwnP W base (.slice B0 p1.slots.length d0) (.slice B1 p1.vols.length d1) p1 bvs) (hb : base ≤ W.heap.size) => l12Do_c (o := o) h HQ.out hb hnm.out)
   unfold TurnsP at hdo
   rw [hq, hokk] at hdo
   have HE := Lib.hid (And.intro hq hokk)
   clear hq hokk hbr
   obtain ⟨s0, s1, s2, s3, s4, s5, s6⟩ := hfx.out _ D0.out
   go_wp2
   refine start_ (n := 12) (S := fun w' => w'.cell? ⟨w.heap.size, 0, none⟩ = some (.slice B0 p1.slots.length d0) ∧ w'.cell? ⟨w.heap.size, 1, none⟩ = some (.slice B1 p1.vols.length d1) ∧ w'.cell? (ad.add (j * 5)) = some (.int .i64 o.kind) ∧ w'.cell? ⟨(ad.add (j * 5)).block, (ad.add (j * 5)).off + 1, none⟩ = some (.string o.name) ∧ w'.cell? ⟨(ad.add (j * 5)).block, (ad.add (j * 5)).off + 2, none⟩ = some (.string o.dest) ∧ w'.cell? ⟨(ad.add (j * 5)).block, (ad.add (j * 5)).off + 3, none⟩ = some (.int .i64 o.n) ∧ w'.cell? ⟨(ad.add (j * 5)).block, (ad.add (j * 5)).off + 4, none⟩ = some (.string o.text)) (ds := [10]) #[F, F, F, F, F, F, F, F, F, F, F, F] (by kernel_rfl) rfl rfl ⟨s0, s1, s2, s3, s4, s5, s6⟩ (fun hHeld => ?_)
   refine py 1 (some 17) #[F, T, F, F, F, F, F, F, F, F, F, F] ?_
   refine py 2 (some 18) #[F, T, T, F, F, F, F, F, F, F, F, F] ?_
   refine py 3 (some 19) #[F, T, T, T, F, F, F, F, F, F, F, F] ?_
   refine ty 0 (some 16) #[T, T, T, T, F, F, F, F, F, F, F, F] (hS := hHeld) (hz := by rintro w' ⟨s0, s1, s2, s3, s4, s5, s6⟩; go_simp; with_reducible rfl) (h := ?_)
   refine ty 4 (some 20) #[T, T, T, T, T, F, F, F, F, F, F, F] (hS := hHeld) (hz := by rintro w' ⟨s0, s1, s2, s3, s4, s5, s6⟩; go_simp; with_reducible rfl) (h := ?_)
   refine join_ (σ := Option Addr × Nat × Option Addr × Nat × List Value × Nat) 2 #[T, T, T, T, T, T, T, T, T, T, F, F] (fun s => [(21, .tuple #[.agg #[.slice s.1 q.slots.length s.2.1, .slice s.2.2.1 q.vols.length s.2.2.2.1], .bool ok]), (15, .tuple #[.agg #[.slice s.1 q.slots.length s.2.1, .slice s.2.2.1 q.vols.length s.2.2.2.1], .bool ok]), (22, .agg #[.slice s.1 q.slots.length s.2.1, .slice s.2.2.1 q.vols.length s.2.2.2.1]), (23, .bool ok), (7, .pointer (some ⟨s.2.2.2.2.2, 0, none⟩))]) (fun s w' => (w'.cell? ⟨w.heap.size, 0, none⟩ = some (.slice B0 p1.slots.length d0) ∧ w'.cell? ⟨w.heap.size, 1, none⟩ = some (.slice B1 p1.vols.length d1) ∧ w'.cell? (ad.add (j * 5)) = some (.int .i64 o.kind) ∧ w'.cell? ⟨(ad.add (j * 5)).block, (ad.add (j * 5)).off + 1, none⟩ = some (.string o.name) ∧ w'.cell? ⟨(ad.add (j * 5)).block, (ad.add (j * 5)).off + 2, none⟩ = some (.string o.dest) ∧ w'.cell? ⟨(ad.add (j * 5)).block, (ad.add (j * 5)).off + 3, none⟩ = some (.int .i64 o.n) ∧ w'.cell? ⟨(ad.add (j * 5)).block, (ad.add (j * 5)).off + 4, none⟩ = some (.string o.text)) ∧ OwnP w' base (.slice s.1 q.slots.length s.2.1) (.slice s.2.2.1 q.vols.length s.2.2.2.1) q s.2.2.2.2.1 ∧ Blk w' s.2.2.2.2.2 #[.slice none 0 0, .slice none 0 0] 44 ∧ w.heap.size + 1 < s.2.2.2.2.2 ∧ Fr base wr w') ?_ ?_
   rotate_left
   ·intro hCont
    refine two_ (i := 5) (j := 9) (Ni := some 21) (Nj := some 7) #[T, T, T, T, T, T, F, F, F, F, F, F] #[T, T, T, T, T, F, F, F, F, T, F, F] rfl rfl rfl rfl (by kernel_rfl) (by decide) (by decide) (fun K hK => ?_) (fun K hK => ?_)
    ·skip
     refine gox Tryz.func86 #[.agg #[.slice B0 p1.slots.length d0, .slice B1 p1.vols.length d1], .agg #[.int .i64 o.kind, .string o.name, .string o.dest, .int .i64 o.n, .string o.text]] ?_
     with_reducible refine (hdo.out _ P0.out (Nat.le_trans HBR.out D0.out.b.size)).mono ?_
     rintro e w1_ ⟨vc, vd, bvc, rfl, ho, X1⟩
     have D1 : Hid (Fr base wr w1_) := Lib.hid (D0.out.tr X1 HBR.out)
     have Q1 := Lib.hid ho
     obtain ⟨A2, A3, k2, k3, rfl, rfl, hpi⟩ := ho.reads
     clear ho hpi
     refine ⟨_, rfl, ?_⟩
     refine hK.out _ _ ⟨(hfx.out _ D1.out).1, (hfx.out _ D1.out).2.1, (hfx.out _ D1.out).2.2.1, (hfx.out _ D1.out).2.2.2.1, (hfx.out _ D1.out).2.2.2.2.1, (hfx.out _ D1.out).2.2.2.2.2.1, (hfx.out _ D1.out).2.2.2.2.2.2⟩ (fun hHeld => ?_)
     clear hK K
     refine nox 21 (h := ?_)
     refine py 6 (some 15) #[T, T, T, T, T, T, T, F, F, F, F, F] ?_
     refine py 7 (some 22) #[T, T, T, T, T, T, T, T, F, F, F, F] ?_
     refine py 8 (some 23) #[T, T, T, T, T, T, T, T, T, F, F, F] ?_
     refine ox 9 (some 7) #[T, T, T, T, T, T, T, T, T, T, F, F] fun K hK => ?_
     refine vx ?_
     have D2 : Hid (Fr base wr (w1_.alloc (.cells #[.slice none 0 0, .slice none 0 0] 44))) := Lib.hid (Fr.bel D1.out (bel_alloc (Below.refl _ _) (.cells #[.slice none 0 0, .slice none 0 0] 44)) HBR.out)
     have Q2 := Lib.hid (OwnP.bel Q1.out (bel_alloc (Below.refl _ _) (.cells #[.slice none 0 0, .slice none 0 0] 44)))
     have O2 : Hid (Blk (w1_.alloc (.cells #[.slice none 0 0, .slice none 0 0] 44)) w1_.heap.size #[.slice none 0 0, .slice none 0 0] 44) := Lib.hid (Blk.new w1_ #[.slice none 0 0, .slice none 0 0] 44)
     have L2 : w.heap.size + 1 < w1_.heap.size := (D1.out.pool HD.out.res).lt
     refine hK.out _ _ ⟨(hfx.out _ D2.out).1, (hfx.out _ D2.out).2.1, (hfx.out _ D2.out).2.2.1, (hfx.out _ D2.out).2.2.2.1, (hfx.out _ D2.out).2.2.2.2.1, (hfx.out _ D2.out).2.2.2.2.2.1, (hfx.out _ D2.out).2.2.2.2.2.2⟩ (fun hHeld => ?_)
     clear hK K
     refine nox 7 (h := ?_)
     exact nof (hCont (A2, k2, A3, k3, bvc, w1_.heap.size) _ ⟨hHeld, Q2.out, O2.out, L2, D2.out⟩)
    ·skip
     refine vx ?_
     have D1 : Hid (Fr base wr (wr.alloc (.cells #[.slice none 0 0, .slice none 0 0] 44)).drew) := Lib.hid (Fr.bel D0.out (bel_alloc (Below.refl _ _) (.cells #[.slice none 0 0, .slice none 0 0] 44)) HBR.out)
     have P1 : Hid (OwnP (wr.alloc (.cells #[.slice none 0 0, .slice none 0 0] 44)).drew base (.slice B0 p1.slots.length d0) (.slice B1 p1.vols.length d1) p1 bvs) := Lib.hid (OwnP.bel P0.out (bel_alloc (Below.refl _ _) (.cells #[.slice none 0 0, .slice none 0 0] 44)))
     have O1 : Hid (Blk (wr.alloc (.cells #[.slice none 0 0, .slice none 0 0] 44)).drew wr.drew.heap.size #[.slice none 0 0, .slice none 0 0] 44) := Lib.hid (Blk.new wr.drew #[.slice none 0 0, .slice none 0 0] 44)
     have L1 : w.heap.size + 1 < wr.drew.heap.size := HD.out.res.lt
     refine hK.out _ _ ⟨(hfx.out _ D1.out).1, (hfx.out _ D1.out).2.1, (hfx.out _ D1.out).2.2.1, (hfx.out _ D1.out).2.2.2.1, (hfx.out _ D1.out).2.2.2.2.1, (hfx.out _ D1.out).2.2.2.2.2.1, (hfx.out _ D1.out).2.2.2.2.2.2⟩ (fun hHeld => ?_)
     clear hK K
     refine nox 7 (h := ?_)
     refine ox 5 (some 21) #[T, T, T, T, T, T, F, F, F, T, F, F] fun K hK => ?_
     refine gox Tryz.func86 #[.agg #[.slice B0 p1.slots.length d0, .slice B1 p1.vols.length d1], .agg #[.int .i64 o.kind, .string o.name, .string o.dest, .int .i64 o.n, .string o.text]] ?_
     with_reducible refine (hdo.out _ P1.out (Nat.le_trans HBR.out D1.out.b.size)).mono ?_
     rintro e w2_ ⟨vc, vd, bvc, rfl, ho, X2⟩
     have D2 : Hid (Fr base wr w2_) := Lib.hid (D1.out.tr X2 HBR.out)
     have O2 := Lib.hid (X2.k _ _ _ (by decide) (by decide) (by decide) O1.out)
     have Q2 := Lib.hid ho
     obtain ⟨A2, A3, k2, k3, rfl, rfl, hpi⟩ := ho.reads
     clear ho hpi
     refine ⟨_, rfl, ?_⟩
     refine hK.out _ _ ⟨(hfx.out _ D2.out).1, (hfx.out _ D2.out).2.1, (hfx.out _ D2.out).2.2.1, (hfx.out _ D2.out).2.2.2.1, (hfx.out _ D2.out).2.2.2.2.1, (hfx.out _ D2.out).2.2.2.2.2.1, (hfx.out _ D2.out).2.2.2.2.2.2⟩ (fun hHeld => ?_)
     clear hK K
     refine nox 21 (h := ?_)
     refine py 6 (some 15) #[T, T, T, T, T, T, T, F, F, T, F, F] ?_
     refine py 7 (some 22) #[T, T, T, T, T, T, T, T, F, T, F, F] ?_
     refine py 8 (some 23) #[T, T, T, T, T, T, T, T, T, T, F, F] ?_
     exact nof (hCont (A2, k2, A3, k3, bvc, wr.heap.size) _ ⟨hHeld, Q2.out, O2.out, L1, D2.out⟩)
   rintro ⟨A2, k2, A3, k3, bvc, nb⟩ w3 ⟨hHeld, hQ, hO, hL, hD⟩
   dsimp only at hQ hO hL
   obtain ⟨r0, r1, f0, f1, -⟩ := k2f hO
   refine norm_ (a' := ?_) ?_ ?_
   rotate_left
   ·simp only [putAll, Act.put, lA, lB, lC]
    rfl
   refine lx 10 none #[T, T, T, T, T, T, T, T, T, T, T, F] fun K hK => ?_
   refine sx ?_
   refine hK.out _ _ ?_
   clear hK K
   refine py 11 (some 8) #[T, T, T, T, T, T, T, T, T, T, T, T] ?_
   refine done_ (by kernel_rfl) ?_
   have hO4 := hO.set 0 (.slice A2 q.slots.length k2) (cs' := #[.slice A2 q.slots.length k2, .slice none 0 0]) rfl
   have HO5 := Lib.hid (hO4.set 1 (.slice A3 q.vols.length k3) (cs' := #[.slice A2 q.slots.length k2, .slice A3 q.vols.length k3]) rfl)
   have HQ5 := Lib.hid ((hQ.far hO (by decide) (by decide) (by decide) 0 (.slice A2 q.slots.length k2)).far hO4 (by decide) (by decide) (by decide) 1 (.slice A3 q.vols.length k3))
   have HF5 := Lib.hid (((HD.out.fr.tr hD HB.out).set (b := nb) (by omega) HB.out 0 (.slice A2 q.slots.length k2)).set (b := nb) (by omega) HB.out 1 (.slice A3 q.vols.length k3))
   have HP5 := Lib.hid (((hD.pool HD.out.pool).apart (show nb ≠ w.heap.size by omega) 0 (.slice A2 q.slots.length k2)).apart (show nb ≠ w.heap.size by omega) 1 (.slice A3 q.vols.length k3))
   have HR5 := Lib.hid (((hD.pool HD.out.res).apart (show nb ≠ w.heap.size + 1 by omega) 0 (.slice A2 q.slots.length k2)).apart (show nb ≠ w.heap.size + 1 by omega) 1 (.slice A3 q.vols.length k3))
   clear hQ hO hO4 hD f0 f1 r0 r1 hHeld s0 s1 s2 s3 s4 s5 s6 hdo hfx D0 P0
   generalize ((w3.setCell ⟨nb, 0, none⟩ (.slice A2 q.slots.length k2)).setCell ⟨nb, 1, none⟩ (.slice A3 q.vols.length k3)) = W8 at HO5 HQ5 HF5 HP5 HR5 ⊢
   obtain ⟨ad', e, a0, a1, a2, a3, a4⟩ := at_op (HC.out W8 HF5.out) HX.out
   cases e
   go_wp2_with fail
   refine (specOpOk_c o hnm.out _).mono ?_
   rintro e w9 ⟨rfl, hb9⟩
   clear a0 a1 a2 a3 a4
   replace HO5 := Lib.hid (HO5.out.bel hb9)
   replace HQ5 := Lib.hid (HQ5.out.bel hb9)
   replace HF5 := Lib.hid (HF5.out.bel hb9 HB.out)
   replace HP5 := Lib.hid (HP5.out.bel hb9)
   replace HR5 := Lib.hid (HR5.out.bel hb9)
   clear hb9
   cases hok : opOk o with
   | false =>
    have HN := Lib.hid (show runP p os = none from runP_stop (k := j + 1) (by rw [runP_step HX.out HR.out]; unfold opR; rw [hok]; rfl))
    clear hok
    obtain ⟨q0, q1, y2⟩ := k2c HP5.out
    obtain ⟨r0, r1, f0, f1, y⟩ := k2f HR5.out
    go_wp2
    have hR1 := HR5.out.set 0 (.slice B0 p1.slots.length d0) (cs' := #[.slice B0 p1.slots.length d0, .slice none 0 0]) rfl
    have hR2 := hR1.set 1 (.slice B1 p1.vols.length d1) (cs' := #[.slice B0 p1.slots.length d0, .slice B1 p1.vols.length d1]) rfl
    refine bodyPost_ret (results_ct rfl _ _ (w.heap.size + 1) 44 #[.slice B0 p1.slots.length d0, .slice B1 p1.vols.length d1] (0, 0) _ rfl hR2 Tryz.underlying44 rfl (by kernel_rfl)) rfl ?_
    exact ⟨B0, B1, _, _, d0, d1, by rw [HN.out]; rfl, fun q h => (by rw [HN.out] at h; cases h), (HF5.out.set (Nat.le_succ _) HB.out 0 (.slice B0 p1.slots.length d0)).set (Nat.le_succ _) HB.out 1 (.slice B1 p1.vols.length d1)⟩
   | true =>
    cases ok with
    | false =>
     have HN := Lib.hid (show runP p os = none from runP_stop (k := j + 1) (by rw [runP_step HX.out HR.out]; unfold opR; rw [if_pos hok]; exact Option.isSome_eq_false_iff.1 HE.out.2 |> Option.isNone_iff_eq_none.1))
     clear hok
     obtain ⟨q0, q1, y2⟩ := k2c HP5.out
     obtain ⟨r0, r1, f0, f1, y⟩ := k2f HR5.out
     go_wp2
     have hR1 := HR5.out.set 0 (.slice B0 p1.slots.length d0) (cs' := #[.slice B0 p1.slots.length d0, .slice none 0 0]) rfl
     have hR2 := hR1.set 1 (.slice B1 p1.vols.length d1) (cs' := #[.slice B0 p1.slots.length d0, .slice B1 p1.vols.length d1]) rfl
     refine bodyPost_ret (results_ct rfl _ _ (w.heap.size + 1) 44 #[.slice B0 p1.slots.length d0, .slice B1 p1.vols.length d1] (0, 0) _ rfl hR2 Tryz.underlying44 rfl (by kernel_rfl)) rfl ?_
     exact ⟨B0, B1, _, _, d0, d1, by rw [HN.out]; rfl, fun q h => (by rw [HN.out] at h; cases h), (HF5.out.set (Nat.le_succ _) HB.out 0 (.slice B0 p1.slots.length d0)).set (Nat.le_succ _) HB.out 1 (.slice B1 p1.vols.length d1)⟩
    | true =>
     have HN := Lib.hid (show runP p (os.take (j + 1)) = some q by
      rw [runP_step HX.out HR.out]
      unfold opR
      rw [if_pos hok]
      obtain ⟨q', hq'⟩ := Option.isSome_iff_exists.1 HE.out.2
      have h1 := HE.out.1
      rw [hq'] at h1 ⊢
      exact congrArg some h1)
     clear hok
     have HD2 := Lib.hid (RunSt.of HP5.out HR5.out HQ5.out HF5.out HB.out)
     obtain ⟨q0, q1, f0, f1, y⟩ := k2f HP5.out
     have r0 := HO5.out.cell 0
     have r1 := HO5.out.cell 1
     simp at r0 r1
     go_wp2
     go_roundg (os.length - (j + 1))
     case measure => omega
     case rel => exact ⟨j + 1, q, A2, A3, k2, k3, bvc, by omega, by go_num, HN.out, HD2.out⟩
  ·have HE := Lib.hid (show runP p os = some p1 by have := HR.out; rwa [List.take_of_length_le (by omega)] at this)
   have q0 := HD.out.pool.cell 0
   have q1 := HD.out.pool.cell 1
   obtain ⟨r0, r1, f0, f1, y⟩ := k2f HD.out.res
   simp at q0 q1
   go_wp2
   have hR1 := HD.out.res.set 0 (.slice B0 p1.slots.length d0) (cs' := #[.slice B0 p1.slots.length d0, .slice none 0 0]) rfl
   have hR2 := hR1.set 1 (.slice B1 p1.vols.length d1) (cs' := #[.slice B0 p1.slots.length d0, .slice B1 p1.vols.length d1]) rfl
   refine bodyPost_ret (results_ct rfl _ _ (w.heap.size + 1) 44 #[.slice B0 p1.slots.length d0, .slice B1 p1.vols.length d1] (0, 0) _ rfl hR2 Tryz.underlying44 rfl (by kernel_rfl)) rfl ?_
   exact ⟨B0, B1, _, _, d0, d1, by rw [HE.out]; rfl, fun q h => (by rw [HE.out] at h; cases h; exact ⟨bvs, (HD.out.own.far HD.out.res (by decide) (by decide) (by decide) 0 (.slice B0 p1.slots.length d0)).far hR1 (by decide) (by decide) (by decide) 1 (.slice B1 p1.vols.length d1)⟩), (HD.out.fr.set (Nat.le_succ _) HB.out 0 (.slice B0 p1.slots.length d0)).set (Nat.le_succ _) HB.out 1 (.slice B1 p1.vols.length d1)⟩
section
variable {w : World} {A B C : Option Addr} {a b c : Nat} {l : Log}
def RunQ (r : Option Pool) (w : World) (base : Nat) (A2 : Option Addr) (n2 k2 : Nat) (A3 : Option Addr) (n3 k3 : Nat) : Prop := ∀ q, r = some q → ∃ bq, OwnP w base (.slice A2 n2 k2) (.slice A3 n3 k3) q bq
theorem RunQ.bel {r : Option Pool} {w w' : World} {base : Nat} {A2 A3 : Option Addr} {n2 k2 n3 k3 : Nat} (h : RunQ r w base A2 n2 k2 A3 n3 k3) (hb : Bel w w') : RunQ r w' base A2 n2 k2 A3 n3 k3 := fun q e => by
 obtain ⟨bq, h⟩ := h q e
 exact ⟨bq, h.bel hb⟩
end
def MadeLT (w : World) (l : Log) (e : Ending) (w' : World) : Prop := ∃ (v0 v1 v2 : Value) (bvs : List Value), e = .returned (.agg #[v0, v1, v2, .int .i64 l.safe]) ∧ OwnP w' w.heap.size v0 v1 l.base bvs ∧ OwnT w' w.heap.size v2 l.ops ∧ Bel w w'
theorem MadeLT.new {w : World} {l : Log} {e : Ending} {w' : World} (h : MadeLT w l e w') : NewL w l e w' := by
 obtain ⟨v0, v1, v2, bvs, rfl, hp, ho, hb⟩ := h
 obtain ⟨A, B, a, b, rfl, rfl, hi⟩ := hp.reads
 obtain ⟨C, c, rfl, hc, hC⟩ := ho.reads
 exact ⟨A, B, C, a, b, c, rfl, ⟨hi, hC, hc⟩, hb⟩
theorem OwnT.far {w : World} {base : Nat} {v : Value} {os : List Op} (h : OwnT w base v os) {b : Nat} {cs : Array Value} {t : TypeId} (hB : Blk w b cs t) (ht : 27 ≠ t) (i : Nat) (u : Value) : OwnT (w.setCell ⟨b, i, none⟩ u) base v os := by
 have hlt := hB.lt
 have hg : w.grownBy (w.setCell ⟨b, i, none⟩ u) (some b) := ⟨rfl, rfl, rfl, by simp, fun k hk hne => by
  have : b ≠ k := fun e => hne (by rw [e])
  simp [World.setCell, Array.getElem?_modify, this]⟩
 refine h.kept hg fun k hk e => ?_
 injection e with e
 subst e
 obtain ⟨_, _, cs', hc⟩ := h.base b hk
 have h2 := hB.symm.trans hc
 injection h2 with h2
 injection h2 with _ h2
 exact ht h2.symm
theorem OwnT.far4 {W : World} {base b : Nat} {v : Value} {os : List Op} (h : OwnT W base v os) {x0 x1 x2 x3 : Value} (hB : Blk W b #[x0, x1, x2, x3] 50) (u0 u1 u2 u3 : Value) : OwnT (wset4 W b u0 u1 u2 u3) base v os := by
 have h1 := hB.set 0 u0 (cs' := #[u0, x1, x2, x3]) rfl
 have h2 := h1.set 1 u1 (cs' := #[u0, u1, x2, x3]) rfl
 have h3 := h2.set 2 u2 (cs' := #[u0, u1, u2, x3]) rfl
 exact (((h.far hB (by decide) 0 u0).far h1 (by decide) 1 u1).far h2 (by decide) 2 u2).far h3 (by decide) 3 u3
section
variable {w : World} {A B C : Option Addr} {a b c : Nat} {l : Log}
end
section
variable {w : World} {A B C : Option Addr} {a b c : Nat} {l : Log}
end
theorem kOp_keep {w w' : World} {A : Option Addr} {n : Nat} {os : List Op} (h : kOp.C w A n os) (hb : Bel w w') : kOp.C w' A n os := Kd.C_below h hb
section
variable {w : World} {A B C : Option Addr} {a b c : Nat} {l : Log}
end
theorem specNodeOk_c {w : World} {A : Option Addr} {c : Nat} {n : Node} (hC : kOp.C w A n.ops.length n.ops) (ho : SmallOs n.ops) :
    Calls Tryz.prog 21 #[.agg #[.bool n.up, .int .i64 n.term, .bool n.leads, .bool n.alone, .slice A n.ops.length c]] w (Ret (.bool (nodeOk n)) w) := by
  obtain ⟨up, term, leads, alone, os⟩ := n
  unfold nodeOk
  simp only at hC ho ⊢
  have hl := ho.len
  have HC := Lib.hid hC
  have HO := Lib.hid ho
  clear hC ho
  obtain ⟨t, ht⟩ : ∃ t, inR term 0 99 = t := ⟨_, rfl⟩
  obtain ⟨d, hd⟩ : ∃ d, decide (os.length ≤ 20) = d := ⟨_, rfl⟩
  have hdi : decide (20 < (os.length : Int)) = !d := by rw [← hd]; by_cases h : os.length ≤ 20 <;> simp [h] <;> omega
  have hrb : runB newP os = (runP newP os).isSome := by unfold runB; rw [poolOk_iff.2 newP_ok]; rfl
  obtain ⟨b, hb⟩ : ∃ b, (runP newP os).isSome = b := ⟨_, rfl⟩
  rw [ht, hrb, hb, hd]
  have HT := Lib.hid ht
  have HB := Lib.hid hb
  clear ht hb hrb hd
  have HI := Lib.hid (fun W : World => (HT.out ▸ l6In_c term 0 99 W : Calls Tryz.prog 38 #[.int .i64 term, .int .i64 0, .int .i64 99] W (Same (.bool t) W)))
  go_enter Tryz.func21, Tryz.ntmps21
  by_cases hgo : t = true ∧ (alone = true → leads = true) ∧ d = true
  · obtain ⟨rfl, hal, rfl⟩ := hgo
    have hal2 : leads = true ∨ leads = false ∧ alone = false := by cases leads <;> cases alone <;> simp_all
    have hfin : (leads || !alone) = true := by cases leads <;> cases alone <;> simp_all
    rw [hfin]
    simp only [Bool.true_and, Bool.and_true]
    clear hal hfin
    rcases hal2 with rfl | ⟨rfl, rfl⟩
    · cases alone
      · skip
        have hN : Blk (w.alloc (.cells #[.bool up, .int .i64 term, .bool true, .bool false, .slice A os.length c] 25)) w.heap.size #[.bool up, .int .i64 term, .bool true, .bool false, .slice A os.length c] 25 := Blk.new _ _ _
        have hW : Bel w (w.alloc (.cells #[.bool up, .int .i64 term, .bool true, .bool false, .slice A os.length c] 25)) := bel_alloc (Below.refl _ _) _
        go_wp2_with (go_at_call 38; refine (HI.out _).mono ?_; rintro e w' ⟨rfl, rfl⟩)
        generalize w.alloc (.cells #[.bool up, .int .i64 term, .bool true, .bool false, .slice A os.length c] 25) = W1 at hN hW ⊢
        have hfx := Lib.hid (fun (W : World) (hb : Bel W1.drew W) => (show W.cell? ⟨w.heap.size, 4, none⟩ = some (.slice A os.length c) by rw [((hN.bel (Below.refl _ _).drew).bel hb).cell]; rfl))
        have HW := Lib.hid hW
        have hC1 : kOp.C W1.drew A os.length os := Kd.C_below HC.out (hW.tr (Below.refl _ _).drew)
        have hrun := Lib.hid (fun (W : World) (v0 v1 : Value) (bvs : List Value) (h : OwnP W W1.drew.heap.size v0 v1 newP bvs) (hb : Bel W1.drew W) => l13Run_c (c2 := c) h newP_ok (Below.size hb) hC1 (Nat.le_refl _) hb HO.out)
        unfold RunsP at hrun
        rw [HB.out] at hrun
        have D0 := Lib.hid (show Bel W1.drew W1.drew from Below.refl _ _)
        clear hN hW hC1
        have s0 := hfx.out _ D0.out
        refine start_ (n := 10) (S := fun w' => w'.cell? ⟨w.heap.size, 4, none⟩ = some (.slice A os.length c)) (ds := [8]) #[F, F, F, F, F, F, F, F, F, F] (by kernel_rfl) rfl rfl (s0) (fun hHeld => ?_)
        refine py 1 (some 26) #[F, T, F, F, F, F, F, F, F, F] ?_
        refine ty 2 (some 27) #[F, T, T, F, F, F, F, F, F, F] (hS := hHeld) (hz := by intro w' s0; go_simp; with_reducible rfl) (h := ?_)
        refine join_ (σ := Value × Value × Option Addr × Nat × Nat × Option Addr × Nat × Nat × Nat) 2 #[T, T, T, T, T, T, T, T, F, F] (fun s => [(25, .agg #[s.1, s.2.1]), (28, .tuple #[.agg #[.slice s.2.2.1 s.2.2.2.1 s.2.2.2.2.1, .slice s.2.2.2.2.2.1 s.2.2.2.2.2.2.1 s.2.2.2.2.2.2.2.1], .bool b]), (24, .tuple #[.agg #[.slice s.2.2.1 s.2.2.2.1 s.2.2.2.2.1, .slice s.2.2.2.2.2.1 s.2.2.2.2.2.2.1 s.2.2.2.2.2.2.2.1], .bool b]), (29, .agg #[.slice s.2.2.1 s.2.2.2.1 s.2.2.2.2.1, .slice s.2.2.2.2.2.1 s.2.2.2.2.2.2.1 s.2.2.2.2.2.2.2.1]), (30, .bool b), (3, .pointer (some ⟨s.2.2.2.2.2.2.2.2, 0, none⟩))]) (fun s w' => (w'.cell? ⟨w.heap.size, 4, none⟩ = some (.slice A os.length c)) ∧ Blk w' s.2.2.2.2.2.2.2.2 #[.slice none 0 0, .slice none 0 0] 44 ∧ W1.drew.heap.size ≤ s.2.2.2.2.2.2.2.2 ∧ Bel W1.drew w') ?_ ?_
        rotate_left
        · intro hCont
          refine two_ (i := 0) (j := 7) (Ni := some 25) (Nj := some 3) #[T, T, T, F, F, F, F, F, F, F] #[F, T, T, F, F, F, F, T, F, F] rfl rfl rfl rfl (by kernel_rfl) (by decide) (by decide) (fun K hK => ?_) (fun K hK => ?_)
          · skip
            refine goes_ Tryz.func51 (by kernel_rfl) rfl #[] (by rfl) rfl rfl (by simp only [List.map_toArray, List.map_cons, List.map_nil]) ?_
            with_reducible refine (specPoolNew_c _).mono ?_
            rintro e w1_ ⟨va, vb, bva, rfl, ho, X1⟩
            have D1 := Lib.hid (Bel.tr D0.out X1)
            have P1 : Hid (OwnP w1_ W1.drew.heap.size va vb newP bva) := Lib.hid (ho.lower D0.out.size)
            clear ho
            refine ⟨_, rfl, ?_⟩
            refine hK.out _ _ (hfx.out _ D1.out) (fun hHeld => ?_)
            clear hK K
            refine nox 25 (h := ?_)
            refine two_ (i := 3) (j := 7) (Ni := some 28) (Nj := some 3) #[T, T, T, T, F, F, F, F, F, F] #[T, T, T, F, F, F, F, T, F, F] rfl rfl rfl rfl (by kernel_rfl) (by decide) (by decide) (fun K hK => ?_) (fun K hK => ?_)
            · skip
              refine gox Tryz.func50 #[.agg #[va, vb], .slice A os.length c] ?_
              with_reducible refine (hrun.out _ va vb bva P1.out D1.out).mono ?_
              rintro e w2_ ⟨A2, A3, n2, n3, k2, k3, rfl, hq, X2⟩
              have D2 : Hid (Bel W1.drew w2_) := Lib.hid (D1.out.trans X2.b)
              clear hq
              refine ⟨_, rfl, ?_⟩
              refine hK.out _ _ (hfx.out _ D2.out) (fun hHeld => ?_)
              clear hK K
              refine nox 28 (h := ?_)
              refine py 4 (some 24) #[T, T, T, T, T, F, F, F, F, F] ?_
              refine py 5 (some 29) #[T, T, T, T, T, T, F, F, F, F] ?_
              refine py 6 (some 30) #[T, T, T, T, T, T, T, F, F, F] ?_
              refine ox 7 (some 3) #[T, T, T, T, T, T, T, T, F, F] fun K hK => ?_
              refine vx ?_
              have D3 : Hid (Bel W1.drew (w2_.alloc (.cells #[.slice none 0 0, .slice none 0 0] 44))) := Lib.hid (bel_alloc D2.out (.cells #[.slice none 0 0, .slice none 0 0] 44))
              have O3 : Hid (Blk (w2_.alloc (.cells #[.slice none 0 0, .slice none 0 0] 44)) w2_.heap.size #[.slice none 0 0, .slice none 0 0] 44) := Lib.hid (Blk.new w2_ #[.slice none 0 0, .slice none 0 0] 44)
              have L3 := D2.out.size
              refine hK.out _ _ (hfx.out _ D3.out) (fun hHeld => ?_)
              clear hK K
              refine nox 3 (h := ?_)
              exact nof (hCont (va, vb, A2, n2, k2, A3, n3, k3, w2_.heap.size) _ ⟨hHeld, O3.out, L3, D3.out⟩)
            · skip
              refine vx ?_
              have D2 : Hid (Bel W1.drew (w1_.alloc (.cells #[.slice none 0 0, .slice none 0 0] 44))) := Lib.hid (bel_alloc D1.out (.cells #[.slice none 0 0, .slice none 0 0] 44))
              have P2 := Lib.hid (OwnP.bel P1.out (bel_alloc (Below.refl _ _) (.cells #[.slice none 0 0, .slice none 0 0] 44)))
              have O2 : Hid (Blk (w1_.alloc (.cells #[.slice none 0 0, .slice none 0 0] 44)) w1_.heap.size #[.slice none 0 0, .slice none 0 0] 44) := Lib.hid (Blk.new w1_ #[.slice none 0 0, .slice none 0 0] 44)
              have L2 := D1.out.size
              refine hK.out _ _ (hfx.out _ D2.out) (fun hHeld => ?_)
              clear hK K
              refine nox 3 (h := ?_)
              refine ox 3 (some 28) #[T, T, T, T, F, F, F, T, F, F] fun K hK => ?_
              refine gox Tryz.func50 #[.agg #[va, vb], .slice A os.length c] ?_
              with_reducible refine (hrun.out _ va vb bva P2.out D2.out).mono ?_
              rintro e w3_ ⟨A2, A3, n2, n3, k2, k3, rfl, hq, X3⟩
              have D3 : Hid (Bel W1.drew w3_) := Lib.hid (D2.out.trans X3.b)
              clear hq
              have O3 := Lib.hid (X3.k _ _ _ (by decide) (by decide) (by decide) O2.out)
              refine ⟨_, rfl, ?_⟩
              refine hK.out _ _ (hfx.out _ D3.out) (fun hHeld => ?_)
              clear hK K
              refine nox 28 (h := ?_)
              refine py 4 (some 24) #[T, T, T, T, T, F, F, T, F, F] ?_
              refine py 5 (some 29) #[T, T, T, T, T, T, F, T, F, F] ?_
              refine py 6 (some 30) #[T, T, T, T, T, T, T, T, F, F] ?_
              exact nof (hCont (va, vb, A2, n2, k2, A3, n3, k3, w1_.heap.size) _ ⟨hHeld, O3.out, L2, D3.out⟩)
          · skip
            refine vx ?_
            have D1 : Hid (Bel W1.drew (W1.alloc (.cells #[.slice none 0 0, .slice none 0 0] 44)).drew) := Lib.hid (bel_alloc D0.out (.cells #[.slice none 0 0, .slice none 0 0] 44))
            have O1 : Hid (Blk (W1.alloc (.cells #[.slice none 0 0, .slice none 0 0] 44)).drew W1.drew.heap.size #[.slice none 0 0, .slice none 0 0] 44) := Lib.hid (Blk.new W1.drew #[.slice none 0 0, .slice none 0 0] 44)
            have L1 := D0.out.size
            refine hK.out _ _ (hfx.out _ D1.out) (fun hHeld => ?_)
            clear hK K
            refine nox 3 (h := ?_)
            refine ox 0 (some 25) #[T, T, T, F, F, F, F, T, F, F] fun K hK => ?_
            refine goes_ Tryz.func51 (by kernel_rfl) rfl #[] (by rfl) rfl rfl (by simp only [List.map_toArray, List.map_cons, List.map_nil]) ?_
            with_reducible refine (specPoolNew_c _).mono ?_
            rintro e w2_ ⟨va, vb, bva, rfl, ho, X2⟩
            have D2 := Lib.hid (Bel.tr D1.out X2)
            have O2 := Lib.hid (Blk.bel O1.out X2)
            have P2 : Hid (OwnP w2_ W1.drew.heap.size va vb newP bva) := Lib.hid (ho.lower D1.out.size)
            clear ho
            refine ⟨_, rfl, ?_⟩
            refine hK.out _ _ (hfx.out _ D2.out) (fun hHeld => ?_)
            clear hK K
            refine nox 25 (h := ?_)
            refine ox 3 (some 28) #[T, T, T, T, F, F, F, T, F, F] fun K hK => ?_
            refine gox Tryz.func50 #[.agg #[va, vb], .slice A os.length c] ?_
            with_reducible refine (hrun.out _ va vb bva P2.out D2.out).mono ?_
            rintro e w3_ ⟨A2, A3, n2, n3, k2, k3, rfl, hq, X3⟩
            have D3 : Hid (Bel W1.drew w3_) := Lib.hid (D2.out.trans X3.b)
            clear hq
            have O3 := Lib.hid (X3.k _ _ _ (by decide) (by decide) (by decide) O2.out)
            refine ⟨_, rfl, ?_⟩
            refine hK.out _ _ (hfx.out _ D3.out) (fun hHeld => ?_)
            clear hK K
            refine nox 28 (h := ?_)
            refine py 4 (some 24) #[T, T, T, T, T, F, F, T, F, F] ?_
            refine py 5 (some 29) #[T, T, T, T, T, T, F, T, F, F] ?_
            refine py 6 (some 30) #[T, T, T, T, T, T, T, T, F, F] ?_
            exact nof (hCont (va, vb, A2, n2, k2, A3, n3, k3, W1.heap.size) _ ⟨hHeld, O3.out, L1, D3.out⟩)
        rintro ⟨va, vb, A2, n2, k2, A3, n3, k3, nb⟩ w3 ⟨hHeld, hO, hL, hD⟩
        dsimp only at hO hL
        obtain ⟨r0, r1, f0, f1, -⟩ := k2f hO
        refine norm_ (a' := ?_) ?_ ?_
        rotate_left
        · simp only [putAll, Act.put, lA, lB, lC]
          rfl
        refine lx 8 none #[T, T, T, T, T, T, T, T, T, F] fun K hK => ?_
        refine sx ?_
        refine hK.out _ _ ?_
        clear hK K
        refine py 9 (some 4) #[T, T, T, T, T, T, T, T, T, T] ?_
        refine done_ (by kernel_rfl) ?_
        have hb5 : Bel W1.drew ((w3.setCell ⟨nb, 0, none⟩ (.slice A2 n2 k2)).setCell ⟨nb, 1, none⟩ (.slice A3 n3 k3)) := bel_set (bel_set hD hL 0 (.slice A2 n2 k2)) hL 1 (.slice A3 n3 k3)
        clear hO hD hL f0 f1 r0 r1 hHeld D0 s0 hfx hrun
        go_wp2
        go_ret
        exact ⟨rfl, (HW.out.tr (Below.refl _ _).drew).tr hb5⟩
      · skip
        have hN : Blk (w.alloc (.cells #[.bool up, .int .i64 term, .bool true, .bool true, .slice A os.length c] 25)) w.heap.size #[.bool up, .int .i64 term, .bool true, .bool true, .slice A os.length c] 25 := Blk.new _ _ _
        have hW : Bel w (w.alloc (.cells #[.bool up, .int .i64 term, .bool true, .bool true, .slice A os.length c] 25)) := bel_alloc (Below.refl _ _) _
        go_wp2_with (go_at_call 38; refine (HI.out _).mono ?_; rintro e w' ⟨rfl, rfl⟩)
        generalize w.alloc (.cells #[.bool up, .int .i64 term, .bool true, .bool true, .slice A os.length c] 25) = W1 at hN hW ⊢
        have hfx := Lib.hid (fun (W : World) (hb : Bel W1.drew W) => (show W.cell? ⟨w.heap.size, 4, none⟩ = some (.slice A os.length c) by rw [((hN.bel (Below.refl _ _).drew).bel hb).cell]; rfl))
        have HW := Lib.hid hW
        have hC1 : kOp.C W1.drew A os.length os := Kd.C_below HC.out (hW.tr (Below.refl _ _).drew)
        have hrun := Lib.hid (fun (W : World) (v0 v1 : Value) (bvs : List Value) (h : OwnP W W1.drew.heap.size v0 v1 newP bvs) (hb : Bel W1.drew W) => l13Run_c (c2 := c) h newP_ok (Below.size hb) hC1 (Nat.le_refl _) hb HO.out)
        unfold RunsP at hrun
        rw [HB.out] at hrun
        have D0 := Lib.hid (show Bel W1.drew W1.drew from Below.refl _ _)
        clear hN hW hC1
        have s0 := hfx.out _ D0.out
        refine start_ (n := 10) (S := fun w' => w'.cell? ⟨w.heap.size, 4, none⟩ = some (.slice A os.length c)) (ds := [8]) #[F, F, F, F, F, F, F, F, F, F] (by kernel_rfl) rfl rfl (s0) (fun hHeld => ?_)
        refine py 1 (some 26) #[F, T, F, F, F, F, F, F, F, F] ?_
        refine ty 2 (some 27) #[F, T, T, F, F, F, F, F, F, F] (hS := hHeld) (hz := by intro w' s0; go_simp; with_reducible rfl) (h := ?_)
        refine join_ (σ := Value × Value × Option Addr × Nat × Nat × Option Addr × Nat × Nat × Nat) 2 #[T, T, T, T, T, T, T, T, F, F] (fun s => [(25, .agg #[s.1, s.2.1]), (28, .tuple #[.agg #[.slice s.2.2.1 s.2.2.2.1 s.2.2.2.2.1, .slice s.2.2.2.2.2.1 s.2.2.2.2.2.2.1 s.2.2.2.2.2.2.2.1], .bool b]), (24, .tuple #[.agg #[.slice s.2.2.1 s.2.2.2.1 s.2.2.2.2.1, .slice s.2.2.2.2.2.1 s.2.2.2.2.2.2.1 s.2.2.2.2.2.2.2.1], .bool b]), (29, .agg #[.slice s.2.2.1 s.2.2.2.1 s.2.2.2.2.1, .slice s.2.2.2.2.2.1 s.2.2.2.2.2.2.1 s.2.2.2.2.2.2.2.1]), (30, .bool b), (3, .pointer (some ⟨s.2.2.2.2.2.2.2.2, 0, none⟩))]) (fun s w' => (w'.cell? ⟨w.heap.size, 4, none⟩ = some (.slice A os.length c)) ∧ Blk w' s.2.2.2.2.2.2.2.2 #[.slice none 0 0, .slice none 0 0] 44 ∧ W1.drew.heap.size ≤ s.2.2.2.2.2.2.2.2 ∧ Bel W1.drew w') ?_ ?_
        rotate_left
        · intro hCont
          refine two_ (i := 0) (j := 7) (Ni := some 25) (Nj := some 3) #[T, T, T, F, F, F, F, F, F, F] #[F, T, T, F, F, F, F, T, F, F] rfl rfl rfl rfl (by kernel_rfl) (by decide) (by decide) (fun K hK => ?_) (fun K hK => ?_)
          · skip
            refine goes_ Tryz.func51 (by kernel_rfl) rfl #[] (by rfl) rfl rfl (by simp only [List.map_toArray, List.map_cons, List.map_nil]) ?_
            with_reducible refine (specPoolNew_c _).mono ?_
            rintro e w1_ ⟨va, vb, bva, rfl, ho, X1⟩
            have D1 := Lib.hid (Bel.tr D0.out X1)
            have P1 : Hid (OwnP w1_ W1.drew.heap.size va vb newP bva) := Lib.hid (ho.lower D0.out.size)
            clear ho
            refine ⟨_, rfl, ?_⟩
            refine hK.out _ _ (hfx.out _ D1.out) (fun hHeld => ?_)
            clear hK K
            refine nox 25 (h := ?_)
            refine two_ (i := 3) (j := 7) (Ni := some 28) (Nj := some 3) #[T, T, T, T, F, F, F, F, F, F] #[T, T, T, F, F, F, F, T, F, F] rfl rfl rfl rfl (by kernel_rfl) (by decide) (by decide) (fun K hK => ?_) (fun K hK => ?_)
            · skip
              refine gox Tryz.func50 #[.agg #[va, vb], .slice A os.length c] ?_
              with_reducible refine (hrun.out _ va vb bva P1.out D1.out).mono ?_
              rintro e w2_ ⟨A2, A3, n2, n3, k2, k3, rfl, hq, X2⟩
              have D2 : Hid (Bel W1.drew w2_) := Lib.hid (D1.out.trans X2.b)
              clear hq
              refine ⟨_, rfl, ?_⟩
              refine hK.out _ _ (hfx.out _ D2.out) (fun hHeld => ?_)
              clear hK K
              refine nox 28 (h := ?_)
              refine py 4 (some 24) #[T, T, T, T, T, F, F, F, F, F] ?_
              refine py 5 (some 29) #[T, T, T, T, T, T, F, F, F, F] ?_
              refine py 6 (some 30) #[T, T, T, T, T, T, T, F, F, F] ?_
              refine ox 7 (some 3) #[T, T, T, T, T, T, T, T, F, F] fun K hK => ?_
              refine vx ?_
              have D3 : Hid (Bel W1.drew (w2_.alloc (.cells #[.slice none 0 0, .slice none 0 0] 44))) := Lib.hid (bel_alloc D2.out (.cells #[.slice none 0 0, .slice none 0 0] 44))
              have O3 : Hid (Blk (w2_.alloc (.cells #[.slice none 0 0, .slice none 0 0] 44)) w2_.heap.size #[.slice none 0 0, .slice none 0 0] 44) := Lib.hid (Blk.new w2_ #[.slice none 0 0, .slice none 0 0] 44)
              have L3 := D2.out.size
              refine hK.out _ _ (hfx.out _ D3.out) (fun hHeld => ?_)
              clear hK K
              refine nox 3 (h := ?_)
              exact nof (hCont (va, vb, A2, n2, k2, A3, n3, k3, w2_.heap.size) _ ⟨hHeld, O3.out, L3, D3.out⟩)
            · skip
              refine vx ?_
              have D2 : Hid (Bel W1.drew (w1_.alloc (.cells #[.slice none 0 0, .slice none 0 0] 44))) := Lib.hid (bel_alloc D1.out (.cells #[.slice none 0 0, .slice none 0 0] 44))
              have P2 := Lib.hid (OwnP.bel P1.out (bel_alloc (Below.refl _ _) (.cells #[.slice none 0 0, .slice none 0 0] 44)))
              have O2 : Hid (Blk (w1_.alloc (.cells #[.slice none 0 0, .slice none 0 0] 44)) w1_.heap.size #[.slice none 0 0, .slice none 0 0] 44) := Lib.hid (Blk.new w1_ #[.slice none 0 0, .slice none 0 0] 44)
              have L2 := D1.out.size
              refine hK.out _ _ (hfx.out _ D2.out) (fun hHeld => ?_)
              clear hK K
              refine nox 3 (h := ?_)
              refine ox 3 (some 28) #[T, T, T, T, F, F, F, T, F, F] fun K hK => ?_
              refine gox Tryz.func50 #[.agg #[va, vb], .slice A os.length c] ?_
              with_reducible refine (hrun.out _ va vb bva P2.out D2.out).mono ?_
              rintro e w3_ ⟨A2, A3, n2, n3, k2, k3, rfl, hq, X3⟩
              have D3 : Hid (Bel W1.drew w3_) := Lib.hid (D2.out.trans X3.b)
              clear hq
              have O3 := Lib.hid (X3.k _ _ _ (by decide) (by decide) (by decide) O2.out)
              refine ⟨_, rfl, ?_⟩
              refine hK.out _ _ (hfx.out _ D3.out) (fun hHeld => ?_)
              clear hK K
              refine nox 28 (h := ?_)
              refine py 4 (some 24) #[T, T, T, T, T, F, F, T, F, F] ?_
              refine py 5 (some 29) #[T, T, T, T, T, T, F, T, F, F] ?_
              refine py 6 (some 30) #[T, T, T, T, T, T, T, T, F, F] ?_
              exact nof (hCont (va, vb, A2, n2, k2, A3, n3, k3, w1_.heap.size) _ ⟨hHeld, O3.out, L2, D3.out⟩)
          · skip
            refine vx ?_
            have D1 : Hid (Bel W1.drew (W1.alloc (.cells #[.slice none 0 0, .slice none 0 0] 44)).drew) := Lib.hid (bel_alloc D0.out (.cells #[.slice none 0 0, .slice none 0 0] 44))
            have O1 : Hid (Blk (W1.alloc (.cells #[.slice none 0 0, .slice none 0 0] 44)).drew W1.drew.heap.size #[.slice none 0 0, .slice none 0 0] 44) := Lib.hid (Blk.new W1.drew #[.slice none 0 0, .slice none 0 0] 44)
            have L1 := D0.out.size
            refine hK.out _ _ (hfx.out _ D1.out) (fun hHeld => ?_)
            clear hK K
            refine nox 3 (h := ?_)
            refine ox 0 (some 25) #[T, T, T, F, F, F, F, T, F, F] fun K hK => ?_
            refine goes_ Tryz.func51 (by kernel_rfl) rfl #[] (by rfl) rfl rfl (by simp only [List.map_toArray, List.map_cons, List.map_nil]) ?_
            with_reducible refine (specPoolNew_c _).mono ?_
            rintro e w2_ ⟨va, vb, bva, rfl, ho, X2⟩
            have D2 := Lib.hid (Bel.tr D1.out X2)
            have O2 := Lib.hid (Blk.bel O1.out X2)
            have P2 : Hid (OwnP w2_ W1.drew.heap.size va vb newP bva) := Lib.hid (ho.lower D1.out.size)
            clear ho
            refine ⟨_, rfl, ?_⟩
            refine hK.out _ _ (hfx.out _ D2.out) (fun hHeld => ?_)
            clear hK K
            refine nox 25 (h := ?_)
            refine ox 3 (some 28) #[T, T, T, T, F, F, F, T, F, F] fun K hK => ?_
            refine gox Tryz.func50 #[.agg #[va, vb], .slice A os.length c] ?_
            with_reducible refine (hrun.out _ va vb bva P2.out D2.out).mono ?_
            rintro e w3_ ⟨A2, A3, n2, n3, k2, k3, rfl, hq, X3⟩
            have D3 : Hid (Bel W1.drew w3_) := Lib.hid (D2.out.trans X3.b)
            clear hq
            have O3 := Lib.hid (X3.k _ _ _ (by decide) (by decide) (by decide) O2.out)
            refine ⟨_, rfl, ?_⟩
            refine hK.out _ _ (hfx.out _ D3.out) (fun hHeld => ?_)
            clear hK K
            refine nox 28 (h := ?_)
            refine py 4 (some 24) #[T, T, T, T, T, F, F, T, F, F] ?_
            refine py 5 (some 29) #[T, T, T, T, T, T, F, T, F, F] ?_
            refine py 6 (some 30) #[T, T, T, T, T, T, T, T, F, F] ?_
            exact nof (hCont (va, vb, A2, n2, k2, A3, n3, k3, W1.heap.size) _ ⟨hHeld, O3.out, L1, D3.out⟩)
        rintro ⟨va, vb, A2, n2, k2, A3, n3, k3, nb⟩ w3 ⟨hHeld, hO, hL, hD⟩
        dsimp only at hO hL
        obtain ⟨r0, r1, f0, f1, -⟩ := k2f hO
        refine norm_ (a' := ?_) ?_ ?_
        rotate_left
        · simp only [putAll, Act.put, lA, lB, lC]
          rfl
        refine lx 8 none #[T, T, T, T, T, T, T, T, T, F] fun K hK => ?_
        refine sx ?_
        refine hK.out _ _ ?_
        clear hK K
        refine py 9 (some 4) #[T, T, T, T, T, T, T, T, T, T] ?_
        refine done_ (by kernel_rfl) ?_
        have hb5 : Bel W1.drew ((w3.setCell ⟨nb, 0, none⟩ (.slice A2 n2 k2)).setCell ⟨nb, 1, none⟩ (.slice A3 n3 k3)) := bel_set (bel_set hD hL 0 (.slice A2 n2 k2)) hL 1 (.slice A3 n3 k3)
        clear hO hD hL f0 f1 r0 r1 hHeld D0 s0 hfx hrun
        go_wp2
        go_ret
        exact ⟨rfl, (HW.out.tr (Below.refl _ _).drew).tr hb5⟩
    · skip
      have hN : Blk (w.alloc (.cells #[.bool up, .int .i64 term, .bool false, .bool false, .slice A os.length c] 25)) w.heap.size #[.bool up, .int .i64 term, .bool false, .bool false, .slice A os.length c] 25 := Blk.new _ _ _
      have hW : Bel w (w.alloc (.cells #[.bool up, .int .i64 term, .bool false, .bool false, .slice A os.length c] 25)) := bel_alloc (Below.refl _ _) _
      go_wp2_with (go_at_call 38; refine (HI.out _).mono ?_; rintro e w' ⟨rfl, rfl⟩)
      generalize w.alloc (.cells #[.bool up, .int .i64 term, .bool false, .bool false, .slice A os.length c] 25) = W1 at hN hW ⊢
      have hfx := Lib.hid (fun (W : World) (hb : Bel W1.drew W) => (show W.cell? ⟨w.heap.size, 4, none⟩ = some (.slice A os.length c) by rw [((hN.bel (Below.refl _ _).drew).bel hb).cell]; rfl))
      have HW := Lib.hid hW
      have hC1 : kOp.C W1.drew A os.length os := Kd.C_below HC.out (hW.tr (Below.refl _ _).drew)
      have hrun := Lib.hid (fun (W : World) (v0 v1 : Value) (bvs : List Value) (h : OwnP W W1.drew.heap.size v0 v1 newP bvs) (hb : Bel W1.drew W) => l13Run_c (c2 := c) h newP_ok (Below.size hb) hC1 (Nat.le_refl _) hb HO.out)
      unfold RunsP at hrun
      rw [HB.out] at hrun
      have D0 := Lib.hid (show Bel W1.drew W1.drew from Below.refl _ _)
      clear hN hW hC1
      have s0 := hfx.out _ D0.out
      refine start_ (n := 10) (S := fun w' => w'.cell? ⟨w.heap.size, 4, none⟩ = some (.slice A os.length c)) (ds := [8]) #[F, F, F, F, F, F, F, F, F, F] (by kernel_rfl) rfl rfl (s0) (fun hHeld => ?_)
      refine py 1 (some 26) #[F, T, F, F, F, F, F, F, F, F] ?_
      refine ty 2 (some 27) #[F, T, T, F, F, F, F, F, F, F] (hS := hHeld) (hz := by intro w' s0; go_simp; with_reducible rfl) (h := ?_)
      refine join_ (σ := Value × Value × Option Addr × Nat × Nat × Option Addr × Nat × Nat × Nat) 2 #[T, T, T, T, T, T, T, T, F, F] (fun s => [(25, .agg #[s.1, s.2.1]), (28, .tuple #[.agg #[.slice s.2.2.1 s.2.2.2.1 s.2.2.2.2.1, .slice s.2.2.2.2.2.1 s.2.2.2.2.2.2.1 s.2.2.2.2.2.2.2.1], .bool b]), (24, .tuple #[.agg #[.slice s.2.2.1 s.2.2.2.1 s.2.2.2.2.1, .slice s.2.2.2.2.2.1 s.2.2.2.2.2.2.1 s.2.2.2.2.2.2.2.1], .bool b]), (29, .agg #[.slice s.2.2.1 s.2.2.2.1 s.2.2.2.2.1, .slice s.2.2.2.2.2.1 s.2.2.2.2.2.2.1 s.2.2.2.2.2.2.2.1]), (30, .bool b), (3, .pointer (some ⟨s.2.2.2.2.2.2.2.2, 0, none⟩))]) (fun s w' => (w'.cell? ⟨w.heap.size, 4, none⟩ = some (.slice A os.length c)) ∧ Blk w' s.2.2.2.2.2.2.2.2 #[.slice none 0 0, .slice none 0 0] 44 ∧ W1.drew.heap.size ≤ s.2.2.2.2.2.2.2.2 ∧ Bel W1.drew w') ?_ ?_
      rotate_left
      · intro hCont
        refine two_ (i := 0) (j := 7) (Ni := some 25) (Nj := some 3) #[T, T, T, F, F, F, F, F, F, F] #[F, T, T, F, F, F, F, T, F, F] rfl rfl rfl rfl (by kernel_rfl) (by decide) (by decide) (fun K hK => ?_) (fun K hK => ?_)
        · skip
          refine goes_ Tryz.func51 (by kernel_rfl) rfl #[] (by rfl) rfl rfl (by simp only [List.map_toArray, List.map_cons, List.map_nil]) ?_
          with_reducible refine (specPoolNew_c _).mono ?_
          rintro e w1_ ⟨va, vb, bva, rfl, ho, X1⟩
          have D1 := Lib.hid (Bel.tr D0.out X1)
          have P1 : Hid (OwnP w1_ W1.drew.heap.size va vb newP bva) := Lib.hid (ho.lower D0.out.size)
          clear ho
          refine ⟨_, rfl, ?_⟩
          refine hK.out _ _ (hfx.out _ D1.out) (fun hHeld => ?_)
          clear hK K
          refine nox 25 (h := ?_)
          refine two_ (i := 3) (j := 7) (Ni := some 28) (Nj := some 3) #[T, T, T, T, F, F, F, F, F, F] #[T, T, T, F, F, F, F, T, F, F] rfl rfl rfl rfl (by kernel_rfl) (by decide) (by decide) (fun K hK => ?_) (fun K hK => ?_)
          · skip
            refine gox Tryz.func50 #[.agg #[va, vb], .slice A os.length c] ?_
            with_reducible refine (hrun.out _ va vb bva P1.out D1.out).mono ?_
            rintro e w2_ ⟨A2, A3, n2, n3, k2, k3, rfl, hq, X2⟩
            have D2 : Hid (Bel W1.drew w2_) := Lib.hid (D1.out.trans X2.b)
            clear hq
            refine ⟨_, rfl, ?_⟩
            refine hK.out _ _ (hfx.out _ D2.out) (fun hHeld => ?_)
            clear hK K
            refine nox 28 (h := ?_)
            refine py 4 (some 24) #[T, T, T, T, T, F, F, F, F, F] ?_
            refine py 5 (some 29) #[T, T, T, T, T, T, F, F, F, F] ?_
            refine py 6 (some 30) #[T, T, T, T, T, T, T, F, F, F] ?_
            refine ox 7 (some 3) #[T, T, T, T, T, T, T, T, F, F] fun K hK => ?_
            refine vx ?_
            have D3 : Hid (Bel W1.drew (w2_.alloc (.cells #[.slice none 0 0, .slice none 0 0] 44))) := Lib.hid (bel_alloc D2.out (.cells #[.slice none 0 0, .slice none 0 0] 44))
            have O3 : Hid (Blk (w2_.alloc (.cells #[.slice none 0 0, .slice none 0 0] 44)) w2_.heap.size #[.slice none 0 0, .slice none 0 0] 44) := Lib.hid (Blk.new w2_ #[.slice none 0 0, .slice none 0 0] 44)
            have L3 := D2.out.size
            refine hK.out _ _ (hfx.out _ D3.out) (fun hHeld => ?_)
            clear hK K
            refine nox 3 (h := ?_)
            exact nof (hCont (va, vb, A2, n2, k2, A3, n3, k3, w2_.heap.size) _ ⟨hHeld, O3.out, L3, D3.out⟩)
          · skip
            refine vx ?_
            have D2 : Hid (Bel W1.drew (w1_.alloc (.cells #[.slice none 0 0, .slice none 0 0] 44))) := Lib.hid (bel_alloc D1.out (.cells #[.slice none 0 0, .slice none 0 0] 44))
            have P2 := Lib.hid (OwnP.bel P1.out (bel_alloc (Below.refl _ _) (.cells #[.slice none 0 0, .slice none 0 0] 44)))
            have O2 : Hid (Blk (w1_.alloc (.cells #[.slice none 0 0, .slice none 0 0] 44)) w1_.heap.size #[.slice none 0 0, .slice none 0 0] 44) := Lib.hid (Blk.new w1_ #[.slice none 0 0, .slice none 0 0] 44)
            have L2 := D1.out.size
            refine hK.out _ _ (hfx.out _ D2.out) (fun hHeld => ?_)
            clear hK K
            refine nox 3 (h := ?_)
            refine ox 3 (some 28) #[T, T, T, T, F, F, F, T, F, F] fun K hK => ?_
            refine gox Tryz.func50 #[.agg #[va, vb], .slice A os.length c] ?_
            with_reducible refine (hrun.out _ va vb bva P2.out D2.out).mono ?_
            rintro e w3_ ⟨A2, A3, n2, n3, k2, k3, rfl, hq, X3⟩
            have D3 : Hid (Bel W1.drew w3_) := Lib.hid (D2.out.trans X3.b)
            clear hq
            have O3 := Lib.hid (X3.k _ _ _ (by decide) (by decide) (by decide) O2.out)
            refine ⟨_, rfl, ?_⟩
            refine hK.out _ _ (hfx.out _ D3.out) (fun hHeld => ?_)
            clear hK K
            refine nox 28 (h := ?_)
            refine py 4 (some 24) #[T, T, T, T, T, F, F, T, F, F] ?_
            refine py 5 (some 29) #[T, T, T, T, T, T, F, T, F, F] ?_
            refine py 6 (some 30) #[T, T, T, T, T, T, T, T, F, F] ?_
            exact nof (hCont (va, vb, A2, n2, k2, A3, n3, k3, w1_.heap.size) _ ⟨hHeld, O3.out, L2, D3.out⟩)
        · skip
          refine vx ?_
          have D1 : Hid (Bel W1.drew (W1.alloc (.cells #[.slice none 0 0, .slice none 0 0] 44)).drew) := Lib.hid (bel_alloc D0.out (.cells #[.slice none 0 0, .slice none 0 0] 44))
          have O1 : Hid (Blk (W1.alloc (.cells #[.slice none 0 0, .slice none 0 0] 44)).drew W1.drew.heap.size #[.slice none 0 0, .slice none 0 0] 44) := Lib.hid (Blk.new W1.drew #[.slice none 0 0, .slice none 0 0] 44)
          have L1 := D0.out.size
          refine hK.out _ _ (hfx.out _ D1.out) (fun hHeld => ?_)
          clear hK K
          refine nox 3 (h := ?_)
          refine ox 0 (some 25) #[T, T, T, F, F, F, F, T, F, F] fun K hK => ?_
          refine goes_ Tryz.func51 (by kernel_rfl) rfl #[] (by rfl) rfl rfl (by simp only [List.map_toArray, List.map_cons, List.map_nil]) ?_
          with_reducible refine (specPoolNew_c _).mono ?_
          rintro e w2_ ⟨va, vb, bva, rfl, ho, X2⟩
          have D2 := Lib.hid (Bel.tr D1.out X2)
          have O2 := Lib.hid (Blk.bel O1.out X2)
          have P2 : Hid (OwnP w2_ W1.drew.heap.size va vb newP bva) := Lib.hid (ho.lower D1.out.size)
          clear ho
          refine ⟨_, rfl, ?_⟩
          refine hK.out _ _ (hfx.out _ D2.out) (fun hHeld => ?_)
          clear hK K
          refine nox 25 (h := ?_)
          refine ox 3 (some 28) #[T, T, T, T, F, F, F, T, F, F] fun K hK => ?_
          refine gox Tryz.func50 #[.agg #[va, vb], .slice A os.length c] ?_
          with_reducible refine (hrun.out _ va vb bva P2.out D2.out).mono ?_
          rintro e w3_ ⟨A2, A3, n2, n3, k2, k3, rfl, hq, X3⟩
          have D3 : Hid (Bel W1.drew w3_) := Lib.hid (D2.out.trans X3.b)
          clear hq
          have O3 := Lib.hid (X3.k _ _ _ (by decide) (by decide) (by decide) O2.out)
          refine ⟨_, rfl, ?_⟩
          refine hK.out _ _ (hfx.out _ D3.out) (fun hHeld => ?_)
          clear hK K
          refine nox 28 (h := ?_)
          refine py 4 (some 24) #[T, T, T, T, T, F, F, T, F, F] ?_
          refine py 5 (some 29) #[T, T, T, T, T, T, F, T, F, F] ?_
          refine py 6 (some 30) #[T, T, T, T, T, T, T, T, F, F] ?_
          exact nof (hCont (va, vb, A2, n2, k2, A3, n3, k3, W1.heap.size) _ ⟨hHeld, O3.out, L1, D3.out⟩)
      rintro ⟨va, vb, A2, n2, k2, A3, n3, k3, nb⟩ w3 ⟨hHeld, hO, hL, hD⟩
      dsimp only at hO hL
      obtain ⟨r0, r1, f0, f1, -⟩ := k2f hO
      refine norm_ (a' := ?_) ?_ ?_
      rotate_left
      · simp only [putAll, Act.put, lA, lB, lC]
        rfl
      refine lx 8 none #[T, T, T, T, T, T, T, T, T, F] fun K hK => ?_
      refine sx ?_
      refine hK.out _ _ ?_
      clear hK K
      refine py 9 (some 4) #[T, T, T, T, T, T, T, T, T, T] ?_
      refine done_ (by kernel_rfl) ?_
      have hb5 : Bel W1.drew ((w3.setCell ⟨nb, 0, none⟩ (.slice A2 n2 k2)).setCell ⟨nb, 1, none⟩ (.slice A3 n3 k3)) := bel_set (bel_set hD hL 0 (.slice A2 n2 k2)) hL 1 (.slice A3 n3 k3)
      clear hO hD hL f0 f1 r0 r1 hHeld D0 s0 hfx hrun
      go_wp2
      go_ret
      exact ⟨rfl, (HW.out.tr (Below.refl _ _).drew).tr hb5⟩
  · have hno : (t && ((leads || !alone) && (b && d))) = false := by cases t <;> cases leads <;> cases alone <;> cases d <;> simp_all
    rw [hno]
    clear hno
    cases t <;> cases leads <;> cases alone <;> cases d <;> first
      | exact absurd ⟨rfl, by decide, rfl⟩ hgo
      | (clear hgo
         go_wp2_with (go_at_call 38; refine (HI.out _).mono ?_; rintro e w' ⟨rfl, rfl⟩)
         go_ret
         exact ⟨rfl, bel_alloc (Below.refl _ _) _⟩)
open Go.RowKit Go.Proofs.YtljfoglilggkjaaGreatW.PrintWords
structure SmallN (n : Node) : Prop where
  ops : SmallOs n.ops
theorem reads2 {w : World} {nb : Nat} {u1 l1 a1 u2 l2 a2 : Bool} {t1 t2 : Int} {A1 A2 : Option Addr} {c1 c2 : Nat} (hB : Blk w nb #[.bool u1, .int .i64 t1, .bool l1, .bool a1, .slice A1 0 c1, .bool u2, .int .i64 t2, .bool l2, .bool a2, .slice A2 0 c2] 25) : kNode.C w (some ⟨nb, 0, none⟩) 2 [⟨u1, t1, l1, a1, []⟩, ⟨u2, t2, l2, a2, []⟩] := by
 have hz : ∀ A, kOp.C w A ([] : List Op).length [] := fun A => ⟨rfl, by simp, fun h => absurd h (Nat.lt_irrefl 0)⟩
 refine ⟨rfl, by omega, fun _ => ⟨_, rfl, fun j p hj => ?_⟩⟩
 match j, hj with
 | 0, hj =>
  obtain rfl := Option.some.inj hj
  refine ⟨[.bool u1, .int .i64 t1, .bool l1, .bool a1, .slice A1 0 c1], by first | rfl | exact ⟨[.bool u1], _, rfl, rfl, ⟨[.int .i64 t1], _, rfl, rfl, ⟨[.bool l1], _, rfl, rfl, ⟨[.bool a1], [.slice A1 0 c1], rfl, rfl, ⟨A1, c1, rfl, Nat.zero_le _, hz A1⟩⟩⟩⟩⟩, by first | rfl | exact ⟨[.bool u1], _, rfl, rfl, ⟨[.int .i64 t1], _, rfl, rfl, ⟨[.bool l1], _, rfl, rfl, ⟨[.bool a1], [.slice A1 0 c1], rfl, rfl, ⟨A1, c1, rfl, Nat.zero_le _, hz A1⟩⟩⟩⟩⟩, fun i u hu => ?_⟩
  rw [Addr.add_lit, hB.cell]
  show (#[_, _, _, _, _, _, _, _, _, _] : Array Value)[0 + (0 * 5 + i)]? = _
  match i, hu with
  | 0, hu => exact hu
  | 1, hu => exact hu
  | 2, hu => exact hu
  | 3, hu => exact hu
  | 4, hu => exact hu
  | i + 5, hu => simp at hu
 | 1, hj =>
  obtain rfl := Option.some.inj hj
  refine ⟨[.bool u2, .int .i64 t2, .bool l2, .bool a2, .slice A2 0 c2], by first | rfl | exact ⟨[.bool u2], _, rfl, rfl, ⟨[.int .i64 t2], _, rfl, rfl, ⟨[.bool l2], _, rfl, rfl, ⟨[.bool a2], [.slice A2 0 c2], rfl, rfl, ⟨A2, c2, rfl, Nat.zero_le _, hz A2⟩⟩⟩⟩⟩, by first | rfl | exact ⟨[.bool u2], _, rfl, rfl, ⟨[.int .i64 t2], _, rfl, rfl, ⟨[.bool l2], _, rfl, rfl, ⟨[.bool a2], [.slice A2 0 c2], rfl, rfl, ⟨A2, c2, rfl, Nat.zero_le _, hz A2⟩⟩⟩⟩⟩, fun i u hu => ?_⟩
  rw [Addr.add_lit, hB.cell]
  show (#[_, _, _, _, _, _, _, _, _, _] : Array Value)[0 + (1 * 5 + i)]? = _
  match i, hu with
  | 0, hu => exact hu
  | 1, hu => exact hu
  | 2, hu => exact hu
  | 3, hu => exact hu
  | 4, hu => exact hu
  | i + 5, hu => simp at hu
 | j + 2, hj => simp at hj
open Go.RowKit Go.Proofs.YtljfoglilggkjaaGreatW.PrintWords Go.Proofs.YtljfoglilggkjaaGreatW.PrintLast
def nodePF (n : Node) : Pool := if nodeOk n then runV newP n.ops else noP
theorem nodePF_no {n : Node} (h : nodeOk n = false) : nodePF n = noP := by unfold nodePF; rw [h]; rfl
theorem nodePF_yes {n : Node} (h : nodeOk n = true) : ∃ q, nodePF n = q ∧ runP newP n.ops = some q ∧ runV newP n.ops = q := by
 obtain ⟨q, hq⟩ := (nodeOk_iff newP_ok).1 h
 have := (runV_ok newP_ok hq.run).1
 exact ⟨q, by unfold nodePF; rw [h]; exact this, hq.run, this⟩
theorem nodePF_small {n : Node} : SmallP (nodePF n) := by
 unfold nodePF
 split
 ·exact runV_small
 ·exact noP_small
section
variable {w : World} {A : Option Addr} {c : Nat} {n : Node}
theorem implNodeRun_c {x : Pool} (hC : kOp.C w A n.ops.length n.ops) (ho : SmallOs n.ops) (hr : runP newP n.ops = some x) :
  Calls Tryz.prog 52 #[.agg #[.bool n.up, .int .i64 n.term, .bool n.leads, .bool n.alone, .slice A n.ops.length c]] w (MadeP w x) := by
 have HC := Lib.hid hC
 have HO := Lib.hid ho
 have HRX := Lib.hid hr
 have HNP := Lib.hid implPoolNew_c
 obtain ⟨np, hnp⟩ : ∃ np, newP = np := ⟨_, rfl⟩
 have HNK : Hid (PoolP np) := Lib.hid (hnp ▸ newP_ok)
 rw [hnp] at HNP HRX
 clear hC ho hr hnp
 go_enter Tryz.func52, Tryz.ntmps52
 go_wp2
 have hN : Blk ((w.alloc (.cells (nC n A c) 25)).alloc (.cells #[.slice none 0 0, .slice none 0 0] 44)) w.heap.size (nC n A c) 25 := (Blk.new _ _ _).alloc _
 have hR : Blk ((w.alloc (.cells (nC n A c) 25)).alloc (.cells #[.slice none 0 0, .slice none 0 0] 44)) (w.heap.size + 1) #[.slice none 0 0, .slice none 0 0] 44 := Blk.nw2 _ _ _ _
 have hW : Bel w ((w.alloc (.cells (nC n A c) 25)).alloc (.cells #[.slice none 0 0, .slice none 0 0] 44)) := bel_alloc (bel_alloc (Below.refl _ _) _) _
 generalize ((w.alloc (.cells (nC n A c) 25)).alloc (.cells #[.slice none 0 0, .slice none 0 0] 44)) = W0 at hN hR hW ⊢
 have HW := Lib.hid hW
 have HR := Lib.hid hR
 have hfx := Lib.hid (fun (W : World) (hb : Bel W0.drew W) => (show W.cell? ⟨w.heap.size, 4, none⟩ = some (.slice A n.ops.length c) by rw [((hN.bel (Below.refl _ _).drew).bel hb).cell]; rfl))
 have hC1 : kOp.C W0.drew A n.ops.length n.ops := kOp_keep HC.out (hW.tr (Below.refl _ _).drew)
 have D0 : Hid (Bel W0.drew W0.drew) := Lib.hid (Below.refl _ _)
 have hrun := Lib.hid (fun (W' : World) (w0_ w1_ : Value) (bv : List Value) (h : OwnP W' W0.drew.heap.size w0_ w1_ np bv) (hb : Bel W0.drew W') => (by
  have h2 := runV_ok HNK.out HRX.out
  obtain ⟨A5, B5, k5, m5, rfl, rfl, hpi⟩ := h.reads
  have h3 := doAll_c (c2 := c) hpi HNK.out.small (kOp_keep hC1 hb) HO.out
  rw [h2.1, h2.2] at h3
  exact h3 : Calls Tryz.prog 85 #[.agg #[w0_, w1_], .slice A n.ops.length c] W' (MadePB W' x true)))
 clear hN hW hR hC1
 refine start_ (n := 10) (S := fun w' => w'.cell? ⟨w.heap.size, 4, none⟩ = some (.slice A n.ops.length c)) (ds := [8]) #[F, F, F, F, F, F, F, F, F, F] (by kernel_rfl) rfl rfl ((hfx.out _ D0.out)) (fun hHeld => ?_)
 refine py 1 (some 7) #[F, T, F, F, F, F, F, F, F, F] ?_
 refine ty 2 (some 8) #[F, T, T, F, F, F, F, F, F, F] (hS := hHeld) (hz := by intro w' s0; go_simp; with_reducible rfl) (h := ?_)
 refine join_ (σ := Option Addr × Nat × Option Addr × Nat × Option Addr × Nat × Option Addr × Nat × List Value × Nat) 2 #[T, T, T, T, T, T, T, T, F, F] (fun s => [(6, .agg #[.slice s.1 np.slots.length s.2.1, .slice s.2.2.1 np.vols.length s.2.2.2.1]), (9, .tuple #[.agg #[.slice s.2.2.2.2.1 x.slots.length s.2.2.2.2.2.1, .slice s.2.2.2.2.2.2.1 x.vols.length s.2.2.2.2.2.2.2.1], .bool true]), (5, .tuple #[.agg #[.slice s.2.2.2.2.1 x.slots.length s.2.2.2.2.2.1, .slice s.2.2.2.2.2.2.1 x.vols.length s.2.2.2.2.2.2.2.1], .bool true]), (10, .agg #[.slice s.2.2.2.2.1 x.slots.length s.2.2.2.2.2.1, .slice s.2.2.2.2.2.2.1 x.vols.length s.2.2.2.2.2.2.2.1]), (11, .bool true), (3, .pointer (some ⟨s.2.2.2.2.2.2.2.2.2, 0, none⟩))]) (fun s w' => (w'.cell? ⟨w.heap.size, 4, none⟩ = some (.slice A n.ops.length c)) ∧ OwnP w' W0.drew.heap.size (.slice s.2.2.2.2.1 x.slots.length s.2.2.2.2.2.1) (.slice s.2.2.2.2.2.2.1 x.vols.length s.2.2.2.2.2.2.2.1) x s.2.2.2.2.2.2.2.2.1 ∧ Blk w' s.2.2.2.2.2.2.2.2.2 #[.slice none 0 0, .slice none 0 0] 44 ∧ W0.drew.heap.size ≤ s.2.2.2.2.2.2.2.2.2 ∧ Bel W0.drew w') ?_ ?_
 rotate_left
 ·intro hCont
  refine two_ (i := 0) (j := 7) (Ni := some 6) (Nj := some 3) #[T, T, T, F, F, F, F, F, F, F] #[F, T, T, F, F, F, F, T, F, F] rfl rfl rfl rfl (by kernel_rfl) (by decide) (by decide) (fun K hK => ?_) (fun K hK => ?_)
  ·skip
   refine goes_ Tryz.func27 (by kernel_rfl) rfl #[] (by rfl) rfl rfl (by simp only [List.map_toArray, List.map_cons, List.map_nil]) ?_
   with_reducible refine (HNP.out _).mono ?_
   rintro e w1_ ⟨va, vb, bva, rfl, ho, X1⟩
   have D1 := Lib.hid (Bel.tr D0.out X1)
   obtain ⟨A5, B5, k5, m5, rfl, rfl, hpi⟩ := ho.reads
   have P1 : Hid (OwnP w1_ W0.drew.heap.size (.slice A5 np.slots.length k5) (.slice B5 np.vols.length m5) np bva) := Lib.hid (ho.lower D0.out.size)
   clear ho hpi
   refine ⟨_, rfl, ?_⟩
   refine hK.out _ _ ((hfx.out _ D1.out)) (fun hHeld => ?_)
   clear hK K
   refine nox 6 (h := ?_)
   refine two_ (i := 3) (j := 7) (Ni := some 9) (Nj := some 3) #[T, T, T, T, F, F, F, F, F, F] #[T, T, T, F, F, F, F, T, F, F] rfl rfl rfl rfl (by kernel_rfl) (by decide) (by decide) (fun K hK => ?_) (fun K hK => ?_)
   ·skip
    refine gox Tryz.func85 #[.agg #[.slice A5 np.slots.length k5, .slice B5 np.vols.length m5], .slice A n.ops.length c] ?_
    with_reducible refine (hrun.out _ _ _ _ P1.out D1.out).mono ?_
    rintro e w2_ ⟨vc, vd, bvc, rfl, ho, X2⟩
    have D2 : Hid (Bel W0.drew w2_) := Lib.hid (Bel.tr D1.out X2)
    obtain ⟨A2, A3, k2, k3, rfl, rfl, hpi⟩ := ho.reads
    have Q2 : Hid (OwnP w2_ W0.drew.heap.size (.slice A2 x.slots.length k2) (.slice A3 x.vols.length k3) x bvc) := Lib.hid (ho.lower D1.out.size)
    clear ho hpi
    refine ⟨_, rfl, ?_⟩
    refine hK.out _ _ ((hfx.out _ D2.out)) (fun hHeld => ?_)
    clear hK K
    refine nox 9 (h := ?_)
    refine py 4 (some 5) #[T, T, T, T, T, F, F, F, F, F] ?_
    refine py 5 (some 10) #[T, T, T, T, T, T, F, F, F, F] ?_
    refine py 6 (some 11) #[T, T, T, T, T, T, T, F, F, F] ?_
    refine ox 7 (some 3) #[T, T, T, T, T, T, T, T, F, F] fun K hK => ?_
    refine vx ?_
    have D3 : Hid (Bel W0.drew (w2_.alloc (.cells #[.slice none 0 0, .slice none 0 0] 44))) := Lib.hid (bel_alloc D2.out (.cells #[.slice none 0 0, .slice none 0 0] 44))
    have Q3 := Lib.hid (OwnP.bel Q2.out (bel_alloc (Below.refl _ _) (.cells #[.slice none 0 0, .slice none 0 0] 44)))
    have O3 : Hid (Blk (w2_.alloc (.cells #[.slice none 0 0, .slice none 0 0] 44)) w2_.heap.size #[.slice none 0 0, .slice none 0 0] 44) := Lib.hid (Blk.new w2_ _ _)
    have L3 := D2.out.size
    refine hK.out _ _ ((hfx.out _ D3.out)) (fun hHeld => ?_)
    clear hK K
    refine nox 3 (h := ?_)
    exact nof (hCont (A5, k5, B5, m5, A2, k2, A3, k3, bvc, w2_.heap.size) _ ⟨hHeld, Q3.out, O3.out, L3, D3.out⟩)
   ·skip
    refine vx ?_
    have D2 : Hid (Bel W0.drew (w1_.alloc (.cells #[.slice none 0 0, .slice none 0 0] 44))) := Lib.hid (bel_alloc D1.out (.cells #[.slice none 0 0, .slice none 0 0] 44))
    have P2 := Lib.hid (OwnP.bel P1.out (bel_alloc (Below.refl _ _) (.cells #[.slice none 0 0, .slice none 0 0] 44)))
    have O2 : Hid (Blk (w1_.alloc (.cells #[.slice none 0 0, .slice none 0 0] 44)) w1_.heap.size #[.slice none 0 0, .slice none 0 0] 44) := Lib.hid (Blk.new w1_ _ _)
    have L2 := D1.out.size
    refine hK.out _ _ ((hfx.out _ D2.out)) (fun hHeld => ?_)
    clear hK K
    refine nox 3 (h := ?_)
    refine ox 3 (some 9) #[T, T, T, T, F, F, F, T, F, F] fun K hK => ?_
    refine gox Tryz.func85 #[.agg #[.slice A5 np.slots.length k5, .slice B5 np.vols.length m5], .slice A n.ops.length c] ?_
    with_reducible refine (hrun.out _ _ _ _ P2.out D2.out).mono ?_
    rintro e w3_ ⟨vc, vd, bvc, rfl, ho, X3⟩
    have D3 : Hid (Bel W0.drew w3_) := Lib.hid (Bel.tr D2.out X3)
    obtain ⟨A2, A3, k2, k3, rfl, rfl, hpi⟩ := ho.reads
    have Q3 : Hid (OwnP w3_ W0.drew.heap.size (.slice A2 x.slots.length k2) (.slice A3 x.vols.length k3) x bvc) := Lib.hid (ho.lower D2.out.size)
    clear ho hpi
    have O3 := Lib.hid (Blk.bel O2.out X3)
    refine ⟨_, rfl, ?_⟩
    refine hK.out _ _ ((hfx.out _ D3.out)) (fun hHeld => ?_)
    clear hK K
    refine nox 9 (h := ?_)
    refine py 4 (some 5) #[T, T, T, T, T, F, F, T, F, F] ?_
    refine py 5 (some 10) #[T, T, T, T, T, T, F, T, F, F] ?_
    refine py 6 (some 11) #[T, T, T, T, T, T, T, T, F, F] ?_
    exact nof (hCont (A5, k5, B5, m5, A2, k2, A3, k3, bvc, w1_.heap.size) _ ⟨hHeld, Q3.out, O3.out, L2, D3.out⟩)
  ·skip
   refine vx ?_
   have D1 : Hid (Bel W0.drew (W0.alloc (.cells #[.slice none 0 0, .slice none 0 0] 44)).drew) := Lib.hid (bel_alloc D0.out (.cells #[.slice none 0 0, .slice none 0 0] 44))
   have O1 : Hid (Blk (W0.alloc (.cells #[.slice none 0 0, .slice none 0 0] 44)).drew W0.drew.heap.size #[.slice none 0 0, .slice none 0 0] 44) := Lib.hid (Blk.new W0.drew _ _)
   have L1 := D0.out.size
   refine hK.out _ _ ((hfx.out _ D1.out)) (fun hHeld => ?_)
   clear hK K
   refine nox 3 (h := ?_)
   refine ox 0 (some 6) #[T, T, T, F, F, F, F, T, F, F] fun K hK => ?_
   refine goes_ Tryz.func27 (by kernel_rfl) rfl #[] (by rfl) rfl rfl (by simp only [List.map_toArray, List.map_cons, List.map_nil]) ?_
   with_reducible refine (HNP.out _).mono ?_
   rintro e w2_ ⟨va, vb, bva, rfl, ho, X2⟩
   have D2 := Lib.hid (Bel.tr D1.out X2)
   obtain ⟨A5, B5, k5, m5, rfl, rfl, hpi⟩ := ho.reads
   have O2 := Lib.hid (Blk.bel O1.out X2)
   have P2 : Hid (OwnP w2_ W0.drew.heap.size (.slice A5 np.slots.length k5) (.slice B5 np.vols.length m5) np bva) := Lib.hid (ho.lower D1.out.size)
   clear ho hpi
   refine ⟨_, rfl, ?_⟩
   refine hK.out _ _ ((hfx.out _ D2.out)) (fun hHeld => ?_)
   clear hK K
   refine nox 6 (h := ?_)
   refine ox 3 (some 9) #[T, T, T, T, F, F, F, T, F, F] fun K hK => ?_
   refine gox Tryz.func85 #[.agg #[.slice A5 np.slots.length k5, .slice B5 np.vols.length m5], .slice A n.ops.length c] ?_
   with_reducible refine (hrun.out _ _ _ _ P2.out D2.out).mono ?_
   rintro e w3_ ⟨vc, vd, bvc, rfl, ho, X3⟩
   have D3 : Hid (Bel W0.drew w3_) := Lib.hid (Bel.tr D2.out X3)
   obtain ⟨A2, A3, k2, k3, rfl, rfl, hpi⟩ := ho.reads
   have Q3 : Hid (OwnP w3_ W0.drew.heap.size (.slice A2 x.slots.length k2) (.slice A3 x.vols.length k3) x bvc) := Lib.hid (ho.lower D2.out.size)
   clear ho hpi
   have O3 := Lib.hid (Blk.bel O2.out X3)
   refine ⟨_, rfl, ?_⟩
   refine hK.out _ _ ((hfx.out _ D3.out)) (fun hHeld => ?_)
   clear hK K
   refine nox 9 (h := ?_)
   refine py 4 (some 5) #[T, T, T, T, T, F, F, T, F, F] ?_
   refine py 5 (some 10) #[T, T, T, T, T, T, F, T, F, F] ?_
   refine py 6 (some 11) #[T, T, T, T, T, T, T, T, F, F] ?_
   exact nof (hCont (A5, k5, B5, m5, A2, k2, A3, k3, bvc, W0.heap.size) _ ⟨hHeld, Q3.out, O3.out, L1, D3.out⟩)
 rintro ⟨A5, k5, B5, m5, A2, k2, A3, k3, bvc, nb⟩ w3 ⟨hHeld, hQ, hO, hL, hD⟩
 dsimp only at hQ hO hL
 obtain ⟨r0, r1, f0, f1, -⟩ := k2f hO
 refine norm_ (a' := ?_) ?_ ?_
 rotate_left
 ·simp only [putAll, Act.put, lA, lB, lC]
  rfl
 refine lx 8 none #[T, T, T, T, T, T, T, T, T, F] fun K hK => ?_
 refine sx ?_
 refine hK.out _ _ ?_
 clear hK K
 refine py 9 (some 4) #[T, T, T, T, T, T, T, T, T, T] ?_
 refine done_ (by kernel_rfl) ?_
 have hO1 := hO.set 0 (.slice A2 x.slots.length k2) (cs' := #[.slice A2 x.slots.length k2, .slice none 0 0]) rfl
 have hO2 := hO1.set 1 (.slice A3 x.vols.length k3) (cs' := #[.slice A2 x.slots.length k2, .slice A3 x.vols.length k3]) rfl
 have hq2 := (hQ.far hO (by decide) (by decide) (by decide) 0 (.slice A2 x.slots.length k2)).far hO1 (by decide) (by decide) (by decide) 1 (.slice A3 x.vols.length k3)
 have hb5 : Bel W0.drew ((w3.setCell ⟨nb, 0, none⟩ (.slice A2 x.slots.length k2)).setCell ⟨nb, 1, none⟩ (.slice A3 x.vols.length k3)) := bel_set (bel_set hD hL 0 (.slice A2 x.slots.length k2)) hL 1 (.slice A3 x.vols.length k3)
 have hR3 : Blk w3 (w.heap.size + 1) #[.slice none 0 0, .slice none 0 0] 44 := Blk.bel (w := W0.drew) (HR.out.bel (Below.refl _ _).drew) hD
 have hne : ¬ nb = w.heap.size + 1 := by have h1 := HR.out.lt; have hsz : W0.drew.heap.size = W0.heap.size := rfl; omega
 have hR4 := (hR3.apart hne 0 (.slice A2 x.slots.length k2)).apart hne 1 (.slice A3 x.vols.length k3)
 clear hO hO1 hD hL hQ f0 f1 r0 r1 hHeld D0 hrun hR3
 generalize ((w3.setCell ⟨nb, 0, none⟩ (.slice A2 x.slots.length k2)).setCell ⟨nb, 1, none⟩ (.slice A3 x.vols.length k3)) = W6 at hO2 hq2 hb5 hR4 ⊢
 have HB := Lib.hid (Bel.tr (b := W0.drew) (HW.out.tr (Below.refl _ _).drew) hb5)
 have HU := Lib.hid (hq2.lower (HW.out.tr (Below.refl _ _).drew).size)
 have HR6 := Lib.hid hR4
 obtain ⟨t0, t1, ty⟩ := k2c hO2
 obtain ⟨u0, u1, g0, g1, y⟩ := k2f HR6.out
 clear hO2 hq2 hb5 hR4
 go_wp2
 have hR1 := HR6.out.set 0 (.slice A2 x.slots.length k2) (cs' := #[.slice A2 x.slots.length k2, .slice none 0 0]) rfl
 have hR2 := hR1.set 1 (.slice A3 x.vols.length k3) (cs' := #[.slice A2 x.slots.length k2, .slice A3 x.vols.length k3]) rfl
 have hu2 := (HU.out.far HR6.out (by decide) (by decide) (by decide) 0 (.slice A2 x.slots.length k2)).far hR1 (by decide) (by decide) (by decide) 1 (.slice A3 x.vols.length k3)
 have hb3 := bel_set (bel_set HB.out (Nat.le_succ _) 0 (.slice A2 x.slots.length k2)) (Nat.le_succ _) 1 (.slice A3 x.vols.length k3)
 refine bodyPost_ret (results_cell_row rfl _ _ (w.heap.size + 1) 44 #[.slice A2 x.slots.length k2, .slice A3 x.vols.length k3] (0, 0) _ rfl hR2 Tryz.underlying44 rfl (by kernel_rfl)) rfl ?_
 exact ⟨_, _, bvc, rfl, hu2, hb3⟩
theorem implNodePool_c (hC : kOp.C w A n.ops.length n.ops) (ho : SmallOs n.ops) :
  Calls Tryz.prog 23 #[.agg #[.bool n.up, .int .i64 n.term, .bool n.leads, .bool n.alone, .slice A n.ops.length c]] w (MadeP w (nodePF n)) := by
 have HC := Lib.hid hC
 have HO := Lib.hid ho
 obtain ⟨x, hx⟩ : ∃ x, nodePF n = x := ⟨_, rfl⟩
 rw [hx]
 have HX := Lib.hid hx
 clear hC ho hx
 go_enter Tryz.func23, Tryz.ntmps23
 go_wp2_with fail
 have hN : Blk ((w.alloc (.cells (nC n A c) 25)).alloc (.cells #[.slice none 0 0, .slice none 0 0] 44)) w.heap.size (nC n A c) 25 := (Blk.new _ _ _).alloc _
 have hR : Blk ((w.alloc (.cells (nC n A c) 25)).alloc (.cells #[.slice none 0 0, .slice none 0 0] 44)) (w.heap.size + 1) #[.slice none 0 0, .slice none 0 0] 44 := Blk.nw2 _ _ _ _
 have hW : Bel w ((w.alloc (.cells (nC n A c) 25)).alloc (.cells #[.slice none 0 0, .slice none 0 0] 44)) := bel_alloc (bel_alloc (Below.refl _ _) _) _
 generalize ((w.alloc (.cells (nC n A c) 25)).alloc (.cells #[.slice none 0 0, .slice none 0 0] 44)) = W0 at hN hR hW ⊢
 have HK := Lib.hid (implNodeOk_c (n := n) (c := c) (kOp_keep HC.out hW) HO.out)
 cases hok : nodeOk n with
 | false =>
  obtain rfl : noP = x := (nodePF_no hok).symm.trans HX.out
  rw [hok] at HK
  clear hok
  refine HK.out.mono ?_
  rintro e w1 ⟨rfl, hb1⟩
  have HR := Lib.hid (hR.bel hb1)
  have HB := Lib.hid (hW.tr hb1)
  obtain ⟨r0, r1, f0, f1, y⟩ := k2f HR.out
  clear hN hR hb1 hW
  go_wp2
  have hR2 := (HR.out.set 0 (.slice none 0 0) (cs' := #[.slice none 0 0, .slice none 0 0]) rfl).set 1 (.slice none 0 0) (cs' := #[.slice none 0 0, .slice none 0 0]) rfl
  refine bodyPost_ret (results_cell_row rfl _ _ (w.heap.size + 1) 44 #[.slice none 0 0, .slice none 0 0] (0, 0) _ rfl hR2 Tryz.underlying44 rfl (by kernel_rfl)) rfl ?_
  exact ⟨_, _, [], rfl, OwnP.none _ _, bel_set (bel_set HB.out (Nat.le_succ _) 0 (.slice none 0 0)) (Nat.le_succ _) 1 (.slice none 0 0)⟩
 | true =>
  obtain ⟨q, h1, h2, h3⟩ := nodePF_yes hok
  obtain rfl : q = x := h1.symm.trans HX.out
  have HRX := Lib.hid h2
  rw [hok] at HK
  clear hok h1 h2 h3
  refine HK.out.mono ?_
  rintro e w1 ⟨rfl, hb1⟩
  have KN := Lib.hid (hN.bel hb1)
  have KR := Lib.hid (hR.bel hb1)
  have KW := Lib.hid (hW.tr hb1)
  clear hN hR hb1 hW
  obtain ⟨q0, q1, q2, q3, q4, y⟩ := k5c KN.out
  go_wp2_with fail
  refine (implNodeRun_c (n := n) (kOp_keep HC.out KW.out) HO.out HRX.out).mono ?_
  clear q0 q1 q2 q3 q4 y
  rintro e w2 ⟨u0, u1, bu, rfl, hu, hb2⟩
  obtain ⟨E0, E1, k0, k1, rfl, rfl, hpi⟩ := hu.reads
  have HR := Lib.hid (KR.out.bel hb2)
  have HB := Lib.hid (KW.out.tr hb2)
  have HU := Lib.hid (hu.lower KW.out.size)
  obtain ⟨r0, r1, f0, f1, y⟩ := k2f HR.out
  clear hpi hu hb2
  go_wp2
  have hR1 := HR.out.set 0 (.slice E0 q.slots.length k0) (cs' := #[.slice E0 q.slots.length k0, .slice none 0 0]) rfl
  have hR2 := hR1.set 1 (.slice E1 q.vols.length k1) (cs' := #[.slice E0 q.slots.length k0, .slice E1 q.vols.length k1]) rfl
  have hu2 := (HU.out.far HR.out (by decide) (by decide) (by decide) 0 (.slice E0 q.slots.length k0)).far hR1 (by decide) (by decide) (by decide) 1 (.slice E1 q.vols.length k1)
  have hb3 := bel_set (bel_set HB.out (Nat.le_succ _) 0 (.slice E0 q.slots.length k0)) (Nat.le_succ _) 1 (.slice E1 q.vols.length k1)
  refine bodyPost_ret (results_cell_row rfl _ _ (w.heap.size + 1) 44 #[.slice E0 q.slots.length k0, .slice E1 q.vols.length k1] (0, 0) _ rfl hR2 Tryz.underlying44 rfl (by kernel_rfl)) rfl ?_
  exact ⟨_, _, bu, rfl, hu2, hb3⟩
theorem specNodePool_c (hC : kOp.C w A n.ops.length n.ops) (ho : SmallOs n.ops) :
  Calls Tryz.prog 25 #[.agg #[.bool n.up, .int .i64 n.term, .bool n.leads, .bool n.alone, .slice A n.ops.length c]] w (MadeP w (nodePF n)) := by
 have HNP := Lib.hid specPoolNew_c
 have HNK := Lib.hid newP_ok
 have HC := Lib.hid hC
 have HO := Lib.hid ho
 obtain ⟨x, hx⟩ : ∃ x, nodePF n = x := ⟨_, rfl⟩
 rw [hx]
 have HX := Lib.hid hx
 clear hC ho hx
 go_enter Tryz.func25, Tryz.ntmps25
 go_wp2_with fail
 have hN : Blk ((w.alloc (.cells (nC n A c) 25)).alloc (.cells #[.slice none 0 0, .slice none 0 0] 44)) w.heap.size (nC n A c) 25 := (Blk.new _ _ _).alloc _
 have hR : Blk ((w.alloc (.cells (nC n A c) 25)).alloc (.cells #[.slice none 0 0, .slice none 0 0] 44)) (w.heap.size + 1) #[.slice none 0 0, .slice none 0 0] 44 := Blk.nw2 _ _ _ _
 have hW : Bel w ((w.alloc (.cells (nC n A c) 25)).alloc (.cells #[.slice none 0 0, .slice none 0 0] 44)) := bel_alloc (bel_alloc (Below.refl _ _) _) _
 generalize ((w.alloc (.cells (nC n A c) 25)).alloc (.cells #[.slice none 0 0, .slice none 0 0] 44)) = W0 at hN hR hW ⊢
 have HK := Lib.hid (specNodeOk_c (n := n) (c := c) (kOp_keep HC.out hW) HO.out)
 cases hok : nodeOk n with
 | false =>
  obtain rfl : noP = x := (nodePF_no hok).symm.trans HX.out
  rw [hok] at HK
  clear hok
  refine HK.out.mono ?_
  rintro e w1 ⟨rfl, hb1⟩
  have HR := Lib.hid (hR.bel hb1)
  have HB := Lib.hid (hW.tr hb1)
  obtain ⟨r0, r1, f0, f1, y⟩ := k2f HR.out
  clear hN hR hb1 hW
  go_wp2
  have hR2 := (HR.out.set 0 (.slice none 0 0) (cs' := #[.slice none 0 0, .slice none 0 0]) rfl).set 1 (.slice none 0 0) (cs' := #[.slice none 0 0, .slice none 0 0]) rfl
  refine bodyPost_ret (results_cell_row rfl _ _ (w.heap.size + 1) 44 #[.slice none 0 0, .slice none 0 0] (0, 0) _ rfl hR2 Tryz.underlying44 rfl (by kernel_rfl)) rfl ?_
  exact ⟨_, _, [], rfl, OwnP.none _ _, bel_set (bel_set HB.out (Nat.le_succ _) 0 (.slice none 0 0)) (Nat.le_succ _) 1 (.slice none 0 0)⟩
 | true =>
  obtain ⟨q, h1, h2, h3⟩ := nodePF_yes hok
  obtain rfl : x = q := HX.out.symm.trans h1
  have HRX := Lib.hid h2
  rw [hok] at HK
  have hrs : (runP newP n.ops).isSome = true := by rw [h2]; rfl
  clear hok h1 h2 h3
  refine HK.out.mono ?_
  rintro e w1 ⟨rfl, hb1⟩
  replace hN := hN.bel hb1
  replace hR := hR.bel hb1
  replace hW := hW.tr hb1
  go_wp2
  have HW := Lib.hid hW
  have HR := Lib.hid hR
  have hfx := Lib.hid (fun (W : World) (hb : Bel w1.drew W) => (show W.cell? ⟨w.heap.size, 4, none⟩ = some (.slice A n.ops.length c) by rw [((hN.bel (Below.refl _ _).drew).bel hb).cell]; rfl))
  have hC1 : kOp.C w1.drew A n.ops.length n.ops := kOp_keep HC.out (hW.tr (Below.refl _ _).drew)
  have D0 : Hid (Bel w1.drew w1.drew) := Lib.hid (Below.refl _ _)
  have hrun := Lib.hid (fun (W' : World) (v0 v1 : Value) (bvs : List Value) (h : OwnP W' w1.drew.heap.size v0 v1 newP bvs) (hb : Bel w1.drew W') => l13Run_c (c2 := c) h newP_ok (Below.size hb) hC1 (Nat.le_refl _) hb HO.out)
  unfold RunsP at hrun
  rw [hrs] at hrun
  obtain ⟨np, hnp⟩ : ∃ np, newP = np := ⟨_, rfl⟩
  rw [hnp] at HNP HRX hrun
  clear hN hW hR hC1 hrs hnp hb1
  refine start_ (n := 10) (S := fun w' => w'.cell? ⟨w.heap.size, 4, none⟩ = some (.slice A n.ops.length c)) (ds := [8]) #[F, F, F, F, F, F, F, F, F, F] (by kernel_rfl) rfl rfl ((hfx.out _ D0.out)) (fun hHeld => ?_)
  refine py 1 (some 11) #[F, T, F, F, F, F, F, F, F, F] ?_
  refine ty 2 (some 12) #[F, T, T, F, F, F, F, F, F, F] (hS := hHeld) (hz := by intro w' s0; go_simp; with_reducible rfl) (h := ?_)
  refine join_ (σ := Option Addr × Nat × Option Addr × Nat × Option Addr × Nat × Option Addr × Nat × List Value × Nat) 2 #[T, T, T, T, T, T, T, T, F, F] (fun s => [(10, .agg #[.slice s.1 np.slots.length s.2.1, .slice s.2.2.1 np.vols.length s.2.2.2.1]), (13, .tuple #[.agg #[.slice s.2.2.2.2.1 x.slots.length s.2.2.2.2.2.1, .slice s.2.2.2.2.2.2.1 x.vols.length s.2.2.2.2.2.2.2.1], .bool true]), (9, .tuple #[.agg #[.slice s.2.2.2.2.1 x.slots.length s.2.2.2.2.2.1, .slice s.2.2.2.2.2.2.1 x.vols.length s.2.2.2.2.2.2.2.1], .bool true]), (14, .agg #[.slice s.2.2.2.2.1 x.slots.length s.2.2.2.2.2.1, .slice s.2.2.2.2.2.2.1 x.vols.length s.2.2.2.2.2.2.2.1]), (15, .bool true), (3, .pointer (some ⟨s.2.2.2.2.2.2.2.2.2, 0, none⟩))]) (fun s w' => (w'.cell? ⟨w.heap.size, 4, none⟩ = some (.slice A n.ops.length c)) ∧ OwnP w' w1.drew.heap.size (.slice s.2.2.2.2.1 x.slots.length s.2.2.2.2.2.1) (.slice s.2.2.2.2.2.2.1 x.vols.length s.2.2.2.2.2.2.2.1) x s.2.2.2.2.2.2.2.2.1 ∧ Blk w' s.2.2.2.2.2.2.2.2.2 #[.slice none 0 0, .slice none 0 0] 44 ∧ w1.drew.heap.size ≤ s.2.2.2.2.2.2.2.2.2 ∧ Bel w1.drew w') ?_ ?_
  rotate_left
  ·intro hCont
   refine two_ (i := 0) (j := 7) (Ni := some 10) (Nj := some 3) #[T, T, T, F, F, F, F, F, F, F] #[F, T, T, F, F, F, F, T, F, F] rfl rfl rfl rfl (by kernel_rfl) (by decide) (by decide) (fun K hK => ?_) (fun K hK => ?_)
   ·skip
    refine goes_ Tryz.func51 (by kernel_rfl) rfl #[] (by rfl) rfl rfl (by simp only [List.map_toArray, List.map_cons, List.map_nil]) ?_
    with_reducible refine (HNP.out _).mono ?_
    rintro e w1_ ⟨va, vb, bva, rfl, ho, X1⟩
    have D1 := Lib.hid (Bel.tr D0.out X1)
    obtain ⟨A5, B5, k5, m5, rfl, rfl, hpi⟩ := ho.reads
    have P1 : Hid (OwnP w1_ w1.drew.heap.size (.slice A5 np.slots.length k5) (.slice B5 np.vols.length m5) np bva) := Lib.hid (ho.lower D0.out.size)
    clear ho hpi
    refine ⟨_, rfl, ?_⟩
    refine hK.out _ _ ((hfx.out _ D1.out)) (fun hHeld => ?_)
    clear hK K
    refine nox 10 (h := ?_)
    refine two_ (i := 3) (j := 7) (Ni := some 13) (Nj := some 3) #[T, T, T, T, F, F, F, F, F, F] #[T, T, T, F, F, F, F, T, F, F] rfl rfl rfl rfl (by kernel_rfl) (by decide) (by decide) (fun K hK => ?_) (fun K hK => ?_)
    ·skip
     refine gox Tryz.func50 #[.agg #[.slice A5 np.slots.length k5, .slice B5 np.vols.length m5], .slice A n.ops.length c] ?_
     with_reducible refine (hrun.out _ _ _ _ P1.out D1.out).mono ?_
     rintro e w2_ ⟨A2, A3, n2, n3, k2, k3, rfl, hq, X2⟩
     have D2 : Hid (Bel w1.drew w2_) := Lib.hid (D1.out.trans X2.b)
     obtain ⟨bvc, hq2⟩ := hq x HRX.out
     obtain ⟨E0, E1, d0, d1, e0, e1, hpi⟩ := hq2.reads
     have e0 := slice_eq e0
     have e1 := slice_eq e1
     obtain ⟨rfl, rfl, rfl⟩ := e0
     obtain ⟨rfl, rfl, rfl⟩ := e1
     have Q2 := Lib.hid hq2
     clear hq hq2 hpi
     refine ⟨_, rfl, ?_⟩
     refine hK.out _ _ ((hfx.out _ D2.out)) (fun hHeld => ?_)
     clear hK K
     refine nox 13 (h := ?_)
     refine py 4 (some 9) #[T, T, T, T, T, F, F, F, F, F] ?_
     refine py 5 (some 14) #[T, T, T, T, T, T, F, F, F, F] ?_
     refine py 6 (some 15) #[T, T, T, T, T, T, T, F, F, F] ?_
     refine ox 7 (some 3) #[T, T, T, T, T, T, T, T, F, F] fun K hK => ?_
     refine vx ?_
     have D3 : Hid (Bel w1.drew (w2_.alloc (.cells #[.slice none 0 0, .slice none 0 0] 44))) := Lib.hid (bel_alloc D2.out (.cells #[.slice none 0 0, .slice none 0 0] 44))
     have Q3 := Lib.hid (OwnP.bel Q2.out (bel_alloc (Below.refl _ _) (.cells #[.slice none 0 0, .slice none 0 0] 44)))
     have O3 : Hid (Blk (w2_.alloc (.cells #[.slice none 0 0, .slice none 0 0] 44)) w2_.heap.size #[.slice none 0 0, .slice none 0 0] 44) := Lib.hid (Blk.new w2_ _ _)
     have L3 := D2.out.size
     refine hK.out _ _ ((hfx.out _ D3.out)) (fun hHeld => ?_)
     clear hK K
     refine nox 3 (h := ?_)
     exact nof (hCont (A5, k5, B5, m5, A2, k2, A3, k3, bvc, w2_.heap.size) _ ⟨hHeld, Q3.out, O3.out, L3, D3.out⟩)
    ·skip
     refine vx ?_
     have D2 : Hid (Bel w1.drew (w1_.alloc (.cells #[.slice none 0 0, .slice none 0 0] 44))) := Lib.hid (bel_alloc D1.out (.cells #[.slice none 0 0, .slice none 0 0] 44))
     have P2 := Lib.hid (OwnP.bel P1.out (bel_alloc (Below.refl _ _) (.cells #[.slice none 0 0, .slice none 0 0] 44)))
     have O2 : Hid (Blk (w1_.alloc (.cells #[.slice none 0 0, .slice none 0 0] 44)) w1_.heap.size #[.slice none 0 0, .slice none 0 0] 44) := Lib.hid (Blk.new w1_ _ _)
     have L2 := D1.out.size
     refine hK.out _ _ ((hfx.out _ D2.out)) (fun hHeld => ?_)
     clear hK K
     refine nox 3 (h := ?_)
     refine ox 3 (some 13) #[T, T, T, T, F, F, F, T, F, F] fun K hK => ?_
     refine gox Tryz.func50 #[.agg #[.slice A5 np.slots.length k5, .slice B5 np.vols.length m5], .slice A n.ops.length c] ?_
     with_reducible refine (hrun.out _ _ _ _ P2.out D2.out).mono ?_
     rintro e w3_ ⟨A2, A3, n2, n3, k2, k3, rfl, hq, X3⟩
     have D3 : Hid (Bel w1.drew w3_) := Lib.hid (D2.out.trans X3.b)
     obtain ⟨bvc, hq2⟩ := hq x HRX.out
     obtain ⟨E0, E1, d0, d1, e0, e1, hpi⟩ := hq2.reads
     have e0 := slice_eq e0
     have e1 := slice_eq e1
     obtain ⟨rfl, rfl, rfl⟩ := e0
     obtain ⟨rfl, rfl, rfl⟩ := e1
     have Q3 := Lib.hid hq2
     clear hq hq2 hpi
     have O3 := Lib.hid (X3.k _ _ _ (by decide) (by decide) (by decide) O2.out)
     refine ⟨_, rfl, ?_⟩
     refine hK.out _ _ ((hfx.out _ D3.out)) (fun hHeld => ?_)
     clear hK K
     refine nox 13 (h := ?_)
     refine py 4 (some 9) #[T, T, T, T, T, F, F, T, F, F] ?_
     refine py 5 (some 14) #[T, T, T, T, T, T, F, T, F, F] ?_
     refine py 6 (some 15) #[T, T, T, T, T, T, T, T, F, F] ?_
     exact nof (hCont (A5, k5, B5, m5, A2, k2, A3, k3, bvc, w1_.heap.size) _ ⟨hHeld, Q3.out, O3.out, L2, D3.out⟩)
   ·skip
    refine vx ?_
    have D1 : Hid (Bel w1.drew (w1.alloc (.cells #[.slice none 0 0, .slice none 0 0] 44)).drew) := Lib.hid (bel_alloc D0.out (.cells #[.slice none 0 0, .slice none 0 0] 44))
    have O1 : Hid (Blk (w1.alloc (.cells #[.slice none 0 0, .slice none 0 0] 44)).drew w1.drew.heap.size #[.slice none 0 0, .slice none 0 0] 44) := Lib.hid (Blk.new w1.drew _ _)
    have L1 := D0.out.size
    refine hK.out _ _ ((hfx.out _ D1.out)) (fun hHeld => ?_)
    clear hK K
    refine nox 3 (h := ?_)
    refine ox 0 (some 10) #[T, T, T, F, F, F, F, T, F, F] fun K hK => ?_
    refine goes_ Tryz.func51 (by kernel_rfl) rfl #[] (by rfl) rfl rfl (by simp only [List.map_toArray, List.map_cons, List.map_nil]) ?_
    with_reducible refine (HNP.out _).mono ?_
    rintro e w2_ ⟨va, vb, bva, rfl, ho, X2⟩
    have D2 := Lib.hid (Bel.tr D1.out X2)
    obtain ⟨A5, B5, k5, m5, rfl, rfl, hpi⟩ := ho.reads
    have O2 := Lib.hid (Blk.bel O1.out X2)
    have P2 : Hid (OwnP w2_ w1.drew.heap.size (.slice A5 np.slots.length k5) (.slice B5 np.vols.length m5) np bva) := Lib.hid (ho.lower D1.out.size)
    clear ho hpi
    refine ⟨_, rfl, ?_⟩
    refine hK.out _ _ ((hfx.out _ D2.out)) (fun hHeld => ?_)
    clear hK K
    refine nox 10 (h := ?_)
    refine ox 3 (some 13) #[T, T, T, T, F, F, F, T, F, F] fun K hK => ?_
    refine gox Tryz.func50 #[.agg #[.slice A5 np.slots.length k5, .slice B5 np.vols.length m5], .slice A n.ops.length c] ?_
    with_reducible refine (hrun.out _ _ _ _ P2.out D2.out).mono ?_
    rintro e w3_ ⟨A2, A3, n2, n3, k2, k3, rfl, hq, X3⟩
    have D3 : Hid (Bel w1.drew w3_) := Lib.hid (D2.out.trans X3.b)
    obtain ⟨bvc, hq2⟩ := hq x HRX.out
    obtain ⟨E0, E1, d0, d1, e0, e1, hpi⟩ := hq2.reads
    have e0 := slice_eq e0
    have e1 := slice_eq e1
    obtain ⟨rfl, rfl, rfl⟩ := e0
    obtain ⟨rfl, rfl, rfl⟩ := e1
    have Q3 := Lib.hid hq2
    clear hq hq2 hpi
    have O3 := Lib.hid (X3.k _ _ _ (by decide) (by decide) (by decide) O2.out)
    refine ⟨_, rfl, ?_⟩
    refine hK.out _ _ ((hfx.out _ D3.out)) (fun hHeld => ?_)
    clear hK K
    refine nox 13 (h := ?_)
    refine py 4 (some 9) #[T, T, T, T, T, F, F, T, F, F] ?_
    refine py 5 (some 14) #[T, T, T, T, T, T, F, T, F, F] ?_
    refine py 6 (some 15) #[T, T, T, T, T, T, T, T, F, F] ?_
    exact nof (hCont (A5, k5, B5, m5, A2, k2, A3, k3, bvc, w1.heap.size) _ ⟨hHeld, Q3.out, O3.out, L1, D3.out⟩)
  rintro ⟨A5, k5, B5, m5, A2, k2, A3, k3, bvc, nb⟩ w3 ⟨hHeld, hQ, hO, hL, hD⟩
  dsimp only at hQ hO hL
  obtain ⟨r0, r1, f0, f1, -⟩ := k2f hO
  refine norm_ (a' := ?_) ?_ ?_
  rotate_left
  ·simp only [putAll, Act.put, lA, lB, lC]
   rfl
  refine lx 8 none #[T, T, T, T, T, T, T, T, T, F] fun K hK => ?_
  refine sx ?_
  refine hK.out _ _ ?_
  clear hK K
  refine py 9 (some 4) #[T, T, T, T, T, T, T, T, T, T] ?_
  refine done_ (by kernel_rfl) ?_
  have hO1 := hO.set 0 (.slice A2 x.slots.length k2) (cs' := #[.slice A2 x.slots.length k2, .slice none 0 0]) rfl
  have hO2 := hO1.set 1 (.slice A3 x.vols.length k3) (cs' := #[.slice A2 x.slots.length k2, .slice A3 x.vols.length k3]) rfl
  have hq2 := (hQ.far hO (by decide) (by decide) (by decide) 0 (.slice A2 x.slots.length k2)).far hO1 (by decide) (by decide) (by decide) 1 (.slice A3 x.vols.length k3)
  have hb5 : Bel w1.drew ((w3.setCell ⟨nb, 0, none⟩ (.slice A2 x.slots.length k2)).setCell ⟨nb, 1, none⟩ (.slice A3 x.vols.length k3)) := bel_set (bel_set hD hL 0 (.slice A2 x.slots.length k2)) hL 1 (.slice A3 x.vols.length k3)
  have hR3 : Blk w3 (w.heap.size + 1) #[.slice none 0 0, .slice none 0 0] 44 := Blk.bel (w := w1.drew) (HR.out.bel (Below.refl _ _).drew) hD
  have hne : ¬ nb = w.heap.size + 1 := by have h1 := HR.out.lt; have hsz : w1.drew.heap.size = w1.heap.size := rfl; omega
  have hR4 := (hR3.apart hne 0 (.slice A2 x.slots.length k2)).apart hne 1 (.slice A3 x.vols.length k3)
  clear hO hO1 hD hL hQ f0 f1 r0 r1 hHeld D0 hrun hR3
  generalize ((w3.setCell ⟨nb, 0, none⟩ (.slice A2 x.slots.length k2)).setCell ⟨nb, 1, none⟩ (.slice A3 x.vols.length k3)) = W6 at hO2 hq2 hb5 hR4 ⊢
  have HB := Lib.hid (Bel.tr (b := w1.drew) (HW.out.tr (Below.refl _ _).drew) hb5)
  have HU := Lib.hid (hq2.lower (HW.out.tr (Below.refl _ _).drew).size)
  have HR6 := Lib.hid hR4
  obtain ⟨t0, t1, ty⟩ := k2c hO2
  obtain ⟨u0, u1, g0, g1, y⟩ := k2f HR6.out
  clear hO2 hq2 hb5 hR4
  go_wp2
  have hR1 := HR6.out.set 0 (.slice A2 x.slots.length k2) (cs' := #[.slice A2 x.slots.length k2, .slice none 0 0]) rfl
  have hR2 := hR1.set 1 (.slice A3 x.vols.length k3) (cs' := #[.slice A2 x.slots.length k2, .slice A3 x.vols.length k3]) rfl
  have hu2 := (HU.out.far HR6.out (by decide) (by decide) (by decide) 0 (.slice A2 x.slots.length k2)).far hR1 (by decide) (by decide) (by decide) 1 (.slice A3 x.vols.length k3)
  have hb3 := bel_set (bel_set HB.out (Nat.le_succ _) 0 (.slice A2 x.slots.length k2)) (Nat.le_succ _) 1 (.slice A3 x.vols.length k3)
  refine bodyPost_ret (results_cell_row rfl _ _ (w.heap.size + 1) 44 #[.slice A2 x.slots.length k2, .slice A3 x.vols.length k3] (0, 0) _ rfl hR2 Tryz.underlying44 rfl (by kernel_rfl)) rfl ?_
  exact ⟨_, _, bvc, rfl, hu2, hb3⟩
end
abbrev wset5 (W : World) (b : Nat) (u0 u1 u2 u3 u4 : Value) : World := ((((W.setCell ⟨b, 0, none⟩ u0).setCell ⟨b, 1, none⟩ u1).setCell ⟨b, 2, none⟩ u2).setCell ⟨b, 3, none⟩ u3).setCell ⟨b, 4, none⟩ u4
theorem Blk.set5 {W : World} {b : Nat} {x0 x1 x2 x3 x4 : Value} {t : TypeId} (h : Blk W b #[x0, x1, x2, x3, x4] t) (u0 u1 u2 u3 u4 : Value) : Blk (wset5 W b u0 u1 u2 u3 u4) b #[u0, u1, u2, u3, u4] t :=
 ((((h.set 0 u0 (cs' := #[u0, x1, x2, x3, x4]) rfl).set 1 u1 (cs' := #[u0, u1, x2, x3, x4]) rfl).set 2 u2 (cs' := #[u0, u1, u2, x3, x4]) rfl).set 3 u3 (cs' := #[u0, u1, u2, u3, x4]) rfl).set 4 u4 rfl
theorem Blk.apart5 {W : World} {b d : Nat} {cs : Array Value} {t : TypeId} (h : Blk W b cs t) (hne : d ≠ b) (u0 u1 u2 u3 u4 : Value) : Blk (wset5 W d u0 u1 u2 u3 u4) b cs t := ((((h.apart hne 0 u0).apart hne 1 u1).apart hne 2 u2).apart hne 3 u3).apart hne 4 u4
theorem OwnO.far5 {W : World} {base b : Nat} {v : Value} {s : List Op} (h : OwnO W base v s) {x0 x1 x2 x3 x4 : Value} (hB : Blk W b #[x0, x1, x2, x3, x4] 25) (u0 u1 u2 u3 u4 : Value) : OwnO (wset5 W b u0 u1 u2 u3 u4) base v s := by
 have h1 := hB.set 0 u0 (cs' := #[u0, x1, x2, x3, x4]) rfl
 have h2 := h1.set 1 u1 (cs' := #[u0, u1, x2, x3, x4]) rfl
 have h3 := h2.set 2 u2 (cs' := #[u0, u1, u2, x3, x4]) rfl
 have h4 := h3.set 3 u3 (cs' := #[u0, u1, u2, u3, x4]) rfl
 exact ((((h.far hB (by decide) 0 u0).far h1 (by decide) 1 u1).far h2 (by decide) 2 u2).far h3 (by decide) 3 u3).far h4 (by decide) 4 u4
section
variable {w : World} {A : Option Addr} {c : Nat} {n : Node}
end
theorem blkn {w : World} {b : Nat} {cs : Array Value} {t : TypeId} (h : Blk w b cs t) (j : Nat) (v : Value) (hv : cs[j]? = some v) : w.cell? ⟨b, j, none⟩ = some v := by rw [h.cell]; exact hv
section
variable {w : World} {A : Option Addr} {c : Nat} {n : Node} {o : Op}
end
end Go.Proofs.YtljfoglilggkjaaGreat

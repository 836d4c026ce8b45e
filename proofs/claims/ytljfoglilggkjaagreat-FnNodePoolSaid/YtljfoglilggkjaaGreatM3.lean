/- Contracts of the program's and the reference's functions, and the plain laws behind them: part 3 of 13. -/
import Derived.Test.YtljfoglilggkjaaGreatM1
import Derived.Test.YtljfoglilggkjaaGreatM2
set_option linter.unusedVariables false
set_option linter.unusedSimpArgs false
set_option maxHeartbeats 64000000
set_option maxRecDepth 10000
namespace Go.Proofs.YtljfoglilggkjaaGreat
open Go.RowKit Go.Proofs.YtljfoglilggkjaaGreatW.PrintWords Go.Proofs.YtljfoglilggkjaaGreatW.PrintLast
theorem bool_eq {a b : Bool} (h : a = b) : Value.bool a = .bool b := by rw [h]
theorem nm_gtr {a b : ByteArray} (ha : isNm a = true) (hb : isNm b = true) : (!Op.bytesLess a.toList b.toList && !a.toList == b.toList) = Op.bytesLess b.toList a.toList := by
 rw [nm_lt ha hb, nm_lt hb ha, Bool.eq_iff_iff]
 have h1 : (a.toList == b.toList) = true ↔ nmN a = nmN b := textB.trans (nm_eq ha hb)
 cases h2 : (a.toList == b.toList)
 ·have : ¬ nmN a = nmN b := fun h => by rw [h1.2 h] at h2; cases h2
  simp; omega
 ·have := h1.1 h2
  simp; omega
def addP {α : Type} (pos : Nat) (z : α) (Z : List α) (k : Nat) : List α := if k ≤ pos then Z.take k else insAt pos z (Z.take k)
theorem addP_zero {α : Type} (pos : Nat) (z : α) (Z : List α) : addP pos z Z 0 = [] := by unfold addP; simp
theorem addP_low {α : Type} {pos k : Nat} {z y : α} {Z : List α} (hy : Z[k]? = some y) (h : k < pos) : addP pos z Z (k + 1) = addP pos z Z k ++ [y] := by
 unfold addP
 rw [if_pos (by omega), if_pos (by omega), take_snoc hy]
theorem insAt_snoc {α : Type} {pos : Nat} {z y : α} {xs : List α} (h : pos ≤ xs.length) : insAt pos z (xs ++ [y]) = insAt pos z xs ++ [y] := by
 unfold insAt
 rw [List.take_append_of_le_length h, List.drop_append_of_le_length h, List.append_assoc]; rfl
theorem addP_at {α : Type} {k : Nat} {z y : α} {Z : List α} (hy : Z[k]? = some y) : addP k z Z (k + 1) = (addP k z Z k ++ [z]) ++ [y] := by
 have hl := ltQ hy
 have ht : (Z.take k).length = k := by rw [List.length_take]; omega
 unfold addP
 rw [if_neg (by omega), if_pos (Nat.le_refl _), take_snoc hy, insAt_snoc (by omega)]
 congr 1
 have := insAt_end z (Z.take k)
 rw [ht] at this
 exact this
theorem addP_high {α : Type} {pos k : Nat} {z y : α} {Z : List α} (hy : Z[k]? = some y) (h : pos < k) : addP pos z Z (k + 1) = addP pos z Z k ++ [y] := by
 have hl := ltQ hy
 have ht : (Z.take k).length = k := by rw [List.length_take]; omega
 unfold addP
 rw [if_neg (by omega), if_neg (by omega), take_snoc hy, insAt_snoc (by omega)]
theorem addP_len {α : Type} (pos : Nat) (z : α) (Z : List α) (k : Nat) : (addP pos z Z k).length ≤ Z.length + 1 := by
 unfold addP insAt
 split
 ·rw [List.length_take]; omega
 ·rw [List.length_append, List.length_cons, List.length_take, List.length_drop, List.length_take]; omega
theorem addP_all {α : Type} {pos : Nat} {z : α} {Z : List α} (h : pos < Z.length) : addP pos z Z Z.length = insAt pos z Z := by
 unfold addP; rw [if_neg (by omega), List.take_length]
theorem addP_end {α : Type} {z : α} {Z : List α} : addP Z.length z Z Z.length ++ [z] = insAt Z.length z Z := by
 unfold addP; rw [if_pos (Nat.le_refl _), List.take_length, insAt_end]
theorem flat_one {α β : Type} (enc : α → List β) (xs : List α) (y : α) : (xs ++ [y]).flatMap enc = xs.flatMap enc ++ enc y := by simp
theorem posOf_name {t : ByteArray} {vs : List Vol} {k : Nat} {y : Vol} (hy : vs[k]? = some y) (h : k ≤ posOf t vs) : (k < posOf t vs → Op.bytesLess t.toList y.name.toList = false) ∧ (k = posOf t vs → Op.bytesLess t.toList y.name.toList = true) :=
 ⟨fun h => posOf_lt h hy, fun e => posOf_at (e ▸ hy)⟩
theorem OwnV.added {W : World} {base lo pos : Nat} {v v' : Value} {vs : List Vol} {bvs : List Value} {x : Vol} {b : Value} (h : OwnV W base v vs bvs) (hb : OwnI W base b x.blocks) (hi : pos ≤ vs.length)
  (hap : ∀ (m : Nat) (b' : Value) (k : Nat), bvs[m]? = some b' → b'.ownBlock = some k → b.ownBlock ≠ some k)
  (hr : W.ownsRow lo 84 2 v' (vs.length + 1) ((insAt pos (x, b) (vs.zip bvs)).flatMap encV)) (hlo : base ≤ lo) : OwnV W base v' (insAt pos x vs) (insAt pos b bvs) := by
 refine h.ins hb hi hap (grown_refl _ _) ⟨by rw [insAt_len (by rw [h.row.len]; exact hi), insAt_len hi, h.row.len], ?_⟩
 rw [insAt_len hi, zip_insAt _ _ _ _ _ h.row.len hi]
 exact own_lower hr hlo
def Added (base : Nat) (v0 : Value) (p : Pool) (x : Vol) (b : Value) (bvs : List Value) (w : World) (e : Ending) (w' : World) : Prop :=
 ∃ v1, e = .returned (.agg #[v0, v1]) ∧ OwnP w' base v0 v1 ⟨p.slots, insAt (posOf x.name p.vols) x p.vols⟩ (insAt (posOf x.name p.vols) b bvs) ∧ Bel w w'
theorem l11Add_c {w : World} {base : Nat} {v0 v1 : Value} {bvs : List Value} {p : Pool} {x : Vol} {b : Value} (h : OwnP w base v0 v1 p bvs) (hx : OwnI w base b x.blocks) (hs : SmallP p) (hbase : base ≤ w.heap.size)
  (hap : ∀ (m : Nat) (b' : Value) (k : Nat), bvs[m]? = some b' → b'.ownBlock = some k → b.ownBlock ≠ some k) (hnm : isNm x.name = true) (hnms : ∀ (m : Nat) (y : Vol), p.vols[m]? = some y → isNm y.name = true) :
  Calls Tryz.prog 134 #[.agg #[v0, v1], .agg #[.string x.name, b]] w (Added base v0 p x b bvs w) := by
 obtain ⟨A0, A1, c0, c1, rfl, rfl, hpi⟩ := h.reads
 obtain ⟨Ab, cb, rfl, hcb, hCb⟩ := hx.reads
 have HP := Lib.hid h
 have HX := Lib.hid hx
 have HI := Lib.hid hpi
 have HAP := Lib.hid hap
 have hlv := hs.vols.len
 have hpl := posOf_le x.name p.vols
 have HBL := Lib.hid (show bvs.length = p.vols.length from h.v.row.len)
 have HNX := Lib.hid hnm
 have HNM := Lib.hid hnms
 clear h hx hpi hap hCb hs hnm hnms
 go_enter Tryz.func134, Tryz.ntmps134
 go_wp2
 have hB : Blk (((w.alloc (.cells #[.slice A0 p.slots.length c0, .slice A1 p.vols.length c1] 44)).alloc (.cells #[.string x.name, .slice Ab x.blocks.length cb] 84)).alloc (.cells #[.slice none 0 0, .slice none 0 0] 44)) w.heap.size #[.slice A0 p.slots.length c0, .slice A1 p.vols.length c1] 44 := ((Blk.new _ _ _).alloc _).alloc _
 have hV : Blk (((w.alloc (.cells #[.slice A0 p.slots.length c0, .slice A1 p.vols.length c1] 44)).alloc (.cells #[.string x.name, .slice Ab x.blocks.length cb] 84)).alloc (.cells #[.slice none 0 0, .slice none 0 0] 44)) (w.heap.size + 1) #[.string x.name, .slice Ab x.blocks.length cb] 84 := (Blk.nw2 _ _ _ _).alloc _
 have hR : Blk (((w.alloc (.cells #[.slice A0 p.slots.length c0, .slice A1 p.vols.length c1] 44)).alloc (.cells #[.string x.name, .slice Ab x.blocks.length cb] 84)).alloc (.cells #[.slice none 0 0, .slice none 0 0] 44)) (w.heap.size + 1 + 1) #[.slice none 0 0, .slice none 0 0] 44 := Blk.nw3 _ _ _ _ _
 have hW : Bel w (((w.alloc (.cells #[.slice A0 p.slots.length c0, .slice A1 p.vols.length c1] 44)).alloc (.cells #[.string x.name, .slice Ab x.blocks.length cb] 84)).alloc (.cells #[.slice none 0 0, .slice none 0 0] 44)) := bel_alloc (bel_alloc (bel_alloc (Below.refl _ _) _) _) _
 have hz : w.heap.size + 1 + 1 + 1 = (((w.alloc (.cells #[.slice A0 p.slots.length c0, .slice A1 p.vols.length c1] 44)).alloc (.cells #[.string x.name, .slice Ab x.blocks.length cb] 84)).alloc (.cells #[.slice none 0 0, .slice none 0 0] 44)).heap.size := by simp
 generalize (((w.alloc (.cells #[.slice A0 p.slots.length c0, .slice A1 p.vols.length c1] 44)).alloc (.cells #[.string x.name, .slice Ab x.blocks.length cb] 84)).alloc (.cells #[.slice none 0 0, .slice none 0 0] 44)) = W0 at hB hV hR hW hz ⊢
 rw [show w.heap.size + 1 + 1 + 1 = W0.heap.size from hz]
 have HB := Lib.hid hB
 have HV := Lib.hid hV
 have HR := Lib.hid hR
 have HW := Lib.hid hW
 have HZ := Lib.hid hz
 have HE := Lib.hid (own_empty W0 W0.heap.size 84 2 (Nat.le_refl _))
 clear hB hV hR hW hz
 obtain ⟨pos, hpos⟩ : ∃ pos, posOf x.name p.vols = pos := ⟨_, rfl⟩
 rw [hpos] at hpl
 have HPOS := Lib.hid hpos
 clear hpos
 have HZL := Lib.hid (show (p.vols.zip bvs).length = p.vols.length by rw [List.length_zip, HBL.out, Nat.min_self])
 go_loopg [5, 6, 7] p.vols.length (fun g v5 v6 v7 W => ∃ (k : Nat) (L : List (Vol × Value)), g + k = p.vols.length ∧ v7 = .int .i64 k ∧ v6 = .bool (decide (pos < k)) ∧ Hid (L = addP pos (x, Value.slice Ab x.blocks.length cb) (p.vols.zip bvs) k) ∧ Hid (W.ownsRow W0.heap.size 84 2 v5 L.length (L.flatMap encV)) ∧ Bel W0 W)
 case atStart => exact ⟨0, [], rfl, rfl, bool_eq (by simp), (addP_zero _ _ _).symm, HE.out, bel_alloc (Below.refl _ _) _⟩
 case round =>
  obtain ⟨k, L, hk, rfl, rfl, hL, hrow, hb⟩ := hrel
  obtain ⟨A5, c5, rfl, hc5⟩ := own_cap hrow.out
  have HBW := Lib.hid hb
  clear hb
  have hLl : L.length ≤ 1048577 := by have := addP_len pos (x, Value.slice Ab x.blocks.length cb) (p.vols.zip bvs) k; rw [← hL.out, HZL.out] at this; omega
  by_cases hlt : k < p.vols.length
  ·obtain ⟨y, hy⟩ := getQ hlt
   obtain ⟨g, cap, by_, hby, ev, hg1, hg2, hcap, hc, hc', hf, hf'⟩ := (((HP.out.bel HW.out).bel HBW.out).v.row).at hy
   have ev := slice_eq ev
   obtain ⟨rfl, -, rfl⟩ := ev
   obtain ⟨A2, c2, rfl, hc2, hC2⟩ := ((((HP.out.bel HW.out).bel HBW.out).v).inner k y by_ hy hby).reads
   have HZK := Lib.hid (zip_get hy hby)
   have HY := Lib.hid (And.intro hy hby)
   have HF := Lib.hid (show ∀ W : World, Bel W0 W → (W.cell? ⟨w.heap.size, 0, none⟩ = some (.slice A0 p.slots.length c0) ∧ W.cell? ⟨w.heap.size, 1, none⟩ = some (.slice (some ⟨g, 0, none⟩) p.vols.length c1)) ∧ (W.cell? ⟨g, k * 2, none⟩ = some (.string y.name) ∧ W.cell? ⟨g, k * 2 + 1, none⟩ = some (.slice A2 y.blocks.length c2)) ∧ (W.cell? ⟨w.heap.size + 1, 0, none⟩ = some (.string x.name) ∧ W.cell? ⟨w.heap.size + 1, 1, none⟩ = some (.slice Ab x.blocks.length cb)) ∧ w.heap.size + 1 < W.heap.size ∧ w.heap.size < W.heap.size ∧ g < W.heap.size from fun W hb => by
    have hB := HB.out.bel hb
    have hV := HV.out.bel hb
    obtain ⟨g', cap', by', e1, e2, _, h5, _, h1, h2, _⟩ := (((HP.out.bel HW.out).bel hb).v.row).at hy
    have e2 := slice_eq e2
    obtain ⟨e2, -, -⟩ := e2
    obtain rfl : g = g' := by simpa using e2
    obtain rfl := Option.some.inj (hby.symm.trans e1)
    exact ⟨⟨hB.cell 0, hB.cell 1⟩, ⟨h1, h2⟩, ⟨hV.cell 0, hV.cell 1⟩, hV.lt, hB.lt, h5⟩)
   clear hC2 hf hf' hc hc' hy hby
   obtain ⟨⟨p0, p1⟩, ⟨p2, p3⟩, ⟨p4, p5⟩, p6, p7, p8⟩ := HF.out _ HBW.out
   rcases Nat.lt_trichotomy k pos with hkp | hkp | hkp
   ·-- in front of the place
    have hcmp : (!Op.bytesLess y.name.toList x.name.toList && !y.name.toList == x.name.toList) = false := by rw [nm_gtr (HNM.out k y HY.out.1) HNX.out]; exact (posOf_name HY.out.1 (by rw [HPOS.out]; omega)).1 (by rw [HPOS.out]; exact hkp)
    have hdec : decide (pos < k) = false := by simp; omega
    have hdec2 := Lib.hid (show decide (pos < k + 1) = false by simp; omega)
    have HLN := Lib.hid (show addP pos (x, Value.slice Ab x.blocks.length cb) (p.vols.zip bvs) (k + 1) = L ++ [(y, .slice A2 y.blocks.length c2)] by rw [hL.out]; exact addP_low HZK.out hkp)
    rw [hdec]
    clear hdec
    go_wp2
    refine start_ (n := 13) (S := fun w' => w'.cell? ⟨w.heap.size, 1, none⟩ = some (.slice (some ⟨g, 0, none⟩) p.vols.length c1) ∧ w'.cell? ⟨g, k * 2, none⟩ = some (.string y.name) ∧ w'.cell? ⟨w.heap.size + 1, 0, none⟩ = some (.string x.name)) (ds := []) #[F, F, F, F, F, F, F, F, F, F, F, F, F] (by kernel_rfl) rfl rfl ⟨p1, p2, p4⟩ (fun hHeld => ?_)
    refine py 0 (some 16) #[T, F, F, F, F, F, F, F, F, F, F, F, F] ?_
    refine py 1 (some 17) #[T, T, F, F, F, F, F, F, F, F, F, F, F] ?_
    refine py 2 (some 18) #[T, T, T, F, F, F, F, F, F, F, F, F, F] ?_
    refine py 3 (some 19) #[T, T, T, T, F, F, F, F, F, F, F, F, F] ?_
    refine py 5 (some 21) #[T, T, T, T, F, T, F, F, F, F, F, F, F] ?_
    refine py 9 (some 25) #[T, T, T, T, F, T, F, F, F, T, F, F, F] ?_
    refine ty 4 (some 20) #[T, T, T, T, T, T, F, F, F, T, F, F, F] (hS := hHeld) (hz := by rintro w' ⟨s0, s1, s2⟩; go_simp; with_reducible rfl) (h := ?_)
    refine py 6 (some 22) #[T, T, T, T, T, T, T, F, F, T, F, F, F] ?_
    refine py 7 (some 23) #[T, T, T, T, T, T, T, T, F, T, F, F, F] ?_
    refine ty 8 (some 24) #[T, T, T, T, T, T, T, T, T, T, F, F, F] (hS := hHeld) (hz := by rintro w' ⟨s0, s1, s2⟩; go_simp; with_reducible rfl) (h := ?_)
    refine ty 10 (some 26) #[T, T, T, T, T, T, T, T, T, T, T, F, F] (hS := hHeld) (hz := by rintro w' ⟨s0, s1, s2⟩; go_simp; with_reducible rfl) (h := ?_)
    refine py 11 (some 27) #[T, T, T, T, T, T, T, T, T, T, T, T, F] ?_
    refine py 12 (some 28) #[T, T, T, T, T, T, T, T, T, T, T, T, T] ?_
    refine done_ (by kernel_rfl) ?_
    clear hHeld p0 p1 p2 p3 p4 p5 p6 p7 p8
    have hrow2 : wr.drew.ownsRow W0.heap.size 84 2 (.slice A5 L.length c5) L.length (L.flatMap encV) := hrow.out
    have hb2 : Bel W0 wr.drew := HBW.out.drew
    clear hrow HBW
    generalize wr.drew = W2 at hrow2 hb2 ⊢
    have HR2 := Lib.hid hrow2
    have HB2 := Lib.hid hb2
    obtain ⟨⟨p0, p1⟩, ⟨p2, p3⟩, ⟨p4, p5⟩, p6, p7, p8⟩ := HF.out _ hb2
    clear hrow2 hb2
    go_wp2_with (at_builtin; refine print_append_cells (w0 := W0) W0.heap.size rfl (.tmp 33) (.tmp 39) 42 84 (.agg #[.string ⟨#[]⟩, .slice none 0 0]) 2 40 rfl Tryz.underlying42 info_vol rfl (by decide) (by decide) _ L.length (L.flatMap encV) (encV (y, .slice A2 y.blocks.length c2)) rfl rfl rfl (by intro u hu; simp [encV] at hu; rcases hu with rfl | rfl <;> rfl) HR2.out HB2.out HB2.out.size (by omega) ?_; intro v2 w5 hr2 hbq hg2 hat2)
    go_roundg (p.vols.length - (k + 1))
    case measure => omega
    case rel => exact ⟨k + 1, L ++ [(y, Value.slice A2 y.blocks.length c2)], by omega, int_eq (by omega), bool_eq hdec2.out.symm, HLN.out.symm, by rw [Hid, List.length_append, flat_one]; exact hr2, hbq⟩
   ·-- at the place
    have hcmp : (!Op.bytesLess y.name.toList x.name.toList && !y.name.toList == x.name.toList) = true := by rw [nm_gtr (HNM.out k y HY.out.1) HNX.out]; exact (posOf_name HY.out.1 (by rw [HPOS.out]; omega)).2 (by rw [HPOS.out]; exact hkp)
    have hdec : decide (pos < k) = false := by simp; omega
    have hdec2 := Lib.hid (show decide (pos < k + 1) = true by simp; omega)
    have HLN := Lib.hid (show addP pos (x, Value.slice Ab x.blocks.length cb) (p.vols.zip bvs) (k + 1) = (L ++ [(x, .slice Ab x.blocks.length cb)]) ++ [(y, .slice A2 y.blocks.length c2)] by rw [hL.out, ← hkp]; exact addP_at HZK.out)
    clear hkp
    rw [hdec]
    clear hdec
    go_wp2
    refine start_ (n := 13) (S := fun w' => w'.cell? ⟨w.heap.size, 1, none⟩ = some (.slice (some ⟨g, 0, none⟩) p.vols.length c1) ∧ w'.cell? ⟨g, k * 2, none⟩ = some (.string y.name) ∧ w'.cell? ⟨w.heap.size + 1, 0, none⟩ = some (.string x.name)) (ds := []) #[F, F, F, F, F, F, F, F, F, F, F, F, F] (by kernel_rfl) rfl rfl ⟨p1, p2, p4⟩ (fun hHeld => ?_)
    refine py 0 (some 16) #[T, F, F, F, F, F, F, F, F, F, F, F, F] ?_
    refine py 1 (some 17) #[T, T, F, F, F, F, F, F, F, F, F, F, F] ?_
    refine py 2 (some 18) #[T, T, T, F, F, F, F, F, F, F, F, F, F] ?_
    refine py 3 (some 19) #[T, T, T, T, F, F, F, F, F, F, F, F, F] ?_
    refine py 5 (some 21) #[T, T, T, T, F, T, F, F, F, F, F, F, F] ?_
    refine py 9 (some 25) #[T, T, T, T, F, T, F, F, F, T, F, F, F] ?_
    refine ty 4 (some 20) #[T, T, T, T, T, T, F, F, F, T, F, F, F] (hS := hHeld) (hz := by rintro w' ⟨s0, s1, s2⟩; go_simp; with_reducible rfl) (h := ?_)
    refine py 6 (some 22) #[T, T, T, T, T, T, T, F, F, T, F, F, F] ?_
    refine py 7 (some 23) #[T, T, T, T, T, T, T, T, F, T, F, F, F] ?_
    refine ty 8 (some 24) #[T, T, T, T, T, T, T, T, T, T, F, F, F] (hS := hHeld) (hz := by rintro w' ⟨s0, s1, s2⟩; go_simp; with_reducible rfl) (h := ?_)
    refine ty 10 (some 26) #[T, T, T, T, T, T, T, T, T, T, T, F, F] (hS := hHeld) (hz := by rintro w' ⟨s0, s1, s2⟩; go_simp; with_reducible rfl) (h := ?_)
    refine py 11 (some 27) #[T, T, T, T, T, T, T, T, T, T, T, T, F] ?_
    refine py 12 (some 28) #[T, T, T, T, T, T, T, T, T, T, T, T, T] ?_
    refine done_ (by kernel_rfl) ?_
    clear hHeld p0 p1 p2 p3 p4 p5 p6 p7 p8
    have hrow2 : wr.drew.ownsRow W0.heap.size 84 2 (.slice A5 L.length c5) L.length (L.flatMap encV) := hrow.out
    have hb2 : Bel W0 wr.drew := HBW.out.drew
    clear hrow HBW
    generalize wr.drew = W2 at hrow2 hb2 ⊢
    have HR2 := Lib.hid hrow2
    have HB2 := Lib.hid hb2
    obtain ⟨⟨p0, p1⟩, ⟨p2, p3⟩, ⟨p4, p5⟩, p6, p7, p8⟩ := HF.out _ hb2
    clear hrow2 hb2
    go_wp2_with (first
     | (at_builtin; refine print_append_cells (w0 := W0) W0.heap.size rfl (.tmp 29) (.tmp 31) 42 84 (.agg #[.string ⟨#[]⟩, .slice none 0 0]) 2 40 rfl Tryz.underlying42 info_vol rfl (by decide) (by decide) _ L.length (L.flatMap encV) (encV (x, .slice Ab x.blocks.length cb)) rfl rfl rfl (by intro u hu; simp [encV] at hu; rcases hu with rfl | rfl <;> rfl) HR2.out HB2.out HB2.out.size (by omega) ?_; intro v2 w5 hr2 hbq hg2 hat2; obtain ⟨A6, c6, rfl, hc6⟩ := own_cap hr2; clear hat2 hg2 p0 p1 p2 p3 p4 p5 p6 p7 p8; have HR5 := Lib.hid hr2; have HB5 := Lib.hid hbq; obtain ⟨⟨p0, p1⟩, ⟨p2, p3⟩, ⟨p4, p5⟩, p6, p7, p8⟩ := HF.out _ hbq; clear hr2 hbq)
     | (at_builtin; refine print_append_cells (w0 := W0) W0.heap.size rfl (.tmp 33) (.tmp 39) 42 84 (.agg #[.string ⟨#[]⟩, .slice none 0 0]) 2 40 rfl Tryz.underlying42 info_vol rfl (by decide) (by decide) _ (L.length + 1) (L.flatMap encV ++ encV (x, .slice Ab x.blocks.length cb)) (encV (y, .slice A2 y.blocks.length c2)) rfl rfl rfl (by intro u hu; simp [encV] at hu; rcases hu with rfl | rfl <;> rfl) HR5.out HB5.out HB5.out.size (by omega) ?_; intro v3 w6 hr3 hbq hg2 hat2))
    go_roundg (p.vols.length - (k + 1))
    case measure => omega
    case rel => exact ⟨k + 1, (L ++ [(x, Value.slice Ab x.blocks.length cb)]) ++ [(y, Value.slice A2 y.blocks.length c2)], by omega, int_eq (by omega), bool_eq hdec2.out.symm, HLN.out.symm, by rw [Hid, List.length_append, List.length_append, flat_one, flat_one]; exact hr3, hbq⟩
   ·-- behind it
    have hdec : decide (pos < k) = true := by simp; omega
    have hdec2 := Lib.hid (show decide (pos < k + 1) = true by simp; omega)
    have HLN := Lib.hid (show addP pos (x, Value.slice Ab x.blocks.length cb) (p.vols.zip bvs) (k + 1) = L ++ [(y, .slice A2 y.blocks.length c2)] by rw [hL.out]; exact addP_high HZK.out hkp)
    rw [hdec]
    clear hdec
    go_wp2
    refine start_ (n := 13) (S := fun w' => w'.cell? ⟨w.heap.size, 1, none⟩ = some (.slice (some ⟨g, 0, none⟩) p.vols.length c1) ∧ w'.cell? ⟨g, k * 2, none⟩ = some (.string y.name) ∧ w'.cell? ⟨w.heap.size + 1, 0, none⟩ = some (.string x.name)) (ds := []) #[F, F, F, F, F, F, F, F, F, F, F, F, F] (by kernel_rfl) rfl rfl ⟨p1, p2, p4⟩ (fun hHeld => ?_)
    refine py 0 (some 16) #[T, F, F, F, F, F, F, F, F, F, F, F, F] ?_
    refine py 1 (some 17) #[T, T, F, F, F, F, F, F, F, F, F, F, F] ?_
    refine py 2 (some 18) #[T, T, T, F, F, F, F, F, F, F, F, F, F] ?_
    refine ppx (i := 3) (N := some 19) #[T, T, T, T, F, F, F, F, F, F, F, F, F] (v := undef) (hy := Or.inr ⟨by rfl, rfl⟩) (h := ?_)
    refine ppx (i := 4) (N := some 20) #[T, T, T, T, T, F, F, F, F, F, F, F, F] (v := undef) (hy := Or.inr ⟨by rfl, rfl⟩) (h := ?_)
    refine ppx (i := 5) (N := some 21) #[T, T, T, T, T, T, F, F, F, F, F, F, F] (v := undef) (hy := Or.inr ⟨by rfl, rfl⟩) (h := ?_)
    refine ppx (i := 6) (N := some 22) #[T, T, T, T, T, T, T, F, F, F, F, F, F] (v := undef) (hy := Or.inr ⟨by rfl, rfl⟩) (h := ?_)
    refine ppx (i := 7) (N := some 23) #[T, T, T, T, T, T, T, T, F, F, F, F, F] (v := undef) (hy := Or.inr ⟨by rfl, rfl⟩) (h := ?_)
    refine ppx (i := 8) (N := some 24) #[T, T, T, T, T, T, T, T, T, F, F, F, F] (v := undef) (hy := Or.inr ⟨by rfl, rfl⟩) (h := ?_)
    refine ppx (i := 9) (N := some 25) #[T, T, T, T, T, T, T, T, T, T, F, F, F] (v := undef) (hy := Or.inr ⟨by rfl, rfl⟩) (h := ?_)
    refine ppx (i := 10) (N := some 26) #[T, T, T, T, T, T, T, T, T, T, T, F, F] (v := undef) (hy := Or.inr ⟨by rfl, rfl⟩) (h := ?_)
    refine ppx (i := 11) (N := some 27) #[T, T, T, T, T, T, T, T, T, T, T, T, F] (v := undef) (hy := Or.inr ⟨by rfl, rfl⟩) (h := ?_)
    refine py 12 (some 28) #[T, T, T, T, T, T, T, T, T, T, T, T, T] ?_
    refine done_ (by kernel_rfl) ?_
    clear hHeld p0 p1 p2 p3 p4 p5 p6 p7 p8
    have hrow2 : wr.drew.ownsRow W0.heap.size 84 2 (.slice A5 L.length c5) L.length (L.flatMap encV) := hrow.out
    have hb2 : Bel W0 wr.drew := HBW.out.drew
    clear hrow HBW
    generalize wr.drew = W2 at hrow2 hb2 ⊢
    have HR2 := Lib.hid hrow2
    have HB2 := Lib.hid hb2
    obtain ⟨⟨p0, p1⟩, ⟨p2, p3⟩, ⟨p4, p5⟩, p6, p7, p8⟩ := HF.out _ hb2
    clear hrow2 hb2
    go_wp2_with (at_builtin; refine print_append_cells (w0 := W0) W0.heap.size rfl (.tmp 33) (.tmp 39) 42 84 (.agg #[.string ⟨#[]⟩, .slice none 0 0]) 2 40 rfl Tryz.underlying42 info_vol rfl (by decide) (by decide) _ L.length (L.flatMap encV) (encV (y, .slice A2 y.blocks.length c2)) rfl rfl rfl (by intro u hu; simp [encV] at hu; rcases hu with rfl | rfl <;> rfl) HR2.out HB2.out HB2.out.size (by omega) ?_; intro v2 w5 hr2 hbq hg2 hat2)
    go_roundg (p.vols.length - (k + 1))
    case measure => omega
    case rel => exact ⟨k + 1, L ++ [(y, Value.slice A2 y.blocks.length c2)], by omega, int_eq (by omega), bool_eq hdec2.out.symm, HLN.out.symm, by rw [Hid, List.length_append, flat_one]; exact hr2, hbq⟩
  ·have hkl : k = p.vols.length := by omega
   rcases Nat.lt_or_ge pos p.vols.length with hpp | hpp
   ·have hdec : decide (pos < k) = true := by simp; omega
    have HLE := Lib.hid (show L = insAt pos (x, Value.slice Ab x.blocks.length cb) (p.vols.zip bvs) by rw [hL.out, hkl, ← HZL.out]; exact addP_all (by rw [HZL.out]; exact hpp))
    have HLL := Lib.hid (show L.length = p.vols.length + 1 by rw [HLE.out, insAt_len (by rw [HZL.out]; omega), HZL.out])
    have hrow2 : wr.ownsRow W0.heap.size 84 2 (.slice A5 L.length c5) (p.vols.length + 1) ((insAt pos (x, Value.slice Ab x.blocks.length cb) (p.vols.zip bvs)).flatMap encV) := by
     have h5 := hrow.out
     rw [HLE.out] at h5
     rw [insAt_len (by rw [HZL.out]; omega), HZL.out] at h5
     rw [HLL.out]
     exact h5
    have HFIN := Lib.hid (show OwnP wr base (.slice A0 p.slots.length c0) (.slice A5 L.length c5) ⟨p.slots, insAt (posOf x.name p.vols) x p.vols⟩ (insAt (posOf x.name p.vols) (.slice Ab x.blocks.length cb) bvs) by
     rw [HPOS.out]
     exact ⟨((HP.out.bel HW.out).bel HBW.out).s, ((HP.out.bel HW.out).bel HBW.out).v.added ((HX.out.bel HW.out).bel HBW.out) hpl HAP.out hrow2 (by have := HW.out.size; omega)⟩)
    have hB := HB.out.bel HBW.out
    have hR := HR.out.bel HBW.out
    obtain ⟨q0, q1, g0, g1, -⟩ := k2f hB
    obtain ⟨r0, r1, f0, f1, -⟩ := k2f hR
    have z1 := hR.lt
    have HBR := Lib.hid (And.intro hB hR)
    clear hB hR hrow hrow2 hkl hpp
    rw [hdec]
    clear hdec
    go_wp2
    have hB1 := HBR.out.1.set 1 (.slice A5 L.length c5) (cs' := #[.slice A0 p.slots.length c0, .slice A5 L.length c5]) rfl
    have hR1 := HBR.out.2.apart (show w.heap.size ≠ w.heap.size + 1 + 1 by omega) 1 (.slice A5 L.length c5)
    have hR2 := hR1.set 0 (.slice A0 p.slots.length c0) (cs' := #[.slice A0 p.slots.length c0, .slice none 0 0]) rfl
    have hR3 := hR2.set 1 (.slice A5 L.length c5) (cs' := #[.slice A0 p.slots.length c0, .slice A5 L.length c5]) rfl
    have hop := ((HFIN.out.far HBR.out.1 (by decide) (by decide) (by decide) 1 (.slice A5 L.length c5)).far hR1 (by decide) (by decide) (by decide) 0 (.slice A0 p.slots.length c0)).far hR2 (by decide) (by decide) (by decide) 1 (.slice A5 L.length c5)
    have hb5 := bel_set (bel_set (bel_set (HW.out.tr HBW.out) (Nat.le_refl _) 1 (.slice A5 L.length c5)) (show w.heap.size ≤ w.heap.size + 1 + 1 by omega) 0 (.slice A0 p.slots.length c0)) (show w.heap.size ≤ w.heap.size + 1 + 1 by omega) 1 (.slice A5 L.length c5)
    refine bodyPost_ret (results_cell_row rfl _ _ (w.heap.size + 1 + 1) 44 #[.slice A0 p.slots.length c0, .slice A5 L.length c5] (0, 0) _ rfl hR3 Tryz.underlying44 rfl (by kernel_rfl)) rfl ?_
    exact ⟨_, rfl, hop, hb5⟩
   ·have hpe : pos = p.vols.length := by omega
    have hdec : decide (pos < k) = false := by simp; omega
    have HLE := Lib.hid (show L ++ [(x, Value.slice Ab x.blocks.length cb)] = insAt pos (x, Value.slice Ab x.blocks.length cb) (p.vols.zip bvs) by rw [hL.out, hkl, hpe, ← HZL.out]; exact addP_end)
    have HLL := Lib.hid (show L.length + 1 = p.vols.length + 1 by
     have := congrArg List.length HLE.out
     rwa [insAt_len (by rw [HZL.out]; omega), HZL.out, List.length_append] at this)
    have hB := HB.out.bel HBW.out
    have hV := HV.out.bel HBW.out
    have u0 := hV.cell 0
    have u1 := hV.cell 1
    simp at u0 u1
    have z0 := hV.lt
    have hq1 := hB.cell 1
    have hz0 := hB.lt
    simp at hq1
    have HRW := Lib.hid hrow.out
    clear hB hV hrow hkl hpp hpe
    rw [hdec]
    clear hdec
    go_wp2_with (at_builtin; refine print_append_cells (w0 := W0) W0.heap.size rfl (.tmp 43) (.tmp 45) 42 84 (.agg #[.string ⟨#[]⟩, .slice none 0 0]) 2 40 rfl Tryz.underlying42 info_vol rfl (by decide) (by decide) _ L.length (L.flatMap encV) (encV (x, .slice Ab x.blocks.length cb)) rfl rfl rfl (by intro u hu; simp [encV] at hu; rcases hu with rfl | rfl <;> rfl) HRW.out HBW.out HBW.out.size (by omega) ?_; intro v2 w5 hr2 hbq hg2 hat2; obtain ⟨A6, c6, rfl, hc6⟩ := own_cap hr2; clear hat2 hg2 u0 u1 z0 hq1 hz0; have HR5 := Lib.hid hr2; have HB5 := Lib.hid hbq; have q0 := (HB.out.bel hbq).cell 0; have q1 := (HB.out.bel hbq).cell 1; have g0 := (HB.out.bel hbq).free 0; have g1 := (HB.out.bel hbq).free 1; have r0 := (HR.out.bel hbq).cell 0; have r1 := (HR.out.bel hbq).cell 1; have f0 := (HR.out.bel hbq).free 0; have f1 := (HR.out.bel hbq).free 1; have z1 := (HR.out.bel hbq).lt; simp at q0 q1 r0 r1; clear hr2 hbq)
    have hrow2 : w5.ownsRow W0.heap.size 84 2 (.slice A6 (L.length + 1) c6) (p.vols.length + 1) ((insAt pos (x, Value.slice Ab x.blocks.length cb) (p.vols.zip bvs)).flatMap encV) := by
     have h5 := HR5.out
     rw [← HLE.out, flat_one]
     rw [HLL.out] at h5 ⊢
     exact h5
    have hfin : OwnP w5 base (.slice A0 p.slots.length c0) (.slice A6 (L.length + 1) c6) ⟨p.slots, insAt (posOf x.name p.vols) x p.vols⟩ (insAt (posOf x.name p.vols) (.slice Ab x.blocks.length cb) bvs) := by
     rw [HPOS.out]
     exact ⟨((HP.out.bel HW.out).bel HB5.out).s, ((HP.out.bel HW.out).bel HB5.out).v.added ((HX.out.bel HW.out).bel HB5.out) hpl HAP.out hrow2 (by have := HW.out.size; omega)⟩
    have hB0 := HB.out.bel HB5.out
    have hR0 := HR.out.bel HB5.out
    have hR1 := hR0.apart (show w.heap.size ≠ w.heap.size + 1 + 1 by omega) 1 (.slice A6 (L.length + 1) c6)
    have hR2 := hR1.set 0 (.slice A0 p.slots.length c0) (cs' := #[.slice A0 p.slots.length c0, .slice none 0 0]) rfl
    have hR3 := hR2.set 1 (.slice A6 (L.length + 1) c6) (cs' := #[.slice A0 p.slots.length c0, .slice A6 (L.length + 1) c6]) rfl
    have hop := ((hfin.far hB0 (by decide) (by decide) (by decide) 1 (.slice A6 (L.length + 1) c6)).far hR1 (by decide) (by decide) (by decide) 0 (.slice A0 p.slots.length c0)).far hR2 (by decide) (by decide) (by decide) 1 (.slice A6 (L.length + 1) c6)
    have hb5 := bel_set (bel_set (bel_set (HW.out.tr HB5.out) (Nat.le_refl _) 1 (.slice A6 (L.length + 1) c6)) (show w.heap.size ≤ w.heap.size + 1 + 1 by omega) 0 (.slice A0 p.slots.length c0)) (show w.heap.size ≤ w.heap.size + 1 + 1 by omega) 1 (.slice A6 (L.length + 1) c6)
    refine bodyPost_ret (results_cell_row rfl _ _ (w.heap.size + 1 + 1) 44 #[.slice A0 p.slots.length c0, .slice A6 (L.length + 1) c6] (0, 0) _ rfl hR3 Tryz.underlying44 rfl (by kernel_rfl)) rfl ?_
    exact ⟨_, rfl, hop, hb5⟩
open Go.RowKit Go.Proofs.YtljfoglilggkjaaGreatW.PrintWords
theorem PoolP.slot {p : Pool} (h : PoolP p) {m : Nat} (hm : m < 8) : ∃ x, p.slots[m]? = some x := getQ (by rw [h.s.len]; exact hm)
theorem PoolP.blk {p : Pool} (h : PoolP p) {i : Nat} {v : Vol} (hv : p.vols[i]? = some v) {k : Nat} {x : Int} (hx : v.blocks[k]? = some x) : 0 ≤ x ∧ x ≤ 8 := (volOk_parts (h.v.v i v hv)).1 x (List.mem_of_getElem? hx)
theorem PoolP.drops {p : Pool} (h : PoolP p) {i : Nat} {v : Vol} (hv : p.vols[i]? = some v) {bs : List Int} (hb : ∀ x ∈ bs, 0 ≤ x ∧ x ≤ 8) (hc : ∀ m : Nat, cnt ((m : Int) + 1) bs ≤ cnt (m + 1) v.blocks) :
  StoreP (dropAll p.slots bs) ∧ ∀ (m : Nat) (x : Slot), p.slots[m]? = some x → ∃ y, (dropAll p.slots bs)[m]? = some y ∧ y.uses = x.uses - cnt (m + 1) bs ∧ (y.text = x.text ∨ y.uses = 0) :=
 dropAll_get h.s hb fun m x hx => by rw [h.uses m x hx]; exact Int.le_trans (hc m) (uses_mem hv)
theorem goneF_some {p q : Pool} {name : ByteArray} (h : goneF p name = some q) : ∃ (i : Nat) (v : Vol), volIdx p.vols name = i ∧ p.vols[i]? = some v ∧ v.name = name ∧ q = ⟨dropAll p.slots v.blocks, p.vols.eraseIdx i⟩ := by
 unfold goneF at h
 by_cases hn : volIdx p.vols name < 0
 ·rw [if_pos hn] at h; cases h
 ·rw [if_neg hn] at h
  obtain ⟨i, v, hi, hv, hvn⟩ := volIdx_yes hn
  rw [hi, Int.toNat_natCast] at h
  unfold volAt at h
  rw [Int.toNat_natCast, getD_of hv] at h
  exact ⟨i, v, hi, hv, hvn, (Option.some.inj h).symm⟩
theorem slot_back {s t : List Slot} {f : Nat → Slot → Slot → Prop} (hl : t.length = s.length) (h : ∀ (m : Nat) (x : Slot), s[m]? = some x → ∃ y, t[m]? = some y ∧ f m x y) {m : Nat} {y : Slot} (hy : t[m]? = some y) : ∃ x, s[m]? = some x ∧ f m x y := by
 obtain ⟨x, hx⟩ := getQ (show m < s.length by rw [← hl]; exact ltQ hy)
 obtain ⟨z, hz, hf⟩ := h m x hx
 obtain rfl := Option.some.inj (hy.symm.trans hz)
 exact ⟨x, hx, hf⟩
theorem goneF_ok {p q : Pool} {name : ByteArray} (hp : PoolP p) (h : goneF p name = some q) : PoolP q := by
 obtain ⟨i, v, hi, hv, hvn, rfl⟩ := goneF_some h
 obtain ⟨h1, h2⟩ := hp.drops hv (volOk_parts (hp.v.v i v hv)).1 (fun m => Int.le_refl _)
 refine ⟨h1, hp.v.erase i, fun m y hy => ?_⟩
 obtain ⟨x, hx, hu, _⟩ := slot_back (dropAll_len _ _) h2 hy
 rw [hu, uses_erase hv, hp.uses m x hx]
theorem makeF_some {p q : Pool} {name : ByteArray} {size : Int} (h : makeF p name size = some q) : isNm name = true ∧ volIdx p.vols name < 0 ∧ 1 ≤ size ∧ size ≤ 6 ∧ q = ⟨p.slots, insAt (posOf name p.vols) ⟨name, List.replicate size.toNat 0⟩ p.vols⟩ := by
 unfold makeF at h
 split at h
 ·rename_i hc
  have := inR_iff.1 hc.2.2
  exact ⟨hc.1, hc.2.1, this.1, this.2, (Option.some.inj h).symm⟩
 ·cases h
theorem cnt_rep (p x : Int) (n : Nat) (h : x ≠ p) : cnt p (List.replicate n x) = 0 := by
 induction n with
 | zero => rfl
 | succ n ih => rw [List.replicate_succ]; unfold cnt; rw [if_neg h, ih]; rfl
theorem makeV_ok {name : ByteArray} {size : Int} (hn : isNm name = true) (h1 : 1 ≤ size) (h6 : size ≤ 6) : volOk ⟨name, List.replicate size.toNat 0⟩ = true := by
 unfold volOk
 rw [hn]
 have : inR ((List.replicate size.toNat (0 : Int)).length : Int) 1 6 = true := by rw [inR_iff, List.length_replicate]; omega
 simp only [this, Bool.and_true, List.all_eq_true]
 intro x hx
 obtain ⟨_, rfl⟩ := List.mem_replicate.1 hx
 rfl
theorem makeF_ok {p q : Pool} {name : ByteArray} {size : Int} (hp : PoolP p) (h : makeF p name size = some q) : PoolP q := by
 obtain ⟨hn, hi, h1, h6, rfl⟩ := makeF_some h
 refine ⟨hp.s, hp.v.ins (makeV_ok hn h1 h6) hi, fun m x hx => ?_⟩
 rw [uses_insAt, hp.uses m x hx]
 show _ = _ + cnt _ (List.replicate _ _)
 rw [cnt_rep _ _ _ (by omega)]; omega
theorem cloneF_some {p q : Pool} {fr dst : ByteArray} (h : cloneF p fr dst = some q) : ∃ (i : Nat) (v : Vol), volIdx p.vols fr = i ∧ p.vols[i]? = some v ∧ v.name = fr ∧ isNm dst = true ∧ volIdx p.vols dst < 0 ∧ q = ⟨incAll p.slots v.blocks, insAt (posOf dst p.vols) ⟨dst, v.blocks⟩ p.vols⟩ := by
 unfold cloneF at h
 split at h
 ·rename_i hc
  obtain ⟨i, v, hi, hv, hvn⟩ := volIdx_yes (show ¬ volIdx p.vols fr < 0 by omega)
  rw [hi] at h
  unfold volAt at h
  rw [Int.toNat_natCast, getD_of hv] at h
  exact ⟨i, v, hi, hv, hvn, hc.2.1, hc.2.2, (Option.some.inj h).symm⟩
 ·cases h
theorem PoolP.incs {p : Pool} (h : PoolP p) {i : Nat} {v : Vol} (hv : p.vols[i]? = some v) :
  StoreP (incAll p.slots v.blocks) ∧ ∀ (m : Nat) (x : Slot), p.slots[m]? = some x → (incAll p.slots v.blocks)[m]? = some ⟨x.text, x.uses + cnt (m + 1) v.blocks⟩ := by
 have hb := volOk_parts (h.v.v i v hv)
 refine incAll_get h.s hb.1 fun m x hx => ?_
 have h1 := h.uses m x hx
 have h2 := uses_mem (p := (m : Int) + 1) hv
 have h3 := h.v.uses_le ((m : Int) + 1)
 have h4 := cnt_le ((m : Int) + 1) v.blocks
 constructor
 ·omega
 ·omega
theorem volOk_name {v : Vol} {t : ByteArray} (h : volOk v = true) (ht : isNm t = true) : volOk ⟨t, v.blocks⟩ = true := by
 unfold volOk at h ⊢
 simp only [Bool.and_eq_true] at h ⊢
 exact ⟨h.1, ht, h.2.2⟩
theorem cloneF_ok {p q : Pool} {fr dst : ByteArray} (hp : PoolP p) (h : cloneF p fr dst = some q) : PoolP q := by
 obtain ⟨i, v, hi, hv, hvn, hd, hdn, rfl⟩ := cloneF_some h
 obtain ⟨h1, h2⟩ := hp.incs hv
 refine ⟨h1, hp.v.ins (volOk_name (hp.v.v i v hv) hd) hdn, fun m y hy => ?_⟩
 obtain ⟨x, hx⟩ := getQ (show m < p.slots.length by rw [← incAll_len p.slots v.blocks]; exact ltQ hy)
 obtain rfl := Option.some.inj (hy.symm.trans (h2 m x hx))
 rw [uses_insAt, hp.uses m x hx]
theorem cnt_one (p x : Int) : cnt p [x] = if x = p then 1 else 0 := by simp [cnt]
theorem cnt_one_le {p x : Int} {bs : List Int} {k : Nat} (h : bs[k]? = some x) : cnt p [x] ≤ cnt p bs := by
 rw [cnt_one]
 split
 ·rename_i e; subst e; exact cnt_pos (List.mem_of_getElem? h)
 ·exact (cnt_le p bs).1
structure Wr (p : Pool) (name : ByteArray) (b : Int) (i : Nat) (v : Vol) (x : Int) : Prop where
  idx : volIdx p.vols name = i
  has : hasBlk p.vols name b = i
  vol : p.vols[i]? = some v
  nm : v.name = name
  b0 : 0 ≤ b
  blk : v.blocks[b.toNat]? = some x
  place : placeAt p.vols name b = x
theorem hasBlk_wr {p : Pool} {name : ByteArray} {b : Int} (h : 0 ≤ hasBlk p.vols name b) : ∃ i v x, Wr p name b i v x := by
 obtain ⟨h1, h2, v, x, hv, hn, _, hb, hx, hp⟩ := hasBlk_yes h
 refine ⟨_, v, x, (Int.toNat_of_nonneg h2).symm, ?_, hv, hn, hb, hx, hp⟩
 rw [h1, Int.toNat_of_nonneg h2]
theorem Wr.back {p : Pool} {name : ByteArray} {b : Int} {i : Nat} {v : Vol} {x : Int} (hp : PoolP p) (h : Wr p name b i v x) :
  StoreP (backS p name b) ∧ ∀ (m : Nat) (y : Slot), p.slots[m]? = some y → ∃ z, (backS p name b)[m]? = some z ∧ z.uses = y.uses - cnt (m + 1) [x] ∧ (z.text = y.text ∨ z.uses = 0) := by
 unfold backS
 rw [h.place]
 refine hp.drops h.vol (fun y hy => ?_) (fun m => cnt_one_le h.blk)
 rw [List.mem_singleton.1 hy]; exact hp.blk h.vol h.blk
theorem Wr.set {p : Pool} {name : ByteArray} {b : Int} {i : Nat} {v : Vol} {x : Int} (h : Wr p name b i v x) (pl : Int) :
  setBlk p.vols (volIdx p.vols name).toNat b.toNat pl = p.vols.set i ⟨name, v.blocks.set b.toNat pl⟩ := by
 unfold setBlk
 rw [h.idx, Int.toNat_natCast, getD_of h.vol, h.nm]
theorem Wr.uses {p : Pool} {name : ByteArray} {b : Int} {i : Nat} {v : Vol} {x : Int} (h : Wr p name b i v x) (pl q : Int) :
  Go.Proofs.YtljfoglilggkjaaGreat.uses q (p.vols.set i ⟨name, v.blocks.set b.toNat pl⟩) = Go.Proofs.YtljfoglilggkjaaGreat.uses q p.vols - (if x = q then 1 else 0) + (if pl = q then 1 else 0) := by
 rw [uses_set h.vol, cnt_set h.blk]
 omega
theorem volOk_set {v : Vol} {k : Nat} {pl : Int} (h : volOk v = true) (h0 : 0 ≤ pl) (h8 : pl ≤ 8) : volOk ⟨v.name, v.blocks.set k pl⟩ = true := by
 unfold volOk at h ⊢
 simp only [Bool.and_eq_true, List.all_eq_true] at h ⊢
 refine ⟨fun y hy => ?_, h.2.1, ?_⟩
 ·rcases List.mem_or_eq_of_mem_set hy with h1 | rfl
  ·exact h.1 y h1
  ·rw [inR_iff]; omega
 ·rw [List.length_set]; exact h.2.2
inductive WriteOut (p : Pool) (name : ByteArray) (b : Int) (text : ByteArray) (i : Nat) (v : Vol) (x : Int) : Pool → Prop where
  | free (h : text = e0) : WriteOut p name b text i v x ⟨backS p name b, p.vols.set i ⟨name, v.blocks.set b.toNat 0⟩⟩
  | put (m : Nat) (z : Slot) (h : text ≠ e0) (ht : tOk text = true) (hz : (backS p name b)[m]? = some z) (hpa : PutAt (backS p name b) text ((m : Int) + 1)) (hz2 : z.text = text ∧ z.uses < 99 ∨ z.uses = 0 ∧ ∀ (j : Nat) (y : Slot), (backS p name b)[j]? = some y → y.text ≠ text) :
      WriteOut p name b text i v x ⟨(backS p name b).set m ⟨text, z.uses + 1⟩, p.vols.set i ⟨name, v.blocks.set b.toNat ((m : Int) + 1)⟩⟩
theorem writeF_some {p q : Pool} {name : ByteArray} {b : Int} {text : ByteArray} (hp : PoolP p) (h : writeF p name b text = some q) : ∃ i v x, Wr p name b i v x ∧ tOk text = true ∧ WriteOut p name b text i v x q := by
 unfold writeF at h
 split at h
 ·rename_i hc
  obtain ⟨i, v, x, hw⟩ := hasBlk_wr hc.1
  refine ⟨i, v, x, hw, hc.2, ?_⟩
  rw [hw.set, hw.set] at h
  by_cases he : text = e0
  ·rw [if_pos he] at h
   obtain rfl := Option.some.inj h
   exact .free he
  ·rw [if_neg he] at h
   by_cases h0 : putAt (backS p name b) text = 0
   ·rw [if_pos h0] at h; cases h
   ·rw [if_neg h0] at h
    obtain rfl := Option.some.inj h
    have hpa := (putAt_cases (hw.back hp).1 he).1
    have key : ∀ (m : Nat) (z : Slot), putAt (backS p name b) text = (m : Int) + 1 → (backS p name b)[m]? = some z → putS (backS p name b) text = (backS p name b).set m ⟨text, z.uses + 1⟩ := by
     intro m z e hz
     unfold putS moreS
     rw [e, if_neg (by omega), show ((m : Int) + 1 - 1).toNat = m by omega, getD_of hz]
    cases hpa with
    | no h1 => exact absurd h1 h0
    | old m z h1 hz ht hu => rw [key m z h1 hz, h1]; exact .put m z he hc.2 hz (.old m z rfl hz ht hu) (.inl ⟨ht, hu⟩)
    | fresh m z h1 hz hu hn => rw [key m z h1 hz, h1]; exact .put m z he hc.2 hz (.fresh m z rfl hz hu hn) (.inr ⟨hu, hn⟩)
 ·cases h
theorem writeF_ok {p q : Pool} {name : ByteArray} {b : Int} {text : ByteArray} (hp : PoolP p) (h : writeF p name b text = some q) : PoolP q := by
 obtain ⟨i, v, x, hw, htk, ho⟩ := writeF_some hp h
 obtain ⟨h1, h2⟩ := hw.back hp
 have hbl : (backS p name b).length = p.slots.length := by rw [h1.len, hp.s.len]
 have hvol : ∀ pl : Int, 0 ≤ pl → pl ≤ 8 → VolsP (p.vols.set i ⟨name, v.blocks.set b.toNat pl⟩) := fun pl h0 h8 => by
  have := volOk_set (k := b.toNat) (hp.v.v i v hw.vol) h0 h8
  rw [hw.nm] at this
  exact hp.v.set hw.vol hw.nm.symm this
 cases ho with
 | free he =>
  refine ⟨h1, hvol 0 (by omega) (by omega), fun m y hy => ?_⟩
  obtain ⟨y0, hy0, hu, _⟩ := slot_back hbl h2 hy
  rw [hw.uses, hu, hp.uses m y0 hy0, cnt_one, if_neg (show ¬ (0 : Int) = (m : Int) + 1 by omega)]; omega
 | put j z he ht hz hpa hz2 =>
  have hj8 : j < 8 := by have := ltQ hz; rw [h1.len] at this; exact this
  have hms : moreS (backS p name b) text ((j : Int) + 1) = (backS p name b).set j ⟨text, z.uses + 1⟩ := by
   unfold moreS
   rw [if_neg (by omega), show ((j : Int) + 1 - 1).toNat = j by omega, getD_of hz]
  refine ⟨?_, hvol _ (by omega) (by omega), fun m y hy => ?_⟩
  ·rw [← hms]; exact h1.more he htk hpa
  ·rw [hw.uses]
   by_cases e : m = j
   ·subst e
    rw [List.getElem?_set_self (ltQ hz)] at hy
    obtain rfl := Option.some.inj hy
    obtain ⟨y0, hy0, hu, _⟩ := slot_back hbl h2 hz
    rw [if_pos rfl]
    show z.uses + 1 = _
    rw [hu, hp.uses m y0 hy0, cnt_one]
   ·rw [List.getElem?_set_ne (fun h => e h.symm)] at hy
    obtain ⟨y0, hy0, hu, _⟩ := slot_back hbl h2 hy
    rw [hu, hp.uses m y0 hy0, cnt_one, if_neg (show ¬ ((j : Int) + 1) = (m : Int) + 1 by omega)]; omega
open Go.RowKit Go.Proofs.YtljfoglilggkjaaGreatW.PrintWords Go.Proofs.YtljfoglilggkjaaGreatW.PrintLast
theorem makeF_no {p : Pool} {name : ByteArray} {size : Int} (h : isNm name = false ∨ 0 ≤ volIdx p.vols name ∨ inR size 1 6 = false) : makeF p name size = none := by
 unfold makeF
 rw [if_neg]
 rintro ⟨h1, h2, h3⟩
 rcases h with h | h | h
 ·rw [h] at h1; cases h1
 ·omega
 ·rw [h] at h3; cases h3
theorem makeF_yes {p : Pool} {name : ByteArray} {size : Int} (h1 : isNm name = true) (h2 : volIdx p.vols name < 0) (h3 : inR size 1 6 = true) : makeF p name size = some ⟨p.slots, insAt (posOf name p.vols) ⟨name, List.replicate size.toNat 0⟩ p.vols⟩ := by
 unfold makeF
 rw [if_pos ⟨h1, h2, h3⟩]
theorem cmpS_pos {p : Pool} (hp : PoolP p) {t : ByteArray} (ht : isNm t = true) (hn : volIdx p.vols t < 0) (m : Nat) (y : Vol) (hy : p.vols[m]? = some y) : m < posOf t p.vols ↔ cmpS y.name t < 0 :=
 (hp.v.pos ht hn m y hy).trans (nm_cmp (hp.v.nm hy) ht).symm
theorem PV.kept {w w' : World} {b base : Nat} {p : Pool} (h : PV w b base p) (hb : Bel w w') : PV w' b base p := h.bel hb
theorem makeClo_c {w : World} {A0 A1 : Option Addr} {c0 c1 bp bn bs : Nat} {p : Pool} {name : ByteArray} {size : Int} (h : PoolIn w A0 A1 c0 c1 p) (hs : SmallP p) (hB : Blk w bp #[.slice A0 p.slots.length c0, .slice A1 p.vols.length c1] 44) (hN : Blk w bn #[.string name] 9) (hZ : Blk w bs #[.int .i64 size] 3) (hok : poolOk p = true)
  (W : World) (b base : Nat) (hW : Bel w W) (hb1 : w.heap.size ≤ base) (hb2 : base ≤ W.heap.size) (hpv : PV W b base p) :
  Calls Tryz.prog 142 #[.pointer (some ⟨b, 0, none⟩), .pointer (some ⟨bn, 0, none⟩), .pointer (some ⟨bp, 0, none⟩), .pointer (some ⟨bs, 0, none⟩)] W (Changes (makeF p name size) b base W) := by
 have HS := Lib.hid hs
 have HP := Lib.hid h
 have HK := Lib.hid (poolOk_iff.1 hok)
 have HV := Lib.hid hpv
 have HW := Lib.hid hW
 have HB := Lib.hid hB
 have HN := Lib.hid hN
 have HZ := Lib.hid hZ
 have q0 := (HB.out.bel HW.out).cell 0
 have q1 := (HB.out.bel HW.out).cell 1
 have q2 := (HN.out.bel HW.out).cell 0
 have q3 := (HZ.out.bel HW.out).cell 0
 simp at q0 q1 q2 q3
 clear h hs hok hpv hW hB hN hZ
 have hlv := HS.out.vols.len
 cases h1 : isNm name with
 | false =>
  have HG := Lib.hid (show makeF p name size = none from makeF_no (.inl h1))
  go_enter Tryz.func142, Tryz.ntmps142
  go_wp2_with (go_at_call 92; refine (isName_c name _).mono ?_; rintro e w' ⟨rfl, rfl⟩)
  go_ret
  rw [HG.out]
  exact ⟨rfl, ⟨p, HV.out, fun q' h => by cases h⟩, Below.refl _ _⟩
 | true =>
  have hbd := volIdx_bd p.vols name
  by_cases h2 : 0 ≤ volIdx p.vols name
  ·have HG := Lib.hid (show makeF p name size = none from makeF_no (.inr (.inl h2)))
   go_enter Tryz.func142, Tryz.ntmps142
   go_wp2_with (first | (go_at_call 92; refine (isName_c name _).mono ?_; rintro e w' ⟨rfl, rfl⟩) | (go_at_call 143; refine (vol_c _ p.vols A1 c1 name _ (HP.out.bel HW.out).v hlv).mono ?_; rintro e w1 ⟨rfl, hb1⟩))
   go_ret
   rw [HG.out]
   exact ⟨rfl, ⟨p, HV.out.bel hb1, fun q' h => by cases h⟩, hb1.mono hb2⟩
  ·have h2' : volIdx p.vols name < 0 := by omega
   cases h3 : inR size 1 6 with
   | false =>
    have HG := Lib.hid (show makeF p name size = none from makeF_no (.inr (.inr h3)))
    go_enter Tryz.func142, Tryz.ntmps142
    go_wp2_with (first | (go_at_call 92; refine (isName_c name _).mono ?_; rintro e w' ⟨rfl, rfl⟩) | (go_at_call 143; refine (vol_c _ p.vols A1 c1 name _ (HP.out.bel HW.out).v hlv).mono ?_; rintro e w1 ⟨rfl, hb1⟩; have q4 := (HZ.out.bel (HW.out.tr hb1)).cell 0; simp at q4) | (go_at_call 81; refine (within_c size 1 6 _).mono ?_; rintro e w' ⟨rfl, rfl⟩))
    go_ret
    rw [HG.out]
    exact ⟨rfl, ⟨p, HV.out.bel hb1, fun q' h => by cases h⟩, hb1.mono hb2⟩
   | true =>
    have hr := inR_iff.1 h3
    have hs1 : 1 ≤ size := hr.1
    have hs6 : size ≤ 6 := hr.2
    clear hr
    obtain ⟨zs, hzs⟩ : ∃ zs, List.replicate size.toNat (0 : Int) = zs := ⟨_, rfl⟩
    have HG := Lib.hid (show makeF p name size = some ⟨p.slots, insAt (posOf name p.vols) ⟨name, zs⟩ p.vols⟩ from hzs ▸ makeF_yes h1 h2' h3)
    have HZS := Lib.hid hzs
    clear hzs
    have HM := Lib.hid (fun (m : Nat) (y : Vol) (hy : p.vols[m]? = some y) => cmpS_pos HK.out h1 h2' m y hy)
    have hq := posOf_le name p.vols
    go_enter Tryz.func142, Tryz.ntmps142
    go_wp2_with (first | (go_at_call 92; refine (isName_c name _).mono ?_; rintro e w' ⟨rfl, rfl⟩) | (go_at_call 143; refine (vol_c _ p.vols A1 c1 name _ (HP.out.bel HW.out).v hlv).mono ?_; rintro e w1 ⟨rfl, hb1⟩; have q4 := (HZ.out.bel (HW.out.tr hb1)).cell 0; simp at q4) | (go_at_call 81; refine (within_c size 1 6 _).mono ?_; rintro e w' ⟨rfl, rfl⟩))
    have q5 := (HN.out.bel (HW.out.tr hb1)).cell 0
    simp at q5
    have HB1 := Lib.hid hb1
    have hpv1 : PV w1.drew b base p := HV.out.bel (Bel.tr hb1 (Below.refl _ _).drew)
    have HV1 := Lib.hid hpv1
    clear hb1 hpv1 q0 q1 q2 q3 h1 h3
    refine start_ (n := 6) (S := fun w' => w'.cell? ⟨bn, 0, none⟩ = some (.string name) ∧ w'.cell? ⟨bs, 0, none⟩ = some (.int .i64 size)) (ds := [5]) #[F, F, F, F, F, F] (by kernel_rfl) rfl rfl ⟨q5, q4⟩ (fun hHeld => ?_)
    refine py 0 (some 20) #[T, F, F, F, F, F] ?_
    refine ty 1 (some 21) #[T, T, F, F, F, F] (hS := hHeld) (hz := by rintro w' ⟨s0, s1⟩; go_simp; with_reducible rfl) (h := ?_)
    refine ty 2 (some 22) #[T, T, T, F, F, F] (hS := hHeld) (hz := by rintro w' ⟨s0, s1⟩; go_simp; with_reducible rfl) (h := ?_)
    refine ox 3 (some 23) #[T, T, T, T, F, F] fun K hK => ?_
    refine Kd.R_make_step kInt (w0 := w1.drew) w1.drew.heap.size 3 (by rfl) (N := 23) rfl 82 _ _ rfl size rfl rfl Tryz.underlying82 (.int .i64 0) 8 info_int rfl (by decide) (by omega) 0 (ok := fun _ => True) (okp := fun _ => True) (kInt_mkM _ _ _ 0) (fun _ hk => hk) trivial (by omega) (by omega) (Below.refl _ _) (Nat.le_refl _) ?_
    intro v2 w2 ho hb2' hg_ hnew_
    clear hg_ hnew_
    have ho2 : OwnI w2 w1.drew.heap.size v2 zs := HZS.out ▸ ownI_of_R ho
    have HO2 := Lib.hid ho2
    have hb1' : Bel W w2 := Bel.tr (Bel.tr HB1.out (Below.refl _ _).drew) hb2'
    have HB2 := Lib.hid hb2'
    have HB1' := Lib.hid hb1'
    obtain ⟨A2, c2, rfl, hc2, hC2⟩ := ho2.reads
    have u1 := (HN.out.bel (HW.out.tr hb1')).cell 0
    have u2 := (HZ.out.bel (HW.out.tr hb1')).cell 0
    simp at u1 u2
    clear ho ho2 hb1' hb2' hC2 hc2
    refine hK.out _ _ ⟨u1, u2⟩ (fun hHeld => ?_)
    clear hK K
    refine nox 23 (h := ?_)
    refine py 4 (some 24) #[T, T, T, T, T, F] ?_
    refine lx 5 (some 25) #[T, T, T, T, T, T] fun K hK => ?_
    refine gox Tryz.func144 #[.pointer (some ⟨b, 0, none⟩), .agg #[.string name, .slice A2 zs.length c2]] ?_
    with_reducible refine (insert2_c (x := ⟨name, zs⟩) HV1.out HB2.out HO2.out hq hlv HM.out).mono ?_
    rintro e w3 ⟨rfl, hv3, hb3⟩
    have HV3 := Lib.hid hv3
    have HB3 := Lib.hid hb3
    have u3 : True := trivial
    clear hv3 hb3
    refine ⟨_, rfl, ?_⟩
    refine hK.out _ _ ?_
    clear hK K
    refine nox 25 (h := ?_)
    refine done_ (by kernel_rfl) ?_
    clear hHeld
    go_wp2
    go_ret
    rw [HG.out]
    exact ⟨rfl, ⟨_, HV3.out, fun q' h => (Option.some.inj h)⟩, (HB1'.out.mono hb2).trans HB3.out⟩
theorem Blk.nw4 (w : World) (o o' o'' : Obj) (cs : Array Value) (t : TypeId) : Blk ((((w.alloc o).alloc o').alloc o'').alloc (.cells cs t)) (w.heap.size + 1 + 1 + 1) cs t := by
 have := Blk.nw3 (w.alloc o) o' o'' cs t
 rwa [show (w.alloc o).heap.size = w.heap.size + 1 by simp] at this
theorem Blk.nw5 (w : World) (o o' o'' o3 : Obj) (cs : Array Value) (t : TypeId) : Blk (((((w.alloc o).alloc o').alloc o'').alloc o3).alloc (.cells cs t)) (w.heap.size + 1 + 1 + 1 + 1) cs t := by
 have := Blk.nw4 (w.alloc o) o' o'' o3 cs t
 rwa [show (w.alloc o).heap.size = w.heap.size + 1 by simp] at this
theorem l11Make_c {w : World} {base : Nat} {v0 v1 : Value} {bvs : List Value} {p : Pool} {name : ByteArray} {size : Int} (h : OwnP w base v0 v1 p bvs) (hs : SmallP p) (hp : PoolP p) (hbase : base ≤ w.heap.size) (hnm : name.size ≤ 1048576) :
  Calls Tryz.prog 114 #[.agg #[v0, v1], .string name, .int .i64 size] w (TurnsP base p (makeF p name size) w) := by
 have HS := Lib.hid hs
 have HK := Lib.hid hp
 obtain ⟨A0, A1, c0, c1, rfl, rfl, hpi⟩ := h.reads
 have HP := Lib.hid h
 have HI := Lib.hid hpi
 have hlv := HS.out.vols.len
 have hnx : name.size ≤ maxLen := by unfold maxLen; omega
 have HNX := Lib.hid hnx
 clear h hs hp hpi hnx
 go_enter Tryz.func114, Tryz.ntmps114
 go_wp2_with fail
 have hB : Blk ((w.alloc (.cells #[.slice A0 p.slots.length c0, .slice A1 p.vols.length c1] 44)).alloc (.cells #[.slice none 0 0, .slice none 0 0] 44)) w.heap.size #[.slice A0 p.slots.length c0, .slice A1 p.vols.length c1] 44 := (Blk.new _ _ _).alloc _
 have hR : Blk ((w.alloc (.cells #[.slice A0 p.slots.length c0, .slice A1 p.vols.length c1] 44)).alloc (.cells #[.slice none 0 0, .slice none 0 0] 44)) (w.heap.size + 1) #[.slice none 0 0, .slice none 0 0] 44 := Blk.nw2 _ _ _ _
 have hW : Bel w ((w.alloc (.cells #[.slice A0 p.slots.length c0, .slice A1 p.vols.length c1] 44)).alloc (.cells #[.slice none 0 0, .slice none 0 0] 44)) := bel_alloc (bel_alloc (Below.refl _ _) _) _
 generalize ((w.alloc (.cells #[.slice A0 p.slots.length c0, .slice A1 p.vols.length c1] 44)).alloc (.cells #[.slice none 0 0, .slice none 0 0] 44)) = W0 at hB hR hW ⊢
 -- what a failing way leaves
 have hno : ∀ W : World, Bel W0 W → makeF p name size = none →
   Blk ((W.setCell ⟨w.heap.size + 1, 0, none⟩ (.slice A0 p.slots.length c0)).setCell ⟨w.heap.size + 1, 1, none⟩ (.slice A1 p.vols.length c1)) (w.heap.size + 1) #[.slice A0 p.slots.length c0, .slice A1 p.vols.length c1] 44 ∧
   TurnsP base p (makeF p name size) w (.returned (.tuple #[.agg #[.slice A0 p.slots.length c0, .slice A1 p.vols.length c1], .bool false])) ((W.setCell ⟨w.heap.size + 1, 0, none⟩ (.slice A0 p.slots.length c0)).setCell ⟨w.heap.size + 1, 1, none⟩ (.slice A1 p.vols.length c1)) := by
  intro W hb hn
  have hR2 := hR.bel hb
  have hR3 := hR2.set 0 (.slice A0 p.slots.length c0) (cs' := #[.slice A0 p.slots.length c0, .slice none 0 0]) rfl
  have hR4 := hR3.set 1 (.slice A1 p.vols.length c1) (cs' := #[.slice A0 p.slots.length c0, .slice A1 p.vols.length c1]) rfl
  have hb5 := bel_set (bel_set (hW.tr hb) (Nat.le_succ _) 0 (.slice A0 p.slots.length c0)) (Nat.le_succ _) 1 (.slice A1 p.vols.length c1)
  have hop4 := ((HP.out.bel (hW.tr hb)).far hR2 (by decide) (by decide) (by decide) 0 (.slice A0 p.slots.length c0)).far hR3 (by decide) (by decide) (by decide) 1 (.slice A1 p.vols.length c1)
  refine ⟨hR4, ?_⟩
  rw [hn]
  exact ⟨_, _, _, rfl, hop4, Fr.ofBel hb5 hbase⟩
 have HNO := Lib.hid hno
 have HB := Lib.hid hB
 have HR := Lib.hid hR
 have HW := Lib.hid hW
 have q0 := HB.out.cell 0
 have q1 := HB.out.cell 1
 obtain ⟨r0, r1, f0, f1, z1⟩ := k2f HR.out
 simp at q0 q1
 clear hB hR hW hno
 refine (l3Name_c name _ HNX.out).mono ?_
 rintro e w' ⟨rfl, rfl⟩
 cases h1 : isNm name with
 | false =>
  have HG := Lib.hid (show makeF p name size = none from makeF_no (.inl h1))
  go_wp2
  have hend := HNO.out W0 (Below.refl _ _) HG.out
  refine bodyPost_ret (results_ct rfl _ _ (w.heap.size + 1) 44 #[.slice A0 p.slots.length c0, .slice A1 p.vols.length c1] (0, 0) _ rfl hend.1 Tryz.underlying44 rfl (by kernel_rfl)) rfl ?_
  exact hend.2
 | true =>
  cases h3 : inR size 1 6 with
  | false =>
   have HG := Lib.hid (show makeF p name size = none from makeF_no (.inr (.inr h3)))
   go_wp2_with (go_at_call 38; refine (l6In_c size 1 6 _).mono ?_; rintro e w' ⟨rfl, rfl⟩)
   have hend := HNO.out W0 (Below.refl _ _) HG.out
   refine bodyPost_ret (results_ct rfl _ _ (w.heap.size + 1) 44 #[.slice A0 p.slots.length c0, .slice A1 p.vols.length c1] (0, 0) _ rfl hend.1 Tryz.underlying44 rfl (by kernel_rfl)) rfl ?_
   exact hend.2
  | true =>
   go_wp2_with (go_at_call 38; refine (l6In_c size 1 6 _).mono ?_; rintro e w' ⟨rfl, rfl⟩)
   refine (l11At_c _ p.vols A1 c1 name _ (HI.out.bel HW.out).v hlv).mono ?_
   rintro e w1 ⟨rfl, hb1⟩
   have hbd := volIdx_bd p.vols name
   clear q0 q1 r0 r1 f0 f1 z1
   have q0 := (HB.out.bel hb1).cell 0
   have q1 := (HB.out.bel hb1).cell 1
   have r0 := (HR.out.bel hb1).cell 0
   have r1 := (HR.out.bel hb1).cell 1
   have f0 := (HR.out.bel hb1).free 0
   have f1 := (HR.out.bel hb1).free 1
   have z1 := (HR.out.bel hb1).lt
   simp at q0 q1 r0 r1
   have HB1 := Lib.hid hb1
   clear hb1
   by_cases h2 : 0 ≤ volIdx p.vols name
   ·have HG := Lib.hid (show makeF p name size = none from makeF_no (.inr (.inl h2)))
    go_wp2
    have hend := HNO.out w1 HB1.out HG.out
    refine bodyPost_ret (results_ct rfl _ _ (w.heap.size + 1) 44 #[.slice A0 p.slots.length c0, .slice A1 p.vols.length c1] (0, 0) _ rfl hend.1 Tryz.underlying44 rfl (by kernel_rfl)) rfl ?_
    exact hend.2
   ·have h2' : volIdx p.vols name < 0 := by omega
    have hr := inR_iff.1 h3
    have hs1 : 1 ≤ size := hr.1
    have hs6 : size ≤ 6 := hr.2
    clear hr
    obtain ⟨zs, hzs⟩ : ∃ zs, List.replicate size.toNat (0 : Int) = zs := ⟨_, rfl⟩
    have HG := Lib.hid (show makeF p name size = some ⟨p.slots, insAt (posOf name p.vols) ⟨name, zs⟩ p.vols⟩ from hzs ▸ makeF_yes h1 h2' h3)
    have HZS := Lib.hid hzs
    have HNM := Lib.hid (And.intro h1 (fun (m : Nat) (y : Vol) (hy : p.vols[m]? = some y) => HK.out.v.nm hy))
    clear hzs
    go_wp2
    clear h1 h3
    refine start_ (n := 8) (S := fun w' => w'.cell? ⟨w.heap.size, 0, none⟩ = some (.slice A0 p.slots.length c0) ∧ w'.cell? ⟨w.heap.size, 1, none⟩ = some (.slice A1 p.vols.length c1)) (ds := [6]) #[F, F, F, F, F, F, F, F] (by kernel_rfl) rfl rfl ⟨q0, q1⟩ (fun hHeld => ?_)
    refine py 1 (some 24) #[F, T, F, F, F, F, F, F] ?_
    refine py 2 (some 25) #[F, T, T, F, F, F, F, F] ?_
    refine ty 0 (some 23) #[T, T, T, F, F, F, F, F] (hS := hHeld) (hz := by rintro w' ⟨s0, s1⟩; go_simp; with_reducible rfl) (h := ?_)
    refine ox 3 (some 26) #[T, T, T, T, F, F, F, F] fun K hK => ?_
    refine Kd.R_make_step kInt (w0 := w1.drew) w1.drew.heap.size 3 (by rfl) (N := 26) rfl 82 _ _ rfl size rfl rfl Tryz.underlying82 (.int .i64 0) 8 info_int rfl (by decide) (by omega) 0 (ok := fun _ => True) (okp := fun _ => True) (kInt_mkM _ _ _ 0) (fun _ hk => hk) trivial (by omega) (by omega) (Below.refl _ _) (Nat.le_refl _) ?_
    intro v2 w2 ho hb2' hg_ hnew_
    clear hg_ hnew_
    have ho2 : OwnI w2 w1.drew.heap.size v2 zs := HZS.out ▸ ownI_of_R ho
    have hb1' : Bel W0 w2 := Bel.tr (Bel.tr HB1.out (Below.refl _ _).drew) hb2'
    have HB1' := Lib.hid hb1'
    obtain ⟨A2, c2, rfl, hc2, hC2⟩ := ho2.reads
    have hlow : OwnI w2 base (.slice A2 zs.length c2) zs := own_lower ho2 (Nat.le_trans hbase (Nat.le_trans HW.out.size HB1.out.size))
    have HL2 := Lib.hid hlow
    have hap : ∀ (m : Nat) (b' : Value) (k : Nat), bvs[m]? = some b' → b'.ownBlock = some k → Value.ownBlock (.slice A2 zs.length c2) ≠ some k := fun m b' k hm hk h2 => by have e1 := HP.out.v.inner_lt hm hk; have e2 := own_block_ge ho2 h2; have e3 := HW.out.size; have e4 := HB1.out.size; have e5 : w1.drew.heap.size = w1.heap.size := rfl; omega
    have HAP := Lib.hid hap
    clear hlow hap
    have u1 := (HB.out.bel hb1').cell 0
    have u2 := (HB.out.bel hb1').cell 1
    simp at u1 u2
    clear ho ho2 hb1' hb2' hC2 hc2
    refine hK.out _ _ ⟨u1, u2⟩ (fun hHeld => ?_)
    clear hK K
    refine nox 26 (h := ?_)
    refine py 4 (some 27) #[T, T, T, T, T, F, F, F] ?_
    refine ox 5 (some 28) #[T, T, T, T, T, T, F, F] fun K hK => ?_
    refine gox Tryz.func134 #[.agg #[.slice A0 p.slots.length c0, .slice A1 p.vols.length c1], .agg #[.string name, .slice A2 zs.length c2]] ?_
    with_reducible refine (l11Add_c (x := ⟨name, zs⟩) (HP.out.bel (HW.out.tr HB1'.out)) HL2.out HS.out (Nat.le_trans hbase (HW.out.tr HB1'.out).size) HAP.out HNM.out.1 HNM.out.2).mono ?_
    rintro e w3 ⟨v3, rfl, ho3, hb3⟩
    have HO3 := Lib.hid ho3
    have HB3 := Lib.hid (HB1'.out.tr hb3)
    obtain ⟨A7, A8, c7, c8, e7, rfl, hpi3⟩ := ho3.reads
    have s0 := (HR.out.bel HB3.out).cell 0
    have s1 := (HR.out.bel HB3.out).cell 1
    have t0 := (HR.out.bel HB3.out).free 0
    have t1 := (HR.out.bel HB3.out).free 1
    simp at s0 s1
    have u3 := (HB.out.bel HB3.out).cell 0
    have u4 := (HB.out.bel HB3.out).cell 1
    simp at u3 u4
    clear ho3 hb3 hpi3 e7
    refine ⟨_, rfl, ?_⟩
    refine hK.out _ _ ⟨u3, u4⟩ (fun hHeld => ?_)
    clear hK K
    refine nox 28 (h := ?_)
    refine lx 6 none #[T, T, T, T, T, T, T, F] fun K hK => ?_
    refine sx ?_
    refine hK.out _ _ ?_
    clear hK K
    refine py 7 (some 7) #[T, T, T, T, T, T, T, T] ?_
    refine done_ (by kernel_rfl) ?_
    clear hHeld
    go_wp2
    have hR2 := HR.out.bel HB3.out
    have hR3 := hR2.set 0 (.slice A0 p.slots.length c0) (cs' := #[.slice A0 p.slots.length c0, .slice none 0 0]) rfl
    have hR4 := hR3.set 1 (.slice A8 (insAt (posOf name p.vols) (⟨name, zs⟩ : Vol) p.vols).length c8) (cs' := #[.slice A0 p.slots.length c0, .slice A8 (insAt (posOf name p.vols) (⟨name, zs⟩ : Vol) p.vols).length c8]) rfl
    have hb5 := bel_set (bel_set (HW.out.tr HB3.out) (Nat.le_succ _) 0 (.slice A0 p.slots.length c0)) (Nat.le_succ _) 1 (.slice A8 (insAt (posOf name p.vols) (⟨name, zs⟩ : Vol) p.vols).length c8)
    have hop4 := (HO3.out.far hR2 (by decide) (by decide) (by decide) 0 (.slice A0 p.slots.length c0)).far hR3 (by decide) (by decide) (by decide) 1 (.slice A8 (insAt (posOf name p.vols) (⟨name, zs⟩ : Vol) p.vols).length c8)
    refine bodyPost_ret (results_ct rfl _ _ (w.heap.size + 1) 44 #[.slice A0 p.slots.length c0, .slice A8 (insAt (posOf name p.vols) (⟨name, zs⟩ : Vol) p.vols).length c8] (0, 0) _ rfl hR4 Tryz.underlying44 rfl (by kernel_rfl)) rfl ?_
    rw [HG.out]
    exact ⟨_, _, _, rfl, hop4, Fr.ofBel hb5 hbase⟩
theorem cloneF_no {p : Pool} {fr dst : ByteArray} (h : volIdx p.vols fr < 0 ∨ isNm dst = false ∨ 0 ≤ volIdx p.vols dst) : cloneF p fr dst = none := by
 unfold cloneF
 rw [if_neg]
 rintro ⟨h1, h2, h3⟩
 rcases h with h | h | h
 ·omega
 ·rw [h] at h2; cases h2
 ·omega
theorem cloneF_yes {p : Pool} {fr dst : ByteArray} {i : Nat} {v : Vol} (hi : volIdx p.vols fr = i) (hv : p.vols[i]? = some v) (h1 : isNm dst = true) (h2 : volIdx p.vols dst < 0) :
  cloneF p fr dst = some ⟨incAll p.slots v.blocks, insAt (posOf dst p.vols) ⟨dst, v.blocks⟩ p.vols⟩ := by
 unfold cloneF
 rw [if_pos ⟨by omega, h1, h2⟩, hi]
 unfold volAt
 rw [Int.toNat_natCast, getD_of hv]
theorem cnt_take (q : Int) : ∀ (xs : List Int) (k : Nat), cnt q (xs.take k) ≤ cnt q xs
 | [], k => by simp
 | a :: xs, 0 => by have := cnt_le q (a :: xs); simp [cnt] at this ⊢; exact this.1
 | a :: xs, k + 1 => by have := cnt_take q xs k; simp only [List.take_succ_cons, cnt]; omega
theorem inc_at {p : Pool} (hp : PoolP p) {i : Nat} {v : Vol} (hv : p.vols[i]? = some v) {k m : Nat} (hx : v.blocks[k]? = some ((m : Int) + 1)) : ∃ y, (incAll p.slots (v.blocks.take k))[m]? = some y ∧ 0 ≤ y.uses ∧ y.uses ≤ 98 := by
 have hvo := volOk_parts (hp.v.v i v hv)
 have hr := hvo.1
 obtain ⟨_, h2⟩ := incAll_get (xs := v.blocks.take k) hp.s (fun x hx => hr x (List.mem_of_mem_take hx)) (fun j x hj => by
  have h1 := hp.uses j x hj
  have h2 := uses_mem (p := (j : Int) + 1) hv
  have h3 := hp.v.uses_le ((j : Int) + 1)
  have h4 := cnt_le ((j : Int) + 1) v.blocks
  have h5 := cnt_take ((j : Int) + 1) v.blocks k
  have h6 := cnt_le ((j : Int) + 1) (v.blocks.take k)
  constructor
  ·omega
  ·omega)
 have hm := hr _ (List.mem_of_getElem? hx)
 obtain ⟨x, hxs⟩ := getQ (show m < p.slots.length by rw [hp.s.len]; omega)
 refine ⟨_, h2 m x hxs, ?_⟩
 have h1 := hp.uses m x hxs
 have h2 := uses_mem (p := (m : Int) + 1) hv
 have h3 := hp.v.uses_le ((m : Int) + 1)
 have h4 := cnt_le ((m : Int) + 1) v.blocks
 have h5 := cnt_take ((m : Int) + 1) v.blocks k
 have h6 := cnt_le ((m : Int) + 1) (v.blocks.take k)
 have h7 := uses_nonneg ((m : Int) + 1) p.vols
 simp only
 omega
theorem cloneClo_c {w : World} {A0 A1 : Option Addr} {c0 c1 bp bf bd : Nat} {p : Pool} {fr dst : ByteArray} (h : PoolIn w A0 A1 c0 c1 p) (hs : SmallP p) (hB : Blk w bp #[.slice A0 p.slots.length c0, .slice A1 p.vols.length c1] 44) (hF : Blk w bf #[.string fr] 9) (hD : Blk w bd #[.string dst] 9) (hok : poolOk p = true)
  (W : World) (b base : Nat) (hW : Bel w W) (hb1 : w.heap.size ≤ base) (hb2 : base ≤ W.heap.size) (hpv : PV W b base p) :
  Calls Tryz.prog 149 #[.pointer (some ⟨b, 0, none⟩), .pointer (some ⟨bp, 0, none⟩), .pointer (some ⟨bf, 0, none⟩), .pointer (some ⟨bd, 0, none⟩)] W (Changes (cloneF p fr dst) b base W) := by
 have HS := Lib.hid hs
 have HP := Lib.hid h
 have HK := Lib.hid (poolOk_iff.1 hok)
 have HV := Lib.hid hpv
 have HW := Lib.hid hW
 have HB := Lib.hid hB
 have HF := Lib.hid hF
 have HD := Lib.hid hD
 have q0 := (HB.out.bel HW.out).cell 0
 have q1 := (HB.out.bel HW.out).cell 1
 have q2 := (HF.out.bel HW.out).cell 0
 simp at q0 q1 q2
 clear h hs hok hpv hW hB hF hD
 have hlv := HS.out.vols.len
 go_enter Tryz.func149, Tryz.ntmps149
 go_wp2_with fail
 refine (vol_c _ p.vols A1 c1 fr _ (HP.out.bel HW.out).v hlv).mono ?_
 rintro e w1 ⟨rfl, hb1'⟩
 have HW1 := Lib.hid (HW.out.tr hb1')
 have HB1 := Lib.hid hb1'
 clear q0 q1 q2 hb1'
 by_cases hn : volIdx p.vols fr < 0
 ·have HG := Lib.hid (show cloneF p fr dst = none from cloneF_no (.inl hn))
  go_wp2
  go_ret
  rw [HG.out]
  exact ⟨rfl, ⟨p, HV.out.bel HB1.out, fun q' h => by cases h⟩, HB1.out.mono hb2⟩
 ·obtain ⟨i, v, hi, hv, hvn⟩ := volIdx_yes hn
  have HI := Lib.hid hv
  have HII := Lib.hid hi
  have hil := ltQ hv
  rw [hi]
  clear hn hvn hv hi
  have hin : ¬ ((i : Int) < 0) := by omega
  have q0 := (HB.out.bel HW1.out).cell 0
  have q1 := (HB.out.bel HW1.out).cell 1
  have q3 := (HD.out.bel HW1.out).cell 0
  simp at q0 q1 q3
  cases h1 : isNm dst with
  | false =>
   have HG := Lib.hid (show cloneF p fr dst = none from cloneF_no (.inr (.inl h1)))
   go_wp2_with (go_at_call 92; refine (isName_c dst _).mono ?_; rintro e w' ⟨rfl, rfl⟩)
   go_ret
   rw [HG.out]
   exact ⟨rfl, ⟨p, HV.out.bel HB1.out, fun q' h => by cases h⟩, HB1.out.mono hb2⟩
  | true =>
   have hbd := volIdx_bd p.vols dst
   go_wp2_with (go_at_call 92; refine (isName_c dst _).mono ?_; rintro e w' ⟨rfl, rfl⟩)
   refine (vol_c _ p.vols A1 c1 dst _ (HP.out.bel HW1.out).v hlv).mono ?_
   rintro e w2 ⟨rfl, hb2'⟩
   have HW2 := Lib.hid (HW1.out.tr hb2')
   have HB2 := Lib.hid (HB1.out.tr hb2')
   clear q0 q1 q3 hb2'
   by_cases h2 : 0 ≤ volIdx p.vols dst
   ·have HG := Lib.hid (show cloneF p fr dst = none from cloneF_no (.inr (.inr h2)))
    go_wp2
    go_ret
    rw [HG.out]
    exact ⟨rfl, ⟨p, HV.out.bel HB2.out, fun q' h => by cases h⟩, HB2.out.mono hb2⟩
   ·have h2' : volIdx p.vols dst < 0 := by omega
    have HG := Lib.hid (show cloneF p fr dst = some ⟨incAll p.slots v.blocks, insAt (posOf dst p.vols) ⟨dst, v.blocks⟩ p.vols⟩ from cloneF_yes HII.out HI.out h1 h2')
    have HM := Lib.hid (fun (m : Nat) (y : Vol) (hy : p.vols[m]? = some y) => cmpS_pos HK.out h1 h2' m y hy)
    have hq := posOf_le dst p.vols
    have hx1 : v.blocks.length ≤ 1048576 := HS.out.vols.blocks v (List.mem_of_getElem? HI.out)
    obtain ⟨ad, A2, n2, rfl, hc0, hc0', hn2, hC⟩ := at_vol HP.out.v HI.out
    have hc := (HW2.out.cell (World.block_lt_of_cell? w _ hc0)).trans hc0
    have hc' := (HW2.out.cell (World.block_lt_of_cell? w _ hc0')).trans hc0'
    have HC := Lib.hid hC
    have HCC := Lib.hid hc0'
    have q0 := (HB.out.bel HW2.out).cell 0
    have q1 := (HB.out.bel HW2.out).cell 1
    simp at q0 q1
    clear hC hc0 hc0' h1
    go_wp2
    obtain ⟨⟨v0, v1, bvs, hb, ho⟩, hlo⟩ := HV.out.bel HB2.out
    have HO := Lib.hid (And.intro hb ho)
    clear hb ho q0 q1 hc hc'
    go_loopg [32] v.blocks.length (fun g v32 W' => ∃ k : Nat, g + k = v.blocks.length ∧ v32 = .int .i64 k ∧ Blk W' b #[v0, v1] 44 ∧ OwnS W' base v0 (incAll p.slots (v.blocks.take k)) ∧ OwnV W' base v1 p.vols bvs ∧ Below base w2 W')
    case atStart => exact ⟨0, rfl, rfl, HO.out.1, HO.out.2.s, HO.out.2.v, Below.refl _ _⟩
    case round =>
     obtain ⟨k, hk, rfl, hb, hos, hov, hbel⟩ := hrel
     have hWw : Bel w wr := HW2.out.trans (hbel.mono hb1)
     by_cases hlt : k < v.blocks.length
     ·obtain ⟨x, hx⟩ := getQ hlt
      have hxr := (volOk_parts (HK.out.v.v i v HI.out)).1 x (List.mem_of_getElem? hx)
      obtain ⟨ad2, rfl, hcx⟩ := at_int (Kd.C_below HC.out hWw) hx
      have r0 := hb.cell 0
      simp at r0
      have HR := Lib.hid (And.intro (And.intro hb hos) (And.intro hov (And.intro hbel hWw)))
      clear hb hov hbel hWw
      by_cases h0 : 0 < x
      ·obtain ⟨m, rfl⟩ : ∃ m : Nat, x = (m : Int) + 1 := ⟨(x - 1).toNat, by omega⟩
       obtain ⟨y, hy, hy1, hy2⟩ := inc_at HK.out HI.out hx
       have HT := Lib.hid (show incAll p.slots (v.blocks.take (k + 1)) = (incAll p.slots (v.blocks.take k)).set m ⟨y.text, y.uses + 1⟩ by rw [take_snoc hx, incAll_snoc, if_pos h0, show ((m : Int) + 1 - 1).toNat = m by omega, incS_eq hy])
       have hdl : (incAll p.slots (v.blocks.take k)).length = 8 := by rw [incAll_len, HK.out.s.len]
       have hml := ltQ hy
       rw [hdl] at hml
       obtain ⟨g, cap, ev, hg1, hg2, hcap, hcc, hcc', hf, hf'⟩ := OwnS.at hos hy
       rw [hdl] at ev hcap
       subst ev
       have hset := OwnS.setU (hdl ▸ hos) hy (y.uses + 1)
       have H3 := Lib.hid hset
       have hdl2 := Lib.hid hdl
       clear hx hy hos hset hdl
       go_wp2
       go_roundg (v.blocks.length - (k + 1))
       case rel =>
        obtain ⟨⟨hb, hos⟩, hov, hbel, hWw⟩ := HR.out
        refine ⟨k + 1, by omega, int_eq (by omega), hb.grown H3.out.2 (own_blk_ne hos hb (by decide)), ?_, hov.otherS hos H3.out.2, hbel.grown H3.out.2 (by have := hb.lt; omega) (own_base hos)⟩
        rw [HT.out]
        have h5 := H3.out.1
        rw [hdl2.out] at h5
        exact h5
       case measure => omega
      ·have HT := Lib.hid (show incAll p.slots (v.blocks.take (k + 1)) = incAll p.slots (v.blocks.take k) by rw [take_snoc hx, incAll_snoc, if_neg h0])
       clear hx hos
       go_wp2
       go_roundg (v.blocks.length - (k + 1))
       case rel =>
        obtain ⟨⟨hb, hos⟩, hov, hbel, hWw⟩ := HR.out
        exact ⟨k + 1, by omega, int_eq (by omega), hb, by rw [HT.out]; exact hos, hov, hbel⟩
       case measure => omega
     ·have hkl : k = v.blocks.length := by omega
      rw [hkl, List.take_length] at hos
      have hpv : PV wr.drew b base ⟨incAll p.slots v.blocks, p.vols⟩ := ⟨⟨v0, v1, bvs, hb, ⟨hos.bel (Below.refl _ _).drew, hov.bel (Below.refl _ _).drew⟩⟩, hlo⟩
      have q1 := (HB.out.bel hWw).cell 1
      have q3 := (HD.out.bel hWw).cell 0
      have q4 := (hWw.cell (World.block_lt_of_cell? w _ HCC.out)).trans HCC.out
      simp at q1 q3 q4
      have HPV := Lib.hid hpv
      have HWw := Lib.hid hWw
      have HBE := Lib.hid hbel
      have hbw : base ≤ wr.heap.size := by have := hbel.size; have := HB2.out.size; omega
      clear hb hos hov hbel hWw hpv hkl
      go_wp2
      refine start_ (n := 11) (S := fun w' => w'.cell? ⟨bd, 0, none⟩ = some (.string dst) ∧ w'.cell? ⟨bp, 1, none⟩ = some (.slice (some ad) p.vols.length c1) ∧ w'.cell? ⟨(ad.add (i * 2)).block, (ad.add (i * 2)).off + 1, none⟩ = some (.slice A2 v.blocks.length n2)) (ds := [10]) #[F, F, F, F, F, F, F, F, F, F, F] (by kernel_rfl) rfl rfl ⟨q3, q1, q4⟩ (fun hHeld => ?_)
      refine py 0 (some 51) #[T, F, F, F, F, F, F, F, F, F, F] ?_
      refine py 2 (some 53) #[T, F, T, F, F, F, F, F, F, F, F] ?_
      refine py 4 (some 55) #[T, F, T, F, T, F, F, F, F, F, F] ?_
      refine ty 1 (some 52) #[T, T, T, F, T, F, F, F, F, F, F] (hS := hHeld) (hz := by rintro w' ⟨s0, s1, s2⟩; go_simp; with_reducible rfl) (h := ?_)
      refine ty 3 (some 54) #[T, T, T, T, T, F, F, F, F, F, F] (hS := hHeld) (hz := by rintro w' ⟨s0, s1, s2⟩; go_simp; with_reducible rfl) (h := ?_)
      refine py 5 (some 56) #[T, T, T, T, T, T, F, F, F, F, F] ?_
      refine py 6 (some 57) #[T, T, T, T, T, T, T, F, F, F, F] ?_
      refine ty 7 (some 58) #[T, T, T, T, T, T, T, T, F, F, F] (hS := hHeld) (hz := by rintro w' ⟨s0, s1, s2⟩; go_simp; with_reducible rfl) (h := ?_)
      refine ox 8 (some 59) #[T, T, T, T, T, T, T, T, T, F, F] fun K hK => ?_
      refine gox Tryz.func132 #[.slice A2 v.blocks.length n2] ?_
      with_reducible refine (cloneI_c (Kd.C_below HC.out HWw.out.drew) hx1).mono ?_
      rintro e w3 ⟨v3, rfl, ho3, hb3⟩
      obtain ⟨A3, c3, rfl, hc3, hC3⟩ := ho3.reads
      have HO3 := Lib.hid ho3
      have HB3 := Lib.hid hb3
      have hw3 : Bel w w3 := Bel.tr (b := wr.drew) HWw.out.drew hb3
      have u1 := (HB.out.bel hw3).cell 1
      have u3 := (HD.out.bel hw3).cell 0
      have u4 := (hw3.cell (World.block_lt_of_cell? w _ HCC.out)).trans HCC.out
      simp at u1 u3 u4
      clear ho3 hb3 hw3 hC3
      refine ⟨_, rfl, ?_⟩
      refine hK.out _ _ ⟨u3, u1, u4⟩ (fun hHeld => ?_)
      clear hK K
      refine nox 59 (h := ?_)
      refine py 9 (some 60) #[T, T, T, T, T, T, T, T, T, T, F] ?_
      refine lx 10 (some 61) #[T, T, T, T, T, T, T, T, T, T, T] fun K hK => ?_
      refine gox Tryz.func144 #[.pointer (some ⟨b, 0, none⟩), .agg #[.string dst, .slice A3 v.blocks.length c3]] ?_
      with_reducible refine (insert2_c (x := ⟨dst, v.blocks⟩) HPV.out HB3.out HO3.out hq hlv HM.out).mono ?_
      rintro e w4 ⟨rfl, hv4, hb4⟩
      have HV4 := Lib.hid hv4
      have HB4 := Lib.hid hb4
      clear hv4 hb4
      refine ⟨_, rfl, ?_⟩
      refine hK.out _ _ ?_
      clear hK K
      refine nox 61 (h := ?_)
      refine done_ (by kernel_rfl) ?_
      clear hHeld
      go_wp2
      go_ret
      rw [HG.out]
      exact ⟨rfl, ⟨_, HV4.out, fun q' h => (Option.some.inj h)⟩, ((((HB2.out.mono hb2).trans HBE.out).drew).trans (HB3.out.mono hbw)).trans HB4.out⟩
theorem StoreP.smallS {s : List Slot} (h : StoreP s) : SmallS s := ⟨by have := h.len; omega, fun x hx => by
 obtain ⟨i, hi⟩ := List.getElem?_of_mem hx
 have h1 := (h.ok i x hi).1
 unfold tOk at h1
 simp at h1
 omega⟩
theorem l11Clone_c {w : World} {base : Nat} {v0 v1 : Value} {bvs : List Value} {p : Pool} {fr dst : ByteArray} (h : OwnP w base v0 v1 p bvs) (hs : SmallP p) (hp : PoolP p) (hbase : base ≤ w.heap.size) (hnm : dst.size ≤ 1048576) :
  Calls Tryz.prog 116 #[.agg #[v0, v1], .string fr, .string dst] w (TurnsP base p (cloneF p fr dst) w) := by
 have HS := Lib.hid hs
 have HK := Lib.hid hp
 obtain ⟨A0, A1, c0, c1, rfl, rfl, hpi⟩ := h.reads
 have HP := Lib.hid h
 have HI := Lib.hid hpi
 have hlv := HS.out.vols.len
 have hnx : dst.size ≤ maxLen := by unfold maxLen; omega
 have HNX := Lib.hid hnx
 clear h hs hp hpi hnx
 go_enter Tryz.func116, Tryz.ntmps116
 go_wp2_with fail
 have hB : Blk ((w.alloc (.cells #[.slice A0 p.slots.length c0, .slice A1 p.vols.length c1] 44)).alloc (.cells #[.slice none 0 0, .slice none 0 0] 44)) w.heap.size #[.slice A0 p.slots.length c0, .slice A1 p.vols.length c1] 44 := (Blk.new _ _ _).alloc _
 have hR : Blk ((w.alloc (.cells #[.slice A0 p.slots.length c0, .slice A1 p.vols.length c1] 44)).alloc (.cells #[.slice none 0 0, .slice none 0 0] 44)) (w.heap.size + 1) #[.slice none 0 0, .slice none 0 0] 44 := Blk.nw2 _ _ _ _
 have hW : Bel w ((w.alloc (.cells #[.slice A0 p.slots.length c0, .slice A1 p.vols.length c1] 44)).alloc (.cells #[.slice none 0 0, .slice none 0 0] 44)) := bel_alloc (bel_alloc (Below.refl _ _) _) _
 generalize ((w.alloc (.cells #[.slice A0 p.slots.length c0, .slice A1 p.vols.length c1] 44)).alloc (.cells #[.slice none 0 0, .slice none 0 0] 44)) = W0 at hB hR hW ⊢
 have hno : ∀ W : World, Bel W0 W → cloneF p fr dst = none →
   Blk ((W.setCell ⟨w.heap.size + 1, 0, none⟩ (.slice A0 p.slots.length c0)).setCell ⟨w.heap.size + 1, 1, none⟩ (.slice A1 p.vols.length c1)) (w.heap.size + 1) #[.slice A0 p.slots.length c0, .slice A1 p.vols.length c1] 44 ∧
   TurnsP base p (cloneF p fr dst) w (.returned (.tuple #[.agg #[.slice A0 p.slots.length c0, .slice A1 p.vols.length c1], .bool false])) ((W.setCell ⟨w.heap.size + 1, 0, none⟩ (.slice A0 p.slots.length c0)).setCell ⟨w.heap.size + 1, 1, none⟩ (.slice A1 p.vols.length c1)) := by
  intro W hb hn
  have hR2 := hR.bel hb
  have hR3 := hR2.set 0 (.slice A0 p.slots.length c0) (cs' := #[.slice A0 p.slots.length c0, .slice none 0 0]) rfl
  have hR4 := hR3.set 1 (.slice A1 p.vols.length c1) (cs' := #[.slice A0 p.slots.length c0, .slice A1 p.vols.length c1]) rfl
  have hb5 := bel_set (bel_set (hW.tr hb) (Nat.le_succ _) 0 (.slice A0 p.slots.length c0)) (Nat.le_succ _) 1 (.slice A1 p.vols.length c1)
  have hop4 := ((HP.out.bel (hW.tr hb)).far hR2 (by decide) (by decide) (by decide) 0 (.slice A0 p.slots.length c0)).far hR3 (by decide) (by decide) (by decide) 1 (.slice A1 p.vols.length c1)
  refine ⟨hR4, ?_⟩
  rw [hn]
  exact ⟨_, _, _, rfl, hop4, Fr.ofBel hb5 hbase⟩
 have HNO := Lib.hid hno
 have HB := Lib.hid hB
 have HR := Lib.hid hR
 have HW := Lib.hid hW
 clear hB hR hW hno
 refine (l11At_c _ p.vols A1 c1 fr _ (HI.out.bel HW.out).v hlv).mono ?_
 rintro e w1 ⟨rfl, hb1⟩
 have HB1 := Lib.hid hb1
 clear hb1
 have q0 := (HB.out.bel HB1.out).cell 0
 have q1 := (HB.out.bel HB1.out).cell 1
 have r0 := (HR.out.bel HB1.out).cell 0
 have r1 := (HR.out.bel HB1.out).cell 1
 have f0 := (HR.out.bel HB1.out).free 0
 have f1 := (HR.out.bel HB1.out).free 1
 have z1 := (HR.out.bel HB1.out).lt
 simp at q0 q1 r0 r1
 by_cases hn : volIdx p.vols fr < 0
 ·have HG := Lib.hid (show cloneF p fr dst = none from cloneF_no (.inl hn))
  go_wp2
  have hend := HNO.out w1 HB1.out HG.out
  refine bodyPost_ret (results_ct rfl _ _ (w.heap.size + 1) 44 #[.slice A0 p.slots.length c0, .slice A1 p.vols.length c1] (0, 0) _ rfl hend.1 Tryz.underlying44 rfl (by kernel_rfl)) rfl ?_
  exact hend.2
 ·obtain ⟨i, v, hi, hv, hvn⟩ := volIdx_yes hn
  have HV := Lib.hid hv
  have HII := Lib.hid hi
  have hil := ltQ hv
  have hx1 : v.blocks.length ≤ 1048576 := HS.out.vols.blocks v (List.mem_of_getElem? HV.out)
  rw [hi]
  clear hn hvn hv hi
  have hin : ¬ ((i : Int) < 0) := by omega
  cases h1 : isNm dst with
  | false =>
   have HG := Lib.hid (show cloneF p fr dst = none from cloneF_no (.inr (.inl h1)))
   go_wp2_with (go_at_call 109; refine (l3Name_c dst _ HNX.out).mono ?_; rintro e w' ⟨rfl, rfl⟩)
   have hend := HNO.out w1 HB1.out HG.out
   refine bodyPost_ret (results_ct rfl _ _ (w.heap.size + 1) 44 #[.slice A0 p.slots.length c0, .slice A1 p.vols.length c1] (0, 0) _ rfl hend.1 Tryz.underlying44 rfl (by kernel_rfl)) rfl ?_
   exact hend.2
  | true =>
   have hbd := volIdx_bd p.vols dst
   go_wp2_with (go_at_call 109; refine (l3Name_c dst _ HNX.out).mono ?_; rintro e w' ⟨rfl, rfl⟩)
   refine (l11At_c _ p.vols A1 c1 dst _ (HI.out.bel (HW.out.tr HB1.out)).v hlv).mono ?_
   rintro e w2 ⟨rfl, hb2⟩
   have HB2 := Lib.hid (HB1.out.tr hb2)
   clear hb2 q0 q1 r0 r1 f0 f1 z1
   have q0 := (HB.out.bel HB2.out).cell 0
   have q1 := (HB.out.bel HB2.out).cell 1
   have r0 := (HR.out.bel HB2.out).cell 0
   have r1 := (HR.out.bel HB2.out).cell 1
   have f0 := (HR.out.bel HB2.out).free 0
   have f1 := (HR.out.bel HB2.out).free 1
   have z1 := (HR.out.bel HB2.out).lt
   have z0 := (HB.out.bel HB2.out).lt
   simp at q0 q1 r0 r1
   by_cases h2 : 0 ≤ volIdx p.vols dst
   ·have HG := Lib.hid (show cloneF p fr dst = none from cloneF_no (.inr (.inr h2)))
    go_wp2
    have hend := HNO.out w2 HB2.out HG.out
    refine bodyPost_ret (results_ct rfl _ _ (w.heap.size + 1) 44 #[.slice A0 p.slots.length c0, .slice A1 p.vols.length c1] (0, 0) _ rfl hend.1 Tryz.underlying44 rfl (by kernel_rfl)) rfl ?_
    exact hend.2
   ·have h2' : volIdx p.vols dst < 0 := by omega
    have HG := Lib.hid (show cloneF p fr dst = some ⟨incAll p.slots v.blocks, insAt (posOf dst p.vols) ⟨dst, v.blocks⟩ p.vols⟩ from cloneF_yes HII.out HV.out h1 h2')
    have HNM := Lib.hid (And.intro h1 (fun (m : Nat) (y : Vol) (hy : p.vols[m]? = some y) => HK.out.v.nm hy))
    have HO2 := Lib.hid (HP.out.bel (HW.out.tr HB2.out))
    obtain ⟨g, cap, bv, hbv, ev, hg1, hg2, hcap, hc, hc', hf, hf'⟩ := HO2.out.v.row.at HV.out
    have ev := slice_eq ev
    obtain ⟨rfl, -, rfl⟩ := ev
    obtain ⟨A2, c2, rfl, hc2, hC2⟩ := (HO2.out.v.inner i v bv HV.out hbv).reads
    have HC2 := Lib.hid hC2
    have hw2 : w.heap.size ≤ w2.heap.size := (HW.out.tr HB2.out).size
    clear hC2 hbv h1 hf hf' hc
    go_wp2_with (at_builtin; refine Kd.R_append_rows kInt (w0 := w2) w2.heap.size rfl (.tmp 29) (.tmp 35) 82 3 (.int .i64 0) 8 rfl Tryz.underlying82 info_int rfl (by decide) (by decide) _ [] v.blocks _ _ _ (fun _ => True) (fun _ => False) rfl rfl (R_emptyI w2 w2.heap.size (Nat.le_refl _)) (Kd.C_alloc HC2.out _) (fun _ _ h => h) (fun _ h => h.elim) (fun _ _ => trivial) ?a2 ?a3 ?a4 ?_; (case a2 => exact bel_alloc (Below.refl _ _) _); (case a3 => simp); (case a4 => simp; omega); intro v3 w3 ho hb3 hg hat; clear hg hat; have ho3 : OwnI w3 w2.heap.size v3 v.blocks := ownI_of_R ho; have HO3 := Lib.hid ho3; have HB3 := Lib.hid hb3; obtain ⟨A3, c3, rfl, hc3, hC3⟩ := ho3.reads; clear ho ho3 hb3 hC3)
    have hX : Blk (w3.alloc (.cells #[.string dst, .slice A3 v.blocks.length c3] 84)) w3.heap.size #[.string dst, .slice A3 v.blocks.length c3] 84 := Blk.new _ _ _
    have hbx : Bel w3 (w3.alloc (.cells #[.string dst, .slice A3 v.blocks.length c3] 84)) := bel_alloc (Below.refl _ _) _
    generalize w3.alloc (.cells #[.string dst, .slice A3 v.blocks.length c3] 84) = W4 at hX hbx ⊢
    obtain ⟨b9, hb9⟩ : ∃ b9, w3.heap.size = b9 := ⟨_, rfl⟩
    rw [hb9] at hX ⊢
    have HX := Lib.hid hX
    have HB4 := Lib.hid ((HB2.out.tr HB3.out).tr hbx)
    have HO4 := Lib.hid (HP.out.bel (HW.out.tr ((HB2.out.tr HB3.out).tr hbx)))
    have hb93 : w.heap.size ≤ b9 := by have := HB3.out.size; omega
    have HI4 := Lib.hid (show OwnI W4 base (.slice A3 v.blocks.length c3) v.blocks from own_lower (OwnI.bel HO3.out hbx) (by omega))
    have hge : ∀ k, Value.ownBlock (.slice A3 v.blocks.length c3) = some k → w.heap.size ≤ k := fun k hk => Nat.le_trans hw2 (own_block_ge HO3.out hk)
    have HGE := Lib.hid hge
    clear hX hbx hb9 q0 q1 r0 r1 f0 f1 z1 z0 hc' hge
    go_loopg [10] v.blocks.length (fun gg v10 W => ∃ k : Nat, gg + k = v.blocks.length ∧ v10 = .int .i64 k ∧ Hid ((Blk W w.heap.size #[.slice A0 p.slots.length c0, .slice (some ⟨g, 0, none⟩) p.vols.length c1] 44 ∧ Blk W (w.heap.size + 1) #[.slice none 0 0, .slice none 0 0] 44 ∧ Blk W b9 #[.string dst, .slice A3 v.blocks.length c3] 84) ∧ OwnS W base (.slice A0 p.slots.length c0) (incAll p.slots (v.blocks.take k)) ∧ OwnV W base (.slice (some ⟨g, 0, none⟩) p.vols.length c1) p.vols bvs ∧ OwnI W base (.slice A3 v.blocks.length c3) v.blocks ∧ Fr base w W))
    case atStart => exact ⟨0, rfl, rfl, ⟨HB.out.bel HB4.out, HR.out.bel HB4.out, HX.out⟩, HO4.out.s, HO4.out.v, HI4.out, Fr.ofBel (HW.out.tr HB4.out) hbase⟩
    case round =>
     obtain ⟨k, hk, rfl, hinv⟩ := hrel
     have x1 := hinv.out.1.2.2.cell 1
     have x0 := hinv.out.1.2.2.cell 0
     have q0 := hinv.out.1.1.cell 0
     have q1 := hinv.out.1.1.cell 1
     simp at x0 x1 q0 q1
     by_cases hlt : k < v.blocks.length
     ·obtain ⟨x, hx⟩ := getQ hlt
      have hxr := (volOk_parts (HK.out.v.v i v HV.out)).1 x (List.mem_of_getElem? hx)
      obtain ⟨A5, c5, e5, hc5, hC5⟩ := hinv.out.2.2.2.1.reads
      have e5 := slice_eq e5
      obtain ⟨rfl, -, rfl⟩ := e5
      obtain ⟨ad2, rfl, hcx⟩ := at_int hC5 hx
      clear hC5
      by_cases h0 : 0 < x
      ·obtain ⟨m, rfl⟩ : ∃ m : Nat, x = (m : Int) + 1 := ⟨(x - 1).toNat, by omega⟩
       obtain ⟨y, hy, hy1, hy2⟩ := inc_at HK.out HV.out hx
       have HT := Lib.hid (show incAll p.slots (v.blocks.take (k + 1)) = (incAll p.slots (v.blocks.take k)).set m ⟨y.text, y.uses + 1⟩ by rw [take_snoc hx, incAll_snoc, if_pos h0, show ((m : Int) + 1 - 1).toNat = m by omega, incS_eq hy])
       have hdl : (incAll p.slots (v.blocks.take k)).length = 8 := by rw [incAll_len, HK.out.s.len]
       have hsl : p.slots.length = 8 := HK.out.s.len
       have hml := ltQ hy
       rw [hdl] at hml
       have hos := hinv.out.2.1
       obtain ⟨g2, cap2, ev, hg3, hg4, hcap2, hcc, hcc', hf, hf'⟩ := OwnS.at hos hy
       rw [hdl] at ev hcap2
       have ev2 := slice_eq ev
       obtain ⟨rfl, -, rfl⟩ := ev2
       rw [hsl] at hos
       have hset := OwnS.setU (hdl ▸ hos) hy (y.uses + 1)
       have H3 := Lib.hid hset
       have HDL := Lib.hid hdl
       have HSL := Lib.hid hsl
       rw [hsl] at q0
       clear hx hy hos hset hdl ev
       clear hsl
       go_wp2
       have hm8 : (m : Int) < 8 := by omega
       have hwm : wrap64 (m : Int) = m := by unfold wrap64; omega
       have hwm2 : wrap64 (y.uses + 1) = y.uses + 1 := by unfold wrap64; omega
       refine start_ (n := 23) (S := fun w' => w'.cell? ⟨w.heap.size, 0, none⟩ = some (.slice (some ⟨g2, 0, none⟩) 8 c0) ∧ w'.cell? ⟨b9, 1, none⟩ = some (.slice (some ad2) v.blocks.length c3) ∧ w'.cell? (ad2.add k) = some (.int .i64 ((m : Int) + 1)) ∧ w'.cell? ⟨g2, m * 2 + 1, none⟩ = some (.int .i64 y.uses)) (ds := [22]) #[F, F, F, F, F, F, F, F, F, F, F, F, F, F, F, F, F, F, F, F, F, F, F] (by kernel_rfl) rfl rfl ⟨q0, x1, hcx, hcc'⟩ (fun hHeld => ?_)
       refine py 0 (some 51) #[T, F, F, F, F, F, F, F, F, F, F, F, F, F, F, F, F, F, F, F, F, F, F] ?_
       refine py 2 (some 53) #[T, F, T, F, F, F, F, F, F, F, F, F, F, F, F, F, F, F, F, F, F, F, F] ?_
       refine py 4 (some 55) #[T, F, T, F, T, F, F, F, F, F, F, F, F, F, F, F, F, F, F, F, F, F, F] ?_
       refine py 8 (some 59) #[T, F, T, F, T, F, F, F, T, F, F, F, F, F, F, F, F, F, F, F, F, F, F] ?_
       refine py 10 (some 61) #[T, F, T, F, T, F, F, F, T, F, T, F, F, F, F, F, F, F, F, F, F, F, F] ?_
       refine py 12 (some 63) #[T, F, T, F, T, F, F, F, T, F, T, F, T, F, F, F, F, F, F, F, F, F, F] ?_
       refine ty 1 (some 52) #[T, T, T, F, T, F, F, F, T, F, T, F, T, F, F, F, F, F, F, F, F, F, F] (hS := hHeld) (hz := by rintro w' ⟨s0, s1, s2, s3⟩; go_simp; with_reducible rfl) (h := ?_)
       refine ty 3 (some 54) #[T, T, T, T, T, F, F, F, T, F, T, F, T, F, F, F, F, F, F, F, F, F, F] (hS := hHeld) (hz := by rintro w' ⟨s0, s1, s2, s3⟩; go_simp; with_reducible rfl) (h := ?_)
       refine py 5 (some 56) #[T, T, T, T, T, T, F, F, T, F, T, F, T, F, F, F, F, F, F, F, F, F, F] ?_
       refine ty 6 (some 57) #[T, T, T, T, T, T, T, F, T, F, T, F, T, F, F, F, F, F, F, F, F, F, F] (hS := hHeld) (hz := by rintro w' ⟨s0, s1, s2, s3⟩; go_simp; with_reducible rfl) (h := ?_)
       refine py 7 (some 58) #[T, T, T, T, T, T, T, T, T, F, T, F, T, F, F, F, F, F, F, F, F, F, F] ?_
       refine ty 9 (some 60) #[T, T, T, T, T, T, T, T, T, T, T, F, T, F, F, F, F, F, F, F, F, F, F] (hS := hHeld) (hz := by rintro w' ⟨s0, s1, s2, s3⟩; go_simp; with_reducible rfl) (h := ?_)
       refine ty 11 (some 62) #[T, T, T, T, T, T, T, T, T, T, T, T, T, F, F, F, F, F, F, F, F, F, F] (hS := hHeld) (hz := by rintro w' ⟨s0, s1, s2, s3⟩; go_simp; with_reducible rfl) (h := ?_)
       refine py 13 (some 64) #[T, T, T, T, T, T, T, T, T, T, T, T, T, T, F, F, F, F, F, F, F, F, F] ?_
       refine ty 14 (some 65) #[T, T, T, T, T, T, T, T, T, T, T, T, T, T, T, F, F, F, F, F, F, F, F] (hS := hHeld) (hz := by rintro w' ⟨s0, s1, s2, s3⟩; go_simp; with_reducible rfl) (h := ?_)
       refine py 15 (some 66) #[T, T, T, T, T, T, T, T, T, T, T, T, T, T, T, T, F, F, F, F, F, F, F] ?_
       refine py 16 (some 67) #[T, T, T, T, T, T, T, T, T, T, T, T, T, T, T, T, T, F, F, F, F, F, F] ?_
       refine py 17 (some 68) #[T, T, T, T, T, T, T, T, T, T, T, T, T, T, T, T, T, T, F, F, F, F, F] ?_
       refine ty 18 (some 69) #[T, T, T, T, T, T, T, T, T, T, T, T, T, T, T, T, T, T, T, F, F, F, F] (hS := hHeld) (hz := by rintro w' ⟨s0, s1, s2, s3⟩; go_simp; with_reducible rfl) (h := ?_)
       refine py 19 (some 70) #[T, T, T, T, T, T, T, T, T, T, T, T, T, T, T, T, T, T, T, T, F, F, F] ?_
       refine py 20 (some 71) #[T, T, T, T, T, T, T, T, T, T, T, T, T, T, T, T, T, T, T, T, T, F, F] ?_
       refine py 21 (some 72) #[T, T, T, T, T, T, T, T, T, T, T, T, T, T, T, T, T, T, T, T, T, T, F] ?_
       refine lx 22 none #[T, T, T, T, T, T, T, T, T, T, T, T, T, T, T, T, T, T, T, T, T, T, T] fun K hK => ?_
       refine sx ?_
       refine hK.out _ _ ?_
       clear hK K
       refine done_ (by kernel_rfl) ?_
       clear hHeld hwm hwm2
       have HINV := Lib.hid hinv.out
       clear hinv q0 q1 x0 x1 hcx hcc hcc' hf hf'
       go_wp2
       go_roundg (v.blocks.length - (k + 1))
       case measure => omega
       case rel =>
        obtain ⟨⟨hB, hR, hX⟩, hos, hov, hoi, hbel⟩ := HINV.out
        have hg := grown_tr H3.out.2 (grown_drew _ _)
        refine ⟨k + 1, by omega, int_eq (by omega), ⟨hB.grown hg (own_blk_ne hos hB (by decide)), hR.grown hg (own_blk_ne hos hR (by decide)), hX.grown hg (own_blk_ne hos hX (by decide))⟩, ?_, hov.otherS hos hg, own_other_type hoi hos (by decide) hg, hbel.slots hos hg hbase⟩
        rw [HT.out]
        have h5 := OwnS.bel H3.out.1 (Below.refl _ _).drew
        rw [HDL.out] at h5
        rw [HSL.out]
        exact h5
      ·have HT := Lib.hid (show incAll p.slots (v.blocks.take (k + 1)) = incAll p.slots (v.blocks.take k) by rw [take_snoc hx, incAll_snoc, if_neg h0])
       clear hx
       go_wp2
       go_roundg (v.blocks.length - (k + 1))
       case rel =>
        refine ⟨k + 1, by omega, int_eq (by omega), ?_⟩
        rw [HT.out]
        exact hinv
       case measure => omega
     ·have hkl : k = v.blocks.length := by omega
      obtain ⟨⟨hB, hR, hX⟩, hos, hov, hoi, hbel⟩ := hinv.out
      rw [hkl, List.take_length] at hos
      have hinc := HK.out.incs HV.out
      have hlen : (incAll p.slots v.blocks).length = p.slots.length := incAll_len _ _
      have hop : OwnP wr base (.slice A0 p.slots.length c0) (.slice (some ⟨g, 0, none⟩) p.vols.length c1) ⟨incAll p.slots v.blocks, p.vols⟩ bvs := ⟨hos, hov⟩
      have hsm : SmallP ⟨incAll p.slots v.blocks, p.vols⟩ := ⟨hinc.1.smallS, HS.out.vols⟩
      have hap : ∀ (m : Nat) (b' : Value) (k : Nat), bvs[m]? = some b' → b'.ownBlock = some k → Value.ownBlock (.slice A3 v.blocks.length c3) ≠ some k := fun m b' k hm hk h2 => by
       have e1 := HP.out.v.inner_lt hm hk
       have e2 := HGE.out k h2
       omega
      have hbs : base ≤ wr.heap.size := by have := hB.lt; omega
      have HADD := Lib.hid (l11Add_c (x := ⟨dst, v.blocks⟩) hop hoi hsm hbs hap HNM.out.1 HNM.out.2)
      have HBR := Lib.hid (And.intro hB hR)
      have HBE := Lib.hid hbel
      clear hB hR hX hos hov hoi hbel hinc hop hsm hap hkl hlen hinv
      go_wp2_with fail
      refine HADD.out.mono ?_
      rintro e w5 ⟨v5, rfl, ho5, hb5⟩
      obtain ⟨A7, A8, c7, c8, e7, rfl, hpi5⟩ := ho5.reads
      have HO5 := Lib.hid ho5
      have HB5 := Lib.hid hb5
      clear x0 x1 q0 q1 ho5 hpi5 e7 hb5
      have s0 := (HBR.out.2.bel HB5.out).cell 0
      have s1 := (HBR.out.2.bel HB5.out).cell 1
      have t0 := (HBR.out.2.bel HB5.out).free 0
      have t1 := (HBR.out.2.bel HB5.out).free 1
      simp at s0 s1
      go_wp2
      have hR2 := HBR.out.2.bel HB5.out
      have hR3 := hR2.set 0 (.slice A0 p.slots.length c0) (cs' := #[.slice A0 p.slots.length c0, .slice none 0 0]) rfl
      have hR4 := hR3.set 1 (.slice A8 (insAt (posOf dst p.vols) (⟨dst, v.blocks⟩ : Vol) p.vols).length c8) (cs' := #[.slice A0 p.slots.length c0, (.slice A8 (insAt (posOf dst p.vols) (⟨dst, v.blocks⟩ : Vol) p.vols).length c8)]) rfl
      have hop4 := (HO5.out.far hR2 (by decide) (by decide) (by decide) 0 (.slice A0 p.slots.length c0)).far hR3 (by decide) (by decide) (by decide) 1 (.slice A8 (insAt (posOf dst p.vols) (⟨dst, v.blocks⟩ : Vol) p.vols).length c8)
      have hb6 : Fr base w w5 := HBE.out.bel HB5.out hbase
      have hb7 := (hb6.set (Nat.le_succ _) hbase 0 (.slice A0 p.slots.length c0)).set (Nat.le_succ _) hbase 1 (.slice A8 (insAt (posOf dst p.vols) (⟨dst, v.blocks⟩ : Vol) p.vols).length c8)
      refine bodyPost_ret (results_ct rfl _ _ (w.heap.size + 1) 44 #[.slice A0 p.slots.length c0, (.slice A8 (insAt (posOf dst p.vols) (⟨dst, v.blocks⟩ : Vol) p.vols).length c8)] (0, 0) _ rfl hR4 Tryz.underlying44 rfl (by kernel_rfl)) rfl ?_
      rw [HG.out]
      exact ⟨_, _, _, rfl, hop4, hb7⟩
theorem implPoolClone_c {w : World} {A0 A1 : Option Addr} {c0 c1 : Nat} {p : Pool} {fr dst : ByteArray} (h : PoolIn w A0 A1 c0 c1 p) (hs : SmallP p) (hnm : dst.size ≤ 1048576) :
  Calls Tryz.prog 128 #[.agg #[.slice A0 p.slots.length c0, .slice A1 p.vols.length c1], .string fr, .string dst] w (MadePB w (chP p (cloneF p fr dst)) (chB p (cloneF p fr dst))) := by
 have HS := Lib.hid hs
 have HP := Lib.hid h
 clear h hs
 go_enter Tryz.func128, Tryz.ntmps128
 go_wp2_with fail
 have hB : Blk ((((w.alloc (.cells #[.slice A0 p.slots.length c0, .slice A1 p.vols.length c1] 44)).alloc (.cells #[.string fr] 9)).alloc (.cells #[.string dst] 9)).alloc (.cells #[.slice none 0 0, .slice none 0 0] 44)) (w.heap.size) #[.slice A0 p.slots.length c0, .slice A1 p.vols.length c1] 44 := ((((Blk.new _ _ _)).alloc _).alloc _).alloc _
 have hN0 : Blk ((((w.alloc (.cells #[.slice A0 p.slots.length c0, .slice A1 p.vols.length c1] 44)).alloc (.cells #[.string fr] 9)).alloc (.cells #[.string dst] 9)).alloc (.cells #[.slice none 0 0, .slice none 0 0] 44)) (w.heap.size + 1) #[.string fr] 9 := (((Blk.nw2 _ _ _ _)).alloc _).alloc _
 have hN1 : Blk ((((w.alloc (.cells #[.slice A0 p.slots.length c0, .slice A1 p.vols.length c1] 44)).alloc (.cells #[.string fr] 9)).alloc (.cells #[.string dst] 9)).alloc (.cells #[.slice none 0 0, .slice none 0 0] 44)) (w.heap.size + 1 + 1) #[.string dst] 9 := ((Blk.nw3 _ _ _ _ _)).alloc _
 have hR : Blk ((((w.alloc (.cells #[.slice A0 p.slots.length c0, .slice A1 p.vols.length c1] 44)).alloc (.cells #[.string fr] 9)).alloc (.cells #[.string dst] 9)).alloc (.cells #[.slice none 0 0, .slice none 0 0] 44)) (w.heap.size + 1 + 1 + 1) #[.slice none 0 0, .slice none 0 0] 44 := Blk.nw4 _ _ _ _ _ _
 have hW : Bel w ((((w.alloc (.cells #[.slice A0 p.slots.length c0, .slice A1 p.vols.length c1] 44)).alloc (.cells #[.string fr] 9)).alloc (.cells #[.string dst] 9)).alloc (.cells #[.slice none 0 0, .slice none 0 0] 44)) := bel_alloc (bel_alloc (bel_alloc (bel_alloc (Below.refl _ _) _) _) _) _
 generalize ((((w.alloc (.cells #[.slice A0 p.slots.length c0, .slice A1 p.vols.length c1] 44)).alloc (.cells #[.string fr] 9)).alloc (.cells #[.string dst] 9)).alloc (.cells #[.slice none 0 0, .slice none 0 0] 44)) = W0 at hB hN0 hN1 hR hW ⊢
 have HB := Lib.hid hB
 have HN0 := Lib.hid hN0
 have HN1 := Lib.hid hN1
 have HR := Lib.hid hR
 have HW := Lib.hid hW
 clear hB hN0 hN1 hR hW
 refine (changed_c (HP.out.bel HW.out) HS.out 149 #[.pointer (some ⟨w.heap.size, 0, none⟩), .pointer (some ⟨w.heap.size + 1, 0, none⟩), .pointer (some ⟨w.heap.size + 1 + 1, 0, none⟩)] (cloneF p fr dst) (enters Tryz.func149 (by kernel_rfl) (by kernel_rfl))
  (fun hok W b base h1 h2 h3 h4 => cloneClo_c (HP.out.bel HW.out) HS.out HB.out HN0.out HN1.out hok W b base h1 h2 h3 h4)).mono ?_
 rintro e w1 ⟨v0, v1, bvs, rfl, ho, hb1⟩
 obtain ⟨q, hq⟩ : ∃ q, chP p (cloneF p fr dst) = q := ⟨_, rfl⟩
 obtain ⟨ok, hok⟩ : ∃ ok, chB p (cloneF p fr dst) = ok := ⟨_, rfl⟩
 rw [hq] at ho
 rw [hok]
 have HQ := Lib.hid hq
 have HK := Lib.hid hok
 clear hq hok
 have HO := Lib.hid ho
 have HB1 := Lib.hid hb1
 have r0 := (HR.out.bel HB1.out).cell 0
 have r1 := (HR.out.bel HB1.out).cell 1
 have f0 := (HR.out.bel HB1.out).free 0
 have f1 := (HR.out.bel HB1.out).free 1
 simp at r0 r1
 clear ho hb1
 obtain ⟨A2, A3, c2, c3, rfl, rfl, hpi⟩ := HO.out.reads
 clear hpi
 go_wp2
 have hR2 := HR.out.bel HB1.out
 have hR3 := hR2.set 0 (.slice A2 q.slots.length c2) (cs' := #[.slice A2 q.slots.length c2, .slice none 0 0]) rfl
 have hR4 := hR3.set 1 (.slice A3 q.vols.length c3) (cs' := #[.slice A2 q.slots.length c2, .slice A3 q.vols.length c3]) rfl
 have hb5 := bel_set (bel_set (HW.out.tr HB1.out) (show w.heap.size ≤ w.heap.size + 1 + 1 + 1 by omega) 0 (.slice A2 q.slots.length c2)) (show w.heap.size ≤ w.heap.size + 1 + 1 + 1 by omega) 1 (.slice A3 q.vols.length c3)
 have hop4 := (HO.out.far hR2 (by decide) (by decide) (by decide) 0 (.slice A2 q.slots.length c2)).far hR3 (by decide) (by decide) (by decide) 1 (.slice A3 q.vols.length c3)
 refine bodyPost_ret (results_ct rfl _ _ (w.heap.size + 1 + 1 + 1) 44 #[.slice A2 q.slots.length c2, .slice A3 q.vols.length c3] (0, 0) _ rfl hR4 Tryz.underlying44 rfl (by kernel_rfl)) rfl ?_
 rw [HQ.out, HK.out]
 exact ⟨_, _, _, rfl, hop4.lower HW.out.size, hb5⟩
theorem implPoolMake_c {w : World} {A0 A1 : Option Addr} {c0 c1 : Nat} {p : Pool} {name : ByteArray} {size : Int} (h : PoolIn w A0 A1 c0 c1 p) (hs : SmallP p) (hnm : name.size ≤ 1048576) :
  Calls Tryz.prog 126 #[.agg #[.slice A0 p.slots.length c0, .slice A1 p.vols.length c1], .string name, .int .i64 size] w (MadePB w (chP p (makeF p name size)) (chB p (makeF p name size))) := by
 have HS := Lib.hid hs
 have HP := Lib.hid h
 clear h hs
 go_enter Tryz.func126, Tryz.ntmps126
 go_wp2_with fail
 have hB : Blk ((((w.alloc (.cells #[.slice A0 p.slots.length c0, .slice A1 p.vols.length c1] 44)).alloc (.cells #[.string name] 9)).alloc (.cells #[.int .i64 size] 3)).alloc (.cells #[.slice none 0 0, .slice none 0 0] 44)) (w.heap.size) #[.slice A0 p.slots.length c0, .slice A1 p.vols.length c1] 44 := ((((Blk.new _ _ _)).alloc _).alloc _).alloc _
 have hN0 : Blk ((((w.alloc (.cells #[.slice A0 p.slots.length c0, .slice A1 p.vols.length c1] 44)).alloc (.cells #[.string name] 9)).alloc (.cells #[.int .i64 size] 3)).alloc (.cells #[.slice none 0 0, .slice none 0 0] 44)) (w.heap.size + 1) #[.string name] 9 := (((Blk.nw2 _ _ _ _)).alloc _).alloc _
 have hN1 : Blk ((((w.alloc (.cells #[.slice A0 p.slots.length c0, .slice A1 p.vols.length c1] 44)).alloc (.cells #[.string name] 9)).alloc (.cells #[.int .i64 size] 3)).alloc (.cells #[.slice none 0 0, .slice none 0 0] 44)) (w.heap.size + 1 + 1) #[.int .i64 size] 3 := ((Blk.nw3 _ _ _ _ _)).alloc _
 have hR : Blk ((((w.alloc (.cells #[.slice A0 p.slots.length c0, .slice A1 p.vols.length c1] 44)).alloc (.cells #[.string name] 9)).alloc (.cells #[.int .i64 size] 3)).alloc (.cells #[.slice none 0 0, .slice none 0 0] 44)) (w.heap.size + 1 + 1 + 1) #[.slice none 0 0, .slice none 0 0] 44 := Blk.nw4 _ _ _ _ _ _
 have hW : Bel w ((((w.alloc (.cells #[.slice A0 p.slots.length c0, .slice A1 p.vols.length c1] 44)).alloc (.cells #[.string name] 9)).alloc (.cells #[.int .i64 size] 3)).alloc (.cells #[.slice none 0 0, .slice none 0 0] 44)) := bel_alloc (bel_alloc (bel_alloc (bel_alloc (Below.refl _ _) _) _) _) _
 generalize ((((w.alloc (.cells #[.slice A0 p.slots.length c0, .slice A1 p.vols.length c1] 44)).alloc (.cells #[.string name] 9)).alloc (.cells #[.int .i64 size] 3)).alloc (.cells #[.slice none 0 0, .slice none 0 0] 44)) = W0 at hB hN0 hN1 hR hW ⊢
 have HB := Lib.hid hB
 have HN0 := Lib.hid hN0
 have HN1 := Lib.hid hN1
 have HR := Lib.hid hR
 have HW := Lib.hid hW
 clear hB hN0 hN1 hR hW
 refine (changed_c (HP.out.bel HW.out) HS.out 142 #[.pointer (some ⟨w.heap.size + 1, 0, none⟩), .pointer (some ⟨w.heap.size, 0, none⟩), .pointer (some ⟨w.heap.size + 1 + 1, 0, none⟩)] (makeF p name size) (enters Tryz.func142 (by kernel_rfl) (by kernel_rfl))
  (fun hok W b base h1 h2 h3 h4 => makeClo_c (HP.out.bel HW.out) HS.out HB.out HN0.out HN1.out hok W b base h1 h2 h3 h4)).mono ?_
 rintro e w1 ⟨v0, v1, bvs, rfl, ho, hb1⟩
 obtain ⟨q, hq⟩ : ∃ q, chP p (makeF p name size) = q := ⟨_, rfl⟩
 obtain ⟨ok, hok⟩ : ∃ ok, chB p (makeF p name size) = ok := ⟨_, rfl⟩
 rw [hq] at ho
 rw [hok]
 have HQ := Lib.hid hq
 have HK := Lib.hid hok
 clear hq hok
 have HO := Lib.hid ho
 have HB1 := Lib.hid hb1
 have r0 := (HR.out.bel HB1.out).cell 0
 have r1 := (HR.out.bel HB1.out).cell 1
 have f0 := (HR.out.bel HB1.out).free 0
 have f1 := (HR.out.bel HB1.out).free 1
 simp at r0 r1
 clear ho hb1
 obtain ⟨A2, A3, c2, c3, rfl, rfl, hpi⟩ := HO.out.reads
 clear hpi
 go_wp2
 have hR2 := HR.out.bel HB1.out
 have hR3 := hR2.set 0 (.slice A2 q.slots.length c2) (cs' := #[.slice A2 q.slots.length c2, .slice none 0 0]) rfl
 have hR4 := hR3.set 1 (.slice A3 q.vols.length c3) (cs' := #[.slice A2 q.slots.length c2, .slice A3 q.vols.length c3]) rfl
 have hb5 := bel_set (bel_set (HW.out.tr HB1.out) (show w.heap.size ≤ w.heap.size + 1 + 1 + 1 by omega) 0 (.slice A2 q.slots.length c2)) (show w.heap.size ≤ w.heap.size + 1 + 1 + 1 by omega) 1 (.slice A3 q.vols.length c3)
 have hop4 := (HO.out.far hR2 (by decide) (by decide) (by decide) 0 (.slice A2 q.slots.length c2)).far hR3 (by decide) (by decide) (by decide) 1 (.slice A3 q.vols.length c3)
 refine bodyPost_ret (results_ct rfl _ _ (w.heap.size + 1 + 1 + 1) 44 #[.slice A2 q.slots.length c2, .slice A3 q.vols.length c3] (0, 0) _ rfl hR4 Tryz.underlying44 rfl (by kernel_rfl)) rfl ?_
 rw [HQ.out, HK.out]
 exact ⟨_, _, _, rfl, hop4.lower HW.out.size, hb5⟩
structure PW (W : World) (b base : Nat) (v0 v1 : Value) (bvs : List Value) (S : List Slot) (vs : List Vol) (i bl : Nat) (v : Vol) (gb cb : Nat) (pl : Int) : Prop where
  blk : Blk W b #[v0, v1] 44
  s : OwnS W base v0 S
  vv : OwnV W base v1 (vs.set i ⟨v.name, v.blocks.set bl pl⟩) bvs
  hb : bvs[i]? = some (.slice (some ⟨gb, 0, none⟩) v.blocks.length cb)
theorem set_same {α : Type} {xs : List α} {i : Nat} {x : α} (h : xs[i]? = some x) : xs.set i x = xs := by
 obtain ⟨hi, rfl⟩ := List.getElem?_eq_some_iff.1 h
 exact List.set_getElem_self hi
theorem PW.mk0 {W : World} {b base : Nat} {v0 v1 : Value} {bvs : List Value} {p : Pool} {i bl : Nat} {v : Vol} {x : Int} (hB : Blk W b #[v0, v1] 44) (h : OwnP W base v0 v1 p bvs) (hv : p.vols[i]? = some v) (hx : v.blocks[bl]? = some x) :
  ∃ gb cb, PW W b base v0 v1 bvs p.slots p.vols i bl v gb cb x := by
 obtain ⟨g, cap, bv, hbv, _⟩ := h.v.row.at hv
 obtain ⟨gb, cb, rfl, _⟩ := own_form (h.v.inner i v bv hv hbv) (by have := ltQ hx; omega)
 refine ⟨gb, cb, hB, h.s, ?_, hbv⟩
 rw [set_same hx, show (⟨v.name, v.blocks⟩ : Vol) = v from rfl, set_same hv]
 exact h.v
theorem PW.inner {W : World} {b base : Nat} {v0 v1 : Value} {bvs : List Value} {S : List Slot} {vs : List Vol} {i bl : Nat} {v : Vol} {gb cb : Nat} {pl : Int} (h : PW W b base v0 v1 bvs S vs i bl v gb cb pl) (hi : i < vs.length) :
  OwnI W base (.slice (some ⟨gb, 0, none⟩) v.blocks.length cb) (v.blocks.set bl pl) := h.vv.inner i _ _ (List.getElem?_set_self hi) h.hb
theorem PW.cell {W : World} {b base : Nat} {v0 v1 : Value} {bvs : List Value} {S : List Slot} {vs : List Vol} {i bl : Nat} {v : Vol} {gb cb : Nat} {pl : Int} (h : PW W b base v0 v1 bvs S vs i bl v gb cb pl) (hi : i < vs.length) (hbl : bl < v.blocks.length) :
  W.cell? ⟨gb, bl, none⟩ = some (.int .i64 pl) ∧ W.frozen? ⟨gb, bl, none⟩ = false ∧ gb < W.heap.size ∧ base ≤ gb ∧ v.blocks.length ≤ cb := by
 obtain ⟨g, cap, e, h1, h2, h3, h4, h5⟩ := (h.inner hi).at (List.getElem?_set_self hbl)
 have e := slice_eq e
 obtain ⟨e1, _, rfl⟩ := e
 obtain rfl : gb = g := by simpa using e1
 rw [List.length_set] at h3
 exact ⟨h4, h5, h2, h1, h3⟩
theorem PW.row {W : World} {b base : Nat} {v0 v1 : Value} {bvs : List Value} {S : List Slot} {vs : List Vol} {i bl : Nat} {v : Vol} {gb cb : Nat} {pl : Int} (h : PW W b base v0 v1 bvs S vs i bl v gb cb pl) (hi : i < vs.length) :
  ∃ g cap, v1 = .slice (some ⟨g, 0, none⟩) vs.length cap ∧ W.cell? ⟨g, i * 2 + 1, none⟩ = some (.slice (some ⟨gb, 0, none⟩) v.blocks.length cb) ∧ vs.length ≤ cap ∧ g < W.heap.size := by
 obtain ⟨g, cap, bv, hbv, e, h1, h2, h3, h4, h5, _⟩ := h.vv.row.at (List.getElem?_set_self hi)
 obtain rfl := Option.some.inj (h.hb.symm.trans hbv)
 rw [List.length_set] at e h3
 exact ⟨g, cap, e, h5, h3, h2⟩
theorem PW.put {W : World} {b base : Nat} {v0 v1 : Value} {bvs : List Value} {S : List Slot} {vs : List Vol} {i bl : Nat} {v : Vol} {gb cb : Nat} {pl : Int} (h : PW W b base v0 v1 bvs S vs i bl v gb cb pl) (hi : i < vs.length) (hbl : bl < v.blocks.length) (q : Int) :
  PW (W.setCell ⟨gb, bl, none⟩ (.int .i64 q)) b base v0 v1 bvs S vs i bl v gb cb q ∧ W.grownBy (W.setCell ⟨gb, bl, none⟩ (.int .i64 q)) (some gb) := by
 have hin := h.inner hi
 have hin' : OwnI W base (.slice (some ⟨gb, 0, none⟩) (v.blocks.set bl pl).length cb) (v.blocks.set bl pl) := by rw [List.length_set]; exact hin
 obtain ⟨h1, h2⟩ := OwnI.set hin' (List.getElem?_set_self hbl) q
 rw [List.set_set, List.length_set] at h1
 have h3 := h.vv.setI (List.getElem?_set_self hi) h.hb h1 h2
 rw [List.set_set] at h3
 exact ⟨⟨h.blk.grown h2 (own_blk_ne hin h.blk (by decide)), own_other_type h.s hin (by decide) h2, h3, h.hb⟩, h2⟩
theorem PW.slots {W W' : World} {b base : Nat} {v0 v1 : Value} {bvs : List Value} {S S' : List Slot} {vs : List Vol} {i bl : Nat} {v : Vol} {gb cb : Nat} {pl : Int} (h : PW W b base v0 v1 bvs S vs i bl v gb cb pl) (hs : OwnS W' base v0 S') (hg : W.grownBy W' v0.ownBlock) :
  PW W' b base v0 v1 bvs S' vs i bl v gb cb pl := ⟨h.blk.grown hg (own_blk_ne h.s h.blk (by decide)), hs, h.vv.otherS h.s hg, h.hb⟩
theorem PW.bel {W W' : World} {b base : Nat} {v0 v1 : Value} {bvs : List Value} {S : List Slot} {vs : List Vol} {i bl : Nat} {v : Vol} {gb cb : Nat} {pl : Int} (h : PW W b base v0 v1 bvs S vs i bl v gb cb pl) (hb : Bel W W') : PW W' b base v0 v1 bvs S vs i bl v gb cb pl :=
 ⟨h.blk.bel hb, h.s.bel hb, h.vv.bel hb, h.hb⟩
theorem PW.pool {W : World} {b base : Nat} {v0 v1 : Value} {bvs : List Value} {S : List Slot} {vs : List Vol} {i bl : Nat} {v : Vol} {gb cb : Nat} {pl : Int} (h : PW W b base v0 v1 bvs S vs i bl v gb cb pl) : OwnP W base v0 v1 ⟨S, vs.set i ⟨v.name, v.blocks.set bl pl⟩⟩ bvs := ⟨h.s, h.vv⟩
theorem writeF_no {p : Pool} {name : ByteArray} {b : Int} {text : ByteArray} (h : hasBlk p.vols name b < 0 ∨ tOk text = false) : writeF p name b text = none := by
 unfold writeF
 rw [if_neg]
 rintro ⟨h1, h2⟩
 rcases h with h | h
 ·omega
 ·rw [h] at h2; cases h2
theorem writeF_free {p : Pool} {name : ByteArray} {b : Int} {text : ByteArray} {i : Nat} {v : Vol} {x : Int} (h : Wr p name b i v x) (ht : tOk text = true) (he : text = e0) :
  writeF p name b text = some ⟨backS p name b, p.vols.set i ⟨v.name, v.blocks.set b.toNat 0⟩⟩ := by
 unfold writeF
 rw [if_pos ⟨by rw [h.has]; omega, ht⟩, if_pos he, h.set, h.nm]
theorem writeF_put {p : Pool} {name : ByteArray} {b : Int} {text : ByteArray} {i : Nat} {v : Vol} {x : Int} (h : Wr p name b i v x) (ht : tOk text = true) (he : text ≠ e0) :
  writeF p name b text = if putAt (backS p name b) text = 0 then none else some ⟨putS (backS p name b) text, p.vols.set i ⟨v.name, v.blocks.set b.toNat (putAt (backS p name b) text)⟩⟩ := by
 unfold writeF
 rw [if_pos ⟨by rw [h.has]; omega, ht⟩, if_neg he, h.set, h.nm]
theorem back_no {p : Pool} {name : ByteArray} {b : Int} {i : Nat} {v : Vol} {x : Int} (h : Wr p name b i v x) (hx : ¬ 0 < x) : backS p name b = p.slots := by
 unfold backS
 rw [h.place]
 unfold dropAll
 rw [if_neg hx]
 rfl
theorem back_yes {p : Pool} {name : ByteArray} {b : Int} {i : Nat} {v : Vol} {m : Nat} (h : Wr p name b i v ((m : Int) + 1)) : backS p name b = dropS p.slots m := by
 unfold backS
 rw [h.place]
 unfold dropAll
 rw [if_pos (by omega), show ((m : Int) + 1 - 1).toNat = m by omega]
 rfl
theorem wr_slot {p : Pool} (hp : PoolP p) {name : ByteArray} {b : Int} {i : Nat} {v : Vol} {m : Nat} (h : Wr p name b i v ((m : Int) + 1)) : ∃ y, p.slots[m]? = some y ∧ 1 ≤ y.uses ∧ y.uses ≤ 99 := by
 have h8 := hp.blk h.vol h.blk
 obtain ⟨y, hy⟩ := hp.slot (show m < 8 by omega)
 have h1 := hp.uses m y hy
 have h2 := uses_mem (p := (m : Int) + 1) h.vol
 have h3 := cnt_pos (p := (m : Int) + 1) (List.mem_of_getElem? h.blk)
 exact ⟨y, hy, by omega, (hp.s.ok m y hy).2.2.1⟩
theorem back_uses {p : Pool} (hp : PoolP p) {name : ByteArray} {b : Int} {i : Nat} {v : Vol} {x : Int} (h : Wr p name b i v x) : (backS p name b).length = 8 ∧ ∀ y ∈ backS p name b, 0 ≤ y.uses ∧ y.uses ≤ 99 := by
 obtain ⟨h1, _⟩ := h.back hp
 refine ⟨h1.len, fun y hy => ?_⟩
 obtain ⟨m, hm⟩ := List.getElem?_of_mem hy
 exact ⟨(h1.ok m y hm).2.1, (h1.ok m y hm).2.2.1⟩
theorem putAt_bd {p : Pool} (hp : PoolP p) {name : ByteArray} {b : Int} {i : Nat} {v : Vol} {x : Int} (h : Wr p name b i v x) {t : ByteArray} (ht : t ≠ e0) : 0 ≤ putAt (backS p name b) t ∧ putAt (backS p name b) t ≤ 8 := by
 obtain ⟨h1, _⟩ := h.back hp
 obtain ⟨hq, _⟩ := putAt_cases h1 ht
 cases hq with
 | no h2 => omega
 | old m z h2 hz _ _ => have := ltQ hz; rw [h1.len] at this; omega
 | fresh m z h2 hz _ _ => have := ltQ hz; rw [h1.len] at this; omega
theorem writeClo_c {w : World} {A0 A1 : Option Addr} {c0 c1 bp bn bs bt : Nat} {p : Pool} {name : ByteArray} {blk : Int} {text : ByteArray} (h : PoolIn w A0 A1 c0 c1 p) (hs : SmallP p) (hB : Blk w bp #[.slice A0 p.slots.length c0, .slice A1 p.vols.length c1] 44) (hN : Blk w bn #[.string name] 9) (hZ : Blk w bs #[.int .i64 blk] 3) (hT : Blk w bt #[.string text] 9) (hnm : text.size ≤ 1048576) (hok : poolOk p = true)
  (W : World) (b base : Nat) (hW : Bel w W) (hb1 : w.heap.size ≤ base) (hb2 : base ≤ W.heap.size) (hpv : PV W b base p) :
  Calls Tryz.prog 145 #[.pointer (some ⟨b, 0, none⟩), .pointer (some ⟨bp, 0, none⟩), .pointer (some ⟨bn, 0, none⟩), .pointer (some ⟨bs, 0, none⟩), .pointer (some ⟨bt, 0, none⟩)] W (Changes (writeF p name blk text) b base W) := by
 have HS := Lib.hid hs
 have HP := Lib.hid h
 have HK := Lib.hid (poolOk_iff.1 hok)
 have HV := Lib.hid hpv
 have HW := Lib.hid hW
 have HB := Lib.hid hB
 have HN := Lib.hid hN
 have HZ := Lib.hid hZ
 have HT := Lib.hid hT
 have hnx : text.size ≤ maxLen := by unfold maxLen; omega
 have HNX := Lib.hid hnx
 have q0 := (HB.out.bel HW.out).cell 0
 have q1 := (HB.out.bel HW.out).cell 1
 have q2 := (HN.out.bel HW.out).cell 0
 have q3 := (HZ.out.bel HW.out).cell 0
 simp at q0 q1 q2 q3
 clear h hs hok hpv hW hB hN hZ hT hnx
 go_enter Tryz.func145, Tryz.ntmps145
 go_wp2_with fail
 refine (hasBlock_c (HP.out.bel HW.out) HS.out name blk).mono ?_
 rintro e w1 ⟨rfl, hb1'⟩
 have HW1 := Lib.hid (HW.out.tr hb1')
 have HB1 := Lib.hid hb1'
 clear q0 q1 q2 q3 hb1'
 by_cases hn : hasBlk p.vols name blk < 0
 ·have HG := Lib.hid (show writeF p name blk text = none from writeF_no (.inl hn))
  go_wp2
  go_ret
  rw [HG.out]
  exact ⟨rfl, ⟨p, HV.out.bel HB1.out, fun q' h => by cases h⟩, HB1.out.mono hb2⟩
 ·obtain ⟨i, v, x, hwr⟩ := hasBlk_wr (show 0 ≤ hasBlk p.vols name blk by omega)
  have q4 := (HT.out.bel HW1.out).cell 0
  simp at q4
  rw [hwr.has]
  have hin : ¬ ((i : Int) < 0) := by omega
  clear hn
  cases ht : tOk text with
  | false =>
   have HG := Lib.hid (show writeF p name blk text = none from writeF_no (.inr ht))
   go_wp2_with (go_at_call 89; refine (implTextOk_c text _ HNX.out).mono ?_; rintro e w' ⟨rfl, rfl⟩)
   go_ret
   rw [HG.out]
   exact ⟨rfl, ⟨p, HV.out.bel HB1.out, fun q' h => by cases h⟩, HB1.out.mono hb2⟩
  | true =>
   have hb0 := hwr.b0
   obtain ⟨bl, rfl⟩ : ∃ bl : Nat, blk = bl := ⟨blk.toNat, by omega⟩
   have hil := ltQ hwr.vol
   have hbl : bl < v.blocks.length := by have := ltQ hwr.blk; rwa [Int.toNat_natCast] at this
   have hvl : v.blocks.length ≤ 1048576 := HS.out.vols.blocks v (List.mem_of_getElem? hwr.vol)
   have hlv := HS.out.vols.len
   have hxb := HK.out.blk hwr.vol hwr.blk
   have HWR := Lib.hid hwr
   have HTK := Lib.hid ht
   go_wp2_with (go_at_call 89; refine (implTextOk_c text _ HNX.out).mono ?_; rintro e w' ⟨rfl, rfl⟩)
   obtain ⟨⟨v0, v1, bvs, hb, ho⟩, hlo⟩ := HV.out.bel HB1.out
   obtain ⟨gb, cb, hpw⟩ := PW.mk0 (bl := bl) (x := x) hb ho hwr.vol (by have := hwr.blk; rwa [Int.toNat_natCast] at this)
   clear hb ho hwr ht q4 hb0
   obtain ⟨gv, cv, rfl, u1, u2, u3⟩ := hpw.row hil
   obtain ⟨u4, u5, u6, u7, u8⟩ := hpw.cell hil hbl
   have u0 := hpw.blk.cell 1
   have u9 := (HZ.out.bel HW1.out).cell 0
   simp at u0 u9
   have HPW := Lib.hid (hpw.bel (Below.refl _ _).drew)
   clear hpw
   refine start_ (n := 11) (S := fun w' => w'.cell? ⟨b, 1, none⟩ = some (.slice (some ⟨gv, 0, none⟩) p.vols.length cv) ∧ w'.cell? ⟨gv, i * 2 + 1, none⟩ = some (.slice (some ⟨gb, 0, none⟩) v.blocks.length cb) ∧ w'.cell? ⟨bs, 0, none⟩ = some (.int .i64 (bl : Int))) (ds := []) #[F, F, F, F, F, F, F, F, F, F, F] (by kernel_rfl) rfl rfl ⟨u0, u1, u9⟩ (fun hHeld => ?_)
   refine py 0 (some 20) #[T, F, F, F, F, F, F, F, F, F, F] ?_
   refine py 1 (some 21) #[T, T, F, F, F, F, F, F, F, F, F] ?_
   refine py 2 (some 22) #[T, T, T, F, F, F, F, F, F, F, F] ?_
   refine py 4 (some 24) #[T, T, T, F, T, F, F, F, F, F, F] ?_
   refine ty 3 (some 23) #[T, T, T, T, T, F, F, F, F, F, F] (hS := hHeld) (hz := by rintro w' ⟨s0, s1, s2⟩; go_simp; with_reducible rfl) (h := ?_)
   refine py 5 (some 25) #[T, T, T, T, T, T, F, F, F, F, F] ?_
   refine py 6 (some 26) #[T, T, T, T, T, T, T, F, F, F, F] ?_
   refine ty 7 (some 27) #[T, T, T, T, T, T, T, T, F, F, F] (hS := hHeld) (hz := by rintro w' ⟨s0, s1, s2⟩; go_simp; with_reducible rfl) (h := ?_)
   refine ty 8 (some 28) #[T, T, T, T, T, T, T, T, T, F, F] (hS := hHeld) (hz := by rintro w' ⟨s0, s1, s2⟩; go_simp; with_reducible rfl) (h := ?_)
   refine py 9 (some 29) #[T, T, T, T, T, T, T, T, T, T, F] ?_
   refine py 10 (some 8) #[T, T, T, T, T, T, T, T, T, T, T] ?_
   refine done_ (by kernel_rfl) ?_
   clear hHeld u0 u1 u2 u3 u4 u5 u6 u7 u8 u9
   have HBEL := Lib.hid (show Below base w1 w1.drew from (Below.refl _ _).drew)
   have hbs : base ≤ w1.drew.heap.size := by have h5 : w1.drew.heap.size = w1.heap.size := rfl; have := HB1.out.size; omega
   generalize w1.drew = W2 at HPW HBEL hbs ⊢
   obtain ⟨A6, c6, rfl, hc6, hC6⟩ := HPW.out.s.reads
   clear hC6
   by_cases h0 : 0 < x
   ·obtain ⟨m, rfl⟩ : ∃ m : Nat, x = (m : Int) + 1 := ⟨(x - 1).toNat, by omega⟩
    have HBK := Lib.hid (back_yes HWR.out)
    obtain ⟨y, hy, hy1, hy2⟩ := wr_slot HK.out HWR.out
    obtain ⟨u4, u5, u6, u7, u8⟩ := HPW.out.cell hil hbl
    have u0 := HPW.out.blk.cell 0
    simp at u0
    have HY := Lib.hid hy
    have HS6 := Lib.hid (show OwnS W2.drew base (.slice A6 p.slots.length c6) p.slots from HPW.out.s.bel (Below.refl _ _).drew)
    have hsl : p.slots.length ≤ 1048576 := HS.out.slots.len
    clear hy
    go_wp2
    refine start_ (n := 8) (S := fun w' => w'.cell? ⟨b, 0, none⟩ = some (.slice A6 p.slots.length c6) ∧ w'.cell? ⟨gb, bl, none⟩ = some (.int .i64 ((m : Int) + 1))) (ds := []) #[F, F, F, F, F, F, F, F] (by kernel_rfl) rfl rfl ⟨u0, u4⟩ (fun hHeld => ?_)
    refine py 0 (some 34) #[T, F, F, F, F, F, F, F] ?_
    refine py 1 (some 35) #[T, T, F, F, F, F, F, F] ?_
    refine py 2 (some 36) #[T, T, T, F, F, F, F, F] ?_
    refine py 4 (some 38) #[T, T, T, F, T, F, F, F] ?_
    refine py 5 (some 39) #[T, T, T, F, T, T, F, F] ?_
    refine ty 3 (some 37) #[T, T, T, T, T, T, F, F] (hS := hHeld) (hz := by rintro w' ⟨s0, s1⟩; go_simp; with_reducible rfl) (h := ?_)
    refine ty 6 (some 40) #[T, T, T, T, T, T, T, F] (hS := hHeld) (hz := by rintro w' ⟨s0, s1⟩; go_simp; with_reducible rfl) (h := ?_)
    refine ox 7 (some 41) #[T, T, T, T, T, T, T, T] fun K hK => ?_
    refine gox Tryz.func147 #[.slice A6 p.slots.length c6, .int .i64 ((m : Int) + 1)] ?_
    with_reducible refine (drop_c HS6.out HY.out hsl hy1 hy2).mono ?_
    rintro e w3 ⟨rfl, ho3, hg3⟩
    have HPC := Lib.hid ((HPW.out.bel (Below.refl _ _).drew).slots ho3 hg3)
    have HBELC := Lib.hid ((HBEL.out.drew).grown hg3 (show base ≤ W2.drew.heap.size by have h5 : W2.drew.heap.size = W2.heap.size := rfl; omega) (own_base HS6.out))
    obtain ⟨s4, s5, s6, s7, s8⟩ := HPC.out.cell hil hbl
    have s0 := HPC.out.blk.cell 0
    simp at s0
    clear ho3 hg3
    refine ⟨_, rfl, ?_⟩
    refine hK.out _ _ ⟨s0, s4⟩ (fun hHeld => ?_)
    clear hK K
    refine nox 41 (h := ?_)
    refine done_ (by kernel_rfl) ?_
    clear hHeld s0 s4 s5 s6 s7 s8 u0 u4 u5 u6 u7 u8
    have hbs3 : base ≤ w3.heap.size := by have := HBELC.out.size; have := HB1.out.size; omega
    clear hbs
    have hbs := hbs3
    obtain ⟨t4, t5, t6, t7, t8⟩ := HPC.out.cell hil hbl
    have hput := HPC.out.put hil hbl 0
    have hbel7 := HBELC.out.setCell (p := ⟨gb, bl, none⟩) t7 (.int .i64 0)
    have hbt := HT.out.lt
    have hT7 := (HT.out.bel (HW1.out.trans (hbel7.mono hb1))).cell 0
    simp at hT7
    have HPUT := Lib.hid hput.1
    have HBEL7 := Lib.hid hbel7
    clear hput hbel7
    by_cases he : text = e0
    ·have HG := Lib.hid (show writeF p name bl text = some ⟨(dropS p.slots m), p.vols.set i ⟨v.name, v.blocks.set bl 0⟩⟩ by rw [writeF_free HWR.out HTK.out he, HBK.out, Int.toNat_natCast])
     have hz := toList_nil.2 he
     clear he
     go_wp2
     go_ret
     rw [HG.out]
     exact ⟨by first | rfl | simp, ⟨_, ⟨⟨_, _, _, HPUT.out.blk, HPUT.out.pool⟩, hlo⟩, fun q' h => (Option.some.inj h)⟩, (HB1.out.mono hb2).trans HBEL7.out⟩
    ·have hz : ¬ text.toList = [] := fun h => he (toList_nil.1 h)
     have hz2 : text.toList.isEmpty = false := by simpa using hz
     have HE := Lib.hid he
     clear he
     go_wp2
     generalize w3.setCell ⟨gb, bl, none⟩ (.int .i64 0) = W7 at HPUT HBEL7 hT7 ⊢
     clear t4 t5 t6
     obtain ⟨t4, t5, t6, -, -⟩ := HPUT.out.cell hil hbl
     have t0 := HPUT.out.blk.cell 0
     simp at t0
     have hbu := back_uses HK.out HWR.out
     rw [HBK.out] at hbu
     have hbd := putAt_bd HK.out HWR.out HE.out
     rw [HBK.out] at hbd
     have HS7 := Lib.hid (show OwnS W7.drew base (.slice A6 p.slots.length c6) (dropS p.slots m) from HPUT.out.s.bel (Below.refl _ _).drew)
     have HBU := Lib.hid hbu
     clear hbu
     refine start_ (n := 9) (S := fun w' => w'.cell? ⟨b, 0, none⟩ = some (.slice A6 p.slots.length c6) ∧ w'.cell? ⟨bt, 0, none⟩ = some (.string text)) (ds := [8]) #[F, F, F, F, F, F, F, F, F] (by kernel_rfl) rfl rfl ⟨t0, hT7⟩ (fun hHeld => ?_)
     refine py 0 (some 46) #[T, F, F, F, F, F, F, F, F] ?_
     refine py 1 (some 47) #[T, T, F, F, F, F, F, F, F] ?_
     refine py 2 (some 48) #[T, T, T, F, F, F, F, F, F] ?_
     refine py 3 (some 49) #[T, T, T, T, F, F, F, F, F] ?_
     refine ty 4 (some 50) #[T, T, T, T, T, F, F, F, F] (hS := hHeld) (hz := by rintro w' ⟨s0, s1⟩; go_simp; with_reducible rfl) (h := ?_)
     refine ty 5 (some 51) #[T, T, T, T, T, T, F, F, F] (hS := hHeld) (hz := by rintro w' ⟨s0, s1⟩; go_simp; with_reducible rfl) (h := ?_)
     refine ox 6 (some 52) #[T, T, T, T, T, T, T, F, F] fun K hK => ?_
     refine gox Tryz.func148 #[.slice A6 p.slots.length c6, .string text] ?_
     with_reducible refine (put_c HS7.out HBU.out.1 HBU.out.2 text HTK.out).mono ?_
     rintro e w8 ⟨rfl, ho8, hg8⟩
     have HP8 := Lib.hid ((HPUT.out.bel (Below.refl _ _).drew).slots ho8 hg8)
     have HBEL8 := Lib.hid ((HBEL7.out.drew).grown hg8 (show base ≤ W7.drew.heap.size by have h5 : W7.drew.heap.size = W7.heap.size := rfl; omega) (own_base HS7.out))
     obtain ⟨s4, s5, s6, s7, s8⟩ := HP8.out.cell hil hbl
     have s0 := HP8.out.blk.cell 0
     have s1 := (HT.out.bel (HW1.out.trans (HBEL8.out.mono hb1))).cell 0
     simp at s0 s1
     clear ho8 hg8
     refine ⟨_, rfl, ?_⟩
     refine hK.out _ _ ⟨s0, s1⟩ (fun hHeld => ?_)
     clear hK K
     refine nox 52 (h := ?_)
     refine py 7 (some 53) #[T, T, T, T, T, T, T, T, F] ?_
     refine lx 8 none #[T, T, T, T, T, T, T, T, T] fun K hK => ?_
     refine sx ?_
     refine hK.out _ _ ?_
     clear hK K
     refine done_ (by kernel_rfl) ?_
     clear hHeld t4 t5 t6 t0 hT7
     have hT9 := (HT.out.bel (HW1.out.trans ((HBEL8.out.setCell (p := ⟨gb, bl, none⟩) t7 (.int .i64 (putAt (dropS p.slots m) text))).mono hb1))).cell 0
     simp at hT9
     have HPUT9 := Lib.hid (HP8.out.put hil hbl (putAt (dropS p.slots m) text)).1
     have HBEL9 := Lib.hid (HBEL8.out.setCell (p := ⟨gb, bl, none⟩) t7 (.int .i64 (putAt (dropS p.slots m) text)))
     by_cases h99 : putAt (dropS p.slots m) text = 0
     ·have HG := Lib.hid (show writeF p name bl text = none by rw [writeF_put HWR.out HTK.out HE.out, HBK.out, if_pos h99])
      have hn0 : ¬ 0 < putAt (dropS p.slots m) text := by omega
      clear h99
      go_wp2
      go_ret
      rw [HG.out]
      exact ⟨by first | rfl | (simp [hz]; done) | (simp; exact hz), ⟨_, ⟨⟨_, _, _, HPUT9.out.blk, HPUT9.out.pool⟩, hlo⟩, fun q' h => by cases h⟩, (HB1.out.mono hb2).trans HBEL9.out⟩
     ·have HG := Lib.hid (show writeF p name bl text = some ⟨putS (dropS p.slots m) text, p.vols.set i ⟨v.name, v.blocks.set bl (putAt (dropS p.slots m) text)⟩⟩ by rw [writeF_put HWR.out HTK.out HE.out, HBK.out, if_neg h99, Int.toNat_natCast])
      have hn0 : 0 < putAt (dropS p.slots m) text := by omega
      clear h99
      go_wp2
      go_ret
      rw [HG.out]
      exact ⟨by first | rfl | (simp [hz]; done) | (simp; exact hz), ⟨_, ⟨⟨_, _, _, HPUT9.out.blk, HPUT9.out.pool⟩, hlo⟩, fun q' h => (Option.some.inj h)⟩, (HB1.out.mono hb2).trans HBEL9.out⟩
   ·have HBK := Lib.hid (back_no HWR.out h0)
    have HPC := HPW
    have HBELC := HBEL
    obtain ⟨t4, t5, t6, t7, t8⟩ := HPC.out.cell hil hbl
    have hput := HPC.out.put hil hbl 0
    have hbel7 := HBELC.out.setCell (p := ⟨gb, bl, none⟩) t7 (.int .i64 0)
    have hbt := HT.out.lt
    have hT7 := (HT.out.bel (HW1.out.trans (hbel7.mono hb1))).cell 0
    simp at hT7
    have HPUT := Lib.hid hput.1
    have HBEL7 := Lib.hid hbel7
    clear hput hbel7
    by_cases he : text = e0
    ·have HG := Lib.hid (show writeF p name bl text = some ⟨p.slots, p.vols.set i ⟨v.name, v.blocks.set bl 0⟩⟩ by rw [writeF_free HWR.out HTK.out he, HBK.out, Int.toNat_natCast])
     have hz := toList_nil.2 he
     clear he
     go_wp2
     go_ret
     rw [HG.out]
     exact ⟨by first | rfl | simp, ⟨_, ⟨⟨_, _, _, HPUT.out.blk, HPUT.out.pool⟩, hlo⟩, fun q' h => (Option.some.inj h)⟩, (HB1.out.mono hb2).trans HBEL7.out⟩
    ·have hz : ¬ text.toList = [] := fun h => he (toList_nil.1 h)
     have hz2 : text.toList.isEmpty = false := by simpa using hz
     have HE := Lib.hid he
     clear he
     go_wp2
     generalize W2.setCell ⟨gb, bl, none⟩ (.int .i64 0) = W7 at HPUT HBEL7 hT7 ⊢
     clear t4 t5 t6
     obtain ⟨t4, t5, t6, -, -⟩ := HPUT.out.cell hil hbl
     have t0 := HPUT.out.blk.cell 0
     simp at t0
     have hbu := back_uses HK.out HWR.out
     rw [HBK.out] at hbu
     have hbd := putAt_bd HK.out HWR.out HE.out
     rw [HBK.out] at hbd
     have HS7 := Lib.hid (show OwnS W7.drew base (.slice A6 p.slots.length c6) p.slots from HPUT.out.s.bel (Below.refl _ _).drew)
     have HBU := Lib.hid hbu
     clear hbu
     refine start_ (n := 9) (S := fun w' => w'.cell? ⟨b, 0, none⟩ = some (.slice A6 p.slots.length c6) ∧ w'.cell? ⟨bt, 0, none⟩ = some (.string text)) (ds := [8]) #[F, F, F, F, F, F, F, F, F] (by kernel_rfl) rfl rfl ⟨t0, hT7⟩ (fun hHeld => ?_)
     refine py 0 (some 46) #[T, F, F, F, F, F, F, F, F] ?_
     refine py 1 (some 47) #[T, T, F, F, F, F, F, F, F] ?_
     refine py 2 (some 48) #[T, T, T, F, F, F, F, F, F] ?_
     refine py 3 (some 49) #[T, T, T, T, F, F, F, F, F] ?_
     refine ty 4 (some 50) #[T, T, T, T, T, F, F, F, F] (hS := hHeld) (hz := by rintro w' ⟨s0, s1⟩; go_simp; with_reducible rfl) (h := ?_)
     refine ty 5 (some 51) #[T, T, T, T, T, T, F, F, F] (hS := hHeld) (hz := by rintro w' ⟨s0, s1⟩; go_simp; with_reducible rfl) (h := ?_)
     refine ox 6 (some 52) #[T, T, T, T, T, T, T, F, F] fun K hK => ?_
     refine gox Tryz.func148 #[.slice A6 p.slots.length c6, .string text] ?_
     with_reducible refine (put_c HS7.out HBU.out.1 HBU.out.2 text HTK.out).mono ?_
     rintro e w8 ⟨rfl, ho8, hg8⟩
     have HP8 := Lib.hid ((HPUT.out.bel (Below.refl _ _).drew).slots ho8 hg8)
     have HBEL8 := Lib.hid ((HBEL7.out.drew).grown hg8 (show base ≤ W7.drew.heap.size by have h5 : W7.drew.heap.size = W7.heap.size := rfl; omega) (own_base HS7.out))
     obtain ⟨s4, s5, s6, s7, s8⟩ := HP8.out.cell hil hbl
     have s0 := HP8.out.blk.cell 0
     have s1 := (HT.out.bel (HW1.out.trans (HBEL8.out.mono hb1))).cell 0
     simp at s0 s1
     clear ho8 hg8
     refine ⟨_, rfl, ?_⟩
     refine hK.out _ _ ⟨s0, s1⟩ (fun hHeld => ?_)
     clear hK K
     refine nox 52 (h := ?_)
     refine py 7 (some 53) #[T, T, T, T, T, T, T, T, F] ?_
     refine lx 8 none #[T, T, T, T, T, T, T, T, T] fun K hK => ?_
     refine sx ?_
     refine hK.out _ _ ?_
     clear hK K
     refine done_ (by kernel_rfl) ?_
     clear hHeld t4 t5 t6 t0 hT7
     have hT9 := (HT.out.bel (HW1.out.trans ((HBEL8.out.setCell (p := ⟨gb, bl, none⟩) t7 (.int .i64 (putAt p.slots text))).mono hb1))).cell 0
     simp at hT9
     have HPUT9 := Lib.hid (HP8.out.put hil hbl (putAt p.slots text)).1
     have HBEL9 := Lib.hid (HBEL8.out.setCell (p := ⟨gb, bl, none⟩) t7 (.int .i64 (putAt p.slots text)))
     by_cases h99 : putAt p.slots text = 0
     ·have HG := Lib.hid (show writeF p name bl text = none by rw [writeF_put HWR.out HTK.out HE.out, HBK.out, if_pos h99])
      have hn0 : ¬ 0 < putAt p.slots text := by omega
      clear h99
      go_wp2
      go_ret
      rw [HG.out]
      exact ⟨by first | rfl | (simp [hz]; done) | (simp; exact hz), ⟨_, ⟨⟨_, _, _, HPUT9.out.blk, HPUT9.out.pool⟩, hlo⟩, fun q' h => by cases h⟩, (HB1.out.mono hb2).trans HBEL9.out⟩
     ·have HG := Lib.hid (show writeF p name bl text = some ⟨putS p.slots text, p.vols.set i ⟨v.name, v.blocks.set bl (putAt p.slots text)⟩⟩ by rw [writeF_put HWR.out HTK.out HE.out, HBK.out, if_neg h99, Int.toNat_natCast])
      have hn0 : 0 < putAt p.slots text := by omega
      clear h99
      go_wp2
      go_ret
      rw [HG.out]
      exact ⟨by first | rfl | (simp [hz]; done) | (simp; exact hz), ⟨_, ⟨⟨_, _, _, HPUT9.out.blk, HPUT9.out.pool⟩, hlo⟩, fun q' h => (Option.some.inj h)⟩, (HB1.out.mono hb2).trans HBEL9.out⟩
theorem PW.same0 {W : World} {b base : Nat} {v0 v1 : Value} {bvs : List Value} {S : List Slot} {vs : List Vol} {i bl : Nat} {v : Vol} {gb cb : Nat} {pl : Int} (h : PW W b base v0 v1 bvs S vs i bl v gb cb pl) :
  PW (W.setCell ⟨b, 0, none⟩ v0) b base v0 v1 bvs S vs i bl v gb cb pl :=
 ⟨h.blk.set 0 v0 rfl, h.s.far h.blk (by decide) 0 v0, h.vv.far h.blk (by decide) (by decide) 0 v0, h.hb⟩
theorem PW.far {W : World} {b base : Nat} {v0 v1 : Value} {bvs : List Value} {S : List Slot} {vs : List Vol} {i bl : Nat} {v : Vol} {gb cb : Nat} {pl : Int} (h : PW W b base v0 v1 bvs S vs i bl v gb cb pl) {b2 : Nat} {cs : Array Value} (hB : Blk W b2 cs 44) (hne : b2 ≠ b) (j : Nat) (u : Value) :
  PW (W.setCell ⟨b2, j, none⟩ u) b base v0 v1 bvs S vs i bl v gb cb pl :=
 ⟨h.blk.apart hne j u, h.s.far hB (by decide) j u, h.vv.far hB (by decide) (by decide) j u, h.hb⟩
theorem PW.mk1 {W : World} {b base : Nat} {v0 v1 : Value} {bvs : List Value} {p : Pool} {i bl : Nat} {v : Vol} {x : Int} {gb cb : Nat} (hB : Blk W b #[v0, v1] 44) (h : OwnP W base v0 v1 p bvs) (hv : p.vols[i]? = some v) (hx : v.blocks[bl]? = some x) (hb : bvs[i]? = some (.slice (some ⟨gb, 0, none⟩) v.blocks.length cb)) :
  PW W b base v0 v1 bvs p.slots p.vols i bl v gb cb x := by
 refine ⟨hB, h.s, ?_, hb⟩
 rw [set_same hx, show (⟨v.name, v.blocks⟩ : Vol) = v from rfl, set_same hv]
 exact h.v
theorem Blk.bel' {w w' : World} {b base : Nat} {cs : Array Value} {t : TypeId} (h : Blk w b cs t) (hb : Below base w w') (hlt : b < base) : Blk w' b cs t := (hb.block _ hlt).trans h
theorem OwnP.bel' {w w' : World} {base : Nat} {v0 v1 : Value} {p : Pool} {bvs : List Value} (h : OwnP w base v0 v1 p bvs) (hb : Bel w w') : OwnP w' base v0 v1 p bvs := h.bel hb
theorem hasBlk_none {vs : List Vol} {t : ByteArray} {b : Int} {i : Nat} {v : Vol} (hi : volIdx vs t = i) (hv : vs[i]? = some v) (h : inR b 0 ((v.blocks.length : Int) - 1) = false) : hasBlk vs t b < 0 := by
 rw [hasBlk_at hi hv, h]; simp
theorem hasBlk_some {vs : List Vol} {t : ByteArray} {b : Int} {i : Nat} {v : Vol} (hi : volIdx vs t = i) (hv : vs[i]? = some v) (h : inR b 0 ((v.blocks.length : Int) - 1) = true) : hasBlk vs t b = i := by
 rw [hasBlk_at hi hv, h]; simp
theorem l11Write_c {w : World} {base : Nat} {v0 v1 : Value} {bvs : List Value} {p : Pool} {name : ByteArray} {blk : Int} {text : ByteArray} (h : OwnP w base v0 v1 p bvs) (hs : SmallP p) (hp : PoolP p) (hbase : base ≤ w.heap.size) (hnm : text.size ≤ 1048576) :
  Calls Tryz.prog 115 #[.agg #[v0, v1], .string name, .int .i64 blk, .string text] w (TurnsP base p (writeF p name blk text) w) := by
 have HS := Lib.hid hs
 have HK := Lib.hid hp
 obtain ⟨A0, A1, c0, c1, rfl, rfl, hpi⟩ := h.reads
 have HP := Lib.hid h
 have HI := Lib.hid hpi
 have hlv := HS.out.vols.len
 have hnx : text.size ≤ maxLen := by unfold maxLen; omega
 have HNX := Lib.hid hnx
 clear h hs hp hpi hnx
 go_enter Tryz.func115, Tryz.ntmps115
 go_wp2_with fail
 have hB : Blk ((w.alloc (.cells #[.slice A0 p.slots.length c0, .slice A1 p.vols.length c1] 44)).alloc (.cells #[.slice none 0 0, .slice none 0 0] 44)) w.heap.size #[.slice A0 p.slots.length c0, .slice A1 p.vols.length c1] 44 := (Blk.new _ _ _).alloc _
 have hR : Blk ((w.alloc (.cells #[.slice A0 p.slots.length c0, .slice A1 p.vols.length c1] 44)).alloc (.cells #[.slice none 0 0, .slice none 0 0] 44)) (w.heap.size + 1) #[.slice none 0 0, .slice none 0 0] 44 := Blk.nw2 _ _ _ _
 have hW : Bel w ((w.alloc (.cells #[.slice A0 p.slots.length c0, .slice A1 p.vols.length c1] 44)).alloc (.cells #[.slice none 0 0, .slice none 0 0] 44)) := bel_alloc (bel_alloc (Below.refl _ _) _) _
 generalize ((w.alloc (.cells #[.slice A0 p.slots.length c0, .slice A1 p.vols.length c1] 44)).alloc (.cells #[.slice none 0 0, .slice none 0 0] 44)) = W0 at hB hR hW ⊢
 have hno : ∀ W : World, Bel W0 W → writeF p name blk text = none →
   Blk ((W.setCell ⟨w.heap.size + 1, 0, none⟩ (.slice A0 p.slots.length c0)).setCell ⟨w.heap.size + 1, 1, none⟩ (.slice A1 p.vols.length c1)) (w.heap.size + 1) #[.slice A0 p.slots.length c0, .slice A1 p.vols.length c1] 44 ∧
   TurnsP base p (writeF p name blk text) w (.returned (.tuple #[.agg #[.slice A0 p.slots.length c0, .slice A1 p.vols.length c1], .bool false])) ((W.setCell ⟨w.heap.size + 1, 0, none⟩ (.slice A0 p.slots.length c0)).setCell ⟨w.heap.size + 1, 1, none⟩ (.slice A1 p.vols.length c1)) := by
  intro W hb hn
  have hR2 := hR.bel hb
  have hR3 := hR2.set 0 (.slice A0 p.slots.length c0) (cs' := #[.slice A0 p.slots.length c0, .slice none 0 0]) rfl
  have hR4 := hR3.set 1 (.slice A1 p.vols.length c1) (cs' := #[.slice A0 p.slots.length c0, .slice A1 p.vols.length c1]) rfl
  have hb5 := bel_set (bel_set (hW.tr hb) (Nat.le_succ _) 0 (.slice A0 p.slots.length c0)) (Nat.le_succ _) 1 (.slice A1 p.vols.length c1)
  have hop4 := ((HP.out.bel (hW.tr hb)).far hR2 (by decide) (by decide) (by decide) 0 (.slice A0 p.slots.length c0)).far hR3 (by decide) (by decide) (by decide) 1 (.slice A1 p.vols.length c1)
  refine ⟨hR4, ?_⟩
  rw [hn]
  exact ⟨_, _, _, rfl, hop4, Fr.ofBel hb5 hbase⟩
 have HNO := Lib.hid hno
 have HB := Lib.hid hB
 have HR := Lib.hid hR
 have HW := Lib.hid hW
 clear hB hR hW hno
 refine (l11At_c _ p.vols A1 c1 name _ (HI.out.bel HW.out).v hlv).mono ?_
 rintro e w1 ⟨rfl, hb1⟩
 have HB1 := Lib.hid hb1
 clear hb1
 have q0 := (HB.out.bel HB1.out).cell 0
 have q1 := (HB.out.bel HB1.out).cell 1
 have r0 := (HR.out.bel HB1.out).cell 0
 have r1 := (HR.out.bel HB1.out).cell 1
 have f0 := (HR.out.bel HB1.out).free 0
 have f1 := (HR.out.bel HB1.out).free 1
 have z1 := (HR.out.bel HB1.out).lt
 simp at q0 q1 r0 r1
 by_cases hn : volIdx p.vols name < 0
 ·have HG := Lib.hid (show writeF p name blk text = none from writeF_no (.inl (by rw [hasBlk_neg hn]; omega)))
  go_wp2
  have hend := HNO.out w1 HB1.out HG.out
  refine bodyPost_ret (results_ct rfl _ _ (w.heap.size + 1) 44 #[.slice A0 p.slots.length c0, .slice A1 p.vols.length c1] (0, 0) _ rfl hend.1 Tryz.underlying44 rfl (by kernel_rfl)) rfl ?_
  exact hend.2
 ·obtain ⟨i, v, hi, hv, hvn⟩ := volIdx_yes hn
  have HV := Lib.hid hv
  have HII := Lib.hid hi
  have hil := ltQ hv
  have hx1 : v.blocks.length ≤ 1048576 := HS.out.vols.blocks v (List.mem_of_getElem? HV.out)
  rw [hi]
  clear hn hvn hv hi
  have hin : ¬ ((i : Int) < 0) := by omega
  obtain ⟨g, cap, bv, hbv, ev, hg1, hg2, hcap, hc, hc', hf, hf'⟩ := (HP.out.bel (HW.out.tr HB1.out)).v.row.at HV.out
  have ev := slice_eq ev
  obtain ⟨rfl, -, rfl⟩ := ev
  obtain ⟨A2, c2, rfl, hc2, hC2⟩ := ((HP.out.bel (HW.out.tr HB1.out)).v.inner i v bv HV.out hbv).reads
  clear hC2 hbv hc hf hf'
  cases hir : inR blk 0 ((v.blocks.length : Int) - 1) with
  | false =>
   have HG := Lib.hid (show writeF p name blk text = none from writeF_no (.inl (hasBlk_none HII.out HV.out hir)))
   go_wp2_with (go_at_call 38; refine (l6In_c blk 0 _ _).mono ?_; rintro e w' ⟨rfl, rfl⟩)
   have hend := HNO.out w1 HB1.out HG.out
   refine bodyPost_ret (results_ct rfl _ _ (w.heap.size + 1) 44 #[.slice A0 p.slots.length c0, .slice (some ⟨g, 0, none⟩) p.vols.length c1] (0, 0) _ rfl hend.1 Tryz.underlying44 rfl (by kernel_rfl)) rfl ?_
   exact hend.2
  | true =>
   have hhb := hasBlk_some HII.out HV.out hir
   cases ht : tOk text with
   | false =>
    have HG := Lib.hid (show writeF p name blk text = none from writeF_no (.inr ht))
    go_wp2_with (first | (go_at_call 38; refine (l6In_c blk 0 _ _).mono ?_; rintro e w' ⟨rfl, rfl⟩) | (go_at_call 110; refine (specTextOk_c text _ HNX.out).mono ?_; rintro e w' ⟨rfl, rfl⟩))
    have hend := HNO.out w1 HB1.out HG.out
    refine bodyPost_ret (results_ct rfl _ _ (w.heap.size + 1) 44 #[.slice A0 p.slots.length c0, .slice (some ⟨g, 0, none⟩) p.vols.length c1] (0, 0) _ rfl hend.1 Tryz.underlying44 rfl (by kernel_rfl)) rfl ?_
    exact hend.2
   | true =>
    have HTK := Lib.hid ht
    obtain ⟨i', v', x, hwr⟩ := hasBlk_wr (p := p) (name := name) (b := blk) (by rw [hhb]; omega)
    obtain rfl : i = i' := by have := hwr.idx; rw [HII.out] at this; omega
    obtain rfl := Option.some.inj (HV.out.symm.trans hwr.vol)
    have hb0 := hwr.b0
    obtain ⟨bl, rfl⟩ : ∃ bl : Nat, blk = bl := ⟨blk.toNat, by omega⟩
    have hbl : bl < v.blocks.length := by have := ltQ hwr.blk; rwa [Int.toNat_natCast] at this
    have hxb := HK.out.blk hwr.vol hwr.blk
    have HWR := Lib.hid hwr
    clear hhb hwr
    go_wp2_with (first | (go_at_call 38; refine (l6In_c (bl : Int) 0 _ _).mono ?_; rintro e w' ⟨rfl, rfl⟩) | (go_at_call 110; refine (specTextOk_c text _ HNX.out).mono ?_; rintro e w' ⟨rfl, rfl⟩))
    refine (l11Copy_c (HI.out.bel (HW.out.tr HB1.out)) HS.out).mono ?_
    rintro e w3 ⟨v2, v3, bvs2, rfl, ho3, hb3⟩
    obtain ⟨A4, A5, c4, c5, rfl, rfl, hpi3⟩ := ho3.reads
    clear q0 q1 r0 r1 f0 f1 z1 hc' ht hir hpi3 hb0
    have hbw13 : Bel w w3 := (HW.out.tr HB1.out).tr hb3
    obtain ⟨gv, cv, bv3, hbv3, ev3, hv1, hv2, hv3, -, hvc, -, hvf⟩ := ho3.v.row.at HV.out
    have ev3 := slice_eq ev3
    obtain ⟨rfl, -, rfl⟩ := ev3
    have hin3 := ho3.v.inner i v bv3 HV.out hbv3
    obtain ⟨gb, cb, rfl, hgb1, hgb2, hgb3⟩ := own_form hin3 (show 0 < v.blocks.length by omega)
    obtain ⟨gb', cb', eb, -, -, -, hgc, hgf⟩ := hin3.at (show v.blocks[bl]? = some x by have := HWR.out.blk; rwa [Int.toNat_natCast] at this)
    have eb := slice_eq eb
    obtain ⟨eb, -, rfl⟩ := eb
    obtain rfl : gb = gb' := by simpa using eb
    have hxw : Bel w3 (w3.alloc (.cells #[.slice A4 p.slots.length c4, .slice (some ⟨gv, 0, none⟩) p.vols.length c5] 44)) := bel_alloc (Below.refl _ _) _
    have HPW := Lib.hid (show PW (w3.alloc (.cells #[.slice A4 p.slots.length c4, .slice (some ⟨gv, 0, none⟩) p.vols.length c5] 44)) w3.heap.size w1.heap.size (.slice A4 p.slots.length c4) (.slice (some ⟨gv, 0, none⟩) p.vols.length c5) bvs2 p.slots p.vols i bl v gb cb x from PW.mk1 (Blk.new _ _ _) (ho3.bel hxw) HV.out (by have := HWR.out.blk; rwa [Int.toNat_natCast] at this) hbv3)
    have hlo3 : w.heap.size + 1 < w1.heap.size := (HR.out.bel HB1.out).lt
    have hsz3 : w1.heap.size ≤ w3.heap.size := hb3.size
    have HB3 := Lib.hid hb3
    have HXW := Lib.hid hxw
    have HBW3 := Lib.hid hbw13
    clear hin3 ho3 hbv3 eb hb3 hxw hbw13
    by_cases h0 : 0 < x
    ·obtain ⟨m, rfl⟩ : ∃ m : Nat, x = (m : Int) + 1 := ⟨(x - 1).toNat, by omega⟩
     have HBK := Lib.hid (back_yes HWR.out)
     obtain ⟨y, hy, hy1, hy2⟩ := wr_slot HK.out HWR.out
     have HY := Lib.hid hy
     have hsl : p.slots.length ≤ 1048576 := HS.out.slots.len
     clear hy
     go_wp2_with fail
     have hbel0 : Below w1.heap.size w3 (w3.alloc (.cells #[.slice A4 p.slots.length c4, .slice (some ⟨gv, 0, none⟩) p.vols.length c5] 44)) := HXW.out.mono hsz3
     have hbelw0 : Bel w (w3.alloc (.cells #[.slice A4 p.slots.length c4, .slice (some ⟨gv, 0, none⟩) p.vols.length c5] 44)) := HBW3.out.tr HXW.out
     generalize w3.alloc (.cells #[.slice A4 p.slots.length c4, .slice (some ⟨gv, 0, none⟩) p.vols.length c5] 44) = Wx at HPW hbel0 hbelw0 ⊢
     refine (l2Drop_c HPW.out.s HY.out hsl hy1 hy2).mono ?_
     rintro e w5 ⟨rfl, ho5, hg5⟩
     have hp5 := HPW.out.slots ho5 hg5
     have hbel5 := hbel0.grown hg5 (by have := hbel0.size; omega) (own_base HPW.out.s)
     have hbelw5 : Bel w w5 := hbelw0.trans (Below.grown (Below.refl _ _) hg5 hbelw0.size (fun k hk => by have := own_base HPW.out.s k hk; omega))
     have hR5 := (HR.out.bel (HB1.out.tr HB3.out)).bel' hbel5 hlo3
     obtain ⟨s4, s5, s6, s7, s8⟩ := hp5.cell hil hbl
     obtain ⟨gw, cw, ew, s9, s10, s11⟩ := hp5.row hil
     have ew := slice_eq ew
     obtain ⟨ew, -, rfl⟩ := ew
     obtain rfl : gv = gw := by simpa using ew
     have b0 := hp5.blk.cell 0
     have b1 := hp5.blk.cell 1
     have bf0 := hp5.blk.free 0
     have bz := hp5.blk.lt
     have hr0 := hR5.cell 0
     have hr1 := hR5.cell 1
     have hf0 := hR5.free 0
     have hf1 := hR5.free 1
     have hz1 := hR5.lt
     simp only [List.getElem?_toArray, List.getElem?_cons_zero, List.getElem?_cons_succ] at b0 b1 hr0 hr1
     have HPUT := Lib.hid (hp5.same0.put hil hbl 0).1
     have HBEL7 := Lib.hid ((hbel5.setCell (p := ⟨w3.heap.size, 0, none⟩) hsz3 (.slice A4 p.slots.length c4)).setCell (p := ⟨gb, bl, none⟩) hgb1 (.int .i64 0))
     have HBELW := Lib.hid ((hbelw5.setCell (p := ⟨w3.heap.size, 0, none⟩) (by show w.heap.size ≤ w3.heap.size; omega) (.slice A4 p.slots.length c4)).setCell (p := ⟨gb, bl, none⟩) (by show w.heap.size ≤ gb; omega) (.int .i64 0))
     have hne1 : ¬ w3.heap.size = w.heap.size + 1 := by omega
     have hne2 : ¬ w.heap.size + 1 = w3.heap.size := by omega
     have hne3 : ¬ gb = w.heap.size + 1 := by omega
     have hne4 : ¬ w.heap.size + 1 = gb := by omega
     have hne5 : ¬ gb = w3.heap.size := by omega
     have hne6 : ¬ w3.heap.size = gb := by omega
     have hne7 : ¬ gv = w3.heap.size := by omega
     have hne8 : ¬ w3.heap.size = gv := by omega
     clear hp5 hbel5 hbelw5 hR5 ho5 hg5 hbel0 hbelw0 ew
     have HR7 := Lib.hid ((HR.out.bel (HB1.out.tr HB3.out)).bel' HBEL7.out hlo3)
     by_cases he : text = e0
     ·have HG := Lib.hid (show writeF p name bl text = some ⟨(dropS p.slots m), p.vols.set i ⟨v.name, v.blocks.set bl 0⟩⟩ by rw [writeF_free HWR.out HTK.out he, HBK.out, Int.toNat_natCast])
      have hz := toList_nil.2 he
      clear he
      have r0 := HR7.out.cell 0
      have r1 := HR7.out.cell 1
      have f0 := HR7.out.free 0
      have f1 := HR7.out.free 1
      have z1 := HR7.out.lt
      have b0 := HPUT.out.blk.cell 0
      have b1 := HPUT.out.blk.cell 1
      simp only [List.getElem?_toArray, List.getElem?_cons_zero, List.getElem?_cons_succ] at r0 r1 b0 b1
      go_wp2
      have hR8 := HR7.out.set 0 (.slice A4 p.slots.length c4) (cs' := #[.slice A4 p.slots.length c4, .slice none 0 0]) rfl
      have hR9 := hR8.set 1 (.slice (some ⟨gv, 0, none⟩) p.vols.length c5) (cs' := #[.slice A4 p.slots.length c4, .slice (some ⟨gv, 0, none⟩) p.vols.length c5]) rfl
      have hop := ((HPUT.out.far HR7.out (by omega) 0 (.slice A4 p.slots.length c4)).far hR8 (by omega) 1 (.slice (some ⟨gv, 0, none⟩) p.vols.length c5)).pool
      have hbel8 := (HBELW.out.setCell (p := ⟨w.heap.size + 1, 0, none⟩) (Nat.le_succ _) (.slice A4 p.slots.length c4)).setCell (p := ⟨w.heap.size + 1, 1, none⟩) (Nat.le_succ _) (.slice (some ⟨gv, 0, none⟩) p.vols.length c5)
      refine bodyPost_ret (results_ct rfl _ _ (w.heap.size + 1) 44 #[.slice A4 p.slots.length c4, .slice (some ⟨gv, 0, none⟩) p.vols.length c5] (0, 0) _ rfl hR9 Tryz.underlying44 rfl (by kernel_rfl)) rfl ?_
      rw [HG.out]
      exact ⟨_, _, _, rfl, hop.lower (by omega), Fr.ofBel hbel8 hbase⟩
     ·have hz : ¬ text.toList = [] := fun h => he (toList_nil.1 h)
      have hz2 : text.toList.isEmpty = false := by simpa using hz
      have HE := Lib.hid he
      clear he
      have b0 := HPUT.out.blk.cell 0
      simp only [List.getElem?_toArray, List.getElem?_cons_zero, List.getElem?_cons_succ] at b0
      go_wp2_with fail
      generalize (w5.setCell ⟨w3.heap.size, 0, none⟩ (.slice A4 p.slots.length c4)).setCell ⟨gb, bl, none⟩ (.int .i64 0) = W7 at HPUT HBEL7 HBELW HR7 b0 ⊢
      have hbu := back_uses HK.out HWR.out
      rw [HBK.out] at hbu
      have hbd := putAt_bd HK.out HWR.out HE.out
      rw [HBK.out] at hbd
      have hpc := putAt_cases (HWR.out.back HK.out).1 HE.out
      rw [HBK.out] at hpc
      have hl2 := l2Put_c HPUT.out.s hbu.1 hbu.2 text HTK.out
      rw [hpc.2] at hl2
      refine hl2.mono ?_
      rintro e w8 ⟨rfl, ho8, hg8⟩
      have HP8 := Lib.hid (HPUT.out.slots ho8 hg8)
      have HBELW8 := Lib.hid (HBELW.out.trans (Below.grown (Below.refl _ _) hg8 (by have := HR7.out.lt; omega) (fun k hk => by have := own_base HPUT.out.s k hk; omega)))
      have HBEL8 := Lib.hid (HBEL7.out.grown hg8 (by have := HBEL7.out.size; omega) (own_base HPUT.out.s))
      have HR8 := Lib.hid ((HR.out.bel (HB1.out.tr HB3.out)).bel' HBEL8.out hlo3)
      clear hl2 hpc ho8 hg8 hbu b0
      by_cases h99 : putAt (dropS p.slots m) text = 0
      ·have HG := Lib.hid (show writeF p name bl text = none by rw [writeF_put HWR.out HTK.out HE.out, HBK.out, if_pos h99])
       have hB8 := (HB.out.bel (HB1.out.tr HB3.out)).bel' HBEL8.out (Nat.lt_of_succ_lt hlo3)
       have r0 := HR8.out.cell 0
       have r1 := HR8.out.cell 1
       have f0 := HR8.out.free 0
       have f1 := HR8.out.free 1
       have z1 := HR8.out.lt
       have b0 := hB8.cell 0
       have b1 := hB8.cell 1
       simp only [List.getElem?_toArray, List.getElem?_cons_zero, List.getElem?_cons_succ] at r0 r1 b0 b1
       have h99' : (putAt (dropS p.slots m) text != 0) = false := by rw [h99]; rfl
       rw [h99']
       have hop := (HP.out.bel' HBELW8.out)
       clear h99 hB8
       go_wp2
       have hR9 := HR8.out.set 0 (.slice A0 p.slots.length c0) (cs' := #[.slice A0 p.slots.length c0, .slice none 0 0]) rfl
       have hR10 := hR9.set 1 (.slice (some ⟨g, 0, none⟩) p.vols.length c1) (cs' := #[.slice A0 p.slots.length c0, .slice (some ⟨g, 0, none⟩) p.vols.length c1]) rfl
       have hop2 := (hop.far HR8.out (by decide) (by decide) (by decide) 0 (.slice A0 p.slots.length c0)).far hR9 (by decide) (by decide) (by decide) 1 (.slice (some ⟨g, 0, none⟩) p.vols.length c1)
       have hbel9 := (HBELW8.out.setCell (p := ⟨w.heap.size + 1, 0, none⟩) (Nat.le_succ _) (.slice A0 p.slots.length c0)).setCell (p := ⟨w.heap.size + 1, 1, none⟩) (Nat.le_succ _) (.slice (some ⟨g, 0, none⟩) p.vols.length c1)
       refine bodyPost_ret (results_ct rfl _ _ (w.heap.size + 1) 44 #[.slice A0 p.slots.length c0, .slice (some ⟨g, 0, none⟩) p.vols.length c1] (0, 0) _ rfl hR10 Tryz.underlying44 rfl (by kernel_rfl)) rfl ?_
       rw [HG.out]
       exact ⟨_, _, _, rfl, hop2, Fr.ofBel hbel9 hbase⟩
      ·have HG := Lib.hid (show writeF p name bl text = some ⟨putS (dropS p.slots m) text, p.vols.set i ⟨v.name, v.blocks.set bl (putAt (dropS p.slots m) text)⟩⟩ by rw [writeF_put HWR.out HTK.out HE.out, HBK.out, if_neg h99, Int.toNat_natCast])
       have h99' : (putAt (dropS p.slots m) text != 0) = true := by simpa using h99
       rw [h99']
       obtain ⟨s4, s5, s6, s7, s8⟩ := HP8.out.cell hil hbl
       obtain ⟨gw, cw, ew, s9, s10, s11⟩ := HP8.out.row hil
       have ew := slice_eq ew
       obtain ⟨ew, -, rfl⟩ := ew
       obtain rfl : gv = gw := by simpa using ew
       have r0 := HR8.out.cell 0
       have r1 := HR8.out.cell 1
       have f0 := HR8.out.free 0
       have f1 := HR8.out.free 1
       have z1 := HR8.out.lt
       have b0 := HP8.out.blk.cell 0
       have b1 := HP8.out.blk.cell 1
       have bf0 := HP8.out.blk.free 0
       have bz := HP8.out.blk.lt
       simp only [List.getElem?_toArray, List.getElem?_cons_zero, List.getElem?_cons_succ] at r0 r1 b0 b1
       have HP9 := Lib.hid (HP8.out.same0.put hil hbl (putAt (dropS p.slots m) text)).1
       have HBELW9 := Lib.hid ((HBELW8.out.setCell (p := ⟨w3.heap.size, 0, none⟩) (by show w.heap.size ≤ w3.heap.size; omega) (.slice A4 p.slots.length c4)).setCell (p := ⟨gb, bl, none⟩) (by show w.heap.size ≤ gb; omega) (.int .i64 (putAt (dropS p.slots m) text)))
       have HR9 := Lib.hid ((HR8.out.apart (show w3.heap.size ≠ w.heap.size + 1 by omega) 0 (.slice A4 p.slots.length c4)).apart (show gb ≠ w.heap.size + 1 by omega) bl (.int .i64 (putAt (dropS p.slots m) text)))
       have hne1 : ¬ w3.heap.size = w.heap.size + 1 := by omega
       have hne2 : ¬ w.heap.size + 1 = w3.heap.size := by omega
       have hne3 : ¬ gb = w.heap.size + 1 := by omega
       have hne4 : ¬ w.heap.size + 1 = gb := by omega
       have hne5 : ¬ gb = w3.heap.size := by omega
       have hne6 : ¬ w3.heap.size = gb := by omega
       have hne7 : ¬ gv = w3.heap.size := by omega
       have hne8 : ¬ w3.heap.size = gv := by omega
       clear h99 ew
       go_wp2
       have hR10 := HR9.out.set 0 (.slice A4 p.slots.length c4) (cs' := #[.slice A4 p.slots.length c4, .slice none 0 0]) rfl
       have hR11 := hR10.set 1 (.slice (some ⟨gv, 0, none⟩) p.vols.length c5) (cs' := #[.slice A4 p.slots.length c4, .slice (some ⟨gv, 0, none⟩) p.vols.length c5]) rfl
       have hop := ((HP9.out.far HR9.out (by omega) 0 (.slice A4 p.slots.length c4)).far hR10 (by omega) 1 (.slice (some ⟨gv, 0, none⟩) p.vols.length c5)).pool
       have hbel9 := (HBELW9.out.setCell (p := ⟨w.heap.size + 1, 0, none⟩) (Nat.le_succ _) (.slice A4 p.slots.length c4)).setCell (p := ⟨w.heap.size + 1, 1, none⟩) (Nat.le_succ _) (.slice (some ⟨gv, 0, none⟩) p.vols.length c5)
       refine bodyPost_ret (results_ct rfl _ _ (w.heap.size + 1) 44 #[.slice A4 p.slots.length c4, .slice (some ⟨gv, 0, none⟩) p.vols.length c5] (0, 0) _ rfl hR11 Tryz.underlying44 rfl (by kernel_rfl)) rfl ?_
       rw [HG.out]
       exact ⟨_, _, _, rfl, hop.lower (by omega), Fr.ofBel hbel9 hbase⟩
    ·have HBK := Lib.hid (back_no HWR.out h0)
     have hcm : (w3.alloc (.cells #[.slice A4 p.slots.length c4, .slice (some ⟨gv, 0, none⟩) p.vols.length c5] 44)).setCell ⟨gb, bl, none⟩ (.int .i64 0) = (w3.setCell ⟨gb, bl, none⟩ (.int .i64 0)).alloc (.cells #[.slice A4 p.slots.length c4, .slice (some ⟨gv, 0, none⟩) p.vols.length c5] 44) := World.setCell_alloc_past (.cells #[.slice A4 p.slots.length c4, .slice (some ⟨gv, 0, none⟩) p.vols.length c5] 44) gb bl (.int .i64 0) hgb2
     have HPUT := Lib.hid (show PW ((w3.setCell ⟨gb, bl, none⟩ (.int .i64 0)).alloc (.cells #[.slice A4 p.slots.length c4, .slice (some ⟨gv, 0, none⟩) p.vols.length c5] 44)) w3.heap.size w1.heap.size (.slice A4 p.slots.length c4) (.slice (some ⟨gv, 0, none⟩) p.vols.length c5) bvs2 p.slots p.vols i bl v gb cb 0 from hcm ▸ (HPW.out.put hil hbl 0).1)
     have HBEL7 := Lib.hid (show Below w1.heap.size w3 ((w3.setCell ⟨gb, bl, none⟩ (.int .i64 0)).alloc (.cells #[.slice A4 p.slots.length c4, .slice (some ⟨gv, 0, none⟩) p.vols.length c5] 44)) from hcm ▸ (HXW.out.mono hsz3).setCell (p := ⟨gb, bl, none⟩) hgb1 (.int .i64 0))
     have HBELW := Lib.hid (show Bel w ((w3.setCell ⟨gb, bl, none⟩ (.int .i64 0)).alloc (.cells #[.slice A4 p.slots.length c4, .slice (some ⟨gv, 0, none⟩) p.vols.length c5] 44)) from hcm ▸ (HBW3.out.tr HXW.out).setCell (p := ⟨gb, bl, none⟩) (by show w.heap.size ≤ gb; omega) (.int .i64 0))
     clear hcm
     have HR7 := Lib.hid ((HR.out.bel (HB1.out.tr HB3.out)).bel' HBEL7.out hlo3)
     by_cases he : text = e0
     ·have HG := Lib.hid (show writeF p name bl text = some ⟨p.slots, p.vols.set i ⟨v.name, v.blocks.set bl 0⟩⟩ by rw [writeF_free HWR.out HTK.out he, HBK.out, Int.toNat_natCast])
      have hz := toList_nil.2 he
      clear he
      have r0 := HR7.out.cell 0
      have r1 := HR7.out.cell 1
      have f0 := HR7.out.free 0
      have f1 := HR7.out.free 1
      have z1 := HR7.out.lt
      have b0 := HPUT.out.blk.cell 0
      have b1 := HPUT.out.blk.cell 1
      simp only [List.getElem?_toArray, List.getElem?_cons_zero, List.getElem?_cons_succ] at r0 r1 b0 b1
      go_wp2
      have hR8 := HR7.out.set 0 (.slice A4 p.slots.length c4) (cs' := #[.slice A4 p.slots.length c4, .slice none 0 0]) rfl
      have hR9 := hR8.set 1 (.slice (some ⟨gv, 0, none⟩) p.vols.length c5) (cs' := #[.slice A4 p.slots.length c4, .slice (some ⟨gv, 0, none⟩) p.vols.length c5]) rfl
      have hop := ((HPUT.out.far HR7.out (by omega) 0 (.slice A4 p.slots.length c4)).far hR8 (by omega) 1 (.slice (some ⟨gv, 0, none⟩) p.vols.length c5)).pool
      have hbel8 := (HBELW.out.setCell (p := ⟨w.heap.size + 1, 0, none⟩) (Nat.le_succ _) (.slice A4 p.slots.length c4)).setCell (p := ⟨w.heap.size + 1, 1, none⟩) (Nat.le_succ _) (.slice (some ⟨gv, 0, none⟩) p.vols.length c5)
      refine bodyPost_ret (results_ct rfl _ _ (w.heap.size + 1) 44 #[.slice A4 p.slots.length c4, .slice (some ⟨gv, 0, none⟩) p.vols.length c5] (0, 0) _ rfl hR9 Tryz.underlying44 rfl (by kernel_rfl)) rfl ?_
      rw [HG.out]
      exact ⟨_, _, _, rfl, hop.lower (by omega), Fr.ofBel hbel8 hbase⟩
     ·have hz : ¬ text.toList = [] := fun h => he (toList_nil.1 h)
      have hz2 : text.toList.isEmpty = false := by simpa using hz
      have HE := Lib.hid he
      clear he
      have b0 := HPUT.out.blk.cell 0
      simp only [List.getElem?_toArray, List.getElem?_cons_zero, List.getElem?_cons_succ] at b0
      go_wp2_with fail
      generalize (w3.setCell ⟨gb, bl, none⟩ (.int .i64 0)).alloc (.cells #[.slice A4 p.slots.length c4, .slice (some ⟨gv, 0, none⟩) p.vols.length c5] 44) = W7 at HPUT HBEL7 HBELW HR7 b0 ⊢
      have hbu := back_uses HK.out HWR.out
      rw [HBK.out] at hbu
      have hbd := putAt_bd HK.out HWR.out HE.out
      rw [HBK.out] at hbd
      have hpc := putAt_cases (HWR.out.back HK.out).1 HE.out
      rw [HBK.out] at hpc
      have hl2 := l2Put_c HPUT.out.s hbu.1 hbu.2 text HTK.out
      rw [hpc.2] at hl2
      refine hl2.mono ?_
      rintro e w8 ⟨rfl, ho8, hg8⟩
      have HP8 := Lib.hid (HPUT.out.slots ho8 hg8)
      have HBELW8 := Lib.hid (HBELW.out.trans (Below.grown (Below.refl _ _) hg8 (by have := HR7.out.lt; omega) (fun k hk => by have := own_base HPUT.out.s k hk; omega)))
      have HBEL8 := Lib.hid (HBEL7.out.grown hg8 (by have := HBEL7.out.size; omega) (own_base HPUT.out.s))
      have HR8 := Lib.hid ((HR.out.bel (HB1.out.tr HB3.out)).bel' HBEL8.out hlo3)
      clear hl2 hpc ho8 hg8 hbu b0
      by_cases h99 : putAt p.slots text = 0
      ·have HG := Lib.hid (show writeF p name bl text = none by rw [writeF_put HWR.out HTK.out HE.out, HBK.out, if_pos h99])
       have hB8 := (HB.out.bel (HB1.out.tr HB3.out)).bel' HBEL8.out (Nat.lt_of_succ_lt hlo3)
       have r0 := HR8.out.cell 0
       have r1 := HR8.out.cell 1
       have f0 := HR8.out.free 0
       have f1 := HR8.out.free 1
       have z1 := HR8.out.lt
       have b0 := hB8.cell 0
       have b1 := hB8.cell 1
       simp only [List.getElem?_toArray, List.getElem?_cons_zero, List.getElem?_cons_succ] at r0 r1 b0 b1
       have h99' : (putAt p.slots text != 0) = false := by rw [h99]; rfl
       rw [h99']
       have hop := (HP.out.bel' HBELW8.out)
       clear h99 hB8
       go_wp2
       have hR9 := HR8.out.set 0 (.slice A0 p.slots.length c0) (cs' := #[.slice A0 p.slots.length c0, .slice none 0 0]) rfl
       have hR10 := hR9.set 1 (.slice (some ⟨g, 0, none⟩) p.vols.length c1) (cs' := #[.slice A0 p.slots.length c0, .slice (some ⟨g, 0, none⟩) p.vols.length c1]) rfl
       have hop2 := (hop.far HR8.out (by decide) (by decide) (by decide) 0 (.slice A0 p.slots.length c0)).far hR9 (by decide) (by decide) (by decide) 1 (.slice (some ⟨g, 0, none⟩) p.vols.length c1)
       have hbel9 := (HBELW8.out.setCell (p := ⟨w.heap.size + 1, 0, none⟩) (Nat.le_succ _) (.slice A0 p.slots.length c0)).setCell (p := ⟨w.heap.size + 1, 1, none⟩) (Nat.le_succ _) (.slice (some ⟨g, 0, none⟩) p.vols.length c1)
       refine bodyPost_ret (results_ct rfl _ _ (w.heap.size + 1) 44 #[.slice A0 p.slots.length c0, .slice (some ⟨g, 0, none⟩) p.vols.length c1] (0, 0) _ rfl hR10 Tryz.underlying44 rfl (by kernel_rfl)) rfl ?_
       rw [HG.out]
       exact ⟨_, _, _, rfl, hop2, Fr.ofBel hbel9 hbase⟩
      ·have HG := Lib.hid (show writeF p name bl text = some ⟨putS p.slots text, p.vols.set i ⟨v.name, v.blocks.set bl (putAt p.slots text)⟩⟩ by rw [writeF_put HWR.out HTK.out HE.out, HBK.out, if_neg h99, Int.toNat_natCast])
       have h99' : (putAt p.slots text != 0) = true := by simpa using h99
       rw [h99']
       obtain ⟨s4, s5, s6, s7, s8⟩ := HP8.out.cell hil hbl
       obtain ⟨gw, cw, ew, s9, s10, s11⟩ := HP8.out.row hil
       have ew := slice_eq ew
       obtain ⟨ew, -, rfl⟩ := ew
       obtain rfl : gv = gw := by simpa using ew
       have r0 := HR8.out.cell 0
       have r1 := HR8.out.cell 1
       have f0 := HR8.out.free 0
       have f1 := HR8.out.free 1
       have z1 := HR8.out.lt
       have b0 := HP8.out.blk.cell 0
       have b1 := HP8.out.blk.cell 1
       have bf0 := HP8.out.blk.free 0
       have bz := HP8.out.blk.lt
       simp only [List.getElem?_toArray, List.getElem?_cons_zero, List.getElem?_cons_succ] at r0 r1 b0 b1
       have HP9 := Lib.hid (HP8.out.same0.put hil hbl (putAt p.slots text)).1
       have HBELW9 := Lib.hid ((HBELW8.out.setCell (p := ⟨w3.heap.size, 0, none⟩) (by show w.heap.size ≤ w3.heap.size; omega) (.slice A4 p.slots.length c4)).setCell (p := ⟨gb, bl, none⟩) (by show w.heap.size ≤ gb; omega) (.int .i64 (putAt p.slots text)))
       have HR9 := Lib.hid ((HR8.out.apart (show w3.heap.size ≠ w.heap.size + 1 by omega) 0 (.slice A4 p.slots.length c4)).apart (show gb ≠ w.heap.size + 1 by omega) bl (.int .i64 (putAt p.slots text)))
       have hne1 : ¬ w3.heap.size = w.heap.size + 1 := by omega
       have hne2 : ¬ w.heap.size + 1 = w3.heap.size := by omega
       have hne3 : ¬ gb = w.heap.size + 1 := by omega
       have hne4 : ¬ w.heap.size + 1 = gb := by omega
       have hne5 : ¬ gb = w3.heap.size := by omega
       have hne6 : ¬ w3.heap.size = gb := by omega
       have hne7 : ¬ gv = w3.heap.size := by omega
       have hne8 : ¬ w3.heap.size = gv := by omega
       clear h99 ew
       go_wp2
       have hR10 := HR9.out.set 0 (.slice A4 p.slots.length c4) (cs' := #[.slice A4 p.slots.length c4, .slice none 0 0]) rfl
       have hR11 := hR10.set 1 (.slice (some ⟨gv, 0, none⟩) p.vols.length c5) (cs' := #[.slice A4 p.slots.length c4, .slice (some ⟨gv, 0, none⟩) p.vols.length c5]) rfl
       have hop := ((HP9.out.far HR9.out (by omega) 0 (.slice A4 p.slots.length c4)).far hR10 (by omega) 1 (.slice (some ⟨gv, 0, none⟩) p.vols.length c5)).pool
       have hbel9 := (HBELW9.out.setCell (p := ⟨w.heap.size + 1, 0, none⟩) (Nat.le_succ _) (.slice A4 p.slots.length c4)).setCell (p := ⟨w.heap.size + 1, 1, none⟩) (Nat.le_succ _) (.slice (some ⟨gv, 0, none⟩) p.vols.length c5)
       refine bodyPost_ret (results_ct rfl _ _ (w.heap.size + 1) 44 #[.slice A4 p.slots.length c4, .slice (some ⟨gv, 0, none⟩) p.vols.length c5] (0, 0) _ rfl hR11 Tryz.underlying44 rfl (by kernel_rfl)) rfl ?_
       rw [HG.out]
       exact ⟨_, _, _, rfl, hop.lower (by omega), Fr.ofBel hbel9 hbase⟩
theorem implPoolWrite_c {w : World} {A0 A1 : Option Addr} {c0 c1 : Nat} {p : Pool} {name : ByteArray} {blk : Int} {text : ByteArray} (h : PoolIn w A0 A1 c0 c1 p) (hs : SmallP p) (hnm : text.size ≤ 1048576) :
  Calls Tryz.prog 127 #[.agg #[.slice A0 p.slots.length c0, .slice A1 p.vols.length c1], .string name, .int .i64 blk, .string text] w (MadePB w (chP p (writeF p name blk text)) (chB p (writeF p name blk text))) := by
 have HS := Lib.hid hs
 have HP := Lib.hid h
 clear h hs
 go_enter Tryz.func127, Tryz.ntmps127
 go_wp2_with fail
 have hB : Blk (((((w.alloc (.cells #[.slice A0 p.slots.length c0, .slice A1 p.vols.length c1] 44)).alloc (.cells #[.string name] 9)).alloc (.cells #[.int .i64 blk] 3)).alloc (.cells #[.string text] 9)).alloc (.cells #[.slice none 0 0, .slice none 0 0] 44)) (w.heap.size) #[.slice A0 p.slots.length c0, .slice A1 p.vols.length c1] 44 := (((((Blk.new _ _ _)).alloc _).alloc _).alloc _).alloc _
 have hN0 : Blk (((((w.alloc (.cells #[.slice A0 p.slots.length c0, .slice A1 p.vols.length c1] 44)).alloc (.cells #[.string name] 9)).alloc (.cells #[.int .i64 blk] 3)).alloc (.cells #[.string text] 9)).alloc (.cells #[.slice none 0 0, .slice none 0 0] 44)) (w.heap.size + 1) #[.string name] 9 := ((((Blk.nw2 _ _ _ _)).alloc _).alloc _).alloc _
 have hN1 : Blk (((((w.alloc (.cells #[.slice A0 p.slots.length c0, .slice A1 p.vols.length c1] 44)).alloc (.cells #[.string name] 9)).alloc (.cells #[.int .i64 blk] 3)).alloc (.cells #[.string text] 9)).alloc (.cells #[.slice none 0 0, .slice none 0 0] 44)) (w.heap.size + 1 + 1) #[.int .i64 blk] 3 := (((Blk.nw3 _ _ _ _ _)).alloc _).alloc _
 have hN2 : Blk (((((w.alloc (.cells #[.slice A0 p.slots.length c0, .slice A1 p.vols.length c1] 44)).alloc (.cells #[.string name] 9)).alloc (.cells #[.int .i64 blk] 3)).alloc (.cells #[.string text] 9)).alloc (.cells #[.slice none 0 0, .slice none 0 0] 44)) (w.heap.size + 1 + 1 + 1) #[.string text] 9 := ((Blk.nw4 _ _ _ _ _ _)).alloc _
 have hR : Blk (((((w.alloc (.cells #[.slice A0 p.slots.length c0, .slice A1 p.vols.length c1] 44)).alloc (.cells #[.string name] 9)).alloc (.cells #[.int .i64 blk] 3)).alloc (.cells #[.string text] 9)).alloc (.cells #[.slice none 0 0, .slice none 0 0] 44)) (w.heap.size + 1 + 1 + 1 + 1) #[.slice none 0 0, .slice none 0 0] 44 := Blk.nw5 _ _ _ _ _ _ _
 have hW : Bel w (((((w.alloc (.cells #[.slice A0 p.slots.length c0, .slice A1 p.vols.length c1] 44)).alloc (.cells #[.string name] 9)).alloc (.cells #[.int .i64 blk] 3)).alloc (.cells #[.string text] 9)).alloc (.cells #[.slice none 0 0, .slice none 0 0] 44)) := bel_alloc (bel_alloc (bel_alloc (bel_alloc (bel_alloc (Below.refl _ _) _) _) _) _) _
 generalize (((((w.alloc (.cells #[.slice A0 p.slots.length c0, .slice A1 p.vols.length c1] 44)).alloc (.cells #[.string name] 9)).alloc (.cells #[.int .i64 blk] 3)).alloc (.cells #[.string text] 9)).alloc (.cells #[.slice none 0 0, .slice none 0 0] 44)) = W0 at hB hN0 hN1 hN2 hR hW ⊢
 have HB := Lib.hid hB
 have HN0 := Lib.hid hN0
 have HN1 := Lib.hid hN1
 have HN2 := Lib.hid hN2
 have HR := Lib.hid hR
 have HW := Lib.hid hW
 clear hB hN0 hN1 hN2 hR hW
 refine (changed_c (HP.out.bel HW.out) HS.out 145 #[.pointer (some ⟨w.heap.size, 0, none⟩), .pointer (some ⟨w.heap.size + 1, 0, none⟩), .pointer (some ⟨w.heap.size + 1 + 1, 0, none⟩), .pointer (some ⟨w.heap.size + 1 + 1 + 1, 0, none⟩)] (writeF p name blk text) (enters Tryz.func145 (by kernel_rfl) (by kernel_rfl))
  (fun hok W b base h1 h2 h3 h4 => writeClo_c (HP.out.bel HW.out) HS.out HB.out HN0.out HN1.out HN2.out hnm hok W b base h1 h2 h3 h4)).mono ?_
 rintro e w1 ⟨v0, v1, bvs, rfl, ho, hb1⟩
 obtain ⟨q, hq⟩ : ∃ q, chP p (writeF p name blk text) = q := ⟨_, rfl⟩
 obtain ⟨ok, hok⟩ : ∃ ok, chB p (writeF p name blk text) = ok := ⟨_, rfl⟩
 rw [hq] at ho
 rw [hok]
 have HQ := Lib.hid hq
 have HK := Lib.hid hok
 clear hq hok
 have HO := Lib.hid ho
 have HB1 := Lib.hid hb1
 have r0 := (HR.out.bel HB1.out).cell 0
 have r1 := (HR.out.bel HB1.out).cell 1
 have f0 := (HR.out.bel HB1.out).free 0
 have f1 := (HR.out.bel HB1.out).free 1
 simp at r0 r1
 clear ho hb1
 obtain ⟨A2, A3, c2, c3, rfl, rfl, hpi⟩ := HO.out.reads
 clear hpi
 go_wp2
 have hR2 := HR.out.bel HB1.out
 have hR3 := hR2.set 0 (.slice A2 q.slots.length c2) (cs' := #[.slice A2 q.slots.length c2, .slice none 0 0]) rfl
 have hR4 := hR3.set 1 (.slice A3 q.vols.length c3) (cs' := #[.slice A2 q.slots.length c2, .slice A3 q.vols.length c3]) rfl
 have hb5 := bel_set (bel_set (HW.out.tr HB1.out) (show w.heap.size ≤ w.heap.size + 1 + 1 + 1 + 1 by omega) 0 (.slice A2 q.slots.length c2)) (show w.heap.size ≤ w.heap.size + 1 + 1 + 1 + 1 by omega) 1 (.slice A3 q.vols.length c3)
 have hop4 := (HO.out.far hR2 (by decide) (by decide) (by decide) 0 (.slice A2 q.slots.length c2)).far hR3 (by decide) (by decide) (by decide) 1 (.slice A3 q.vols.length c3)
 refine bodyPost_ret (results_ct rfl _ _ (w.heap.size + 1 + 1 + 1 + 1) 44 #[.slice A2 q.slots.length c2, .slice A3 q.vols.length c3] (0, 0) _ rfl hR4 Tryz.underlying44 rfl (by kernel_rfl)) rfl ?_
 rw [HQ.out, HK.out]
 exact ⟨_, _, _, rfl, hop4.lower HW.out.size, hb5⟩
end Go.Proofs.YtljfoglilggkjaaGreat

/- l11Add of the reference: a volume put where its name stands. -/
import Derived.Test.YtpobgjkmjlmafaaMh
import Derived.Test.YtpobgjkmjlmafaaWy
namespace Go.Proofs.Ytpobgjkmjlmafaa
open Go.RowKit Go.Proofs.YtpobgjkmjlmafaaW.PrintWords Go.Proofs.YtpobgjkmjlmafaaW.PrintLast
set_option linter.unusedVariables false
set_option linter.unusedSimpArgs false

theorem bool_eq {a b : Bool} (h : a = b) : Value.bool a = .bool b := by rw [h]
theorem nm_gtr {a b : ByteArray} (ha : isNm a = true) (hb : isNm b = true) : (!Op.bytesLess a.toList b.toList && !a.toList == b.toList) = Op.bytesLess b.toList a.toList := by
  rw [nm_lt ha hb, nm_lt hb ha, Bool.eq_iff_iff]
  have h1 : (a.toList == b.toList) = true ↔ nmN a = nmN b := textB.trans (nm_eq ha hb)
  cases h2 : (a.toList == b.toList)
  · have : ¬ nmN a = nmN b := fun h => by rw [h1.2 h] at h2; cases h2
    simp; omega
  · have := h1.1 h2
    simp; omega
theorem posOf_before {t : ByteArray} : ∀ {vs : List Vol} {k : Nat} {y : Vol}, vs[k]? = some y → (∀ (m : Nat) (z : Vol), m < k → vs[m]? = some z → Op.bytesLess t.toList z.name.toList = false) → Op.bytesLess t.toList y.name.toList = true → posOf t vs = k
  | [], k, y, h, _, _ => by simp at h
  | v :: vs, 0, y, h, _, hy => by simp at h; subst h; unfold posOf; rw [if_pos hy]
  | v :: vs, k + 1, y, h, hb, hy => by
    unfold posOf
    rw [if_neg (by rw [hb 0 v (by omega) rfl]; simp)]
    rw [posOf_before (vs := vs) (k := k) (by simpa using h) (fun m z hm hz => hb (m + 1) z (by omega) (by simpa using hz)) hy]
/-- What has been laid after k rounds. -/
def addP {α : Type} (pos : Nat) (z : α) (Z : List α) (k : Nat) : List α := if k ≤ pos then Z.take k else insAt pos z (Z.take k)
theorem addP_zero {α : Type} (pos : Nat) (z : α) (Z : List α) : addP pos z Z 0 = [] := by unfold addP; simp
theorem addP_low {α : Type} {pos k : Nat} {z y : α} {Z : List α} (hy : Z[k]? = some y) (h : k < pos) : addP pos z Z (k + 1) = addP pos z Z k ++ [y] := by
  unfold addP
  rw [if_pos (by omega), if_pos (by omega), take_snoc hy]
theorem insAt_snoc {α : Type} {pos : Nat} {z y : α} {xs : List α} (h : pos ≤ xs.length) : insAt pos z (xs ++ [y]) = insAt pos z xs ++ [y] := by
  unfold insAt
  rw [List.take_append_of_le_length h, List.drop_append_of_le_length h, List.append_assoc]; rfl
theorem addP_at {α : Type} {k : Nat} {z y : α} {Z : List α} (hy : Z[k]? = some y) : addP k z Z (k + 1) = (addP k z Z k ++ [z]) ++ [y] := by
  have hl := ltQ hy
  have ht : (Z.take k).length = k := by rw [List.length_take]; omega
  unfold addP
  rw [if_neg (by omega), if_pos (Nat.le_refl _), take_snoc hy, insAt_snoc (by omega)]
  congr 1
  have := insAt_end z (Z.take k)
  rw [ht] at this
  exact this
theorem addP_high {α : Type} {pos k : Nat} {z y : α} {Z : List α} (hy : Z[k]? = some y) (h : pos < k) : addP pos z Z (k + 1) = addP pos z Z k ++ [y] := by
  have hl := ltQ hy
  have ht : (Z.take k).length = k := by rw [List.length_take]; omega
  unfold addP
  rw [if_neg (by omega), if_neg (by omega), take_snoc hy, insAt_snoc (by omega)]
theorem addP_len {α : Type} (pos : Nat) (z : α) (Z : List α) (k : Nat) : (addP pos z Z k).length ≤ Z.length + 1 := by
  unfold addP insAt
  split
  · rw [List.length_take]; omega
  · rw [List.length_append, List.length_cons, List.length_take, List.length_drop, List.length_take]; omega
theorem addP_all {α : Type} {pos : Nat} {z : α} {Z : List α} (h : pos < Z.length) : addP pos z Z Z.length = insAt pos z Z := by
  unfold addP; rw [if_neg (by omega), List.take_length]
theorem addP_end {α : Type} {z : α} {Z : List α} : addP Z.length z Z Z.length ++ [z] = insAt Z.length z Z := by
  unfold addP; rw [if_pos (Nat.le_refl _), List.take_length, insAt_end]
theorem flat_one {α β : Type} (enc : α → List β) (xs : List α) (y : α) : (xs ++ [y]).flatMap enc = xs.flatMap enc ++ enc y := by simp
theorem posOf_name {t : ByteArray} {vs : List Vol} {k : Nat} {y : Vol} (hy : vs[k]? = some y) (h : k ≤ posOf t vs) : (k < posOf t vs → Op.bytesLess t.toList y.name.toList = false) ∧ (k = posOf t vs → Op.bytesLess t.toList y.name.toList = true) :=
  ⟨fun h => posOf_lt h hy, fun e => posOf_at (e ▸ hy)⟩
theorem OwnV.added {W : World} {base lo pos : Nat} {v v' : Value} {vs : List Vol} {bvs : List Value} {x : Vol} {b : Value} (h : OwnV W base v vs bvs) (hb : OwnI W base b x.blocks) (hi : pos ≤ vs.length)
    (hap : ∀ (m : Nat) (b' : Value) (k : Nat), bvs[m]? = some b' → b'.ownBlock = some k → b.ownBlock ≠ some k)
    (hr : W.ownsRow lo 43 2 v' (vs.length + 1) ((insAt pos (x, b) (vs.zip bvs)).flatMap encV)) (hlo : base ≤ lo) : OwnV W base v' (insAt pos x vs) (insAt pos b bvs) := by
  refine h.ins hb hi hap (grown_refl _ _) ⟨by rw [insAt_len (by rw [h.row.len]; exact hi), insAt_len hi, h.row.len], ?_⟩
  rw [insAt_len hi, zip_insAt _ _ _ _ _ h.row.len hi]
  exact own_lower hr hlo
/-- What l11Add leaves. -/
def Added (base : Nat) (v0 : Value) (p : Pool) (x : Vol) (b : Value) (bvs : List Value) (w : World) (e : Ending) (w' : World) : Prop :=
  ∃ v1, e = .returned (.agg #[v0, v1]) ∧ OwnP w' base v0 v1 ⟨p.slots, insAt (posOf x.name p.vols) x p.vols⟩ (insAt (posOf x.name p.vols) b bvs) ∧ Bel w w'
set_option maxHeartbeats 8000000 in
set_option maxRecDepth 10000 in
theorem l11Add_c {w : World} {base : Nat} {v0 v1 : Value} {bvs : List Value} {p : Pool} {x : Vol} {b : Value} (h : OwnP w base v0 v1 p bvs) (hx : OwnI w base b x.blocks) (hs : SmallP p) (hbase : base ≤ w.heap.size)
    (hap : ∀ (m : Nat) (b' : Value) (k : Nat), bvs[m]? = some b' → b'.ownBlock = some k → b.ownBlock ≠ some k) (hnm : isNm x.name = true) (hnms : ∀ (m : Nat) (y : Vol), p.vols[m]? = some y → isNm y.name = true) :
    Calls Try.prog 141 #[.agg #[v0, v1], .agg #[.string x.name, b]] w (Added base v0 p x b bvs w) := by
  obtain ⟨A0, A1, c0, c1, rfl, rfl, hpi⟩ := h.reads
  obtain ⟨Ab, cb, rfl, hcb, hCb⟩ := hx.reads
  have HP := Lib.hid h
  have HX := Lib.hid hx
  have HI := Lib.hid hpi
  have HAP := Lib.hid hap
  have hlv := hs.vols.len
  have hpl := posOf_le x.name p.vols
  have HBL := Lib.hid (show bvs.length = p.vols.length from h.v.row.len)
  have HNX := Lib.hid hnm
  have HNM := Lib.hid hnms
  clear h hx hpi hap hCb hs hnm hnms
  go_enter Try.func141, Try.ntmps141
  go_wp2
  have hB : Blk (((w.alloc (.cells #[.slice A0 p.slots.length c0, .slice A1 p.vols.length c1] 30)).alloc (.cells #[.string x.name, .slice Ab x.blocks.length cb] 43)).alloc (.cells #[.slice none 0 0, .slice none 0 0] 30)) w.heap.size #[.slice A0 p.slots.length c0, .slice A1 p.vols.length c1] 30 := ((Blk.new _ _ _).alloc _).alloc _
  have hV : Blk (((w.alloc (.cells #[.slice A0 p.slots.length c0, .slice A1 p.vols.length c1] 30)).alloc (.cells #[.string x.name, .slice Ab x.blocks.length cb] 43)).alloc (.cells #[.slice none 0 0, .slice none 0 0] 30)) (w.heap.size + 1) #[.string x.name, .slice Ab x.blocks.length cb] 43 := (Blk.nw2 _ _ _ _).alloc _
  have hR : Blk (((w.alloc (.cells #[.slice A0 p.slots.length c0, .slice A1 p.vols.length c1] 30)).alloc (.cells #[.string x.name, .slice Ab x.blocks.length cb] 43)).alloc (.cells #[.slice none 0 0, .slice none 0 0] 30)) (w.heap.size + 1 + 1) #[.slice none 0 0, .slice none 0 0] 30 := Blk.nw3 _ _ _ _ _
  have hW : Bel w (((w.alloc (.cells #[.slice A0 p.slots.length c0, .slice A1 p.vols.length c1] 30)).alloc (.cells #[.string x.name, .slice Ab x.blocks.length cb] 43)).alloc (.cells #[.slice none 0 0, .slice none 0 0] 30)) := bel_alloc (bel_alloc (bel_alloc (Below.refl _ _) _) _) _
  have hz : w.heap.size + 1 + 1 + 1 = (((w.alloc (.cells #[.slice A0 p.slots.length c0, .slice A1 p.vols.length c1] 30)).alloc (.cells #[.string x.name, .slice Ab x.blocks.length cb] 43)).alloc (.cells #[.slice none 0 0, .slice none 0 0] 30)).heap.size := by simp
  generalize (((w.alloc (.cells #[.slice A0 p.slots.length c0, .slice A1 p.vols.length c1] 30)).alloc (.cells #[.string x.name, .slice Ab x.blocks.length cb] 43)).alloc (.cells #[.slice none 0 0, .slice none 0 0] 30)) = W0 at hB hV hR hW hz ⊢
  rw [show w.heap.size + 1 + 1 + 1 = W0.heap.size from hz]
  have HB := Lib.hid hB
  have HV := Lib.hid hV
  have HR := Lib.hid hR
  have HW := Lib.hid hW
  have HZ := Lib.hid hz
  have HE := Lib.hid (own_empty W0 W0.heap.size 43 2 (Nat.le_refl _))
  clear hB hV hR hW hz
  obtain ⟨pos, hpos⟩ : ∃ pos, posOf x.name p.vols = pos := ⟨_, rfl⟩
  rw [hpos] at hpl
  have HPOS := Lib.hid hpos
  clear hpos
  have HZL := Lib.hid (show (p.vols.zip bvs).length = p.vols.length by rw [List.length_zip, HBL.out, Nat.min_self])
  go_loopg [5, 6, 7] p.vols.length (fun g v5 v6 v7 W => ∃ (k : Nat) (L : List (Vol × Value)), g + k = p.vols.length ∧ v7 = .int .i64 k ∧ v6 = .bool (decide (pos < k)) ∧ Hid (L = addP pos (x, Value.slice Ab x.blocks.length cb) (p.vols.zip bvs) k) ∧ Hid (W.ownsRow W0.heap.size 43 2 v5 L.length (L.flatMap encV)) ∧ Bel W0 W)
  case atStart => exact ⟨0, [], rfl, rfl, bool_eq (by simp), (addP_zero _ _ _).symm, HE.out, bel_alloc (Below.refl _ _) _⟩
  case round =>
    obtain ⟨k, L, hk, rfl, rfl, hL, hrow, hb⟩ := hrel
    obtain ⟨A5, c5, rfl, hc5⟩ := own_cap hrow.out
    have HBW := Lib.hid hb
    clear hb
    have hLl : L.length ≤ 1048577 := by have := addP_len pos (x, Value.slice Ab x.blocks.length cb) (p.vols.zip bvs) k; rw [← hL.out, HZL.out] at this; omega
    by_cases hlt : k < p.vols.length
    · obtain ⟨y, hy⟩ := getQ hlt
      obtain ⟨g, cap, by_, hby, ev, hg1, hg2, hcap, hc, hc', hf, hf'⟩ := (((HP.out.bel HW.out).bel HBW.out).v.row).at hy
      have ev := slice_eq ev
      obtain ⟨rfl, -, rfl⟩ := ev
      obtain ⟨A2, c2, rfl, hc2, hC2⟩ := ((((HP.out.bel HW.out).bel HBW.out).v).inner k y by_ hy hby).reads
      have HZK := Lib.hid (zip_get hy hby)
      have HY := Lib.hid (And.intro hy hby)
      have HF := Lib.hid (show ∀ W : World, Bel W0 W → (W.cell? ⟨w.heap.size, 0, none⟩ = some (.slice A0 p.slots.length c0) ∧ W.cell? ⟨w.heap.size, 1, none⟩ = some (.slice (some ⟨g, 0, none⟩) p.vols.length c1)) ∧ (W.cell? ⟨g, k * 2, none⟩ = some (.string y.name) ∧ W.cell? ⟨g, k * 2 + 1, none⟩ = some (.slice A2 y.blocks.length c2)) ∧ (W.cell? ⟨w.heap.size + 1, 0, none⟩ = some (.string x.name) ∧ W.cell? ⟨w.heap.size + 1, 1, none⟩ = some (.slice Ab x.blocks.length cb)) ∧ w.heap.size + 1 < W.heap.size ∧ w.heap.size < W.heap.size ∧ g < W.heap.size from fun W hb => by
        have hB := HB.out.bel hb
        have hV := HV.out.bel hb
        obtain ⟨g', cap', by', e1, e2, _, h5, _, h1, h2, _⟩ := (((HP.out.bel HW.out).bel hb).v.row).at hy
        have e2 := slice_eq e2
        obtain ⟨e2, -, -⟩ := e2
        obtain rfl : g = g' := by simpa using e2
        obtain rfl := Option.some.inj (hby.symm.trans e1)
        exact ⟨⟨hB.cell 0, hB.cell 1⟩, ⟨h1, h2⟩, ⟨hV.cell 0, hV.cell 1⟩, hV.lt, hB.lt, h5⟩)
      clear hC2 hf hf' hc hc' hy hby
      obtain ⟨⟨p0, p1⟩, ⟨p2, p3⟩, ⟨p4, p5⟩, p6, p7, p8⟩ := HF.out _ HBW.out
      rcases Nat.lt_trichotomy k pos with hkp | hkp | hkp
      · -- in front of the place
        have hcmp : (!Op.bytesLess y.name.toList x.name.toList && !y.name.toList == x.name.toList) = false := by rw [nm_gtr (HNM.out k y HY.out.1) HNX.out]; exact (posOf_name HY.out.1 (by rw [HPOS.out]; omega)).1 (by rw [HPOS.out]; exact hkp)
        have hdec : decide (pos < k) = false := by simp; omega
        have hdec2 := Lib.hid (show decide (pos < k + 1) = false by simp; omega)
        have HLN := Lib.hid (show addP pos (x, Value.slice Ab x.blocks.length cb) (p.vols.zip bvs) (k + 1) = L ++ [(y, .slice A2 y.blocks.length c2)] by rw [hL.out]; exact addP_low HZK.out hkp)
        rw [hdec]
        clear hdec
        go_wp2
        refine start_ (n := 13) (S := fun w' => w'.cell? ⟨w.heap.size, 1, none⟩ = some (.slice (some ⟨g, 0, none⟩) p.vols.length c1) ∧ w'.cell? ⟨g, k * 2, none⟩ = some (.string y.name) ∧ w'.cell? ⟨w.heap.size + 1, 0, none⟩ = some (.string x.name)) (ds := []) #[false, false, false, false, false, false, false, false, false, false, false, false, false] (by kernel_rfl) rfl rfl ⟨p1, p2, p4⟩ (fun hHeld => ?_)
        refine pure_ (i := 0) (N := some 16) (v := ?_) (a' := ?_) #[true, false, false, false, false, false, false, false, false, false, false, false, false] rfl rfl (by kernel_rfl) (fun _ _ _ h => h) (Or.inl ⟨by rfl, ?_⟩) ?_ ?_
        rotate_left
        · intro w'
          go_simp
          with_reducible rfl
        rotate_left
        · simp only [Act.put, List.setIfInBounds_toArray, List.set_cons_zero, List.set_cons_succ, i64_w, i32_w]
          rfl
        refine pure_ (i := 1) (N := some 17) (v := ?_) (a' := ?_) #[true, true, false, false, false, false, false, false, false, false, false, false, false] rfl rfl (by kernel_rfl) (fun _ _ _ h => h) (Or.inl ⟨by rfl, ?_⟩) ?_ ?_
        rotate_left
        · intro w'
          go_simp
          with_reducible rfl
        rotate_left
        · simp only [Act.put, List.setIfInBounds_toArray, List.set_cons_zero, List.set_cons_succ, i64_w, i32_w]
          rfl
        refine pure_ (i := 2) (N := some 18) (v := ?_) (a' := ?_) #[true, true, true, false, false, false, false, false, false, false, false, false, false] rfl rfl (by kernel_rfl) (fun _ _ _ h => h) (Or.inl ⟨by rfl, ?_⟩) ?_ ?_
        rotate_left
        · intro w'
          go_simp
          with_reducible rfl
        rotate_left
        · simp only [Act.put, List.setIfInBounds_toArray, List.set_cons_zero, List.set_cons_succ, i64_w, i32_w]
          rfl
        refine pure_ (i := 3) (N := some 19) (v := ?_) (a' := ?_) #[true, true, true, true, false, false, false, false, false, false, false, false, false] rfl rfl (by kernel_rfl) (fun _ _ _ h => h) (Or.inl ⟨by rfl, ?_⟩) ?_ ?_
        rotate_left
        · intro w'
          go_simp
          with_reducible rfl
        rotate_left
        · simp only [Act.put, List.setIfInBounds_toArray, List.set_cons_zero, List.set_cons_succ, i64_w, i32_w]
          rfl
        refine pure_ (i := 5) (N := some 21) (v := ?_) (a' := ?_) #[true, true, true, true, false, true, false, false, false, false, false, false, false] rfl rfl (by kernel_rfl) (fun _ _ _ h => h) (Or.inl ⟨by rfl, ?_⟩) ?_ ?_
        rotate_left
        · intro w'
          go_simp
          with_reducible rfl
        rotate_left
        · simp only [Act.put, List.setIfInBounds_toArray, List.set_cons_zero, List.set_cons_succ, i64_w, i32_w]
          rfl
        refine pure_ (i := 9) (N := some 25) (v := ?_) (a' := ?_) #[true, true, true, true, false, true, false, false, false, true, false, false, false] rfl rfl (by kernel_rfl) (fun _ _ _ h => h) (Or.inl ⟨by rfl, ?_⟩) ?_ ?_
        rotate_left
        · intro w'
          go_simp
          with_reducible rfl
        rotate_left
        · simp only [Act.put, List.setIfInBounds_toArray, List.set_cons_zero, List.set_cons_succ, i64_w, i32_w]
          rfl
        refine take_ (i := 4) (N := some 20) (v := ?_) (a' := ?_) #[true, true, true, true, true, true, false, false, false, true, false, false, false] rfl rfl (by kernel_rfl) (fun _ _ _ h => h) (Or.inl ⟨by rfl, ?_⟩) hHeld ?_ ?_
        rotate_left
        · rintro w' ⟨s0, s1, s2⟩
          go_simp
          with_reducible rfl
        rotate_left
        · simp only [Act.put, List.setIfInBounds_toArray, List.set_cons_zero, List.set_cons_succ, i64_w, i32_w]
          rfl
        refine pure_ (i := 6) (N := some 22) (v := ?_) (a' := ?_) #[true, true, true, true, true, true, true, false, false, true, false, false, false] rfl rfl (by kernel_rfl) (fun _ _ _ h => h) (Or.inl ⟨by rfl, ?_⟩) ?_ ?_
        rotate_left
        · intro w'
          go_simp
          with_reducible rfl
        rotate_left
        · simp only [Act.put, List.setIfInBounds_toArray, List.set_cons_zero, List.set_cons_succ, i64_w, i32_w]
          rfl
        refine pure_ (i := 7) (N := some 23) (v := ?_) (a' := ?_) #[true, true, true, true, true, true, true, true, false, true, false, false, false] rfl rfl (by kernel_rfl) (fun _ _ _ h => h) (Or.inl ⟨by rfl, ?_⟩) ?_ ?_
        rotate_left
        · intro w'
          go_simp
          with_reducible rfl
        rotate_left
        · simp only [Act.put, List.setIfInBounds_toArray, List.set_cons_zero, List.set_cons_succ, i64_w, i32_w]
          rfl
        refine take_ (i := 8) (N := some 24) (v := ?_) (a' := ?_) #[true, true, true, true, true, true, true, true, true, true, false, false, false] rfl rfl (by kernel_rfl) (fun _ _ _ h => h) (Or.inl ⟨by rfl, ?_⟩) hHeld ?_ ?_
        rotate_left
        · rintro w' ⟨s0, s1, s2⟩
          go_simp
          with_reducible rfl
        rotate_left
        · simp only [Act.put, List.setIfInBounds_toArray, List.set_cons_zero, List.set_cons_succ, i64_w, i32_w]
          rfl
        refine take_ (i := 10) (N := some 26) (v := ?_) (a' := ?_) #[true, true, true, true, true, true, true, true, true, true, true, false, false] rfl rfl (by kernel_rfl) (fun _ _ _ h => h) (Or.inl ⟨by rfl, ?_⟩) hHeld ?_ ?_
        rotate_left
        · rintro w' ⟨s0, s1, s2⟩
          go_simp
          with_reducible rfl
        rotate_left
        · simp only [Act.put, List.setIfInBounds_toArray, List.set_cons_zero, List.set_cons_succ, i64_w, i32_w]
          rfl
        refine pure_ (i := 11) (N := some 27) (v := ?_) (a' := ?_) #[true, true, true, true, true, true, true, true, true, true, true, true, false] rfl rfl (by kernel_rfl) (fun _ _ _ h => h) (Or.inl ⟨by rfl, ?_⟩) ?_ ?_
        rotate_left
        · intro w'
          go_simp
          with_reducible rfl
        rotate_left
        · simp only [Act.put, List.setIfInBounds_toArray, List.set_cons_zero, List.set_cons_succ, i64_w, i32_w]
          rfl
        refine pure_ (i := 12) (N := some 28) (v := ?_) (a' := ?_) #[true, true, true, true, true, true, true, true, true, true, true, true, true] rfl rfl (by kernel_rfl) (fun _ _ _ h => h) (Or.inl ⟨by rfl, ?_⟩) ?_ ?_
        rotate_left
        · intro w'
          go_simp
          with_reducible rfl
        rotate_left
        · simp only [Act.put, List.setIfInBounds_toArray, List.set_cons_zero, List.set_cons_succ, i64_w, i32_w]
          rfl
        refine done_ (by kernel_rfl) ?_
        clear hHeld p0 p1 p2 p3 p4 p5 p6 p7 p8
        have hrow2 : wr.drew.ownsRow W0.heap.size 43 2 (.slice A5 L.length c5) L.length (L.flatMap encV) := hrow.out
        have hb2 : Bel W0 wr.drew := HBW.out.drew
        clear hrow HBW
        generalize wr.drew = W2 at hrow2 hb2 ⊢
        have HR2 := Lib.hid hrow2
        have HB2 := Lib.hid hb2
        obtain ⟨⟨p0, p1⟩, ⟨p2, p3⟩, ⟨p4, p5⟩, p6, p7, p8⟩ := HF.out _ hb2
        clear hrow2 hb2
        go_wp2_with (at_builtin; refine print_append_cells (w0 := W0) W0.heap.size rfl (.tmp 33) (.tmp 39) 28 43 (.agg #[.string ⟨#[]⟩, .slice none 0 0]) 2 40 rfl Try.underlying28 info_vol rfl (by decide) (by decide) _ L.length (L.flatMap encV) (encV (y, .slice A2 y.blocks.length c2)) rfl rfl rfl (by intro u hu; simp [encV] at hu; rcases hu with rfl | rfl <;> rfl) HR2.out HB2.out HB2.out.size (by omega) ?_; intro v2 w5 hr2 hbq hg2 hat2)
        go_roundg (p.vols.length - (k + 1))
        case measure => omega
        case rel => exact ⟨k + 1, L ++ [(y, Value.slice A2 y.blocks.length c2)], by omega, int_eq (by omega), bool_eq hdec2.out.symm, HLN.out.symm, by rw [Hid, List.length_append, flat_one]; exact hr2, hbq⟩
      · -- at the place
        have hcmp : (!Op.bytesLess y.name.toList x.name.toList && !y.name.toList == x.name.toList) = true := by rw [nm_gtr (HNM.out k y HY.out.1) HNX.out]; exact (posOf_name HY.out.1 (by rw [HPOS.out]; omega)).2 (by rw [HPOS.out]; exact hkp)
        have hdec : decide (pos < k) = false := by simp; omega
        have hdec2 := Lib.hid (show decide (pos < k + 1) = true by simp; omega)
        have HLN := Lib.hid (show addP pos (x, Value.slice Ab x.blocks.length cb) (p.vols.zip bvs) (k + 1) = (L ++ [(x, .slice Ab x.blocks.length cb)]) ++ [(y, .slice A2 y.blocks.length c2)] by rw [hL.out, ← hkp]; exact addP_at HZK.out)
        clear hkp
        rw [hdec]
        clear hdec
        go_wp2
        refine start_ (n := 13) (S := fun w' => w'.cell? ⟨w.heap.size, 1, none⟩ = some (.slice (some ⟨g, 0, none⟩) p.vols.length c1) ∧ w'.cell? ⟨g, k * 2, none⟩ = some (.string y.name) ∧ w'.cell? ⟨w.heap.size + 1, 0, none⟩ = some (.string x.name)) (ds := []) #[false, false, false, false, false, false, false, false, false, false, false, false, false] (by kernel_rfl) rfl rfl ⟨p1, p2, p4⟩ (fun hHeld => ?_)
        refine pure_ (i := 0) (N := some 16) (v := ?_) (a' := ?_) #[true, false, false, false, false, false, false, false, false, false, false, false, false] rfl rfl (by kernel_rfl) (fun _ _ _ h => h) (Or.inl ⟨by rfl, ?_⟩) ?_ ?_
        rotate_left
        · intro w'
          go_simp
          with_reducible rfl
        rotate_left
        · simp only [Act.put, List.setIfInBounds_toArray, List.set_cons_zero, List.set_cons_succ, i64_w, i32_w]
          rfl
        refine pure_ (i := 1) (N := some 17) (v := ?_) (a' := ?_) #[true, true, false, false, false, false, false, false, false, false, false, false, false] rfl rfl (by kernel_rfl) (fun _ _ _ h => h) (Or.inl ⟨by rfl, ?_⟩) ?_ ?_
        rotate_left
        · intro w'
          go_simp
          with_reducible rfl
        rotate_left
        · simp only [Act.put, List.setIfInBounds_toArray, List.set_cons_zero, List.set_cons_succ, i64_w, i32_w]
          rfl
        refine pure_ (i := 2) (N := some 18) (v := ?_) (a' := ?_) #[true, true, true, false, false, false, false, false, false, false, false, false, false] rfl rfl (by kernel_rfl) (fun _ _ _ h => h) (Or.inl ⟨by rfl, ?_⟩) ?_ ?_
        rotate_left
        · intro w'
          go_simp
          with_reducible rfl
        rotate_left
        · simp only [Act.put, List.setIfInBounds_toArray, List.set_cons_zero, List.set_cons_succ, i64_w, i32_w]
          rfl
        refine pure_ (i := 3) (N := some 19) (v := ?_) (a' := ?_) #[true, true, true, true, false, false, false, false, false, false, false, false, false] rfl rfl (by kernel_rfl) (fun _ _ _ h => h) (Or.inl ⟨by rfl, ?_⟩) ?_ ?_
        rotate_left
        · intro w'
          go_simp
          with_reducible rfl
        rotate_left
        · simp only [Act.put, List.setIfInBounds_toArray, List.set_cons_zero, List.set_cons_succ, i64_w, i32_w]
          rfl
        refine pure_ (i := 5) (N := some 21) (v := ?_) (a' := ?_) #[true, true, true, true, false, true, false, false, false, false, false, false, false] rfl rfl (by kernel_rfl) (fun _ _ _ h => h) (Or.inl ⟨by rfl, ?_⟩) ?_ ?_
        rotate_left
        · intro w'
          go_simp
          with_reducible rfl
        rotate_left
        · simp only [Act.put, List.setIfInBounds_toArray, List.set_cons_zero, List.set_cons_succ, i64_w, i32_w]
          rfl
        refine pure_ (i := 9) (N := some 25) (v := ?_) (a' := ?_) #[true, true, true, true, false, true, false, false, false, true, false, false, false] rfl rfl (by kernel_rfl) (fun _ _ _ h => h) (Or.inl ⟨by rfl, ?_⟩) ?_ ?_
        rotate_left
        · intro w'
          go_simp
          with_reducible rfl
        rotate_left
        · simp only [Act.put, List.setIfInBounds_toArray, List.set_cons_zero, List.set_cons_succ, i64_w, i32_w]
          rfl
        refine take_ (i := 4) (N := some 20) (v := ?_) (a' := ?_) #[true, true, true, true, true, true, false, false, false, true, false, false, false] rfl rfl (by kernel_rfl) (fun _ _ _ h => h) (Or.inl ⟨by rfl, ?_⟩) hHeld ?_ ?_
        rotate_left
        · rintro w' ⟨s0, s1, s2⟩
          go_simp
          with_reducible rfl
        rotate_left
        · simp only [Act.put, List.setIfInBounds_toArray, List.set_cons_zero, List.set_cons_succ, i64_w, i32_w]
          rfl
        refine pure_ (i := 6) (N := some 22) (v := ?_) (a' := ?_) #[true, true, true, true, true, true, true, false, false, true, false, false, false] rfl rfl (by kernel_rfl) (fun _ _ _ h => h) (Or.inl ⟨by rfl, ?_⟩) ?_ ?_
        rotate_left
        · intro w'
          go_simp
          with_reducible rfl
        rotate_left
        · simp only [Act.put, List.setIfInBounds_toArray, List.set_cons_zero, List.set_cons_succ, i64_w, i32_w]
          rfl
        refine pure_ (i := 7) (N := some 23) (v := ?_) (a' := ?_) #[true, true, true, true, true, true, true, true, false, true, false, false, false] rfl rfl (by kernel_rfl) (fun _ _ _ h => h) (Or.inl ⟨by rfl, ?_⟩) ?_ ?_
        rotate_left
        · intro w'
          go_simp
          with_reducible rfl
        rotate_left
        · simp only [Act.put, List.setIfInBounds_toArray, List.set_cons_zero, List.set_cons_succ, i64_w, i32_w]
          rfl
        refine take_ (i := 8) (N := some 24) (v := ?_) (a' := ?_) #[true, true, true, true, true, true, true, true, true, true, false, false, false] rfl rfl (by kernel_rfl) (fun _ _ _ h => h) (Or.inl ⟨by rfl, ?_⟩) hHeld ?_ ?_
        rotate_left
        · rintro w' ⟨s0, s1, s2⟩
          go_simp
          with_reducible rfl
        rotate_left
        · simp only [Act.put, List.setIfInBounds_toArray, List.set_cons_zero, List.set_cons_succ, i64_w, i32_w]
          rfl
        refine take_ (i := 10) (N := some 26) (v := ?_) (a' := ?_) #[true, true, true, true, true, true, true, true, true, true, true, false, false] rfl rfl (by kernel_rfl) (fun _ _ _ h => h) (Or.inl ⟨by rfl, ?_⟩) hHeld ?_ ?_
        rotate_left
        · rintro w' ⟨s0, s1, s2⟩
          go_simp
          with_reducible rfl
        rotate_left
        · simp only [Act.put, List.setIfInBounds_toArray, List.set_cons_zero, List.set_cons_succ, i64_w, i32_w]
          rfl
        refine pure_ (i := 11) (N := some 27) (v := ?_) (a' := ?_) #[true, true, true, true, true, true, true, true, true, true, true, true, false] rfl rfl (by kernel_rfl) (fun _ _ _ h => h) (Or.inl ⟨by rfl, ?_⟩) ?_ ?_
        rotate_left
        · intro w'
          go_simp
          with_reducible rfl
        rotate_left
        · simp only [Act.put, List.setIfInBounds_toArray, List.set_cons_zero, List.set_cons_succ, i64_w, i32_w]
          rfl
        refine pure_ (i := 12) (N := some 28) (v := ?_) (a' := ?_) #[true, true, true, true, true, true, true, true, true, true, true, true, true] rfl rfl (by kernel_rfl) (fun _ _ _ h => h) (Or.inl ⟨by rfl, ?_⟩) ?_ ?_
        rotate_left
        · intro w'
          go_simp
          with_reducible rfl
        rotate_left
        · simp only [Act.put, List.setIfInBounds_toArray, List.set_cons_zero, List.set_cons_succ, i64_w, i32_w]
          rfl
        refine done_ (by kernel_rfl) ?_
        clear hHeld p0 p1 p2 p3 p4 p5 p6 p7 p8
        have hrow2 : wr.drew.ownsRow W0.heap.size 43 2 (.slice A5 L.length c5) L.length (L.flatMap encV) := hrow.out
        have hb2 : Bel W0 wr.drew := HBW.out.drew
        clear hrow HBW
        generalize wr.drew = W2 at hrow2 hb2 ⊢
        have HR2 := Lib.hid hrow2
        have HB2 := Lib.hid hb2
        obtain ⟨⟨p0, p1⟩, ⟨p2, p3⟩, ⟨p4, p5⟩, p6, p7, p8⟩ := HF.out _ hb2
        clear hrow2 hb2
        go_wp2_with (first
          | (at_builtin; refine print_append_cells (w0 := W0) W0.heap.size rfl (.tmp 29) (.tmp 31) 28 43 (.agg #[.string ⟨#[]⟩, .slice none 0 0]) 2 40 rfl Try.underlying28 info_vol rfl (by decide) (by decide) _ L.length (L.flatMap encV) (encV (x, .slice Ab x.blocks.length cb)) rfl rfl rfl (by intro u hu; simp [encV] at hu; rcases hu with rfl | rfl <;> rfl) HR2.out HB2.out HB2.out.size (by omega) ?_; intro v2 w5 hr2 hbq hg2 hat2; obtain ⟨A6, c6, rfl, hc6⟩ := own_cap hr2; clear hat2 hg2 p0 p1 p2 p3 p4 p5 p6 p7 p8; have HR5 := Lib.hid hr2; have HB5 := Lib.hid hbq; obtain ⟨⟨p0, p1⟩, ⟨p2, p3⟩, ⟨p4, p5⟩, p6, p7, p8⟩ := HF.out _ hbq; clear hr2 hbq)
          | (at_builtin; refine print_append_cells (w0 := W0) W0.heap.size rfl (.tmp 33) (.tmp 39) 28 43 (.agg #[.string ⟨#[]⟩, .slice none 0 0]) 2 40 rfl Try.underlying28 info_vol rfl (by decide) (by decide) _ (L.length + 1) (L.flatMap encV ++ encV (x, .slice Ab x.blocks.length cb)) (encV (y, .slice A2 y.blocks.length c2)) rfl rfl rfl (by intro u hu; simp [encV] at hu; rcases hu with rfl | rfl <;> rfl) HR5.out HB5.out HB5.out.size (by omega) ?_; intro v3 w6 hr3 hbq hg2 hat2))
        go_roundg (p.vols.length - (k + 1))
        case measure => omega
        case rel => exact ⟨k + 1, (L ++ [(x, Value.slice Ab x.blocks.length cb)]) ++ [(y, Value.slice A2 y.blocks.length c2)], by omega, int_eq (by omega), bool_eq hdec2.out.symm, HLN.out.symm, by rw [Hid, List.length_append, List.length_append, flat_one, flat_one]; exact hr3, hbq⟩
      · -- behind it
        have hdec : decide (pos < k) = true := by simp; omega
        have hdec2 := Lib.hid (show decide (pos < k + 1) = true by simp; omega)
        have HLN := Lib.hid (show addP pos (x, Value.slice Ab x.blocks.length cb) (p.vols.zip bvs) (k + 1) = L ++ [(y, .slice A2 y.blocks.length c2)] by rw [hL.out]; exact addP_high HZK.out hkp)
        rw [hdec]
        clear hdec
        go_wp2
        refine start_ (n := 13) (S := fun w' => w'.cell? ⟨w.heap.size, 1, none⟩ = some (.slice (some ⟨g, 0, none⟩) p.vols.length c1) ∧ w'.cell? ⟨g, k * 2, none⟩ = some (.string y.name) ∧ w'.cell? ⟨w.heap.size + 1, 0, none⟩ = some (.string x.name)) (ds := []) #[false, false, false, false, false, false, false, false, false, false, false, false, false] (by kernel_rfl) rfl rfl ⟨p1, p2, p4⟩ (fun hHeld => ?_)
        refine pure_ (i := 0) (N := some 16) (v := ?_) (a' := ?_) #[true, false, false, false, false, false, false, false, false, false, false, false, false] rfl rfl (by kernel_rfl) (fun _ _ _ h => h) (Or.inl ⟨by rfl, ?_⟩) ?_ ?_
        rotate_left
        · intro w'
          go_simp
          with_reducible rfl
        rotate_left
        · simp only [Act.put, List.setIfInBounds_toArray, List.set_cons_zero, List.set_cons_succ, i64_w, i32_w]
          rfl
        refine pure_ (i := 1) (N := some 17) (v := ?_) (a' := ?_) #[true, true, false, false, false, false, false, false, false, false, false, false, false] rfl rfl (by kernel_rfl) (fun _ _ _ h => h) (Or.inl ⟨by rfl, ?_⟩) ?_ ?_
        rotate_left
        · intro w'
          go_simp
          with_reducible rfl
        rotate_left
        · simp only [Act.put, List.setIfInBounds_toArray, List.set_cons_zero, List.set_cons_succ, i64_w, i32_w]
          rfl
        refine pure_ (i := 2) (N := some 18) (v := ?_) (a' := ?_) #[true, true, true, false, false, false, false, false, false, false, false, false, false] rfl rfl (by kernel_rfl) (fun _ _ _ h => h) (Or.inl ⟨by rfl, ?_⟩) ?_ ?_
        rotate_left
        · intro w'
          go_simp
          with_reducible rfl
        rotate_left
        · simp only [Act.put, List.setIfInBounds_toArray, List.set_cons_zero, List.set_cons_succ, i64_w, i32_w]
          rfl
        refine pure_ (i := 3) (N := some 19) (v := undef) (a' := ?_) #[true, true, true, true, false, false, false, false, false, false, false, false, false] rfl rfl (by kernel_rfl) (fun _ _ _ h => h) (Or.inr ⟨by rfl, rfl⟩) ?_ ?_
        rotate_left
        · simp only [Act.put, List.setIfInBounds_toArray, List.set_cons_zero, List.set_cons_succ, i64_w, i32_w]
          rfl
        refine pure_ (i := 4) (N := some 20) (v := undef) (a' := ?_) #[true, true, true, true, true, false, false, false, false, false, false, false, false] rfl rfl (by kernel_rfl) (fun _ _ _ h => h) (Or.inr ⟨by rfl, rfl⟩) ?_ ?_
        rotate_left
        · simp only [Act.put, List.setIfInBounds_toArray, List.set_cons_zero, List.set_cons_succ, i64_w, i32_w]
          rfl
        refine pure_ (i := 5) (N := some 21) (v := undef) (a' := ?_) #[true, true, true, true, true, true, false, false, false, false, false, false, false] rfl rfl (by kernel_rfl) (fun _ _ _ h => h) (Or.inr ⟨by rfl, rfl⟩) ?_ ?_
        rotate_left
        · simp only [Act.put, List.setIfInBounds_toArray, List.set_cons_zero, List.set_cons_succ, i64_w, i32_w]
          rfl
        refine pure_ (i := 6) (N := some 22) (v := undef) (a' := ?_) #[true, true, true, true, true, true, true, false, false, false, false, false, false] rfl rfl (by kernel_rfl) (fun _ _ _ h => h) (Or.inr ⟨by rfl, rfl⟩) ?_ ?_
        rotate_left
        · simp only [Act.put, List.setIfInBounds_toArray, List.set_cons_zero, List.set_cons_succ, i64_w, i32_w]
          rfl
        refine pure_ (i := 7) (N := some 23) (v := undef) (a' := ?_) #[true, true, true, true, true, true, true, true, false, false, false, false, false] rfl rfl (by kernel_rfl) (fun _ _ _ h => h) (Or.inr ⟨by rfl, rfl⟩) ?_ ?_
        rotate_left
        · simp only [Act.put, List.setIfInBounds_toArray, List.set_cons_zero, List.set_cons_succ, i64_w, i32_w]
          rfl
        refine pure_ (i := 8) (N := some 24) (v := undef) (a' := ?_) #[true, true, true, true, true, true, true, true, true, false, false, false, false] rfl rfl (by kernel_rfl) (fun _ _ _ h => h) (Or.inr ⟨by rfl, rfl⟩) ?_ ?_
        rotate_left
        · simp only [Act.put, List.setIfInBounds_toArray, List.set_cons_zero, List.set_cons_succ, i64_w, i32_w]
          rfl
        refine pure_ (i := 9) (N := some 25) (v := undef) (a' := ?_) #[true, true, true, true, true, true, true, true, true, true, false, false, false] rfl rfl (by kernel_rfl) (fun _ _ _ h => h) (Or.inr ⟨by rfl, rfl⟩) ?_ ?_
        rotate_left
        · simp only [Act.put, List.setIfInBounds_toArray, List.set_cons_zero, List.set_cons_succ, i64_w, i32_w]
          rfl
        refine pure_ (i := 10) (N := some 26) (v := undef) (a' := ?_) #[true, true, true, true, true, true, true, true, true, true, true, false, false] rfl rfl (by kernel_rfl) (fun _ _ _ h => h) (Or.inr ⟨by rfl, rfl⟩) ?_ ?_
        rotate_left
        · simp only [Act.put, List.setIfInBounds_toArray, List.set_cons_zero, List.set_cons_succ, i64_w, i32_w]
          rfl
        refine pure_ (i := 11) (N := some 27) (v := undef) (a' := ?_) #[true, true, true, true, true, true, true, true, true, true, true, true, false] rfl rfl (by kernel_rfl) (fun _ _ _ h => h) (Or.inr ⟨by rfl, rfl⟩) ?_ ?_
        rotate_left
        · simp only [Act.put, List.setIfInBounds_toArray, List.set_cons_zero, List.set_cons_succ, i64_w, i32_w]
          rfl
        refine pure_ (i := 12) (N := some 28) (v := ?_) (a' := ?_) #[true, true, true, true, true, true, true, true, true, true, true, true, true] rfl rfl (by kernel_rfl) (fun _ _ _ h => h) (Or.inl ⟨by rfl, ?_⟩) ?_ ?_
        rotate_left
        · intro w'
          go_simp
          with_reducible rfl
        rotate_left
        · simp only [Act.put, List.setIfInBounds_toArray, List.set_cons_zero, List.set_cons_succ, i64_w, i32_w]
          rfl
        refine done_ (by kernel_rfl) ?_
        clear hHeld p0 p1 p2 p3 p4 p5 p6 p7 p8
        have hrow2 : wr.drew.ownsRow W0.heap.size 43 2 (.slice A5 L.length c5) L.length (L.flatMap encV) := hrow.out
        have hb2 : Bel W0 wr.drew := HBW.out.drew
        clear hrow HBW
        generalize wr.drew = W2 at hrow2 hb2 ⊢
        have HR2 := Lib.hid hrow2
        have HB2 := Lib.hid hb2
        obtain ⟨⟨p0, p1⟩, ⟨p2, p3⟩, ⟨p4, p5⟩, p6, p7, p8⟩ := HF.out _ hb2
        clear hrow2 hb2
        go_wp2_with (at_builtin; refine print_append_cells (w0 := W0) W0.heap.size rfl (.tmp 33) (.tmp 39) 28 43 (.agg #[.string ⟨#[]⟩, .slice none 0 0]) 2 40 rfl Try.underlying28 info_vol rfl (by decide) (by decide) _ L.length (L.flatMap encV) (encV (y, .slice A2 y.blocks.length c2)) rfl rfl rfl (by intro u hu; simp [encV] at hu; rcases hu with rfl | rfl <;> rfl) HR2.out HB2.out HB2.out.size (by omega) ?_; intro v2 w5 hr2 hbq hg2 hat2)
        go_roundg (p.vols.length - (k + 1))
        case measure => omega
        case rel => exact ⟨k + 1, L ++ [(y, Value.slice A2 y.blocks.length c2)], by omega, int_eq (by omega), bool_eq hdec2.out.symm, HLN.out.symm, by rw [Hid, List.length_append, flat_one]; exact hr2, hbq⟩
    · have hkl : k = p.vols.length := by omega
      rcases Nat.lt_or_ge pos p.vols.length with hpp | hpp
      · have hdec : decide (pos < k) = true := by simp; omega
        have HLE := Lib.hid (show L = insAt pos (x, Value.slice Ab x.blocks.length cb) (p.vols.zip bvs) by rw [hL.out, hkl, ← HZL.out]; exact addP_all (by rw [HZL.out]; exact hpp))
        have HLL := Lib.hid (show L.length = p.vols.length + 1 by rw [HLE.out, insAt_len (by rw [HZL.out]; omega), HZL.out])
        have hrow2 : wr.ownsRow W0.heap.size 43 2 (.slice A5 L.length c5) (p.vols.length + 1) ((insAt pos (x, Value.slice Ab x.blocks.length cb) (p.vols.zip bvs)).flatMap encV) := by
          have h5 := hrow.out
          rw [HLE.out] at h5
          rw [insAt_len (by rw [HZL.out]; omega), HZL.out] at h5
          rw [HLL.out]
          exact h5
        have HFIN := Lib.hid (show OwnP wr base (.slice A0 p.slots.length c0) (.slice A5 L.length c5) ⟨p.slots, insAt (posOf x.name p.vols) x p.vols⟩ (insAt (posOf x.name p.vols) (.slice Ab x.blocks.length cb) bvs) by
          rw [HPOS.out]
          exact ⟨((HP.out.bel HW.out).bel HBW.out).s, ((HP.out.bel HW.out).bel HBW.out).v.added ((HX.out.bel HW.out).bel HBW.out) hpl HAP.out hrow2 (by have := HW.out.size; omega)⟩)
        have hB := HB.out.bel HBW.out
        have hR := HR.out.bel HBW.out
        have q0 := hB.cell 0
        have q1 := hB.cell 1
        have g0 := hB.free 0
        have g1 := hB.free 1
        have r0 := hR.cell 0
        have r1 := hR.cell 1
        have f0 := hR.free 0
        have f1 := hR.free 1
        simp at q0 q1 r0 r1
        have z1 := hR.lt
        have HBR := Lib.hid (And.intro hB hR)
        clear hB hR hrow hrow2 hkl hpp
        rw [hdec]
        clear hdec
        go_wp2
        have hB1 := HBR.out.1.set 1 (.slice A5 L.length c5) (cs' := #[.slice A0 p.slots.length c0, .slice A5 L.length c5]) rfl
        have hR1 := HBR.out.2.apart (show w.heap.size ≠ w.heap.size + 1 + 1 by omega) 1 (.slice A5 L.length c5)
        have hR2 := hR1.set 0 (.slice A0 p.slots.length c0) (cs' := #[.slice A0 p.slots.length c0, .slice none 0 0]) rfl
        have hR3 := hR2.set 1 (.slice A5 L.length c5) (cs' := #[.slice A0 p.slots.length c0, .slice A5 L.length c5]) rfl
        have hop := ((HFIN.out.far HBR.out.1 (by decide) (by decide) (by decide) 1 (.slice A5 L.length c5)).far hR1 (by decide) (by decide) (by decide) 0 (.slice A0 p.slots.length c0)).far hR2 (by decide) (by decide) (by decide) 1 (.slice A5 L.length c5)
        have hb5 := bel_set (bel_set (bel_set (HW.out.tr HBW.out) (Nat.le_refl _) 1 (.slice A5 L.length c5)) (show w.heap.size ≤ w.heap.size + 1 + 1 by omega) 0 (.slice A0 p.slots.length c0)) (show w.heap.size ≤ w.heap.size + 1 + 1 by omega) 1 (.slice A5 L.length c5)
        refine bodyPost_ret (results_cell_row rfl _ _ (w.heap.size + 1 + 1) 30 #[.slice A0 p.slots.length c0, .slice A5 L.length c5] (0, 0) _ rfl hR3 Try.underlying30 rfl (by kernel_rfl)) rfl ?_
        exact ⟨_, rfl, hop, hb5⟩
      · have hpe : pos = p.vols.length := by omega
        have hdec : decide (pos < k) = false := by simp; omega
        have HLE := Lib.hid (show L ++ [(x, Value.slice Ab x.blocks.length cb)] = insAt pos (x, Value.slice Ab x.blocks.length cb) (p.vols.zip bvs) by rw [hL.out, hkl, hpe, ← HZL.out]; exact addP_end)
        have HLL := Lib.hid (show L.length + 1 = p.vols.length + 1 by
          have := congrArg List.length HLE.out
          rwa [insAt_len (by rw [HZL.out]; omega), HZL.out, List.length_append] at this)
        have hB := HB.out.bel HBW.out
        have hV := HV.out.bel HBW.out
        have u0 := hV.cell 0
        have u1 := hV.cell 1
        simp at u0 u1
        have z0 := hV.lt
        have hq1 := hB.cell 1
        have hz0 := hB.lt
        simp at hq1
        have HRW := Lib.hid hrow.out
        clear hB hV hrow hkl hpp hpe
        rw [hdec]
        clear hdec
        go_wp2_with (at_builtin; refine print_append_cells (w0 := W0) W0.heap.size rfl (.tmp 43) (.tmp 45) 28 43 (.agg #[.string ⟨#[]⟩, .slice none 0 0]) 2 40 rfl Try.underlying28 info_vol rfl (by decide) (by decide) _ L.length (L.flatMap encV) (encV (x, .slice Ab x.blocks.length cb)) rfl rfl rfl (by intro u hu; simp [encV] at hu; rcases hu with rfl | rfl <;> rfl) HRW.out HBW.out HBW.out.size (by omega) ?_; intro v2 w5 hr2 hbq hg2 hat2; obtain ⟨A6, c6, rfl, hc6⟩ := own_cap hr2; clear hat2 hg2 u0 u1 z0 hq1 hz0; have HR5 := Lib.hid hr2; have HB5 := Lib.hid hbq; have q0 := (HB.out.bel hbq).cell 0; have q1 := (HB.out.bel hbq).cell 1; have g0 := (HB.out.bel hbq).free 0; have g1 := (HB.out.bel hbq).free 1; have r0 := (HR.out.bel hbq).cell 0; have r1 := (HR.out.bel hbq).cell 1; have f0 := (HR.out.bel hbq).free 0; have f1 := (HR.out.bel hbq).free 1; have z1 := (HR.out.bel hbq).lt; simp at q0 q1 r0 r1; clear hr2 hbq)
        have hrow2 : w5.ownsRow W0.heap.size 43 2 (.slice A6 (L.length + 1) c6) (p.vols.length + 1) ((insAt pos (x, Value.slice Ab x.blocks.length cb) (p.vols.zip bvs)).flatMap encV) := by
          have h5 := HR5.out
          rw [← HLE.out, flat_one]
          rw [HLL.out] at h5 ⊢
          exact h5
        have hfin : OwnP w5 base (.slice A0 p.slots.length c0) (.slice A6 (L.length + 1) c6) ⟨p.slots, insAt (posOf x.name p.vols) x p.vols⟩ (insAt (posOf x.name p.vols) (.slice Ab x.blocks.length cb) bvs) := by
          rw [HPOS.out]
          exact ⟨((HP.out.bel HW.out).bel HB5.out).s, ((HP.out.bel HW.out).bel HB5.out).v.added ((HX.out.bel HW.out).bel HB5.out) hpl HAP.out hrow2 (by have := HW.out.size; omega)⟩
        have hB0 := HB.out.bel HB5.out
        have hR0 := HR.out.bel HB5.out
        have hR1 := hR0.apart (show w.heap.size ≠ w.heap.size + 1 + 1 by omega) 1 (.slice A6 (L.length + 1) c6)
        have hR2 := hR1.set 0 (.slice A0 p.slots.length c0) (cs' := #[.slice A0 p.slots.length c0, .slice none 0 0]) rfl
        have hR3 := hR2.set 1 (.slice A6 (L.length + 1) c6) (cs' := #[.slice A0 p.slots.length c0, .slice A6 (L.length + 1) c6]) rfl
        have hop := ((hfin.far hB0 (by decide) (by decide) (by decide) 1 (.slice A6 (L.length + 1) c6)).far hR1 (by decide) (by decide) (by decide) 0 (.slice A0 p.slots.length c0)).far hR2 (by decide) (by decide) (by decide) 1 (.slice A6 (L.length + 1) c6)
        have hb5 := bel_set (bel_set (bel_set (HW.out.tr HB5.out) (Nat.le_refl _) 1 (.slice A6 (L.length + 1) c6)) (show w.heap.size ≤ w.heap.size + 1 + 1 by omega) 0 (.slice A0 p.slots.length c0)) (show w.heap.size ≤ w.heap.size + 1 + 1 by omega) 1 (.slice A6 (L.length + 1) c6)
        refine bodyPost_ret (results_cell_row rfl _ _ (w.heap.size + 1 + 1) 30 #[.slice A0 p.slots.length c0, .slice A6 (L.length + 1) c6] (0, 0) _ rfl hR3 Try.underlying30 rfl (by kernel_rfl)) rfl ?_
        exact ⟨_, rfl, hop, hb5⟩
end Go.Proofs.Ytpobgjkmjlmafaa

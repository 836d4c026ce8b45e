/- Copies of volumes and pools. -/
import Derived.Test.YtpobgjkmjlmafaaWm
import Derived.Test.YtpobgjkmjlmafaaWLast
namespace Go.Proofs.Ytpobgjkmjlmafaa
open Go.RowKit Go.Proofs.YtpobgjkmjlmafaaW.PrintWords Go.Proofs.YtpobgjkmjlmafaaW.PrintLast
set_option linter.unusedVariables false
set_option linter.unusedSimpArgs false

/-- What a maker of a volume leaves. -/
def MadeV1 (w : World) (v : Vol) (e : Ending) (w' : World) : Prop := ∃ b, e = .returned (.agg #[.string v.name, b]) ∧ OwnI w' w.heap.size b v.blocks ∧ Bel w w'
set_option maxRecDepth 10000 in
set_option maxHeartbeats 2000000 in
theorem l3Copy_c {w : World} {A : Option Addr} {c : Nat} {v : Vol} (hC : kInt.C w A v.blocks.length v.blocks) (hl : v.blocks.length ≤ 1048576) :
    Calls Try.prog 119 #[.agg #[.string v.name, .slice A v.blocks.length c]] w (MadeV1 w v) := by
  have H := Lib.hid hC
  clear hC
  go_enter Try.func119, Try.ntmps119
  go_wp2
  have hB : Blk ((w.alloc (.cells #[.string v.name, .slice A v.blocks.length c] 43)).alloc (.cells #[.string ⟨#[]⟩, .slice none 0 0] 43)) w.heap.size #[.string v.name, .slice A v.blocks.length c] 43 := (Blk.new _ _ _).alloc _
  have hR : Blk ((w.alloc (.cells #[.string v.name, .slice A v.blocks.length c] 43)).alloc (.cells #[.string ⟨#[]⟩, .slice none 0 0] 43)) (w.heap.size + 1) #[.string ⟨#[]⟩, .slice none 0 0] 43 := Blk.nw2 _ _ _ _
  have hW : Bel w ((w.alloc (.cells #[.string v.name, .slice A v.blocks.length c] 43)).alloc (.cells #[.string ⟨#[]⟩, .slice none 0 0] 43)) := bel_alloc (bel_alloc (Below.refl _ _) _) _
  generalize ((w.alloc (.cells #[.string v.name, .slice A v.blocks.length c] 43)).alloc (.cells #[.string ⟨#[]⟩, .slice none 0 0] 43)) = W at hB hR hW ⊢
  have q0 := hB.cell 0
  have q1 := hB.cell 1
  simp at q0 q1
  have HB := Lib.hid hB
  have HR := Lib.hid hR
  have HC := Lib.hid (Kd.C_below H.out hW)
  clear hB hR
  refine start_ (n := 8) (S := fun w' => w'.cell? ⟨w.heap.size, 0, none⟩ = some (.string v.name) ∧ w'.cell? ⟨w.heap.size, 1, none⟩ = some (.slice A v.blocks.length c)) (ds := [7]) #[false, false, false, false, false, false, false, false] (by kernel_rfl) rfl rfl ⟨q0, q1⟩ (fun hHeld => ?_)
  refine pure_ (i := 0) (N := some 3) (v := ?_) (a' := ?_) #[true, false, false, false, false, false, false, false] rfl rfl (by kernel_rfl) (fun _ _ _ h => h) (Or.inl ⟨by rfl, ?_⟩) ?_ ?_
  rotate_left
  · intro w'
    go_simp
    with_reducible rfl
  rotate_left
  · simp only [Act.put, List.setIfInBounds_toArray, List.set_cons_zero, List.set_cons_succ, i64_w, i32_w]
    rfl
  refine pure_ (i := 3) (N := some 6) (v := ?_) (a' := ?_) #[true, false, false, true, false, false, false, false] rfl rfl (by kernel_rfl) (fun _ _ _ h => h) (Or.inl ⟨by rfl, ?_⟩) ?_ ?_
  rotate_left
  · intro w'
    go_simp
    with_reducible rfl
  rotate_left
  · simp only [Act.put, List.setIfInBounds_toArray, List.set_cons_zero, List.set_cons_succ, i64_w, i32_w]
    rfl
  refine take_ (i := 1) (N := some 4) (v := ?_) (a' := ?_) #[true, true, false, true, false, false, false, false] rfl rfl (by kernel_rfl) (fun _ _ _ h => h) (Or.inl ⟨by rfl, ?_⟩) hHeld ?_ ?_
  rotate_left
  · rintro w' ⟨s0, s1⟩
    go_simp
    with_reducible rfl
  rotate_left
  · simp only [Act.put, List.setIfInBounds_toArray, List.set_cons_zero, List.set_cons_succ, i64_w, i32_w]
    rfl
  refine take_ (i := 4) (N := some 7) (v := ?_) (a' := ?_) #[true, true, false, true, true, false, false, false] rfl rfl (by kernel_rfl) (fun _ _ _ h => h) (Or.inl ⟨by rfl, ?_⟩) hHeld ?_ ?_
  rotate_left
  · rintro w' ⟨s0, s1⟩
    go_simp
    with_reducible rfl
  rotate_left
  · simp only [Act.put, List.setIfInBounds_toArray, List.set_cons_zero, List.set_cons_succ, i64_w, i32_w]
    rfl
  refine one_ (i := 2) (N := some 5) #[true, true, true, true, true, false, false, false] rfl rfl (by kernel_rfl) (by decide) (fun K hK => ?_)
  refine value_ (w1 := ?_) (v := ?_) (by rfl) rfl ?_ ?_
  rotate_left 2
  · go_simp
    constructor
    · rfl
    · rfl
  have hB1 := HB.out.alloc (.cells #[] 3)
  have hR1 := HR.out.alloc (.cells #[] 3)
  have u0 := hB1.cell 0
  have u1 := hB1.cell 1
  simp at u0 u1
  refine hK.out _ _ ⟨u0, u1⟩ (fun hHeld => ?_)
  clear hK K
  refine norm_ (a' := ?_) ?_ ?_
  rotate_left
  · show Act.put _ (some 5) _ = _
    simp only [Act.put, List.setIfInBounds_toArray, List.set_cons_zero, List.set_cons_succ, i64_w, i32_w]
    rfl
  refine one_ (i := 5) (N := some 8) #[true, true, true, true, true, true, false, false] rfl rfl (by kernel_rfl) (by decide) (fun K hK => ?_)
  refine Kd.R_append_rows_step kInt (w0 := W.drew) W.drew.heap.size (by rfl) (.tmp 5) (.tmp 7) 41 3 (.int .i64 0) 8 rfl Try.underlying41 info_int rfl (by decide) (by decide) _ [] v.blocks _ _ _ (fun _ => True) (fun _ => False) rfl rfl (R_emptyI W.drew W.drew.heap.size (Nat.le_refl _)) (Kd.C_alloc (Kd.C_drew HC.out) _) (fun _ _ h => h) (fun _ h => h.elim) (fun _ _ => trivial) ?a2 ?a3 ?a4 ?_
  case a2 => exact bel_alloc (Below.refl _ _) _
  case a3 => simp
  case a4 => simp; omega
  intro v1 w1 ho hb hg hat
  clear hg hat
  have ho2 : OwnI w1 W.drew.heap.size v1 v.blocks := ownI_of_R ho
  obtain ⟨A1, c1, rfl, hc1, hC1⟩ := ho2.reads
  have hB2 : Blk w1 w.heap.size #[.string v.name, .slice A v.blocks.length c] 43 := Blk.bel (w := W.drew) HB.out hb
  have hR2 : Blk w1 (w.heap.size + 1) #[.string ⟨#[]⟩, .slice none 0 0] 43 := Blk.bel (w := W.drew) HR.out hb
  have r0 := hR2.cell 0
  have r1 := hR2.cell 1
  have f0 := hR2.free 0
  have f1 := hR2.free 1
  simp at r0 r1
  refine hK.out _ _ ⟨hB2.cell 0, hB2.cell 1⟩ (fun hHeld => ?_)
  clear hK K
  refine norm_ (a' := ?_) ?_ ?_
  rotate_left
  · show Act.put _ (some 8) _ = _
    simp only [Act.put, List.setIfInBounds_toArray, List.set_cons_zero, List.set_cons_succ, i64_w, i32_w]
    rfl
  refine pure_ (i := 6) (N := some 9) (v := ?_) (a' := ?_) #[true, true, true, true, true, true, true, false] rfl rfl (by kernel_rfl) (fun _ _ _ h => h) (Or.inl ⟨by rfl, ?_⟩) ?_ ?_
  rotate_left
  · intro w'
    go_simp
    with_reducible rfl
  rotate_left
  · simp only [Act.put, List.setIfInBounds_toArray, List.set_cons_zero, List.set_cons_succ, i64_w, i32_w]
    rfl
  refine last_ (i := 7) (N := none) #[true, true, true, true, true, true, true, true] rfl rfl (by kernel_rfl) (by decide) (fun K hK => ?_)
  refine skip_ (w1 := ?_) (by rfl) rfl ?_ ?_
  rotate_left
  · go_simp
    rfl
  refine hK.out _ _ ?_
  clear hK K
  refine done_ (by kernel_rfl) ?_
  have hR3 := hR2.set 0 (.string v.name) (cs' := #[.string v.name, .slice none 0 0]) rfl
  have hR4 := hR3.set 1 (.slice A1 v.blocks.length c1) (cs' := #[.string v.name, .slice A1 v.blocks.length c1]) rfl
  have hl2 : w.heap.size + 2 ≤ W.heap.size := HR.out.lt
  have hos : OwnI w1 (w.heap.size + 2) (.slice A1 v.blocks.length c1) v.blocks := own_lower ho2 hl2
  have hos4 := (hos.far hR2 (by decide) 0 (.string v.name)).far hR3 (by decide) 1 (.slice A1 v.blocks.length c1)
  have hb4 := bel_set (bel_set (Bel.tr (b := W.drew) hW.drew hb) (Nat.le_succ _) 0 (.string v.name)) (Nat.le_succ _) 1 (.slice A1 v.blocks.length c1)
  go_wp2
  refine bodyPost_ret (results_cell_row rfl _ _ (w.heap.size + 1) 43 #[.string v.name, .slice A1 v.blocks.length c1] (0, 0) _ rfl hR4 Try.underlying43 rfl (by kernel_rfl)) rfl ?_
  exact ⟨_, rfl, own_lower hos4 (by omega), hb4⟩
theorem own_block_lt {w : World} {base : Nat} {e : TypeId} {sz n k : Nat} {v : Value} {xs : List Value} (h : w.ownsRow base e sz v n xs) (hk : v.ownBlock = some k) : k < w.heap.size := by
  obtain ⟨cs, hc⟩ := own_type h hk
  exact (Array.getElem?_eq_some_iff.1 hc).1
theorem own_block_ge {w : World} {base : Nat} {e : TypeId} {sz n k : Nat} {v : Value} {xs : List Value} (h : w.ownsRow base e sz v n xs) (hk : v.ownBlock = some k) : base ≤ k := own_base h k hk
/-- One volume more, behind the last. -/
theorem OwnV.push {W w1 : World} {base : Nat} {v v1 : Value} {vs : List Vol} {bvs : List Value} {x : Vol} {b : Value} (h : OwnV W base v vs bvs) (hb : OwnI W base b x.blocks)
    (hap : ∀ (m : Nat) (b' : Value) (k : Nat), bvs[m]? = some b' → b'.ownBlock = some k → b.ownBlock ≠ some k) (hg : W.grownBy w1 v.ownBlock)
    (hr : w1.ownsRow base 43 2 v1 (vs.length + 1) ((vs.zip bvs).flatMap encV ++ encV (x, b))) : OwnV w1 base v1 (vs ++ [x]) (bvs ++ [b]) := by
  refine ⟨⟨by simp [h.row.len], ?_⟩, ?_, ?_⟩
  · rw [List.zip_append h.row.len.symm, List.flatMap_append, List.length_append]
    simpa using hr
  · intro m y c hy hc
    rcases Nat.lt_trichotomy m vs.length with hm | hm | hm
    · rw [List.getElem?_append_left hm] at hy
      rw [List.getElem?_append_left (by rw [h.row.len]; exact hm)] at hc
      exact own_other_type (h.inner m y c hy hc) h.row.row (by decide) hg
    · subst hm
      rw [List.getElem?_append_right (Nat.le_refl _), Nat.sub_self] at hy
      rw [List.getElem?_append_right (Nat.le_of_eq h.row.len), h.row.len, Nat.sub_self] at hc
      obtain rfl := Option.some.inj hy
      obtain rfl := Option.some.inj hc
      exact own_other_type hb h.row.row (by decide) hg
    · rw [List.getElem?_eq_none (by simp; omega)] at hy
      cases hy
  · have hl := h.row.len
    have key : ∀ (i j : Nat) (c c' : Value) (k : Nat), i < j → (bvs ++ [b])[i]? = some c → (bvs ++ [b])[j]? = some c' → c.ownBlock = some k → c'.ownBlock ≠ some k := by
      intro i j c c' k hij hc hc' hk
      have hj := ltQ hc'
      rw [List.length_append, List.length_singleton] at hj
      rw [List.getElem?_append_left (by omega)] at hc
      by_cases hj' : j < bvs.length
      · rw [List.getElem?_append_left hj'] at hc'
        exact h.apart i j c c' k (by omega) hc hc' hk
      · rw [List.getElem?_append_right (by omega), show j - bvs.length = 0 by omega] at hc'
        obtain rfl := Option.some.inj hc'
        exact hap i c k hc hk
    intro i j c c' k hne hc hc' hk hk'
    rcases Nat.lt_or_gt_of_ne hne with h1 | h1
    · exact key i j c c' k h1 hc hc' hk hk'
    · exact key j i c' c k h1 hc' hc hk' hk
theorem OwnV.inner_lt {w : World} {base : Nat} {v : Value} {vs : List Vol} {bvs : List Value} (h : OwnV w base v vs bvs) {m : Nat} {b : Value} {k : Nat} (hb : bvs[m]? = some b) (hk : b.ownBlock = some k) : k < w.heap.size := by
  obtain ⟨x, hx⟩ := getQ (show m < vs.length by rw [← h.row.len]; exact ltQ hb)
  exact own_block_lt (h.inner m x b hx hb) hk

set_option maxHeartbeats 2000000 in
theorem l11Copy_c {w : World} {A0 A1 : Option Addr} {c0 c1 : Nat} {p : Pool} (h : PoolIn w A0 A1 c0 c1 p) (hs : SmallP p) :
    Calls Try.prog 64 #[.agg #[.slice A0 p.slots.length c0, .slice A1 p.vols.length c1]] w (MadeP w p) := by
  have HS := Lib.hid hs
  have HP := Lib.hid h
  have hlv : p.vols.length ≤ 1048576 := hs.vols.len
  have hls : p.slots.length ≤ 1048576 := hs.slots.len
  clear h hs
  go_enter Try.func64, Try.ntmps64
  go_wp2
  have hB : Blk ((w.alloc (.cells #[.slice A0 p.slots.length c0, .slice A1 p.vols.length c1] 30)).alloc (.cells #[.slice none 0 0, .slice none 0 0] 30)) w.heap.size #[.slice A0 p.slots.length c0, .slice A1 p.vols.length c1] 30 := (Blk.new _ _ _).alloc _
  have hR : Blk ((w.alloc (.cells #[.slice A0 p.slots.length c0, .slice A1 p.vols.length c1] 30)).alloc (.cells #[.slice none 0 0, .slice none 0 0] 30)) (w.heap.size + 1) #[.slice none 0 0, .slice none 0 0] 30 := Blk.nw2 _ _ _ _
  have hW : Bel w ((w.alloc (.cells #[.slice A0 p.slots.length c0, .slice A1 p.vols.length c1] 30)).alloc (.cells #[.slice none 0 0, .slice none 0 0] 30)) := bel_alloc (bel_alloc (Below.refl _ _) _) _
  have hz : w.heap.size + 1 + 1 = ((w.alloc (.cells #[.slice A0 p.slots.length c0, .slice A1 p.vols.length c1] 30)).alloc (.cells #[.slice none 0 0, .slice none 0 0] 30)).heap.size := by simp
  have hl2 : w.heap.size + 2 ≤ ((w.alloc (.cells #[.slice A0 p.slots.length c0, .slice A1 p.vols.length c1] 30)).alloc (.cells #[.slice none 0 0, .slice none 0 0] 30)).heap.size := by simp
  generalize ((w.alloc (.cells #[.slice A0 p.slots.length c0, .slice A1 p.vols.length c1] 30)).alloc (.cells #[.slice none 0 0, .slice none 0 0] 30)) = W0 at hB hR hW hl2 hz ⊢
  rw [show w.heap.size + 1 + 1 = W0.heap.size from hz]
  have HB := Lib.hid hB
  have HR := Lib.hid hR
  have HP0 := Lib.hid (HP.out.bel hW)
  have HE := Lib.hid (OwnV.empty W0 W0.heap.size (Nat.le_refl _))
  clear hB hR hz
  go_loopg [3, 4] p.vols.length (fun g v3 v4 W => ∃ k : Nat, g + k = p.vols.length ∧ v4 = .int .i64 k ∧ (∃ bvs, OwnV W W0.heap.size v3 (p.vols.take k) bvs) ∧ Bel W0 W)
  case atStart => exact ⟨0, rfl, rfl, ⟨[], HE.out⟩, bel_alloc (Below.refl _ _) _⟩
  case round =>
    obtain ⟨k, hk, rfl, ⟨bvs, hv⟩, hb⟩ := hrel
    have q0 := (HB.out.bel hb).cell 0
    have q1 := (HB.out.bel hb).cell 1
    have r0 := (HR.out.bel hb).cell 0
    have r1 := (HR.out.bel hb).cell 1
    have f0 := (HR.out.bel hb).free 0
    have f1 := (HR.out.bel hb).free 1
    simp at q0 q1 r0 r1
    have HV := Lib.hid hv
    clear hv
    by_cases hlt : k < p.vols.length
    · obtain ⟨x, hx⟩ := getQ hlt
      obtain ⟨ad, A2, n2, rfl, hc, hc', hn, hC⟩ := at_vol (HP0.out.bel hb).v hx
      have hx1 : x.blocks.length ≤ 1048576 := HS.out.vols.blocks x (List.mem_of_getElem? hx)
      have HT := Lib.hid (take_snoc hx)
      have hlk : (p.vols.take k).length = k := by rw [List.length_take]; omega
      have HL := Lib.hid hlk
      clear hx hlk
      go_wp2_with (first
        | (go_at_call 119; refine (l3Copy_c hC hx1).mono ?_; rintro e w1 ⟨b, rfl, ho, hb1⟩; obtain ⟨A3, c3, rfl, hc3, hC3⟩ := ho.reads; have HO := Lib.hid ho; clear ho)
        | (at_builtin; refine print_append_cells (w0 := W0) W0.heap.size rfl (.tmp 13) (.tmp 20) 28 43 (.agg #[.string ⟨#[]⟩, .slice none 0 0]) 2 40 rfl Try.underlying28 info_vol rfl (by decide) (by decide) _ (p.vols.take k).length (((p.vols.take k).zip bvs).flatMap encV) (encV (x, .slice A3 x.blocks.length c3)) rfl rfl rfl (by intro u hu; simp [encV] at hu; rcases hu with rfl | rfl <;> rfl) (HV.out.bel hb1).row.row (hb.tr hb1) (hb.tr hb1).size (by rw [HL.out]; omega) ?_; intro v2 w2 hr2 hb2 hg2 hat2; clear hat2))
      go_roundg (p.vols.length - (k + 1))
      case rel =>
        refine ⟨k + 1, by omega, int_eq (by omega), ⟨bvs ++ [.slice A3 x.blocks.length c3], ?_⟩, hb2⟩
        rw [HT.out]
        refine OwnV.push (HV.out.bel hb1) (own_lower HO.out hb.size) (fun m b' j hm hj hj2 => ?_) hg2 hr2
        have h1 := HV.out.inner_lt hm hj
        have h2 := own_block_ge HO.out hj2
        omega
      case measure => omega
    · have hkl : k = p.vols.length := by omega
      have HT := Lib.hid (show p.vols.take k = p.vols by rw [hkl, List.take_length])
      have hs0 := (HP0.out.bel hb).s
      have hrv := HV.out.reads
      rw [HT.out] at hrv
      obtain ⟨A5, c5, rfl, hc5, hC5⟩ := hrv
      go_wp2_with fail
      refine (l2Copy_c hs0 hls).mono ?_
      rintro e w1 ⟨v0, rfl, ho, hb1⟩
      have hb2 := hb.tr hb1
      have hR2 := HR.out.bel hb2
      obtain ⟨A6, c6, rfl, hc6, hC6⟩ := ho.reads
      have hv2 := HV.out.bel hb1
      rw [HT.out] at hv2
      have HV2 := Lib.hid hv2
      have HO := Lib.hid ho
      have r0 := hR2.cell 0
      have r1 := hR2.cell 1
      have f0 := hR2.free 0
      have f1 := hR2.free 1
      simp at r0 r1
      clear hv2 ho
      go_wp2
      have hR3 := hR2.set 0 (.slice A6 p.slots.length c6) (cs' := #[.slice A6 p.slots.length c6, .slice none 0 0]) rfl
      have hR4 := hR3.set 1 (.slice A5 p.vols.length c5) (cs' := #[.slice A6 p.slots.length c6, .slice A5 p.vols.length c5]) rfl
      have hop : OwnP w1 W0.heap.size (.slice A6 p.slots.length c6) (.slice A5 p.vols.length c5) p bvs := ⟨own_lower HO.out hb.size, HV2.out⟩
      have hop4 := (hop.far hR2 (by decide) (by decide) (by decide) 0 (.slice A6 p.slots.length c6)).far hR3 (by decide) (by decide) (by decide) 1 (.slice A5 p.vols.length c5)
      have hb4 := bel_set (bel_set (hW.tr hb2) (Nat.le_succ _) 0 (.slice A6 p.slots.length c6)) (Nat.le_succ _) 1 (.slice A5 p.vols.length c5)
      refine bodyPost_ret (results_cell_row rfl _ _ (w.heap.size + 1) 30 #[.slice A6 p.slots.length c6, .slice A5 p.vols.length c5] (0, 0) _ rfl hR4 Try.underlying30 rfl (by kernel_rfl)) rfl ?_
      exact ⟨_, _, _, rfl, hop4.lower (by omega), hb4⟩
end Go.Proofs.Ytpobgjkmjlmafaa

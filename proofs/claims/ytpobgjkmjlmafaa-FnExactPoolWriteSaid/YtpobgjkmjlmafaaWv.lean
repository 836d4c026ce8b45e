/- A volume done away with: what the program's closure does. -/
import Derived.Test.YtpobgjkmjlmafaaWu
import Derived.Test.YtpobgjkmjlmafaaPw
namespace Go.Proofs.Ytpobgjkmjlmafaa
open Go.RowKit Go.Proofs.YtpobgjkmjlmafaaW.PrintWords Go.Proofs.YtpobgjkmjlmafaaW.PrintLast
set_option linter.unusedVariables false
set_option linter.unusedSimpArgs false

theorem OwnV.erase {W w1 : World} {base i : Nat} {v v1 : Value} {vs : List Vol} {bvs : List Value} (h : OwnV W base v vs bvs) (hg : W.grownBy w1 v.ownBlock) (hr : VRow w1 base v1 (vs.eraseIdx i) (bvs.eraseIdx i)) : OwnV w1 base v1 (vs.eraseIdx i) (bvs.eraseIdx i) :=
  ⟨hr, fun m x b hx hb => own_other_type (h.inner _ x b (erase_get hx) (erase_get hb)) h.row.row (by decide) hg, fun a c b b' k hne hb hb' => h.apart _ _ b b' k (by split <;> split <;> omega) (erase_get hb) (erase_get hb')⟩
/-- The store behind k references less of a volume of a valid pool. -/
theorem drop_at {p : Pool} (hp : PoolP p) {i : Nat} {v : Vol} (hv : p.vols[i]? = some v) {k m : Nat} (hx : v.blocks[k]? = some ((m : Int) + 1)) : ∃ y, (dropAll p.slots (v.blocks.take k))[m]? = some y ∧ 1 ≤ y.uses ∧ y.uses ≤ 99 := by
  have hr := (volOk_parts (hp.v.v i v hv)).1
  have hr' : ∀ x ∈ v.blocks.take k, 0 ≤ x ∧ x ≤ 8 := fun x hx => hr x (List.mem_of_mem_take hx)
  have hcl : ∀ q : Int, cnt q (v.blocks.take k) ≤ cnt q v.blocks := fun q => by
    have : ∀ (xs : List Int) (k : Nat), cnt q (xs.take k) ≤ cnt q xs := by
      intro xs
      induction xs with
      | nil => intro k; simp
      | cons a xs ih => intro k; cases k with
        | zero => have := cnt_le q (a :: xs); simp [cnt] at this ⊢; exact this.1
        | succ k => have := ih k; simp only [List.take_succ_cons, cnt]; omega
    exact this _ _
  have hc : ∀ (j : Nat) (x : Slot), p.slots[j]? = some x → cnt (j + 1) (v.blocks.take k) ≤ x.uses := fun j x hx => by
    have h1 := hp.uses j x hx
    have h2 := uses_mem (p := (j : Int) + 1) hv
    have := hcl ((j : Int) + 1)
    omega
  obtain ⟨h1, h2⟩ := dropAll_get hp.s hr' hc
  have hm := hr _ (List.mem_of_getElem? hx)
  obtain ⟨x, hxs⟩ := getQ (show m < p.slots.length by rw [hp.s.len]; omega)
  obtain ⟨y, hy, hu, _⟩ := h2 m x hxs
  have h3 := uses_mem (p := (m : Int) + 1) hv
  have h4 := hp.uses m x hxs
  have h5 : cnt ((m : Int) + 1) (v.blocks.take (k + 1)) = cnt ((m : Int) + 1) (v.blocks.take k) + 1 := by rw [take_snoc hx, cnt_snoc, if_pos rfl]
  have h6 : cnt ((m : Int) + 1) (v.blocks.take (k + 1)) ≤ cnt ((m : Int) + 1) v.blocks := by
    have : ∀ (xs : List Int) (k : Nat), cnt ((m : Int) + 1) (xs.take k) ≤ cnt ((m : Int) + 1) xs := by
      intro xs
      induction xs with
      | nil => intro k; simp
      | cons a xs ih => intro k; cases k with
        | zero => have := cnt_le ((m : Int) + 1) (a :: xs); simp [cnt] at this ⊢; exact this.1
        | succ k => have := ih k; simp only [List.take_succ_cons, cnt]; omega
    exact this _ _
  exact ⟨y, hy, by omega, (h1.ok m y hy).2.2.1⟩

set_option maxHeartbeats 4000000 in
set_option maxRecDepth 10000 in
theorem goneClo_c {w : World} {A0 A1 : Option Addr} {c0 c1 bp bn : Nat} {p : Pool} {name : ByteArray} (h : PoolIn w A0 A1 c0 c1 p) (hs : SmallP p) (hB : Blk w bp #[.slice A0 p.slots.length c0, .slice A1 p.vols.length c1] 30) (hN : Blk w bn #[.string name] 9) (hok : poolOk p = true)
    (W : World) (b base : Nat) (hW : Bel w W) (hb1 : w.heap.size ≤ base) (hb2 : base ≤ W.heap.size) (hpv : PV W b base p) :
    Calls Try.prog 68 #[.pointer (some ⟨b, 0, none⟩), .pointer (some ⟨bp, 0, none⟩), .pointer (some ⟨bn, 0, none⟩)] W (Changes (goneF p name) b base W) := by
  have HS := Lib.hid hs
  have HP := Lib.hid h
  have HK := Lib.hid (poolOk_iff.1 hok)
  have HV := Lib.hid hpv
  have HW := Lib.hid hW
  have HB := Lib.hid hB
  have HN := Lib.hid hN
  have q0 := (HB.out.bel HW.out).cell 0
  have q1 := (HB.out.bel HW.out).cell 1
  have q2 := (HN.out.bel HW.out).cell 0
  simp at q0 q1 q2
  clear h hs hok hpv hW hB hN
  have hlv := HS.out.vols.len
  by_cases hn : volIdx p.vols name < 0
  · have HG := Lib.hid (show goneF p name = none by unfold goneF; rw [if_pos hn])
    go_enter Try.func68, Try.ntmps68
    go_wp2_with (go_at_call 69; refine (vol_c _ p.vols A1 c1 name _ (HP.out.bel HW.out).v hlv).mono ?_; rintro e w1 ⟨rfl, hb1⟩)
    go_ret
    rw [HG.out]
    exact ⟨rfl, ⟨p, HV.out.bel hb1, fun q' h => by cases h⟩, hb1.mono hb2⟩
  · obtain ⟨i, v, hi, hv, hvn⟩ := volIdx_yes hn
    have HG := Lib.hid (show goneF p name = some ⟨dropAll p.slots v.blocks, p.vols.eraseIdx i⟩ by unfold goneF; rw [if_neg hn, hi, Int.toNat_natCast]; unfold volAt; rw [Int.toNat_natCast, getD_of hv])
    have HI := Lib.hid hv
    have hil := ltQ hv
    clear hn hvn hv
    have hin : ¬ ((i : Int) < 0) := by omega
    go_enter Try.func68, Try.ntmps68
    go_wp2_with fail
    refine (vol_c _ p.vols A1 c1 name _ (HP.out.bel HW.out).v hlv).mono ?_
    rintro e w1 ⟨rfl, hb1⟩
    rw [hi]
    have hW1 := HW.out.tr hb1
    obtain ⟨ad, A2, n2, rfl, hc0, hc0', hn2, hC⟩ := at_vol HP.out.v HI.out
    have hc := (hW1.cell (World.block_lt_of_cell? w _ hc0)).trans hc0
    have hc' := (hW1.cell (World.block_lt_of_cell? w _ hc0')).trans hc0'
    clear hc0 hc0'
    have hx1 : v.blocks.length ≤ 1048576 := HS.out.vols.blocks v (List.mem_of_getElem? HI.out)
    have HW1 := Lib.hid hW1
    have HB1 := Lib.hid hb1
    have HC := Lib.hid hC
    clear q0 q1 q2 hW1 hb1 hC
    have q1 := (HB.out.bel HW1.out).cell 1
    simp at q1
    go_wp2
    obtain ⟨⟨v0, v1, bvs, hb, ho⟩, hlo⟩ := HV.out.bel HB1.out
    have HO := Lib.hid (And.intro hb ho)
    clear hb ho q1
    go_loopg [20] v.blocks.length (fun g v20 W' => ∃ k : Nat, g + k = v.blocks.length ∧ v20 = .int .i64 k ∧ Blk W' b #[v0, v1] 30 ∧ OwnS W' base v0 (dropAll p.slots (v.blocks.take k)) ∧ OwnV W' base v1 p.vols bvs ∧ Below base w1 W')
    case atStart => exact ⟨0, rfl, rfl, HO.out.1, HO.out.2.s, HO.out.2.v, Below.refl _ _⟩
    case round =>
      obtain ⟨k, hk, rfl, hb, hos, hov, hbel⟩ := hrel
      have hWw : Bel w wr := HW1.out.trans (hbel.mono hb1)
      by_cases hlt : k < v.blocks.length
      · obtain ⟨x, hx⟩ := getQ hlt
        have hxr := (volOk_parts (HK.out.v.v i v HI.out)).1 x (List.mem_of_getElem? hx)
        obtain ⟨ad2, rfl, hcx⟩ := at_int (Kd.C_below HC.out hWw) hx
        have r0 := hb.cell 0
        simp at r0
        have HR := Lib.hid (And.intro (And.intro hb hos) (And.intro hov (And.intro hbel hWw)))
        clear hb hov hbel hWw hc hc'
        by_cases h0 : 0 < x
        · obtain ⟨m, rfl⟩ : ∃ m : Nat, x = (m : Int) + 1 := ⟨(x - 1).toNat, by omega⟩
          obtain ⟨y, hy, hy1, hy2⟩ := drop_at HK.out HI.out hx
          have HT := Lib.hid (show dropAll p.slots (v.blocks.take (k + 1)) = dropS (dropAll p.slots (v.blocks.take k)) m by rw [take_snoc hx, dropAll_snoc, if_pos h0]; congr 1; omega)
          have hdl : (dropAll p.slots (v.blocks.take k)).length ≤ 1048576 := by rw [dropAll_len]; exact HS.out.slots.len
          have HY := Lib.hid hy
          have HD := Lib.hid hdl
          obtain ⟨A3, c3, rfl, hc3, hC3⟩ := hos.reads
          clear hx hy hdl hos hC3 hc3
          go_wp2_with (go_at_call 70; refine (drop_c HR.out.1.2 HY.out HD.out hy1 hy2).mono ?_; rintro e w2 ⟨rfl, ho2, hg2⟩)
          go_roundg (v.blocks.length - (k + 1))
          case rel =>
            obtain ⟨⟨hb, hos⟩, hov, hbel, hWw⟩ := HR.out
            refine ⟨k + 1, by omega, int_eq (by omega), hb.grown hg2 (own_blk_ne hos hb (by decide)), ?_, hov.otherS hos hg2, hbel.grown hg2 (by have := hb.lt; omega) (own_base hos)⟩
            rw [HT.out]
            exact ho2
          case measure => omega
        · have HT := Lib.hid (show dropAll p.slots (v.blocks.take (k + 1)) = dropAll p.slots (v.blocks.take k) by rw [take_snoc hx, dropAll_snoc, if_neg h0])
          clear hx hos
          go_wp2
          go_roundg (v.blocks.length - (k + 1))
          case rel =>
            obtain ⟨⟨hb, hos⟩, hov, hbel, hWw⟩ := HR.out
            exact ⟨k + 1, by omega, int_eq (by omega), hb, by rw [HT.out]; exact hos, hov, hbel⟩
          case measure => omega
      · have hkl : k = v.blocks.length := by omega
        rw [hkl, List.take_length] at hos
        obtain ⟨g, cap, rfl, hg1, hg2, hcap⟩ := own_form hov.row.row (by omega)
        have r1 := hb.cell 1
        have f1 := hb.free 1
        simp at r1
        have HR := Lib.hid (And.intro (And.intro hb hos) (And.intro hov (And.intro hbel hWw)))
        clear hos hov hb hbel hWw
        go_wp2_with fail
        refine (delete_c HR.out.2.1.row HR.out.2.1.one hil).mono ?_
        rintro e w2 ⟨rfl, hr2, hg2⟩
        have hb2' : Blk w2 b #[v0, .slice (some ⟨g, 0, none⟩) p.vols.length cap] 30 := HR.out.1.1.grown hg2 (own_blk_ne HR.out.2.1.row.row HR.out.1.1 (by decide))
        have hos2 : OwnS w2 base v0 (dropAll p.slots v.blocks) := own_other_type HR.out.1.2 HR.out.2.1.row.row (by decide) hg2
        have hov2 := HR.out.2.1.erase hg2 hr2
        have hbel2 : Below base w1 w2 := HR.out.2.2.1.grown hg2 (by have := HR.out.1.1.lt; omega) (fun k hk => by cases hk; exact hg1)
        have r1 := hb2'.cell 1
        have f1 := hb2'.free 1
        simp at r1
        have HQ := Lib.hid (And.intro (And.intro hb2' hos2) (And.intro hov2 hbel2))
        clear hb2' hos2 hov2 hbel2 hr2 hg2
        go_wp2
        go_ret
        rw [HG.out]
        have hb3 := HQ.out.1.1.set 1 (.slice (some ⟨g, 0, none⟩) (p.vols.length - 1) cap) (cs' := #[v0, .slice (some ⟨g, 0, none⟩) (p.vols.length - 1) cap]) rfl
        refine ⟨rfl, ⟨⟨dropAll p.slots v.blocks, p.vols.eraseIdx i⟩, ⟨⟨_, _, _, hb3, HQ.out.1.2.far HQ.out.1.1 (by decide) _ _, HQ.out.2.1.far HQ.out.1.1 (by decide) (by decide) _ _⟩, hlo⟩, fun q' h => by cases h; rfl⟩, ?_⟩
        exact ((HB1.out.mono hb2).trans HQ.out.2.2).setCell hlo _
end Go.Proofs.Ytpobgjkmjlmafaa

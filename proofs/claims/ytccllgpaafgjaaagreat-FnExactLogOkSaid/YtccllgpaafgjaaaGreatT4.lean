/- Contracts of the program's and the reference's functions, and the plain laws behind them: part 4 of 8. -/
import Derived.Test.YtccllgpaafgjaaaGreatT1
import Derived.Test.YtccllgpaafgjaaaGreatT2
import Derived.Test.YtccllgpaafgjaaaGreatT3
set_option linter.unusedVariables false
set_option linter.unusedSimpArgs false

namespace Go.Proofs.YtccllgpaafgjaaaGreat
open Go.RowKit Go.Proofs.YtccllgpaafgjaaaGreatW.PrintWords Go.Proofs.YtccllgpaafgjaaaGreatW.PrintLast
theorem PW.same0 {W : World} {b base : Nat} {v0 v1 : Value} {bvs : List Value} {S : List Slot} {vs : List Vol} {i bl : Nat} {v : Vol} {gb cb : Nat} {pl : Int} (h : PW W b base v0 v1 bvs S vs i bl v gb cb pl) :
    PW (W.setCell ⟨b, 0, none⟩ v0) b base v0 v1 bvs S vs i bl v gb cb pl :=
  ⟨h.blk.set 0 v0 rfl, h.s.far h.blk (by decide) 0 v0, h.vv.far h.blk (by decide) (by decide) 0 v0, h.hb⟩
theorem PW.far {W : World} {b base : Nat} {v0 v1 : Value} {bvs : List Value} {S : List Slot} {vs : List Vol} {i bl : Nat} {v : Vol} {gb cb : Nat} {pl : Int} (h : PW W b base v0 v1 bvs S vs i bl v gb cb pl) {b2 : Nat} {cs : Array Value} (hB : Blk W b2 cs 42) (hne : b2 ≠ b) (j : Nat) (u : Value) :
    PW (W.setCell ⟨b2, j, none⟩ u) b base v0 v1 bvs S vs i bl v gb cb pl :=
  ⟨h.blk.apart hne j u, h.s.far hB (by decide) j u, h.vv.far hB (by decide) (by decide) j u, h.hb⟩
theorem PW.mk1 {W : World} {b base : Nat} {v0 v1 : Value} {bvs : List Value} {p : Pool} {i bl : Nat} {v : Vol} {x : Int} {gb cb : Nat} (hB : Blk W b #[v0, v1] 42) (h : OwnP W base v0 v1 p bvs) (hv : p.vols[i]? = some v) (hx : v.blocks[bl]? = some x) (hb : bvs[i]? = some (.slice (some ⟨gb, 0, none⟩) v.blocks.length cb)) :
    PW W b base v0 v1 bvs p.slots p.vols i bl v gb cb x := by
  refine ⟨hB, h.s, ?_, hb⟩
  rw [set_same hx, show (⟨v.name, v.blocks⟩ : Vol) = v from rfl, set_same hv]
  exact h.v
theorem Blk.bel' {w w' : World} {b base : Nat} {cs : Array Value} {t : TypeId} (h : Blk w b cs t) (hb : Below base w w') (hlt : b < base) : Blk w' b cs t := (hb.block _ hlt).trans h
theorem OwnP.bel' {w w' : World} {base : Nat} {v0 v1 : Value} {p : Pool} {bvs : List Value} (h : OwnP w base v0 v1 p bvs) (hb : Bel w w') : OwnP w' base v0 v1 p bvs := h.bel hb
theorem hasBlk_none {vs : List Vol} {t : ByteArray} {b : Int} {i : Nat} {v : Vol} (hi : volIdx vs t = i) (hv : vs[i]? = some v) (h : inR b 0 ((v.blocks.length : Int) - 1) = false) : hasBlk vs t b < 0 := by
  rw [hasBlk_at hi hv, h]; simp
theorem hasBlk_some {vs : List Vol} {t : ByteArray} {b : Int} {i : Nat} {v : Vol} (hi : volIdx vs t = i) (hv : vs[i]? = some v) (h : inR b 0 ((v.blocks.length : Int) - 1) = true) : hasBlk vs t b = i := by
  rw [hasBlk_at hi hv, h]; simp
set_option maxHeartbeats 16000000 in
set_option maxRecDepth 10000 in
theorem l11Write_c {w : World} {base : Nat} {v0 v1 : Value} {bvs : List Value} {p : Pool} {name : ByteArray} {blk : Int} {text : ByteArray} (h : OwnP w base v0 v1 p bvs) (hs : SmallP p) (hp : PoolP p) (hbase : base ≤ w.heap.size) (hnm : text.size ≤ 1048576) :
    Calls Tryz.prog 178 #[.agg #[v0, v1], .string name, .int .i64 blk, .string text] w (TurnsP base p (writeF p name blk text) w) := by
  have HS := Lib.hid hs
  have HK := Lib.hid hp
  obtain ⟨A0, A1, c0, c1, rfl, rfl, hpi⟩ := h.reads
  have HP := Lib.hid h
  have HI := Lib.hid hpi
  have hlv := HS.out.vols.len
  have hnx : text.size ≤ maxLen := by unfold maxLen; omega
  have HNX := Lib.hid hnx
  clear h hs hp hpi hnx
  go_enter Tryz.func178, Tryz.ntmps178
  go_wp2_with fail
  have hB : Blk ((w.alloc (.cells #[.slice A0 p.slots.length c0, .slice A1 p.vols.length c1] 42)).alloc (.cells #[.slice none 0 0, .slice none 0 0] 42)) w.heap.size #[.slice A0 p.slots.length c0, .slice A1 p.vols.length c1] 42 := (Blk.new _ _ _).alloc _
  have hR : Blk ((w.alloc (.cells #[.slice A0 p.slots.length c0, .slice A1 p.vols.length c1] 42)).alloc (.cells #[.slice none 0 0, .slice none 0 0] 42)) (w.heap.size + 1) #[.slice none 0 0, .slice none 0 0] 42 := Blk.nw2 _ _ _ _
  have hW : Bel w ((w.alloc (.cells #[.slice A0 p.slots.length c0, .slice A1 p.vols.length c1] 42)).alloc (.cells #[.slice none 0 0, .slice none 0 0] 42)) := bel_alloc (bel_alloc (Below.refl _ _) _) _
  generalize ((w.alloc (.cells #[.slice A0 p.slots.length c0, .slice A1 p.vols.length c1] 42)).alloc (.cells #[.slice none 0 0, .slice none 0 0] 42)) = W0 at hB hR hW ⊢
  have hno : ∀ W : World, Bel W0 W → writeF p name blk text = none →
      Blk ((W.setCell ⟨w.heap.size + 1, 0, none⟩ (.slice A0 p.slots.length c0)).setCell ⟨w.heap.size + 1, 1, none⟩ (.slice A1 p.vols.length c1)) (w.heap.size + 1) #[.slice A0 p.slots.length c0, .slice A1 p.vols.length c1] 42 ∧
      TurnsP base p (writeF p name blk text) w (.returned (.tuple #[.agg #[.slice A0 p.slots.length c0, .slice A1 p.vols.length c1], .bool false])) ((W.setCell ⟨w.heap.size + 1, 0, none⟩ (.slice A0 p.slots.length c0)).setCell ⟨w.heap.size + 1, 1, none⟩ (.slice A1 p.vols.length c1)) := by
    intro W hb hn
    have hR2 := hR.bel hb
    have hR3 := hR2.set 0 (.slice A0 p.slots.length c0) (cs' := #[.slice A0 p.slots.length c0, .slice none 0 0]) rfl
    have hR4 := hR3.set 1 (.slice A1 p.vols.length c1) (cs' := #[.slice A0 p.slots.length c0, .slice A1 p.vols.length c1]) rfl
    have hb5 := bel_set (bel_set (hW.tr hb) (Nat.le_succ _) 0 (.slice A0 p.slots.length c0)) (Nat.le_succ _) 1 (.slice A1 p.vols.length c1)
    have hop4 := ((HP.out.bel (hW.tr hb)).far hR2 (by decide) (by decide) (by decide) 0 (.slice A0 p.slots.length c0)).far hR3 (by decide) (by decide) (by decide) 1 (.slice A1 p.vols.length c1)
    refine ⟨hR4, ?_⟩
    rw [hn]
    exact ⟨_, _, _, rfl, hop4, Fr.ofBel hb5 hbase⟩
  have HNO := Lib.hid hno
  have HB := Lib.hid hB
  have HR := Lib.hid hR
  have HW := Lib.hid hW
  clear hB hR hW hno
  refine (l11At_c _ p.vols A1 c1 name _ (HI.out.bel HW.out).v hlv).mono ?_
  rintro e w1 ⟨rfl, hb1⟩
  have HB1 := Lib.hid hb1
  clear hb1
  have q0 := (HB.out.bel HB1.out).cell 0
  have q1 := (HB.out.bel HB1.out).cell 1
  have r0 := (HR.out.bel HB1.out).cell 0
  have r1 := (HR.out.bel HB1.out).cell 1
  have f0 := (HR.out.bel HB1.out).free 0
  have f1 := (HR.out.bel HB1.out).free 1
  have z1 := (HR.out.bel HB1.out).lt
  simp at q0 q1 r0 r1
  by_cases hn : volIdx p.vols name < 0
  · have HG := Lib.hid (show writeF p name blk text = none from writeF_no (.inl (by rw [hasBlk_neg hn]; omega)))
    go_wp2
    have hend := HNO.out w1 HB1.out HG.out
    refine bodyPost_ret (results_ct rfl _ _ (w.heap.size + 1) 42 #[.slice A0 p.slots.length c0, .slice A1 p.vols.length c1] (0, 0) _ rfl hend.1 Tryz.underlying42 rfl (by kernel_rfl)) rfl ?_
    exact hend.2
  · obtain ⟨i, v, hi, hv, hvn⟩ := volIdx_yes hn
    have HV := Lib.hid hv
    have HII := Lib.hid hi
    have hil := ltQ hv
    have hx1 : v.blocks.length ≤ 1048576 := HS.out.vols.blocks v (List.mem_of_getElem? HV.out)
    rw [hi]
    clear hn hvn hv hi
    have hin : ¬ ((i : Int) < 0) := by omega
    obtain ⟨g, cap, bv, hbv, ev, hg1, hg2, hcap, hc, hc', hf, hf'⟩ := (HP.out.bel (HW.out.tr HB1.out)).v.row.at HV.out
    have ev := slice_eq ev
    obtain ⟨rfl, -, rfl⟩ := ev
    obtain ⟨A2, c2, rfl, hc2, hC2⟩ := ((HP.out.bel (HW.out.tr HB1.out)).v.inner i v bv HV.out hbv).reads
    clear hC2 hbv hc hf hf'
    cases hir : inR blk 0 ((v.blocks.length : Int) - 1) with
    | false =>
      have HG := Lib.hid (show writeF p name blk text = none from writeF_no (.inl (hasBlk_none HII.out HV.out hir)))
      go_wp2_with (go_at_call 89; refine (l6In_c blk 0 _ _).mono ?_; rintro e w' ⟨rfl, rfl⟩)
      have hend := HNO.out w1 HB1.out HG.out
      refine bodyPost_ret (results_ct rfl _ _ (w.heap.size + 1) 42 #[.slice A0 p.slots.length c0, .slice (some ⟨g, 0, none⟩) p.vols.length c1] (0, 0) _ rfl hend.1 Tryz.underlying42 rfl (by kernel_rfl)) rfl ?_
      exact hend.2
    | true =>
      have hhb := hasBlk_some HII.out HV.out hir
      cases ht : tOk text with
      | false =>
        have HG := Lib.hid (show writeF p name blk text = none from writeF_no (.inr ht))
        go_wp2_with (first | (go_at_call 89; refine (l6In_c blk 0 _ _).mono ?_; rintro e w' ⟨rfl, rfl⟩) | (go_at_call 128; refine (specTextOk_c text _ HNX.out).mono ?_; rintro e w' ⟨rfl, rfl⟩))
        have hend := HNO.out w1 HB1.out HG.out
        refine bodyPost_ret (results_ct rfl _ _ (w.heap.size + 1) 42 #[.slice A0 p.slots.length c0, .slice (some ⟨g, 0, none⟩) p.vols.length c1] (0, 0) _ rfl hend.1 Tryz.underlying42 rfl (by kernel_rfl)) rfl ?_
        exact hend.2
      | true =>
        have HTK := Lib.hid ht
        obtain ⟨i', v', x, hwr⟩ := hasBlk_wr (p := p) (name := name) (b := blk) (by rw [hhb]; omega)
        obtain rfl : i = i' := by have := hwr.idx; rw [HII.out] at this; omega
        obtain rfl := Option.some.inj (HV.out.symm.trans hwr.vol)
        have hb0 := hwr.b0
        obtain ⟨bl, rfl⟩ : ∃ bl : Nat, blk = bl := ⟨blk.toNat, by omega⟩
        have hbl : bl < v.blocks.length := by have := ltQ hwr.blk; rwa [Int.toNat_natCast] at this
        have hxb := HK.out.blk hwr.vol hwr.blk
        have HWR := Lib.hid hwr
        clear hhb hwr
        go_wp2_with (first | (go_at_call 89; refine (l6In_c (bl : Int) 0 _ _).mono ?_; rintro e w' ⟨rfl, rfl⟩) | (go_at_call 128; refine (specTextOk_c text _ HNX.out).mono ?_; rintro e w' ⟨rfl, rfl⟩))
        refine (l11Copy_c (HI.out.bel (HW.out.tr HB1.out)) HS.out).mono ?_
        rintro e w3 ⟨v2, v3, bvs2, rfl, ho3, hb3⟩
        obtain ⟨A4, A5, c4, c5, rfl, rfl, hpi3⟩ := ho3.reads
        clear q0 q1 r0 r1 f0 f1 z1 hc' ht hir hpi3 hb0
        have hbw13 : Bel w w3 := (HW.out.tr HB1.out).tr hb3
        obtain ⟨gv, cv, bv3, hbv3, ev3, hv1, hv2, hv3, -, hvc, -, hvf⟩ := ho3.v.row.at HV.out
        have ev3 := slice_eq ev3
        obtain ⟨rfl, -, rfl⟩ := ev3
        have hin3 := ho3.v.inner i v bv3 HV.out hbv3
        obtain ⟨gb, cb, rfl, hgb1, hgb2, hgb3⟩ := own_form hin3 (show 0 < v.blocks.length by omega)
        obtain ⟨gb', cb', eb, -, -, -, hgc, hgf⟩ := hin3.at (show v.blocks[bl]? = some x by have := HWR.out.blk; rwa [Int.toNat_natCast] at this)
        have eb := slice_eq eb
        obtain ⟨eb, -, rfl⟩ := eb
        obtain rfl : gb = gb' := by simpa using eb
        have hxw : Bel w3 (w3.alloc (.cells #[.slice A4 p.slots.length c4, .slice (some ⟨gv, 0, none⟩) p.vols.length c5] 42)) := bel_alloc (Below.refl _ _) _
        have HPW := Lib.hid (show PW (w3.alloc (.cells #[.slice A4 p.slots.length c4, .slice (some ⟨gv, 0, none⟩) p.vols.length c5] 42)) w3.heap.size w1.heap.size (.slice A4 p.slots.length c4) (.slice (some ⟨gv, 0, none⟩) p.vols.length c5) bvs2 p.slots p.vols i bl v gb cb x from PW.mk1 (Blk.new _ _ _) (ho3.bel hxw) HV.out (by have := HWR.out.blk; rwa [Int.toNat_natCast] at this) hbv3)
        have hlo3 : w.heap.size + 1 < w1.heap.size := (HR.out.bel HB1.out).lt
        have hsz3 : w1.heap.size ≤ w3.heap.size := hb3.size
        have HB3 := Lib.hid hb3
        have HXW := Lib.hid hxw
        have HBW3 := Lib.hid hbw13
        clear hin3 ho3 hbv3 eb hb3 hxw hbw13
        by_cases h0 : 0 < x
        · obtain ⟨m, rfl⟩ : ∃ m : Nat, x = (m : Int) + 1 := ⟨(x - 1).toNat, by omega⟩
          have HBK := Lib.hid (back_yes HWR.out)
          obtain ⟨y, hy, hy1, hy2⟩ := wr_slot HK.out HWR.out
          have HY := Lib.hid hy
          have hsl : p.slots.length ≤ 1048576 := HS.out.slots.len
          clear hy
          go_wp2_with fail
          have hbel0 : Below w1.heap.size w3 (w3.alloc (.cells #[.slice A4 p.slots.length c4, .slice (some ⟨gv, 0, none⟩) p.vols.length c5] 42)) := HXW.out.mono hsz3
          have hbelw0 : Bel w (w3.alloc (.cells #[.slice A4 p.slots.length c4, .slice (some ⟨gv, 0, none⟩) p.vols.length c5] 42)) := HBW3.out.tr HXW.out
          generalize w3.alloc (.cells #[.slice A4 p.slots.length c4, .slice (some ⟨gv, 0, none⟩) p.vols.length c5] 42) = Wx at HPW hbel0 hbelw0 ⊢
          refine (l2Drop_c HPW.out.s HY.out hsl hy1 hy2).mono ?_
          rintro e w5 ⟨rfl, ho5, hg5⟩
          have hp5 := HPW.out.slots ho5 hg5
          have hbel5 := hbel0.grown hg5 (by have := hbel0.size; omega) (own_base HPW.out.s)
          have hbelw5 : Bel w w5 := hbelw0.trans (Below.grown (Below.refl _ _) hg5 hbelw0.size (fun k hk => by have := own_base HPW.out.s k hk; omega))
          have hR5 := (HR.out.bel (HB1.out.tr HB3.out)).bel' hbel5 hlo3
          obtain ⟨s4, s5, s6, s7, s8⟩ := hp5.cell hil hbl
          obtain ⟨gw, cw, ew, s9, s10, s11⟩ := hp5.row hil
          have ew := slice_eq ew
          obtain ⟨ew, -, rfl⟩ := ew
          obtain rfl : gv = gw := by simpa using ew
          have b0 := hp5.blk.cell 0
          have b1 := hp5.blk.cell 1
          have bf0 := hp5.blk.free 0
          have bz := hp5.blk.lt
          have hr0 := hR5.cell 0
          have hr1 := hR5.cell 1
          have hf0 := hR5.free 0
          have hf1 := hR5.free 1
          have hz1 := hR5.lt
          simp only [List.getElem?_toArray, List.getElem?_cons_zero, List.getElem?_cons_succ] at b0 b1 hr0 hr1
          have HPUT := Lib.hid (hp5.same0.put hil hbl 0).1
          have HBEL7 := Lib.hid ((hbel5.setCell (p := ⟨w3.heap.size, 0, none⟩) hsz3 (.slice A4 p.slots.length c4)).setCell (p := ⟨gb, bl, none⟩) hgb1 (.int .i64 0))
          have HBELW := Lib.hid ((hbelw5.setCell (p := ⟨w3.heap.size, 0, none⟩) (by show w.heap.size ≤ w3.heap.size; omega) (.slice A4 p.slots.length c4)).setCell (p := ⟨gb, bl, none⟩) (by show w.heap.size ≤ gb; omega) (.int .i64 0))
          have hne1 : ¬ w3.heap.size = w.heap.size + 1 := by omega
          have hne2 : ¬ w.heap.size + 1 = w3.heap.size := by omega
          have hne3 : ¬ gb = w.heap.size + 1 := by omega
          have hne4 : ¬ w.heap.size + 1 = gb := by omega
          have hne5 : ¬ gb = w3.heap.size := by omega
          have hne6 : ¬ w3.heap.size = gb := by omega
          have hne7 : ¬ gv = w3.heap.size := by omega
          have hne8 : ¬ w3.heap.size = gv := by omega
          clear hp5 hbel5 hbelw5 hR5 ho5 hg5 hbel0 hbelw0 ew
          have HR7 := Lib.hid ((HR.out.bel (HB1.out.tr HB3.out)).bel' HBEL7.out hlo3)
          by_cases he : text = e0
          · have HG := Lib.hid (show writeF p name bl text = some ⟨(dropS p.slots m), p.vols.set i ⟨v.name, v.blocks.set bl 0⟩⟩ by rw [writeF_free HWR.out HTK.out he, HBK.out, Int.toNat_natCast])
            have hz := toList_nil.2 he
            clear he
            have r0 := HR7.out.cell 0
            have r1 := HR7.out.cell 1
            have f0 := HR7.out.free 0
            have f1 := HR7.out.free 1
            have z1 := HR7.out.lt
            have b0 := HPUT.out.blk.cell 0
            have b1 := HPUT.out.blk.cell 1
            simp only [List.getElem?_toArray, List.getElem?_cons_zero, List.getElem?_cons_succ] at r0 r1 b0 b1
            go_wp2
            have hR8 := HR7.out.set 0 (.slice A4 p.slots.length c4) (cs' := #[.slice A4 p.slots.length c4, .slice none 0 0]) rfl
            have hR9 := hR8.set 1 (.slice (some ⟨gv, 0, none⟩) p.vols.length c5) (cs' := #[.slice A4 p.slots.length c4, .slice (some ⟨gv, 0, none⟩) p.vols.length c5]) rfl
            have hop := ((HPUT.out.far HR7.out (by omega) 0 (.slice A4 p.slots.length c4)).far hR8 (by omega) 1 (.slice (some ⟨gv, 0, none⟩) p.vols.length c5)).pool
            have hbel8 := (HBELW.out.setCell (p := ⟨w.heap.size + 1, 0, none⟩) (Nat.le_succ _) (.slice A4 p.slots.length c4)).setCell (p := ⟨w.heap.size + 1, 1, none⟩) (Nat.le_succ _) (.slice (some ⟨gv, 0, none⟩) p.vols.length c5)
            refine bodyPost_ret (results_ct rfl _ _ (w.heap.size + 1) 42 #[.slice A4 p.slots.length c4, .slice (some ⟨gv, 0, none⟩) p.vols.length c5] (0, 0) _ rfl hR9 Tryz.underlying42 rfl (by kernel_rfl)) rfl ?_
            rw [HG.out]
            exact ⟨_, _, _, rfl, hop.lower (by omega), Fr.ofBel hbel8 hbase⟩
          · have hz : ¬ text.toList = [] := fun h => he (toList_nil.1 h)
            have hz2 : text.toList.isEmpty = false := by simpa using hz
            have HE := Lib.hid he
            clear he
            have b0 := HPUT.out.blk.cell 0
            simp only [List.getElem?_toArray, List.getElem?_cons_zero, List.getElem?_cons_succ] at b0
            go_wp2_with fail
            generalize (w5.setCell ⟨w3.heap.size, 0, none⟩ (.slice A4 p.slots.length c4)).setCell ⟨gb, bl, none⟩ (.int .i64 0) = W7 at HPUT HBEL7 HBELW HR7 b0 ⊢
            have hbu := back_uses HK.out HWR.out
            rw [HBK.out] at hbu
            have hbd := putAt_bd HK.out HWR.out HE.out
            rw [HBK.out] at hbd
            have hpc := putAt_cases (HWR.out.back HK.out).1 HE.out
            rw [HBK.out] at hpc
            have hl2 := l2Put_c HPUT.out.s hbu.1 hbu.2 text HTK.out
            rw [hpc.2] at hl2
            refine hl2.mono ?_
            rintro e w8 ⟨rfl, ho8, hg8⟩
            have HP8 := Lib.hid (HPUT.out.slots ho8 hg8)
            have HBELW8 := Lib.hid (HBELW.out.trans (Below.grown (Below.refl _ _) hg8 (by have := HR7.out.lt; omega) (fun k hk => by have := own_base HPUT.out.s k hk; omega)))
            have HBEL8 := Lib.hid (HBEL7.out.grown hg8 (by have := HBEL7.out.size; omega) (own_base HPUT.out.s))
            have HR8 := Lib.hid ((HR.out.bel (HB1.out.tr HB3.out)).bel' HBEL8.out hlo3)
            clear hl2 hpc ho8 hg8 hbu b0
            by_cases h99 : putAt (dropS p.slots m) text = 0
            · have HG := Lib.hid (show writeF p name bl text = none by rw [writeF_put HWR.out HTK.out HE.out, HBK.out, if_pos h99])
              have hB8 := (HB.out.bel (HB1.out.tr HB3.out)).bel' HBEL8.out (Nat.lt_of_succ_lt hlo3)
              have r0 := HR8.out.cell 0
              have r1 := HR8.out.cell 1
              have f0 := HR8.out.free 0
              have f1 := HR8.out.free 1
              have z1 := HR8.out.lt
              have b0 := hB8.cell 0
              have b1 := hB8.cell 1
              simp only [List.getElem?_toArray, List.getElem?_cons_zero, List.getElem?_cons_succ] at r0 r1 b0 b1
              have h99' : (putAt (dropS p.slots m) text != 0) = false := by rw [h99]; rfl
              rw [h99']
              have hop := (HP.out.bel' HBELW8.out)
              clear h99 hB8
              go_wp2
              have hR9 := HR8.out.set 0 (.slice A0 p.slots.length c0) (cs' := #[.slice A0 p.slots.length c0, .slice none 0 0]) rfl
              have hR10 := hR9.set 1 (.slice (some ⟨g, 0, none⟩) p.vols.length c1) (cs' := #[.slice A0 p.slots.length c0, .slice (some ⟨g, 0, none⟩) p.vols.length c1]) rfl
              have hop2 := (hop.far HR8.out (by decide) (by decide) (by decide) 0 (.slice A0 p.slots.length c0)).far hR9 (by decide) (by decide) (by decide) 1 (.slice (some ⟨g, 0, none⟩) p.vols.length c1)
              have hbel9 := (HBELW8.out.setCell (p := ⟨w.heap.size + 1, 0, none⟩) (Nat.le_succ _) (.slice A0 p.slots.length c0)).setCell (p := ⟨w.heap.size + 1, 1, none⟩) (Nat.le_succ _) (.slice (some ⟨g, 0, none⟩) p.vols.length c1)
              refine bodyPost_ret (results_ct rfl _ _ (w.heap.size + 1) 42 #[.slice A0 p.slots.length c0, .slice (some ⟨g, 0, none⟩) p.vols.length c1] (0, 0) _ rfl hR10 Tryz.underlying42 rfl (by kernel_rfl)) rfl ?_
              rw [HG.out]
              exact ⟨_, _, _, rfl, hop2, Fr.ofBel hbel9 hbase⟩
            · have HG := Lib.hid (show writeF p name bl text = some ⟨putS (dropS p.slots m) text, p.vols.set i ⟨v.name, v.blocks.set bl (putAt (dropS p.slots m) text)⟩⟩ by rw [writeF_put HWR.out HTK.out HE.out, HBK.out, if_neg h99, Int.toNat_natCast])
              have h99' : (putAt (dropS p.slots m) text != 0) = true := by simpa using h99
              rw [h99']
              obtain ⟨s4, s5, s6, s7, s8⟩ := HP8.out.cell hil hbl
              obtain ⟨gw, cw, ew, s9, s10, s11⟩ := HP8.out.row hil
              have ew := slice_eq ew
              obtain ⟨ew, -, rfl⟩ := ew
              obtain rfl : gv = gw := by simpa using ew
              have r0 := HR8.out.cell 0
              have r1 := HR8.out.cell 1
              have f0 := HR8.out.free 0
              have f1 := HR8.out.free 1
              have z1 := HR8.out.lt
              have b0 := HP8.out.blk.cell 0
              have b1 := HP8.out.blk.cell 1
              have bf0 := HP8.out.blk.free 0
              have bz := HP8.out.blk.lt
              simp only [List.getElem?_toArray, List.getElem?_cons_zero, List.getElem?_cons_succ] at r0 r1 b0 b1
              have HP9 := Lib.hid (HP8.out.same0.put hil hbl (putAt (dropS p.slots m) text)).1
              have HBELW9 := Lib.hid ((HBELW8.out.setCell (p := ⟨w3.heap.size, 0, none⟩) (by show w.heap.size ≤ w3.heap.size; omega) (.slice A4 p.slots.length c4)).setCell (p := ⟨gb, bl, none⟩) (by show w.heap.size ≤ gb; omega) (.int .i64 (putAt (dropS p.slots m) text)))
              have HR9 := Lib.hid ((HR8.out.apart (show w3.heap.size ≠ w.heap.size + 1 by omega) 0 (.slice A4 p.slots.length c4)).apart (show gb ≠ w.heap.size + 1 by omega) bl (.int .i64 (putAt (dropS p.slots m) text)))
              have hne1 : ¬ w3.heap.size = w.heap.size + 1 := by omega
              have hne2 : ¬ w.heap.size + 1 = w3.heap.size := by omega
              have hne3 : ¬ gb = w.heap.size + 1 := by omega
              have hne4 : ¬ w.heap.size + 1 = gb := by omega
              have hne5 : ¬ gb = w3.heap.size := by omega
              have hne6 : ¬ w3.heap.size = gb := by omega
              have hne7 : ¬ gv = w3.heap.size := by omega
              have hne8 : ¬ w3.heap.size = gv := by omega
              clear h99 ew
              go_wp2
              have hR10 := HR9.out.set 0 (.slice A4 p.slots.length c4) (cs' := #[.slice A4 p.slots.length c4, .slice none 0 0]) rfl
              have hR11 := hR10.set 1 (.slice (some ⟨gv, 0, none⟩) p.vols.length c5) (cs' := #[.slice A4 p.slots.length c4, .slice (some ⟨gv, 0, none⟩) p.vols.length c5]) rfl
              have hop := ((HP9.out.far HR9.out (by omega) 0 (.slice A4 p.slots.length c4)).far hR10 (by omega) 1 (.slice (some ⟨gv, 0, none⟩) p.vols.length c5)).pool
              have hbel9 := (HBELW9.out.setCell (p := ⟨w.heap.size + 1, 0, none⟩) (Nat.le_succ _) (.slice A4 p.slots.length c4)).setCell (p := ⟨w.heap.size + 1, 1, none⟩) (Nat.le_succ _) (.slice (some ⟨gv, 0, none⟩) p.vols.length c5)
              refine bodyPost_ret (results_ct rfl _ _ (w.heap.size + 1) 42 #[.slice A4 p.slots.length c4, .slice (some ⟨gv, 0, none⟩) p.vols.length c5] (0, 0) _ rfl hR11 Tryz.underlying42 rfl (by kernel_rfl)) rfl ?_
              rw [HG.out]
              exact ⟨_, _, _, rfl, hop.lower (by omega), Fr.ofBel hbel9 hbase⟩
        · have HBK := Lib.hid (back_no HWR.out h0)
          have hcm : (w3.alloc (.cells #[.slice A4 p.slots.length c4, .slice (some ⟨gv, 0, none⟩) p.vols.length c5] 42)).setCell ⟨gb, bl, none⟩ (.int .i64 0) = (w3.setCell ⟨gb, bl, none⟩ (.int .i64 0)).alloc (.cells #[.slice A4 p.slots.length c4, .slice (some ⟨gv, 0, none⟩) p.vols.length c5] 42) := World.setCell_alloc_past (.cells #[.slice A4 p.slots.length c4, .slice (some ⟨gv, 0, none⟩) p.vols.length c5] 42) gb bl (.int .i64 0) hgb2
          have HPUT := Lib.hid (show PW ((w3.setCell ⟨gb, bl, none⟩ (.int .i64 0)).alloc (.cells #[.slice A4 p.slots.length c4, .slice (some ⟨gv, 0, none⟩) p.vols.length c5] 42)) w3.heap.size w1.heap.size (.slice A4 p.slots.length c4) (.slice (some ⟨gv, 0, none⟩) p.vols.length c5) bvs2 p.slots p.vols i bl v gb cb 0 from hcm ▸ (HPW.out.put hil hbl 0).1)
          have HBEL7 := Lib.hid (show Below w1.heap.size w3 ((w3.setCell ⟨gb, bl, none⟩ (.int .i64 0)).alloc (.cells #[.slice A4 p.slots.length c4, .slice (some ⟨gv, 0, none⟩) p.vols.length c5] 42)) from hcm ▸ (HXW.out.mono hsz3).setCell (p := ⟨gb, bl, none⟩) hgb1 (.int .i64 0))
          have HBELW := Lib.hid (show Bel w ((w3.setCell ⟨gb, bl, none⟩ (.int .i64 0)).alloc (.cells #[.slice A4 p.slots.length c4, .slice (some ⟨gv, 0, none⟩) p.vols.length c5] 42)) from hcm ▸ (HBW3.out.tr HXW.out).setCell (p := ⟨gb, bl, none⟩) (by show w.heap.size ≤ gb; omega) (.int .i64 0))
          clear hcm
          have HR7 := Lib.hid ((HR.out.bel (HB1.out.tr HB3.out)).bel' HBEL7.out hlo3)
          by_cases he : text = e0
          · have HG := Lib.hid (show writeF p name bl text = some ⟨p.slots, p.vols.set i ⟨v.name, v.blocks.set bl 0⟩⟩ by rw [writeF_free HWR.out HTK.out he, HBK.out, Int.toNat_natCast])
            have hz := toList_nil.2 he
            clear he
            have r0 := HR7.out.cell 0
            have r1 := HR7.out.cell 1
            have f0 := HR7.out.free 0
            have f1 := HR7.out.free 1
            have z1 := HR7.out.lt
            have b0 := HPUT.out.blk.cell 0
            have b1 := HPUT.out.blk.cell 1
            simp only [List.getElem?_toArray, List.getElem?_cons_zero, List.getElem?_cons_succ] at r0 r1 b0 b1
            go_wp2
            have hR8 := HR7.out.set 0 (.slice A4 p.slots.length c4) (cs' := #[.slice A4 p.slots.length c4, .slice none 0 0]) rfl
            have hR9 := hR8.set 1 (.slice (some ⟨gv, 0, none⟩) p.vols.length c5) (cs' := #[.slice A4 p.slots.length c4, .slice (some ⟨gv, 0, none⟩) p.vols.length c5]) rfl
            have hop := ((HPUT.out.far HR7.out (by omega) 0 (.slice A4 p.slots.length c4)).far hR8 (by omega) 1 (.slice (some ⟨gv, 0, none⟩) p.vols.length c5)).pool
            have hbel8 := (HBELW.out.setCell (p := ⟨w.heap.size + 1, 0, none⟩) (Nat.le_succ _) (.slice A4 p.slots.length c4)).setCell (p := ⟨w.heap.size + 1, 1, none⟩) (Nat.le_succ _) (.slice (some ⟨gv, 0, none⟩) p.vols.length c5)
            refine bodyPost_ret (results_ct rfl _ _ (w.heap.size + 1) 42 #[.slice A4 p.slots.length c4, .slice (some ⟨gv, 0, none⟩) p.vols.length c5] (0, 0) _ rfl hR9 Tryz.underlying42 rfl (by kernel_rfl)) rfl ?_
            rw [HG.out]
            exact ⟨_, _, _, rfl, hop.lower (by omega), Fr.ofBel hbel8 hbase⟩
          · have hz : ¬ text.toList = [] := fun h => he (toList_nil.1 h)
            have hz2 : text.toList.isEmpty = false := by simpa using hz
            have HE := Lib.hid he
            clear he
            have b0 := HPUT.out.blk.cell 0
            simp only [List.getElem?_toArray, List.getElem?_cons_zero, List.getElem?_cons_succ] at b0
            go_wp2_with fail
            generalize (w3.setCell ⟨gb, bl, none⟩ (.int .i64 0)).alloc (.cells #[.slice A4 p.slots.length c4, .slice (some ⟨gv, 0, none⟩) p.vols.length c5] 42) = W7 at HPUT HBEL7 HBELW HR7 b0 ⊢
            have hbu := back_uses HK.out HWR.out
            rw [HBK.out] at hbu
            have hbd := putAt_bd HK.out HWR.out HE.out
            rw [HBK.out] at hbd
            have hpc := putAt_cases (HWR.out.back HK.out).1 HE.out
            rw [HBK.out] at hpc
            have hl2 := l2Put_c HPUT.out.s hbu.1 hbu.2 text HTK.out
            rw [hpc.2] at hl2
            refine hl2.mono ?_
            rintro e w8 ⟨rfl, ho8, hg8⟩
            have HP8 := Lib.hid (HPUT.out.slots ho8 hg8)
            have HBELW8 := Lib.hid (HBELW.out.trans (Below.grown (Below.refl _ _) hg8 (by have := HR7.out.lt; omega) (fun k hk => by have := own_base HPUT.out.s k hk; omega)))
            have HBEL8 := Lib.hid (HBEL7.out.grown hg8 (by have := HBEL7.out.size; omega) (own_base HPUT.out.s))
            have HR8 := Lib.hid ((HR.out.bel (HB1.out.tr HB3.out)).bel' HBEL8.out hlo3)
            clear hl2 hpc ho8 hg8 hbu b0
            by_cases h99 : putAt p.slots text = 0
            · have HG := Lib.hid (show writeF p name bl text = none by rw [writeF_put HWR.out HTK.out HE.out, HBK.out, if_pos h99])
              have hB8 := (HB.out.bel (HB1.out.tr HB3.out)).bel' HBEL8.out (Nat.lt_of_succ_lt hlo3)
              have r0 := HR8.out.cell 0
              have r1 := HR8.out.cell 1
              have f0 := HR8.out.free 0
              have f1 := HR8.out.free 1
              have z1 := HR8.out.lt
              have b0 := hB8.cell 0
              have b1 := hB8.cell 1
              simp only [List.getElem?_toArray, List.getElem?_cons_zero, List.getElem?_cons_succ] at r0 r1 b0 b1
              have h99' : (putAt p.slots text != 0) = false := by rw [h99]; rfl
              rw [h99']
              have hop := (HP.out.bel' HBELW8.out)
              clear h99 hB8
              go_wp2
              have hR9 := HR8.out.set 0 (.slice A0 p.slots.length c0) (cs' := #[.slice A0 p.slots.length c0, .slice none 0 0]) rfl
              have hR10 := hR9.set 1 (.slice (some ⟨g, 0, none⟩) p.vols.length c1) (cs' := #[.slice A0 p.slots.length c0, .slice (some ⟨g, 0, none⟩) p.vols.length c1]) rfl
              have hop2 := (hop.far HR8.out (by decide) (by decide) (by decide) 0 (.slice A0 p.slots.length c0)).far hR9 (by decide) (by decide) (by decide) 1 (.slice (some ⟨g, 0, none⟩) p.vols.length c1)
              have hbel9 := (HBELW8.out.setCell (p := ⟨w.heap.size + 1, 0, none⟩) (Nat.le_succ _) (.slice A0 p.slots.length c0)).setCell (p := ⟨w.heap.size + 1, 1, none⟩) (Nat.le_succ _) (.slice (some ⟨g, 0, none⟩) p.vols.length c1)
              refine bodyPost_ret (results_ct rfl _ _ (w.heap.size + 1) 42 #[.slice A0 p.slots.length c0, .slice (some ⟨g, 0, none⟩) p.vols.length c1] (0, 0) _ rfl hR10 Tryz.underlying42 rfl (by kernel_rfl)) rfl ?_
              rw [HG.out]
              exact ⟨_, _, _, rfl, hop2, Fr.ofBel hbel9 hbase⟩
            · have HG := Lib.hid (show writeF p name bl text = some ⟨putS p.slots text, p.vols.set i ⟨v.name, v.blocks.set bl (putAt p.slots text)⟩⟩ by rw [writeF_put HWR.out HTK.out HE.out, HBK.out, if_neg h99, Int.toNat_natCast])
              have h99' : (putAt p.slots text != 0) = true := by simpa using h99
              rw [h99']
              obtain ⟨s4, s5, s6, s7, s8⟩ := HP8.out.cell hil hbl
              obtain ⟨gw, cw, ew, s9, s10, s11⟩ := HP8.out.row hil
              have ew := slice_eq ew
              obtain ⟨ew, -, rfl⟩ := ew
              obtain rfl : gv = gw := by simpa using ew
              have r0 := HR8.out.cell 0
              have r1 := HR8.out.cell 1
              have f0 := HR8.out.free 0
              have f1 := HR8.out.free 1
              have z1 := HR8.out.lt
              have b0 := HP8.out.blk.cell 0
              have b1 := HP8.out.blk.cell 1
              have bf0 := HP8.out.blk.free 0
              have bz := HP8.out.blk.lt
              simp only [List.getElem?_toArray, List.getElem?_cons_zero, List.getElem?_cons_succ] at r0 r1 b0 b1
              have HP9 := Lib.hid (HP8.out.same0.put hil hbl (putAt p.slots text)).1
              have HBELW9 := Lib.hid ((HBELW8.out.setCell (p := ⟨w3.heap.size, 0, none⟩) (by show w.heap.size ≤ w3.heap.size; omega) (.slice A4 p.slots.length c4)).setCell (p := ⟨gb, bl, none⟩) (by show w.heap.size ≤ gb; omega) (.int .i64 (putAt p.slots text)))
              have HR9 := Lib.hid ((HR8.out.apart (show w3.heap.size ≠ w.heap.size + 1 by omega) 0 (.slice A4 p.slots.length c4)).apart (show gb ≠ w.heap.size + 1 by omega) bl (.int .i64 (putAt p.slots text)))
              have hne1 : ¬ w3.heap.size = w.heap.size + 1 := by omega
              have hne2 : ¬ w.heap.size + 1 = w3.heap.size := by omega
              have hne3 : ¬ gb = w.heap.size + 1 := by omega
              have hne4 : ¬ w.heap.size + 1 = gb := by omega
              have hne5 : ¬ gb = w3.heap.size := by omega
              have hne6 : ¬ w3.heap.size = gb := by omega
              have hne7 : ¬ gv = w3.heap.size := by omega
              have hne8 : ¬ w3.heap.size = gv := by omega
              clear h99 ew
              go_wp2
              have hR10 := HR9.out.set 0 (.slice A4 p.slots.length c4) (cs' := #[.slice A4 p.slots.length c4, .slice none 0 0]) rfl
              have hR11 := hR10.set 1 (.slice (some ⟨gv, 0, none⟩) p.vols.length c5) (cs' := #[.slice A4 p.slots.length c4, .slice (some ⟨gv, 0, none⟩) p.vols.length c5]) rfl
              have hop := ((HP9.out.far HR9.out (by omega) 0 (.slice A4 p.slots.length c4)).far hR10 (by omega) 1 (.slice (some ⟨gv, 0, none⟩) p.vols.length c5)).pool
              have hbel9 := (HBELW9.out.setCell (p := ⟨w.heap.size + 1, 0, none⟩) (Nat.le_succ _) (.slice A4 p.slots.length c4)).setCell (p := ⟨w.heap.size + 1, 1, none⟩) (Nat.le_succ _) (.slice (some ⟨gv, 0, none⟩) p.vols.length c5)
              refine bodyPost_ret (results_ct rfl _ _ (w.heap.size + 1) 42 #[.slice A4 p.slots.length c4, .slice (some ⟨gv, 0, none⟩) p.vols.length c5] (0, 0) _ rfl hR11 Tryz.underlying42 rfl (by kernel_rfl)) rfl ?_
              rw [HG.out]
              exact ⟨_, _, _, rfl, hop.lower (by omega), Fr.ofBel hbel9 hbase⟩
end Go.Proofs.YtccllgpaafgjaaaGreat

namespace Go.Proofs.YtccllgpaafgjaaaGreat
open Go.RowKit Go.Proofs.YtccllgpaafgjaaaGreatW.PrintWords Go.Proofs.YtccllgpaafgjaaaGreatW.PrintLast
set_option maxHeartbeats 4000000 in
set_option maxRecDepth 10000 in
theorem implPoolWrite_c {w : World} {A0 A1 : Option Addr} {c0 c1 : Nat} {p : Pool} {name : ByteArray} {blk : Int} {text : ByteArray} (h : PoolIn w A0 A1 c0 c1 p) (hs : SmallP p) (hnm : text.size ≤ 1048576) :
    Calls Tryz.prog 130 #[.agg #[.slice A0 p.slots.length c0, .slice A1 p.vols.length c1], .string name, .int .i64 blk, .string text] w (MadePB w (chP p (writeF p name blk text)) (chB p (writeF p name blk text))) := by
  have HS := Lib.hid hs
  have HP := Lib.hid h
  clear h hs
  go_enter Tryz.func130, Tryz.ntmps130
  go_wp2_with fail
  have hB : Blk (((((w.alloc (.cells #[.slice A0 p.slots.length c0, .slice A1 p.vols.length c1] 42)).alloc (.cells #[.string name] 9)).alloc (.cells #[.int .i64 blk] 3)).alloc (.cells #[.string text] 9)).alloc (.cells #[.slice none 0 0, .slice none 0 0] 42)) (w.heap.size) #[.slice A0 p.slots.length c0, .slice A1 p.vols.length c1] 42 := (((((Blk.new _ _ _)).alloc _).alloc _).alloc _).alloc _
  have hN0 : Blk (((((w.alloc (.cells #[.slice A0 p.slots.length c0, .slice A1 p.vols.length c1] 42)).alloc (.cells #[.string name] 9)).alloc (.cells #[.int .i64 blk] 3)).alloc (.cells #[.string text] 9)).alloc (.cells #[.slice none 0 0, .slice none 0 0] 42)) (w.heap.size + 1) #[.string name] 9 := ((((Blk.nw2 _ _ _ _)).alloc _).alloc _).alloc _
  have hN1 : Blk (((((w.alloc (.cells #[.slice A0 p.slots.length c0, .slice A1 p.vols.length c1] 42)).alloc (.cells #[.string name] 9)).alloc (.cells #[.int .i64 blk] 3)).alloc (.cells #[.string text] 9)).alloc (.cells #[.slice none 0 0, .slice none 0 0] 42)) (w.heap.size + 1 + 1) #[.int .i64 blk] 3 := (((Blk.nw3 _ _ _ _ _)).alloc _).alloc _
  have hN2 : Blk (((((w.alloc (.cells #[.slice A0 p.slots.length c0, .slice A1 p.vols.length c1] 42)).alloc (.cells #[.string name] 9)).alloc (.cells #[.int .i64 blk] 3)).alloc (.cells #[.string text] 9)).alloc (.cells #[.slice none 0 0, .slice none 0 0] 42)) (w.heap.size + 1 + 1 + 1) #[.string text] 9 := ((Blk.nw4 _ _ _ _ _ _)).alloc _
  have hR : Blk (((((w.alloc (.cells #[.slice A0 p.slots.length c0, .slice A1 p.vols.length c1] 42)).alloc (.cells #[.string name] 9)).alloc (.cells #[.int .i64 blk] 3)).alloc (.cells #[.string text] 9)).alloc (.cells #[.slice none 0 0, .slice none 0 0] 42)) (w.heap.size + 1 + 1 + 1 + 1) #[.slice none 0 0, .slice none 0 0] 42 := Blk.nw5 _ _ _ _ _ _ _
  have hW : Bel w (((((w.alloc (.cells #[.slice A0 p.slots.length c0, .slice A1 p.vols.length c1] 42)).alloc (.cells #[.string name] 9)).alloc (.cells #[.int .i64 blk] 3)).alloc (.cells #[.string text] 9)).alloc (.cells #[.slice none 0 0, .slice none 0 0] 42)) := bel_alloc (bel_alloc (bel_alloc (bel_alloc (bel_alloc (Below.refl _ _) _) _) _) _) _
  generalize (((((w.alloc (.cells #[.slice A0 p.slots.length c0, .slice A1 p.vols.length c1] 42)).alloc (.cells #[.string name] 9)).alloc (.cells #[.int .i64 blk] 3)).alloc (.cells #[.string text] 9)).alloc (.cells #[.slice none 0 0, .slice none 0 0] 42)) = W0 at hB hN0 hN1 hN2 hR hW ⊢
  have HB := Lib.hid hB
  have HN0 := Lib.hid hN0
  have HN1 := Lib.hid hN1
  have HN2 := Lib.hid hN2
  have HR := Lib.hid hR
  have HW := Lib.hid hW
  clear hB hN0 hN1 hN2 hR hW
  refine (changed_c (HP.out.bel HW.out) HS.out 185 #[.pointer (some ⟨w.heap.size, 0, none⟩), .pointer (some ⟨w.heap.size + 1, 0, none⟩), .pointer (some ⟨w.heap.size + 1 + 1, 0, none⟩), .pointer (some ⟨w.heap.size + 1 + 1 + 1, 0, none⟩)] (writeF p name blk text) (enters Tryz.func185 (by kernel_rfl) (by kernel_rfl))
    (fun hok W b base h1 h2 h3 h4 => writeClo_c (HP.out.bel HW.out) HS.out HB.out HN0.out HN1.out HN2.out hnm hok W b base h1 h2 h3 h4)).mono ?_
  rintro e w1 ⟨v0, v1, bvs, rfl, ho, hb1⟩
  obtain ⟨q, hq⟩ : ∃ q, chP p (writeF p name blk text) = q := ⟨_, rfl⟩
  obtain ⟨ok, hok⟩ : ∃ ok, chB p (writeF p name blk text) = ok := ⟨_, rfl⟩
  rw [hq] at ho
  rw [hok]
  have HQ := Lib.hid hq
  have HK := Lib.hid hok
  clear hq hok
  have HO := Lib.hid ho
  have HB1 := Lib.hid hb1
  have r0 := (HR.out.bel HB1.out).cell 0
  have r1 := (HR.out.bel HB1.out).cell 1
  have f0 := (HR.out.bel HB1.out).free 0
  have f1 := (HR.out.bel HB1.out).free 1
  simp at r0 r1
  clear ho hb1
  obtain ⟨A2, A3, c2, c3, rfl, rfl, hpi⟩ := HO.out.reads
  clear hpi
  go_wp2
  have hR2 := HR.out.bel HB1.out
  have hR3 := hR2.set 0 (.slice A2 q.slots.length c2) (cs' := #[.slice A2 q.slots.length c2, .slice none 0 0]) rfl
  have hR4 := hR3.set 1 (.slice A3 q.vols.length c3) (cs' := #[.slice A2 q.slots.length c2, .slice A3 q.vols.length c3]) rfl
  have hb5 := bel_set (bel_set (HW.out.tr HB1.out) (show w.heap.size ≤ w.heap.size + 1 + 1 + 1 + 1 by omega) 0 (.slice A2 q.slots.length c2)) (show w.heap.size ≤ w.heap.size + 1 + 1 + 1 + 1 by omega) 1 (.slice A3 q.vols.length c3)
  have hop4 := (HO.out.far hR2 (by decide) (by decide) (by decide) 0 (.slice A2 q.slots.length c2)).far hR3 (by decide) (by decide) (by decide) 1 (.slice A3 q.vols.length c3)
  refine bodyPost_ret (results_ct rfl _ _ (w.heap.size + 1 + 1 + 1 + 1) 42 #[.slice A2 q.slots.length c2, .slice A3 q.vols.length c3] (0, 0) _ rfl hR4 Tryz.underlying42 rfl (by kernel_rfl)) rfl ?_
  rw [HQ.out, HK.out]
  exact ⟨_, _, _, rfl, hop4.lower HW.out.size, hb5⟩
end Go.Proofs.YtccllgpaafgjaaaGreat

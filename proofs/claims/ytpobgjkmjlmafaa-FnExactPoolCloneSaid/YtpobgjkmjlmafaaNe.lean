/- PoolClone, as the reference does it: l11Clone. -/
import Derived.Test.YtpobgjkmjlmafaaNd
namespace Go.Proofs.Ytpobgjkmjlmafaa
open Go.RowKit Go.Proofs.YtpobgjkmjlmafaaW.PrintWords Go.Proofs.YtpobgjkmjlmafaaW.PrintLast
set_option linter.unusedVariables false
set_option linter.unusedSimpArgs false

theorem StoreP.smallS {s : List Slot} (h : StoreP s) : SmallS s := ⟨by have := h.len; omega, fun x hx => by
  obtain ⟨i, hi⟩ := List.getElem?_of_mem hx
  have h1 := (h.ok i x hi).1
  unfold tOk at h1
  simp at h1
  omega⟩
set_option maxHeartbeats 8000000 in
set_option maxRecDepth 10000 in
theorem l11Clone_c {w : World} {base : Nat} {v0 v1 : Value} {bvs : List Value} {p : Pool} {fr dst : ByteArray} (h : OwnP w base v0 v1 p bvs) (hs : SmallP p) (hp : PoolP p) (hbase : base ≤ w.heap.size) (hnm : dst.size ≤ 1048576) :
    Calls Try.prog 107 #[.agg #[v0, v1], .string fr, .string dst] w (TurnsP base p (cloneF p fr dst) w) := by
  have HS := Lib.hid hs
  have HK := Lib.hid hp
  obtain ⟨A0, A1, c0, c1, rfl, rfl, hpi⟩ := h.reads
  have HP := Lib.hid h
  have HI := Lib.hid hpi
  have hlv := HS.out.vols.len
  have hnx : dst.size ≤ maxLen := by unfold maxLen; omega
  have HNX := Lib.hid hnx
  clear h hs hp hpi hnx
  go_enter Try.func107, Try.ntmps107
  go_wp2_with fail
  have hB : Blk ((w.alloc (.cells #[.slice A0 p.slots.length c0, .slice A1 p.vols.length c1] 30)).alloc (.cells #[.slice none 0 0, .slice none 0 0] 30)) w.heap.size #[.slice A0 p.slots.length c0, .slice A1 p.vols.length c1] 30 := (Blk.new _ _ _).alloc _
  have hR : Blk ((w.alloc (.cells #[.slice A0 p.slots.length c0, .slice A1 p.vols.length c1] 30)).alloc (.cells #[.slice none 0 0, .slice none 0 0] 30)) (w.heap.size + 1) #[.slice none 0 0, .slice none 0 0] 30 := Blk.nw2 _ _ _ _
  have hW : Bel w ((w.alloc (.cells #[.slice A0 p.slots.length c0, .slice A1 p.vols.length c1] 30)).alloc (.cells #[.slice none 0 0, .slice none 0 0] 30)) := bel_alloc (bel_alloc (Below.refl _ _) _) _
  generalize ((w.alloc (.cells #[.slice A0 p.slots.length c0, .slice A1 p.vols.length c1] 30)).alloc (.cells #[.slice none 0 0, .slice none 0 0] 30)) = W0 at hB hR hW ⊢
  have hno : ∀ W : World, Bel W0 W → cloneF p fr dst = none →
      Blk ((W.setCell ⟨w.heap.size + 1, 0, none⟩ (.slice A0 p.slots.length c0)).setCell ⟨w.heap.size + 1, 1, none⟩ (.slice A1 p.vols.length c1)) (w.heap.size + 1) #[.slice A0 p.slots.length c0, .slice A1 p.vols.length c1] 30 ∧
      TurnsP base p (cloneF p fr dst) w (.returned (.tuple #[.agg #[.slice A0 p.slots.length c0, .slice A1 p.vols.length c1], .bool false])) ((W.setCell ⟨w.heap.size + 1, 0, none⟩ (.slice A0 p.slots.length c0)).setCell ⟨w.heap.size + 1, 1, none⟩ (.slice A1 p.vols.length c1)) := by
    intro W hb hn
    have hR2 := hR.bel hb
    have hR3 := hR2.set 0 (.slice A0 p.slots.length c0) (cs' := #[.slice A0 p.slots.length c0, .slice none 0 0]) rfl
    have hR4 := hR3.set 1 (.slice A1 p.vols.length c1) (cs' := #[.slice A0 p.slots.length c0, .slice A1 p.vols.length c1]) rfl
    have hb5 := bel_set (bel_set (hW.tr hb) (Nat.le_succ _) 0 (.slice A0 p.slots.length c0)) (Nat.le_succ _) 1 (.slice A1 p.vols.length c1)
    have hop4 := ((HP.out.bel (hW.tr hb)).far hR2 (by decide) (by decide) (by decide) 0 (.slice A0 p.slots.length c0)).far hR3 (by decide) (by decide) (by decide) 1 (.slice A1 p.vols.length c1)
    refine ⟨hR4, ?_⟩
    rw [hn]
    exact ⟨_, _, _, rfl, hop4, hb5.mono hbase⟩
  have HNO := Lib.hid hno
  have HB := Lib.hid hB
  have HR := Lib.hid hR
  have HW := Lib.hid hW
  clear hB hR hW hno
  refine (l11At_c _ p.vols A1 c1 fr _ (HI.out.bel HW.out).v hlv).mono ?_
  rintro e w1 ⟨rfl, hb1⟩
  have HB1 := Lib.hid hb1
  clear hb1
  have q0 := (HB.out.bel HB1.out).cell 0
  have q1 := (HB.out.bel HB1.out).cell 1
  have r0 := (HR.out.bel HB1.out).cell 0
  have r1 := (HR.out.bel HB1.out).cell 1
  have f0 := (HR.out.bel HB1.out).free 0
  have f1 := (HR.out.bel HB1.out).free 1
  have z1 := (HR.out.bel HB1.out).lt
  simp at q0 q1 r0 r1
  by_cases hn : volIdx p.vols fr < 0
  · have HG := Lib.hid (show cloneF p fr dst = none from cloneF_no (.inl hn))
    go_wp2
    have hend := HNO.out w1 HB1.out HG.out
    refine bodyPost_ret (results_ct rfl _ _ (w.heap.size + 1) 30 #[.slice A0 p.slots.length c0, .slice A1 p.vols.length c1] (0, 0) _ rfl hend.1 Try.underlying30 rfl (by kernel_rfl)) rfl ?_
    exact hend.2
  · obtain ⟨i, v, hi, hv, hvn⟩ := volIdx_yes hn
    have HV := Lib.hid hv
    have HII := Lib.hid hi
    have hil := ltQ hv
    have hx1 : v.blocks.length ≤ 1048576 := HS.out.vols.blocks v (List.mem_of_getElem? HV.out)
    rw [hi]
    clear hn hvn hv hi
    have hin : ¬ ((i : Int) < 0) := by omega
    cases h1 : isNm dst with
    | false =>
      have HG := Lib.hid (show cloneF p fr dst = none from cloneF_no (.inr (.inl h1)))
      go_wp2_with (go_at_call 115; refine (l3Name_c dst _ HNX.out).mono ?_; rintro e w' ⟨rfl, rfl⟩)
      have hend := HNO.out w1 HB1.out HG.out
      refine bodyPost_ret (results_ct rfl _ _ (w.heap.size + 1) 30 #[.slice A0 p.slots.length c0, .slice A1 p.vols.length c1] (0, 0) _ rfl hend.1 Try.underlying30 rfl (by kernel_rfl)) rfl ?_
      exact hend.2
    | true =>
      have hbd := volIdx_bd p.vols dst
      go_wp2_with (go_at_call 115; refine (l3Name_c dst _ HNX.out).mono ?_; rintro e w' ⟨rfl, rfl⟩)
      refine (l11At_c _ p.vols A1 c1 dst _ (HI.out.bel (HW.out.tr HB1.out)).v hlv).mono ?_
      rintro e w2 ⟨rfl, hb2⟩
      have HB2 := Lib.hid (HB1.out.tr hb2)
      clear hb2 q0 q1 r0 r1 f0 f1 z1
      have q0 := (HB.out.bel HB2.out).cell 0
      have q1 := (HB.out.bel HB2.out).cell 1
      have r0 := (HR.out.bel HB2.out).cell 0
      have r1 := (HR.out.bel HB2.out).cell 1
      have f0 := (HR.out.bel HB2.out).free 0
      have f1 := (HR.out.bel HB2.out).free 1
      have z1 := (HR.out.bel HB2.out).lt
      have z0 := (HB.out.bel HB2.out).lt
      simp at q0 q1 r0 r1
      by_cases h2 : 0 ≤ volIdx p.vols dst
      · have HG := Lib.hid (show cloneF p fr dst = none from cloneF_no (.inr (.inr h2)))
        go_wp2
        have hend := HNO.out w2 HB2.out HG.out
        refine bodyPost_ret (results_ct rfl _ _ (w.heap.size + 1) 30 #[.slice A0 p.slots.length c0, .slice A1 p.vols.length c1] (0, 0) _ rfl hend.1 Try.underlying30 rfl (by kernel_rfl)) rfl ?_
        exact hend.2
      · have h2' : volIdx p.vols dst < 0 := by omega
        have HG := Lib.hid (show cloneF p fr dst = some ⟨incAll p.slots v.blocks, insAt (posOf dst p.vols) ⟨dst, v.blocks⟩ p.vols⟩ from cloneF_yes HII.out HV.out h1 h2')
        have HNM := Lib.hid (And.intro h1 (fun (m : Nat) (y : Vol) (hy : p.vols[m]? = some y) => HK.out.v.nm hy))
        have HO2 := Lib.hid (HP.out.bel (HW.out.tr HB2.out))
        obtain ⟨g, cap, bv, hbv, ev, hg1, hg2, hcap, hc, hc', hf, hf'⟩ := HO2.out.v.row.at HV.out
        have ev := slice_eq ev
        obtain ⟨rfl, -, rfl⟩ := ev
        obtain ⟨A2, c2, rfl, hc2, hC2⟩ := (HO2.out.v.inner i v bv HV.out hbv).reads
        have HC2 := Lib.hid hC2
        have hw2 : w.heap.size ≤ w2.heap.size := (HW.out.tr HB2.out).size
        clear hC2 hbv h1 hf hf' hc
        go_wp2_with (at_builtin; refine Kd.R_append_rows kInt (w0 := w2) w2.heap.size rfl (.tmp 29) (.tmp 35) 41 3 (.int .i64 0) 8 rfl Try.underlying41 info_int rfl (by decide) (by decide) _ [] v.blocks _ _ _ (fun _ => True) (fun _ => False) rfl rfl (R_emptyI w2 w2.heap.size (Nat.le_refl _)) (Kd.C_alloc HC2.out _) (fun _ _ h => h) (fun _ h => h.elim) (fun _ _ => trivial) ?a2 ?a3 ?a4 ?_; (case a2 => exact bel_alloc (Below.refl _ _) _); (case a3 => simp); (case a4 => simp; omega); intro v3 w3 ho hb3 hg hat; clear hg hat; have ho3 : OwnI w3 w2.heap.size v3 v.blocks := ownI_of_R ho; have HO3 := Lib.hid ho3; have HB3 := Lib.hid hb3; obtain ⟨A3, c3, rfl, hc3, hC3⟩ := ho3.reads; clear ho ho3 hb3 hC3)
        have hX : Blk (w3.alloc (.cells #[.string dst, .slice A3 v.blocks.length c3] 43)) w3.heap.size #[.string dst, .slice A3 v.blocks.length c3] 43 := Blk.new _ _ _
        have hbx : Bel w3 (w3.alloc (.cells #[.string dst, .slice A3 v.blocks.length c3] 43)) := bel_alloc (Below.refl _ _) _
        generalize w3.alloc (.cells #[.string dst, .slice A3 v.blocks.length c3] 43) = W4 at hX hbx ⊢
        obtain ⟨b9, hb9⟩ : ∃ b9, w3.heap.size = b9 := ⟨_, rfl⟩
        rw [hb9] at hX ⊢
        have HX := Lib.hid hX
        have HB4 := Lib.hid ((HB2.out.tr HB3.out).tr hbx)
        have HO4 := Lib.hid (HP.out.bel (HW.out.tr ((HB2.out.tr HB3.out).tr hbx)))
        have hb93 : w.heap.size ≤ b9 := by have := HB3.out.size; omega
        have HI4 := Lib.hid (show OwnI W4 base (.slice A3 v.blocks.length c3) v.blocks from own_lower (OwnI.bel HO3.out hbx) (by omega))
        have hge : ∀ k, Value.ownBlock (.slice A3 v.blocks.length c3) = some k → w.heap.size ≤ k := fun k hk => Nat.le_trans hw2 (own_block_ge HO3.out hk)
        have HGE := Lib.hid hge
        clear hX hbx hb9 q0 q1 r0 r1 f0 f1 z1 z0 hc' hge
        go_loopg [10] v.blocks.length (fun gg v10 W => ∃ k : Nat, gg + k = v.blocks.length ∧ v10 = .int .i64 k ∧ Hid ((Blk W w.heap.size #[.slice A0 p.slots.length c0, .slice (some ⟨g, 0, none⟩) p.vols.length c1] 30 ∧ Blk W (w.heap.size + 1) #[.slice none 0 0, .slice none 0 0] 30 ∧ Blk W b9 #[.string dst, .slice A3 v.blocks.length c3] 43) ∧ OwnS W base (.slice A0 p.slots.length c0) (incAll p.slots (v.blocks.take k)) ∧ OwnV W base (.slice (some ⟨g, 0, none⟩) p.vols.length c1) p.vols bvs ∧ OwnI W base (.slice A3 v.blocks.length c3) v.blocks ∧ Below base w W))
        case atStart => exact ⟨0, rfl, rfl, ⟨HB.out.bel HB4.out, HR.out.bel HB4.out, HX.out⟩, HO4.out.s, HO4.out.v, HI4.out, (HW.out.tr HB4.out).mono hbase⟩
        case round =>
          obtain ⟨k, hk, rfl, hinv⟩ := hrel
          have x1 := hinv.out.1.2.2.cell 1
          have x0 := hinv.out.1.2.2.cell 0
          have q0 := hinv.out.1.1.cell 0
          have q1 := hinv.out.1.1.cell 1
          simp at x0 x1 q0 q1
          by_cases hlt : k < v.blocks.length
          · obtain ⟨x, hx⟩ := getQ hlt
            have hxr := (volOk_parts (HK.out.v.v i v HV.out)).1 x (List.mem_of_getElem? hx)
            obtain ⟨A5, c5, e5, hc5, hC5⟩ := hinv.out.2.2.2.1.reads
            have e5 := slice_eq e5
            obtain ⟨rfl, -, rfl⟩ := e5
            obtain ⟨ad2, rfl, hcx⟩ := at_int hC5 hx
            clear hC5
            by_cases h0 : 0 < x
            · obtain ⟨m, rfl⟩ : ∃ m : Nat, x = (m : Int) + 1 := ⟨(x - 1).toNat, by omega⟩
              obtain ⟨y, hy, hy1, hy2⟩ := inc_at HK.out HV.out hx
              have HT := Lib.hid (show incAll p.slots (v.blocks.take (k + 1)) = (incAll p.slots (v.blocks.take k)).set m ⟨y.text, y.uses + 1⟩ by rw [take_snoc hx, incAll_snoc, if_pos h0, show ((m : Int) + 1 - 1).toNat = m by omega, incS_eq hy])
              have hdl : (incAll p.slots (v.blocks.take k)).length = 8 := by rw [incAll_len, HK.out.s.len]
              have hsl : p.slots.length = 8 := HK.out.s.len
              have hml := ltQ hy
              rw [hdl] at hml
              have hos := hinv.out.2.1
              obtain ⟨g2, cap2, ev, hg3, hg4, hcap2, hcc, hcc', hf, hf'⟩ := OwnS.at hos hy
              rw [hdl] at ev hcap2
              have ev2 := slice_eq ev
              obtain ⟨rfl, -, rfl⟩ := ev2
              rw [hsl] at hos
              have hset := OwnS.setU (hdl ▸ hos) hy (y.uses + 1)
              have H3 := Lib.hid hset
              have HDL := Lib.hid hdl
              have HSL := Lib.hid hsl
              rw [hsl] at q0
              clear hx hy hos hset hdl ev
              clear hsl
              go_wp2
              have hm8 : (m : Int) < 8 := by omega
              have hwm : wrap64 (m : Int) = m := by unfold wrap64; omega
              have hwm2 : wrap64 (y.uses + 1) = y.uses + 1 := by unfold wrap64; omega
              refine start_ (n := 23) (S := fun w' => w'.cell? ⟨w.heap.size, 0, none⟩ = some (.slice (some ⟨g2, 0, none⟩) 8 c0) ∧ w'.cell? ⟨b9, 1, none⟩ = some (.slice (some ad2) v.blocks.length c3) ∧ w'.cell? (ad2.add k) = some (.int .i64 ((m : Int) + 1)) ∧ w'.cell? ⟨g2, m * 2 + 1, none⟩ = some (.int .i64 y.uses)) (ds := [22]) #[false, false, false, false, false, false, false, false, false, false, false, false, false, false, false, false, false, false, false, false, false, false, false] (by kernel_rfl) rfl rfl ⟨q0, x1, hcx, hcc'⟩ (fun hHeld => ?_)
              refine pure_ (i := 0) (N := some 51) (v := ?_) (a' := ?_) #[true, false, false, false, false, false, false, false, false, false, false, false, false, false, false, false, false, false, false, false, false, false, false] rfl rfl (by kernel_rfl) (fun _ _ _ h => h) (Or.inl ⟨by rfl, ?_⟩) ?_ ?_
              rotate_left
              · intro w'
                go_simp
                with_reducible rfl
              rotate_left
              · simp only [Act.put, List.setIfInBounds_toArray, List.set_cons_zero, List.set_cons_succ, i64_w, i32_w]
                rfl
              refine pure_ (i := 2) (N := some 53) (v := ?_) (a' := ?_) #[true, false, true, false, false, false, false, false, false, false, false, false, false, false, false, false, false, false, false, false, false, false, false] rfl rfl (by kernel_rfl) (fun _ _ _ h => h) (Or.inl ⟨by rfl, ?_⟩) ?_ ?_
              rotate_left
              · intro w'
                go_simp
                with_reducible rfl
              rotate_left
              · simp only [Act.put, List.setIfInBounds_toArray, List.set_cons_zero, List.set_cons_succ, i64_w, i32_w]
                rfl
              refine pure_ (i := 4) (N := some 55) (v := ?_) (a' := ?_) #[true, false, true, false, true, false, false, false, false, false, false, false, false, false, false, false, false, false, false, false, false, false, false] rfl rfl (by kernel_rfl) (fun _ _ _ h => h) (Or.inl ⟨by rfl, ?_⟩) ?_ ?_
              rotate_left
              · intro w'
                go_simp
                with_reducible rfl
              rotate_left
              · simp only [Act.put, List.setIfInBounds_toArray, List.set_cons_zero, List.set_cons_succ, i64_w, i32_w]
                rfl
              refine pure_ (i := 8) (N := some 59) (v := ?_) (a' := ?_) #[true, false, true, false, true, false, false, false, true, false, false, false, false, false, false, false, false, false, false, false, false, false, false] rfl rfl (by kernel_rfl) (fun _ _ _ h => h) (Or.inl ⟨by rfl, ?_⟩) ?_ ?_
              rotate_left
              · intro w'
                go_simp
                with_reducible rfl
              rotate_left
              · simp only [Act.put, List.setIfInBounds_toArray, List.set_cons_zero, List.set_cons_succ, i64_w, i32_w]
                rfl
              refine pure_ (i := 10) (N := some 61) (v := ?_) (a' := ?_) #[true, false, true, false, true, false, false, false, true, false, true, false, false, false, false, false, false, false, false, false, false, false, false] rfl rfl (by kernel_rfl) (fun _ _ _ h => h) (Or.inl ⟨by rfl, ?_⟩) ?_ ?_
              rotate_left
              · intro w'
                go_simp
                with_reducible rfl
              rotate_left
              · simp only [Act.put, List.setIfInBounds_toArray, List.set_cons_zero, List.set_cons_succ, i64_w, i32_w]
                rfl
              refine pure_ (i := 12) (N := some 63) (v := ?_) (a' := ?_) #[true, false, true, false, true, false, false, false, true, false, true, false, true, false, false, false, false, false, false, false, false, false, false] rfl rfl (by kernel_rfl) (fun _ _ _ h => h) (Or.inl ⟨by rfl, ?_⟩) ?_ ?_
              rotate_left
              · intro w'
                go_simp
                with_reducible rfl
              rotate_left
              · simp only [Act.put, List.setIfInBounds_toArray, List.set_cons_zero, List.set_cons_succ, i64_w, i32_w]
                rfl
              refine take_ (i := 1) (N := some 52) (v := ?_) (a' := ?_) #[true, true, true, false, true, false, false, false, true, false, true, false, true, false, false, false, false, false, false, false, false, false, false] rfl rfl (by kernel_rfl) (fun _ _ _ h => h) (Or.inl ⟨by rfl, ?_⟩) hHeld ?_ ?_
              rotate_left
              · rintro w' ⟨s0, s1, s2, s3⟩
                go_simp
                with_reducible rfl
              rotate_left
              · simp only [Act.put, List.setIfInBounds_toArray, List.set_cons_zero, List.set_cons_succ, i64_w, i32_w]
                rfl
              refine take_ (i := 3) (N := some 54) (v := ?_) (a' := ?_) #[true, true, true, true, true, false, false, false, true, false, true, false, true, false, false, false, false, false, false, false, false, false, false] rfl rfl (by kernel_rfl) (fun _ _ _ h => h) (Or.inl ⟨by rfl, ?_⟩) hHeld ?_ ?_
              rotate_left
              · rintro w' ⟨s0, s1, s2, s3⟩
                go_simp
                with_reducible rfl
              rotate_left
              · simp only [Act.put, List.setIfInBounds_toArray, List.set_cons_zero, List.set_cons_succ, i64_w, i32_w]
                rfl
              refine pure_ (i := 5) (N := some 56) (v := ?_) (a' := ?_) #[true, true, true, true, true, true, false, false, true, false, true, false, true, false, false, false, false, false, false, false, false, false, false] rfl rfl (by kernel_rfl) (fun _ _ _ h => h) (Or.inl ⟨by rfl, ?_⟩) ?_ ?_
              rotate_left
              · intro w'
                go_simp
                with_reducible rfl
              rotate_left
              · simp only [Act.put, List.setIfInBounds_toArray, List.set_cons_zero, List.set_cons_succ, i64_w, i32_w]
                rfl
              refine take_ (i := 6) (N := some 57) (v := ?_) (a' := ?_) #[true, true, true, true, true, true, true, false, true, false, true, false, true, false, false, false, false, false, false, false, false, false, false] rfl rfl (by kernel_rfl) (fun _ _ _ h => h) (Or.inl ⟨by rfl, ?_⟩) hHeld ?_ ?_
              rotate_left
              · rintro w' ⟨s0, s1, s2, s3⟩
                go_simp
                with_reducible rfl
              rotate_left
              · simp only [Act.put, List.setIfInBounds_toArray, List.set_cons_zero, List.set_cons_succ, i64_w, i32_w]
                rfl
              refine pure_ (i := 7) (N := some 58) (v := ?_) (a' := ?_) #[true, true, true, true, true, true, true, true, true, false, true, false, true, false, false, false, false, false, false, false, false, false, false] rfl rfl (by kernel_rfl) (fun _ _ _ h => h) (Or.inl ⟨by rfl, ?_⟩) ?_ ?_
              rotate_left
              · intro w'
                go_simp
                with_reducible rfl
              rotate_left
              · simp only [Act.put, List.setIfInBounds_toArray, List.set_cons_zero, List.set_cons_succ, i64_w, i32_w]
                rfl
              refine take_ (i := 9) (N := some 60) (v := ?_) (a' := ?_) #[true, true, true, true, true, true, true, true, true, true, true, false, true, false, false, false, false, false, false, false, false, false, false] rfl rfl (by kernel_rfl) (fun _ _ _ h => h) (Or.inl ⟨by rfl, ?_⟩) hHeld ?_ ?_
              rotate_left
              · rintro w' ⟨s0, s1, s2, s3⟩
                go_simp
                with_reducible rfl
              rotate_left
              · simp only [Act.put, List.setIfInBounds_toArray, List.set_cons_zero, List.set_cons_succ, i64_w, i32_w]
                rfl
              refine take_ (i := 11) (N := some 62) (v := ?_) (a' := ?_) #[true, true, true, true, true, true, true, true, true, true, true, true, true, false, false, false, false, false, false, false, false, false, false] rfl rfl (by kernel_rfl) (fun _ _ _ h => h) (Or.inl ⟨by rfl, ?_⟩) hHeld ?_ ?_
              rotate_left
              · rintro w' ⟨s0, s1, s2, s3⟩
                go_simp
                with_reducible rfl
              rotate_left
              · simp only [Act.put, List.setIfInBounds_toArray, List.set_cons_zero, List.set_cons_succ, i64_w, i32_w]
                rfl
              refine pure_ (i := 13) (N := some 64) (v := ?_) (a' := ?_) #[true, true, true, true, true, true, true, true, true, true, true, true, true, true, false, false, false, false, false, false, false, false, false] rfl rfl (by kernel_rfl) (fun _ _ _ h => h) (Or.inl ⟨by rfl, ?_⟩) ?_ ?_
              rotate_left
              · intro w'
                go_simp
                with_reducible rfl
              rotate_left
              · simp only [Act.put, List.setIfInBounds_toArray, List.set_cons_zero, List.set_cons_succ, i64_w, i32_w]
                rfl
              refine take_ (i := 14) (N := some 65) (v := ?_) (a' := ?_) #[true, true, true, true, true, true, true, true, true, true, true, true, true, true, true, false, false, false, false, false, false, false, false] rfl rfl (by kernel_rfl) (fun _ _ _ h => h) (Or.inl ⟨by rfl, ?_⟩) hHeld ?_ ?_
              rotate_left
              · rintro w' ⟨s0, s1, s2, s3⟩
                go_simp
                with_reducible rfl
              rotate_left
              · simp only [Act.put, List.setIfInBounds_toArray, List.set_cons_zero, List.set_cons_succ, i64_w, i32_w]
                rfl
              refine pure_ (i := 15) (N := some 66) (v := ?_) (a' := ?_) #[true, true, true, true, true, true, true, true, true, true, true, true, true, true, true, true, false, false, false, false, false, false, false] rfl rfl (by kernel_rfl) (fun _ _ _ h => h) (Or.inl ⟨by rfl, ?_⟩) ?_ ?_
              rotate_left
              · intro w'
                go_simp
                with_reducible rfl
              rotate_left
              · simp only [Act.put, List.setIfInBounds_toArray, List.set_cons_zero, List.set_cons_succ, i64_w, i32_w]
                rfl
              refine pure_ (i := 16) (N := some 67) (v := ?_) (a' := ?_) #[true, true, true, true, true, true, true, true, true, true, true, true, true, true, true, true, true, false, false, false, false, false, false] rfl rfl (by kernel_rfl) (fun _ _ _ h => h) (Or.inl ⟨by rfl, ?_⟩) ?_ ?_
              rotate_left
              · intro w'
                go_simp
                with_reducible rfl
              rotate_left
              · simp only [Act.put, List.setIfInBounds_toArray, List.set_cons_zero, List.set_cons_succ, i64_w, i32_w]
                rfl
              refine pure_ (i := 17) (N := some 68) (v := ?_) (a' := ?_) #[true, true, true, true, true, true, true, true, true, true, true, true, true, true, true, true, true, true, false, false, false, false, false] rfl rfl (by kernel_rfl) (fun _ _ _ h => h) (Or.inl ⟨by rfl, ?_⟩) ?_ ?_
              rotate_left
              · intro w'
                go_simp
                with_reducible rfl
              rotate_left
              · simp only [Act.put, List.setIfInBounds_toArray, List.set_cons_zero, List.set_cons_succ, i64_w, i32_w]
                rfl
              refine take_ (i := 18) (N := some 69) (v := ?_) (a' := ?_) #[true, true, true, true, true, true, true, true, true, true, true, true, true, true, true, true, true, true, true, false, false, false, false] rfl rfl (by kernel_rfl) (fun _ _ _ h => h) (Or.inl ⟨by rfl, ?_⟩) hHeld ?_ ?_
              rotate_left
              · rintro w' ⟨s0, s1, s2, s3⟩
                go_simp
                with_reducible rfl
              rotate_left
              · simp only [Act.put, List.setIfInBounds_toArray, List.set_cons_zero, List.set_cons_succ, i64_w, i32_w]
                rfl
              refine pure_ (i := 19) (N := some 70) (v := ?_) (a' := ?_) #[true, true, true, true, true, true, true, true, true, true, true, true, true, true, true, true, true, true, true, true, false, false, false] rfl rfl (by kernel_rfl) (fun _ _ _ h => h) (Or.inl ⟨by rfl, ?_⟩) ?_ ?_
              rotate_left
              · intro w'
                go_simp
                with_reducible rfl
              rotate_left
              · simp only [Act.put, List.setIfInBounds_toArray, List.set_cons_zero, List.set_cons_succ, i64_w, i32_w]
                rfl
              refine pure_ (i := 20) (N := some 71) (v := ?_) (a' := ?_) #[true, true, true, true, true, true, true, true, true, true, true, true, true, true, true, true, true, true, true, true, true, false, false] rfl rfl (by kernel_rfl) (fun _ _ _ h => h) (Or.inl ⟨by rfl, ?_⟩) ?_ ?_
              rotate_left
              · intro w'
                go_simp
                with_reducible rfl
              rotate_left
              · simp only [Act.put, List.setIfInBounds_toArray, List.set_cons_zero, List.set_cons_succ, i64_w, i32_w]
                rfl
              refine pure_ (i := 21) (N := some 72) (v := ?_) (a' := ?_) #[true, true, true, true, true, true, true, true, true, true, true, true, true, true, true, true, true, true, true, true, true, true, false] rfl rfl (by kernel_rfl) (fun _ _ _ h => h) (Or.inl ⟨by rfl, ?_⟩) ?_ ?_
              rotate_left
              · intro w'
                go_simp
                with_reducible rfl
              rotate_left
              · simp only [Act.put, List.setIfInBounds_toArray, List.set_cons_zero, List.set_cons_succ, i64_w, i32_w]
                rfl
              refine last_ (i := 22) (N := none) #[true, true, true, true, true, true, true, true, true, true, true, true, true, true, true, true, true, true, true, true, true, true, true] rfl rfl (by kernel_rfl) (by decide) (fun K hK => ?_)
              refine skip_ (w1 := ?_) (by rfl) rfl ?_ ?_
              rotate_left
              · go_simp
                rfl
              refine hK.out _ _ ?_
              clear hK K
              refine done_ (by kernel_rfl) ?_
              clear hHeld hwm hwm2
              have HINV := Lib.hid hinv.out
              clear hinv q0 q1 x0 x1 hcx hcc hcc' hf hf'
              go_wp2
              go_roundg (v.blocks.length - (k + 1))
              case measure => omega
              case rel =>
                obtain ⟨⟨hB, hR, hX⟩, hos, hov, hoi, hbel⟩ := HINV.out
                have hg := grown_tr H3.out.2 (grown_drew _ _)
                refine ⟨k + 1, by omega, int_eq (by omega), ⟨hB.grown hg (own_blk_ne hos hB (by decide)), hR.grown hg (own_blk_ne hos hR (by decide)), hX.grown hg (own_blk_ne hos hX (by decide))⟩, ?_, hov.otherS hos hg, own_other_type hoi hos (by decide) hg, hbel.grown hg (by have := hB.lt; omega) (own_base hos)⟩
                rw [HT.out]
                have h5 := OwnS.bel H3.out.1 (Below.refl _ _).drew
                rw [HDL.out] at h5
                rw [HSL.out]
                exact h5
            · have HT := Lib.hid (show incAll p.slots (v.blocks.take (k + 1)) = incAll p.slots (v.blocks.take k) by rw [take_snoc hx, incAll_snoc, if_neg h0])
              clear hx
              go_wp2
              go_roundg (v.blocks.length - (k + 1))
              case rel =>
                refine ⟨k + 1, by omega, int_eq (by omega), ?_⟩
                rw [HT.out]
                exact hinv
              case measure => omega
          · have hkl : k = v.blocks.length := by omega
            obtain ⟨⟨hB, hR, hX⟩, hos, hov, hoi, hbel⟩ := hinv.out
            rw [hkl, List.take_length] at hos
            have hinc := HK.out.incs HV.out
            have hlen : (incAll p.slots v.blocks).length = p.slots.length := incAll_len _ _
            have hop : OwnP wr base (.slice A0 p.slots.length c0) (.slice (some ⟨g, 0, none⟩) p.vols.length c1) ⟨incAll p.slots v.blocks, p.vols⟩ bvs := ⟨hos, hov⟩
            have hsm : SmallP ⟨incAll p.slots v.blocks, p.vols⟩ := ⟨hinc.1.smallS, HS.out.vols⟩
            have hap : ∀ (m : Nat) (b' : Value) (k : Nat), bvs[m]? = some b' → b'.ownBlock = some k → Value.ownBlock (.slice A3 v.blocks.length c3) ≠ some k := fun m b' k hm hk h2 => by
              have e1 := HP.out.v.inner_lt hm hk
              have e2 := HGE.out k h2
              omega
            have hbs : base ≤ wr.heap.size := by have := hB.lt; omega
            have HADD := Lib.hid (l11Add_c (x := ⟨dst, v.blocks⟩) hop hoi hsm hbs hap HNM.out.1 HNM.out.2)
            have HBR := Lib.hid (And.intro hB hR)
            have HBE := Lib.hid hbel
            clear hB hR hX hos hov hoi hbel hinc hop hsm hap hkl hlen hinv
            go_wp2_with fail
            refine HADD.out.mono ?_
            rintro e w5 ⟨v5, rfl, ho5, hb5⟩
            obtain ⟨A7, A8, c7, c8, e7, rfl, hpi5⟩ := ho5.reads
            have HO5 := Lib.hid ho5
            have HB5 := Lib.hid hb5
            clear x0 x1 q0 q1 ho5 hpi5 e7 hb5
            have s0 := (HBR.out.2.bel HB5.out).cell 0
            have s1 := (HBR.out.2.bel HB5.out).cell 1
            have t0 := (HBR.out.2.bel HB5.out).free 0
            have t1 := (HBR.out.2.bel HB5.out).free 1
            simp at s0 s1
            go_wp2
            have hR2 := HBR.out.2.bel HB5.out
            have hR3 := hR2.set 0 (.slice A0 p.slots.length c0) (cs' := #[.slice A0 p.slots.length c0, .slice none 0 0]) rfl
            have hR4 := hR3.set 1 (.slice A8 (insAt (posOf dst p.vols) (⟨dst, v.blocks⟩ : Vol) p.vols).length c8) (cs' := #[.slice A0 p.slots.length c0, (.slice A8 (insAt (posOf dst p.vols) (⟨dst, v.blocks⟩ : Vol) p.vols).length c8)]) rfl
            have hop4 := (HO5.out.far hR2 (by decide) (by decide) (by decide) 0 (.slice A0 p.slots.length c0)).far hR3 (by decide) (by decide) (by decide) 1 (.slice A8 (insAt (posOf dst p.vols) (⟨dst, v.blocks⟩ : Vol) p.vols).length c8)
            have hb6 : Below base w w5 := HBE.out.trans (HB5.out.mono hbs)
            have hb7 := (hb6.setCell (p := ⟨w.heap.size + 1, 0, none⟩) (Nat.le_trans hbase (Nat.le_succ _)) (.slice A0 p.slots.length c0)).setCell (p := ⟨w.heap.size + 1, 1, none⟩) (Nat.le_trans hbase (Nat.le_succ _)) (.slice A8 (insAt (posOf dst p.vols) (⟨dst, v.blocks⟩ : Vol) p.vols).length c8)
            refine bodyPost_ret (results_ct rfl _ _ (w.heap.size + 1) 30 #[.slice A0 p.slots.length c0, (.slice A8 (insAt (posOf dst p.vols) (⟨dst, v.blocks⟩ : Vol) p.vols).length c8)] (0, 0) _ rfl hR4 Try.underlying30 rfl (by kernel_rfl)) rfl ?_
            rw [HG.out]
            exact ⟨_, _, _, rfl, hop4, hb7⟩
end Go.Proofs.Ytpobgjkmjlmafaa

/- PoolMake, as the reference does it: l11Make. -/
import Derived.Test.YtpobgjkmjlmafaaNb
namespace Go.Proofs.Ytpobgjkmjlmafaa
open Go.RowKit Go.Proofs.YtpobgjkmjlmafaaW.PrintWords Go.Proofs.YtpobgjkmjlmafaaW.PrintLast
set_option linter.unusedVariables false
set_option linter.unusedSimpArgs false

theorem Blk.nw4 (w : World) (o o' o'' : Obj) (cs : Array Value) (t : TypeId) : Blk ((((w.alloc o).alloc o').alloc o'').alloc (.cells cs t)) (w.heap.size + 1 + 1 + 1) cs t := by
  have := Blk.nw3 (w.alloc o) o' o'' cs t
  rwa [show (w.alloc o).heap.size = w.heap.size + 1 by simp] at this
theorem Blk.nw5 (w : World) (o o' o'' o3 : Obj) (cs : Array Value) (t : TypeId) : Blk (((((w.alloc o).alloc o').alloc o'').alloc o3).alloc (.cells cs t)) (w.heap.size + 1 + 1 + 1 + 1) cs t := by
  have := Blk.nw4 (w.alloc o) o' o'' o3 cs t
  rwa [show (w.alloc o).heap.size = w.heap.size + 1 by simp] at this
set_option maxHeartbeats 8000000 in
set_option maxRecDepth 10000 in
theorem l11Make_c {w : World} {base : Nat} {v0 v1 : Value} {bvs : List Value} {p : Pool} {name : ByteArray} {size : Int} (h : OwnP w base v0 v1 p bvs) (hs : SmallP p) (hp : PoolP p) (hbase : base ≤ w.heap.size) (hnm : name.size ≤ 1048576) :
    Calls Try.prog 101 #[.agg #[v0, v1], .string name, .int .i64 size] w (TurnsP base p (makeF p name size) w) := by
  have HS := Lib.hid hs
  have HK := Lib.hid hp
  obtain ⟨A0, A1, c0, c1, rfl, rfl, hpi⟩ := h.reads
  have HP := Lib.hid h
  have HI := Lib.hid hpi
  have hlv := HS.out.vols.len
  have hnx : name.size ≤ maxLen := by unfold maxLen; omega
  have HNX := Lib.hid hnx
  clear h hs hp hpi hnx
  go_enter Try.func101, Try.ntmps101
  go_wp2_with fail
  have hB : Blk ((w.alloc (.cells #[.slice A0 p.slots.length c0, .slice A1 p.vols.length c1] 30)).alloc (.cells #[.slice none 0 0, .slice none 0 0] 30)) w.heap.size #[.slice A0 p.slots.length c0, .slice A1 p.vols.length c1] 30 := (Blk.new _ _ _).alloc _
  have hR : Blk ((w.alloc (.cells #[.slice A0 p.slots.length c0, .slice A1 p.vols.length c1] 30)).alloc (.cells #[.slice none 0 0, .slice none 0 0] 30)) (w.heap.size + 1) #[.slice none 0 0, .slice none 0 0] 30 := Blk.nw2 _ _ _ _
  have hW : Bel w ((w.alloc (.cells #[.slice A0 p.slots.length c0, .slice A1 p.vols.length c1] 30)).alloc (.cells #[.slice none 0 0, .slice none 0 0] 30)) := bel_alloc (bel_alloc (Below.refl _ _) _) _
  generalize ((w.alloc (.cells #[.slice A0 p.slots.length c0, .slice A1 p.vols.length c1] 30)).alloc (.cells #[.slice none 0 0, .slice none 0 0] 30)) = W0 at hB hR hW ⊢
  -- what a failing way leaves
  have hno : ∀ W : World, Bel W0 W → makeF p name size = none →
      Blk ((W.setCell ⟨w.heap.size + 1, 0, none⟩ (.slice A0 p.slots.length c0)).setCell ⟨w.heap.size + 1, 1, none⟩ (.slice A1 p.vols.length c1)) (w.heap.size + 1) #[.slice A0 p.slots.length c0, .slice A1 p.vols.length c1] 30 ∧
      TurnsP base p (makeF p name size) w (.returned (.tuple #[.agg #[.slice A0 p.slots.length c0, .slice A1 p.vols.length c1], .bool false])) ((W.setCell ⟨w.heap.size + 1, 0, none⟩ (.slice A0 p.slots.length c0)).setCell ⟨w.heap.size + 1, 1, none⟩ (.slice A1 p.vols.length c1)) := by
    intro W hb hn
    have hR2 := hR.bel hb
    have hR3 := hR2.set 0 (.slice A0 p.slots.length c0) (cs' := #[.slice A0 p.slots.length c0, .slice none 0 0]) rfl
    have hR4 := hR3.set 1 (.slice A1 p.vols.length c1) (cs' := #[.slice A0 p.slots.length c0, .slice A1 p.vols.length c1]) rfl
    have hb5 := bel_set (bel_set (hW.tr hb) (Nat.le_succ _) 0 (.slice A0 p.slots.length c0)) (Nat.le_succ _) 1 (.slice A1 p.vols.length c1)
    have hop4 := ((HP.out.bel (hW.tr hb)).far hR2 (by decide) (by decide) (by decide) 0 (.slice A0 p.slots.length c0)).far hR3 (by decide) (by decide) (by decide) 1 (.slice A1 p.vols.length c1)
    refine ⟨hR4, ?_⟩
    rw [hn]
    exact ⟨_, _, _, rfl, hop4, hb5.mono hbase⟩
  have HNO := Lib.hid hno
  have HB := Lib.hid hB
  have HR := Lib.hid hR
  have HW := Lib.hid hW
  have q0 := HB.out.cell 0
  have q1 := HB.out.cell 1
  have r0 := HR.out.cell 0
  have r1 := HR.out.cell 1
  have f0 := HR.out.free 0
  have f1 := HR.out.free 1
  have z1 := HR.out.lt
  simp at q0 q1 r0 r1
  clear hB hR hW hno
  refine (l3Name_c name _ HNX.out).mono ?_
  rintro e w' ⟨rfl, rfl⟩
  cases h1 : isNm name with
  | false =>
    have HG := Lib.hid (show makeF p name size = none from makeF_no (.inl h1))
    go_wp2
    have hend := HNO.out W0 (Below.refl _ _) HG.out
    refine bodyPost_ret (results_ct rfl _ _ (w.heap.size + 1) 30 #[.slice A0 p.slots.length c0, .slice A1 p.vols.length c1] (0, 0) _ rfl hend.1 Try.underlying30 rfl (by kernel_rfl)) rfl ?_
    exact hend.2
  | true =>
    cases h3 : inR size 1 6 with
    | false =>
      have HG := Lib.hid (show makeF p name size = none from makeF_no (.inr (.inr h3)))
      go_wp2_with (go_at_call 98; refine (l6In_c size 1 6 _).mono ?_; rintro e w' ⟨rfl, rfl⟩)
      have hend := HNO.out W0 (Below.refl _ _) HG.out
      refine bodyPost_ret (results_ct rfl _ _ (w.heap.size + 1) 30 #[.slice A0 p.slots.length c0, .slice A1 p.vols.length c1] (0, 0) _ rfl hend.1 Try.underlying30 rfl (by kernel_rfl)) rfl ?_
      exact hend.2
    | true =>
      go_wp2_with (go_at_call 98; refine (l6In_c size 1 6 _).mono ?_; rintro e w' ⟨rfl, rfl⟩)
      refine (l11At_c _ p.vols A1 c1 name _ (HI.out.bel HW.out).v hlv).mono ?_
      rintro e w1 ⟨rfl, hb1⟩
      have hbd := volIdx_bd p.vols name
      clear q0 q1 r0 r1 f0 f1 z1
      have q0 := (HB.out.bel hb1).cell 0
      have q1 := (HB.out.bel hb1).cell 1
      have r0 := (HR.out.bel hb1).cell 0
      have r1 := (HR.out.bel hb1).cell 1
      have f0 := (HR.out.bel hb1).free 0
      have f1 := (HR.out.bel hb1).free 1
      have z1 := (HR.out.bel hb1).lt
      simp at q0 q1 r0 r1
      have HB1 := Lib.hid hb1
      clear hb1
      by_cases h2 : 0 ≤ volIdx p.vols name
      · have HG := Lib.hid (show makeF p name size = none from makeF_no (.inr (.inl h2)))
        go_wp2
        have hend := HNO.out w1 HB1.out HG.out
        refine bodyPost_ret (results_ct rfl _ _ (w.heap.size + 1) 30 #[.slice A0 p.slots.length c0, .slice A1 p.vols.length c1] (0, 0) _ rfl hend.1 Try.underlying30 rfl (by kernel_rfl)) rfl ?_
        exact hend.2
      · have h2' : volIdx p.vols name < 0 := by omega
        have hr := inR_iff.1 h3
        have hs1 : 1 ≤ size := hr.1
        have hs6 : size ≤ 6 := hr.2
        clear hr
        obtain ⟨zs, hzs⟩ : ∃ zs, List.replicate size.toNat (0 : Int) = zs := ⟨_, rfl⟩
        have HG := Lib.hid (show makeF p name size = some ⟨p.slots, insAt (posOf name p.vols) ⟨name, zs⟩ p.vols⟩ from hzs ▸ makeF_yes h1 h2' h3)
        have HZS := Lib.hid hzs
        have HNM := Lib.hid (And.intro h1 (fun (m : Nat) (y : Vol) (hy : p.vols[m]? = some y) => HK.out.v.nm hy))
        clear hzs
        go_wp2
        clear h1 h3
        refine start_ (n := 8) (S := fun w' => w'.cell? ⟨w.heap.size, 0, none⟩ = some (.slice A0 p.slots.length c0) ∧ w'.cell? ⟨w.heap.size, 1, none⟩ = some (.slice A1 p.vols.length c1)) (ds := [6]) #[false, false, false, false, false, false, false, false] (by kernel_rfl) rfl rfl ⟨q0, q1⟩ (fun hHeld => ?_)
        refine pure_ (i := 1) (N := some 24) (v := ?_) (a' := ?_) #[false, true, false, false, false, false, false, false] rfl rfl (by kernel_rfl) (fun _ _ _ h => h) (Or.inl ⟨by rfl, ?_⟩) ?_ ?_
        rotate_left
        · intro w'
          go_simp
          with_reducible rfl
        rotate_left
        · simp only [Act.put, List.setIfInBounds_toArray, List.set_cons_zero, List.set_cons_succ, i64_w, i32_w]
          rfl
        refine pure_ (i := 2) (N := some 25) (v := ?_) (a' := ?_) #[false, true, true, false, false, false, false, false] rfl rfl (by kernel_rfl) (fun _ _ _ h => h) (Or.inl ⟨by rfl, ?_⟩) ?_ ?_
        rotate_left
        · intro w'
          go_simp
          with_reducible rfl
        rotate_left
        · simp only [Act.put, List.setIfInBounds_toArray, List.set_cons_zero, List.set_cons_succ, i64_w, i32_w]
          rfl
        refine take_ (i := 0) (N := some 23) (v := ?_) (a' := ?_) #[true, true, true, false, false, false, false, false] rfl rfl (by kernel_rfl) (fun _ _ _ h => h) (Or.inl ⟨by rfl, ?_⟩) hHeld ?_ ?_
        rotate_left
        · rintro w' ⟨s0, s1⟩
          go_simp
          with_reducible rfl
        rotate_left
        · simp only [Act.put, List.setIfInBounds_toArray, List.set_cons_zero, List.set_cons_succ, i64_w, i32_w]
          rfl
        refine one_ (i := 3) (N := some 26) #[true, true, true, true, false, false, false, false] rfl rfl (by kernel_rfl) (by decide) (fun K hK => ?_)
        refine Kd.R_make_step kInt (w0 := w1.drew) w1.drew.heap.size 3 (by rfl) (N := 26) rfl 41 _ _ rfl size rfl rfl Try.underlying41 (.int .i64 0) 8 info_int rfl (by decide) (by omega) 0 (ok := fun _ => True) (okp := fun _ => True) (kInt_mkM _ _ _ 0) (fun _ hk => hk) trivial (by omega) (by omega) (Below.refl _ _) (Nat.le_refl _) ?_
        intro v2 w2 ho hb2' hg_ hnew_
        clear hg_ hnew_
        have ho2 : OwnI w2 w1.drew.heap.size v2 zs := HZS.out ▸ ownI_of_R ho
        have hb1' : Bel W0 w2 := Bel.tr (Bel.tr HB1.out (Below.refl _ _).drew) hb2'
        have HB1' := Lib.hid hb1'
        obtain ⟨A2, c2, rfl, hc2, hC2⟩ := ho2.reads
        have hlow : OwnI w2 base (.slice A2 zs.length c2) zs := own_lower ho2 (Nat.le_trans hbase (Nat.le_trans HW.out.size HB1.out.size))
        have HL2 := Lib.hid hlow
        have hap : ∀ (m : Nat) (b' : Value) (k : Nat), bvs[m]? = some b' → b'.ownBlock = some k → Value.ownBlock (.slice A2 zs.length c2) ≠ some k := fun m b' k hm hk h2 => by have e1 := HP.out.v.inner_lt hm hk; have e2 := own_block_ge ho2 h2; have e3 := HW.out.size; have e4 := HB1.out.size; have e5 : w1.drew.heap.size = w1.heap.size := rfl; omega
        have HAP := Lib.hid hap
        clear hlow hap
        have u1 := (HB.out.bel hb1').cell 0
        have u2 := (HB.out.bel hb1').cell 1
        simp at u1 u2
        clear ho ho2 hb1' hb2' hC2 hc2
        refine hK.out _ _ ⟨u1, u2⟩ (fun hHeld => ?_)
        clear hK K
        refine norm_ (a' := ?_) ?_ ?_
        rotate_left
        · show Act.put _ (some 26) _ = _
          simp only [Act.put, List.setIfInBounds_toArray, List.set_cons_zero, List.set_cons_succ, i64_w, i32_w]
          rfl
        refine pure_ (i := 4) (N := some 27) (v := ?_) (a' := ?_) #[true, true, true, true, true, false, false, false] rfl rfl (by kernel_rfl) (fun _ _ _ h => h) (Or.inl ⟨by rfl, ?_⟩) ?_ ?_
        rotate_left
        · intro w'
          go_simp
          with_reducible rfl
        rotate_left
        · simp only [Act.put, List.setIfInBounds_toArray, List.set_cons_zero, List.set_cons_succ, i64_w, i32_w]
          rfl
        refine one_ (i := 5) (N := some 28) #[true, true, true, true, true, true, false, false] rfl rfl (by kernel_rfl) (by decide) (fun K hK => ?_)
        refine goes_ Try.func141 (by kernel_rfl) rfl #[.agg #[.slice A0 p.slots.length c0, .slice A1 p.vols.length c1], .agg #[.string name, .slice A2 zs.length c2]] (by rfl) rfl rfl (by simp only [List.map_toArray, List.map_cons, List.map_nil]; rfl) ?_
        with_reducible refine (l11Add_c (x := ⟨name, zs⟩) (HP.out.bel (HW.out.tr HB1'.out)) HL2.out HS.out (Nat.le_trans hbase (HW.out.tr HB1'.out).size) HAP.out HNM.out.1 HNM.out.2).mono ?_
        rintro e w3 ⟨v3, rfl, ho3, hb3⟩
        have HO3 := Lib.hid ho3
        have HB3 := Lib.hid (HB1'.out.tr hb3)
        obtain ⟨A7, A8, c7, c8, e7, rfl, hpi3⟩ := ho3.reads
        have s0 := (HR.out.bel HB3.out).cell 0
        have s1 := (HR.out.bel HB3.out).cell 1
        have t0 := (HR.out.bel HB3.out).free 0
        have t1 := (HR.out.bel HB3.out).free 1
        simp at s0 s1
        have u3 := (HB.out.bel HB3.out).cell 0
        have u4 := (HB.out.bel HB3.out).cell 1
        simp at u3 u4
        clear ho3 hb3 hpi3 e7
        refine ⟨_, rfl, ?_⟩
        refine hK.out _ _ ⟨u3, u4⟩ (fun hHeld => ?_)
        clear hK K
        refine norm_ (a' := ?_) ?_ ?_
        rotate_left
        · show Act.put _ (some 28) _ = _
          simp only [Act.put, List.setIfInBounds_toArray, List.set_cons_zero, List.set_cons_succ, i64_w, i32_w]
          rfl
        refine last_ (i := 6) (N := none) #[true, true, true, true, true, true, true, false] rfl rfl (by kernel_rfl) (by decide) (fun K hK => ?_)
        refine skip_ (w1 := ?_) (by rfl) rfl ?_ ?_
        rotate_left
        · go_simp
          rfl
        refine hK.out _ _ ?_
        clear hK K
        refine pure_ (i := 7) (N := some 7) (v := ?_) (a' := ?_) #[true, true, true, true, true, true, true, true] rfl rfl (by kernel_rfl) (fun _ _ _ h => h) (Or.inl ⟨by rfl, ?_⟩) ?_ ?_
        rotate_left
        · intro w'
          go_simp
          with_reducible rfl
        rotate_left
        · simp only [Act.put, List.setIfInBounds_toArray, List.set_cons_zero, List.set_cons_succ, i64_w, i32_w]
          rfl
        refine done_ (by kernel_rfl) ?_
        clear hHeld
        go_wp2
        have hR2 := HR.out.bel HB3.out
        have hR3 := hR2.set 0 (.slice A0 p.slots.length c0) (cs' := #[.slice A0 p.slots.length c0, .slice none 0 0]) rfl
        have hR4 := hR3.set 1 (.slice A8 (insAt (posOf name p.vols) (⟨name, zs⟩ : Vol) p.vols).length c8) (cs' := #[.slice A0 p.slots.length c0, .slice A8 (insAt (posOf name p.vols) (⟨name, zs⟩ : Vol) p.vols).length c8]) rfl
        have hb5 := bel_set (bel_set (HW.out.tr HB3.out) (Nat.le_succ _) 0 (.slice A0 p.slots.length c0)) (Nat.le_succ _) 1 (.slice A8 (insAt (posOf name p.vols) (⟨name, zs⟩ : Vol) p.vols).length c8)
        have hop4 := (HO3.out.far hR2 (by decide) (by decide) (by decide) 0 (.slice A0 p.slots.length c0)).far hR3 (by decide) (by decide) (by decide) 1 (.slice A8 (insAt (posOf name p.vols) (⟨name, zs⟩ : Vol) p.vols).length c8)
        refine bodyPost_ret (results_ct rfl _ _ (w.heap.size + 1) 30 #[.slice A0 p.slots.length c0, .slice A8 (insAt (posOf name p.vols) (⟨name, zs⟩ : Vol) p.vols).length c8] (0, 0) _ rfl hR4 Try.underlying30 rfl (by kernel_rfl)) rfl ?_
        rw [HG.out]
        exact ⟨_, _, _, rfl, hop4, hb5.mono hbase⟩
end Go.Proofs.Ytpobgjkmjlmafaa

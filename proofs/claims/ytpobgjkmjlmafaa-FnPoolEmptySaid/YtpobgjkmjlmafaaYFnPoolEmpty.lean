/- The law FnPoolEmpty: its body walked. -/
import Derived.Test.YtpobgjkmjlmafaaY5
namespace Go.Proofs.Ytpobgjkmjlmafaa
open Go.RowKit Go.Proofs.YtpobgjkmjlmafaaW.PrintWords Go.Proofs.YtpobgjkmjlmafaaW.PrintLast
set_option linter.unusedVariables false
set_option linter.unusedSimpArgs false

/-- A pool in a variable, of one's own. -/
structure XVar (w : World) (b base : Nat) (A0 A1 : Option Addr) (c0 c1 : Nat) (q : Pool) (bvs : List Value) : Prop where
  blk : Blk w b #[.slice A0 q.slots.length c0, .slice A1 q.vols.length c1] 30
  own : OwnP w base (.slice A0 q.slots.length c0) (.slice A1 q.vols.length c1) q bvs
theorem XVar.bel {w w' : World} {b base : Nat} {A0 A1 : Option Addr} {c0 c1 : Nat} {q : Pool} {bvs : List Value} (h : XVar w b base A0 A1 c0 c1 q bvs) (hb : Bel w w') : XVar w' b base A0 A1 c0 c1 q bvs := ⟨h.blk.bel hb, h.own.bel hb⟩
theorem XVar.pv {w : World} {b base : Nat} {A0 A1 : Option Addr} {c0 c1 : Nat} {q : Pool} {bvs : List Value} (h : XVar w b base A0 A1 c0 c1 q bvs) : PVar w b A0 A1 c0 c1 q := by
  obtain ⟨a0, a1, l0, l1, e0_, e1_, hpi⟩ := h.own.reads
  have e0_ := slice_eq e0_
  have e1_ := slice_eq e1_
  obtain ⟨rfl, -, rfl⟩ := e0_
  obtain ⟨rfl, -, rfl⟩ := e1_
  exact ⟨h.blk, hpi⟩
set_option maxHeartbeats 8000000 in
set_option maxRecDepth 10000 in
theorem lawFnPoolEmpty_c {w : World} {A : Option Addr} {n c : Nat} {bs : List Int} (h : CodeIn w A n c bs) (hn : n ≤ 9223372036854775807) :
    Calls Try.prog 4 #[.slice A n c] w (Ret (.bool true) w) := by
  have H := Lib.hid h
  clear h
  go_enter Try.func4, Try.ntmps4
  by_cases hlen : (1048576 : Int) < (n : Int)
  · go_wp2
    go_ret
    exact ⟨rfl, Below.refl _ _⟩
  go_wp2_with fail
  refine (drawText_c H.out hn).mono ?_
  rintro e w1 ⟨v0, v1, p, bvs, rfl, hp, ho, hb⟩
  obtain ⟨Ap, Bp, cp, dp, rfl, rfl, hin⟩ := ho.reads
  have HP := Lib.hid hp
  have HSp := Lib.hid hp.small
  have Ip := Lib.hid hin
  have OWp := Lib.hid ho
  have KW := Lib.hid hb
  clear hp hin hb ho
  obtain ⟨t, ht⟩ : ∃ t, poolT p = t := ⟨_, rfl⟩
  have HT := Lib.hid ht
  have hts : (t.toList == t.toList) = true := by simp
  clear ht
  cases hok : poolOk p
  · have HOK := Lib.hid hok
    clear hok
    go_wp2_with fail
    have hnew := PVar.new Ip.out
    have hb : Bel w1 (w1.alloc (.cells #[.slice Ap p.slots.length cp, .slice Bp p.vols.length dp] 30)) := bel_alloc (Below.refl _ _) _
    generalize w1.alloc (.cells #[.slice Ap p.slots.length cp, .slice Bp p.vols.length dp] 30) = W2 at hnew hb ⊢
    replace Ip := Lib.hid (Ip.out.bel hb)
    replace OWp := Lib.hid (OWp.out.bel hb)
    replace KW := Lib.hid (KW.out.tr hb)
    obtain ⟨bkp, hbn⟩ : ∃ b, w1.heap.size = b := ⟨_, rfl⟩
    rw [hbn] at hnew ⊢
    have Pp := Lib.hid hnew
    clear hnew hb hbn Ip
    refine (implText_n Pp.out.inn HSp.out HT.out).mono ?_
    rintro e w3 ⟨rfl, hb⟩
    replace OWp := Lib.hid (OWp.out.bel hb)
    replace Pp := Lib.hid (Pp.out.bel hb)
    replace KW := Lib.hid (KW.out.tr hb)
    clear hb
    have qp0 := Pp.out.c0
    have qp1 := Pp.out.c1
    have yp := Pp.out.lt
    go_wp2_with fail
    clear qp0 qp1 yp
    refine (specText_n Pp.out.inn HSp.out HT.out).mono ?_
    rintro e w4 ⟨rfl, hb⟩
    replace OWp := Lib.hid (OWp.out.bel hb)
    replace Pp := Lib.hid (Pp.out.bel hb)
    replace KW := Lib.hid (KW.out.tr hb)
    clear hb
    have qp0 := Pp.out.c0
    have qp1 := Pp.out.c1
    have yp := Pp.out.lt
    go_wp2_with fail
    clear qp0 qp1 yp
    refine (specOk_n Pp.out.inn HSp.out HOK.out).mono ?_
    rintro e w5 ⟨rfl, hb⟩
    replace OWp := Lib.hid (OWp.out.bel hb)
    replace Pp := Lib.hid (Pp.out.bel hb)
    replace KW := Lib.hid (KW.out.tr hb)
    clear hb
    have qp0 := Pp.out.c0
    have qp1 := Pp.out.c1
    have yp := Pp.out.lt
    go_wp2_with fail
    clear qp0 qp1 yp
    refine (specText_n Pp.out.inn HSp.out HT.out).mono ?_
    rintro e w6 ⟨rfl, hb⟩
    replace OWp := Lib.hid (OWp.out.bel hb)
    replace Pp := Lib.hid (Pp.out.bel hb)
    replace KW := Lib.hid (KW.out.tr hb)
    clear hb
    have qp0 := Pp.out.c0
    have qp1 := Pp.out.c1
    have yp := Pp.out.lt
    go_wp2
    go_ret
    exact ⟨rfl, KW.out⟩
  have HV := Lib.hid (poolOk_iff.1 hok)
  have HOK := Lib.hid hok
  clear hok
  have hl4 := HV.out.v.len
  go_wp2_with fail
  have hnew := PVar.new Ip.out
  have hb : Bel w1 (w1.alloc (.cells #[.slice Ap p.slots.length cp, .slice Bp p.vols.length dp] 30)) := bel_alloc (Below.refl _ _) _
  generalize w1.alloc (.cells #[.slice Ap p.slots.length cp, .slice Bp p.vols.length dp] 30) = W2 at hnew hb ⊢
  replace Ip := Lib.hid (Ip.out.bel hb)
  replace OWp := Lib.hid (OWp.out.bel hb)
  replace KW := Lib.hid (KW.out.tr hb)
  obtain ⟨bkp, hbn⟩ : ∃ b, w1.heap.size = b := ⟨_, rfl⟩
  rw [hbn] at hnew ⊢
  have Pp := Lib.hid hnew
  clear hnew hb hbn Ip
  refine (implText_n Pp.out.inn HSp.out HT.out).mono ?_
  rintro e w3 ⟨rfl, hb⟩
  replace OWp := Lib.hid (OWp.out.bel hb)
  replace Pp := Lib.hid (Pp.out.bel hb)
  replace KW := Lib.hid (KW.out.tr hb)
  clear hb
  have qp0 := Pp.out.c0
  have qp1 := Pp.out.c1
  have yp := Pp.out.lt
  go_wp2_with fail
  clear qp0 qp1 yp
  refine (specText_n Pp.out.inn HSp.out HT.out).mono ?_
  rintro e w4 ⟨rfl, hb⟩
  replace OWp := Lib.hid (OWp.out.bel hb)
  replace Pp := Lib.hid (Pp.out.bel hb)
  replace KW := Lib.hid (KW.out.tr hb)
  clear hb
  have qp0 := Pp.out.c0
  have qp1 := Pp.out.c1
  have yp := Pp.out.lt
  go_wp2_with fail
  clear qp0 qp1 yp
  refine (specOk_n Pp.out.inn HSp.out HOK.out).mono ?_
  rintro e w5 ⟨rfl, hb⟩
  replace OWp := Lib.hid (OWp.out.bel hb)
  replace Pp := Lib.hid (Pp.out.bel hb)
  replace KW := Lib.hid (KW.out.tr hb)
  clear hb
  have qp0 := Pp.out.c0
  have qp1 := Pp.out.c1
  have yp := Pp.out.lt
  go_wp2_with fail
  clear qp0 qp1 yp
  have hX : XVar (w5.alloc (.cells #[.slice Ap p.slots.length cp, .slice Bp p.vols.length dp] 30)) w5.heap.size w.heap.size Ap Bp cp dp p bvs := ⟨Blk.new _ _ _, OWp.out.bel (bel_alloc (Below.refl _ _) _)⟩
  have hb : Bel w5 (w5.alloc (.cells #[.slice Ap p.slots.length cp, .slice Bp p.vols.length dp] 30)) := bel_alloc (Below.refl _ _) _
  generalize w5.alloc (.cells #[.slice Ap p.slots.length cp, .slice Bp p.vols.length dp] 30) = W6 at hX hb ⊢
  obtain ⟨bkx, hbn⟩ : ∃ b, w5.heap.size = b := ⟨_, rfl⟩
  rw [hbn] at hX ⊢
  have HLE := Lib.hid (show w5.heap.size ≤ bkx by omega)
  have HWB := Lib.hid (show w.heap.size ≤ w5.heap.size from KW.out.size)
  have X0 := Lib.hid hX
  have B0 := Lib.hid hb
  clear hX hb hbn OWp
  go_loopg [6] p.vols.length (fun gg v6 W => ∃ (k : Nat) (q : Pool) (Ax Bx : Option Addr) (cx dx : Nat) (bv : List Value), gg + k = p.vols.length ∧ v6 = .int .i64 k ∧ Hid (XVar W bkx w.heap.size Ax Bx cx dx q bv) ∧ Hid (PoolP q ∧ q.vols = p.vols.drop k) ∧ Hid (Bel w5 W))
  case atStart => exact ⟨0, p, Ap, Bp, cp, dp, bvs, rfl, rfl, X0.out, Lib.hid ⟨HV.out, rfl⟩, B0.out⟩
  case round =>
    clear X0 B0
    obtain ⟨k, q, Ax, Bx, cx, dx, bv, hk, rfl, Xx, HQ, BW⟩ := hrel
    have Pq := Lib.hid (Pp.out.bel BW.out)
    replace KW := Lib.hid (KW.out.tr BW.out)
    by_cases hlt : k < p.vols.length
    · obtain ⟨v, hv⟩ := getQ hlt
      obtain ⟨ad, A3_, n3, hBx, hcv, hcb, _, _⟩ := at_vol Pq.out.inn.v hv
      subst hBx
      obtain ⟨y, hy, hyp, hyv⟩ := gone_head HQ.out.1 (v := v) (vs := p.vols.drop (k + 1)) (by rw [HQ.out.2]; exact drop_get hv)
      have HE := Lib.hid (ch_some HQ.out.1 hy)
      have HSq := Lib.hid HQ.out.1.small
      have HVy := Lib.hid (And.intro hyp hyv)
      have PX := Lib.hid Xx.out.pv
      have HBS := Lib.hid BW.out.size
      clear hy hyp hyv hv hcb
      have qp1 := Pq.out.c1
      have qp0 := Pq.out.c0
      go_wp2
      clear qp0 qp1
      have hcw := Lib.hid (fun (W : World) (h : PoolIn W Ax Bx cx dx q) => (by have := implPoolGone_c (name := v.name) h HSq.out; rw [HE.out.1, HE.out.2] at this; exact this : Calls Try.prog 27 #[.agg #[.slice Ax q.slots.length cx, .slice Bx q.vols.length dx], .string v.name] W (MadePB W y true)))
      have hcv2 := gb_cell hcv
      clear hcv
      replace BW := Lib.hid BW.out
      have ZXx := Lib.hid (Xx.out.bel (Below.refl _ _).drew)
      have ZPq := Lib.hid (Pq.out.bel (Below.refl _ _).drew)
      have ZPX := Lib.hid (PX.out.bel (Below.refl _ _).drew)
      have ZBW := Lib.hid (BW.out.tr (Below.refl _ _).drew)
      have ZKW := Lib.hid (KW.out.tr (Below.refl _ _).drew)
      have D0 := Lib.hid (show Bel wr.drew wr.drew from Below.refl _ _)
      have s0_ := ZPX.out.c0
      have s1_ := ZPX.out.c1
      have s2_ := ZPq.out.c1
      have s3_ := hcv2 ⟨wr.drew, (Below.refl _ _).drew⟩
      refine start_ (n := 14) (S := fun w' => w'.cell? ⟨bkx, 0, none⟩ = some (.slice Ax q.slots.length cx) ∧ w'.cell? ⟨bkx, 1, none⟩ = some (.slice Bx q.vols.length dx) ∧ w'.cell? ⟨bkp, 1, none⟩ = some (.slice (some ad) p.vols.length dp) ∧ w'.cell? (ad.add (k * 2)) = some (.string v.name)) (ds := [12]) #[false, false, false, false, false, false, false, false, false, false, false, false, false, false] (by kernel_rfl) rfl rfl ⟨s0_, s1_, s2_, s3_⟩ (fun hHeld => ?_)
      refine pure_ (i := 1) (N := some 39) (v := ?_) (a' := ?_) #[false, true, false, false, false, false, false, false, false, false, false, false, false, false] rfl rfl (by kernel_rfl) (fun _ _ _ h => h) (Or.inl ⟨by rfl, ?_⟩) ?_ ?_
      rotate_left
      · intro w'
        go_simp
        with_reducible rfl
      rotate_left
      · simp only [Act.put, List.setIfInBounds_toArray, List.set_cons_zero, List.set_cons_succ, i64_w, i32_w]
        rfl
      refine pure_ (i := 3) (N := some 41) (v := ?_) (a' := ?_) #[false, true, false, true, false, false, false, false, false, false, false, false, false, false] rfl rfl (by kernel_rfl) (fun _ _ _ h => h) (Or.inl ⟨by rfl, ?_⟩) ?_ ?_
      rotate_left
      · intro w'
        go_simp
        with_reducible rfl
      rotate_left
      · simp only [Act.put, List.setIfInBounds_toArray, List.set_cons_zero, List.set_cons_succ, i64_w, i32_w]
        rfl
      refine take_ (i := 0) (N := some 38) (v := ?_) (a' := ?_) #[true, true, false, true, false, false, false, false, false, false, false, false, false, false] rfl rfl (by kernel_rfl) (fun _ _ _ h => h) (Or.inl ⟨by rfl, ?_⟩) hHeld ?_ ?_
      rotate_left
      · rintro w' ⟨s0, s1, s2, s3⟩
        go_simp
        with_reducible rfl
      rotate_left
      · simp only [Act.put, List.setIfInBounds_toArray, List.set_cons_zero, List.set_cons_succ, i64_w, i32_w]
        rfl
      refine take_ (i := 2) (N := some 40) (v := ?_) (a' := ?_) #[true, true, true, true, false, false, false, false, false, false, false, false, false, false] rfl rfl (by kernel_rfl) (fun _ _ _ h => h) (Or.inl ⟨by rfl, ?_⟩) hHeld ?_ ?_
      rotate_left
      · rintro w' ⟨s0, s1, s2, s3⟩
        go_simp
        with_reducible rfl
      rotate_left
      · simp only [Act.put, List.setIfInBounds_toArray, List.set_cons_zero, List.set_cons_succ, i64_w, i32_w]
        rfl
      refine pure_ (i := 4) (N := some 42) (v := ?_) (a' := ?_) #[true, true, true, true, true, false, false, false, false, false, false, false, false, false] rfl rfl (by kernel_rfl) (fun _ _ _ h => h) (Or.inl ⟨by rfl, ?_⟩) ?_ ?_
      rotate_left
      · intro w'
        go_simp
        with_reducible rfl
      rotate_left
      · simp only [Act.put, List.setIfInBounds_toArray, List.set_cons_zero, List.set_cons_succ, i64_w, i32_w]
        rfl
      refine pure_ (i := 5) (N := some 43) (v := ?_) (a' := ?_) #[true, true, true, true, true, true, false, false, false, false, false, false, false, false] rfl rfl (by kernel_rfl) (fun _ _ _ h => h) (Or.inl ⟨by rfl, ?_⟩) ?_ ?_
      rotate_left
      · intro w'
        go_simp
        with_reducible rfl
      rotate_left
      · simp only [Act.put, List.setIfInBounds_toArray, List.set_cons_zero, List.set_cons_succ, i64_w, i32_w]
        rfl
      refine take_ (i := 6) (N := some 44) (v := ?_) (a' := ?_) #[true, true, true, true, true, true, true, false, false, false, false, false, false, false] rfl rfl (by kernel_rfl) (fun _ _ _ h => h) (Or.inl ⟨by rfl, ?_⟩) hHeld ?_ ?_
      rotate_left
      · rintro w' ⟨s0, s1, s2, s3⟩
        go_simp
        with_reducible rfl
      rotate_left
      · simp only [Act.put, List.setIfInBounds_toArray, List.set_cons_zero, List.set_cons_succ, i64_w, i32_w]
        rfl
      refine join_ (σ := Option Addr × Nat × Option Addr × Nat × List Value × Nat) 2 #[true, true, true, true, true, true, true, true, true, true, true, true, false, false] (fun s => [(45, .tuple #[.agg #[.slice s.1 y.slots.length s.2.1, .slice s.2.2.1 y.vols.length s.2.2.2.1], .bool true]), (37, .tuple #[.agg #[.slice s.1 y.slots.length s.2.1, .slice s.2.2.1 y.vols.length s.2.2.2.1], .bool true]), (46, .agg #[.slice s.1 y.slots.length s.2.1, .slice s.2.2.1 y.vols.length s.2.2.2.1]), (47, .bool true), (7, .pointer (some ⟨s.2.2.2.2.2, 0, none⟩))]) (fun s w' => (w'.cell? ⟨bkx, 0, none⟩ = some (.slice Ax q.slots.length cx) ∧ w'.cell? ⟨bkx, 1, none⟩ = some (.slice Bx q.vols.length dx) ∧ w'.cell? ⟨bkp, 1, none⟩ = some (.slice (some ad) p.vols.length dp) ∧ w'.cell? (ad.add (k * 2)) = some (.string v.name)) ∧ OwnP w' wr.drew.heap.size (.slice s.1 y.slots.length s.2.1) (.slice s.2.2.1 y.vols.length s.2.2.2.1) y s.2.2.2.2.1 ∧ Blk w' s.2.2.2.2.2 #[.slice none 0 0, .slice none 0 0] 30 ∧ wr.drew.heap.size ≤ s.2.2.2.2.2 ∧ Bel wr.drew w') ?_ ?_
      rotate_left
      · intro hCont
        refine two_ (i := 7) (j := 11) (Ni := some 45) (Nj := some 7) #[true, true, true, true, true, true, true, true, false, false, false, false, false, false] #[true, true, true, true, true, true, true, false, false, false, false, true, false, false] rfl rfl rfl rfl (by kernel_rfl) (by decide) (by decide) (fun K hK => ?_) (fun K hK => ?_)
        · skip
          refine goes_ Try.func27 (by kernel_rfl) rfl #[.agg #[.slice Ax q.slots.length cx, .slice Bx q.vols.length dx], .string v.name] (by rfl) rfl rfl (by simp only [List.map_toArray, List.map_cons, List.map_nil]; rfl) ?_
          with_reducible refine (hcw.out _ (ZPX.out.bel D0.out).inn).mono ?_
          rintro e w1_ ⟨va, vb, bva, rfl, ho, X1⟩
          have D1 := Lib.hid (Bel.tr D0.out X1)
          have Q1 : Hid (OwnP w1_ wr.drew.heap.size va vb y bva) := Lib.hid (ho.lower D0.out.size)
          obtain ⟨A2, A3, k2, k3, rfl, rfl, hpi⟩ := ho.reads
          clear ho hpi
          refine ⟨_, rfl, ?_⟩
          refine hK.out _ _ ⟨(ZPX.out.bel D1.out).c0, (ZPX.out.bel D1.out).c1, (ZPq.out.bel D1.out).c1, hcv2 ⟨_, (Bel.tr (b := wr.drew) (Below.refl _ _).drew D1.out)⟩⟩ (fun hHeld => ?_)
          clear hK K
          refine norm_ (a' := ?_) ?_ ?_
          rotate_left
          · show Act.put _ (some 45) _ = _
            simp only [Act.put, List.setIfInBounds_toArray, List.set_cons_zero, List.set_cons_succ, i64_w, i32_w]
            rfl
          refine pure_ (i := 8) (N := some 37) (v := ?_) (a' := ?_) #[true, true, true, true, true, true, true, true, true, false, false, false, false, false] rfl rfl (by kernel_rfl) (fun _ _ _ h => h) (Or.inl ⟨by rfl, ?_⟩) ?_ ?_
          rotate_left
          · intro w'
            go_simp
            with_reducible rfl
          rotate_left
          · simp only [Act.put, List.setIfInBounds_toArray, List.set_cons_zero, List.set_cons_succ, i64_w, i32_w]
            rfl
          refine pure_ (i := 9) (N := some 46) (v := ?_) (a' := ?_) #[true, true, true, true, true, true, true, true, true, true, false, false, false, false] rfl rfl (by kernel_rfl) (fun _ _ _ h => h) (Or.inl ⟨by rfl, ?_⟩) ?_ ?_
          rotate_left
          · intro w'
            go_simp
            with_reducible rfl
          rotate_left
          · simp only [Act.put, List.setIfInBounds_toArray, List.set_cons_zero, List.set_cons_succ, i64_w, i32_w]
            rfl
          refine pure_ (i := 10) (N := some 47) (v := ?_) (a' := ?_) #[true, true, true, true, true, true, true, true, true, true, true, false, false, false] rfl rfl (by kernel_rfl) (fun _ _ _ h => h) (Or.inl ⟨by rfl, ?_⟩) ?_ ?_
          rotate_left
          · intro w'
            go_simp
            with_reducible rfl
          rotate_left
          · simp only [Act.put, List.setIfInBounds_toArray, List.set_cons_zero, List.set_cons_succ, i64_w, i32_w]
            rfl
          refine one_ (i := 11) (N := some 7) #[true, true, true, true, true, true, true, true, true, true, true, true, false, false] rfl rfl (by kernel_rfl) (by decide) (fun K hK => ?_)
          refine value_ (w1 := ?_) (v := ?_) (by rfl) rfl ?_ ?_
          rotate_left 2
          · go_simp
            constructor
            · rfl
            · rfl
          have D2 : Hid (Bel wr.drew (w1_.alloc (.cells #[.slice none 0 0, .slice none 0 0] 30))) := Lib.hid (bel_alloc D1.out (.cells #[.slice none 0 0, .slice none 0 0] 30))
          have Q2 := Lib.hid (OwnP.bel Q1.out (bel_alloc (Below.refl _ _) (.cells #[.slice none 0 0, .slice none 0 0] 30)))
          have O2 : Hid (Blk (w1_.alloc (.cells #[.slice none 0 0, .slice none 0 0] 30)) w1_.heap.size #[.slice none 0 0, .slice none 0 0] 30) := Lib.hid (Blk.new w1_ #[.slice none 0 0, .slice none 0 0] 30)
          have L2 := D1.out.size
          refine hK.out _ _ ⟨(ZPX.out.bel D2.out).c0, (ZPX.out.bel D2.out).c1, (ZPq.out.bel D2.out).c1, hcv2 ⟨_, (Bel.tr (b := wr.drew) (Below.refl _ _).drew D2.out)⟩⟩ (fun hHeld => ?_)
          clear hK K
          refine norm_ (a' := ?_) ?_ ?_
          rotate_left
          · show Act.put _ (some 7) _ = _
            simp only [Act.put, List.setIfInBounds_toArray, List.set_cons_zero, List.set_cons_succ, i64_w, i32_w]
            rfl
          exact norm_ (by simp only [putAll, Act.put, List.setIfInBounds_toArray, List.set_cons_zero, List.set_cons_succ]) (hCont (A2, k2, A3, k3, bva, w1_.heap.size) _ ⟨hHeld, Q2.out, O2.out, L2, D2.out⟩)
        · skip
          refine value_ (w1 := ?_) (v := ?_) (by rfl) rfl ?_ ?_
          rotate_left 2
          · go_simp
            constructor
            · rfl
            · rfl
          have D1 : Hid (Bel wr.drew (wr.alloc (.cells #[.slice none 0 0, .slice none 0 0] 30)).drew) := Lib.hid (bel_alloc D0.out (.cells #[.slice none 0 0, .slice none 0 0] 30))
          have O1 : Hid (Blk (wr.alloc (.cells #[.slice none 0 0, .slice none 0 0] 30)).drew wr.drew.heap.size #[.slice none 0 0, .slice none 0 0] 30) := Lib.hid (Blk.new wr.drew #[.slice none 0 0, .slice none 0 0] 30)
          have L1 := D0.out.size
          refine hK.out _ _ ⟨(ZPX.out.bel D1.out).c0, (ZPX.out.bel D1.out).c1, (ZPq.out.bel D1.out).c1, hcv2 ⟨_, (Bel.tr (b := wr.drew) (Below.refl _ _).drew D1.out)⟩⟩ (fun hHeld => ?_)
          clear hK K
          refine norm_ (a' := ?_) ?_ ?_
          rotate_left
          · show Act.put _ (some 7) _ = _
            simp only [Act.put, List.setIfInBounds_toArray, List.set_cons_zero, List.set_cons_succ, i64_w, i32_w]
            rfl
          refine one_ (i := 7) (N := some 45) #[true, true, true, true, true, true, true, true, false, false, false, true, false, false] rfl rfl (by kernel_rfl) (by decide) (fun K hK => ?_)
          refine goes_ Try.func27 (by kernel_rfl) rfl #[.agg #[.slice Ax q.slots.length cx, .slice Bx q.vols.length dx], .string v.name] (by rfl) rfl rfl (by simp only [List.map_toArray, List.map_cons, List.map_nil]; rfl) ?_
          with_reducible refine (hcw.out _ (ZPX.out.bel D1.out).inn).mono ?_
          rintro e w2_ ⟨va, vb, bva, rfl, ho, X2⟩
          have D2 := Lib.hid (Bel.tr D1.out X2)
          have O2 := Lib.hid (Blk.bel O1.out X2)
          have Q2 : Hid (OwnP w2_ wr.drew.heap.size va vb y bva) := Lib.hid (ho.lower D1.out.size)
          obtain ⟨A2, A3, k2, k3, rfl, rfl, hpi⟩ := ho.reads
          clear ho hpi
          refine ⟨_, rfl, ?_⟩
          refine hK.out _ _ ⟨(ZPX.out.bel D2.out).c0, (ZPX.out.bel D2.out).c1, (ZPq.out.bel D2.out).c1, hcv2 ⟨_, (Bel.tr (b := wr.drew) (Below.refl _ _).drew D2.out)⟩⟩ (fun hHeld => ?_)
          clear hK K
          refine norm_ (a' := ?_) ?_ ?_
          rotate_left
          · show Act.put _ (some 45) _ = _
            simp only [Act.put, List.setIfInBounds_toArray, List.set_cons_zero, List.set_cons_succ, i64_w, i32_w]
            rfl
          refine pure_ (i := 8) (N := some 37) (v := ?_) (a' := ?_) #[true, true, true, true, true, true, true, true, true, false, false, true, false, false] rfl rfl (by kernel_rfl) (fun _ _ _ h => h) (Or.inl ⟨by rfl, ?_⟩) ?_ ?_
          rotate_left
          · intro w'
            go_simp
            with_reducible rfl
          rotate_left
          · simp only [Act.put, List.setIfInBounds_toArray, List.set_cons_zero, List.set_cons_succ, i64_w, i32_w]
            rfl
          refine pure_ (i := 9) (N := some 46) (v := ?_) (a' := ?_) #[true, true, true, true, true, true, true, true, true, true, false, true, false, false] rfl rfl (by kernel_rfl) (fun _ _ _ h => h) (Or.inl ⟨by rfl, ?_⟩) ?_ ?_
          rotate_left
          · intro w'
            go_simp
            with_reducible rfl
          rotate_left
          · simp only [Act.put, List.setIfInBounds_toArray, List.set_cons_zero, List.set_cons_succ, i64_w, i32_w]
            rfl
          refine pure_ (i := 10) (N := some 47) (v := ?_) (a' := ?_) #[true, true, true, true, true, true, true, true, true, true, true, true, false, false] rfl rfl (by kernel_rfl) (fun _ _ _ h => h) (Or.inl ⟨by rfl, ?_⟩) ?_ ?_
          rotate_left
          · intro w'
            go_simp
            with_reducible rfl
          rotate_left
          · simp only [Act.put, List.setIfInBounds_toArray, List.set_cons_zero, List.set_cons_succ, i64_w, i32_w]
            rfl
          exact norm_ (by simp only [putAll, Act.put, List.setIfInBounds_toArray, List.set_cons_zero, List.set_cons_succ]) (hCont (A2, k2, A3, k3, bva, wr.heap.size) _ ⟨hHeld, Q2.out, O2.out, L1, D2.out⟩)
      rintro ⟨A2, k2, A3, k3, bvc, nb⟩ w3_ ⟨hHeld, hQ, hO, hL, hD⟩
      dsimp only at hQ hO hL
      have r0 := hO.cell 0
      have r1 := hO.cell 1
      have f0 := hO.free 0
      have f1 := hO.free 1
      simp at r0 r1
      refine norm_ (a' := ?_) ?_ ?_
      rotate_left
      · simp only [putAll, Act.put, List.setIfInBounds_toArray, List.set_cons_zero, List.set_cons_succ]
        rfl
      refine last_ (i := 12) (N := none) #[true, true, true, true, true, true, true, true, true, true, true, true, true, false] rfl rfl (by kernel_rfl) (by decide) (fun K hK => ?_)
      refine skip_ (w1 := ?_) (by rfl) rfl ?_ ?_
      rotate_left
      · go_simp
        rfl
      refine hK.out _ _ ?_
      clear hK K
      refine pure_ (i := 13) (N := some 8) (v := ?_) (a' := ?_) #[true, true, true, true, true, true, true, true, true, true, true, true, true, true] rfl rfl (by kernel_rfl) (fun _ _ _ h => h) (Or.inl ⟨by rfl, ?_⟩) ?_ ?_
      rotate_left
      · intro w'
        go_simp
        with_reducible rfl
      rotate_left
      · simp only [Act.put, List.setIfInBounds_toArray, List.set_cons_zero, List.set_cons_succ, i64_w, i32_w]
        rfl
      refine done_ (by kernel_rfl) ?_
      have hO4 := hO.set 0 (.slice A2 y.slots.length k2) (cs' := #[.slice A2 y.slots.length k2, .slice none 0 0]) rfl
      have hO5 := hO4.set 1 (.slice A3 y.vols.length k3) (cs' := #[.slice A2 y.slots.length k2, .slice A3 y.vols.length k3]) rfl
      have hQ5 := (hQ.far hO (by decide) (by decide) (by decide) 0 (.slice A2 y.slots.length k2)).far hO4 (by decide) (by decide) (by decide) 1 (.slice A3 y.vols.length k3)
      have hb5 := bel_set (bel_set hD hL 0 (.slice A2 y.slots.length k2)) hL 1 (.slice A3 y.vols.length k3)
      clear hQ hO hO4 hL hD f0 f1 r0 r1 hHeld D0 s0_ s1_ s2_ s3_
      generalize ((w3_.setCell ⟨nb, 0, none⟩ (.slice A2 y.slots.length k2)).setCell ⟨nb, 1, none⟩ (.slice A3 y.vols.length k3)) = W7 at hO5 hQ5 hb5 ⊢
      replace Xx := Lib.hid (ZXx.out.bel hb5)
      replace Pq := Lib.hid (ZPq.out.bel hb5)
      replace PX := Lib.hid (ZPX.out.bel hb5)
      replace BW := Lib.hid (ZBW.out.tr hb5)
      replace KW := Lib.hid (ZKW.out.tr hb5)
      clear ZKW ZXx ZPq ZPX ZBW
      obtain ⟨a0, a1, l0, l1, e0_, e1_, hpi⟩ := hQ5.reads
      have e0_ := slice_eq e0_
      have e1_ := slice_eq e1_
      obtain ⟨rfl, -, rfl⟩ := e0_
      obtain ⟨rfl, -, rfl⟩ := e1_
      have Py : Hid (PVar W7 nb A2 A3 k2 k3 y) := ⟨hO5, hpi⟩
      have OWy := Lib.hid hQ5
      clear hO5 hQ5 hb5 hpi
      clear hcv2 hcw
      have hx1 := Xx.out.blk.set 0 (.slice A2 y.slots.length k2) (cs' := #[.slice A2 y.slots.length k2, .slice Bx q.vols.length dx]) rfl
      have hx2 := hx1.set 1 (.slice A3 y.vols.length k3) (cs' := #[.slice A2 y.slots.length k2, .slice A3 y.vols.length k3]) rfl
      have ho2 := (OWy.out.far Xx.out.blk (by decide) (by decide) (by decide) 0 (.slice A2 y.slots.length k2)).far hx1 (by decide) (by decide) (by decide) 1 (.slice A3 y.vols.length k3)
      have hb5 := bel_set (bel_set BW.out HLE.out 0 (.slice A2 y.slots.length k2)) HLE.out 1 (.slice A3 y.vols.length k3)
      have hlow : w.heap.size ≤ wr.drew.heap.size := by have h1 := HWB.out; have h2 := HBS.out; exact Nat.le_trans h1 h2
      have HX2 := Lib.hid (XVar.mk hx2 (ho2.lower hlow))
      have HB5 := Lib.hid hb5
      clear hx1 hx2 ho2 hb5 hlow
      have qy0 := Py.out.c0
      have qy1 := Py.out.c1
      have yy := Py.out.lt
      have qx0 := PX.out.c0
      have qx1 := PX.out.c1
      have yx := PX.out.lt
      have fx0 := PX.out.blk.free 0
      have fx1 := PX.out.blk.free 1
      go_wp2
      go_roundg (p.vols.length - (k + 1))
      case measure => omega
      case rel => exact ⟨k + 1, y, A2, A3, k2, k3, _, by omega, by go_num, HX2.out, Lib.hid ⟨HVy.out.1, HVy.out.2⟩, HB5.out⟩
    · skip
      have hqe : q = newP := pool_empty HQ.out.1 (HQ.out.2.trans (List.drop_eq_nil_of_le (Nat.le_of_not_lt hlt)))
      have HNW : Hid (∀ W, Calls Try.prog 36 #[] W (MadeP W q)) := fun W => hqe ▸ implPoolNew_c W
      have HSq := Lib.hid HQ.out.1.small
      have HOKq := Lib.hid (poolOk_iff.2 HQ.out.1)
      clear hqe
      have PX := Lib.hid Xx.out.pv
      have qp0 := Pq.out.c0
      have qp1 := Pq.out.c1
      have q0 := PX.out.c0
      have q1 := PX.out.c1
      go_wp2
      clear qp0 qp1
      refine start_ (n := 8) (S := fun w' => w'.cell? ⟨bkx, 0, none⟩ = some (.slice Ax q.slots.length cx) ∧ w'.cell? ⟨bkx, 1, none⟩ = some (.slice Bx q.vols.length dx)) (ds := []) #[false, false, false, false, false, false, false, false] (by kernel_rfl) rfl rfl ⟨q0, q1⟩ (fun hHeld => ?_)
      refine take_ (i := 0) (N := some 51) (v := ?_) (a' := ?_) #[true, false, false, false, false, false, false, false] rfl rfl (by kernel_rfl) (fun _ _ _ h => h) (Or.inl ⟨by rfl, ?_⟩) hHeld ?_ ?_
      rotate_left
      · rintro w' ⟨s0, s1⟩
        go_simp
        with_reducible rfl
      rotate_left
      · simp only [Act.put, List.setIfInBounds_toArray, List.set_cons_zero, List.set_cons_succ, i64_w, i32_w]
        rfl
      refine one_ (i := 1) (N := some 52) #[true, true, false, false, false, false, false, false] rfl rfl (by kernel_rfl) (by decide) (fun K hK => ?_)
      refine goes_ Try.func36 (by kernel_rfl) rfl #[] (by rfl) rfl rfl (by simp only [List.map_toArray, List.map_cons, List.map_nil]) ?_
      with_reducible refine (HNW.out _).mono ?_
      rintro e w10 ⟨v10, v11, bvsT, rfl, hoT, hbT⟩
      obtain ⟨AT, BT, cT, dT, rfl, rfl, hpiT⟩ := hoT.reads
      have KT := Lib.hid hpiT
      clear hpiT hoT
      have hbT' : Bel wr w10 := Bel.tr (b := wr.drew) (Below.refl _ _).drew hbT
      have PX2 := Lib.hid (PX.out.bel hbT')
      have HBT := Lib.hid hbT'
      have u0 := PX2.out.c0
      have u1 := PX2.out.c1
      clear hbT hbT'
      refine ⟨_, rfl, ?_⟩
      refine hK.out _ _ ⟨u0, u1⟩ (fun hHeld => ?_)
      clear hK K
      refine norm_ (a' := ?_) ?_ ?_
      rotate_left
      · show Act.put _ (some 52) _ = _
        simp only [Act.put, List.setIfInBounds_toArray, List.set_cons_zero, List.set_cons_succ, i64_w, i32_w]
        rfl
      refine one_ (i := 2) (N := some 53) #[true, true, true, false, false, false, false, false] rfl rfl (by kernel_rfl) (by decide) (fun K hK => ?_)
      refine goes_ Try.func35 (by kernel_rfl) rfl #[.agg #[.slice Ax q.slots.length cx, .slice Bx q.vols.length dx], .agg #[.slice AT q.slots.length cT, .slice BT q.vols.length dT]] (by rfl) rfl rfl (by simp only [List.map_toArray, List.map_cons, List.map_nil]; rfl) ?_
      with_reducible refine (lgPool_c PX2.out.inn KT.out HSq.out).mono ?_
      rintro e w11 ⟨rfl, hbE⟩
      have PX3 := Lib.hid (PX2.out.bel hbE)
      have HBE := Lib.hid (HBT.out.tr hbE)
      have u4 := PX3.out.c0
      have u5 := PX3.out.c1
      clear hbE
      refine ⟨_, rfl, ?_⟩
      refine hK.out _ _ ⟨u4, u5⟩ (fun hHeld => ?_)
      clear hK K
      refine norm_ (a' := ?_) ?_ ?_
      rotate_left
      · show Act.put _ (some 53) _ = _
        simp only [Act.put, List.setIfInBounds_toArray, List.set_cons_zero, List.set_cons_succ, i64_w, i32_w]
        rfl
      refine pure_ (i := 3) (N := some 54) (v := ?_) (a' := ?_) #[true, true, true, true, false, false, false, false] rfl rfl (by kernel_rfl) (fun _ _ _ h => h) (Or.inl ⟨by rfl, ?_⟩) ?_ ?_
      rotate_left
      · intro w'
        go_simp
        with_reducible rfl
      rotate_left
      · simp only [Act.put, List.setIfInBounds_toArray, List.set_cons_zero, List.set_cons_succ, i64_w, i32_w]
        rfl
      refine take_ (i := 4) (N := some 55) (v := ?_) (a' := ?_) #[true, true, true, true, true, false, false, false] rfl rfl (by kernel_rfl) (fun _ _ _ h => h) (Or.inl ⟨by rfl, ?_⟩) hHeld ?_ ?_
      rotate_left
      · rintro w' ⟨s0, s1⟩
        go_simp
        with_reducible rfl
      rotate_left
      · simp only [Act.put, List.setIfInBounds_toArray, List.set_cons_zero, List.set_cons_succ, i64_w, i32_w]
        rfl
      refine one_ (i := 5) (N := some 56) #[true, true, true, true, true, true, false, false] rfl rfl (by kernel_rfl) (by decide) (fun K hK => ?_)
      refine goes_ Try.func37 (by kernel_rfl) rfl #[.agg #[.slice Ax q.slots.length cx, .slice Bx q.vols.length dx]] (by rfl) rfl rfl (by simp only [List.map_toArray, List.map_cons, List.map_nil]; rfl) ?_
      with_reducible refine (implOk_n PX3.out.inn HSq.out HOKq.out).mono ?_
      rintro e w12 ⟨rfl, hbF⟩
      have PX4 := Lib.hid (PX3.out.bel hbF)
      have HBF := Lib.hid (HBE.out.tr hbF)
      have u6 := PX4.out.c0
      have u7 := PX4.out.c1
      clear hbF
      refine ⟨_, rfl, ?_⟩
      refine hK.out _ _ ⟨u6, u7⟩ (fun hHeld => ?_)
      clear hK K
      refine norm_ (a' := ?_) ?_ ?_
      rotate_left
      · show Act.put _ (some 56) _ = _
        simp only [Act.put, List.setIfInBounds_toArray, List.set_cons_zero, List.set_cons_succ, i64_w, i32_w]
        rfl
      refine pure_ (i := 6) (N := some 57) (v := ?_) (a' := ?_) #[true, true, true, true, true, true, true, false] rfl rfl (by kernel_rfl) (fun _ _ _ h => h) (Or.inl ⟨by rfl, ?_⟩) ?_ ?_
      rotate_left
      · intro w'
        go_simp
        with_reducible rfl
      rotate_left
      · simp only [Act.put, List.setIfInBounds_toArray, List.set_cons_zero, List.set_cons_succ, i64_w, i32_w]
        rfl
      refine pure_ (i := 7) (N := some 2) (v := ?_) (a' := ?_) #[true, true, true, true, true, true, true, true] rfl rfl (by kernel_rfl) (fun _ _ _ h => h) (Or.inl ⟨by rfl, ?_⟩) ?_ ?_
      rotate_left
      · intro w'
        go_simp
        with_reducible rfl
      rotate_left
      · simp only [Act.put, List.setIfInBounds_toArray, List.set_cons_zero, List.set_cons_succ, i64_w, i32_w]
        rfl
      refine done_ (by kernel_rfl) ?_
      clear q0 q1 u0 u1 u4 u5 u6 u7 hHeld
      go_wp2
      go_ret
      exact ⟨rfl, KW.out.tr HBF.out⟩
end Go.Proofs.Ytpobgjkmjlmafaa

/- PoolWrite: a pool of one's own with one block turned; what the program's closure does. -/
import Derived.Test.YtpobgjkmjlmafaaNc
namespace Go.Proofs.Ytpobgjkmjlmafaa
open Go.RowKit Go.Proofs.YtpobgjkmjlmafaaW.PrintWords Go.Proofs.YtpobgjkmjlmafaaW.PrintLast
set_option linter.unusedVariables false
set_option linter.unusedSimpArgs false

/-- A variable that holds a pool of one's own: slots S, the volumes vs, but block bl of volume i (v) is pl; that volume's blocks lie in block gb. -/
structure PW (W : World) (b base : Nat) (v0 v1 : Value) (bvs : List Value) (S : List Slot) (vs : List Vol) (i bl : Nat) (v : Vol) (gb cb : Nat) (pl : Int) : Prop where
  blk : Blk W b #[v0, v1] 30
  s : OwnS W base v0 S
  vv : OwnV W base v1 (vs.set i ⟨v.name, v.blocks.set bl pl⟩) bvs
  hb : bvs[i]? = some (.slice (some ⟨gb, 0, none⟩) v.blocks.length cb)
theorem set_same {α : Type} {xs : List α} {i : Nat} {x : α} (h : xs[i]? = some x) : xs.set i x = xs := by
  obtain ⟨hi, rfl⟩ := List.getElem?_eq_some_iff.1 h
  exact List.set_getElem_self hi
theorem PW.mk0 {W : World} {b base : Nat} {v0 v1 : Value} {bvs : List Value} {p : Pool} {i bl : Nat} {v : Vol} {x : Int} (hB : Blk W b #[v0, v1] 30) (h : OwnP W base v0 v1 p bvs) (hv : p.vols[i]? = some v) (hx : v.blocks[bl]? = some x) :
    ∃ gb cb, PW W b base v0 v1 bvs p.slots p.vols i bl v gb cb x := by
  obtain ⟨g, cap, bv, hbv, _⟩ := h.v.row.at hv
  obtain ⟨gb, cb, rfl, _⟩ := own_form (h.v.inner i v bv hv hbv) (by have := ltQ hx; omega)
  refine ⟨gb, cb, hB, h.s, ?_, hbv⟩
  rw [set_same hx, show (⟨v.name, v.blocks⟩ : Vol) = v from rfl, set_same hv]
  exact h.v
theorem PW.inner {W : World} {b base : Nat} {v0 v1 : Value} {bvs : List Value} {S : List Slot} {vs : List Vol} {i bl : Nat} {v : Vol} {gb cb : Nat} {pl : Int} (h : PW W b base v0 v1 bvs S vs i bl v gb cb pl) (hi : i < vs.length) :
    OwnI W base (.slice (some ⟨gb, 0, none⟩) v.blocks.length cb) (v.blocks.set bl pl) := h.vv.inner i _ _ (List.getElem?_set_self hi) h.hb
theorem PW.cell {W : World} {b base : Nat} {v0 v1 : Value} {bvs : List Value} {S : List Slot} {vs : List Vol} {i bl : Nat} {v : Vol} {gb cb : Nat} {pl : Int} (h : PW W b base v0 v1 bvs S vs i bl v gb cb pl) (hi : i < vs.length) (hbl : bl < v.blocks.length) :
    W.cell? ⟨gb, bl, none⟩ = some (.int .i64 pl) ∧ W.frozen? ⟨gb, bl, none⟩ = false ∧ gb < W.heap.size ∧ base ≤ gb ∧ v.blocks.length ≤ cb := by
  obtain ⟨g, cap, e, h1, h2, h3, h4, h5⟩ := (h.inner hi).at (List.getElem?_set_self hbl)
  have e := slice_eq e
  obtain ⟨e1, _, rfl⟩ := e
  obtain rfl : gb = g := by simpa using e1
  rw [List.length_set] at h3
  exact ⟨h4, h5, h2, h1, h3⟩
theorem PW.row {W : World} {b base : Nat} {v0 v1 : Value} {bvs : List Value} {S : List Slot} {vs : List Vol} {i bl : Nat} {v : Vol} {gb cb : Nat} {pl : Int} (h : PW W b base v0 v1 bvs S vs i bl v gb cb pl) (hi : i < vs.length) :
    ∃ g cap, v1 = .slice (some ⟨g, 0, none⟩) vs.length cap ∧ W.cell? ⟨g, i * 2 + 1, none⟩ = some (.slice (some ⟨gb, 0, none⟩) v.blocks.length cb) ∧ vs.length ≤ cap ∧ g < W.heap.size := by
  obtain ⟨g, cap, bv, hbv, e, h1, h2, h3, h4, h5, _⟩ := h.vv.row.at (List.getElem?_set_self hi)
  obtain rfl := Option.some.inj (h.hb.symm.trans hbv)
  rw [List.length_set] at e h3
  exact ⟨g, cap, e, h5, h3, h2⟩
theorem PW.put {W : World} {b base : Nat} {v0 v1 : Value} {bvs : List Value} {S : List Slot} {vs : List Vol} {i bl : Nat} {v : Vol} {gb cb : Nat} {pl : Int} (h : PW W b base v0 v1 bvs S vs i bl v gb cb pl) (hi : i < vs.length) (hbl : bl < v.blocks.length) (q : Int) :
    PW (W.setCell ⟨gb, bl, none⟩ (.int .i64 q)) b base v0 v1 bvs S vs i bl v gb cb q ∧ W.grownBy (W.setCell ⟨gb, bl, none⟩ (.int .i64 q)) (some gb) := by
  have hin := h.inner hi
  have hin' : OwnI W base (.slice (some ⟨gb, 0, none⟩) (v.blocks.set bl pl).length cb) (v.blocks.set bl pl) := by rw [List.length_set]; exact hin
  obtain ⟨h1, h2⟩ := OwnI.set hin' (List.getElem?_set_self hbl) q
  rw [List.set_set, List.length_set] at h1
  have h3 := h.vv.setI (List.getElem?_set_self hi) h.hb h1 h2
  rw [List.set_set] at h3
  exact ⟨⟨h.blk.grown h2 (own_blk_ne hin h.blk (by decide)), own_other_type h.s hin (by decide) h2, h3, h.hb⟩, h2⟩
theorem PW.slots {W W' : World} {b base : Nat} {v0 v1 : Value} {bvs : List Value} {S S' : List Slot} {vs : List Vol} {i bl : Nat} {v : Vol} {gb cb : Nat} {pl : Int} (h : PW W b base v0 v1 bvs S vs i bl v gb cb pl) (hs : OwnS W' base v0 S') (hg : W.grownBy W' v0.ownBlock) :
    PW W' b base v0 v1 bvs S' vs i bl v gb cb pl := ⟨h.blk.grown hg (own_blk_ne h.s h.blk (by decide)), hs, h.vv.otherS h.s hg, h.hb⟩
theorem PW.bel {W W' : World} {b base : Nat} {v0 v1 : Value} {bvs : List Value} {S : List Slot} {vs : List Vol} {i bl : Nat} {v : Vol} {gb cb : Nat} {pl : Int} (h : PW W b base v0 v1 bvs S vs i bl v gb cb pl) (hb : Bel W W') : PW W' b base v0 v1 bvs S vs i bl v gb cb pl :=
  ⟨h.blk.bel hb, h.s.bel hb, h.vv.bel hb, h.hb⟩
theorem PW.pool {W : World} {b base : Nat} {v0 v1 : Value} {bvs : List Value} {S : List Slot} {vs : List Vol} {i bl : Nat} {v : Vol} {gb cb : Nat} {pl : Int} (h : PW W b base v0 v1 bvs S vs i bl v gb cb pl) : OwnP W base v0 v1 ⟨S, vs.set i ⟨v.name, v.blocks.set bl pl⟩⟩ bvs := ⟨h.s, h.vv⟩

theorem writeF_no {p : Pool} {name : ByteArray} {b : Int} {text : ByteArray} (h : hasBlk p.vols name b < 0 ∨ tOk text = false) : writeF p name b text = none := by
  unfold writeF
  rw [if_neg]
  rintro ⟨h1, h2⟩
  rcases h with h | h
  · omega
  · rw [h] at h2; cases h2
theorem writeF_free {p : Pool} {name : ByteArray} {b : Int} {text : ByteArray} {i : Nat} {v : Vol} {x : Int} (h : Wr p name b i v x) (ht : tOk text = true) (he : text = e0) :
    writeF p name b text = some ⟨backS p name b, p.vols.set i ⟨v.name, v.blocks.set b.toNat 0⟩⟩ := by
  unfold writeF
  rw [if_pos ⟨by rw [h.has]; omega, ht⟩, if_pos he, h.set, h.nm]
theorem writeF_put {p : Pool} {name : ByteArray} {b : Int} {text : ByteArray} {i : Nat} {v : Vol} {x : Int} (h : Wr p name b i v x) (ht : tOk text = true) (he : text ≠ e0) :
    writeF p name b text = if putAt (backS p name b) text = 0 then none else some ⟨putS (backS p name b) text, p.vols.set i ⟨v.name, v.blocks.set b.toNat (putAt (backS p name b) text)⟩⟩ := by
  unfold writeF
  rw [if_pos ⟨by rw [h.has]; omega, ht⟩, if_neg he, h.set, h.nm]
theorem back_no {p : Pool} {name : ByteArray} {b : Int} {i : Nat} {v : Vol} {x : Int} (h : Wr p name b i v x) (hx : ¬ 0 < x) : backS p name b = p.slots := by
  unfold backS
  rw [h.place]
  unfold dropAll
  rw [if_neg hx]
  rfl
theorem back_yes {p : Pool} {name : ByteArray} {b : Int} {i : Nat} {v : Vol} {m : Nat} (h : Wr p name b i v ((m : Int) + 1)) : backS p name b = dropS p.slots m := by
  unfold backS
  rw [h.place]
  unfold dropAll
  rw [if_pos (by omega), show ((m : Int) + 1 - 1).toNat = m by omega]
  rfl
theorem wr_slot {p : Pool} (hp : PoolP p) {name : ByteArray} {b : Int} {i : Nat} {v : Vol} {m : Nat} (h : Wr p name b i v ((m : Int) + 1)) : ∃ y, p.slots[m]? = some y ∧ 1 ≤ y.uses ∧ y.uses ≤ 99 := by
  have h8 := hp.blk h.vol h.blk
  obtain ⟨y, hy⟩ := hp.slot (show m < 8 by omega)
  have h1 := hp.uses m y hy
  have h2 := uses_mem (p := (m : Int) + 1) h.vol
  have h3 := cnt_pos (p := (m : Int) + 1) (List.mem_of_getElem? h.blk)
  exact ⟨y, hy, by omega, (hp.s.ok m y hy).2.2.1⟩
theorem back_uses {p : Pool} (hp : PoolP p) {name : ByteArray} {b : Int} {i : Nat} {v : Vol} {x : Int} (h : Wr p name b i v x) : (backS p name b).length = 8 ∧ ∀ y ∈ backS p name b, 0 ≤ y.uses ∧ y.uses ≤ 99 := by
  obtain ⟨h1, _⟩ := h.back hp
  refine ⟨h1.len, fun y hy => ?_⟩
  obtain ⟨m, hm⟩ := List.getElem?_of_mem hy
  exact ⟨(h1.ok m y hm).2.1, (h1.ok m y hm).2.2.1⟩
theorem putAt_bd {p : Pool} (hp : PoolP p) {name : ByteArray} {b : Int} {i : Nat} {v : Vol} {x : Int} (h : Wr p name b i v x) {t : ByteArray} (ht : t ≠ e0) : 0 ≤ putAt (backS p name b) t ∧ putAt (backS p name b) t ≤ 8 := by
  obtain ⟨h1, _⟩ := h.back hp
  obtain ⟨hq, _⟩ := putAt_cases h1 ht
  cases hq with
  | no h2 => omega
  | old m z h2 hz _ _ => have := ltQ hz; rw [h1.len] at this; omega
  | fresh m z h2 hz _ _ => have := ltQ hz; rw [h1.len] at this; omega

set_option maxHeartbeats 8000000 in
set_option maxRecDepth 10000 in
theorem writeClo_c {w : World} {A0 A1 : Option Addr} {c0 c1 bp bn bs bt : Nat} {p : Pool} {name : ByteArray} {blk : Int} {text : ByteArray} (h : PoolIn w A0 A1 c0 c1 p) (hs : SmallP p) (hB : Blk w bp #[.slice A0 p.slots.length c0, .slice A1 p.vols.length c1] 30) (hN : Blk w bn #[.string name] 9) (hZ : Blk w bs #[.int .i64 blk] 3) (hT : Blk w bt #[.string text] 9) (hnm : text.size ≤ 1048576) (hok : poolOk p = true)
    (W : World) (b base : Nat) (hW : Bel w W) (hb1 : w.heap.size ≤ base) (hb2 : base ≤ W.heap.size) (hpv : PV W b base p) :
    Calls Try.prog 92 #[.pointer (some ⟨b, 0, none⟩), .pointer (some ⟨bp, 0, none⟩), .pointer (some ⟨bn, 0, none⟩), .pointer (some ⟨bs, 0, none⟩), .pointer (some ⟨bt, 0, none⟩)] W (Changes (writeF p name blk text) b base W) := by
  have HS := Lib.hid hs
  have HP := Lib.hid h
  have HK := Lib.hid (poolOk_iff.1 hok)
  have HV := Lib.hid hpv
  have HW := Lib.hid hW
  have HB := Lib.hid hB
  have HN := Lib.hid hN
  have HZ := Lib.hid hZ
  have HT := Lib.hid hT
  have hnx : text.size ≤ maxLen := by unfold maxLen; omega
  have HNX := Lib.hid hnx
  have q0 := (HB.out.bel HW.out).cell 0
  have q1 := (HB.out.bel HW.out).cell 1
  have q2 := (HN.out.bel HW.out).cell 0
  have q3 := (HZ.out.bel HW.out).cell 0
  simp at q0 q1 q2 q3
  clear h hs hok hpv hW hB hN hZ hT hnx
  go_enter Try.func92, Try.ntmps92
  go_wp2_with fail
  refine (hasBlock_c (HP.out.bel HW.out) HS.out name blk).mono ?_
  rintro e w1 ⟨rfl, hb1'⟩
  have HW1 := Lib.hid (HW.out.tr hb1')
  have HB1 := Lib.hid hb1'
  clear q0 q1 q2 q3 hb1'
  by_cases hn : hasBlk p.vols name blk < 0
  · have HG := Lib.hid (show writeF p name blk text = none from writeF_no (.inl hn))
    go_wp2
    go_ret
    rw [HG.out]
    exact ⟨rfl, ⟨p, HV.out.bel HB1.out, fun q' h => by cases h⟩, HB1.out.mono hb2⟩
  · obtain ⟨i, v, x, hwr⟩ := hasBlk_wr (show 0 ≤ hasBlk p.vols name blk by omega)
    have q4 := (HT.out.bel HW1.out).cell 0
    simp at q4
    rw [hwr.has]
    have hin : ¬ ((i : Int) < 0) := by omega
    clear hn
    cases ht : tOk text with
    | false =>
      have HG := Lib.hid (show writeF p name blk text = none from writeF_no (.inr ht))
      go_wp2_with (go_at_call 94; refine (implTextOk_c text _ HNX.out).mono ?_; rintro e w' ⟨rfl, rfl⟩)
      go_ret
      rw [HG.out]
      exact ⟨rfl, ⟨p, HV.out.bel HB1.out, fun q' h => by cases h⟩, HB1.out.mono hb2⟩
    | true =>
      have hb0 := hwr.b0
      obtain ⟨bl, rfl⟩ : ∃ bl : Nat, blk = bl := ⟨blk.toNat, by omega⟩
      have hil := ltQ hwr.vol
      have hbl : bl < v.blocks.length := by have := ltQ hwr.blk; rwa [Int.toNat_natCast] at this
      have hvl : v.blocks.length ≤ 1048576 := HS.out.vols.blocks v (List.mem_of_getElem? hwr.vol)
      have hlv := HS.out.vols.len
      have hxb := HK.out.blk hwr.vol hwr.blk
      have HWR := Lib.hid hwr
      have HTK := Lib.hid ht
      go_wp2_with (go_at_call 94; refine (implTextOk_c text _ HNX.out).mono ?_; rintro e w' ⟨rfl, rfl⟩)
      obtain ⟨⟨v0, v1, bvs, hb, ho⟩, hlo⟩ := HV.out.bel HB1.out
      obtain ⟨gb, cb, hpw⟩ := PW.mk0 (bl := bl) (x := x) hb ho hwr.vol (by have := hwr.blk; rwa [Int.toNat_natCast] at this)
      clear hb ho hwr ht q4 hb0
      obtain ⟨gv, cv, rfl, u1, u2, u3⟩ := hpw.row hil
      obtain ⟨u4, u5, u6, u7, u8⟩ := hpw.cell hil hbl
      have u0 := hpw.blk.cell 1
      have u9 := (HZ.out.bel HW1.out).cell 0
      simp at u0 u9
      have HPW := Lib.hid (hpw.bel (Below.refl _ _).drew)
      clear hpw
      refine start_ (n := 11) (S := fun w' => w'.cell? ⟨b, 1, none⟩ = some (.slice (some ⟨gv, 0, none⟩) p.vols.length cv) ∧ w'.cell? ⟨gv, i * 2 + 1, none⟩ = some (.slice (some ⟨gb, 0, none⟩) v.blocks.length cb) ∧ w'.cell? ⟨bs, 0, none⟩ = some (.int .i64 (bl : Int))) (ds := []) #[false, false, false, false, false, false, false, false, false, false, false] (by kernel_rfl) rfl rfl ⟨u0, u1, u9⟩ (fun hHeld => ?_)
      refine pure_ (i := 0) (N := some 20) (v := ?_) (a' := ?_) #[true, false, false, false, false, false, false, false, false, false, false] rfl rfl (by kernel_rfl) (fun _ _ _ h => h) (Or.inl ⟨by rfl, ?_⟩) ?_ ?_
      rotate_left
      · intro w'
        go_simp
        with_reducible rfl
      rotate_left
      · simp only [Act.put, List.setIfInBounds_toArray, List.set_cons_zero, List.set_cons_succ, i64_w, i32_w]
        rfl
      refine pure_ (i := 1) (N := some 21) (v := ?_) (a' := ?_) #[true, true, false, false, false, false, false, false, false, false, false] rfl rfl (by kernel_rfl) (fun _ _ _ h => h) (Or.inl ⟨by rfl, ?_⟩) ?_ ?_
      rotate_left
      · intro w'
        go_simp
        with_reducible rfl
      rotate_left
      · simp only [Act.put, List.setIfInBounds_toArray, List.set_cons_zero, List.set_cons_succ, i64_w, i32_w]
        rfl
      refine pure_ (i := 2) (N := some 22) (v := ?_) (a' := ?_) #[true, true, true, false, false, false, false, false, false, false, false] rfl rfl (by kernel_rfl) (fun _ _ _ h => h) (Or.inl ⟨by rfl, ?_⟩) ?_ ?_
      rotate_left
      · intro w'
        go_simp
        with_reducible rfl
      rotate_left
      · simp only [Act.put, List.setIfInBounds_toArray, List.set_cons_zero, List.set_cons_succ, i64_w, i32_w]
        rfl
      refine pure_ (i := 4) (N := some 24) (v := ?_) (a' := ?_) #[true, true, true, false, true, false, false, false, false, false, false] rfl rfl (by kernel_rfl) (fun _ _ _ h => h) (Or.inl ⟨by rfl, ?_⟩) ?_ ?_
      rotate_left
      · intro w'
        go_simp
        with_reducible rfl
      rotate_left
      · simp only [Act.put, List.setIfInBounds_toArray, List.set_cons_zero, List.set_cons_succ, i64_w, i32_w]
        rfl
      refine take_ (i := 3) (N := some 23) (v := ?_) (a' := ?_) #[true, true, true, true, true, false, false, false, false, false, false] rfl rfl (by kernel_rfl) (fun _ _ _ h => h) (Or.inl ⟨by rfl, ?_⟩) hHeld ?_ ?_
      rotate_left
      · rintro w' ⟨s0, s1, s2⟩
        go_simp
        with_reducible rfl
      rotate_left
      · simp only [Act.put, List.setIfInBounds_toArray, List.set_cons_zero, List.set_cons_succ, i64_w, i32_w]
        rfl
      refine pure_ (i := 5) (N := some 25) (v := ?_) (a' := ?_) #[true, true, true, true, true, true, false, false, false, false, false] rfl rfl (by kernel_rfl) (fun _ _ _ h => h) (Or.inl ⟨by rfl, ?_⟩) ?_ ?_
      rotate_left
      · intro w'
        go_simp
        with_reducible rfl
      rotate_left
      · simp only [Act.put, List.setIfInBounds_toArray, List.set_cons_zero, List.set_cons_succ, i64_w, i32_w]
        rfl
      refine pure_ (i := 6) (N := some 26) (v := ?_) (a' := ?_) #[true, true, true, true, true, true, true, false, false, false, false] rfl rfl (by kernel_rfl) (fun _ _ _ h => h) (Or.inl ⟨by rfl, ?_⟩) ?_ ?_
      rotate_left
      · intro w'
        go_simp
        with_reducible rfl
      rotate_left
      · simp only [Act.put, List.setIfInBounds_toArray, List.set_cons_zero, List.set_cons_succ, i64_w, i32_w]
        rfl
      refine take_ (i := 7) (N := some 27) (v := ?_) (a' := ?_) #[true, true, true, true, true, true, true, true, false, false, false] rfl rfl (by kernel_rfl) (fun _ _ _ h => h) (Or.inl ⟨by rfl, ?_⟩) hHeld ?_ ?_
      rotate_left
      · rintro w' ⟨s0, s1, s2⟩
        go_simp
        with_reducible rfl
      rotate_left
      · simp only [Act.put, List.setIfInBounds_toArray, List.set_cons_zero, List.set_cons_succ, i64_w, i32_w]
        rfl
      refine take_ (i := 8) (N := some 28) (v := ?_) (a' := ?_) #[true, true, true, true, true, true, true, true, true, false, false] rfl rfl (by kernel_rfl) (fun _ _ _ h => h) (Or.inl ⟨by rfl, ?_⟩) hHeld ?_ ?_
      rotate_left
      · rintro w' ⟨s0, s1, s2⟩
        go_simp
        with_reducible rfl
      rotate_left
      · simp only [Act.put, List.setIfInBounds_toArray, List.set_cons_zero, List.set_cons_succ, i64_w, i32_w]
        rfl
      refine pure_ (i := 9) (N := some 29) (v := ?_) (a' := ?_) #[true, true, true, true, true, true, true, true, true, true, false] rfl rfl (by kernel_rfl) (fun _ _ _ h => h) (Or.inl ⟨by rfl, ?_⟩) ?_ ?_
      rotate_left
      · intro w'
        go_simp
        with_reducible rfl
      rotate_left
      · simp only [Act.put, List.setIfInBounds_toArray, List.set_cons_zero, List.set_cons_succ, i64_w, i32_w]
        rfl
      refine pure_ (i := 10) (N := some 8) (v := ?_) (a' := ?_) #[true, true, true, true, true, true, true, true, true, true, true] rfl rfl (by kernel_rfl) (fun _ _ _ h => h) (Or.inl ⟨by rfl, ?_⟩) ?_ ?_
      rotate_left
      · intro w'
        go_simp
        with_reducible rfl
      rotate_left
      · simp only [Act.put, List.setIfInBounds_toArray, List.set_cons_zero, List.set_cons_succ, i64_w, i32_w]
        rfl
      refine done_ (by kernel_rfl) ?_
      clear hHeld u0 u1 u2 u3 u4 u5 u6 u7 u8 u9
      have HBEL := Lib.hid (show Below base w1 w1.drew from (Below.refl _ _).drew)
      have hbs : base ≤ w1.drew.heap.size := by have h5 : w1.drew.heap.size = w1.heap.size := rfl; have := HB1.out.size; omega
      generalize w1.drew = W2 at HPW HBEL hbs ⊢
      obtain ⟨A6, c6, rfl, hc6, hC6⟩ := HPW.out.s.reads
      clear hC6
      by_cases h0 : 0 < x
      · obtain ⟨m, rfl⟩ : ∃ m : Nat, x = (m : Int) + 1 := ⟨(x - 1).toNat, by omega⟩
        have HBK := Lib.hid (back_yes HWR.out)
        obtain ⟨y, hy, hy1, hy2⟩ := wr_slot HK.out HWR.out
        obtain ⟨u4, u5, u6, u7, u8⟩ := HPW.out.cell hil hbl
        have u0 := HPW.out.blk.cell 0
        simp at u0
        have HY := Lib.hid hy
        have HS6 := Lib.hid (show OwnS W2.drew base (.slice A6 p.slots.length c6) p.slots from HPW.out.s.bel (Below.refl _ _).drew)
        have hsl : p.slots.length ≤ 1048576 := HS.out.slots.len
        clear hy
        go_wp2
        refine start_ (n := 8) (S := fun w' => w'.cell? ⟨b, 0, none⟩ = some (.slice A6 p.slots.length c6) ∧ w'.cell? ⟨gb, bl, none⟩ = some (.int .i64 ((m : Int) + 1))) (ds := []) #[false, false, false, false, false, false, false, false] (by kernel_rfl) rfl rfl ⟨u0, u4⟩ (fun hHeld => ?_)
        refine pure_ (i := 0) (N := some 34) (v := ?_) (a' := ?_) #[true, false, false, false, false, false, false, false] rfl rfl (by kernel_rfl) (fun _ _ _ h => h) (Or.inl ⟨by rfl, ?_⟩) ?_ ?_
        rotate_left
        · intro w'
          go_simp
          with_reducible rfl
        rotate_left
        · simp only [Act.put, List.setIfInBounds_toArray, List.set_cons_zero, List.set_cons_succ, i64_w, i32_w]
          rfl
        refine pure_ (i := 1) (N := some 35) (v := ?_) (a' := ?_) #[true, true, false, false, false, false, false, false] rfl rfl (by kernel_rfl) (fun _ _ _ h => h) (Or.inl ⟨by rfl, ?_⟩) ?_ ?_
        rotate_left
        · intro w'
          go_simp
          with_reducible rfl
        rotate_left
        · simp only [Act.put, List.setIfInBounds_toArray, List.set_cons_zero, List.set_cons_succ, i64_w, i32_w]
          rfl
        refine pure_ (i := 2) (N := some 36) (v := ?_) (a' := ?_) #[true, true, true, false, false, false, false, false] rfl rfl (by kernel_rfl) (fun _ _ _ h => h) (Or.inl ⟨by rfl, ?_⟩) ?_ ?_
        rotate_left
        · intro w'
          go_simp
          with_reducible rfl
        rotate_left
        · simp only [Act.put, List.setIfInBounds_toArray, List.set_cons_zero, List.set_cons_succ, i64_w, i32_w]
          rfl
        refine pure_ (i := 4) (N := some 38) (v := ?_) (a' := ?_) #[true, true, true, false, true, false, false, false] rfl rfl (by kernel_rfl) (fun _ _ _ h => h) (Or.inl ⟨by rfl, ?_⟩) ?_ ?_
        rotate_left
        · intro w'
          go_simp
          with_reducible rfl
        rotate_left
        · simp only [Act.put, List.setIfInBounds_toArray, List.set_cons_zero, List.set_cons_succ, i64_w, i32_w]
          rfl
        refine pure_ (i := 5) (N := some 39) (v := ?_) (a' := ?_) #[true, true, true, false, true, true, false, false] rfl rfl (by kernel_rfl) (fun _ _ _ h => h) (Or.inl ⟨by rfl, ?_⟩) ?_ ?_
        rotate_left
        · intro w'
          go_simp
          with_reducible rfl
        rotate_left
        · simp only [Act.put, List.setIfInBounds_toArray, List.set_cons_zero, List.set_cons_succ, i64_w, i32_w]
          rfl
        refine take_ (i := 3) (N := some 37) (v := ?_) (a' := ?_) #[true, true, true, true, true, true, false, false] rfl rfl (by kernel_rfl) (fun _ _ _ h => h) (Or.inl ⟨by rfl, ?_⟩) hHeld ?_ ?_
        rotate_left
        · rintro w' ⟨s0, s1⟩
          go_simp
          with_reducible rfl
        rotate_left
        · simp only [Act.put, List.setIfInBounds_toArray, List.set_cons_zero, List.set_cons_succ, i64_w, i32_w]
          rfl
        refine take_ (i := 6) (N := some 40) (v := ?_) (a' := ?_) #[true, true, true, true, true, true, true, false] rfl rfl (by kernel_rfl) (fun _ _ _ h => h) (Or.inl ⟨by rfl, ?_⟩) hHeld ?_ ?_
        rotate_left
        · rintro w' ⟨s0, s1⟩
          go_simp
          with_reducible rfl
        rotate_left
        · simp only [Act.put, List.setIfInBounds_toArray, List.set_cons_zero, List.set_cons_succ, i64_w, i32_w]
          rfl
        refine one_ (i := 7) (N := some 41) #[true, true, true, true, true, true, true, true] rfl rfl (by kernel_rfl) (by decide) (fun K hK => ?_)
        refine goes_ Try.func70 (by kernel_rfl) rfl #[.slice A6 p.slots.length c6, .int .i64 ((m : Int) + 1)] (by rfl) rfl rfl (by simp only [List.map_toArray, List.map_cons, List.map_nil]; rfl) ?_
        with_reducible refine (drop_c HS6.out HY.out hsl hy1 hy2).mono ?_
        rintro e w3 ⟨rfl, ho3, hg3⟩
        have HPC := Lib.hid ((HPW.out.bel (Below.refl _ _).drew).slots ho3 hg3)
        have HBELC := Lib.hid ((HBEL.out.drew).grown hg3 (show base ≤ W2.drew.heap.size by have h5 : W2.drew.heap.size = W2.heap.size := rfl; omega) (own_base HS6.out))
        obtain ⟨s4, s5, s6, s7, s8⟩ := HPC.out.cell hil hbl
        have s0 := HPC.out.blk.cell 0
        simp at s0
        clear ho3 hg3
        refine ⟨_, rfl, ?_⟩
        refine hK.out _ _ ⟨s0, s4⟩ (fun hHeld => ?_)
        clear hK K
        refine norm_ (a' := ?_) ?_ ?_
        rotate_left
        · show Act.put _ (some 41) _ = _
          simp only [Act.put, List.setIfInBounds_toArray, List.set_cons_zero, List.set_cons_succ, i64_w, i32_w]
          rfl
        refine done_ (by kernel_rfl) ?_
        clear hHeld s0 s4 s5 s6 s7 s8 u0 u4 u5 u6 u7 u8
        have hbs3 : base ≤ w3.heap.size := by have := HBELC.out.size; have := HB1.out.size; omega
        clear hbs
        have hbs := hbs3
        obtain ⟨t4, t5, t6, t7, t8⟩ := HPC.out.cell hil hbl
        have hput := HPC.out.put hil hbl 0
        have hbel7 := HBELC.out.setCell (p := ⟨gb, bl, none⟩) t7 (.int .i64 0)
        have hbt := HT.out.lt
        have hT7 := (HT.out.bel (HW1.out.trans (hbel7.mono hb1))).cell 0
        simp at hT7
        have HPUT := Lib.hid hput.1
        have HBEL7 := Lib.hid hbel7
        clear hput hbel7
        by_cases he : text = e0
        · have HG := Lib.hid (show writeF p name bl text = some ⟨(dropS p.slots m), p.vols.set i ⟨v.name, v.blocks.set bl 0⟩⟩ by rw [writeF_free HWR.out HTK.out he, HBK.out, Int.toNat_natCast])
          have hz := toList_nil.2 he
          clear he
          go_wp2
          go_ret
          rw [HG.out]
          exact ⟨by first | rfl | simp, ⟨_, ⟨⟨_, _, _, HPUT.out.blk, HPUT.out.pool⟩, hlo⟩, fun q' h => (Option.some.inj h)⟩, (HB1.out.mono hb2).trans HBEL7.out⟩
        · have hz : ¬ text.toList = [] := fun h => he (toList_nil.1 h)
          have hz2 : text.toList.isEmpty = false := by simpa using hz
          have HE := Lib.hid he
          clear he
          go_wp2
          generalize w3.setCell ⟨gb, bl, none⟩ (.int .i64 0) = W7 at HPUT HBEL7 hT7 ⊢
          clear t4 t5 t6
          obtain ⟨t4, t5, t6, -, -⟩ := HPUT.out.cell hil hbl
          have t0 := HPUT.out.blk.cell 0
          simp at t0
          have hbu := back_uses HK.out HWR.out
          rw [HBK.out] at hbu
          have hbd := putAt_bd HK.out HWR.out HE.out
          rw [HBK.out] at hbd
          have HS7 := Lib.hid (show OwnS W7.drew base (.slice A6 p.slots.length c6) (dropS p.slots m) from HPUT.out.s.bel (Below.refl _ _).drew)
          have HBU := Lib.hid hbu
          clear hbu
          refine start_ (n := 9) (S := fun w' => w'.cell? ⟨b, 0, none⟩ = some (.slice A6 p.slots.length c6) ∧ w'.cell? ⟨bt, 0, none⟩ = some (.string text)) (ds := [8]) #[false, false, false, false, false, false, false, false, false] (by kernel_rfl) rfl rfl ⟨t0, hT7⟩ (fun hHeld => ?_)
          refine pure_ (i := 0) (N := some 46) (v := ?_) (a' := ?_) #[true, false, false, false, false, false, false, false, false] rfl rfl (by kernel_rfl) (fun _ _ _ h => h) (Or.inl ⟨by rfl, ?_⟩) ?_ ?_
          rotate_left
          · intro w'
            go_simp
            with_reducible rfl
          rotate_left
          · simp only [Act.put, List.setIfInBounds_toArray, List.set_cons_zero, List.set_cons_succ, i64_w, i32_w]
            rfl
          refine pure_ (i := 1) (N := some 47) (v := ?_) (a' := ?_) #[true, true, false, false, false, false, false, false, false] rfl rfl (by kernel_rfl) (fun _ _ _ h => h) (Or.inl ⟨by rfl, ?_⟩) ?_ ?_
          rotate_left
          · intro w'
            go_simp
            with_reducible rfl
          rotate_left
          · simp only [Act.put, List.setIfInBounds_toArray, List.set_cons_zero, List.set_cons_succ, i64_w, i32_w]
            rfl
          refine pure_ (i := 2) (N := some 48) (v := ?_) (a' := ?_) #[true, true, true, false, false, false, false, false, false] rfl rfl (by kernel_rfl) (fun _ _ _ h => h) (Or.inl ⟨by rfl, ?_⟩) ?_ ?_
          rotate_left
          · intro w'
            go_simp
            with_reducible rfl
          rotate_left
          · simp only [Act.put, List.setIfInBounds_toArray, List.set_cons_zero, List.set_cons_succ, i64_w, i32_w]
            rfl
          refine pure_ (i := 3) (N := some 49) (v := ?_) (a' := ?_) #[true, true, true, true, false, false, false, false, false] rfl rfl (by kernel_rfl) (fun _ _ _ h => h) (Or.inl ⟨by rfl, ?_⟩) ?_ ?_
          rotate_left
          · intro w'
            go_simp
            with_reducible rfl
          rotate_left
          · simp only [Act.put, List.setIfInBounds_toArray, List.set_cons_zero, List.set_cons_succ, i64_w, i32_w]
            rfl
          refine take_ (i := 4) (N := some 50) (v := ?_) (a' := ?_) #[true, true, true, true, true, false, false, false, false] rfl rfl (by kernel_rfl) (fun _ _ _ h => h) (Or.inl ⟨by rfl, ?_⟩) hHeld ?_ ?_
          rotate_left
          · rintro w' ⟨s0, s1⟩
            go_simp
            with_reducible rfl
          rotate_left
          · simp only [Act.put, List.setIfInBounds_toArray, List.set_cons_zero, List.set_cons_succ, i64_w, i32_w]
            rfl
          refine take_ (i := 5) (N := some 51) (v := ?_) (a' := ?_) #[true, true, true, true, true, true, false, false, false] rfl rfl (by kernel_rfl) (fun _ _ _ h => h) (Or.inl ⟨by rfl, ?_⟩) hHeld ?_ ?_
          rotate_left
          · rintro w' ⟨s0, s1⟩
            go_simp
            with_reducible rfl
          rotate_left
          · simp only [Act.put, List.setIfInBounds_toArray, List.set_cons_zero, List.set_cons_succ, i64_w, i32_w]
            rfl
          refine one_ (i := 6) (N := some 52) #[true, true, true, true, true, true, true, false, false] rfl rfl (by kernel_rfl) (by decide) (fun K hK => ?_)
          refine goes_ Try.func95 (by kernel_rfl) rfl #[.slice A6 p.slots.length c6, .string text] (by rfl) rfl rfl (by simp only [List.map_toArray, List.map_cons, List.map_nil]; rfl) ?_
          with_reducible refine (put_c HS7.out HBU.out.1 HBU.out.2 text HTK.out).mono ?_
          rintro e w8 ⟨rfl, ho8, hg8⟩
          have HP8 := Lib.hid ((HPUT.out.bel (Below.refl _ _).drew).slots ho8 hg8)
          have HBEL8 := Lib.hid ((HBEL7.out.drew).grown hg8 (show base ≤ W7.drew.heap.size by have h5 : W7.drew.heap.size = W7.heap.size := rfl; omega) (own_base HS7.out))
          obtain ⟨s4, s5, s6, s7, s8⟩ := HP8.out.cell hil hbl
          have s0 := HP8.out.blk.cell 0
          have s1 := (HT.out.bel (HW1.out.trans (HBEL8.out.mono hb1))).cell 0
          simp at s0 s1
          clear ho8 hg8
          refine ⟨_, rfl, ?_⟩
          refine hK.out _ _ ⟨s0, s1⟩ (fun hHeld => ?_)
          clear hK K
          refine norm_ (a' := ?_) ?_ ?_
          rotate_left
          · show Act.put _ (some 52) _ = _
            simp only [Act.put, List.setIfInBounds_toArray, List.set_cons_zero, List.set_cons_succ, i64_w, i32_w]
            rfl
          refine pure_ (i := 7) (N := some 53) (v := ?_) (a' := ?_) #[true, true, true, true, true, true, true, true, false] rfl rfl (by kernel_rfl) (fun _ _ _ h => h) (Or.inl ⟨by rfl, ?_⟩) ?_ ?_
          rotate_left
          · intro w'
            go_simp
            with_reducible rfl
          rotate_left
          · simp only [Act.put, List.setIfInBounds_toArray, List.set_cons_zero, List.set_cons_succ, i64_w, i32_w]
            rfl
          refine last_ (i := 8) (N := none) #[true, true, true, true, true, true, true, true, true] rfl rfl (by kernel_rfl) (by decide) (fun K hK => ?_)
          refine skip_ (w1 := ?_) (by rfl) rfl ?_ ?_
          rotate_left
          · go_simp
            rfl
          refine hK.out _ _ ?_
          clear hK K
          refine done_ (by kernel_rfl) ?_
          clear hHeld t4 t5 t6 t0 hT7
          have hT9 := (HT.out.bel (HW1.out.trans ((HBEL8.out.setCell (p := ⟨gb, bl, none⟩) t7 (.int .i64 (putAt (dropS p.slots m) text))).mono hb1))).cell 0
          simp at hT9
          have HPUT9 := Lib.hid (HP8.out.put hil hbl (putAt (dropS p.slots m) text)).1
          have HBEL9 := Lib.hid (HBEL8.out.setCell (p := ⟨gb, bl, none⟩) t7 (.int .i64 (putAt (dropS p.slots m) text)))
          by_cases h99 : putAt (dropS p.slots m) text = 0
          · have HG := Lib.hid (show writeF p name bl text = none by rw [writeF_put HWR.out HTK.out HE.out, HBK.out, if_pos h99])
            have hn0 : ¬ 0 < putAt (dropS p.slots m) text := by omega
            clear h99
            go_wp2
            go_ret
            rw [HG.out]
            exact ⟨by first | rfl | (simp [hz]; done) | (simp; exact hz), ⟨_, ⟨⟨_, _, _, HPUT9.out.blk, HPUT9.out.pool⟩, hlo⟩, fun q' h => by cases h⟩, (HB1.out.mono hb2).trans HBEL9.out⟩
          · have HG := Lib.hid (show writeF p name bl text = some ⟨putS (dropS p.slots m) text, p.vols.set i ⟨v.name, v.blocks.set bl (putAt (dropS p.slots m) text)⟩⟩ by rw [writeF_put HWR.out HTK.out HE.out, HBK.out, if_neg h99, Int.toNat_natCast])
            have hn0 : 0 < putAt (dropS p.slots m) text := by omega
            clear h99
            go_wp2
            go_ret
            rw [HG.out]
            exact ⟨by first | rfl | (simp [hz]; done) | (simp; exact hz), ⟨_, ⟨⟨_, _, _, HPUT9.out.blk, HPUT9.out.pool⟩, hlo⟩, fun q' h => (Option.some.inj h)⟩, (HB1.out.mono hb2).trans HBEL9.out⟩
      · have HBK := Lib.hid (back_no HWR.out h0)
        have HPC := HPW
        have HBELC := HBEL
        obtain ⟨t4, t5, t6, t7, t8⟩ := HPC.out.cell hil hbl
        have hput := HPC.out.put hil hbl 0
        have hbel7 := HBELC.out.setCell (p := ⟨gb, bl, none⟩) t7 (.int .i64 0)
        have hbt := HT.out.lt
        have hT7 := (HT.out.bel (HW1.out.trans (hbel7.mono hb1))).cell 0
        simp at hT7
        have HPUT := Lib.hid hput.1
        have HBEL7 := Lib.hid hbel7
        clear hput hbel7
        by_cases he : text = e0
        · have HG := Lib.hid (show writeF p name bl text = some ⟨p.slots, p.vols.set i ⟨v.name, v.blocks.set bl 0⟩⟩ by rw [writeF_free HWR.out HTK.out he, HBK.out, Int.toNat_natCast])
          have hz := toList_nil.2 he
          clear he
          go_wp2
          go_ret
          rw [HG.out]
          exact ⟨by first | rfl | simp, ⟨_, ⟨⟨_, _, _, HPUT.out.blk, HPUT.out.pool⟩, hlo⟩, fun q' h => (Option.some.inj h)⟩, (HB1.out.mono hb2).trans HBEL7.out⟩
        · have hz : ¬ text.toList = [] := fun h => he (toList_nil.1 h)
          have hz2 : text.toList.isEmpty = false := by simpa using hz
          have HE := Lib.hid he
          clear he
          go_wp2
          generalize W2.setCell ⟨gb, bl, none⟩ (.int .i64 0) = W7 at HPUT HBEL7 hT7 ⊢
          clear t4 t5 t6
          obtain ⟨t4, t5, t6, -, -⟩ := HPUT.out.cell hil hbl
          have t0 := HPUT.out.blk.cell 0
          simp at t0
          have hbu := back_uses HK.out HWR.out
          rw [HBK.out] at hbu
          have hbd := putAt_bd HK.out HWR.out HE.out
          rw [HBK.out] at hbd
          have HS7 := Lib.hid (show OwnS W7.drew base (.slice A6 p.slots.length c6) p.slots from HPUT.out.s.bel (Below.refl _ _).drew)
          have HBU := Lib.hid hbu
          clear hbu
          refine start_ (n := 9) (S := fun w' => w'.cell? ⟨b, 0, none⟩ = some (.slice A6 p.slots.length c6) ∧ w'.cell? ⟨bt, 0, none⟩ = some (.string text)) (ds := [8]) #[false, false, false, false, false, false, false, false, false] (by kernel_rfl) rfl rfl ⟨t0, hT7⟩ (fun hHeld => ?_)
          refine pure_ (i := 0) (N := some 46) (v := ?_) (a' := ?_) #[true, false, false, false, false, false, false, false, false] rfl rfl (by kernel_rfl) (fun _ _ _ h => h) (Or.inl ⟨by rfl, ?_⟩) ?_ ?_
          rotate_left
          · intro w'
            go_simp
            with_reducible rfl
          rotate_left
          · simp only [Act.put, List.setIfInBounds_toArray, List.set_cons_zero, List.set_cons_succ, i64_w, i32_w]
            rfl
          refine pure_ (i := 1) (N := some 47) (v := ?_) (a' := ?_) #[true, true, false, false, false, false, false, false, false] rfl rfl (by kernel_rfl) (fun _ _ _ h => h) (Or.inl ⟨by rfl, ?_⟩) ?_ ?_
          rotate_left
          · intro w'
            go_simp
            with_reducible rfl
          rotate_left
          · simp only [Act.put, List.setIfInBounds_toArray, List.set_cons_zero, List.set_cons_succ, i64_w, i32_w]
            rfl
          refine pure_ (i := 2) (N := some 48) (v := ?_) (a' := ?_) #[true, true, true, false, false, false, false, false, false] rfl rfl (by kernel_rfl) (fun _ _ _ h => h) (Or.inl ⟨by rfl, ?_⟩) ?_ ?_
          rotate_left
          · intro w'
            go_simp
            with_reducible rfl
          rotate_left
          · simp only [Act.put, List.setIfInBounds_toArray, List.set_cons_zero, List.set_cons_succ, i64_w, i32_w]
            rfl
          refine pure_ (i := 3) (N := some 49) (v := ?_) (a' := ?_) #[true, true, true, true, false, false, false, false, false] rfl rfl (by kernel_rfl) (fun _ _ _ h => h) (Or.inl ⟨by rfl, ?_⟩) ?_ ?_
          rotate_left
          · intro w'
            go_simp
            with_reducible rfl
          rotate_left
          · simp only [Act.put, List.setIfInBounds_toArray, List.set_cons_zero, List.set_cons_succ, i64_w, i32_w]
            rfl
          refine take_ (i := 4) (N := some 50) (v := ?_) (a' := ?_) #[true, true, true, true, true, false, false, false, false] rfl rfl (by kernel_rfl) (fun _ _ _ h => h) (Or.inl ⟨by rfl, ?_⟩) hHeld ?_ ?_
          rotate_left
          · rintro w' ⟨s0, s1⟩
            go_simp
            with_reducible rfl
          rotate_left
          · simp only [Act.put, List.setIfInBounds_toArray, List.set_cons_zero, List.set_cons_succ, i64_w, i32_w]
            rfl
          refine take_ (i := 5) (N := some 51) (v := ?_) (a' := ?_) #[true, true, true, true, true, true, false, false, false] rfl rfl (by kernel_rfl) (fun _ _ _ h => h) (Or.inl ⟨by rfl, ?_⟩) hHeld ?_ ?_
          rotate_left
          · rintro w' ⟨s0, s1⟩
            go_simp
            with_reducible rfl
          rotate_left
          · simp only [Act.put, List.setIfInBounds_toArray, List.set_cons_zero, List.set_cons_succ, i64_w, i32_w]
            rfl
          refine one_ (i := 6) (N := some 52) #[true, true, true, true, true, true, true, false, false] rfl rfl (by kernel_rfl) (by decide) (fun K hK => ?_)
          refine goes_ Try.func95 (by kernel_rfl) rfl #[.slice A6 p.slots.length c6, .string text] (by rfl) rfl rfl (by simp only [List.map_toArray, List.map_cons, List.map_nil]; rfl) ?_
          with_reducible refine (put_c HS7.out HBU.out.1 HBU.out.2 text HTK.out).mono ?_
          rintro e w8 ⟨rfl, ho8, hg8⟩
          have HP8 := Lib.hid ((HPUT.out.bel (Below.refl _ _).drew).slots ho8 hg8)
          have HBEL8 := Lib.hid ((HBEL7.out.drew).grown hg8 (show base ≤ W7.drew.heap.size by have h5 : W7.drew.heap.size = W7.heap.size := rfl; omega) (own_base HS7.out))
          obtain ⟨s4, s5, s6, s7, s8⟩ := HP8.out.cell hil hbl
          have s0 := HP8.out.blk.cell 0
          have s1 := (HT.out.bel (HW1.out.trans (HBEL8.out.mono hb1))).cell 0
          simp at s0 s1
          clear ho8 hg8
          refine ⟨_, rfl, ?_⟩
          refine hK.out _ _ ⟨s0, s1⟩ (fun hHeld => ?_)
          clear hK K
          refine norm_ (a' := ?_) ?_ ?_
          rotate_left
          · show Act.put _ (some 52) _ = _
            simp only [Act.put, List.setIfInBounds_toArray, List.set_cons_zero, List.set_cons_succ, i64_w, i32_w]
            rfl
          refine pure_ (i := 7) (N := some 53) (v := ?_) (a' := ?_) #[true, true, true, true, true, true, true, true, false] rfl rfl (by kernel_rfl) (fun _ _ _ h => h) (Or.inl ⟨by rfl, ?_⟩) ?_ ?_
          rotate_left
          · intro w'
            go_simp
            with_reducible rfl
          rotate_left
          · simp only [Act.put, List.setIfInBounds_toArray, List.set_cons_zero, List.set_cons_succ, i64_w, i32_w]
            rfl
          refine last_ (i := 8) (N := none) #[true, true, true, true, true, true, true, true, true] rfl rfl (by kernel_rfl) (by decide) (fun K hK => ?_)
          refine skip_ (w1 := ?_) (by rfl) rfl ?_ ?_
          rotate_left
          · go_simp
            rfl
          refine hK.out _ _ ?_
          clear hK K
          refine done_ (by kernel_rfl) ?_
          clear hHeld t4 t5 t6 t0 hT7
          have hT9 := (HT.out.bel (HW1.out.trans ((HBEL8.out.setCell (p := ⟨gb, bl, none⟩) t7 (.int .i64 (putAt p.slots text))).mono hb1))).cell 0
          simp at hT9
          have HPUT9 := Lib.hid (HP8.out.put hil hbl (putAt p.slots text)).1
          have HBEL9 := Lib.hid (HBEL8.out.setCell (p := ⟨gb, bl, none⟩) t7 (.int .i64 (putAt p.slots text)))
          by_cases h99 : putAt p.slots text = 0
          · have HG := Lib.hid (show writeF p name bl text = none by rw [writeF_put HWR.out HTK.out HE.out, HBK.out, if_pos h99])
            have hn0 : ¬ 0 < putAt p.slots text := by omega
            clear h99
            go_wp2
            go_ret
            rw [HG.out]
            exact ⟨by first | rfl | (simp [hz]; done) | (simp; exact hz), ⟨_, ⟨⟨_, _, _, HPUT9.out.blk, HPUT9.out.pool⟩, hlo⟩, fun q' h => by cases h⟩, (HB1.out.mono hb2).trans HBEL9.out⟩
          · have HG := Lib.hid (show writeF p name bl text = some ⟨putS p.slots text, p.vols.set i ⟨v.name, v.blocks.set bl (putAt p.slots text)⟩⟩ by rw [writeF_put HWR.out HTK.out HE.out, HBK.out, if_neg h99, Int.toNat_natCast])
            have hn0 : 0 < putAt p.slots text := by omega
            clear h99
            go_wp2
            go_ret
            rw [HG.out]
            exact ⟨by first | rfl | (simp [hz]; done) | (simp; exact hz), ⟨_, ⟨⟨_, _, _, HPUT9.out.blk, HPUT9.out.pool⟩, hlo⟩, fun q' h => (Option.some.inj h)⟩, (HB1.out.mono hb2).trans HBEL9.out⟩
end Go.Proofs.Ytpobgjkmjlmafaa

/- Contracts of the program's and the reference's functions, and the plain laws behind them: part 4 of 5. -/
import Derived.Test.YtpobgjkmjlmafaaY3
import Derived.RegionTactic
import Derived.ChangeAlike
/- PoolWrite: a pool of one's own with one block turned; what the program's closure does. -/

namespace Go.Proofs.Ytpobgjkmjlmafaa
open Go.RowKit Go.Proofs.YtpobgjkmjlmafaaW.PrintWords Go.Proofs.YtpobgjkmjlmafaaW.PrintLast
set_option linter.unusedVariables false
set_option linter.unusedSimpArgs false

/-- A variable that holds a pool of one's own: slots S, the volumes vs, but block bl of volume i (v) is pl; that volume's blocks lie in block gb. -/
structure PW (W : World) (b base : Nat) (v0 v1 : Value) (bvs : List Value) (S : List Slot) (vs : List Vol) (i bl : Nat) (v : Vol) (gb cb : Nat) (pl : Int) : Prop where
  blk : Blk W b #[v0, v1] 30
  s : OwnS W base v0 S
  vv : OwnV W base v1 (vs.set i ⟨v.name, v.blocks.set bl pl⟩) bvs
  hb : bvs[i]? = some (.slice (some ⟨gb, 0, none⟩) v.blocks.length cb)
theorem set_same {α : Type} {xs : List α} {i : Nat} {x : α} (h : xs[i]? = some x) : xs.set i x = xs := by
  obtain ⟨hi, rfl⟩ := List.getElem?_eq_some_iff.1 h
  exact List.set_getElem_self hi
theorem PW.mk0 {W : World} {b base : Nat} {v0 v1 : Value} {bvs : List Value} {p : Pool} {i bl : Nat} {v : Vol} {x : Int} (hB : Blk W b #[v0, v1] 30) (h : OwnP W base v0 v1 p bvs) (hv : p.vols[i]? = some v) (hx : v.blocks[bl]? = some x) :
    ∃ gb cb, PW W b base v0 v1 bvs p.slots p.vols i bl v gb cb x := by
  obtain ⟨g, cap, bv, hbv, _⟩ := h.v.row.at hv
  obtain ⟨gb, cb, rfl, _⟩ := own_form (h.v.inner i v bv hv hbv) (by have := ltQ hx; omega)
  refine ⟨gb, cb, hB, h.s, ?_, hbv⟩
  rw [set_same hx, show (⟨v.name, v.blocks⟩ : Vol) = v from rfl, set_same hv]
  exact h.v
theorem PW.inner {W : World} {b base : Nat} {v0 v1 : Value} {bvs : List Value} {S : List Slot} {vs : List Vol} {i bl : Nat} {v : Vol} {gb cb : Nat} {pl : Int} (h : PW W b base v0 v1 bvs S vs i bl v gb cb pl) (hi : i < vs.length) :
    OwnI W base (.slice (some ⟨gb, 0, none⟩) v.blocks.length cb) (v.blocks.set bl pl) := h.vv.inner i _ _ (List.getElem?_set_self hi) h.hb
theorem PW.cell {W : World} {b base : Nat} {v0 v1 : Value} {bvs : List Value} {S : List Slot} {vs : List Vol} {i bl : Nat} {v : Vol} {gb cb : Nat} {pl : Int} (h : PW W b base v0 v1 bvs S vs i bl v gb cb pl) (hi : i < vs.length) (hbl : bl < v.blocks.length) :
    W.cell? ⟨gb, bl, none⟩ = some (.int .i64 pl) ∧ W.frozen? ⟨gb, bl, none⟩ = false ∧ gb < W.heap.size ∧ base ≤ gb ∧ v.blocks.length ≤ cb := by
  obtain ⟨g, cap, e, h1, h2, h3, h4, h5⟩ := (h.inner hi).at (List.getElem?_set_self hbl)
  have e := slice_eq e
  obtain ⟨e1, _, rfl⟩ := e
  obtain rfl : gb = g := by simpa using e1
  rw [List.length_set] at h3
  exact ⟨h4, h5, h2, h1, h3⟩
theorem PW.row {W : World} {b base : Nat} {v0 v1 : Value} {bvs : List Value} {S : List Slot} {vs : List Vol} {i bl : Nat} {v : Vol} {gb cb : Nat} {pl : Int} (h : PW W b base v0 v1 bvs S vs i bl v gb cb pl) (hi : i < vs.length) :
    ∃ g cap, v1 = .slice (some ⟨g, 0, none⟩) vs.length cap ∧ W.cell? ⟨g, i * 2 + 1, none⟩ = some (.slice (some ⟨gb, 0, none⟩) v.blocks.length cb) ∧ vs.length ≤ cap ∧ g < W.heap.size := by
  obtain ⟨g, cap, bv, hbv, e, h1, h2, h3, h4, h5, _⟩ := h.vv.row.at (List.getElem?_set_self hi)
  obtain rfl := Option.some.inj (h.hb.symm.trans hbv)
  rw [List.length_set] at e h3
  exact ⟨g, cap, e, h5, h3, h2⟩
theorem PW.put {W : World} {b base : Nat} {v0 v1 : Value} {bvs : List Value} {S : List Slot} {vs : List Vol} {i bl : Nat} {v : Vol} {gb cb : Nat} {pl : Int} (h : PW W b base v0 v1 bvs S vs i bl v gb cb pl) (hi : i < vs.length) (hbl : bl < v.blocks.length) (q : Int) :
    PW (W.setCell ⟨gb, bl, none⟩ (.int .i64 q)) b base v0 v1 bvs S vs i bl v gb cb q ∧ W.grownBy (W.setCell ⟨gb, bl, none⟩ (.int .i64 q)) (some gb) := by
  have hin := h.inner hi
  have hin' : OwnI W base (.slice (some ⟨gb, 0, none⟩) (v.blocks.set bl pl).length cb) (v.blocks.set bl pl) := by rw [List.length_set]; exact hin
  obtain ⟨h1, h2⟩ := OwnI.set hin' (List.getElem?_set_self hbl) q
  rw [List.set_set, List.length_set] at h1
  have h3 := h.vv.setI (List.getElem?_set_self hi) h.hb h1 h2
  rw [List.set_set] at h3
  exact ⟨⟨h.blk.grown h2 (own_blk_ne hin h.blk (by decide)), own_other_type h.s hin (by decide) h2, h3, h.hb⟩, h2⟩
theorem PW.slots {W W' : World} {b base : Nat} {v0 v1 : Value} {bvs : List Value} {S S' : List Slot} {vs : List Vol} {i bl : Nat} {v : Vol} {gb cb : Nat} {pl : Int} (h : PW W b base v0 v1 bvs S vs i bl v gb cb pl) (hs : OwnS W' base v0 S') (hg : W.grownBy W' v0.ownBlock) :
    PW W' b base v0 v1 bvs S' vs i bl v gb cb pl := ⟨h.blk.grown hg (own_blk_ne h.s h.blk (by decide)), hs, h.vv.otherS h.s hg, h.hb⟩
theorem PW.bel {W W' : World} {b base : Nat} {v0 v1 : Value} {bvs : List Value} {S : List Slot} {vs : List Vol} {i bl : Nat} {v : Vol} {gb cb : Nat} {pl : Int} (h : PW W b base v0 v1 bvs S vs i bl v gb cb pl) (hb : Bel W W') : PW W' b base v0 v1 bvs S vs i bl v gb cb pl :=
  ⟨h.blk.bel hb, h.s.bel hb, h.vv.bel hb, h.hb⟩
theorem PW.pool {W : World} {b base : Nat} {v0 v1 : Value} {bvs : List Value} {S : List Slot} {vs : List Vol} {i bl : Nat} {v : Vol} {gb cb : Nat} {pl : Int} (h : PW W b base v0 v1 bvs S vs i bl v gb cb pl) : OwnP W base v0 v1 ⟨S, vs.set i ⟨v.name, v.blocks.set bl pl⟩⟩ bvs := ⟨h.s, h.vv⟩

theorem writeF_no {p : Pool} {name : ByteArray} {b : Int} {text : ByteArray} (h : hasBlk p.vols name b < 0 ∨ tOk text = false) : writeF p name b text = none := by
  unfold writeF
  rw [if_neg]
  rintro ⟨h1, h2⟩
  rcases h with h | h
  · omega
  · rw [h] at h2; cases h2
theorem writeF_free {p : Pool} {name : ByteArray} {b : Int} {text : ByteArray} {i : Nat} {v : Vol} {x : Int} (h : Wr p name b i v x) (ht : tOk text = true) (he : text = e0) :
    writeF p name b text = some ⟨backS p name b, p.vols.set i ⟨v.name, v.blocks.set b.toNat 0⟩⟩ := by
  unfold writeF
  rw [if_pos ⟨by rw [h.has]; omega, ht⟩, if_pos he, h.set, h.nm]
theorem writeF_put {p : Pool} {name : ByteArray} {b : Int} {text : ByteArray} {i : Nat} {v : Vol} {x : Int} (h : Wr p name b i v x) (ht : tOk text = true) (he : text ≠ e0) :
    writeF p name b text = if putAt (backS p name b) text = 0 then none else some ⟨putS (backS p name b) text, p.vols.set i ⟨v.name, v.blocks.set b.toNat (putAt (backS p name b) text)⟩⟩ := by
  unfold writeF
  rw [if_pos ⟨by rw [h.has]; omega, ht⟩, if_neg he, h.set, h.nm]
theorem back_no {p : Pool} {name : ByteArray} {b : Int} {i : Nat} {v : Vol} {x : Int} (h : Wr p name b i v x) (hx : ¬ 0 < x) : backS p name b = p.slots := by
  unfold backS
  rw [h.place]
  unfold dropAll
  rw [if_neg hx]
  rfl
theorem back_yes {p : Pool} {name : ByteArray} {b : Int} {i : Nat} {v : Vol} {m : Nat} (h : Wr p name b i v ((m : Int) + 1)) : backS p name b = dropS p.slots m := by
  unfold backS
  rw [h.place]
  unfold dropAll
  rw [if_pos (by omega), show ((m : Int) + 1 - 1).toNat = m by omega]
  rfl
theorem wr_slot {p : Pool} (hp : PoolP p) {name : ByteArray} {b : Int} {i : Nat} {v : Vol} {m : Nat} (h : Wr p name b i v ((m : Int) + 1)) : ∃ y, p.slots[m]? = some y ∧ 1 ≤ y.uses ∧ y.uses ≤ 99 := by
  have h8 := hp.blk h.vol h.blk
  obtain ⟨y, hy⟩ := hp.slot (show m < 8 by omega)
  have h1 := hp.uses m y hy
  have h2 := uses_mem (p := (m : Int) + 1) h.vol
  have h3 := cnt_pos (p := (m : Int) + 1) (List.mem_of_getElem? h.blk)
  exact ⟨y, hy, by omega, (hp.s.ok m y hy).2.2.1⟩
theorem back_uses {p : Pool} (hp : PoolP p) {name : ByteArray} {b : Int} {i : Nat} {v : Vol} {x : Int} (h : Wr p name b i v x) : (backS p name b).length = 8 ∧ ∀ y ∈ backS p name b, 0 ≤ y.uses ∧ y.uses ≤ 99 := by
  obtain ⟨h1, _⟩ := h.back hp
  refine ⟨h1.len, fun y hy => ?_⟩
  obtain ⟨m, hm⟩ := List.getElem?_of_mem hy
  exact ⟨(h1.ok m y hm).2.1, (h1.ok m y hm).2.2.1⟩
theorem putAt_bd {p : Pool} (hp : PoolP p) {name : ByteArray} {b : Int} {i : Nat} {v : Vol} {x : Int} (h : Wr p name b i v x) {t : ByteArray} (ht : t ≠ e0) : 0 ≤ putAt (backS p name b) t ∧ putAt (backS p name b) t ≤ 8 := by
  obtain ⟨h1, _⟩ := h.back hp
  obtain ⟨hq, _⟩ := putAt_cases h1 ht
  cases hq with
  | no h2 => omega
  | old m z h2 hz _ _ => have := ltQ hz; rw [h1.len] at this; omega
  | fresh m z h2 hz _ _ => have := ltQ hz; rw [h1.len] at this; omega

set_option maxHeartbeats 8000000 in
set_option maxRecDepth 10000 in
theorem writeClo_c {w : World} {A0 A1 : Option Addr} {c0 c1 bp bn bs bt : Nat} {p : Pool} {name : ByteArray} {blk : Int} {text : ByteArray} (h : PoolIn w A0 A1 c0 c1 p) (hs : SmallP p) (hB : Blk w bp #[.slice A0 p.slots.length c0, .slice A1 p.vols.length c1] 30) (hN : Blk w bn #[.string name] 9) (hZ : Blk w bs #[.int .i64 blk] 3) (hT : Blk w bt #[.string text] 9) (hnm : text.size ≤ 1048576) (hok : poolOk p = true)
    (W : World) (b base : Nat) (hW : Bel w W) (hb1 : w.heap.size ≤ base) (hb2 : base ≤ W.heap.size) (hpv : PV W b base p) :
    Calls Try.prog 92 #[.pointer (some ⟨b, 0, none⟩), .pointer (some ⟨bp, 0, none⟩), .pointer (some ⟨bn, 0, none⟩), .pointer (some ⟨bs, 0, none⟩), .pointer (some ⟨bt, 0, none⟩)] W (Changes (writeF p name blk text) b base W) := by
  have HS := Lib.hid hs
  have HP := Lib.hid h
  have HK := Lib.hid (poolOk_iff.1 hok)
  have HV := Lib.hid hpv
  have HW := Lib.hid hW
  have HB := Lib.hid hB
  have HN := Lib.hid hN
  have HZ := Lib.hid hZ
  have HT := Lib.hid hT
  have hnx : text.size ≤ maxLen := by unfold maxLen; omega
  have HNX := Lib.hid hnx
  have q0 := (HB.out.bel HW.out).cell 0
  have q1 := (HB.out.bel HW.out).cell 1
  have q2 := (HN.out.bel HW.out).cell 0
  have q3 := (HZ.out.bel HW.out).cell 0
  simp at q0 q1 q2 q3
  clear h hs hok hpv hW hB hN hZ hT hnx
  go_enter Try.func92, Try.ntmps92
  go_wp2_with fail
  refine (hasBlock_c (HP.out.bel HW.out) HS.out name blk).mono ?_
  rintro e w1 ⟨rfl, hb1'⟩
  have HW1 := Lib.hid (HW.out.tr hb1')
  have HB1 := Lib.hid hb1'
  clear q0 q1 q2 q3 hb1'
  by_cases hn : hasBlk p.vols name blk < 0
  · have HG := Lib.hid (show writeF p name blk text = none from writeF_no (.inl hn))
    go_wp2
    go_ret
    rw [HG.out]
    exact ⟨rfl, ⟨p, HV.out.bel HB1.out, fun q' h => by cases h⟩, HB1.out.mono hb2⟩
  · obtain ⟨i, v, x, hwr⟩ := hasBlk_wr (show 0 ≤ hasBlk p.vols name blk by omega)
    have q4 := (HT.out.bel HW1.out).cell 0
    simp at q4
    rw [hwr.has]
    have hin : ¬ ((i : Int) < 0) := by omega
    clear hn
    cases ht : tOk text with
    | false =>
      have HG := Lib.hid (show writeF p name blk text = none from writeF_no (.inr ht))
      go_wp2_with (go_at_call 94; refine (implTextOk_c text _ HNX.out).mono ?_; rintro e w' ⟨rfl, rfl⟩)
      go_ret
      rw [HG.out]
      exact ⟨rfl, ⟨p, HV.out.bel HB1.out, fun q' h => by cases h⟩, HB1.out.mono hb2⟩
    | true =>
      have hb0 := hwr.b0
      obtain ⟨bl, rfl⟩ : ∃ bl : Nat, blk = bl := ⟨blk.toNat, by omega⟩
      have hil := ltQ hwr.vol
      have hbl : bl < v.blocks.length := by have := ltQ hwr.blk; rwa [Int.toNat_natCast] at this
      have hvl : v.blocks.length ≤ 1048576 := HS.out.vols.blocks v (List.mem_of_getElem? hwr.vol)
      have hlv := HS.out.vols.len
      have hxb := HK.out.blk hwr.vol hwr.blk
      have HWR := Lib.hid hwr
      have HTK := Lib.hid ht
      go_wp2_with (go_at_call 94; refine (implTextOk_c text _ HNX.out).mono ?_; rintro e w' ⟨rfl, rfl⟩)
      obtain ⟨⟨v0, v1, bvs, hb, ho⟩, hlo⟩ := HV.out.bel HB1.out
      obtain ⟨gb, cb, hpw⟩ := PW.mk0 (bl := bl) (x := x) hb ho hwr.vol (by have := hwr.blk; rwa [Int.toNat_natCast] at this)
      clear hb ho hwr ht q4 hb0
      obtain ⟨gv, cv, rfl, u1, u2, u3⟩ := hpw.row hil
      obtain ⟨u4, u5, u6, u7, u8⟩ := hpw.cell hil hbl
      have u0 := hpw.blk.cell 1
      have u9 := (HZ.out.bel HW1.out).cell 0
      simp at u0 u9
      have HPW := Lib.hid (hpw.bel (Below.refl _ _).drew)
      clear hpw
      refine start_ (n := 11) (S := fun w' => w'.cell? ⟨b, 1, none⟩ = some (.slice (some ⟨gv, 0, none⟩) p.vols.length cv) ∧ w'.cell? ⟨gv, i * 2 + 1, none⟩ = some (.slice (some ⟨gb, 0, none⟩) v.blocks.length cb) ∧ w'.cell? ⟨bs, 0, none⟩ = some (.int .i64 (bl : Int))) (ds := []) #[false, false, false, false, false, false, false, false, false, false, false] (by kernel_rfl) rfl rfl ⟨u0, u1, u9⟩ (fun hHeld => ?_)
      refine pure_ (i := 0) (N := some 20) (v := ?_) (a' := ?_) #[true, false, false, false, false, false, false, false, false, false, false] rfl rfl (by kernel_rfl) (fun _ _ _ h => h) (Or.inl ⟨by rfl, ?_⟩) ?_ ?_
      rotate_left
      · intro w'
        go_simp
        with_reducible rfl
      rotate_left
      · simp only [Act.put, List.setIfInBounds_toArray, List.set_cons_zero, List.set_cons_succ, i64_w, i32_w]
        rfl
      refine pure_ (i := 1) (N := some 21) (v := ?_) (a' := ?_) #[true, true, false, false, false, false, false, false, false, false, false] rfl rfl (by kernel_rfl) (fun _ _ _ h => h) (Or.inl ⟨by rfl, ?_⟩) ?_ ?_
      rotate_left
      · intro w'
        go_simp
        with_reducible rfl
      rotate_left
      · simp only [Act.put, List.setIfInBounds_toArray, List.set_cons_zero, List.set_cons_succ, i64_w, i32_w]
        rfl
      refine pure_ (i := 2) (N := some 22) (v := ?_) (a' := ?_) #[true, true, true, false, false, false, false, false, false, false, false] rfl rfl (by kernel_rfl) (fun _ _ _ h => h) (Or.inl ⟨by rfl, ?_⟩) ?_ ?_
      rotate_left
      · intro w'
        go_simp
        with_reducible rfl
      rotate_left
      · simp only [Act.put, List.setIfInBounds_toArray, List.set_cons_zero, List.set_cons_succ, i64_w, i32_w]
        rfl
      refine pure_ (i := 4) (N := some 24) (v := ?_) (a' := ?_) #[true, true, true, false, true, false, false, false, false, false, false] rfl rfl (by kernel_rfl) (fun _ _ _ h => h) (Or.inl ⟨by rfl, ?_⟩) ?_ ?_
      rotate_left
      · intro w'
        go_simp
        with_reducible rfl
      rotate_left
      · simp only [Act.put, List.setIfInBounds_toArray, List.set_cons_zero, List.set_cons_succ, i64_w, i32_w]
        rfl
      refine take_ (i := 3) (N := some 23) (v := ?_) (a' := ?_) #[true, true, true, true, true, false, false, false, false, false, false] rfl rfl (by kernel_rfl) (fun _ _ _ h => h) (Or.inl ⟨by rfl, ?_⟩) hHeld ?_ ?_
      rotate_left
      · rintro w' ⟨s0, s1, s2⟩
        go_simp
        with_reducible rfl
      rotate_left
      · simp only [Act.put, List.setIfInBounds_toArray, List.set_cons_zero, List.set_cons_succ, i64_w, i32_w]
        rfl
      refine pure_ (i := 5) (N := some 25) (v := ?_) (a' := ?_) #[true, true, true, true, true, true, false, false, false, false, false] rfl rfl (by kernel_rfl) (fun _ _ _ h => h) (Or.inl ⟨by rfl, ?_⟩) ?_ ?_
      rotate_left
      · intro w'
        go_simp
        with_reducible rfl
      rotate_left
      · simp only [Act.put, List.setIfInBounds_toArray, List.set_cons_zero, List.set_cons_succ, i64_w, i32_w]
        rfl
      refine pure_ (i := 6) (N := some 26) (v := ?_) (a' := ?_) #[true, true, true, true, true, true, true, false, false, false, false] rfl rfl (by kernel_rfl) (fun _ _ _ h => h) (Or.inl ⟨by rfl, ?_⟩) ?_ ?_
      rotate_left
      · intro w'
        go_simp
        with_reducible rfl
      rotate_left
      · simp only [Act.put, List.setIfInBounds_toArray, List.set_cons_zero, List.set_cons_succ, i64_w, i32_w]
        rfl
      refine take_ (i := 7) (N := some 27) (v := ?_) (a' := ?_) #[true, true, true, true, true, true, true, true, false, false, false] rfl rfl (by kernel_rfl) (fun _ _ _ h => h) (Or.inl ⟨by rfl, ?_⟩) hHeld ?_ ?_
      rotate_left
      · rintro w' ⟨s0, s1, s2⟩
        go_simp
        with_reducible rfl
      rotate_left
      · simp only [Act.put, List.setIfInBounds_toArray, List.set_cons_zero, List.set_cons_succ, i64_w, i32_w]
        rfl
      refine take_ (i := 8) (N := some 28) (v := ?_) (a' := ?_) #[true, true, true, true, true, true, true, true, true, false, false] rfl rfl (by kernel_rfl) (fun _ _ _ h => h) (Or.inl ⟨by rfl, ?_⟩) hHeld ?_ ?_
      rotate_left
      · rintro w' ⟨s0, s1, s2⟩
        go_simp
        with_reducible rfl
      rotate_left
      · simp only [Act.put, List.setIfInBounds_toArray, List.set_cons_zero, List.set_cons_succ, i64_w, i32_w]
        rfl
      refine pure_ (i := 9) (N := some 29) (v := ?_) (a' := ?_) #[true, true, true, true, true, true, true, true, true, true, false] rfl rfl (by kernel_rfl) (fun _ _ _ h => h) (Or.inl ⟨by rfl, ?_⟩) ?_ ?_
      rotate_left
      · intro w'
        go_simp
        with_reducible rfl
      rotate_left
      · simp only [Act.put, List.setIfInBounds_toArray, List.set_cons_zero, List.set_cons_succ, i64_w, i32_w]
        rfl
      refine pure_ (i := 10) (N := some 8) (v := ?_) (a' := ?_) #[true, true, true, true, true, true, true, true, true, true, true] rfl rfl (by kernel_rfl) (fun _ _ _ h => h) (Or.inl ⟨by rfl, ?_⟩) ?_ ?_
      rotate_left
      · intro w'
        go_simp
        with_reducible rfl
      rotate_left
      · simp only [Act.put, List.setIfInBounds_toArray, List.set_cons_zero, List.set_cons_succ, i64_w, i32_w]
        rfl
      refine done_ (by kernel_rfl) ?_
      clear hHeld u0 u1 u2 u3 u4 u5 u6 u7 u8 u9
      have HBEL := Lib.hid (show Below base w1 w1.drew from (Below.refl _ _).drew)
      have hbs : base ≤ w1.drew.heap.size := by have h5 : w1.drew.heap.size = w1.heap.size := rfl; have := HB1.out.size; omega
      generalize w1.drew = W2 at HPW HBEL hbs ⊢
      obtain ⟨A6, c6, rfl, hc6, hC6⟩ := HPW.out.s.reads
      clear hC6
      by_cases h0 : 0 < x
      · obtain ⟨m, rfl⟩ : ∃ m : Nat, x = (m : Int) + 1 := ⟨(x - 1).toNat, by omega⟩
        have HBK := Lib.hid (back_yes HWR.out)
        obtain ⟨y, hy, hy1, hy2⟩ := wr_slot HK.out HWR.out
        obtain ⟨u4, u5, u6, u7, u8⟩ := HPW.out.cell hil hbl
        have u0 := HPW.out.blk.cell 0
        simp at u0
        have HY := Lib.hid hy
        have HS6 := Lib.hid (show OwnS W2.drew base (.slice A6 p.slots.length c6) p.slots from HPW.out.s.bel (Below.refl _ _).drew)
        have hsl : p.slots.length ≤ 1048576 := HS.out.slots.len
        clear hy
        go_wp2
        refine start_ (n := 8) (S := fun w' => w'.cell? ⟨b, 0, none⟩ = some (.slice A6 p.slots.length c6) ∧ w'.cell? ⟨gb, bl, none⟩ = some (.int .i64 ((m : Int) + 1))) (ds := []) #[false, false, false, false, false, false, false, false] (by kernel_rfl) rfl rfl ⟨u0, u4⟩ (fun hHeld => ?_)
        refine pure_ (i := 0) (N := some 34) (v := ?_) (a' := ?_) #[true, false, false, false, false, false, false, false] rfl rfl (by kernel_rfl) (fun _ _ _ h => h) (Or.inl ⟨by rfl, ?_⟩) ?_ ?_
        rotate_left
        · intro w'
          go_simp
          with_reducible rfl
        rotate_left
        · simp only [Act.put, List.setIfInBounds_toArray, List.set_cons_zero, List.set_cons_succ, i64_w, i32_w]
          rfl
        refine pure_ (i := 1) (N := some 35) (v := ?_) (a' := ?_) #[true, true, false, false, false, false, false, false] rfl rfl (by kernel_rfl) (fun _ _ _ h => h) (Or.inl ⟨by rfl, ?_⟩) ?_ ?_
        rotate_left
        · intro w'
          go_simp
          with_reducible rfl
        rotate_left
        · simp only [Act.put, List.setIfInBounds_toArray, List.set_cons_zero, List.set_cons_succ, i64_w, i32_w]
          rfl
        refine pure_ (i := 2) (N := some 36) (v := ?_) (a' := ?_) #[true, true, true, false, false, false, false, false] rfl rfl (by kernel_rfl) (fun _ _ _ h => h) (Or.inl ⟨by rfl, ?_⟩) ?_ ?_
        rotate_left
        · intro w'
          go_simp
          with_reducible rfl
        rotate_left
        · simp only [Act.put, List.setIfInBounds_toArray, List.set_cons_zero, List.set_cons_succ, i64_w, i32_w]
          rfl
        refine pure_ (i := 4) (N := some 38) (v := ?_) (a' := ?_) #[true, true, true, false, true, false, false, false] rfl rfl (by kernel_rfl) (fun _ _ _ h => h) (Or.inl ⟨by rfl, ?_⟩) ?_ ?_
        rotate_left
        · intro w'
          go_simp
          with_reducible rfl
        rotate_left
        · simp only [Act.put, List.setIfInBounds_toArray, List.set_cons_zero, List.set_cons_succ, i64_w, i32_w]
          rfl
        refine pure_ (i := 5) (N := some 39) (v := ?_) (a' := ?_) #[true, true, true, false, true, true, false, false] rfl rfl (by kernel_rfl) (fun _ _ _ h => h) (Or.inl ⟨by rfl, ?_⟩) ?_ ?_
        rotate_left
        · intro w'
          go_simp
          with_reducible rfl
        rotate_left
        · simp only [Act.put, List.setIfInBounds_toArray, List.set_cons_zero, List.set_cons_succ, i64_w, i32_w]
          rfl
        refine take_ (i := 3) (N := some 37) (v := ?_) (a' := ?_) #[true, true, true, true, true, true, false, false] rfl rfl (by kernel_rfl) (fun _ _ _ h => h) (Or.inl ⟨by rfl, ?_⟩) hHeld ?_ ?_
        rotate_left
        · rintro w' ⟨s0, s1⟩
          go_simp
          with_reducible rfl
        rotate_left
        · simp only [Act.put, List.setIfInBounds_toArray, List.set_cons_zero, List.set_cons_succ, i64_w, i32_w]
          rfl
        refine take_ (i := 6) (N := some 40) (v := ?_) (a' := ?_) #[true, true, true, true, true, true, true, false] rfl rfl (by kernel_rfl) (fun _ _ _ h => h) (Or.inl ⟨by rfl, ?_⟩) hHeld ?_ ?_
        rotate_left
        · rintro w' ⟨s0, s1⟩
          go_simp
          with_reducible rfl
        rotate_left
        · simp only [Act.put, List.setIfInBounds_toArray, List.set_cons_zero, List.set_cons_succ, i64_w, i32_w]
          rfl
        refine one_ (i := 7) (N := some 41) #[true, true, true, true, true, true, true, true] rfl rfl (by kernel_rfl) (by decide) (fun K hK => ?_)
        refine goes_ Try.func70 (by kernel_rfl) rfl #[.slice A6 p.slots.length c6, .int .i64 ((m : Int) + 1)] (by rfl) rfl rfl (by simp only [List.map_toArray, List.map_cons, List.map_nil]; rfl) ?_
        with_reducible refine (drop_c HS6.out HY.out hsl hy1 hy2).mono ?_
        rintro e w3 ⟨rfl, ho3, hg3⟩
        have HPC := Lib.hid ((HPW.out.bel (Below.refl _ _).drew).slots ho3 hg3)
        have HBELC := Lib.hid ((HBEL.out.drew).grown hg3 (show base ≤ W2.drew.heap.size by have h5 : W2.drew.heap.size = W2.heap.size := rfl; omega) (own_base HS6.out))
        obtain ⟨s4, s5, s6, s7, s8⟩ := HPC.out.cell hil hbl
        have s0 := HPC.out.blk.cell 0
        simp at s0
        clear ho3 hg3
        refine ⟨_, rfl, ?_⟩
        refine hK.out _ _ ⟨s0, s4⟩ (fun hHeld => ?_)
        clear hK K
        refine norm_ (a' := ?_) ?_ ?_
        rotate_left
        · show Act.put _ (some 41) _ = _
          simp only [Act.put, List.setIfInBounds_toArray, List.set_cons_zero, List.set_cons_succ, i64_w, i32_w]
          rfl
        refine done_ (by kernel_rfl) ?_
        clear hHeld s0 s4 s5 s6 s7 s8 u0 u4 u5 u6 u7 u8
        have hbs3 : base ≤ w3.heap.size := by have := HBELC.out.size; have := HB1.out.size; omega
        clear hbs
        have hbs := hbs3
        obtain ⟨t4, t5, t6, t7, t8⟩ := HPC.out.cell hil hbl
        have hput := HPC.out.put hil hbl 0
        have hbel7 := HBELC.out.setCell (p := ⟨gb, bl, none⟩) t7 (.int .i64 0)
        have hbt := HT.out.lt
        have hT7 := (HT.out.bel (HW1.out.trans (hbel7.mono hb1))).cell 0
        simp at hT7
        have HPUT := Lib.hid hput.1
        have HBEL7 := Lib.hid hbel7
        clear hput hbel7
        by_cases he : text = e0
        · have HG := Lib.hid (show writeF p name bl text = some ⟨(dropS p.slots m), p.vols.set i ⟨v.name, v.blocks.set bl 0⟩⟩ by rw [writeF_free HWR.out HTK.out he, HBK.out, Int.toNat_natCast])
          have hz := toList_nil.2 he
          clear he
          go_wp2
          go_ret
          rw [HG.out]
          exact ⟨by first | rfl | simp, ⟨_, ⟨⟨_, _, _, HPUT.out.blk, HPUT.out.pool⟩, hlo⟩, fun q' h => (Option.some.inj h)⟩, (HB1.out.mono hb2).trans HBEL7.out⟩
        · have hz : ¬ text.toList = [] := fun h => he (toList_nil.1 h)
          have hz2 : text.toList.isEmpty = false := by simpa using hz
          have HE := Lib.hid he
          clear he
          go_wp2
          generalize w3.setCell ⟨gb, bl, none⟩ (.int .i64 0) = W7 at HPUT HBEL7 hT7 ⊢
          clear t4 t5 t6
          obtain ⟨t4, t5, t6, -, -⟩ := HPUT.out.cell hil hbl
          have t0 := HPUT.out.blk.cell 0
          simp at t0
          have hbu := back_uses HK.out HWR.out
          rw [HBK.out] at hbu
          have hbd := putAt_bd HK.out HWR.out HE.out
          rw [HBK.out] at hbd
          have HS7 := Lib.hid (show OwnS W7.drew base (.slice A6 p.slots.length c6) (dropS p.slots m) from HPUT.out.s.bel (Below.refl _ _).drew)
          have HBU := Lib.hid hbu
          clear hbu
          refine start_ (n := 9) (S := fun w' => w'.cell? ⟨b, 0, none⟩ = some (.slice A6 p.slots.length c6) ∧ w'.cell? ⟨bt, 0, none⟩ = some (.string text)) (ds := [8]) #[false, false, false, false, false, false, false, false, false] (by kernel_rfl) rfl rfl ⟨t0, hT7⟩ (fun hHeld => ?_)
          refine pure_ (i := 0) (N := some 46) (v := ?_) (a' := ?_) #[true, false, false, false, false, false, false, false, false] rfl rfl (by kernel_rfl) (fun _ _ _ h => h) (Or.inl ⟨by rfl, ?_⟩) ?_ ?_
          rotate_left
          · intro w'
            go_simp
            with_reducible rfl
          rotate_left
          · simp only [Act.put, List.setIfInBounds_toArray, List.set_cons_zero, List.set_cons_succ, i64_w, i32_w]
            rfl
          refine pure_ (i := 1) (N := some 47) (v := ?_) (a' := ?_) #[true, true, false, false, false, false, false, false, false] rfl rfl (by kernel_rfl) (fun _ _ _ h => h) (Or.inl ⟨by rfl, ?_⟩) ?_ ?_
          rotate_left
          · intro w'
            go_simp
            with_reducible rfl
          rotate_left
          · simp only [Act.put, List.setIfInBounds_toArray, List.set_cons_zero, List.set_cons_succ, i64_w, i32_w]
            rfl
          refine pure_ (i := 2) (N := some 48) (v := ?_) (a' := ?_) #[true, true, true, false, false, false, false, false, false] rfl rfl (by kernel_rfl) (fun _ _ _ h => h) (Or.inl ⟨by rfl, ?_⟩) ?_ ?_
          rotate_left
          · intro w'
            go_simp
            with_reducible rfl
          rotate_left
          · simp only [Act.put, List.setIfInBounds_toArray, List.set_cons_zero, List.set_cons_succ, i64_w, i32_w]
            rfl
          refine pure_ (i := 3) (N := some 49) (v := ?_) (a' := ?_) #[true, true, true, true, false, false, false, false, false] rfl rfl (by kernel_rfl) (fun _ _ _ h => h) (Or.inl ⟨by rfl, ?_⟩) ?_ ?_
          rotate_left
          · intro w'
            go_simp
            with_reducible rfl
          rotate_left
          · simp only [Act.put, List.setIfInBounds_toArray, List.set_cons_zero, List.set_cons_succ, i64_w, i32_w]
            rfl
          refine take_ (i := 4) (N := some 50) (v := ?_) (a' := ?_) #[true, true, true, true, true, false, false, false, false] rfl rfl (by kernel_rfl) (fun _ _ _ h => h) (Or.inl ⟨by rfl, ?_⟩) hHeld ?_ ?_
          rotate_left
          · rintro w' ⟨s0, s1⟩
            go_simp
            with_reducible rfl
          rotate_left
          · simp only [Act.put, List.setIfInBounds_toArray, List.set_cons_zero, List.set_cons_succ, i64_w, i32_w]
            rfl
          refine take_ (i := 5) (N := some 51) (v := ?_) (a' := ?_) #[true, true, true, true, true, true, false, false, false] rfl rfl (by kernel_rfl) (fun _ _ _ h => h) (Or.inl ⟨by rfl, ?_⟩) hHeld ?_ ?_
          rotate_left
          · rintro w' ⟨s0, s1⟩
            go_simp
            with_reducible rfl
          rotate_left
          · simp only [Act.put, List.setIfInBounds_toArray, List.set_cons_zero, List.set_cons_succ, i64_w, i32_w]
            rfl
          refine one_ (i := 6) (N := some 52) #[true, true, true, true, true, true, true, false, false] rfl rfl (by kernel_rfl) (by decide) (fun K hK => ?_)
          refine goes_ Try.func95 (by kernel_rfl) rfl #[.slice A6 p.slots.length c6, .string text] (by rfl) rfl rfl (by simp only [List.map_toArray, List.map_cons, List.map_nil]; rfl) ?_
          with_reducible refine (put_c HS7.out HBU.out.1 HBU.out.2 text HTK.out).mono ?_
          rintro e w8 ⟨rfl, ho8, hg8⟩
          have HP8 := Lib.hid ((HPUT.out.bel (Below.refl _ _).drew).slots ho8 hg8)
          have HBEL8 := Lib.hid ((HBEL7.out.drew).grown hg8 (show base ≤ W7.drew.heap.size by have h5 : W7.drew.heap.size = W7.heap.size := rfl; omega) (own_base HS7.out))
          obtain ⟨s4, s5, s6, s7, s8⟩ := HP8.out.cell hil hbl
          have s0 := HP8.out.blk.cell 0
          have s1 := (HT.out.bel (HW1.out.trans (HBEL8.out.mono hb1))).cell 0
          simp at s0 s1
          clear ho8 hg8
          refine ⟨_, rfl, ?_⟩
          refine hK.out _ _ ⟨s0, s1⟩ (fun hHeld => ?_)
          clear hK K
          refine norm_ (a' := ?_) ?_ ?_
          rotate_left
          · show Act.put _ (some 52) _ = _
            simp only [Act.put, List.setIfInBounds_toArray, List.set_cons_zero, List.set_cons_succ, i64_w, i32_w]
            rfl
          refine pure_ (i := 7) (N := some 53) (v := ?_) (a' := ?_) #[true, true, true, true, true, true, true, true, false] rfl rfl (by kernel_rfl) (fun _ _ _ h => h) (Or.inl ⟨by rfl, ?_⟩) ?_ ?_
          rotate_left
          · intro w'
            go_simp
            with_reducible rfl
          rotate_left
          · simp only [Act.put, List.setIfInBounds_toArray, List.set_cons_zero, List.set_cons_succ, i64_w, i32_w]
            rfl
          refine last_ (i := 8) (N := none) #[true, true, true, true, true, true, true, true, true] rfl rfl (by kernel_rfl) (by decide) (fun K hK => ?_)
          refine skip_ (w1 := ?_) (by rfl) rfl ?_ ?_
          rotate_left
          · go_simp
            rfl
          refine hK.out _ _ ?_
          clear hK K
          refine done_ (by kernel_rfl) ?_
          clear hHeld t4 t5 t6 t0 hT7
          have hT9 := (HT.out.bel (HW1.out.trans ((HBEL8.out.setCell (p := ⟨gb, bl, none⟩) t7 (.int .i64 (putAt (dropS p.slots m) text))).mono hb1))).cell 0
          simp at hT9
          have HPUT9 := Lib.hid (HP8.out.put hil hbl (putAt (dropS p.slots m) text)).1
          have HBEL9 := Lib.hid (HBEL8.out.setCell (p := ⟨gb, bl, none⟩) t7 (.int .i64 (putAt (dropS p.slots m) text)))
          by_cases h99 : putAt (dropS p.slots m) text = 0
          · have HG := Lib.hid (show writeF p name bl text = none by rw [writeF_put HWR.out HTK.out HE.out, HBK.out, if_pos h99])
            have hn0 : ¬ 0 < putAt (dropS p.slots m) text := by omega
            clear h99
            go_wp2
            go_ret
            rw [HG.out]
            exact ⟨by first | rfl | (simp [hz]; done) | (simp; exact hz), ⟨_, ⟨⟨_, _, _, HPUT9.out.blk, HPUT9.out.pool⟩, hlo⟩, fun q' h => by cases h⟩, (HB1.out.mono hb2).trans HBEL9.out⟩
          · have HG := Lib.hid (show writeF p name bl text = some ⟨putS (dropS p.slots m) text, p.vols.set i ⟨v.name, v.blocks.set bl (putAt (dropS p.slots m) text)⟩⟩ by rw [writeF_put HWR.out HTK.out HE.out, HBK.out, if_neg h99, Int.toNat_natCast])
            have hn0 : 0 < putAt (dropS p.slots m) text := by omega
            clear h99
            go_wp2
            go_ret
            rw [HG.out]
            exact ⟨by first | rfl | (simp [hz]; done) | (simp; exact hz), ⟨_, ⟨⟨_, _, _, HPUT9.out.blk, HPUT9.out.pool⟩, hlo⟩, fun q' h => (Option.some.inj h)⟩, (HB1.out.mono hb2).trans HBEL9.out⟩
      · have HBK := Lib.hid (back_no HWR.out h0)
        have HPC := HPW
        have HBELC := HBEL
        obtain ⟨t4, t5, t6, t7, t8⟩ := HPC.out.cell hil hbl
        have hput := HPC.out.put hil hbl 0
        have hbel7 := HBELC.out.setCell (p := ⟨gb, bl, none⟩) t7 (.int .i64 0)
        have hbt := HT.out.lt
        have hT7 := (HT.out.bel (HW1.out.trans (hbel7.mono hb1))).cell 0
        simp at hT7
        have HPUT := Lib.hid hput.1
        have HBEL7 := Lib.hid hbel7
        clear hput hbel7
        by_cases he : text = e0
        · have HG := Lib.hid (show writeF p name bl text = some ⟨p.slots, p.vols.set i ⟨v.name, v.blocks.set bl 0⟩⟩ by rw [writeF_free HWR.out HTK.out he, HBK.out, Int.toNat_natCast])
          have hz := toList_nil.2 he
          clear he
          go_wp2
          go_ret
          rw [HG.out]
          exact ⟨by first | rfl | simp, ⟨_, ⟨⟨_, _, _, HPUT.out.blk, HPUT.out.pool⟩, hlo⟩, fun q' h => (Option.some.inj h)⟩, (HB1.out.mono hb2).trans HBEL7.out⟩
        · have hz : ¬ text.toList = [] := fun h => he (toList_nil.1 h)
          have hz2 : text.toList.isEmpty = false := by simpa using hz
          have HE := Lib.hid he
          clear he
          go_wp2
          generalize W2.setCell ⟨gb, bl, none⟩ (.int .i64 0) = W7 at HPUT HBEL7 hT7 ⊢
          clear t4 t5 t6
          obtain ⟨t4, t5, t6, -, -⟩ := HPUT.out.cell hil hbl
          have t0 := HPUT.out.blk.cell 0
          simp at t0
          have hbu := back_uses HK.out HWR.out
          rw [HBK.out] at hbu
          have hbd := putAt_bd HK.out HWR.out HE.out
          rw [HBK.out] at hbd
          have HS7 := Lib.hid (show OwnS W7.drew base (.slice A6 p.slots.length c6) p.slots from HPUT.out.s.bel (Below.refl _ _).drew)
          have HBU := Lib.hid hbu
          clear hbu
          refine start_ (n := 9) (S := fun w' => w'.cell? ⟨b, 0, none⟩ = some (.slice A6 p.slots.length c6) ∧ w'.cell? ⟨bt, 0, none⟩ = some (.string text)) (ds := [8]) #[false, false, false, false, false, false, false, false, false] (by kernel_rfl) rfl rfl ⟨t0, hT7⟩ (fun hHeld => ?_)
          refine pure_ (i := 0) (N := some 46) (v := ?_) (a' := ?_) #[true, false, false, false, false, false, false, false, false] rfl rfl (by kernel_rfl) (fun _ _ _ h => h) (Or.inl ⟨by rfl, ?_⟩) ?_ ?_
          rotate_left
          · intro w'
            go_simp
            with_reducible rfl
          rotate_left
          · simp only [Act.put, List.setIfInBounds_toArray, List.set_cons_zero, List.set_cons_succ, i64_w, i32_w]
            rfl
          refine pure_ (i := 1) (N := some 47) (v := ?_) (a' := ?_) #[true, true, false, false, false, false, false, false, false] rfl rfl (by kernel_rfl) (fun _ _ _ h => h) (Or.inl ⟨by rfl, ?_⟩) ?_ ?_
          rotate_left
          · intro w'
            go_simp
            with_reducible rfl
          rotate_left
          · simp only [Act.put, List.setIfInBounds_toArray, List.set_cons_zero, List.set_cons_succ, i64_w, i32_w]
            rfl
          refine pure_ (i := 2) (N := some 48) (v := ?_) (a' := ?_) #[true, true, true, false, false, false, false, false, false] rfl rfl (by kernel_rfl) (fun _ _ _ h => h) (Or.inl ⟨by rfl, ?_⟩) ?_ ?_
          rotate_left
          · intro w'
            go_simp
            with_reducible rfl
          rotate_left
          · simp only [Act.put, List.setIfInBounds_toArray, List.set_cons_zero, List.set_cons_succ, i64_w, i32_w]
            rfl
          refine pure_ (i := 3) (N := some 49) (v := ?_) (a' := ?_) #[true, true, true, true, false, false, false, false, false] rfl rfl (by kernel_rfl) (fun _ _ _ h => h) (Or.inl ⟨by rfl, ?_⟩) ?_ ?_
          rotate_left
          · intro w'
            go_simp
            with_reducible rfl
          rotate_left
          · simp only [Act.put, List.setIfInBounds_toArray, List.set_cons_zero, List.set_cons_succ, i64_w, i32_w]
            rfl
          refine take_ (i := 4) (N := some 50) (v := ?_) (a' := ?_) #[true, true, true, true, true, false, false, false, false] rfl rfl (by kernel_rfl) (fun _ _ _ h => h) (Or.inl ⟨by rfl, ?_⟩) hHeld ?_ ?_
          rotate_left
          · rintro w' ⟨s0, s1⟩
            go_simp
            with_reducible rfl
          rotate_left
          · simp only [Act.put, List.setIfInBounds_toArray, List.set_cons_zero, List.set_cons_succ, i64_w, i32_w]
            rfl
          refine take_ (i := 5) (N := some 51) (v := ?_) (a' := ?_) #[true, true, true, true, true, true, false, false, false] rfl rfl (by kernel_rfl) (fun _ _ _ h => h) (Or.inl ⟨by rfl, ?_⟩) hHeld ?_ ?_
          rotate_left
          · rintro w' ⟨s0, s1⟩
            go_simp
            with_reducible rfl
          rotate_left
          · simp only [Act.put, List.setIfInBounds_toArray, List.set_cons_zero, List.set_cons_succ, i64_w, i32_w]
            rfl
          refine one_ (i := 6) (N := some 52) #[true, true, true, true, true, true, true, false, false] rfl rfl (by kernel_rfl) (by decide) (fun K hK => ?_)
          refine goes_ Try.func95 (by kernel_rfl) rfl #[.slice A6 p.slots.length c6, .string text] (by rfl) rfl rfl (by simp only [List.map_toArray, List.map_cons, List.map_nil]; rfl) ?_
          with_reducible refine (put_c HS7.out HBU.out.1 HBU.out.2 text HTK.out).mono ?_
          rintro e w8 ⟨rfl, ho8, hg8⟩
          have HP8 := Lib.hid ((HPUT.out.bel (Below.refl _ _).drew).slots ho8 hg8)
          have HBEL8 := Lib.hid ((HBEL7.out.drew).grown hg8 (show base ≤ W7.drew.heap.size by have h5 : W7.drew.heap.size = W7.heap.size := rfl; omega) (own_base HS7.out))
          obtain ⟨s4, s5, s6, s7, s8⟩ := HP8.out.cell hil hbl
          have s0 := HP8.out.blk.cell 0
          have s1 := (HT.out.bel (HW1.out.trans (HBEL8.out.mono hb1))).cell 0
          simp at s0 s1
          clear ho8 hg8
          refine ⟨_, rfl, ?_⟩
          refine hK.out _ _ ⟨s0, s1⟩ (fun hHeld => ?_)
          clear hK K
          refine norm_ (a' := ?_) ?_ ?_
          rotate_left
          · show Act.put _ (some 52) _ = _
            simp only [Act.put, List.setIfInBounds_toArray, List.set_cons_zero, List.set_cons_succ, i64_w, i32_w]
            rfl
          refine pure_ (i := 7) (N := some 53) (v := ?_) (a' := ?_) #[true, true, true, true, true, true, true, true, false] rfl rfl (by kernel_rfl) (fun _ _ _ h => h) (Or.inl ⟨by rfl, ?_⟩) ?_ ?_
          rotate_left
          · intro w'
            go_simp
            with_reducible rfl
          rotate_left
          · simp only [Act.put, List.setIfInBounds_toArray, List.set_cons_zero, List.set_cons_succ, i64_w, i32_w]
            rfl
          refine last_ (i := 8) (N := none) #[true, true, true, true, true, true, true, true, true] rfl rfl (by kernel_rfl) (by decide) (fun K hK => ?_)
          refine skip_ (w1 := ?_) (by rfl) rfl ?_ ?_
          rotate_left
          · go_simp
            rfl
          refine hK.out _ _ ?_
          clear hK K
          refine done_ (by kernel_rfl) ?_
          clear hHeld t4 t5 t6 t0 hT7
          have hT9 := (HT.out.bel (HW1.out.trans ((HBEL8.out.setCell (p := ⟨gb, bl, none⟩) t7 (.int .i64 (putAt p.slots text))).mono hb1))).cell 0
          simp at hT9
          have HPUT9 := Lib.hid (HP8.out.put hil hbl (putAt p.slots text)).1
          have HBEL9 := Lib.hid (HBEL8.out.setCell (p := ⟨gb, bl, none⟩) t7 (.int .i64 (putAt p.slots text)))
          by_cases h99 : putAt p.slots text = 0
          · have HG := Lib.hid (show writeF p name bl text = none by rw [writeF_put HWR.out HTK.out HE.out, HBK.out, if_pos h99])
            have hn0 : ¬ 0 < putAt p.slots text := by omega
            clear h99
            go_wp2
            go_ret
            rw [HG.out]
            exact ⟨by first | rfl | (simp [hz]; done) | (simp; exact hz), ⟨_, ⟨⟨_, _, _, HPUT9.out.blk, HPUT9.out.pool⟩, hlo⟩, fun q' h => by cases h⟩, (HB1.out.mono hb2).trans HBEL9.out⟩
          · have HG := Lib.hid (show writeF p name bl text = some ⟨putS p.slots text, p.vols.set i ⟨v.name, v.blocks.set bl (putAt p.slots text)⟩⟩ by rw [writeF_put HWR.out HTK.out HE.out, HBK.out, if_neg h99, Int.toNat_natCast])
            have hn0 : 0 < putAt p.slots text := by omega
            clear h99
            go_wp2
            go_ret
            rw [HG.out]
            exact ⟨by first | rfl | (simp [hz]; done) | (simp; exact hz), ⟨_, ⟨⟨_, _, _, HPUT9.out.blk, HPUT9.out.pool⟩, hlo⟩, fun q' h => (Option.some.inj h)⟩, (HB1.out.mono hb2).trans HBEL9.out⟩
end Go.Proofs.Ytpobgjkmjlmafaa
/- PoolWrite, as the reference does it: l11Write. -/

namespace Go.Proofs.Ytpobgjkmjlmafaa
open Go.RowKit Go.Proofs.YtpobgjkmjlmafaaW.PrintWords Go.Proofs.YtpobgjkmjlmafaaW.PrintLast
set_option linter.unusedVariables false
set_option linter.unusedSimpArgs false

theorem PW.same0 {W : World} {b base : Nat} {v0 v1 : Value} {bvs : List Value} {S : List Slot} {vs : List Vol} {i bl : Nat} {v : Vol} {gb cb : Nat} {pl : Int} (h : PW W b base v0 v1 bvs S vs i bl v gb cb pl) :
    PW (W.setCell ⟨b, 0, none⟩ v0) b base v0 v1 bvs S vs i bl v gb cb pl :=
  ⟨h.blk.set 0 v0 rfl, h.s.far h.blk (by decide) 0 v0, h.vv.far h.blk (by decide) (by decide) 0 v0, h.hb⟩
theorem PW.far {W : World} {b base : Nat} {v0 v1 : Value} {bvs : List Value} {S : List Slot} {vs : List Vol} {i bl : Nat} {v : Vol} {gb cb : Nat} {pl : Int} (h : PW W b base v0 v1 bvs S vs i bl v gb cb pl) {b2 : Nat} {cs : Array Value} (hB : Blk W b2 cs 30) (hne : b2 ≠ b) (j : Nat) (u : Value) :
    PW (W.setCell ⟨b2, j, none⟩ u) b base v0 v1 bvs S vs i bl v gb cb pl :=
  ⟨h.blk.apart hne j u, h.s.far hB (by decide) j u, h.vv.far hB (by decide) (by decide) j u, h.hb⟩
theorem PW.mk1 {W : World} {b base : Nat} {v0 v1 : Value} {bvs : List Value} {p : Pool} {i bl : Nat} {v : Vol} {x : Int} {gb cb : Nat} (hB : Blk W b #[v0, v1] 30) (h : OwnP W base v0 v1 p bvs) (hv : p.vols[i]? = some v) (hx : v.blocks[bl]? = some x) (hb : bvs[i]? = some (.slice (some ⟨gb, 0, none⟩) v.blocks.length cb)) :
    PW W b base v0 v1 bvs p.slots p.vols i bl v gb cb x := by
  refine ⟨hB, h.s, ?_, hb⟩
  rw [set_same hx, show (⟨v.name, v.blocks⟩ : Vol) = v from rfl, set_same hv]
  exact h.v
theorem Blk.bel' {w w' : World} {b base : Nat} {cs : Array Value} {t : TypeId} (h : Blk w b cs t) (hb : Below base w w') (hlt : b < base) : Blk w' b cs t := (hb.block _ hlt).trans h
theorem OwnP.bel' {w w' : World} {base : Nat} {v0 v1 : Value} {p : Pool} {bvs : List Value} (h : OwnP w base v0 v1 p bvs) (hb : Bel w w') : OwnP w' base v0 v1 p bvs := h.bel hb
theorem hasBlk_none {vs : List Vol} {t : ByteArray} {b : Int} {i : Nat} {v : Vol} (hi : volIdx vs t = i) (hv : vs[i]? = some v) (h : inR b 0 ((v.blocks.length : Int) - 1) = false) : hasBlk vs t b < 0 := by
  rw [hasBlk_at hi hv, h]; simp
theorem hasBlk_some {vs : List Vol} {t : ByteArray} {b : Int} {i : Nat} {v : Vol} (hi : volIdx vs t = i) (hv : vs[i]? = some v) (h : inR b 0 ((v.blocks.length : Int) - 1) = true) : hasBlk vs t b = i := by
  rw [hasBlk_at hi hv, h]; simp
set_option maxHeartbeats 16000000 in
set_option maxRecDepth 10000 in
theorem l11Write_c {w : World} {base : Nat} {v0 v1 : Value} {bvs : List Value} {p : Pool} {name : ByteArray} {blk : Int} {text : ByteArray} (h : OwnP w base v0 v1 p bvs) (hs : SmallP p) (hp : PoolP p) (hbase : base ≤ w.heap.size) (hnm : text.size ≤ 1048576) :
    Calls Try.prog 91 #[.agg #[v0, v1], .string name, .int .i64 blk, .string text] w (TurnsP base p (writeF p name blk text) w) := by
  have HS := Lib.hid hs
  have HK := Lib.hid hp
  obtain ⟨A0, A1, c0, c1, rfl, rfl, hpi⟩ := h.reads
  have HP := Lib.hid h
  have HI := Lib.hid hpi
  have hlv := HS.out.vols.len
  have hnx : text.size ≤ maxLen := by unfold maxLen; omega
  have HNX := Lib.hid hnx
  clear h hs hp hpi hnx
  go_enter Try.func91, Try.ntmps91
  go_wp2_with fail
  have hB : Blk ((w.alloc (.cells #[.slice A0 p.slots.length c0, .slice A1 p.vols.length c1] 30)).alloc (.cells #[.slice none 0 0, .slice none 0 0] 30)) w.heap.size #[.slice A0 p.slots.length c0, .slice A1 p.vols.length c1] 30 := (Blk.new _ _ _).alloc _
  have hR : Blk ((w.alloc (.cells #[.slice A0 p.slots.length c0, .slice A1 p.vols.length c1] 30)).alloc (.cells #[.slice none 0 0, .slice none 0 0] 30)) (w.heap.size + 1) #[.slice none 0 0, .slice none 0 0] 30 := Blk.nw2 _ _ _ _
  have hW : Bel w ((w.alloc (.cells #[.slice A0 p.slots.length c0, .slice A1 p.vols.length c1] 30)).alloc (.cells #[.slice none 0 0, .slice none 0 0] 30)) := bel_alloc (bel_alloc (Below.refl _ _) _) _
  generalize ((w.alloc (.cells #[.slice A0 p.slots.length c0, .slice A1 p.vols.length c1] 30)).alloc (.cells #[.slice none 0 0, .slice none 0 0] 30)) = W0 at hB hR hW ⊢
  have hno : ∀ W : World, Bel W0 W → writeF p name blk text = none →
      Blk ((W.setCell ⟨w.heap.size + 1, 0, none⟩ (.slice A0 p.slots.length c0)).setCell ⟨w.heap.size + 1, 1, none⟩ (.slice A1 p.vols.length c1)) (w.heap.size + 1) #[.slice A0 p.slots.length c0, .slice A1 p.vols.length c1] 30 ∧
      TurnsP base p (writeF p name blk text) w (.returned (.tuple #[.agg #[.slice A0 p.slots.length c0, .slice A1 p.vols.length c1], .bool false])) ((W.setCell ⟨w.heap.size + 1, 0, none⟩ (.slice A0 p.slots.length c0)).setCell ⟨w.heap.size + 1, 1, none⟩ (.slice A1 p.vols.length c1)) := by
    intro W hb hn
    have hR2 := hR.bel hb
    have hR3 := hR2.set 0 (.slice A0 p.slots.length c0) (cs' := #[.slice A0 p.slots.length c0, .slice none 0 0]) rfl
    have hR4 := hR3.set 1 (.slice A1 p.vols.length c1) (cs' := #[.slice A0 p.slots.length c0, .slice A1 p.vols.length c1]) rfl
    have hb5 := bel_set (bel_set (hW.tr hb) (Nat.le_succ _) 0 (.slice A0 p.slots.length c0)) (Nat.le_succ _) 1 (.slice A1 p.vols.length c1)
    have hop4 := ((HP.out.bel (hW.tr hb)).far hR2 (by decide) (by decide) (by decide) 0 (.slice A0 p.slots.length c0)).far hR3 (by decide) (by decide) (by decide) 1 (.slice A1 p.vols.length c1)
    refine ⟨hR4, ?_⟩
    rw [hn]
    exact ⟨_, _, _, rfl, hop4, Fr.ofBel hb5 hbase⟩
  have HNO := Lib.hid hno
  have HB := Lib.hid hB
  have HR := Lib.hid hR
  have HW := Lib.hid hW
  clear hB hR hW hno
  refine (l11At_c _ p.vols A1 c1 name _ (HI.out.bel HW.out).v hlv).mono ?_
  rintro e w1 ⟨rfl, hb1⟩
  have HB1 := Lib.hid hb1
  clear hb1
  have q0 := (HB.out.bel HB1.out).cell 0
  have q1 := (HB.out.bel HB1.out).cell 1
  have r0 := (HR.out.bel HB1.out).cell 0
  have r1 := (HR.out.bel HB1.out).cell 1
  have f0 := (HR.out.bel HB1.out).free 0
  have f1 := (HR.out.bel HB1.out).free 1
  have z1 := (HR.out.bel HB1.out).lt
  simp at q0 q1 r0 r1
  by_cases hn : volIdx p.vols name < 0
  · have HG := Lib.hid (show writeF p name blk text = none from writeF_no (.inl (by rw [hasBlk_neg hn]; omega)))
    go_wp2
    have hend := HNO.out w1 HB1.out HG.out
    refine bodyPost_ret (results_ct rfl _ _ (w.heap.size + 1) 30 #[.slice A0 p.slots.length c0, .slice A1 p.vols.length c1] (0, 0) _ rfl hend.1 Try.underlying30 rfl (by kernel_rfl)) rfl ?_
    exact hend.2
  · obtain ⟨i, v, hi, hv, hvn⟩ := volIdx_yes hn
    have HV := Lib.hid hv
    have HII := Lib.hid hi
    have hil := ltQ hv
    have hx1 : v.blocks.length ≤ 1048576 := HS.out.vols.blocks v (List.mem_of_getElem? HV.out)
    rw [hi]
    clear hn hvn hv hi
    have hin : ¬ ((i : Int) < 0) := by omega
    obtain ⟨g, cap, bv, hbv, ev, hg1, hg2, hcap, hc, hc', hf, hf'⟩ := (HP.out.bel (HW.out.tr HB1.out)).v.row.at HV.out
    have ev := slice_eq ev
    obtain ⟨rfl, -, rfl⟩ := ev
    obtain ⟨A2, c2, rfl, hc2, hC2⟩ := ((HP.out.bel (HW.out.tr HB1.out)).v.inner i v bv HV.out hbv).reads
    clear hC2 hbv hc hf hf'
    cases hir : inR blk 0 ((v.blocks.length : Int) - 1) with
    | false =>
      have HG := Lib.hid (show writeF p name blk text = none from writeF_no (.inl (hasBlk_none HII.out HV.out hir)))
      go_wp2_with (go_at_call 98; refine (l6In_c blk 0 _ _).mono ?_; rintro e w' ⟨rfl, rfl⟩)
      have hend := HNO.out w1 HB1.out HG.out
      refine bodyPost_ret (results_ct rfl _ _ (w.heap.size + 1) 30 #[.slice A0 p.slots.length c0, .slice (some ⟨g, 0, none⟩) p.vols.length c1] (0, 0) _ rfl hend.1 Try.underlying30 rfl (by kernel_rfl)) rfl ?_
      exact hend.2
    | true =>
      have hhb := hasBlk_some HII.out HV.out hir
      cases ht : tOk text with
      | false =>
        have HG := Lib.hid (show writeF p name blk text = none from writeF_no (.inr ht))
        go_wp2_with (first | (go_at_call 98; refine (l6In_c blk 0 _ _).mono ?_; rintro e w' ⟨rfl, rfl⟩) | (go_at_call 45; refine (specTextOk_c text _ HNX.out).mono ?_; rintro e w' ⟨rfl, rfl⟩))
        have hend := HNO.out w1 HB1.out HG.out
        refine bodyPost_ret (results_ct rfl _ _ (w.heap.size + 1) 30 #[.slice A0 p.slots.length c0, .slice (some ⟨g, 0, none⟩) p.vols.length c1] (0, 0) _ rfl hend.1 Try.underlying30 rfl (by kernel_rfl)) rfl ?_
        exact hend.2
      | true =>
        have HTK := Lib.hid ht
        obtain ⟨i', v', x, hwr⟩ := hasBlk_wr (p := p) (name := name) (b := blk) (by rw [hhb]; omega)
        obtain rfl : i = i' := by have := hwr.idx; rw [HII.out] at this; omega
        obtain rfl := Option.some.inj (HV.out.symm.trans hwr.vol)
        have hb0 := hwr.b0
        obtain ⟨bl, rfl⟩ : ∃ bl : Nat, blk = bl := ⟨blk.toNat, by omega⟩
        have hbl : bl < v.blocks.length := by have := ltQ hwr.blk; rwa [Int.toNat_natCast] at this
        have hxb := HK.out.blk hwr.vol hwr.blk
        have HWR := Lib.hid hwr
        clear hhb hwr
        go_wp2_with (first | (go_at_call 98; refine (l6In_c (bl : Int) 0 _ _).mono ?_; rintro e w' ⟨rfl, rfl⟩) | (go_at_call 45; refine (specTextOk_c text _ HNX.out).mono ?_; rintro e w' ⟨rfl, rfl⟩))
        refine (l11Copy_c (HI.out.bel (HW.out.tr HB1.out)) HS.out).mono ?_
        rintro e w3 ⟨v2, v3, bvs2, rfl, ho3, hb3⟩
        obtain ⟨A4, A5, c4, c5, rfl, rfl, hpi3⟩ := ho3.reads
        clear q0 q1 r0 r1 f0 f1 z1 hc' ht hir hpi3 hb0
        have hbw13 : Bel w w3 := (HW.out.tr HB1.out).tr hb3
        obtain ⟨gv, cv, bv3, hbv3, ev3, hv1, hv2, hv3, -, hvc, -, hvf⟩ := ho3.v.row.at HV.out
        have ev3 := slice_eq ev3
        obtain ⟨rfl, -, rfl⟩ := ev3
        have hin3 := ho3.v.inner i v bv3 HV.out hbv3
        obtain ⟨gb, cb, rfl, hgb1, hgb2, hgb3⟩ := own_form hin3 (show 0 < v.blocks.length by omega)
        obtain ⟨gb', cb', eb, -, -, -, hgc, hgf⟩ := hin3.at (show v.blocks[bl]? = some x by have := HWR.out.blk; rwa [Int.toNat_natCast] at this)
        have eb := slice_eq eb
        obtain ⟨eb, -, rfl⟩ := eb
        obtain rfl : gb = gb' := by simpa using eb
        have hxw : Bel w3 (w3.alloc (.cells #[.slice A4 p.slots.length c4, .slice (some ⟨gv, 0, none⟩) p.vols.length c5] 30)) := bel_alloc (Below.refl _ _) _
        have HPW := Lib.hid (show PW (w3.alloc (.cells #[.slice A4 p.slots.length c4, .slice (some ⟨gv, 0, none⟩) p.vols.length c5] 30)) w3.heap.size w1.heap.size (.slice A4 p.slots.length c4) (.slice (some ⟨gv, 0, none⟩) p.vols.length c5) bvs2 p.slots p.vols i bl v gb cb x from PW.mk1 (Blk.new _ _ _) (ho3.bel hxw) HV.out (by have := HWR.out.blk; rwa [Int.toNat_natCast] at this) hbv3)
        have hlo3 : w.heap.size + 1 < w1.heap.size := (HR.out.bel HB1.out).lt
        have hsz3 : w1.heap.size ≤ w3.heap.size := hb3.size
        have HB3 := Lib.hid hb3
        have HXW := Lib.hid hxw
        have HBW3 := Lib.hid hbw13
        clear hin3 ho3 hbv3 eb hb3 hxw hbw13
        by_cases h0 : 0 < x
        · obtain ⟨m, rfl⟩ : ∃ m : Nat, x = (m : Int) + 1 := ⟨(x - 1).toNat, by omega⟩
          have HBK := Lib.hid (back_yes HWR.out)
          obtain ⟨y, hy, hy1, hy2⟩ := wr_slot HK.out HWR.out
          have HY := Lib.hid hy
          have hsl : p.slots.length ≤ 1048576 := HS.out.slots.len
          clear hy
          go_wp2_with fail
          have hbel0 : Below w1.heap.size w3 (w3.alloc (.cells #[.slice A4 p.slots.length c4, .slice (some ⟨gv, 0, none⟩) p.vols.length c5] 30)) := HXW.out.mono hsz3
          have hbelw0 : Bel w (w3.alloc (.cells #[.slice A4 p.slots.length c4, .slice (some ⟨gv, 0, none⟩) p.vols.length c5] 30)) := HBW3.out.tr HXW.out
          generalize w3.alloc (.cells #[.slice A4 p.slots.length c4, .slice (some ⟨gv, 0, none⟩) p.vols.length c5] 30) = Wx at HPW hbel0 hbelw0 ⊢
          refine (l2Drop_c HPW.out.s HY.out hsl hy1 hy2).mono ?_
          rintro e w5 ⟨rfl, ho5, hg5⟩
          have hp5 := HPW.out.slots ho5 hg5
          have hbel5 := hbel0.grown hg5 (by have := hbel0.size; omega) (own_base HPW.out.s)
          have hbelw5 : Bel w w5 := hbelw0.trans (Below.grown (Below.refl _ _) hg5 hbelw0.size (fun k hk => by have := own_base HPW.out.s k hk; omega))
          have hR5 := (HR.out.bel (HB1.out.tr HB3.out)).bel' hbel5 hlo3
          obtain ⟨s4, s5, s6, s7, s8⟩ := hp5.cell hil hbl
          obtain ⟨gw, cw, ew, s9, s10, s11⟩ := hp5.row hil
          have ew := slice_eq ew
          obtain ⟨ew, -, rfl⟩ := ew
          obtain rfl : gv = gw := by simpa using ew
          have b0 := hp5.blk.cell 0
          have b1 := hp5.blk.cell 1
          have bf0 := hp5.blk.free 0
          have bz := hp5.blk.lt
          have hr0 := hR5.cell 0
          have hr1 := hR5.cell 1
          have hf0 := hR5.free 0
          have hf1 := hR5.free 1
          have hz1 := hR5.lt
          simp only [List.getElem?_toArray, List.getElem?_cons_zero, List.getElem?_cons_succ] at b0 b1 hr0 hr1
          have HPUT := Lib.hid (hp5.same0.put hil hbl 0).1
          have HBEL7 := Lib.hid ((hbel5.setCell (p := ⟨w3.heap.size, 0, none⟩) hsz3 (.slice A4 p.slots.length c4)).setCell (p := ⟨gb, bl, none⟩) hgb1 (.int .i64 0))
          have HBELW := Lib.hid ((hbelw5.setCell (p := ⟨w3.heap.size, 0, none⟩) (by show w.heap.size ≤ w3.heap.size; omega) (.slice A4 p.slots.length c4)).setCell (p := ⟨gb, bl, none⟩) (by show w.heap.size ≤ gb; omega) (.int .i64 0))
          have hne1 : ¬ w3.heap.size = w.heap.size + 1 := by omega
          have hne2 : ¬ w.heap.size + 1 = w3.heap.size := by omega
          have hne3 : ¬ gb = w.heap.size + 1 := by omega
          have hne4 : ¬ w.heap.size + 1 = gb := by omega
          have hne5 : ¬ gb = w3.heap.size := by omega
          have hne6 : ¬ w3.heap.size = gb := by omega
          have hne7 : ¬ gv = w3.heap.size := by omega
          have hne8 : ¬ w3.heap.size = gv := by omega
          clear hp5 hbel5 hbelw5 hR5 ho5 hg5 hbel0 hbelw0 ew
          have HR7 := Lib.hid ((HR.out.bel (HB1.out.tr HB3.out)).bel' HBEL7.out hlo3)
          by_cases he : text = e0
          · have HG := Lib.hid (show writeF p name bl text = some ⟨(dropS p.slots m), p.vols.set i ⟨v.name, v.blocks.set bl 0⟩⟩ by rw [writeF_free HWR.out HTK.out he, HBK.out, Int.toNat_natCast])
            have hz := toList_nil.2 he
            clear he
            have r0 := HR7.out.cell 0
            have r1 := HR7.out.cell 1
            have f0 := HR7.out.free 0
            have f1 := HR7.out.free 1
            have z1 := HR7.out.lt
            have b0 := HPUT.out.blk.cell 0
            have b1 := HPUT.out.blk.cell 1
            simp only [List.getElem?_toArray, List.getElem?_cons_zero, List.getElem?_cons_succ] at r0 r1 b0 b1
            go_wp2
            have hR8 := HR7.out.set 0 (.slice A4 p.slots.length c4) (cs' := #[.slice A4 p.slots.length c4, .slice none 0 0]) rfl
            have hR9 := hR8.set 1 (.slice (some ⟨gv, 0, none⟩) p.vols.length c5) (cs' := #[.slice A4 p.slots.length c4, .slice (some ⟨gv, 0, none⟩) p.vols.length c5]) rfl
            have hop := ((HPUT.out.far HR7.out (by omega) 0 (.slice A4 p.slots.length c4)).far hR8 (by omega) 1 (.slice (some ⟨gv, 0, none⟩) p.vols.length c5)).pool
            have hbel8 := (HBELW.out.setCell (p := ⟨w.heap.size + 1, 0, none⟩) (Nat.le_succ _) (.slice A4 p.slots.length c4)).setCell (p := ⟨w.heap.size + 1, 1, none⟩) (Nat.le_succ _) (.slice (some ⟨gv, 0, none⟩) p.vols.length c5)
            refine bodyPost_ret (results_ct rfl _ _ (w.heap.size + 1) 30 #[.slice A4 p.slots.length c4, .slice (some ⟨gv, 0, none⟩) p.vols.length c5] (0, 0) _ rfl hR9 Try.underlying30 rfl (by kernel_rfl)) rfl ?_
            rw [HG.out]
            exact ⟨_, _, _, rfl, hop.lower (by omega), Fr.ofBel hbel8 hbase⟩
          · have hz : ¬ text.toList = [] := fun h => he (toList_nil.1 h)
            have hz2 : text.toList.isEmpty = false := by simpa using hz
            have HE := Lib.hid he
            clear he
            have b0 := HPUT.out.blk.cell 0
            simp only [List.getElem?_toArray, List.getElem?_cons_zero, List.getElem?_cons_succ] at b0
            go_wp2_with fail
            generalize (w5.setCell ⟨w3.heap.size, 0, none⟩ (.slice A4 p.slots.length c4)).setCell ⟨gb, bl, none⟩ (.int .i64 0) = W7 at HPUT HBEL7 HBELW HR7 b0 ⊢
            have hbu := back_uses HK.out HWR.out
            rw [HBK.out] at hbu
            have hbd := putAt_bd HK.out HWR.out HE.out
            rw [HBK.out] at hbd
            have hpc := putAt_cases (HWR.out.back HK.out).1 HE.out
            rw [HBK.out] at hpc
            have hl2 := l2Put_c HPUT.out.s hbu.1 hbu.2 text HTK.out
            rw [hpc.2] at hl2
            refine hl2.mono ?_
            rintro e w8 ⟨rfl, ho8, hg8⟩
            have HP8 := Lib.hid (HPUT.out.slots ho8 hg8)
            have HBELW8 := Lib.hid (HBELW.out.trans (Below.grown (Below.refl _ _) hg8 (by have := HR7.out.lt; omega) (fun k hk => by have := own_base HPUT.out.s k hk; omega)))
            have HBEL8 := Lib.hid (HBEL7.out.grown hg8 (by have := HBEL7.out.size; omega) (own_base HPUT.out.s))
            have HR8 := Lib.hid ((HR.out.bel (HB1.out.tr HB3.out)).bel' HBEL8.out hlo3)
            clear hl2 hpc ho8 hg8 hbu b0
            by_cases h99 : putAt (dropS p.slots m) text = 0
            · have HG := Lib.hid (show writeF p name bl text = none by rw [writeF_put HWR.out HTK.out HE.out, HBK.out, if_pos h99])
              have hB8 := (HB.out.bel (HB1.out.tr HB3.out)).bel' HBEL8.out (Nat.lt_of_succ_lt hlo3)
              have r0 := HR8.out.cell 0
              have r1 := HR8.out.cell 1
              have f0 := HR8.out.free 0
              have f1 := HR8.out.free 1
              have z1 := HR8.out.lt
              have b0 := hB8.cell 0
              have b1 := hB8.cell 1
              simp only [List.getElem?_toArray, List.getElem?_cons_zero, List.getElem?_cons_succ] at r0 r1 b0 b1
              have h99' : (putAt (dropS p.slots m) text != 0) = false := by rw [h99]; rfl
              rw [h99']
              have hop := (HP.out.bel' HBELW8.out)
              clear h99 hB8
              go_wp2
              have hR9 := HR8.out.set 0 (.slice A0 p.slots.length c0) (cs' := #[.slice A0 p.slots.length c0, .slice none 0 0]) rfl
              have hR10 := hR9.set 1 (.slice (some ⟨g, 0, none⟩) p.vols.length c1) (cs' := #[.slice A0 p.slots.length c0, .slice (some ⟨g, 0, none⟩) p.vols.length c1]) rfl
              have hop2 := (hop.far HR8.out (by decide) (by decide) (by decide) 0 (.slice A0 p.slots.length c0)).far hR9 (by decide) (by decide) (by decide) 1 (.slice (some ⟨g, 0, none⟩) p.vols.length c1)
              have hbel9 := (HBELW8.out.setCell (p := ⟨w.heap.size + 1, 0, none⟩) (Nat.le_succ _) (.slice A0 p.slots.length c0)).setCell (p := ⟨w.heap.size + 1, 1, none⟩) (Nat.le_succ _) (.slice (some ⟨g, 0, none⟩) p.vols.length c1)
              refine bodyPost_ret (results_ct rfl _ _ (w.heap.size + 1) 30 #[.slice A0 p.slots.length c0, .slice (some ⟨g, 0, none⟩) p.vols.length c1] (0, 0) _ rfl hR10 Try.underlying30 rfl (by kernel_rfl)) rfl ?_
              rw [HG.out]
              exact ⟨_, _, _, rfl, hop2, Fr.ofBel hbel9 hbase⟩
            · have HG := Lib.hid (show writeF p name bl text = some ⟨putS (dropS p.slots m) text, p.vols.set i ⟨v.name, v.blocks.set bl (putAt (dropS p.slots m) text)⟩⟩ by rw [writeF_put HWR.out HTK.out HE.out, HBK.out, if_neg h99, Int.toNat_natCast])
              have h99' : (putAt (dropS p.slots m) text != 0) = true := by simpa using h99
              rw [h99']
              obtain ⟨s4, s5, s6, s7, s8⟩ := HP8.out.cell hil hbl
              obtain ⟨gw, cw, ew, s9, s10, s11⟩ := HP8.out.row hil
              have ew := slice_eq ew
              obtain ⟨ew, -, rfl⟩ := ew
              obtain rfl : gv = gw := by simpa using ew
              have r0 := HR8.out.cell 0
              have r1 := HR8.out.cell 1
              have f0 := HR8.out.free 0
              have f1 := HR8.out.free 1
              have z1 := HR8.out.lt
              have b0 := HP8.out.blk.cell 0
              have b1 := HP8.out.blk.cell 1
              have bf0 := HP8.out.blk.free 0
              have bz := HP8.out.blk.lt
              simp only [List.getElem?_toArray, List.getElem?_cons_zero, List.getElem?_cons_succ] at r0 r1 b0 b1
              have HP9 := Lib.hid (HP8.out.same0.put hil hbl (putAt (dropS p.slots m) text)).1
              have HBELW9 := Lib.hid ((HBELW8.out.setCell (p := ⟨w3.heap.size, 0, none⟩) (by show w.heap.size ≤ w3.heap.size; omega) (.slice A4 p.slots.length c4)).setCell (p := ⟨gb, bl, none⟩) (by show w.heap.size ≤ gb; omega) (.int .i64 (putAt (dropS p.slots m) text)))
              have HR9 := Lib.hid ((HR8.out.apart (show w3.heap.size ≠ w.heap.size + 1 by omega) 0 (.slice A4 p.slots.length c4)).apart (show gb ≠ w.heap.size + 1 by omega) bl (.int .i64 (putAt (dropS p.slots m) text)))
              have hne1 : ¬ w3.heap.size = w.heap.size + 1 := by omega
              have hne2 : ¬ w.heap.size + 1 = w3.heap.size := by omega
              have hne3 : ¬ gb = w.heap.size + 1 := by omega
              have hne4 : ¬ w.heap.size + 1 = gb := by omega
              have hne5 : ¬ gb = w3.heap.size := by omega
              have hne6 : ¬ w3.heap.size = gb := by omega
              have hne7 : ¬ gv = w3.heap.size := by omega
              have hne8 : ¬ w3.heap.size = gv := by omega
              clear h99 ew
              go_wp2
              have hR10 := HR9.out.set 0 (.slice A4 p.slots.length c4) (cs' := #[.slice A4 p.slots.length c4, .slice none 0 0]) rfl
              have hR11 := hR10.set 1 (.slice (some ⟨gv, 0, none⟩) p.vols.length c5) (cs' := #[.slice A4 p.slots.length c4, .slice (some ⟨gv, 0, none⟩) p.vols.length c5]) rfl
              have hop := ((HP9.out.far HR9.out (by omega) 0 (.slice A4 p.slots.length c4)).far hR10 (by omega) 1 (.slice (some ⟨gv, 0, none⟩) p.vols.length c5)).pool
              have hbel9 := (HBELW9.out.setCell (p := ⟨w.heap.size + 1, 0, none⟩) (Nat.le_succ _) (.slice A4 p.slots.length c4)).setCell (p := ⟨w.heap.size + 1, 1, none⟩) (Nat.le_succ _) (.slice (some ⟨gv, 0, none⟩) p.vols.length c5)
              refine bodyPost_ret (results_ct rfl _ _ (w.heap.size + 1) 30 #[.slice A4 p.slots.length c4, .slice (some ⟨gv, 0, none⟩) p.vols.length c5] (0, 0) _ rfl hR11 Try.underlying30 rfl (by kernel_rfl)) rfl ?_
              rw [HG.out]
              exact ⟨_, _, _, rfl, hop.lower (by omega), Fr.ofBel hbel9 hbase⟩
        · have HBK := Lib.hid (back_no HWR.out h0)
          have hcm : (w3.alloc (.cells #[.slice A4 p.slots.length c4, .slice (some ⟨gv, 0, none⟩) p.vols.length c5] 30)).setCell ⟨gb, bl, none⟩ (.int .i64 0) = (w3.setCell ⟨gb, bl, none⟩ (.int .i64 0)).alloc (.cells #[.slice A4 p.slots.length c4, .slice (some ⟨gv, 0, none⟩) p.vols.length c5] 30) := World.setCell_alloc_past (.cells #[.slice A4 p.slots.length c4, .slice (some ⟨gv, 0, none⟩) p.vols.length c5] 30) gb bl (.int .i64 0) hgb2
          have HPUT := Lib.hid (show PW ((w3.setCell ⟨gb, bl, none⟩ (.int .i64 0)).alloc (.cells #[.slice A4 p.slots.length c4, .slice (some ⟨gv, 0, none⟩) p.vols.length c5] 30)) w3.heap.size w1.heap.size (.slice A4 p.slots.length c4) (.slice (some ⟨gv, 0, none⟩) p.vols.length c5) bvs2 p.slots p.vols i bl v gb cb 0 from hcm ▸ (HPW.out.put hil hbl 0).1)
          have HBEL7 := Lib.hid (show Below w1.heap.size w3 ((w3.setCell ⟨gb, bl, none⟩ (.int .i64 0)).alloc (.cells #[.slice A4 p.slots.length c4, .slice (some ⟨gv, 0, none⟩) p.vols.length c5] 30)) from hcm ▸ (HXW.out.mono hsz3).setCell (p := ⟨gb, bl, none⟩) hgb1 (.int .i64 0))
          have HBELW := Lib.hid (show Bel w ((w3.setCell ⟨gb, bl, none⟩ (.int .i64 0)).alloc (.cells #[.slice A4 p.slots.length c4, .slice (some ⟨gv, 0, none⟩) p.vols.length c5] 30)) from hcm ▸ (HBW3.out.tr HXW.out).setCell (p := ⟨gb, bl, none⟩) (by show w.heap.size ≤ gb; omega) (.int .i64 0))
          clear hcm
          have HR7 := Lib.hid ((HR.out.bel (HB1.out.tr HB3.out)).bel' HBEL7.out hlo3)
          by_cases he : text = e0
          · have HG := Lib.hid (show writeF p name bl text = some ⟨p.slots, p.vols.set i ⟨v.name, v.blocks.set bl 0⟩⟩ by rw [writeF_free HWR.out HTK.out he, HBK.out, Int.toNat_natCast])
            have hz := toList_nil.2 he
            clear he
            have r0 := HR7.out.cell 0
            have r1 := HR7.out.cell 1
            have f0 := HR7.out.free 0
            have f1 := HR7.out.free 1
            have z1 := HR7.out.lt
            have b0 := HPUT.out.blk.cell 0
            have b1 := HPUT.out.blk.cell 1
            simp only [List.getElem?_toArray, List.getElem?_cons_zero, List.getElem?_cons_succ] at r0 r1 b0 b1
            go_wp2
            have hR8 := HR7.out.set 0 (.slice A4 p.slots.length c4) (cs' := #[.slice A4 p.slots.length c4, .slice none 0 0]) rfl
            have hR9 := hR8.set 1 (.slice (some ⟨gv, 0, none⟩) p.vols.length c5) (cs' := #[.slice A4 p.slots.length c4, .slice (some ⟨gv, 0, none⟩) p.vols.length c5]) rfl
            have hop := ((HPUT.out.far HR7.out (by omega) 0 (.slice A4 p.slots.length c4)).far hR8 (by omega) 1 (.slice (some ⟨gv, 0, none⟩) p.vols.length c5)).pool
            have hbel8 := (HBELW.out.setCell (p := ⟨w.heap.size + 1, 0, none⟩) (Nat.le_succ _) (.slice A4 p.slots.length c4)).setCell (p := ⟨w.heap.size + 1, 1, none⟩) (Nat.le_succ _) (.slice (some ⟨gv, 0, none⟩) p.vols.length c5)
            refine bodyPost_ret (results_ct rfl _ _ (w.heap.size + 1) 30 #[.slice A4 p.slots.length c4, .slice (some ⟨gv, 0, none⟩) p.vols.length c5] (0, 0) _ rfl hR9 Try.underlying30 rfl (by kernel_rfl)) rfl ?_
            rw [HG.out]
            exact ⟨_, _, _, rfl, hop.lower (by omega), Fr.ofBel hbel8 hbase⟩
          · have hz : ¬ text.toList = [] := fun h => he (toList_nil.1 h)
            have hz2 : text.toList.isEmpty = false := by simpa using hz
            have HE := Lib.hid he
            clear he
            have b0 := HPUT.out.blk.cell 0
            simp only [List.getElem?_toArray, List.getElem?_cons_zero, List.getElem?_cons_succ] at b0
            go_wp2_with fail
            generalize (w3.setCell ⟨gb, bl, none⟩ (.int .i64 0)).alloc (.cells #[.slice A4 p.slots.length c4, .slice (some ⟨gv, 0, none⟩) p.vols.length c5] 30) = W7 at HPUT HBEL7 HBELW HR7 b0 ⊢
            have hbu := back_uses HK.out HWR.out
            rw [HBK.out] at hbu
            have hbd := putAt_bd HK.out HWR.out HE.out
            rw [HBK.out] at hbd
            have hpc := putAt_cases (HWR.out.back HK.out).1 HE.out
            rw [HBK.out] at hpc
            have hl2 := l2Put_c HPUT.out.s hbu.1 hbu.2 text HTK.out
            rw [hpc.2] at hl2
            refine hl2.mono ?_
            rintro e w8 ⟨rfl, ho8, hg8⟩
            have HP8 := Lib.hid (HPUT.out.slots ho8 hg8)
            have HBELW8 := Lib.hid (HBELW.out.trans (Below.grown (Below.refl _ _) hg8 (by have := HR7.out.lt; omega) (fun k hk => by have := own_base HPUT.out.s k hk; omega)))
            have HBEL8 := Lib.hid (HBEL7.out.grown hg8 (by have := HBEL7.out.size; omega) (own_base HPUT.out.s))
            have HR8 := Lib.hid ((HR.out.bel (HB1.out.tr HB3.out)).bel' HBEL8.out hlo3)
            clear hl2 hpc ho8 hg8 hbu b0
            by_cases h99 : putAt p.slots text = 0
            · have HG := Lib.hid (show writeF p name bl text = none by rw [writeF_put HWR.out HTK.out HE.out, HBK.out, if_pos h99])
              have hB8 := (HB.out.bel (HB1.out.tr HB3.out)).bel' HBEL8.out (Nat.lt_of_succ_lt hlo3)
              have r0 := HR8.out.cell 0
              have r1 := HR8.out.cell 1
              have f0 := HR8.out.free 0
              have f1 := HR8.out.free 1
              have z1 := HR8.out.lt
              have b0 := hB8.cell 0
              have b1 := hB8.cell 1
              simp only [List.getElem?_toArray, List.getElem?_cons_zero, List.getElem?_cons_succ] at r0 r1 b0 b1
              have h99' : (putAt p.slots text != 0) = false := by rw [h99]; rfl
              rw [h99']
              have hop := (HP.out.bel' HBELW8.out)
              clear h99 hB8
              go_wp2
              have hR9 := HR8.out.set 0 (.slice A0 p.slots.length c0) (cs' := #[.slice A0 p.slots.length c0, .slice none 0 0]) rfl
              have hR10 := hR9.set 1 (.slice (some ⟨g, 0, none⟩) p.vols.length c1) (cs' := #[.slice A0 p.slots.length c0, .slice (some ⟨g, 0, none⟩) p.vols.length c1]) rfl
              have hop2 := (hop.far HR8.out (by decide) (by decide) (by decide) 0 (.slice A0 p.slots.length c0)).far hR9 (by decide) (by decide) (by decide) 1 (.slice (some ⟨g, 0, none⟩) p.vols.length c1)
              have hbel9 := (HBELW8.out.setCell (p := ⟨w.heap.size + 1, 0, none⟩) (Nat.le_succ _) (.slice A0 p.slots.length c0)).setCell (p := ⟨w.heap.size + 1, 1, none⟩) (Nat.le_succ _) (.slice (some ⟨g, 0, none⟩) p.vols.length c1)
              refine bodyPost_ret (results_ct rfl _ _ (w.heap.size + 1) 30 #[.slice A0 p.slots.length c0, .slice (some ⟨g, 0, none⟩) p.vols.length c1] (0, 0) _ rfl hR10 Try.underlying30 rfl (by kernel_rfl)) rfl ?_
              rw [HG.out]
              exact ⟨_, _, _, rfl, hop2, Fr.ofBel hbel9 hbase⟩
            · have HG := Lib.hid (show writeF p name bl text = some ⟨putS p.slots text, p.vols.set i ⟨v.name, v.blocks.set bl (putAt p.slots text)⟩⟩ by rw [writeF_put HWR.out HTK.out HE.out, HBK.out, if_neg h99, Int.toNat_natCast])
              have h99' : (putAt p.slots text != 0) = true := by simpa using h99
              rw [h99']
              obtain ⟨s4, s5, s6, s7, s8⟩ := HP8.out.cell hil hbl
              obtain ⟨gw, cw, ew, s9, s10, s11⟩ := HP8.out.row hil
              have ew := slice_eq ew
              obtain ⟨ew, -, rfl⟩ := ew
              obtain rfl : gv = gw := by simpa using ew
              have r0 := HR8.out.cell 0
              have r1 := HR8.out.cell 1
              have f0 := HR8.out.free 0
              have f1 := HR8.out.free 1
              have z1 := HR8.out.lt
              have b0 := HP8.out.blk.cell 0
              have b1 := HP8.out.blk.cell 1
              have bf0 := HP8.out.blk.free 0
              have bz := HP8.out.blk.lt
              simp only [List.getElem?_toArray, List.getElem?_cons_zero, List.getElem?_cons_succ] at r0 r1 b0 b1
              have HP9 := Lib.hid (HP8.out.same0.put hil hbl (putAt p.slots text)).1
              have HBELW9 := Lib.hid ((HBELW8.out.setCell (p := ⟨w3.heap.size, 0, none⟩) (by show w.heap.size ≤ w3.heap.size; omega) (.slice A4 p.slots.length c4)).setCell (p := ⟨gb, bl, none⟩) (by show w.heap.size ≤ gb; omega) (.int .i64 (putAt p.slots text)))
              have HR9 := Lib.hid ((HR8.out.apart (show w3.heap.size ≠ w.heap.size + 1 by omega) 0 (.slice A4 p.slots.length c4)).apart (show gb ≠ w.heap.size + 1 by omega) bl (.int .i64 (putAt p.slots text)))
              have hne1 : ¬ w3.heap.size = w.heap.size + 1 := by omega
              have hne2 : ¬ w.heap.size + 1 = w3.heap.size := by omega
              have hne3 : ¬ gb = w.heap.size + 1 := by omega
              have hne4 : ¬ w.heap.size + 1 = gb := by omega
              have hne5 : ¬ gb = w3.heap.size := by omega
              have hne6 : ¬ w3.heap.size = gb := by omega
              have hne7 : ¬ gv = w3.heap.size := by omega
              have hne8 : ¬ w3.heap.size = gv := by omega
              clear h99 ew
              go_wp2
              have hR10 := HR9.out.set 0 (.slice A4 p.slots.length c4) (cs' := #[.slice A4 p.slots.length c4, .slice none 0 0]) rfl
              have hR11 := hR10.set 1 (.slice (some ⟨gv, 0, none⟩) p.vols.length c5) (cs' := #[.slice A4 p.slots.length c4, .slice (some ⟨gv, 0, none⟩) p.vols.length c5]) rfl
              have hop := ((HP9.out.far HR9.out (by omega) 0 (.slice A4 p.slots.length c4)).far hR10 (by omega) 1 (.slice (some ⟨gv, 0, none⟩) p.vols.length c5)).pool
              have hbel9 := (HBELW9.out.setCell (p := ⟨w.heap.size + 1, 0, none⟩) (Nat.le_succ _) (.slice A4 p.slots.length c4)).setCell (p := ⟨w.heap.size + 1, 1, none⟩) (Nat.le_succ _) (.slice (some ⟨gv, 0, none⟩) p.vols.length c5)
              refine bodyPost_ret (results_ct rfl _ _ (w.heap.size + 1) 30 #[.slice A4 p.slots.length c4, .slice (some ⟨gv, 0, none⟩) p.vols.length c5] (0, 0) _ rfl hR11 Try.underlying30 rfl (by kernel_rfl)) rfl ?_
              rw [HG.out]
              exact ⟨_, _, _, rfl, hop.lower (by omega), Fr.ofBel hbel9 hbase⟩
end Go.Proofs.Ytpobgjkmjlmafaa
/- l12Do: a change done. -/






namespace Go.Proofs.Ytpobgjkmjlmafaa
open Go.RowKit Go.Proofs.YtpobgjkmjlmafaaW.PrintWords Go.Proofs.YtpobgjkmjlmafaaW.PrintLast
set_option linter.unusedVariables false
set_option linter.unusedSimpArgs false

def opF (p : Pool) (o : Op) : Option Pool := if o.kind = 1 then makeF p o.name o.n else if o.kind = 2 then writeF p o.name o.n o.text else if o.kind = 3 then cloneF p o.name o.dest else goneF p o.name
theorem opF_ok {p q : Pool} {o : Op} (hp : PoolP p) (h : opF p o = some q) : PoolP q := by
  unfold opF at h
  split at h
  · exact makeF_ok hp h
  · split at h
    · exact writeF_ok hp h
    · split at h
      · exact cloneF_ok hp h
      · exact goneF_ok hp h
theorem opF_getD {p : Pool} {o : Op} (hp : PoolP p) : PoolP ((opF p o).getD p) := by
  cases h : opF p o with
  | none => exact hp
  | some q => exact opF_ok hp h
theorem OwnP.grown {w w' : World} {base : Nat} {v0 v1 : Value} {p : Pool} {bvs : List Value} (h : OwnP w base v0 v1 p bvs) {r : Nat} {cs : Array Value} {t : TypeId} (hB : Blk w r cs t) (hs : 100 ≠ t) (ht : 43 ≠ t) (ht2 : 3 ≠ t) (hg : w.grownBy w' (some r)) : OwnP w' base v0 v1 p bvs := by
  have key : ∀ {e : TypeId} {size n : Nat} {v : Value} {xs : List Value}, w.ownsRow base e size v n xs → e ≠ t → w'.ownsRow base e size v n xs := fun h' hne =>
    World.ownsRow.kept h' hg (.inr fun e => own_ne h' hB hne e.symm)
  exact ⟨key h.s hs, ⟨⟨h.v.row.len, key h.v.row.row ht⟩, fun m x b hx hb => key (h.v.inner m x b hx hb) ht2, h.v.apart⟩⟩

theorem Fr.tr {base : Nat} {w W W' : World} (h : Fr base w W) (h' : Fr base W W') (hbase : base ≤ w.heap.size) : Fr base w W' := ⟨h.b.trans h'.b, fun g cs t h1 h2 h3 hB => h'.k g cs t h1 h2 h3 (h.k g cs t h1 h2 h3 hB)⟩
set_option maxHeartbeats 8000000 in
set_option maxRecDepth 10000 in
theorem l12Do_c {w : World} {base : Nat} {v0 v1 : Value} {bvs : List Value} {p : Pool} {o : Op} (h : OwnP w base v0 v1 p bvs) (hp : PoolP p) (hbase : base ≤ w.heap.size) (ho : SmallO o) :
    Calls Try.prog 113 #[.agg #[v0, v1], .agg #[.int .i64 o.kind, .string o.name, .string o.dest, .int .i64 o.n, .string o.text]] w (TurnsP base p (opF p o) w) := by
  have HS := Lib.hid hp.small
  have HK := Lib.hid hp
  obtain ⟨A0, A1, c0, c1, rfl, rfl, hpi⟩ := h.reads
  have HP := Lib.hid h
  have HNM := Lib.hid ho
  obtain ⟨F, hF⟩ : ∃ F, opF p o = F := ⟨_, rfl⟩
  obtain ⟨kd, nm, ds, n, tx⟩ := o
  simp only at HNM ⊢
  rw [hF]
  clear h hp hpi ho
  by_cases h1 : kd = 1
  · subst h1
    have HF := Lib.hid (show makeF p nm n = F from hF ▸ by unfold opF; rfl)
    clear hF
    go_enter Try.func113, Try.ntmps113
    go_wp2_with fail
    have hR : Blk (((w.alloc (.cells #[.slice A0 p.slots.length c0, .slice A1 p.vols.length c1] 30)).alloc (.cells #[.int .i64 1, .string nm, .string ds, .int .i64 n, .string tx] 74)).alloc (.cells #[.slice none 0 0, .slice none 0 0] 30)) (w.heap.size + 1 + 1) #[.slice none 0 0, .slice none 0 0] 30 := Blk.nw3 _ _ _ _ _
    have hW : Bel w (((w.alloc (.cells #[.slice A0 p.slots.length c0, .slice A1 p.vols.length c1] 30)).alloc (.cells #[.int .i64 1, .string nm, .string ds, .int .i64 n, .string tx] 74)).alloc (.cells #[.slice none 0 0, .slice none 0 0] 30)) := bel_alloc (bel_alloc (bel_alloc (Below.refl _ _) _) _) _
    generalize (((w.alloc (.cells #[.slice A0 p.slots.length c0, .slice A1 p.vols.length c1] 30)).alloc (.cells #[.int .i64 1, .string nm, .string ds, .int .i64 n, .string tx] 74)).alloc (.cells #[.slice none 0 0, .slice none 0 0] 30)) = W0 at hR hW ⊢
    refine (l11Make_c (HP.out.bel hW) HS.out HK.out (Nat.le_trans hbase hW.size) HNM.out.name).mono ?_
    rintro e w3 ⟨v2, v3, bvs3, rfl, ho3, hb3⟩
    rw [HF.out] at ho3 ⊢
    have hb := (Fr.ofBel hW hbase).tr hb3 hbase
    have hR1 : Blk w3 (w.heap.size + 1 + 1) #[.slice none 0 0, .slice none 0 0] 30 := hb3.k _ _ _ (by decide) (by decide) (by decide) hR
    obtain ⟨q, hq⟩ : ∃ q, F.getD p = q := ⟨_, rfl⟩
    obtain ⟨ok, hok⟩ : ∃ ok, F.isSome = ok := ⟨_, rfl⟩
    rw [hq] at ho3
    rw [hok]
    have HQ := Lib.hid (And.intro hq hok)
    have HO3 := Lib.hid ho3
    have HR := Lib.hid hR1
    have HB := Lib.hid hb
    clear hq hok hR hW
    obtain ⟨A2, A3, c2, c3, rfl, rfl, hpi⟩ := ho3.reads
    have r0 := HR.out.cell 0
    have r1 := HR.out.cell 1
    have f0 := HR.out.free 0
    have f1 := HR.out.free 1
    simp at r0 r1
    clear hpi ho3 hb3 hR1 hb
    go_wp2
    have hR2 := HR.out
    have hR3 := hR2.set 0 (.slice A2 q.slots.length c2) (cs' := #[.slice A2 q.slots.length c2, .slice none 0 0]) rfl
    have hR4 := hR3.set 1 (.slice A3 q.vols.length c3) (cs' := #[.slice A2 q.slots.length c2, .slice A3 q.vols.length c3]) rfl
    have hop4 := (HO3.out.far hR2 (by decide) (by decide) (by decide) 0 (.slice A2 q.slots.length c2)).far hR3 (by decide) (by decide) (by decide) 1 (.slice A3 q.vols.length c3)
    have hb5 := (HB.out.set (b := w.heap.size + 1 + 1) (by omega) hbase 0 (.slice A2 q.slots.length c2)).set (b := w.heap.size + 1 + 1) (by omega) hbase 1 (.slice A3 q.vols.length c3)
    refine bodyPost_ret (results_ct rfl _ _ (w.heap.size + 1 + 1) 30 #[.slice A2 q.slots.length c2, .slice A3 q.vols.length c3] (0, 0) _ rfl hR4 Try.underlying30 rfl (by kernel_rfl)) rfl ?_
    refine ⟨.slice A2 q.slots.length c2, .slice A3 q.vols.length c3, bvs3, ?_, ?_, hb5⟩
    · rw [HQ.out.2]; rfl
    · rw [HQ.out.1]; exact hop4
  by_cases h2 : kd = 2
  · subst h2
    have HF := Lib.hid (show writeF p nm n tx = F from hF ▸ by unfold opF; rfl)
    clear hF
    go_enter Try.func113, Try.ntmps113
    go_wp2_with fail
    have hR : Blk (((w.alloc (.cells #[.slice A0 p.slots.length c0, .slice A1 p.vols.length c1] 30)).alloc (.cells #[.int .i64 2, .string nm, .string ds, .int .i64 n, .string tx] 74)).alloc (.cells #[.slice none 0 0, .slice none 0 0] 30)) (w.heap.size + 1 + 1) #[.slice none 0 0, .slice none 0 0] 30 := Blk.nw3 _ _ _ _ _
    have hW : Bel w (((w.alloc (.cells #[.slice A0 p.slots.length c0, .slice A1 p.vols.length c1] 30)).alloc (.cells #[.int .i64 2, .string nm, .string ds, .int .i64 n, .string tx] 74)).alloc (.cells #[.slice none 0 0, .slice none 0 0] 30)) := bel_alloc (bel_alloc (bel_alloc (Below.refl _ _) _) _) _
    generalize (((w.alloc (.cells #[.slice A0 p.slots.length c0, .slice A1 p.vols.length c1] 30)).alloc (.cells #[.int .i64 2, .string nm, .string ds, .int .i64 n, .string tx] 74)).alloc (.cells #[.slice none 0 0, .slice none 0 0] 30)) = W0 at hR hW ⊢
    refine (l11Write_c (HP.out.bel hW) HS.out HK.out (Nat.le_trans hbase hW.size) HNM.out.text).mono ?_
    rintro e w3 ⟨v2, v3, bvs3, rfl, ho3, hb3⟩
    rw [HF.out] at ho3 ⊢
    have hb := (Fr.ofBel hW hbase).tr hb3 hbase
    have hR1 : Blk w3 (w.heap.size + 1 + 1) #[.slice none 0 0, .slice none 0 0] 30 := hb3.k _ _ _ (by decide) (by decide) (by decide) hR
    obtain ⟨q, hq⟩ : ∃ q, F.getD p = q := ⟨_, rfl⟩
    obtain ⟨ok, hok⟩ : ∃ ok, F.isSome = ok := ⟨_, rfl⟩
    rw [hq] at ho3
    rw [hok]
    have HQ := Lib.hid (And.intro hq hok)
    have HO3 := Lib.hid ho3
    have HR := Lib.hid hR1
    have HB := Lib.hid hb
    clear hq hok hR hW
    obtain ⟨A2, A3, c2, c3, rfl, rfl, hpi⟩ := ho3.reads
    have r0 := HR.out.cell 0
    have r1 := HR.out.cell 1
    have f0 := HR.out.free 0
    have f1 := HR.out.free 1
    simp at r0 r1
    clear hpi ho3 hb3 hR1 hb
    go_wp2
    have hR2 := HR.out
    have hR3 := hR2.set 0 (.slice A2 q.slots.length c2) (cs' := #[.slice A2 q.slots.length c2, .slice none 0 0]) rfl
    have hR4 := hR3.set 1 (.slice A3 q.vols.length c3) (cs' := #[.slice A2 q.slots.length c2, .slice A3 q.vols.length c3]) rfl
    have hop4 := (HO3.out.far hR2 (by decide) (by decide) (by decide) 0 (.slice A2 q.slots.length c2)).far hR3 (by decide) (by decide) (by decide) 1 (.slice A3 q.vols.length c3)
    have hb5 := (HB.out.set (b := w.heap.size + 1 + 1) (by omega) hbase 0 (.slice A2 q.slots.length c2)).set (b := w.heap.size + 1 + 1) (by omega) hbase 1 (.slice A3 q.vols.length c3)
    refine bodyPost_ret (results_ct rfl _ _ (w.heap.size + 1 + 1) 30 #[.slice A2 q.slots.length c2, .slice A3 q.vols.length c3] (0, 0) _ rfl hR4 Try.underlying30 rfl (by kernel_rfl)) rfl ?_
    refine ⟨.slice A2 q.slots.length c2, .slice A3 q.vols.length c3, bvs3, ?_, ?_, hb5⟩
    · rw [HQ.out.2]; rfl
    · rw [HQ.out.1]; exact hop4
  by_cases h3 : kd = 3
  · subst h3
    have HF := Lib.hid (show cloneF p nm ds = F from hF ▸ by unfold opF; rfl)
    clear hF
    go_enter Try.func113, Try.ntmps113
    go_wp2_with fail
    have hR : Blk (((w.alloc (.cells #[.slice A0 p.slots.length c0, .slice A1 p.vols.length c1] 30)).alloc (.cells #[.int .i64 3, .string nm, .string ds, .int .i64 n, .string tx] 74)).alloc (.cells #[.slice none 0 0, .slice none 0 0] 30)) (w.heap.size + 1 + 1) #[.slice none 0 0, .slice none 0 0] 30 := Blk.nw3 _ _ _ _ _
    have hW : Bel w (((w.alloc (.cells #[.slice A0 p.slots.length c0, .slice A1 p.vols.length c1] 30)).alloc (.cells #[.int .i64 3, .string nm, .string ds, .int .i64 n, .string tx] 74)).alloc (.cells #[.slice none 0 0, .slice none 0 0] 30)) := bel_alloc (bel_alloc (bel_alloc (Below.refl _ _) _) _) _
    generalize (((w.alloc (.cells #[.slice A0 p.slots.length c0, .slice A1 p.vols.length c1] 30)).alloc (.cells #[.int .i64 3, .string nm, .string ds, .int .i64 n, .string tx] 74)).alloc (.cells #[.slice none 0 0, .slice none 0 0] 30)) = W0 at hR hW ⊢
    refine (l11Clone_c (HP.out.bel hW) HS.out HK.out (Nat.le_trans hbase hW.size) HNM.out.dest).mono ?_
    rintro e w3 ⟨v2, v3, bvs3, rfl, ho3, hb3⟩
    rw [HF.out] at ho3 ⊢
    have hb := (Fr.ofBel hW hbase).tr hb3 hbase
    have hR1 : Blk w3 (w.heap.size + 1 + 1) #[.slice none 0 0, .slice none 0 0] 30 := hb3.k _ _ _ (by decide) (by decide) (by decide) hR
    obtain ⟨q, hq⟩ : ∃ q, F.getD p = q := ⟨_, rfl⟩
    obtain ⟨ok, hok⟩ : ∃ ok, F.isSome = ok := ⟨_, rfl⟩
    rw [hq] at ho3
    rw [hok]
    have HQ := Lib.hid (And.intro hq hok)
    have HO3 := Lib.hid ho3
    have HR := Lib.hid hR1
    have HB := Lib.hid hb
    clear hq hok hR hW
    obtain ⟨A2, A3, c2, c3, rfl, rfl, hpi⟩ := ho3.reads
    have r0 := HR.out.cell 0
    have r1 := HR.out.cell 1
    have f0 := HR.out.free 0
    have f1 := HR.out.free 1
    simp at r0 r1
    clear hpi ho3 hb3 hR1 hb
    go_wp2
    have hR2 := HR.out
    have hR3 := hR2.set 0 (.slice A2 q.slots.length c2) (cs' := #[.slice A2 q.slots.length c2, .slice none 0 0]) rfl
    have hR4 := hR3.set 1 (.slice A3 q.vols.length c3) (cs' := #[.slice A2 q.slots.length c2, .slice A3 q.vols.length c3]) rfl
    have hop4 := (HO3.out.far hR2 (by decide) (by decide) (by decide) 0 (.slice A2 q.slots.length c2)).far hR3 (by decide) (by decide) (by decide) 1 (.slice A3 q.vols.length c3)
    have hb5 := (HB.out.set (b := w.heap.size + 1 + 1) (by omega) hbase 0 (.slice A2 q.slots.length c2)).set (b := w.heap.size + 1 + 1) (by omega) hbase 1 (.slice A3 q.vols.length c3)
    refine bodyPost_ret (results_ct rfl _ _ (w.heap.size + 1 + 1) 30 #[.slice A2 q.slots.length c2, .slice A3 q.vols.length c3] (0, 0) _ rfl hR4 Try.underlying30 rfl (by kernel_rfl)) rfl ?_
    refine ⟨.slice A2 q.slots.length c2, .slice A3 q.vols.length c3, bvs3, ?_, ?_, hb5⟩
    · rw [HQ.out.2]; rfl
    · rw [HQ.out.1]; exact hop4
  have HF := Lib.hid (show goneF p nm = F from hF ▸ by unfold opF; simp only [h1, h2, h3, if_false])
  clear hF
  go_enter Try.func113, Try.ntmps113
  go_wp2_with fail
  have hR : Blk (((w.alloc (.cells #[.slice A0 p.slots.length c0, .slice A1 p.vols.length c1] 30)).alloc (.cells #[.int .i64 kd, .string nm, .string ds, .int .i64 n, .string tx] 74)).alloc (.cells #[.slice none 0 0, .slice none 0 0] 30)) (w.heap.size + 1 + 1) #[.slice none 0 0, .slice none 0 0] 30 := Blk.nw3 _ _ _ _ _
  have hW : Bel w (((w.alloc (.cells #[.slice A0 p.slots.length c0, .slice A1 p.vols.length c1] 30)).alloc (.cells #[.int .i64 kd, .string nm, .string ds, .int .i64 n, .string tx] 74)).alloc (.cells #[.slice none 0 0, .slice none 0 0] 30)) := bel_alloc (bel_alloc (bel_alloc (Below.refl _ _) _) _) _
  generalize (((w.alloc (.cells #[.slice A0 p.slots.length c0, .slice A1 p.vols.length c1] 30)).alloc (.cells #[.int .i64 kd, .string nm, .string ds, .int .i64 n, .string tx] 74)).alloc (.cells #[.slice none 0 0, .slice none 0 0] 30)) = W0 at hR hW ⊢
  refine (l11Gone_c (HP.out.bel hW) HS.out HK.out (Nat.le_trans hbase hW.size)).mono ?_
  rintro e w3 ⟨v2, v3, bvs3, rfl, ho3, hb3⟩
  rw [HF.out] at ho3 ⊢
  have hb := (Fr.ofBel hW hbase).tr hb3 hbase
  have hR1 : Blk w3 (w.heap.size + 1 + 1) #[.slice none 0 0, .slice none 0 0] 30 := hb3.k _ _ _ (by decide) (by decide) (by decide) hR
  obtain ⟨q, hq⟩ : ∃ q, F.getD p = q := ⟨_, rfl⟩
  obtain ⟨ok, hok⟩ : ∃ ok, F.isSome = ok := ⟨_, rfl⟩
  rw [hq] at ho3
  rw [hok]
  have HQ := Lib.hid (And.intro hq hok)
  have HO3 := Lib.hid ho3
  have HR := Lib.hid hR1
  have HB := Lib.hid hb
  clear hq hok hR hW
  obtain ⟨A2, A3, c2, c3, rfl, rfl, hpi⟩ := ho3.reads
  have r0 := HR.out.cell 0
  have r1 := HR.out.cell 1
  have f0 := HR.out.free 0
  have f1 := HR.out.free 1
  simp at r0 r1
  clear hpi ho3 hb3 hR1 hb
  go_wp2
  have hR2 := HR.out
  have hR3 := hR2.set 0 (.slice A2 q.slots.length c2) (cs' := #[.slice A2 q.slots.length c2, .slice none 0 0]) rfl
  have hR4 := hR3.set 1 (.slice A3 q.vols.length c3) (cs' := #[.slice A2 q.slots.length c2, .slice A3 q.vols.length c3]) rfl
  have hop4 := (HO3.out.far hR2 (by decide) (by decide) (by decide) 0 (.slice A2 q.slots.length c2)).far hR3 (by decide) (by decide) (by decide) 1 (.slice A3 q.vols.length c3)
  have hb5 := (HB.out.set (b := w.heap.size + 1 + 1) (by omega) hbase 0 (.slice A2 q.slots.length c2)).set (b := w.heap.size + 1 + 1) (by omega) hbase 1 (.slice A3 q.vols.length c3)
  refine bodyPost_ret (results_ct rfl _ _ (w.heap.size + 1 + 1) 30 #[.slice A2 q.slots.length c2, .slice A3 q.vols.length c3] (0, 0) _ rfl hR4 Try.underlying30 rfl (by kernel_rfl)) rfl ?_
  refine ⟨.slice A2 q.slots.length c2, .slice A3 q.vols.length c3, bvs3, ?_, ?_, hb5⟩
  · rw [HQ.out.2]; rfl
  · rw [HQ.out.1]; exact hop4
end Go.Proofs.Ytpobgjkmjlmafaa
/- Plain Lean: texts of pools; changes apart and twice; how many pieces there are. -/


namespace Go.Proofs.Ytpobgjkmjlmafaa
open Go.RowKit Go.Proofs.YtpobgjkmjlmafaaW.PrintWords
set_option linter.unusedVariables false
set_option linter.unusedSimpArgs false

/-! ### texts -/
def spB : ByteArray := ⟨#[32]⟩
def dashB : ByteArray := ⟨#[45]⟩
def nlB : ByteArray := ⟨#[10]⟩
def blkT (s : List Slot) (pl : Int) : ByteArray := if 0 < pl ∧ 0 < (s.getD (pl - 1).toNat Slot.z).uses then slotText s pl else dashB
def volRun (s : List Slot) (a : ByteArray) (bs : List Int) : ByteArray := bs.foldl (fun a pl => a ++ (spB ++ blkT s pl)) a
def volT (v : Vol) (s : List Slot) : ByteArray := if volOk v && storeOk s then volRun s v.name v.blocks else e0
def poolRun (s : List Slot) (a : ByteArray) (vs : List Vol) : ByteArray := vs.foldl (fun a v => a ++ (volT v s ++ nlB)) a
def poolT (p : Pool) : ByteArray := if poolOk p then poolRun p.slots e0 p.vols else e0
theorem volRun_snoc (s : List Slot) (a : ByteArray) (bs : List Int) (x : Int) : volRun s a (bs ++ [x]) = volRun s a bs ++ (spB ++ blkT s x) := by
  unfold volRun; rw [List.foldl_append]; rfl
theorem poolRun_snoc (s : List Slot) (a : ByteArray) (vs : List Vol) (x : Vol) : poolRun s a (vs ++ [x]) = poolRun s a vs ++ (volT x s ++ nlB) := by
  unfold poolRun; rw [List.foldl_append]; rfl
def tagT (t : ByteArray) (ps : List ByteArray) : ByteArray := ps.foldl (fun a x => a ++ (spB ++ if x = e0 then dashB else x)) t
def tags (p : Pool) : List (ByteArray × List ByteArray) := p.vols.map fun v => (v.name, v.blocks.map (pc p.slots))
/-! ### changes -/
def opPieces (o : Op) (f : ByteArray → List ByteArray) (t : ByteArray) : List ByteArray :=
  if o.kind = 1 then (if t = o.name then List.replicate o.n.toNat e0 else f t)
  else if o.kind = 2 then (if t = o.name then (f o.name).set o.n.toNat o.text else f t)
  else if o.kind = 3 then (if t = o.dest then f o.name else f t)
  else (if t = o.name then [] else f t)
theorem write_back_blk {p q : Pool} {name : ByteArray} {b : Int} {text : ByteArray} (hp : PoolP p) (h : writeF p name b text = some q) : 0 ≤ b ∧ b < lgBlks p.vols name ∧ lgBlks q.vols name = lgBlks p.vols name ∧ tOk text = true := by
  obtain ⟨i, v, x, hw, ht, _⟩ := writeF_some hp h
  have h1 := (hasBlk_iff hp.v (t := name) (b := b)).1 (by rw [hw.has]; omega)
  have h2 := write_pieces hp h name
  rw [if_pos rfl] at h2
  rw [lgBlks_len p.vols]
  refine ⟨h1.1, h1.2, ?_, ht⟩
  rw [pieces_len, h2, List.length_set, ← pieces_len, lgBlks_len]
/-! ### how many pieces -/
def kstep (seen : List ByteArray) (t : ByteArray) : List ByteArray := if (t.toList == []) || seen.any (fun o => o.toList == t.toList) then seen else seen ++ [t]
theorem kstep_eq (seen : List ByteArray) (t : ByteArray) : kstep seen t = seen ∨ (t ≠ e0 ∧ t ∉ seen ∧ kstep seen t = seen ++ [t]) := by
  unfold kstep
  split
  · exact .inl rfl
  · rename_i h
    simp only [Bool.or_eq_true, not_or, Bool.not_eq_true, List.any_eq_false] at h
    refine .inr ⟨fun e => ?_, fun hm => ?_, rfl⟩
    · subst e; rw [toList_nil.2 rfl] at h; simp at h
    · have := h.2 t hm; simp at this
theorem kstep_mem (seen : List ByteArray) (t x : ByteArray) : x ∈ kstep seen t ↔ x ∈ seen ∨ (x = t ∧ t ≠ e0) := by
  unfold kstep
  split
  · rename_i h
    rw [Bool.or_eq_true, List.any_eq_true] at h
    constructor
    · exact .inl
    · rintro (h1 | ⟨rfl, h2⟩)
      · exact h1
      · rcases h with h | ⟨o, ho, he⟩
        · exact absurd (toList_nil.1 (by simpa using h)) h2
        · rw [← textB.1 he]; exact ho
  · rename_i h
    simp only [Bool.or_eq_true, not_or, Bool.not_eq_true] at h
    rw [List.mem_append, List.mem_singleton]
    constructor
    · rintro (h1 | rfl)
      · exact .inl h1
      · refine .inr ⟨rfl, fun e => ?_⟩
        subst e; rw [toList_nil.2 rfl] at h; simp at h
    · rintro (h1 | ⟨h1, _⟩)
      · exact .inl h1
      · exact .inr h1
theorem kstep_nodup {seen : List ByteArray} (h : seen.Nodup) (t : ByteArray) : (kstep seen t).Nodup := by
  rcases kstep_eq seen t with e | ⟨_, h1, e⟩
  · rw [e]; exact h
  · rw [e, List.nodup_append]
    refine ⟨h, by simp, fun a ha b hb => ?_⟩
    rw [List.mem_singleton] at hb
    subst hb
    exact fun e => h1 (e ▸ ha)
theorem kfold : ∀ (ts seen : List ByteArray), seen.Nodup → (ts.foldl kstep seen).Nodup ∧ ∀ x, x ∈ ts.foldl kstep seen ↔ x ∈ seen ∨ (x ∈ ts ∧ x ≠ e0)
  | [], seen, h => ⟨h, fun x => by simp⟩
  | t :: ts, seen, h => by
    obtain ⟨h1, h2⟩ := kfold ts (kstep seen t) (kstep_nodup h t)
    refine ⟨h1, fun x => ?_⟩
    rw [List.foldl_cons, h2, kstep_mem, List.mem_cons]
    constructor
    · rintro ((h | ⟨rfl, h⟩) | ⟨h, h3⟩)
      · exact .inl h
      · exact .inr ⟨.inl rfl, h⟩
      · exact .inr ⟨.inr h, h3⟩
    · rintro (h | ⟨rfl | h, h3⟩)
      · exact .inl (.inl h)
      · exact .inl (.inr ⟨rfl, h3⟩)
      · exact .inr ⟨h, h3⟩
theorem nodup_len {α : Type} : ∀ (l u : List α), l.Nodup → (∀ x ∈ l, x ∈ u) → l.length ≤ u.length
  | [], _, _, _ => Nat.zero_le _
  | a :: l, u, h, hs => by
    obtain ⟨h1, h2⟩ := List.nodup_cons.1 h
    obtain ⟨u1, u2, rfl⟩ := List.append_of_mem (hs a List.mem_cons_self)
    have := nodup_len l (u1 ++ u2) h2 fun x hx => by
      have := hs x (List.mem_cons_of_mem _ hx)
      rcases List.mem_append.1 this with h3 | h3
      · exact List.mem_append.2 (.inl h3)
      · rcases List.mem_cons.1 h3 with rfl | h3
        · exact absurd hx h1
        · exact List.mem_append.2 (.inr h3)
    simp only [List.length_append, List.length_cons] at this ⊢
    omega
def usedT : List Slot → List ByteArray
  | [] => []
  | x :: s => if x.uses = 0 then usedT s else x.text :: usedT s
theorem usedT_cons (x : Slot) (s : List Slot) : usedT (x :: s) = if x.uses = 0 then usedT s else x.text :: usedT s := rfl
theorem usedT_len : ∀ s : List Slot, ((usedT s).length : Int) = s.length - freeN s
  | [] => rfl
  | x :: s => by
    have := usedT_len s
    rw [usedT_cons]
    unfold freeN
    split <;> simp only [List.length_cons] <;> omega
theorem usedT_mem : ∀ (s : List Slot) (t : ByteArray), t ∈ usedT s ↔ ∃ (m : Nat) (x : Slot), s[m]? = some x ∧ x.uses ≠ 0 ∧ x.text = t
  | [], t => by simp [usedT]
  | y :: s, t => by
    have ih := usedT_mem s t
    have key : (∃ (m : Nat) (x : Slot), (y :: s)[m]? = some x ∧ x.uses ≠ 0 ∧ x.text = t) ↔ (y.uses ≠ 0 ∧ y.text = t) ∨ ∃ (m : Nat) (x : Slot), s[m]? = some x ∧ x.uses ≠ 0 ∧ x.text = t := by
      constructor
      · rintro ⟨m, x, hx, h⟩
        cases m with
        | zero => simp at hx; subst hx; exact .inl h
        | succ m => exact .inr ⟨m, x, by simpa using hx, h⟩
      · rintro (h | ⟨m, x, hx, h⟩)
        · exact ⟨0, y, rfl, h⟩
        · exact ⟨m + 1, x, by simpa using hx, h⟩
    rw [key, ← ih]
    rw [usedT_cons]
    split
    · rename_i h; simp [h]
    · rename_i h
      rw [List.mem_cons]
      constructor
      · rintro (h1 | h1)
        · exact .inl ⟨h, h1.symm⟩
        · exact .inr h1
      · rintro (⟨_, h1⟩ | h1)
        · exact .inl h1.symm
        · exact .inr h1
theorem usedT_nodup : ∀ s : List Slot, (∀ (i j : Nat) (x y : Slot), s[i]? = some x → s[j]? = some y → x.uses ≠ 0 → y.uses ≠ 0 → x.text = y.text → i = j) → (usedT s).Nodup
  | [], _ => List.nodup_nil
  | y :: s, h => by
    have ih := usedT_nodup s fun i j a b ha hb h1 h2 h3 => by
      have := h (i + 1) (j + 1) a b (by simpa using ha) (by simpa using hb) h1 h2 h3
      omega
    rw [usedT_cons]
    split
    · exact ih
    · rename_i hy
      rw [List.nodup_cons]
      refine ⟨fun hm => ?_, ih⟩
      obtain ⟨m, x, hx, hu, ht⟩ := (usedT_mem s _).1 hm
      have := h 0 (m + 1) y x rfl (by simpa using hx) hy hu ht.symm
      omega
theorem cnt_mem {p : Int} {bs : List Int} (h : 0 < cnt p bs) : p ∈ bs := by
  induction bs with
  | nil => simp [cnt] at h
  | cons a bs ih =>
    simp only [cnt] at h
    by_cases e : a = p
    · subst e; exact List.mem_cons_self
    · rw [if_neg e] at h; exact List.mem_cons_of_mem _ (ih (by omega))
theorem uses_get {p : Int} {vs : List Vol} (h : 0 < uses p vs) : ∃ x ∈ vs, p ∈ x.blocks := by
  induction vs with
  | nil => simp [uses] at h
  | cons a vs ih =>
    simp only [uses] at h
    by_cases e : 0 < cnt p a.blocks
    · exact ⟨a, List.mem_cons_self, cnt_mem e⟩
    · obtain ⟨x, hx, h1⟩ := ih (by omega)
      exact ⟨x, List.mem_cons_of_mem _ hx, h1⟩
def allT (p : Pool) (vs : List Vol) : List ByteArray := vs.flatMap fun v => pieces p v.name
theorem kinds_eq {p : Pool} (hp : PoolP p) : (((allT p p.vols).foldl kstep []).length : Int) = 8 - freeN p.slots := by
  obtain ⟨h1, h2⟩ := kfold (allT p p.vols) [] List.nodup_nil
  have h3 : (usedT p.slots).Nodup := usedT_nodup _ fun i j x y hx hy hxu _ he => by
    refine hp.s.uniq i j x y hx hy he fun e => hxu ?_
    exact (hp.s.ok i x hx).2.2.2.1 e
  have h4 : ∀ t, t ∈ (allT p p.vols).foldl kstep [] ↔ t ∈ usedT p.slots := by
    intro t
    rw [h2, usedT_mem]
    simp only [List.not_mem_nil, false_or]
    constructor
    · rintro ⟨ht, hne⟩
      unfold allT at ht
      rw [List.mem_flatMap] at ht
      obtain ⟨v, hv, ht⟩ := ht
      unfold pieces at ht
      rw [blksOf_mem hp.v hv, List.mem_map] at ht
      obtain ⟨pl, hpl, rfl⟩ := ht
      by_cases h0 : 0 < pl
      · obtain ⟨y, hy, hu, _, he⟩ := hp.blkM hv hpl h0
        exact ⟨_, y, hy, by omega, he.symm⟩
      · unfold pc at hne; rw [if_neg h0] at hne; exact absurd rfl hne
    · rintro ⟨m, x, hx, hu, rfl⟩
      have hxo := hp.s.ok m x hx
      have hxu := hp.uses m x hx
      obtain ⟨v, hv, hpl⟩ := uses_get (p := (m : Int) + 1) (vs := p.vols) (by omega)
      refine ⟨?_, fun e => hu (hxo.2.2.2.1 e)⟩
      unfold allT
      rw [List.mem_flatMap]
      refine ⟨v, hv, ?_⟩
      unfold pieces
      rw [blksOf_mem hp.v hv, List.mem_map]
      refine ⟨_, hpl, ?_⟩
      unfold pc
      rw [if_pos (by omega), slotText_at (x := x) (by rw [show ((m : Int) + 1 - 1).toNat = m by omega]; exact hx)]
  have h5 := nodup_len _ _ h1 fun x hx => (h4 x).1 hx
  have h6 := nodup_len _ _ h3 fun x hx => (h4 x).2 hx
  have h7 := usedT_len p.slots
  rw [hp.s.len] at h7
  omega
end Go.Proofs.Ytpobgjkmjlmafaa
/- VolText of the program and of the reference: volT. -/


namespace Go.Proofs.Ytpobgjkmjlmafaa
open Go.RowKit Go.Proofs.YtpobgjkmjlmafaaW.PrintWords
set_option linter.unusedVariables false
set_option linter.unusedSimpArgs false

theorem ret_str {a b : ByteArray} (h : a = b) : Ending.returned (.string a) = .returned (.string b) := by rw [h]
theorem blkT_dash {s : List Slot} {x : Int} (h : ¬ (0 < x ∧ 0 < (s.getD (x - 1).toNat Slot.z).uses)) : blkT s x = dashB := by unfold blkT; rw [if_neg h]
theorem blkT_zero {s : List Slot} {x : Int} (h : x ≤ 0) : blkT s x = dashB := blkT_dash fun h1 => by have := h1.1; omega
theorem blkT_none {s : List Slot} {m : Nat} {y : Slot} (hy : s[m]? = some y) (hu : y.uses ≤ 0) : blkT s ((m : Int) + 1) = dashB :=
  blkT_dash fun h => by have := h.2; rw [show ((m : Int) + 1 - 1).toNat = m by omega, getD_of hy] at this; omega
theorem blkT_text {s : List Slot} {m : Nat} {y : Slot} (hy : s[m]? = some y) (hu : 0 < y.uses) : blkT s ((m : Int) + 1) = y.text := by
  unfold blkT
  rw [show ((m : Int) + 1 - 1).toNat = m by omega, getD_of hy, if_pos ⟨by omega, hu⟩, slotText_at (x := y) (by rw [show ((m : Int) + 1 - 1).toNat = m by omega]; exact hy)]
theorem volT_no {v : Vol} {s : List Slot} (h : volOk v = false ∨ storeOk s = false) : volT v s = e0 := by
  unfold volT
  rcases h with h | h
  · rw [h]; rfl
  · rw [h, Bool.and_false]; rfl
theorem volT_yes {v : Vol} {s : List Slot} (h : volOk v = true) (h' : storeOk s = true) : volT v s = volRun s v.name v.blocks := by unfold volT; rw [h, h']; rfl
theorem name_one {v : Vol} (h : volOk v = true) : v.name.size = 1 := by
  obtain ⟨b, hb, _⟩ := isNm_one (volOk_parts h).2.1
  rw [← size_toList, hb]; rfl
theorem slot_text4 {s : List Slot} (h : storeOk s = true) {m : Nat} {y : Slot} (hy : s[m]? = some y) : y.text.size ≤ 4 ∧ 0 ≤ y.uses := by
  have := (storeOk_iff.1 h).ok m y hy
  exact ⟨(tOk_parts this.1).2, this.2.1⟩
theorem volRun_step {s : List Slot} {a n : ByteArray} {bs : List Int} {k : Nat} {x : Int} (h : a = volRun s n (bs.take k)) (hx : bs[k]? = some x) {t : ByteArray} (ht : blkT s x = t) : a ++ (spB ++ t) = volRun s n (bs.take (k + 1)) := by
  rw [take_snoc hx, volRun_snoc, ← h, ht]
theorem blkT_size {s : List Slot} (h : storeOk s = true) (x : Int) : (blkT s x).size ≤ 4 := by
  unfold blkT
  split
  · unfold slotText
    by_cases hl : (x - 1).toNat < s.length
    · obtain ⟨y, hy⟩ := getQ hl
      rw [getD_of hy]
      exact (slot_text4 h hy).1
    · rw [List.getD_eq_getElem?_getD, List.getElem?_eq_none (by omega)]
      decide
  · decide
theorem volRun_size {s : List Slot} (h : storeOk s = true) : ∀ (bs : List Int) (a : ByteArray), (volRun s a bs).size ≤ a.size + 5 * bs.length
  | [], a => by simp [volRun]
  | x :: bs, a => by
    have ih := volRun_size h bs (a ++ (spB ++ blkT s x))
    have h1 := blkT_size h x
    have h2 : spB.size = 1 := rfl
    rw [ByteArray.size_append, ByteArray.size_append, h2] at ih
    show (volRun s (a ++ (spB ++ blkT s x)) bs).size ≤ _
    rw [List.length_cons]
    omega
theorem volT_size {v : Vol} {s : List Slot} : (volT v s).size ≤ 31 := by
  cases h1 : volOk v
  · rw [volT_no (.inl h1)]; decide
  cases h2 : storeOk s
  · rw [volT_no (.inr h2)]; decide
  rw [volT_yes h1 h2]
  have := volRun_size h2 v.blocks v.name
  have h3 := name_one h1
  have h4 := (volOk_parts h1).2.2.2
  omega
set_option maxHeartbeats 4000000 in
theorem implVolText_c {v : Vol} {s : List Slot} {A0 A1 : Option Addr} {c0 c1 : Nat} {w : World} (hv : kInt.C w A1 v.blocks.length v.blocks) (hvl : v.blocks.length ≤ 1048576) (hs : kSlot.C w A0 s.length s) (hc : s.length ≤ c0) (hS : SmallS s) :
    Calls Try.prog 80 #[.agg #[.string v.name, .slice A1 v.blocks.length c1], .slice A0 s.length c0] w (Ret (.string (volT v s)) w) := by
  have HV := Lib.hid hv
  have HS := Lib.hid hs
  have HC := Lib.hid hc
  have HM := Lib.hid hS
  have hsl := hS.len
  clear hv hs hc hS
  have HVO : Hid (∀ W, kInt.C W A1 v.blocks.length v.blocks → Calls Try.prog 88 #[.agg #[.string v.name, .slice A1 v.blocks.length c1]] W (Ret (.bool (volOk v)) W)) := fun W h => implVolOk_c v A1 c1 W h hvl
  have HSO : Hid (∀ W, kSlot.C W A0 s.length s → Calls Try.prog 87 #[.slice A0 s.length c0] W (Ret (.bool (storeOk s)) W)) := fun W h => implStoreOk_c s A0 c0 W h HC.out HM.out
  cases hvo : volOk v
  · rw [hvo] at HVO
    have g := Lib.hid (volT_no (s := s) (.inl hvo))
    clear hvo
    go_enter Try.func80, Try.ntmps80
    go_wp2_with fail
    refine (HVO.out _ (Kd.C_alloc HV.out _)).mono ?_
    rintro e w1 ⟨rfl, hb1⟩
    go_wp2
    go_ret
    exact ⟨by rw [g.out]; rfl, (bel_alloc (Below.refl _ _) _).tr hb1⟩
  cases hso : storeOk s
  · rw [hvo] at HVO
    rw [hso] at HSO
    have g := Lib.hid (volT_no (v := v) (.inr hso))
    clear hvo hso
    go_enter Try.func80, Try.ntmps80
    go_wp2_with fail
    refine (HVO.out _ (Kd.C_alloc HV.out _)).mono ?_
    rintro e w1 ⟨rfl, hb1⟩
    go_wp2_with fail
    refine (HSO.out _ (Kd.C_below (Kd.C_alloc HS.out _) hb1)).mono ?_
    rintro e w2 ⟨rfl, hb2⟩
    go_wp2
    go_ret
    exact ⟨by rw [g.out]; rfl, ((bel_alloc (Below.refl _ _) _).tr hb1).tr hb2⟩
  have g := Lib.hid (volT_yes hvo hso)
  have hn1 := name_one hvo
  have HBD := Lib.hid (volOk_parts hvo).1
  have hb6 := (volOk_parts hvo).2.2.2
  have HTX : Hid (∀ (m : Nat) (y : Slot), s[m]? = some y → y.text.size ≤ 4 ∧ 0 ≤ y.uses) := fun m y hy => slot_text4 hso hy
  have H8 := Lib.hid (storeOk_len hso)
  have hn2 : v.name.size ≤ 1 := by omega
  rw [hvo] at HVO
  rw [hso] at HSO
  clear hvo hso hn1
  go_enter Try.func80, Try.ntmps80
  go_wp2_with fail
  have hB := Blk.new w #[.string v.name, .slice A1 v.blocks.length c1] 43
  have hW : Bel w (w.alloc (.cells #[.string v.name, .slice A1 v.blocks.length c1] 43)) := bel_alloc (Below.refl _ _) _
  generalize (w.alloc (.cells #[.string v.name, .slice A1 v.blocks.length c1] 43)) = W0 at hB hW ⊢
  refine (HVO.out _ (Kd.C_below HV.out hW)).mono ?_
  rintro e w1 ⟨rfl, hb1⟩
  have KB := Lib.hid (hB.bel hb1)
  have KW := Lib.hid (hW.tr hb1)
  clear hB hW hb1
  go_wp2_with fail
  refine (HSO.out _ (Kd.C_below HS.out KW.out)).mono ?_
  rintro e w2 ⟨rfl, hb2⟩
  replace KB := Lib.hid (KB.out.bel hb2)
  replace KW := Lib.hid (KW.out.tr hb2)
  clear hb2
  have q0 := KB.out.cell 0
  have q1 := KB.out.cell 1
  simp at q0 q1
  go_wp2
  clear q0 q1
  go_loopg [5, 22] v.blocks.length (fun gg v5 v22 W => ∃ (k : Nat) (a : ByteArray), gg + k = v.blocks.length ∧ v22 = .int .i64 k ∧ v5 = .string a ∧ a.size ≤ 1 + 5 * k ∧ Hid (a = volRun s v.name (v.blocks.take k)) ∧ Bel w2 W)
  case atStart => exact ⟨0, v.name, rfl, rfl, rfl, by omega, rfl, Below.refl _ _⟩
  case round =>
    obtain ⟨k, a, hk, rfl, rfl, ha, hr, hW⟩ := hrel
    by_cases hlt : k < v.blocks.length
    · obtain ⟨x, hx⟩ := getQ hlt
      obtain ⟨ad, rfl, hc⟩ := at_int (Kd.C_below HV.out (KW.out.tr hW)) hx
      have hxb := HBD.out x (List.mem_of_getElem? hx)
      have hx0 := hxb.1
      have hx8 := hxb.2
      have HX := Lib.hid hx
      clear hx hxb
      by_cases hp : 0 < x
      · obtain ⟨m, rfl⟩ : ∃ m : Nat, x = (m : Int) + 1 := ⟨(x - 1).toNat, by omega⟩
        have hm : m < s.length := by have := H8.out; omega
        obtain ⟨y, hy⟩ := getQ hm
        obtain ⟨ad2, rfl, hd, hd'⟩ := at_slot (Kd.C_below HS.out (KW.out.tr hW)) hy
        have hy4 := (HTX.out m y hy).1
        have hy0 := (HTX.out m y hy).2
        by_cases hu : 0 < y.uses
        · have HT := Lib.hid (volRun_step hr.out HX.out (blkT_text hy hu))
          clear hy hr
          go_wp2
          go_roundg (v.blocks.length - (k + 1))
          case measure => omega
          case rel => exact ⟨k + 1, _, by omega, by go_num, rfl, by rw [ByteArray.size_append, ByteArray.size_append, show (ByteArray.size ⟨#[32]⟩) = 1 from rfl]; omega, HT.out, hW⟩
        · have HT := Lib.hid (volRun_step hr.out HX.out (blkT_none hy (by omega)))
          clear hy hr
          go_wp2
          go_roundg (v.blocks.length - (k + 1))
          case measure => omega
          case rel => exact ⟨k + 1, _, by omega, by go_num, rfl, by rw [ByteArray.size_append, ByteArray.size_append, show (ByteArray.size ⟨#[32]⟩) = 1 from rfl, show (ByteArray.size ⟨#[45]⟩) = 1 from rfl]; omega, HT.out, hW⟩
      · have HT := Lib.hid (volRun_step hr.out HX.out (blkT_zero (s := s) (by omega)))
        clear hr
        go_wp2
        go_roundg (v.blocks.length - (k + 1))
        case measure => omega
        case rel => exact ⟨k + 1, _, by omega, by go_num, rfl, by rw [ByteArray.size_append, ByteArray.size_append, show (ByteArray.size ⟨#[32]⟩) = 1 from rfl, show (ByteArray.size ⟨#[45]⟩) = 1 from rfl]; omega, HT.out, hW⟩
    · have HT := Lib.hid (hr.out.trans (by rw [take_all hlt]))
      clear hr
      go_wp2
      go_ret
      exact ⟨ret_str (HT.out.trans g.out.symm), KW.out.tr hW⟩
set_option maxHeartbeats 4000000 in
theorem specVolText_c {v : Vol} {s : List Slot} {A0 A1 : Option Addr} {c0 c1 : Nat} {w : World} (hv : kInt.C w A1 v.blocks.length v.blocks) (hvl : v.blocks.length ≤ 1048576) (hvn : v.name.size ≤ 1048576) (hs : kSlot.C w A0 s.length s) (hS : SmallS s) :
    Calls Try.prog 81 #[.agg #[.string v.name, .slice A1 v.blocks.length c1], .slice A0 s.length c0] w (Ret (.string (volT v s)) w) := by
  have HV := Lib.hid hv
  have HS := Lib.hid hs
  have HM := Lib.hid hS
  have hsl := hS.len
  clear hv hs hS
  have HVO : Hid (∀ W, kInt.C W A1 v.blocks.length v.blocks → Calls Try.prog 83 #[.agg #[.string v.name, .slice A1 v.blocks.length c1]] W (Ret (.bool (volOk v)) W)) := fun W h => specVolOk_c v A1 c1 W h hvl hvn
  have HSO : Hid (∀ W, kSlot.C W A0 s.length s → Calls Try.prog 82 #[.slice A0 s.length c0] W (Ret (.bool (storeOk s)) W)) := fun W h => specStoreOk_c s A0 c0 W h HM.out
  cases hvo : volOk v
  · rw [hvo] at HVO
    have g := Lib.hid (volT_no (s := s) (.inl hvo))
    clear hvo
    go_enter Try.func81, Try.ntmps81
    go_wp2_with fail
    refine (HVO.out _ (Kd.C_alloc HV.out _)).mono ?_
    rintro e w1 ⟨rfl, hb1⟩
    go_wp2
    go_ret
    exact ⟨by rw [g.out]; rfl, (bel_alloc (Below.refl _ _) _).tr hb1⟩
  cases hso : storeOk s
  · rw [hvo] at HVO
    rw [hso] at HSO
    have g := Lib.hid (volT_no (v := v) (.inr hso))
    clear hvo hso
    go_enter Try.func81, Try.ntmps81
    go_wp2_with fail
    refine (HVO.out _ (Kd.C_alloc HV.out _)).mono ?_
    rintro e w1 ⟨rfl, hb1⟩
    go_wp2_with fail
    refine (HSO.out _ (Kd.C_below (Kd.C_alloc HS.out _) hb1)).mono ?_
    rintro e w2 ⟨rfl, hb2⟩
    go_wp2
    go_ret
    exact ⟨by rw [g.out]; rfl, ((bel_alloc (Below.refl _ _) _).tr hb1).tr hb2⟩
  have g := Lib.hid (volT_yes hvo hso)
  have hn1 := name_one hvo
  have HBD := Lib.hid (volOk_parts hvo).1
  have hb6 := (volOk_parts hvo).2.2.2
  have HTX : Hid (∀ (m : Nat) (y : Slot), s[m]? = some y → y.text.size ≤ 4 ∧ 0 ≤ y.uses) := fun m y hy => slot_text4 hso hy
  have H8 := Lib.hid (storeOk_len hso)
  have hn2 : v.name.size ≤ 1 := by omega
  rw [hvo] at HVO
  rw [hso] at HSO
  clear hvo hso hn1
  go_enter Try.func81, Try.ntmps81
  go_wp2_with fail
  have hB := Blk.new w #[.string v.name, .slice A1 v.blocks.length c1] 43
  have hW : Bel w (w.alloc (.cells #[.string v.name, .slice A1 v.blocks.length c1] 43)) := bel_alloc (Below.refl _ _) _
  generalize (w.alloc (.cells #[.string v.name, .slice A1 v.blocks.length c1] 43)) = W0 at hB hW ⊢
  refine (HVO.out _ (Kd.C_below HV.out hW)).mono ?_
  rintro e w1 ⟨rfl, hb1⟩
  have KB := Lib.hid (hB.bel hb1)
  have KW := Lib.hid (hW.tr hb1)
  clear hB hW hb1
  go_wp2_with fail
  refine (HSO.out _ (Kd.C_below HS.out KW.out)).mono ?_
  rintro e w2 ⟨rfl, hb2⟩
  replace KB := Lib.hid (KB.out.bel hb2)
  replace KW := Lib.hid (KW.out.tr hb2)
  clear hb2
  have q0 := KB.out.cell 0
  have q1 := KB.out.cell 1
  simp at q0 q1
  go_wp2
  clear q0 q1
  go_loopg [5, 6] v.blocks.length (fun gg v5 v6 W => ∃ (k : Nat) (a : ByteArray), gg + k = v.blocks.length ∧ v6 = .int .i64 k ∧ v5 = .string a ∧ a.size ≤ 1 + 5 * k ∧ Hid (a = volRun s v.name (v.blocks.take k)) ∧ Bel w2 W)
  case atStart => exact ⟨0, v.name, rfl, rfl, rfl, by omega, rfl, Below.refl _ _⟩
  case round =>
    obtain ⟨k, a, hk, rfl, rfl, ha, hr, hW⟩ := hrel
    have q1 := (KB.out.bel hW).cell 1
    simp at q1
    by_cases hlt : k < v.blocks.length
    · obtain ⟨x, hx⟩ := getQ hlt
      obtain ⟨ad, rfl, hc⟩ := at_int (Kd.C_below HV.out (KW.out.tr hW)) hx
      have hxb := HBD.out x (List.mem_of_getElem? hx)
      have hx0 := hxb.1
      have hx8 := hxb.2
      have HX := Lib.hid hx
      clear hx hxb
      by_cases hp : 0 < x
      · obtain ⟨m, rfl⟩ : ∃ m : Nat, x = (m : Int) + 1 := ⟨(x - 1).toNat, by omega⟩
        have hm : m < s.length := by have := H8.out; omega
        obtain ⟨y, hy⟩ := getQ hm
        obtain ⟨ad2, rfl, hd, hd'⟩ := at_slot (Kd.C_below HS.out (KW.out.tr hW)) hy
        have hy4 := (HTX.out m y hy).1
        have hy0 := (HTX.out m y hy).2
        have hxz : ((m : Int) + 1 == 0) = false := by simp; omega
        by_cases hu : 0 < y.uses
        · have HT := Lib.hid (volRun_step hr.out HX.out (blkT_text hy hu))
          have huz : (y.uses == 0) = false := by simp; omega
          clear hy hr
          go_wp2
          go_roundg (v.blocks.length - (k + 1))
          case measure => omega
          case rel => exact ⟨k + 1, _, by omega, by go_num, rfl, by rw [ByteArray.size_append, ByteArray.size_append, show (ByteArray.size ⟨#[32]⟩) = 1 from rfl]; omega, by rw [← HT.out, ← ByteArray.append_assoc]; rfl, hW⟩
        · have HT := Lib.hid (volRun_step hr.out HX.out (blkT_none hy (by omega)))
          have huz : (y.uses == 0) = true := by simp; omega
          clear hy hr
          go_wp2
          go_roundg (v.blocks.length - (k + 1))
          case measure => omega
          case rel => exact ⟨k + 1, _, by omega, by go_num, rfl, by rw [ByteArray.size_append, ByteArray.size_append, show (ByteArray.size ⟨#[32]⟩) = 1 from rfl, show (ByteArray.size ⟨#[45]⟩) = 1 from rfl]; omega, by rw [← HT.out, ← ByteArray.append_assoc]; rfl, hW⟩
      · have HT := Lib.hid (volRun_step hr.out HX.out (blkT_zero (s := s) (by omega)))
        have hxz : (x == 0) = true := by simp; omega
        clear hr
        go_wp2
        go_roundg (v.blocks.length - (k + 1))
        case measure => omega
        case rel => exact ⟨k + 1, _, by omega, by go_num, rfl, by rw [ByteArray.size_append, ByteArray.size_append, show (ByteArray.size ⟨#[32]⟩) = 1 from rfl, show (ByteArray.size ⟨#[45]⟩) = 1 from rfl]; omega, by rw [← HT.out, ← ByteArray.append_assoc]; rfl, hW⟩
    · have HT := Lib.hid (hr.out.trans (by rw [take_all hlt]))
      clear hr
      go_wp2
      go_ret
      exact ⟨ret_str (HT.out.trans g.out.symm), KW.out.tr hW⟩
end Go.Proofs.Ytpobgjkmjlmafaa
/- PoolText of the program and of the reference: poolT. -/


namespace Go.Proofs.Ytpobgjkmjlmafaa
open Go.RowKit Go.Proofs.YtpobgjkmjlmafaaW.PrintWords
set_option linter.unusedVariables false
set_option linter.unusedSimpArgs false

theorem poolRun_step {s : List Slot} {a : ByteArray} {vs : List Vol} {k : Nat} {x : Vol} (h : a = poolRun s e0 (vs.take k)) (hx : vs[k]? = some x) : a ++ (volT x s ++ nlB) = poolRun s e0 (vs.take (k + 1)) := by
  rw [take_snoc hx, poolRun_snoc, ← h]
theorem poolT_no {p : Pool} (h : poolOk p = false) : poolT p = e0 := by unfold poolT; rw [h]; rfl
theorem poolT_yes {p : Pool} (h : poolOk p = true) : poolT p = poolRun p.slots e0 p.vols := by unfold poolT; rw [h]; rfl
set_option maxHeartbeats 4000000 in
theorem implPoolText_c {p : Pool} {A0 A1 : Option Addr} {c0 c1 : Nat} {w : World} (h : PoolIn w A0 A1 c0 c1 p) (hs : SmallP p) :
    Calls Try.prog 32 #[.agg #[.slice A0 p.slots.length c0, .slice A1 p.vols.length c1]] w (Ret (.string (poolT p)) w) := by
  have H := Lib.hid h
  have HS := Lib.hid hs
  clear h hs
  have HPO : Hid (∀ W, PoolIn W A0 A1 c0 c1 p → Calls Try.prog 37 #[.agg #[.slice A0 p.slots.length c0, .slice A1 p.vols.length c1]] W (Ret (.bool (poolOk p)) W)) := fun W h => implPoolOk_in h HS.out
  cases hok : poolOk p
  · rw [hok] at HPO
    have g := Lib.hid (poolT_no hok)
    clear hok
    go_enter Try.func32, Try.ntmps32
    go_wp2_with fail
    refine (HPO.out _ (H.out.alloc _)).mono ?_
    rintro e w1 ⟨rfl, hb1⟩
    go_wp2
    go_ret
    exact ⟨ret_str g.out.symm, (bel_alloc (Below.refl _ _) _).tr hb1⟩
  have g := Lib.hid (poolT_yes hok)
  have HV := Lib.hid (poolOk_iff.1 hok)
  have hl4 := HV.out.v.len
  rw [hok] at HPO
  clear hok
  go_enter Try.func32, Try.ntmps32
  go_wp2_with fail
  have hB := Blk.new w #[.slice A0 p.slots.length c0, .slice A1 p.vols.length c1] 30
  have hW : Bel w (w.alloc (.cells #[.slice A0 p.slots.length c0, .slice A1 p.vols.length c1] 30)) := bel_alloc (Below.refl _ _) _
  generalize (w.alloc (.cells #[.slice A0 p.slots.length c0, .slice A1 p.vols.length c1] 30)) = W0 at hB hW ⊢
  refine (HPO.out _ (H.out.bel hW)).mono ?_
  rintro e w1 ⟨rfl, hb1⟩
  have KB := Lib.hid (hB.bel hb1)
  have KW := Lib.hid (hW.tr hb1)
  clear hB hW hb1
  have q0 := KB.out.cell 0
  have q1 := KB.out.cell 1
  simp at q0 q1
  go_wp2
  clear q0 q1
  go_loopg [3, 12] p.vols.length (fun gg v3 v12 W => ∃ (k : Nat) (a : ByteArray), gg + k = p.vols.length ∧ v12 = .int .i64 k ∧ v3 = .string a ∧ a.size ≤ 32 * k ∧ Hid (a = poolRun p.slots e0 (p.vols.take k)) ∧ Bel w1 W)
  case atStart => exact ⟨0, e0, rfl, rfl, rfl, Nat.zero_le _, rfl, Below.refl _ _⟩
  case round =>
    obtain ⟨k, a, hk, rfl, rfl, ha, hr, hW⟩ := hrel
    have q0 := (KB.out.bel hW).cell 0
    have q1 := (KB.out.bel hW).cell 1
    have y0 := (KB.out.bel hW).lt
    simp at q0 q1
    by_cases hlt : k < p.vols.length
    · obtain ⟨x, hx⟩ := getQ hlt
      have hin := H.out.bel (KW.out.tr hW)
      obtain ⟨ad, A3, n1, rfl, hc, hd, hn1, hC1⟩ := at_vol hin.v hx
      have hx1 : x.blocks.length ≤ 1048576 := HS.out.vols.blocks x (List.mem_of_getElem? hx)
      have HIN := Lib.hid hin
      have HC1 := Lib.hid hC1
      have HT := Lib.hid (poolRun_step hr.out hx)
      have hts : (volT x p.slots).size ≤ 31 := volT_size
      clear hx hr hin hC1
      go_wp2_with fail
      refine (implVolText_c (Kd.C_alloc HC1.out _) hx1 (Kd.C_alloc HIN.out.s _) HIN.out.sc HS.out.slots).mono ?_
      rintro e w2 ⟨rfl, hb2⟩
      have HW := Lib.hid ((bel_alloc hW _).tr hb2)
      clear hb2 q0 q1 y0
      generalize volT x p.slots = tx at HT hts ⊢
      go_wp2
      go_roundg (p.vols.length - (k + 1))
      case measure => omega
      case rel => exact ⟨k + 1, _, by omega, by go_num, rfl, by rw [ByteArray.size_append, ByteArray.size_append, show (ByteArray.size ⟨#[10]⟩) = 1 from rfl]; omega, HT.out, HW.out⟩
    · have HT := Lib.hid (hr.out.trans (by rw [take_all hlt]))
      clear hr
      go_wp2
      go_ret
      exact ⟨ret_str (HT.out.trans g.out.symm), KW.out.tr hW⟩
set_option maxHeartbeats 4000000 in
theorem specPoolText_c {p : Pool} {A0 A1 : Option Addr} {c0 c1 : Nat} {w : World} (h : PoolIn w A0 A1 c0 c1 p) (hs : SmallP p) :
    Calls Try.prog 33 #[.agg #[.slice A0 p.slots.length c0, .slice A1 p.vols.length c1]] w (Ret (.string (poolT p)) w) := by
  have H := Lib.hid h
  have HS := Lib.hid hs
  clear h hs
  have HPO : Hid (∀ W, PoolIn W A0 A1 c0 c1 p → Calls Try.prog 34 #[.agg #[.slice A0 p.slots.length c0, .slice A1 p.vols.length c1]] W (Ret (.bool (poolOk p)) W)) := fun W h => specPoolOk_in h HS.out
  cases hok : poolOk p
  · rw [hok] at HPO
    have g := Lib.hid (poolT_no hok)
    clear hok
    go_enter Try.func33, Try.ntmps33
    go_wp2_with fail
    refine (HPO.out _ (H.out.alloc _)).mono ?_
    rintro e w1 ⟨rfl, hb1⟩
    go_wp2
    go_ret
    exact ⟨ret_str g.out.symm, (bel_alloc (Below.refl _ _) _).tr hb1⟩
  have g := Lib.hid (poolT_yes hok)
  have HV := Lib.hid (poolOk_iff.1 hok)
  have hl4 := HV.out.v.len
  rw [hok] at HPO
  clear hok
  go_enter Try.func33, Try.ntmps33
  go_wp2_with fail
  have hB := Blk.new w #[.slice A0 p.slots.length c0, .slice A1 p.vols.length c1] 30
  have hW : Bel w (w.alloc (.cells #[.slice A0 p.slots.length c0, .slice A1 p.vols.length c1] 30)) := bel_alloc (Below.refl _ _) _
  generalize (w.alloc (.cells #[.slice A0 p.slots.length c0, .slice A1 p.vols.length c1] 30)) = W0 at hB hW ⊢
  refine (HPO.out _ (H.out.bel hW)).mono ?_
  rintro e w1 ⟨rfl, hb1⟩
  have KB := Lib.hid (hB.bel hb1)
  have KW := Lib.hid (hW.tr hb1)
  clear hB hW hb1
  go_wp2
  go_loopg [3, 4] p.vols.length (fun gg v3 v4 W => ∃ (k : Nat) (a : ByteArray), gg + k = p.vols.length ∧ v4 = .int .i64 k ∧ v3 = .string a ∧ a.size ≤ 32 * k ∧ Hid (a = poolRun p.slots e0 (p.vols.take k)) ∧ Bel w1 W)
  case atStart => exact ⟨0, e0, rfl, rfl, rfl, Nat.zero_le _, rfl, Below.refl _ _⟩
  case round =>
    obtain ⟨k, a, hk, rfl, rfl, ha, hr, hW⟩ := hrel
    have q0 := (KB.out.bel hW).cell 0
    have q1 := (KB.out.bel hW).cell 1
    simp at q0 q1
    by_cases hlt : k < p.vols.length
    · obtain ⟨x, hx⟩ := getQ hlt
      have hin := H.out.bel (KW.out.tr hW)
      obtain ⟨ad, A3, n1, rfl, hc, hd, hn1, hC1⟩ := at_vol hin.v hx
      have hx1 : x.blocks.length ≤ 1048576 := HS.out.vols.blocks x (List.mem_of_getElem? hx)
      have hx2 : x.name.size ≤ 1048576 := HS.out.vols.name x (List.mem_of_getElem? hx)
      have HE : Hid (∀ q : GB wr, Calls Try.prog 81 #[.agg #[.string x.name, .slice A3 x.blocks.length n1], .slice A0 p.slots.length c0] q.W (Ret (.string (volT x p.slots)) q.W)) := fun q => specVolText_c (Kd.C_below hC1 q.h) hx1 hx2 (Kd.C_below hin.s q.h) HS.out.slots
      have HT := Lib.hid (poolRun_step hr.out hx)
      have hts : (volT x p.slots).size ≤ 31 := volT_size
      have g0 := gb_cell hc
      have g1 := gb_cell hd
      have g2 := gb_cell q0
      have g3 := gb_cell q1
      clear hx hr hin hC1 hc hd
      generalize volT x p.slots = tx at HT hts HE ⊢
      go_wp2
      clear q0 q1
      refine wp_region_gb (by kernel_rfl) (by kernel_rfl) ?_
      repeat (first | go_big_quiet_skip | (go_big_quiet_want; go_big_quiet_op; first | go_big_quiet_on | (apply Exists.intro; refine ⟨fun _ => ?_, ?_⟩; (go_at_call 81; exact gb_call (HE.out _)); go_big_quiet_on)))
      refine wpQuiet_nil ?_
      rintro _ ⟨⟨w4, hb4⟩, rfl⟩
      go_wp2
      go_roundg (p.vols.length - (k + 1))
      case measure => omega
      case rel => exact ⟨k + 1, _, by omega, by go_num, rfl, by rw [ByteArray.size_append, ByteArray.size_append, show (ByteArray.size ⟨#[10]⟩) = 1 from rfl]; omega, by rw [← HT.out, ← ByteArray.append_assoc]; rfl, hW.tr hb4⟩
    · have HT := Lib.hid (hr.out.trans (by rw [take_all hlt]))
      clear hr
      go_wp2
      go_ret
      exact ⟨ret_str (HT.out.trans g.out.symm), KW.out.tr hW⟩
end Go.Proofs.Ytpobgjkmjlmafaa
/- OpOk of the program. -/



namespace Go.Proofs.Ytpobgjkmjlmafaa
open Go.RowKit Go.Proofs.YtpobgjkmjlmafaaW.PrintWords
set_option linter.unusedVariables false
set_option linter.unusedSimpArgs false

end Go.Proofs.Ytpobgjkmjlmafaa
/- l71Fits: a change that fits a pool. -/


namespace Go.Proofs.Ytpobgjkmjlmafaa
open Go.RowKit Go.Proofs.YtpobgjkmjlmafaaW.PrintWords Go.Proofs.YtpobgjkmjlmafaaW.PrintLast
set_option linter.unusedVariables false
set_option linter.unusedSimpArgs false

def OpIn (o : Op) : Prop := SmallO o ∧ -100 ≤ o.n ∧ o.n ≤ 100 ∧ 0 ≤ o.kind ∧ o.kind ≤ 100
def opCs (o : Op) : Array Value := #[.int .i64 o.kind, .string o.name, .string o.dest, .int .i64 o.n, .string o.text]
def z5 : Array Value := #[.int .i64 0, .string ⟨#[]⟩, .string ⟨#[]⟩, .int .i64 0, .string ⟨#[]⟩]
theorem OwnP.rd {w w' : World} {base : Nat} {v0 v1 : Value} {p : Pool} {bvs : List Value} (h : OwnP w base v0 v1 p bvs) {rb k : Nat} (hR : Rd w rb k) (hg : w.grownBy w' (some rb)) : OwnP w' base v0 v1 p bvs := by
  obtain ⟨A, c, bs, q, hB, _⟩ := hR.h
  exact h.grown hB (by decide) (by decide) (by decide) hg
structure FitSt (w W : World) (rb k base : Nat) (v0 v1 : Value) (p : Pool) (bvs : List Value) (ob : Nat) (cs : Array Value) : Prop where
  box : Blk W w.heap.size #[v0, v1] 30
  res : Blk W (w.heap.size + 1) z5 74
  op : Blk W ob cs 74
  rd : Rd W rb k
  own : OwnP W base v0 v1 p bvs
  g : w.grownBy W (some rb)
  l2 : w.heap.size + 1 < ob
  l3 : rb < w.heap.size
theorem FitSt.step {w W W' : World} {rb k k' base : Nat} {v0 v1 : Value} {p : Pool} {bvs : List Value} {ob : Nat} {cs : Array Value} (h : FitSt w W rb k base v0 v1 p bvs ob cs) (hR : Rd W' rb k') (hg : W.grownBy W' (some rb)) : FitSt w W' rb k' base v0 v1 p bvs ob cs :=
  ⟨h.box.grown hg (fun e => by injection e with e; have := h.l3; omega), h.res.grown hg (fun e => by injection e with e; have := h.l3; omega), h.op.grown hg (fun e => by injection e with e; have := h.l3; have := h.l2; omega), hR, h.own.rd h.rd hg, grown_tr h.g hg, h.l2, h.l3⟩
theorem FitSt.bel {w W W' : World} {rb k base : Nat} {v0 v1 : Value} {p : Pool} {bvs : List Value} {ob : Nat} {cs : Array Value} (h : FitSt w W rb k base v0 v1 p bvs ob cs) (hb : Bel W W') : FitSt w W' rb k base v0 v1 p bvs ob cs :=
  ⟨h.box.bel hb, h.res.bel hb, h.op.bel hb, h.rd.bel hb, h.own.bel hb, grown_tr h.g (grown_of_bel hb _), h.l2, h.l3⟩
theorem FitSt.set {w W : World} {rb k base : Nat} {v0 v1 : Value} {p : Pool} {bvs : List Value} {ob : Nat} {cs cs' : Array Value} (h : FitSt w W rb k base v0 v1 p bvs ob cs) (i : Nat) (u : Value) (e : cs.setIfInBounds i u = cs') : FitSt w (W.setCell ⟨ob, i, none⟩ u) rb k base v0 v1 p bvs ob cs' :=
  ⟨h.box.apart (by have := h.l2; omega) i u, h.res.apart (by have := h.l2; omega) i u, h.op.set i u e, h.rd.set (by have := h.l2; have := h.l3; omega) i u, h.own.far h.op (by decide) (by decide) (by decide) i u, grown_new h.g (by have := h.l2; omega) i u, h.l2, h.l3⟩
theorem FitSt.more {w W : World} {rb k k' base : Nat} {v0 v1 : Value} {p : Pool} {bvs : List Value} {ob : Nat} {cs : Array Value} (h : FitSt w W rb k base v0 v1 p bvs ob cs) (hk : k ≤ k') : FitSt w W rb k' base v0 v1 p bvs ob cs := ⟨h.box, h.res, h.op, h.rd.more hk, h.own, h.g, h.l2, h.l3⟩
theorem FitSt.fx {w W : World} {rb k base : Nat} {v0 v1 : Value} {p : Pool} {bvs : List Value} {ob : Nat} {o : Op} (h : FitSt w W rb k base v0 v1 p bvs ob (opCs o)) :
    W.cell? ⟨w.heap.size, 0, none⟩ = some v0 ∧ W.cell? ⟨w.heap.size, 1, none⟩ = some v1 ∧ W.cell? ⟨ob, 0, none⟩ = some (.int .i64 o.kind) ∧ W.cell? ⟨ob, 1, none⟩ = some (.string o.name) ∧ W.cell? ⟨ob, 2, none⟩ = some (.string o.dest) ∧ W.cell? ⟨ob, 3, none⟩ = some (.int .i64 o.n) ∧ W.cell? ⟨ob, 4, none⟩ = some (.string o.text) :=
  ⟨by rw [h.box.cell]; rfl, by rw [h.box.cell]; rfl, by rw [h.op.cell]; rfl, by rw [h.op.cell]; rfl, by rw [h.op.cell]; rfl, by rw [h.op.cell]; rfl, by rw [h.op.cell]; rfl⟩
set_option maxHeartbeats 16000000 in
set_option maxRecDepth 10000 in
theorem fits_c {w : World} {rb k base : Nat} {v0 v1 : Value} {p : Pool} {bvs : List Value} (h : Rd w rb k) (hk : k ≤ 1099511400000) (ho : OwnP w base v0 v1 p bvs) (hp : PoolP p) :
    Calls Try.prog 112 #[.pointer (some ⟨rb, 0, none⟩), .agg #[v0, v1]] w (Drawn rb k 200 OpV w) := by
  have H := Lib.hid h
  have hlt := h.lt
  obtain ⟨A0, A1, c0, c1, rfl, rfl, hpi⟩ := ho.reads
  obtain ⟨nv, hnv⟩ : ∃ nv, p.vols.length = nv := ⟨_, rfl⟩
  rw [hnv] at ho ⊢
  have HNV := Lib.hid hnv
  clear hnv
  have HO := Lib.hid ho
  have HP := Lib.hid hp
  have hnv4 : nv ≤ 4 := by rw [← HNV.out]; exact hp.v.len
  clear h ho hp hpi
  go_enter Try.func112, Try.ntmps112
  go_wp2_with fail
  have hbox : Blk ((w.alloc (.cells #[.slice A0 p.slots.length c0, .slice A1 nv c1] 30)).alloc (.cells #[.int .i64 0, .string ⟨#[]⟩, .string ⟨#[]⟩, .int .i64 0, .string ⟨#[]⟩] 74)) w.heap.size #[.slice A0 p.slots.length c0, .slice A1 nv c1] 30 := (Blk.new _ _ _).alloc _
  have hres : Blk ((w.alloc (.cells #[.slice A0 p.slots.length c0, .slice A1 nv c1] 30)).alloc (.cells #[.int .i64 0, .string ⟨#[]⟩, .string ⟨#[]⟩, .int .i64 0, .string ⟨#[]⟩] 74)) (w.heap.size + 1) z5 74 := Blk.nw2 _ _ _ _
  have hW : Bel w ((w.alloc (.cells #[.slice A0 p.slots.length c0, .slice A1 nv c1] 30)).alloc (.cells #[.int .i64 0, .string ⟨#[]⟩, .string ⟨#[]⟩, .int .i64 0, .string ⟨#[]⟩] 74)) := bel_alloc (bel_alloc (Below.refl _ _) _) _
  generalize ((w.alloc (.cells #[.slice A0 p.slots.length c0, .slice A1 nv c1] 30)).alloc (.cells #[.int .i64 0, .string ⟨#[]⟩, .string ⟨#[]⟩, .int .i64 0, .string ⟨#[]⟩] 74)) = W0 at hbox hres hW ⊢
  refine (op_c (H.out.bel hW) (by omega)).mono ?_
  rintro e w1 ⟨v, rfl, ⟨o0, rfl, hoi⟩, hR1, hg1⟩
  have hst : FitSt w (w1.alloc (.cells (opCs o0) 74)) rb (k + 20) base (.slice A0 p.slots.length c0) (.slice A1 nv c1) p bvs w1.heap.size (opCs o0) :=
    ⟨(hbox.grown hg1 (by intro e; injection e with e; omega)).alloc _, (hres.grown hg1 (by intro e; injection e with e; omega)).alloc _, Blk.new _ _ _, hR1.bel (bel_alloc (Below.refl _ _) _), ((HO.out.bel hW).rd (H.out.bel hW) hg1).bel (bel_alloc (Below.refl _ _) _), grown_tr (grown_tr (grown_of_bel hW _) hg1) (grown_of_bel (bel_alloc (Below.refl _ _) _) _), (hres.grown hg1 (by intro e; injection e with e; omega)).lt, hlt⟩
  have HOI := Lib.hid (show OpIn o0 from hoi)
  have HST := Lib.hid hst
  clear hbox hres hW hoi hR1 hg1 hst
  unfold opV
  unfold opCs at HST
  go_wp2_with fail
  generalize w1.alloc (.cells #[.int .i64 o0.kind, .string o0.name, .string o0.dest, .int .i64 o0.n, .string o0.text] 74) = W4 at HST ⊢
  obtain ⟨ob, hob⟩ : ∃ ob, w1.heap.size = ob := ⟨_, rfl⟩
  rw [hob] at HST ⊢
  clear hob
  go_loopg [6] 8 (fun gg v6 W => ∃ (j : Nat) (o : Op), gg + j = 8 ∧ v6 = .int .i64 j ∧ Hid (OpIn o) ∧ Hid (FitSt w W rb (k + 20 + 22 * j) base (.slice A0 p.slots.length c0) (.slice A1 nv c1) p bvs ob (opCs o)))
  case atStart => exact ⟨0, o0, rfl, rfl, HOI.out, HST.out⟩
  case round =>
    clear HST HOI
    obtain ⟨j, o, hj, rfl, hoi, hst⟩ := hrel
    have HOI := hoi
    have HST := hst
    clear hoi hst
    have hnm := HOI.out.1
    by_cases hj8 : j < 8
    · have hcs := HST.out.op
      have c0' := HST.out.op.cell 0
      have c1' := HST.out.op.cell 1
      have c2' := HST.out.op.cell 2
      have c3' := HST.out.op.cell 3
      have c4' := HST.out.op.cell 4
      simp [opCs] at c0' c1' c2' c3' c4'
      clear hcs
      go_wp2_with fail
      refine (specOpOk_c o hnm _).mono ?_
      rintro e w2 ⟨rfl, hb2⟩
      have HS2 := Lib.hid (HST.out.bel hb2)
      clear c0' c1' c2' c3' c4' hb2
      cases hok : opOk o with
      | true =>
        clear hok
        go_wp2
        have BB := Lib.hid (HS2.out.bel (Below.refl _ _).drew)
        have D0 := Lib.hid (show Bel w2.drew w2.drew from Below.refl _ _)
        have hfx := Lib.hid (fun W => fun hb : Bel w2.drew W => (BB.out.bel hb).fx)
        have PI := Lib.hid (show PoolIn w2.drew A0 A1 c0 c1 p by obtain ⟨a0, a1, k0, k1, e0, e1, hh⟩ := BB.out.own.reads; have e0 := slice_eq e0; have e1 := slice_eq e1; obtain ⟨rfl, -, rfl⟩ := e0; obtain ⟨rfl, -, rfl⟩ := e1; exact hh)
        obtain ⟨q, hq⟩ : ∃ q, (opF p o).getD p = q := ⟨_, rfl⟩
        obtain ⟨ok, hokk⟩ : ∃ ok, (opF p o).isSome = ok := ⟨_, rfl⟩
        have hdo := Lib.hid (fun (W : World) (v0 v1 : Value) (bvs : List Value) (h : OwnP W w2.drew.heap.size v0 v1 p bvs) (hb : w2.drew.heap.size ≤ W.heap.size) => l12Do_c (o := o) h HP.out hb hnm)
        unfold TurnsP at hdo
        rw [hq, hokk] at hdo
        have HQ := Lib.hid (And.intro hq hokk)
        clear hq hokk
        obtain ⟨s0, s1, s2, s3, s4, s5, s6⟩ := hfx.out _ D0.out
        have hcp := Lib.hid (fun (W : World) (h : PoolIn W A0 A1 c0 c1 p) => l11Copy_c h HP.out.small)
        rw [HNV.out] at hcp
        refine start_ (n := 10) (S := fun w' => w'.cell? ⟨w.heap.size, 0, none⟩ = some (.slice A0 p.slots.length c0) ∧ w'.cell? ⟨w.heap.size, 1, none⟩ = some (.slice A1 nv c1) ∧ w'.cell? ⟨ob, 0, none⟩ = some (.int .i64 o.kind) ∧ w'.cell? ⟨ob, 1, none⟩ = some (.string o.name) ∧ w'.cell? ⟨ob, 2, none⟩ = some (.string o.dest) ∧ w'.cell? ⟨ob, 3, none⟩ = some (.int .i64 o.n) ∧ w'.cell? ⟨ob, 4, none⟩ = some (.string o.text)) (ds := [8]) #[false, false, false, false, false, false, false, false, false, false] (by kernel_rfl) rfl rfl ⟨s0, s1, s2, s3, s4, s5, s6⟩ (fun hHeld => ?_)
        refine take_ (i := 0) (N := some 18) (v := ?_) (a' := ?_) #[true, false, false, false, false, false, false, false, false, false] rfl rfl (by kernel_rfl) (fun _ _ _ h => h) (Or.inl ⟨by rfl, ?_⟩) hHeld ?_ ?_
        rotate_left
        · rintro w' ⟨s0, s1, s2, s3, s4, s5, s6⟩
          go_simp
          with_reducible rfl
        rotate_left
        · simp only [Act.put, List.setIfInBounds_toArray, List.set_cons_zero, List.set_cons_succ, i64_w, i32_w]
          rfl
        refine take_ (i := 2) (N := some 20) (v := ?_) (a' := ?_) #[true, false, true, false, false, false, false, false, false, false] rfl rfl (by kernel_rfl) (fun _ _ _ h => h) (Or.inl ⟨by rfl, ?_⟩) hHeld ?_ ?_
        rotate_left
        · rintro w' ⟨s0, s1, s2, s3, s4, s5, s6⟩
          go_simp
          with_reducible rfl
        rotate_left
        · simp only [Act.put, List.setIfInBounds_toArray, List.set_cons_zero, List.set_cons_succ, i64_w, i32_w]
          rfl
        refine join_ (σ := Value × Value × Option Addr × Nat × Option Addr × Nat × List Value × Nat) 2 #[true, true, true, true, true, true, true, true, false, false] (fun s => [(19, .agg #[s.1, s.2.1]), (21, .tuple #[.agg #[.slice s.2.2.1 q.slots.length s.2.2.2.1, .slice s.2.2.2.2.1 q.vols.length s.2.2.2.2.2.1], .bool ok]), (17, .tuple #[.agg #[.slice s.2.2.1 q.slots.length s.2.2.2.1, .slice s.2.2.2.2.1 q.vols.length s.2.2.2.2.2.1], .bool ok]), (22, .agg #[.slice s.2.2.1 q.slots.length s.2.2.2.1, .slice s.2.2.2.2.1 q.vols.length s.2.2.2.2.2.1]), (23, .bool ok), (7, .pointer (some ⟨s.2.2.2.2.2.2.2, 0, none⟩))]) (fun s w' => (w'.cell? ⟨w.heap.size, 0, none⟩ = some (.slice A0 p.slots.length c0) ∧ w'.cell? ⟨w.heap.size, 1, none⟩ = some (.slice A1 nv c1) ∧ w'.cell? ⟨ob, 0, none⟩ = some (.int .i64 o.kind) ∧ w'.cell? ⟨ob, 1, none⟩ = some (.string o.name) ∧ w'.cell? ⟨ob, 2, none⟩ = some (.string o.dest) ∧ w'.cell? ⟨ob, 3, none⟩ = some (.int .i64 o.n) ∧ w'.cell? ⟨ob, 4, none⟩ = some (.string o.text)) ∧ OwnP w' w2.drew.heap.size (.slice s.2.2.1 q.slots.length s.2.2.2.1) (.slice s.2.2.2.2.1 q.vols.length s.2.2.2.2.2.1) q s.2.2.2.2.2.2.1 ∧ Blk w' s.2.2.2.2.2.2.2 #[.slice none 0 0, .slice none 0 0] 30 ∧ w2.drew.heap.size ≤ s.2.2.2.2.2.2.2 ∧ Bel w2.drew w') ?_ ?_
        rotate_left
        · intro hCont
          refine two_ (i := 1) (j := 7) (Ni := some 19) (Nj := some 7) #[true, true, true, false, false, false, false, false, false, false] #[true, false, true, false, false, false, false, true, false, false] rfl rfl rfl rfl (by kernel_rfl) (by decide) (by decide) (fun K hK => ?_) (fun K hK => ?_)
          · skip
            refine goes_ Try.func64 (by kernel_rfl) rfl #[.agg #[.slice A0 p.slots.length c0, .slice A1 nv c1]] (by rfl) rfl rfl (by simp only [List.map_toArray, List.map_cons, List.map_nil]; rfl) ?_
            with_reducible refine (hcp.out _ (PI.out.bel D0.out)).mono ?_
            rintro e w1_ ⟨va, vb, bva, rfl, ho, X1⟩
            have D1 := Lib.hid (Bel.tr D0.out X1)
            have P1 : Hid (OwnP w1_ w2.drew.heap.size va vb p bva) := Lib.hid (ho.lower D0.out.size)
            clear ho
            refine ⟨_, rfl, ?_⟩
            refine hK.out _ _ ⟨(hfx.out _ D1.out).1, (hfx.out _ D1.out).2.1, (hfx.out _ D1.out).2.2.1, (hfx.out _ D1.out).2.2.2.1, (hfx.out _ D1.out).2.2.2.2.1, (hfx.out _ D1.out).2.2.2.2.2.1, (hfx.out _ D1.out).2.2.2.2.2.2⟩ (fun hHeld => ?_)
            clear hK K
            refine norm_ (a' := ?_) ?_ ?_
            rotate_left
            · show Act.put _ (some 19) _ = _
              simp only [Act.put, List.setIfInBounds_toArray, List.set_cons_zero, List.set_cons_succ, i64_w, i32_w]
              rfl
            refine two_ (i := 3) (j := 7) (Ni := some 21) (Nj := some 7) #[true, true, true, true, false, false, false, false, false, false] #[true, true, true, false, false, false, false, true, false, false] rfl rfl rfl rfl (by kernel_rfl) (by decide) (by decide) (fun K hK => ?_) (fun K hK => ?_)
            · skip
              refine goes_ Try.func113 (by kernel_rfl) rfl #[.agg #[va, vb], .agg #[.int .i64 o.kind, .string o.name, .string o.dest, .int .i64 o.n, .string o.text]] (by rfl) rfl rfl (by simp only [List.map_toArray, List.map_cons, List.map_nil]; rfl) ?_
              with_reducible refine (hdo.out _ va vb bva P1.out D1.out.size).mono ?_
              rintro e w2_ ⟨vc, vd, bvc, rfl, ho, X2⟩
              have D2 : Hid (Bel w2.drew w2_) := Lib.hid (D1.out.trans X2.b)
              have Q2 := Lib.hid ho
              obtain ⟨A2, A3, k2, k3, rfl, rfl, hpi⟩ := ho.reads
              clear ho hpi
              refine ⟨_, rfl, ?_⟩
              refine hK.out _ _ ⟨(hfx.out _ D2.out).1, (hfx.out _ D2.out).2.1, (hfx.out _ D2.out).2.2.1, (hfx.out _ D2.out).2.2.2.1, (hfx.out _ D2.out).2.2.2.2.1, (hfx.out _ D2.out).2.2.2.2.2.1, (hfx.out _ D2.out).2.2.2.2.2.2⟩ (fun hHeld => ?_)
              clear hK K
              refine norm_ (a' := ?_) ?_ ?_
              rotate_left
              · show Act.put _ (some 21) _ = _
                simp only [Act.put, List.setIfInBounds_toArray, List.set_cons_zero, List.set_cons_succ, i64_w, i32_w]
                rfl
              refine pure_ (i := 4) (N := some 17) (v := ?_) (a' := ?_) #[true, true, true, true, true, false, false, false, false, false] rfl rfl (by kernel_rfl) (fun _ _ _ h => h) (Or.inl ⟨by rfl, ?_⟩) ?_ ?_
              rotate_left
              · intro w'
                go_simp
                with_reducible rfl
              rotate_left
              · simp only [Act.put, List.setIfInBounds_toArray, List.set_cons_zero, List.set_cons_succ, i64_w, i32_w]
                rfl
              refine pure_ (i := 5) (N := some 22) (v := ?_) (a' := ?_) #[true, true, true, true, true, true, false, false, false, false] rfl rfl (by kernel_rfl) (fun _ _ _ h => h) (Or.inl ⟨by rfl, ?_⟩) ?_ ?_
              rotate_left
              · intro w'
                go_simp
                with_reducible rfl
              rotate_left
              · simp only [Act.put, List.setIfInBounds_toArray, List.set_cons_zero, List.set_cons_succ, i64_w, i32_w]
                rfl
              refine pure_ (i := 6) (N := some 23) (v := ?_) (a' := ?_) #[true, true, true, true, true, true, true, false, false, false] rfl rfl (by kernel_rfl) (fun _ _ _ h => h) (Or.inl ⟨by rfl, ?_⟩) ?_ ?_
              rotate_left
              · intro w'
                go_simp
                with_reducible rfl
              rotate_left
              · simp only [Act.put, List.setIfInBounds_toArray, List.set_cons_zero, List.set_cons_succ, i64_w, i32_w]
                rfl
              refine one_ (i := 7) (N := some 7) #[true, true, true, true, true, true, true, true, false, false] rfl rfl (by kernel_rfl) (by decide) (fun K hK => ?_)
              refine value_ (w1 := ?_) (v := ?_) (by rfl) rfl ?_ ?_
              rotate_left 2
              · go_simp
                constructor
                · rfl
                · rfl
              have D3 : Hid (Bel w2.drew (w2_.alloc (.cells #[.slice none 0 0, .slice none 0 0] 30))) := Lib.hid (bel_alloc D2.out (.cells #[.slice none 0 0, .slice none 0 0] 30))
              have Q3 := Lib.hid (OwnP.bel Q2.out (bel_alloc (Below.refl _ _) (.cells #[.slice none 0 0, .slice none 0 0] 30)))
              have O3 : Hid (Blk (w2_.alloc (.cells #[.slice none 0 0, .slice none 0 0] 30)) w2_.heap.size #[.slice none 0 0, .slice none 0 0] 30) := Lib.hid (Blk.new w2_ #[.slice none 0 0, .slice none 0 0] 30)
              have L3 := D2.out.size
              refine hK.out _ _ ⟨(hfx.out _ D3.out).1, (hfx.out _ D3.out).2.1, (hfx.out _ D3.out).2.2.1, (hfx.out _ D3.out).2.2.2.1, (hfx.out _ D3.out).2.2.2.2.1, (hfx.out _ D3.out).2.2.2.2.2.1, (hfx.out _ D3.out).2.2.2.2.2.2⟩ (fun hHeld => ?_)
              clear hK K
              refine norm_ (a' := ?_) ?_ ?_
              rotate_left
              · show Act.put _ (some 7) _ = _
                simp only [Act.put, List.setIfInBounds_toArray, List.set_cons_zero, List.set_cons_succ, i64_w, i32_w]
                rfl
              exact norm_ (by simp only [putAll, Act.put, List.setIfInBounds_toArray, List.set_cons_zero, List.set_cons_succ]) (hCont (va, vb, A2, k2, A3, k3, bvc, w2_.heap.size) _ ⟨hHeld, Q3.out, O3.out, L3, D3.out⟩)
            · skip
              refine value_ (w1 := ?_) (v := ?_) (by rfl) rfl ?_ ?_
              rotate_left 2
              · go_simp
                constructor
                · rfl
                · rfl
              have D2 : Hid (Bel w2.drew (w1_.alloc (.cells #[.slice none 0 0, .slice none 0 0] 30))) := Lib.hid (bel_alloc D1.out (.cells #[.slice none 0 0, .slice none 0 0] 30))
              have P2 := Lib.hid (OwnP.bel P1.out (bel_alloc (Below.refl _ _) (.cells #[.slice none 0 0, .slice none 0 0] 30)))
              have O2 : Hid (Blk (w1_.alloc (.cells #[.slice none 0 0, .slice none 0 0] 30)) w1_.heap.size #[.slice none 0 0, .slice none 0 0] 30) := Lib.hid (Blk.new w1_ #[.slice none 0 0, .slice none 0 0] 30)
              have L2 := D1.out.size
              refine hK.out _ _ ⟨(hfx.out _ D2.out).1, (hfx.out _ D2.out).2.1, (hfx.out _ D2.out).2.2.1, (hfx.out _ D2.out).2.2.2.1, (hfx.out _ D2.out).2.2.2.2.1, (hfx.out _ D2.out).2.2.2.2.2.1, (hfx.out _ D2.out).2.2.2.2.2.2⟩ (fun hHeld => ?_)
              clear hK K
              refine norm_ (a' := ?_) ?_ ?_
              rotate_left
              · show Act.put _ (some 7) _ = _
                simp only [Act.put, List.setIfInBounds_toArray, List.set_cons_zero, List.set_cons_succ, i64_w, i32_w]
                rfl
              refine one_ (i := 3) (N := some 21) #[true, true, true, true, false, false, false, true, false, false] rfl rfl (by kernel_rfl) (by decide) (fun K hK => ?_)
              refine goes_ Try.func113 (by kernel_rfl) rfl #[.agg #[va, vb], .agg #[.int .i64 o.kind, .string o.name, .string o.dest, .int .i64 o.n, .string o.text]] (by rfl) rfl rfl (by simp only [List.map_toArray, List.map_cons, List.map_nil]; rfl) ?_
              with_reducible refine (hdo.out _ va vb bva P2.out D2.out.size).mono ?_
              rintro e w3_ ⟨vc, vd, bvc, rfl, ho, X3⟩
              have D3 : Hid (Bel w2.drew w3_) := Lib.hid (D2.out.trans X3.b)
              have O3 := Lib.hid (X3.k _ _ _ (by decide) (by decide) (by decide) O2.out)
              have Q3 := Lib.hid ho
              obtain ⟨A2, A3, k2, k3, rfl, rfl, hpi⟩ := ho.reads
              clear ho hpi
              refine ⟨_, rfl, ?_⟩
              refine hK.out _ _ ⟨(hfx.out _ D3.out).1, (hfx.out _ D3.out).2.1, (hfx.out _ D3.out).2.2.1, (hfx.out _ D3.out).2.2.2.1, (hfx.out _ D3.out).2.2.2.2.1, (hfx.out _ D3.out).2.2.2.2.2.1, (hfx.out _ D3.out).2.2.2.2.2.2⟩ (fun hHeld => ?_)
              clear hK K
              refine norm_ (a' := ?_) ?_ ?_
              rotate_left
              · show Act.put _ (some 21) _ = _
                simp only [Act.put, List.setIfInBounds_toArray, List.set_cons_zero, List.set_cons_succ, i64_w, i32_w]
                rfl
              refine pure_ (i := 4) (N := some 17) (v := ?_) (a' := ?_) #[true, true, true, true, true, false, false, true, false, false] rfl rfl (by kernel_rfl) (fun _ _ _ h => h) (Or.inl ⟨by rfl, ?_⟩) ?_ ?_
              rotate_left
              · intro w'
                go_simp
                with_reducible rfl
              rotate_left
              · simp only [Act.put, List.setIfInBounds_toArray, List.set_cons_zero, List.set_cons_succ, i64_w, i32_w]
                rfl
              refine pure_ (i := 5) (N := some 22) (v := ?_) (a' := ?_) #[true, true, true, true, true, true, false, true, false, false] rfl rfl (by kernel_rfl) (fun _ _ _ h => h) (Or.inl ⟨by rfl, ?_⟩) ?_ ?_
              rotate_left
              · intro w'
                go_simp
                with_reducible rfl
              rotate_left
              · simp only [Act.put, List.setIfInBounds_toArray, List.set_cons_zero, List.set_cons_succ, i64_w, i32_w]
                rfl
              refine pure_ (i := 6) (N := some 23) (v := ?_) (a' := ?_) #[true, true, true, true, true, true, true, true, false, false] rfl rfl (by kernel_rfl) (fun _ _ _ h => h) (Or.inl ⟨by rfl, ?_⟩) ?_ ?_
              rotate_left
              · intro w'
                go_simp
                with_reducible rfl
              rotate_left
              · simp only [Act.put, List.setIfInBounds_toArray, List.set_cons_zero, List.set_cons_succ, i64_w, i32_w]
                rfl
              exact norm_ (by simp only [putAll, Act.put, List.setIfInBounds_toArray, List.set_cons_zero, List.set_cons_succ]) (hCont (va, vb, A2, k2, A3, k3, bvc, w1_.heap.size) _ ⟨hHeld, Q3.out, O3.out, L2, D3.out⟩)
          · skip
            refine value_ (w1 := ?_) (v := ?_) (by rfl) rfl ?_ ?_
            rotate_left 2
            · go_simp
              constructor
              · rfl
              · rfl
            have D1 : Hid (Bel w2.drew (w2.alloc (.cells #[.slice none 0 0, .slice none 0 0] 30)).drew) := Lib.hid (bel_alloc D0.out (.cells #[.slice none 0 0, .slice none 0 0] 30))
            have O1 : Hid (Blk (w2.alloc (.cells #[.slice none 0 0, .slice none 0 0] 30)).drew w2.drew.heap.size #[.slice none 0 0, .slice none 0 0] 30) := Lib.hid (Blk.new w2.drew #[.slice none 0 0, .slice none 0 0] 30)
            have L1 := D0.out.size
            refine hK.out _ _ ⟨(hfx.out _ D1.out).1, (hfx.out _ D1.out).2.1, (hfx.out _ D1.out).2.2.1, (hfx.out _ D1.out).2.2.2.1, (hfx.out _ D1.out).2.2.2.2.1, (hfx.out _ D1.out).2.2.2.2.2.1, (hfx.out _ D1.out).2.2.2.2.2.2⟩ (fun hHeld => ?_)
            clear hK K
            refine norm_ (a' := ?_) ?_ ?_
            rotate_left
            · show Act.put _ (some 7) _ = _
              simp only [Act.put, List.setIfInBounds_toArray, List.set_cons_zero, List.set_cons_succ, i64_w, i32_w]
              rfl
            refine one_ (i := 1) (N := some 19) #[true, true, true, false, false, false, false, true, false, false] rfl rfl (by kernel_rfl) (by decide) (fun K hK => ?_)
            refine goes_ Try.func64 (by kernel_rfl) rfl #[.agg #[.slice A0 p.slots.length c0, .slice A1 nv c1]] (by rfl) rfl rfl (by simp only [List.map_toArray, List.map_cons, List.map_nil]; rfl) ?_
            with_reducible refine (hcp.out _ (PI.out.bel D1.out)).mono ?_
            rintro e w2_ ⟨va, vb, bva, rfl, ho, X2⟩
            have D2 := Lib.hid (Bel.tr D1.out X2)
            have O2 := Lib.hid (Blk.bel O1.out X2)
            have P2 : Hid (OwnP w2_ w2.drew.heap.size va vb p bva) := Lib.hid (ho.lower D1.out.size)
            clear ho
            refine ⟨_, rfl, ?_⟩
            refine hK.out _ _ ⟨(hfx.out _ D2.out).1, (hfx.out _ D2.out).2.1, (hfx.out _ D2.out).2.2.1, (hfx.out _ D2.out).2.2.2.1, (hfx.out _ D2.out).2.2.2.2.1, (hfx.out _ D2.out).2.2.2.2.2.1, (hfx.out _ D2.out).2.2.2.2.2.2⟩ (fun hHeld => ?_)
            clear hK K
            refine norm_ (a' := ?_) ?_ ?_
            rotate_left
            · show Act.put _ (some 19) _ = _
              simp only [Act.put, List.setIfInBounds_toArray, List.set_cons_zero, List.set_cons_succ, i64_w, i32_w]
              rfl
            refine one_ (i := 3) (N := some 21) #[true, true, true, true, false, false, false, true, false, false] rfl rfl (by kernel_rfl) (by decide) (fun K hK => ?_)
            refine goes_ Try.func113 (by kernel_rfl) rfl #[.agg #[va, vb], .agg #[.int .i64 o.kind, .string o.name, .string o.dest, .int .i64 o.n, .string o.text]] (by rfl) rfl rfl (by simp only [List.map_toArray, List.map_cons, List.map_nil]; rfl) ?_
            with_reducible refine (hdo.out _ va vb bva P2.out D2.out.size).mono ?_
            rintro e w3_ ⟨vc, vd, bvc, rfl, ho, X3⟩
            have D3 : Hid (Bel w2.drew w3_) := Lib.hid (D2.out.trans X3.b)
            have O3 := Lib.hid (X3.k _ _ _ (by decide) (by decide) (by decide) O2.out)
            have Q3 := Lib.hid ho
            obtain ⟨A2, A3, k2, k3, rfl, rfl, hpi⟩ := ho.reads
            clear ho hpi
            refine ⟨_, rfl, ?_⟩
            refine hK.out _ _ ⟨(hfx.out _ D3.out).1, (hfx.out _ D3.out).2.1, (hfx.out _ D3.out).2.2.1, (hfx.out _ D3.out).2.2.2.1, (hfx.out _ D3.out).2.2.2.2.1, (hfx.out _ D3.out).2.2.2.2.2.1, (hfx.out _ D3.out).2.2.2.2.2.2⟩ (fun hHeld => ?_)
            clear hK K
            refine norm_ (a' := ?_) ?_ ?_
            rotate_left
            · show Act.put _ (some 21) _ = _
              simp only [Act.put, List.setIfInBounds_toArray, List.set_cons_zero, List.set_cons_succ, i64_w, i32_w]
              rfl
            refine pure_ (i := 4) (N := some 17) (v := ?_) (a' := ?_) #[true, true, true, true, true, false, false, true, false, false] rfl rfl (by kernel_rfl) (fun _ _ _ h => h) (Or.inl ⟨by rfl, ?_⟩) ?_ ?_
            rotate_left
            · intro w'
              go_simp
              with_reducible rfl
            rotate_left
            · simp only [Act.put, List.setIfInBounds_toArray, List.set_cons_zero, List.set_cons_succ, i64_w, i32_w]
              rfl
            refine pure_ (i := 5) (N := some 22) (v := ?_) (a' := ?_) #[true, true, true, true, true, true, false, true, false, false] rfl rfl (by kernel_rfl) (fun _ _ _ h => h) (Or.inl ⟨by rfl, ?_⟩) ?_ ?_
            rotate_left
            · intro w'
              go_simp
              with_reducible rfl
            rotate_left
            · simp only [Act.put, List.setIfInBounds_toArray, List.set_cons_zero, List.set_cons_succ, i64_w, i32_w]
              rfl
            refine pure_ (i := 6) (N := some 23) (v := ?_) (a' := ?_) #[true, true, true, true, true, true, true, true, false, false] rfl rfl (by kernel_rfl) (fun _ _ _ h => h) (Or.inl ⟨by rfl, ?_⟩) ?_ ?_
            rotate_left
            · intro w'
              go_simp
              with_reducible rfl
            rotate_left
            · simp only [Act.put, List.setIfInBounds_toArray, List.set_cons_zero, List.set_cons_succ, i64_w, i32_w]
              rfl
            exact norm_ (by simp only [putAll, Act.put, List.setIfInBounds_toArray, List.set_cons_zero, List.set_cons_succ]) (hCont (va, vb, A2, k2, A3, k3, bvc, w2.heap.size) _ ⟨hHeld, Q3.out, O3.out, L1, D3.out⟩)
        rintro ⟨va, vb, A2, k2, A3, k3, bvc, nb⟩ w3 ⟨hHeld, hQ, hO, hL, hD⟩
        dsimp only at hQ hO hL
        have r0 := hO.cell 0
        have r1 := hO.cell 1
        have f0 := hO.free 0
        have f1 := hO.free 1
        simp at r0 r1
        refine norm_ (a' := ?_) ?_ ?_
        rotate_left
        · simp only [putAll, Act.put, List.setIfInBounds_toArray, List.set_cons_zero, List.set_cons_succ]
          rfl
        refine last_ (i := 8) (N := none) #[true, true, true, true, true, true, true, true, true, false] rfl rfl (by kernel_rfl) (by decide) (fun K hK => ?_)
        refine skip_ (w1 := ?_) (by rfl) rfl ?_ ?_
        rotate_left
        · go_simp
          rfl
        refine hK.out _ _ ?_
        clear hK K
        refine pure_ (i := 9) (N := some 8) (v := ?_) (a' := ?_) #[true, true, true, true, true, true, true, true, true, true] rfl rfl (by kernel_rfl) (fun _ _ _ h => h) (Or.inl ⟨by rfl, ?_⟩) ?_ ?_
        rotate_left
        · intro w'
          go_simp
          with_reducible rfl
        rotate_left
        · simp only [Act.put, List.setIfInBounds_toArray, List.set_cons_zero, List.set_cons_succ, i64_w, i32_w]
          rfl
        refine done_ (by kernel_rfl) ?_
        have HS8 := Lib.hid (BB.out.bel (bel_set (bel_set hD hL 0 (.slice A2 q.slots.length k2)) hL 1 (.slice A3 q.vols.length k3)))
        clear hQ hO hL hD f0 f1 r0 r1 hHeld s0 s1 s2 s3 s4 s5 s6 hcp hdo hfx D0 PI BB HQ
        generalize ((w3.setCell ⟨nb, 0, none⟩ (.slice A2 q.slots.length k2)).setCell ⟨nb, 1, none⟩ (.slice A3 q.vols.length k3)) = W8 at HS8 ⊢
        cases ok with
        | true =>
          have hsf := HS8.out
          have x0 := hsf.res.cell 0
          have x1 := hsf.res.cell 1
          have x2 := hsf.res.cell 2
          have x3 := hsf.res.cell 3
          have x4 := hsf.res.cell 4
          have f0 := hsf.res.free 0
          have f1 := hsf.res.free 1
          have f2 := hsf.res.free 2
          have f3 := hsf.res.free 3
          have f4 := hsf.res.free 4
          have y0 := hsf.op.cell 0
          have y1 := hsf.op.cell 1
          have y2 := hsf.op.cell 2
          have y3 := hsf.op.cell 3
          have y4 := hsf.op.cell 4
          have zr := hsf.res.lt
          have hne5 := hsf.l2
          simp [opCs, z5] at x0 x1 x2 x3 x4 y0 y1 y2 y3 y4
          clear hsf
          go_wp2
          have hsf := HS8.out
          have hl4 : rb < w.heap.size + 1 := by omega
          have hf := (((((hsf.res.set 0 (.int .i64 o.kind) (cs' := #[.int .i64 o.kind, .string ⟨#[]⟩, .string ⟨#[]⟩, .int .i64 0, .string ⟨#[]⟩]) rfl).set 1 (.string o.name) (cs' := #[.int .i64 o.kind, .string o.name, .string ⟨#[]⟩, .int .i64 0, .string ⟨#[]⟩]) rfl).set 2 (.string o.dest) (cs' := #[.int .i64 o.kind, .string o.name, .string o.dest, .int .i64 0, .string ⟨#[]⟩]) rfl).set 3 (.int .i64 o.n) (cs' := #[.int .i64 o.kind, .string o.name, .string o.dest, .int .i64 o.n, .string ⟨#[]⟩]) rfl).set 4 (.string o.text) (cs' := #[.int .i64 o.kind, .string o.name, .string o.dest, .int .i64 o.n, .string o.text]) rfl)
          have hgf := (grown_new (grown_new (grown_new (grown_new (grown_new hsf.g (Nat.le_succ w.heap.size) 0 (.int .i64 o.kind)) (Nat.le_succ w.heap.size) 1 (.string o.name)) (Nat.le_succ w.heap.size) 2 (.string o.dest)) (Nat.le_succ w.heap.size) 3 (.int .i64 o.n)) (Nat.le_succ w.heap.size) 4 (.string o.text))
          have hrf := (((((hsf.rd.set (b := w.heap.size + 1) hl4 0 (.int .i64 o.kind)).set (b := w.heap.size + 1) hl4 1 (.string o.name)).set (b := w.heap.size + 1) hl4 2 (.string o.dest)).set (b := w.heap.size + 1) hl4 3 (.int .i64 o.n)).set (b := w.heap.size + 1) hl4 4 (.string o.text))
          refine bodyPost_ret (results_cell_row rfl _ _ (w.heap.size + 1) 74 (opCs o) (0, 0) _ rfl hf Try.underlying74 rfl (by kernel_rfl)) rfl ?_
          exact ⟨_, rfl, ⟨o, rfl, HOI.out⟩, hrf.more (by omega), hgf⟩
        | false =>
          go_wp2_with fail
          refine (op_c HS8.out.rd (by omega)).mono ?_
          rintro e w5 ⟨v, rfl, ⟨o2, rfl, ho2⟩, hR5, hg5⟩
          have HOJ := Lib.hid (show OpIn o2 from ho2)
          have hs5 := HS8.out.step hR5 hg5
          clear ho2 hR5 hg5
          unfold opV
          have hz5 := hs5.op.lt
          have cz0 := hs5.op.cell 0
          have cz1 := hs5.op.cell 1
          have cz2 := hs5.op.cell 2
          have cz3 := hs5.op.cell 3
          have cz4 := hs5.op.cell 4
          have fz0 := hs5.op.free 0
          have fz1 := hs5.op.free 1
          have fz2 := hs5.op.free 2
          have fz3 := hs5.op.free 3
          have fz4 := hs5.op.free 4
          have bz0 := hs5.box.cell 0
          have bz1 := hs5.box.cell 1
          simp [opCs] at cz0 cz1 cz2 cz3 cz4 bz0 bz1
          unfold opCs at hs5
          have hs6 := (((((hs5.set 0 (.int .i64 o2.kind) (cs' := #[.int .i64 o2.kind, .string o.name, .string o.dest, .int .i64 o.n, .string o.text]) rfl).set 1 (.string o2.name) (cs' := #[.int .i64 o2.kind, .string o2.name, .string o.dest, .int .i64 o.n, .string o.text]) rfl).set 2 (.string o2.dest) (cs' := #[.int .i64 o2.kind, .string o2.name, .string o2.dest, .int .i64 o.n, .string o.text]) rfl).set 3 (.int .i64 o2.n) (cs' := #[.int .i64 o2.kind, .string o2.name, .string o2.dest, .int .i64 o2.n, .string o.text]) rfl).set 4 (.string o2.text) (cs' := #[.int .i64 o2.kind, .string o2.name, .string o2.dest, .int .i64 o2.n, .string o2.text]) rfl)
          clear hs5
          have hne7 := hs6.l2
          by_cases hv0 : nv = 0
          · subst hv0
            have HS6 := Lib.hid hs6
            clear hs6
            go_wp2
            go_roundg (8 - (j + 1))
            case measure => omega
            case rel => exact ⟨j + 1, o2, by omega, int_eq (by omega), HOJ.out, HS6.out.more (by omega)⟩
          have hv1 : 0 < nv := by omega
          have HS6 := Lib.hid hs6
          clear hs6
          go_wp2_with fail
          clear cz0 cz1 cz2 cz3 cz4 fz0 fz1 fz2 fz3 fz4 bz0 bz1 hz5
          generalize (((((w5.setCell ⟨ob, 0, none⟩ (.int .i64 o2.kind)).setCell ⟨ob, 1, none⟩ (.string o2.name)).setCell ⟨ob, 2, none⟩ (.string o2.dest)).setCell ⟨ob, 3, none⟩ (.int .i64 o2.n)).setCell ⟨ob, 4, none⟩ (.string o2.text)) = W6 at HS6 ⊢
          refine (pick_c HS6.out.rd (by omega) 3 (by omega)).mono ?_
          rintro e w7 ⟨v, rfl, ⟨r, rfl, hr0, hr1, -⟩, hR7, hg7⟩
          have hr2 := hr1 (by omega)
          have HS7 := Lib.hid (HS6.out.step hR7 hg7)
          clear hR7 hg7 hr1 HS6
          by_cases hr : r = 0
          · subst hr
            go_wp2
            go_roundg (8 - (j + 1))
            case measure => omega
            case rel => exact ⟨j + 1, o2, by omega, int_eq (by omega), HOJ.out, HS7.out.more (by omega)⟩
          have hr3 : 0 < r := by omega
          go_wp2
          have hs7 := HS7.out
          have bz0 := hs7.box.cell 0
          have bz1 := hs7.box.cell 1
          simp at bz0 bz1
          have hzo := hs7.op.lt
          clear hs7
          have HS8 := Lib.hid (HS7.out.bel (Below.refl _ _).drew)
          refine start_ (n := 12) (S := fun w' => w'.cell? ⟨w.heap.size, 1, none⟩ = some (.slice A1 nv c1)) (ds := [11]) #[false, false, false, false, false, false, false, false, false, false, false, false] (by kernel_rfl) rfl rfl (bz1) (fun hHeld => ?_)
          refine pure_ (i := 0) (N := some 37) (v := ?_) (a' := ?_) #[true, false, false, false, false, false, false, false, false, false, false, false] rfl rfl (by kernel_rfl) (fun _ _ _ h => h) (Or.inl ⟨by rfl, ?_⟩) ?_ ?_
          rotate_left
          · intro w'
            go_simp
            with_reducible rfl
          rotate_left
          · simp only [Act.put, List.setIfInBounds_toArray, List.set_cons_zero, List.set_cons_succ, i64_w, i32_w]
            rfl
          refine pure_ (i := 2) (N := some 39) (v := ?_) (a' := ?_) #[true, false, true, false, false, false, false, false, false, false, false, false] rfl rfl (by kernel_rfl) (fun _ _ _ h => h) (Or.inl ⟨by rfl, ?_⟩) ?_ ?_
          rotate_left
          · intro w'
            go_simp
            with_reducible rfl
          rotate_left
          · simp only [Act.put, List.setIfInBounds_toArray, List.set_cons_zero, List.set_cons_succ, i64_w, i32_w]
            rfl
          refine pure_ (i := 3) (N := some 40) (v := ?_) (a' := ?_) #[true, false, true, true, false, false, false, false, false, false, false, false] rfl rfl (by kernel_rfl) (fun _ _ _ h => h) (Or.inl ⟨by rfl, ?_⟩) ?_ ?_
          rotate_left
          · intro w'
            go_simp
            with_reducible rfl
          rotate_left
          · simp only [Act.put, List.setIfInBounds_toArray, List.set_cons_zero, List.set_cons_succ, i64_w, i32_w]
            rfl
          refine take_ (i := 1) (N := some 38) (v := ?_) (a' := ?_) #[true, true, true, true, false, false, false, false, false, false, false, false] rfl rfl (by kernel_rfl) (fun _ _ _ h => h) (Or.inl ⟨by rfl, ?_⟩) hHeld ?_ ?_
          rotate_left
          · intro w' s0
            go_simp
            with_reducible rfl
          rotate_left
          · simp only [Act.put, List.setIfInBounds_toArray, List.set_cons_zero, List.set_cons_succ, i64_w, i32_w]
            rfl
          refine take_ (i := 4) (N := some 41) (v := ?_) (a' := ?_) #[true, true, true, true, true, false, false, false, false, false, false, false] rfl rfl (by kernel_rfl) (fun _ _ _ h => h) (Or.inl ⟨by rfl, ?_⟩) hHeld ?_ ?_
          rotate_left
          · intro w' s0
            go_simp
            with_reducible rfl
          rotate_left
          · simp only [Act.put, List.setIfInBounds_toArray, List.set_cons_zero, List.set_cons_succ, i64_w, i32_w]
            rfl
          refine pure_ (i := 5) (N := some 42) (v := ?_) (a' := ?_) #[true, true, true, true, true, true, false, false, false, false, false, false] rfl rfl (by kernel_rfl) (fun _ _ _ h => h) (Or.inl ⟨by rfl, ?_⟩) ?_ ?_
          rotate_left
          · intro w'
            go_simp
            with_reducible rfl
          rotate_left
          · simp only [Act.put, List.setIfInBounds_toArray, List.set_cons_zero, List.set_cons_succ, i64_w, i32_w]
            rfl
          refine one_ (i := 6) (N := some 43) #[true, true, true, true, true, true, true, false, false, false, false, false] rfl rfl (by kernel_rfl) (by decide) (fun K hK => ?_)
          refine goes_ Try.func96 (by kernel_rfl) rfl #[.pointer (some ⟨rb, 0, none⟩), .int .i64 nv] (by rfl) rfl rfl (by simp only [List.map_toArray, List.map_cons, List.map_nil]; rfl) ?_
          with_reducible refine (pick_c (w := w7.drew) HS8.out.rd (by omega) nv (by omega)).mono ?_
          rintro e w8 ⟨v, rfl, ⟨r2, rfl, hr20, hr21, -⟩, hR8, hg8⟩
          have hr22 := hr21 (by omega)
          obtain ⟨i, rfl⟩ : ∃ i : Nat, r2 = i := ⟨r2.toNat, by omega⟩
          have hi : i < nv := by omega
          obtain ⟨x, hx⟩ := getQ (show i < p.vols.length by rw [HNV.out]; exact hi)
          have hs8 := HS8.out.step hR8 hg8
          obtain ⟨g, cap, bv, hbv, ev, hg1, hg2, hcap, hc, hc', hf, hf'⟩ := hs8.own.v.row.at hx
          have ev2 := slice_eq ev
          clear ev hcap
          obtain ⟨rfl, -, rfl⟩ := ev2
          have by1 := hs8.box.cell 1
          have hop1 := hs8.op.cell 1
          have hfo1 := hs8.op.free 1
          have hzo8 := hs8.op.lt
          simp [opCs] at by1 hop1
          have HS9 := Lib.hid hs8
          have HX := Lib.hid hx
          clear hs8 hR8 hg8 hr21 hbv hc' hf hf' hx
          refine ⟨_, rfl, ?_⟩
          refine hK.out _ _ (by1) (fun hHeld => ?_)
          clear hK K
          refine norm_ (a' := ?_) ?_ ?_
          rotate_left
          · show Act.put _ (some 43) _ = _
            simp only [Act.put, List.setIfInBounds_toArray, List.set_cons_zero, List.set_cons_succ, i64_w, i32_w]
            rfl
          refine pure_ (i := 7) (N := some 44) (v := ?_) (a' := ?_) #[true, true, true, true, true, true, true, true, false, false, false, false] rfl rfl (by kernel_rfl) (fun _ _ _ h => h) (Or.inl ⟨by rfl, ?_⟩) ?_ ?_
          rotate_left
          · intro w'
            go_simp
            with_reducible rfl
          rotate_left
          · simp only [Act.put, List.setIfInBounds_toArray, List.set_cons_zero, List.set_cons_succ, i64_w, i32_w]
            rfl
          refine pure_ (i := 8) (N := some 45) (v := ?_) (a' := ?_) #[true, true, true, true, true, true, true, true, true, false, false, false] rfl rfl (by kernel_rfl) (fun _ _ _ h => h) (Or.inl ⟨by rfl, ?_⟩) ?_ ?_
          rotate_left
          · intro w'
            go_simp
            with_reducible rfl
          rotate_left
          · simp only [Act.put, List.setIfInBounds_toArray, List.set_cons_zero, List.set_cons_succ, i64_w, i32_w]
            rfl
          refine one_ (i := 9) (N := some 46) #[true, true, true, true, true, true, true, true, true, true, false, false] rfl rfl (by kernel_rfl) (by decide) (fun K hK => ?_)
          refine value_ (w1 := ?_) (v := ?_) (by rfl) rfl ?_ ?_
          rotate_left 2
          · go_simp
            constructor
            · rfl
            · rfl
          refine hK.out _ _ (by1) (fun hHeld => ?_)
          clear hK K
          refine norm_ (a' := ?_) ?_ ?_
          rotate_left
          · show Act.put _ (some 46) _ = _
            simp only [Act.put, List.setIfInBounds_toArray, List.set_cons_zero, List.set_cons_succ, i64_w, i32_w]
            rfl
          refine pure_ (i := 10) (N := some 47) (v := ?_) (a' := ?_) #[true, true, true, true, true, true, true, true, true, true, true, false] rfl rfl (by kernel_rfl) (fun _ _ _ h => h) (Or.inl ⟨by rfl, ?_⟩) ?_ ?_
          rotate_left
          · intro w'
            go_simp
            with_reducible rfl
          rotate_left
          · simp only [Act.put, List.setIfInBounds_toArray, List.set_cons_zero, List.set_cons_succ, i64_w, i32_w]
            rfl
          refine last_ (i := 11) (N := none) #[true, true, true, true, true, true, true, true, true, true, true, true] rfl rfl (by kernel_rfl) (by decide) (fun K hK => ?_)
          refine skip_ (w1 := ?_) (by rfl) rfl ?_ ?_
          rotate_left
          · go_simp
            rfl
          refine hK.out _ _ ?_
          clear hK K
          refine done_ (by kernel_rfl) ?_
          have hs9 := HS9.out
          unfold opCs at hs9
          have hs10 := hs9.set 1 (.string x.name) (cs' := #[.int .i64 o2.kind, .string x.name, .string o2.dest, .int .i64 o2.n, .string o2.text]) rfl
          have HS10 := Lib.hid hs10
          clear hs9 hs10 hHeld bz1 by1 hop1 hc bz0
          have HOK := Lib.hid (show OpIn ⟨o2.kind, x.name, o2.dest, o2.n, o2.text⟩ from ⟨⟨HP.out.small.vols.name x (List.mem_of_getElem? HX.out), HOJ.out.1.dest, HOJ.out.1.text⟩, HOJ.out.2⟩)
          go_wp2
          go_roundg (8 - (j + 1))
          case measure => omega
          case rel => exact ⟨j + 1, ⟨o2.kind, x.name, o2.dest, o2.n, o2.text⟩, by omega, int_eq (by omega), HOK.out, HS10.out.more (by omega)⟩
      | false =>
        go_wp2_with fail
        refine (op_c HS2.out.rd (by omega)).mono ?_
        rintro e w5 ⟨v, rfl, ⟨o2, rfl, ho2⟩, hR5, hg5⟩
        have HOJ := Lib.hid (show OpIn o2 from ho2)
        have hs5 := HS2.out.step hR5 hg5
        clear ho2 hR5 hg5
        unfold opV
        have hz5 := hs5.op.lt
        have cz0 := hs5.op.cell 0
        have cz1 := hs5.op.cell 1
        have cz2 := hs5.op.cell 2
        have cz3 := hs5.op.cell 3
        have cz4 := hs5.op.cell 4
        have fz0 := hs5.op.free 0
        have fz1 := hs5.op.free 1
        have fz2 := hs5.op.free 2
        have fz3 := hs5.op.free 3
        have fz4 := hs5.op.free 4
        have bz0 := hs5.box.cell 0
        have bz1 := hs5.box.cell 1
        simp [opCs] at cz0 cz1 cz2 cz3 cz4 bz0 bz1
        unfold opCs at hs5
        have hs6 := (((((hs5.set 0 (.int .i64 o2.kind) (cs' := #[.int .i64 o2.kind, .string o.name, .string o.dest, .int .i64 o.n, .string o.text]) rfl).set 1 (.string o2.name) (cs' := #[.int .i64 o2.kind, .string o2.name, .string o.dest, .int .i64 o.n, .string o.text]) rfl).set 2 (.string o2.dest) (cs' := #[.int .i64 o2.kind, .string o2.name, .string o2.dest, .int .i64 o.n, .string o.text]) rfl).set 3 (.int .i64 o2.n) (cs' := #[.int .i64 o2.kind, .string o2.name, .string o2.dest, .int .i64 o2.n, .string o.text]) rfl).set 4 (.string o2.text) (cs' := #[.int .i64 o2.kind, .string o2.name, .string o2.dest, .int .i64 o2.n, .string o2.text]) rfl)
        clear hs5
        have hne7 := hs6.l2
        by_cases hv0 : nv = 0
        · subst hv0
          have HS6 := Lib.hid hs6
          clear hs6
          go_wp2
          go_roundg (8 - (j + 1))
          case measure => omega
          case rel => exact ⟨j + 1, o2, by omega, int_eq (by omega), HOJ.out, HS6.out.more (by omega)⟩
        have hv1 : 0 < nv := by omega
        have HS6 := Lib.hid hs6
        clear hs6
        go_wp2_with fail
        clear cz0 cz1 cz2 cz3 cz4 fz0 fz1 fz2 fz3 fz4 bz0 bz1 hz5
        generalize (((((w5.setCell ⟨ob, 0, none⟩ (.int .i64 o2.kind)).setCell ⟨ob, 1, none⟩ (.string o2.name)).setCell ⟨ob, 2, none⟩ (.string o2.dest)).setCell ⟨ob, 3, none⟩ (.int .i64 o2.n)).setCell ⟨ob, 4, none⟩ (.string o2.text)) = W6 at HS6 ⊢
        refine (pick_c HS6.out.rd (by omega) 3 (by omega)).mono ?_
        rintro e w7 ⟨v, rfl, ⟨r, rfl, hr0, hr1, -⟩, hR7, hg7⟩
        have hr2 := hr1 (by omega)
        have HS7 := Lib.hid (HS6.out.step hR7 hg7)
        clear hR7 hg7 hr1 HS6
        by_cases hr : r = 0
        · subst hr
          go_wp2
          go_roundg (8 - (j + 1))
          case measure => omega
          case rel => exact ⟨j + 1, o2, by omega, int_eq (by omega), HOJ.out, HS7.out.more (by omega)⟩
        have hr3 : 0 < r := by omega
        go_wp2
        have hs7 := HS7.out
        have bz0 := hs7.box.cell 0
        have bz1 := hs7.box.cell 1
        simp at bz0 bz1
        have hzo := hs7.op.lt
        clear hs7
        have HS8 := Lib.hid (HS7.out.bel (Below.refl _ _).drew)
        refine start_ (n := 12) (S := fun w' => w'.cell? ⟨w.heap.size, 1, none⟩ = some (.slice A1 nv c1)) (ds := [11]) #[false, false, false, false, false, false, false, false, false, false, false, false] (by kernel_rfl) rfl rfl (bz1) (fun hHeld => ?_)
        refine pure_ (i := 0) (N := some 37) (v := ?_) (a' := ?_) #[true, false, false, false, false, false, false, false, false, false, false, false] rfl rfl (by kernel_rfl) (fun _ _ _ h => h) (Or.inl ⟨by rfl, ?_⟩) ?_ ?_
        rotate_left
        · intro w'
          go_simp
          with_reducible rfl
        rotate_left
        · simp only [Act.put, List.setIfInBounds_toArray, List.set_cons_zero, List.set_cons_succ, i64_w, i32_w]
          rfl
        refine pure_ (i := 2) (N := some 39) (v := ?_) (a' := ?_) #[true, false, true, false, false, false, false, false, false, false, false, false] rfl rfl (by kernel_rfl) (fun _ _ _ h => h) (Or.inl ⟨by rfl, ?_⟩) ?_ ?_
        rotate_left
        · intro w'
          go_simp
          with_reducible rfl
        rotate_left
        · simp only [Act.put, List.setIfInBounds_toArray, List.set_cons_zero, List.set_cons_succ, i64_w, i32_w]
          rfl
        refine pure_ (i := 3) (N := some 40) (v := ?_) (a' := ?_) #[true, false, true, true, false, false, false, false, false, false, false, false] rfl rfl (by kernel_rfl) (fun _ _ _ h => h) (Or.inl ⟨by rfl, ?_⟩) ?_ ?_
        rotate_left
        · intro w'
          go_simp
          with_reducible rfl
        rotate_left
        · simp only [Act.put, List.setIfInBounds_toArray, List.set_cons_zero, List.set_cons_succ, i64_w, i32_w]
          rfl
        refine take_ (i := 1) (N := some 38) (v := ?_) (a' := ?_) #[true, true, true, true, false, false, false, false, false, false, false, false] rfl rfl (by kernel_rfl) (fun _ _ _ h => h) (Or.inl ⟨by rfl, ?_⟩) hHeld ?_ ?_
        rotate_left
        · intro w' s0
          go_simp
          with_reducible rfl
        rotate_left
        · simp only [Act.put, List.setIfInBounds_toArray, List.set_cons_zero, List.set_cons_succ, i64_w, i32_w]
          rfl
        refine take_ (i := 4) (N := some 41) (v := ?_) (a' := ?_) #[true, true, true, true, true, false, false, false, false, false, false, false] rfl rfl (by kernel_rfl) (fun _ _ _ h => h) (Or.inl ⟨by rfl, ?_⟩) hHeld ?_ ?_
        rotate_left
        · intro w' s0
          go_simp
          with_reducible rfl
        rotate_left
        · simp only [Act.put, List.setIfInBounds_toArray, List.set_cons_zero, List.set_cons_succ, i64_w, i32_w]
          rfl
        refine pure_ (i := 5) (N := some 42) (v := ?_) (a' := ?_) #[true, true, true, true, true, true, false, false, false, false, false, false] rfl rfl (by kernel_rfl) (fun _ _ _ h => h) (Or.inl ⟨by rfl, ?_⟩) ?_ ?_
        rotate_left
        · intro w'
          go_simp
          with_reducible rfl
        rotate_left
        · simp only [Act.put, List.setIfInBounds_toArray, List.set_cons_zero, List.set_cons_succ, i64_w, i32_w]
          rfl
        refine one_ (i := 6) (N := some 43) #[true, true, true, true, true, true, true, false, false, false, false, false] rfl rfl (by kernel_rfl) (by decide) (fun K hK => ?_)
        refine goes_ Try.func96 (by kernel_rfl) rfl #[.pointer (some ⟨rb, 0, none⟩), .int .i64 nv] (by rfl) rfl rfl (by simp only [List.map_toArray, List.map_cons, List.map_nil]; rfl) ?_
        with_reducible refine (pick_c (w := w7.drew) HS8.out.rd (by omega) nv (by omega)).mono ?_
        rintro e w8 ⟨v, rfl, ⟨r2, rfl, hr20, hr21, -⟩, hR8, hg8⟩
        have hr22 := hr21 (by omega)
        obtain ⟨i, rfl⟩ : ∃ i : Nat, r2 = i := ⟨r2.toNat, by omega⟩
        have hi : i < nv := by omega
        obtain ⟨x, hx⟩ := getQ (show i < p.vols.length by rw [HNV.out]; exact hi)
        have hs8 := HS8.out.step hR8 hg8
        obtain ⟨g, cap, bv, hbv, ev, hg1, hg2, hcap, hc, hc', hf, hf'⟩ := hs8.own.v.row.at hx
        have ev2 := slice_eq ev
        clear ev hcap
        obtain ⟨rfl, -, rfl⟩ := ev2
        have by1 := hs8.box.cell 1
        have hop1 := hs8.op.cell 1
        have hfo1 := hs8.op.free 1
        have hzo8 := hs8.op.lt
        simp [opCs] at by1 hop1
        have HS9 := Lib.hid hs8
        have HX := Lib.hid hx
        clear hs8 hR8 hg8 hr21 hbv hc' hf hf' hx
        refine ⟨_, rfl, ?_⟩
        refine hK.out _ _ (by1) (fun hHeld => ?_)
        clear hK K
        refine norm_ (a' := ?_) ?_ ?_
        rotate_left
        · show Act.put _ (some 43) _ = _
          simp only [Act.put, List.setIfInBounds_toArray, List.set_cons_zero, List.set_cons_succ, i64_w, i32_w]
          rfl
        refine pure_ (i := 7) (N := some 44) (v := ?_) (a' := ?_) #[true, true, true, true, true, true, true, true, false, false, false, false] rfl rfl (by kernel_rfl) (fun _ _ _ h => h) (Or.inl ⟨by rfl, ?_⟩) ?_ ?_
        rotate_left
        · intro w'
          go_simp
          with_reducible rfl
        rotate_left
        · simp only [Act.put, List.setIfInBounds_toArray, List.set_cons_zero, List.set_cons_succ, i64_w, i32_w]
          rfl
        refine pure_ (i := 8) (N := some 45) (v := ?_) (a' := ?_) #[true, true, true, true, true, true, true, true, true, false, false, false] rfl rfl (by kernel_rfl) (fun _ _ _ h => h) (Or.inl ⟨by rfl, ?_⟩) ?_ ?_
        rotate_left
        · intro w'
          go_simp
          with_reducible rfl
        rotate_left
        · simp only [Act.put, List.setIfInBounds_toArray, List.set_cons_zero, List.set_cons_succ, i64_w, i32_w]
          rfl
        refine one_ (i := 9) (N := some 46) #[true, true, true, true, true, true, true, true, true, true, false, false] rfl rfl (by kernel_rfl) (by decide) (fun K hK => ?_)
        refine value_ (w1 := ?_) (v := ?_) (by rfl) rfl ?_ ?_
        rotate_left 2
        · go_simp
          constructor
          · rfl
          · rfl
        refine hK.out _ _ (by1) (fun hHeld => ?_)
        clear hK K
        refine norm_ (a' := ?_) ?_ ?_
        rotate_left
        · show Act.put _ (some 46) _ = _
          simp only [Act.put, List.setIfInBounds_toArray, List.set_cons_zero, List.set_cons_succ, i64_w, i32_w]
          rfl
        refine pure_ (i := 10) (N := some 47) (v := ?_) (a' := ?_) #[true, true, true, true, true, true, true, true, true, true, true, false] rfl rfl (by kernel_rfl) (fun _ _ _ h => h) (Or.inl ⟨by rfl, ?_⟩) ?_ ?_
        rotate_left
        · intro w'
          go_simp
          with_reducible rfl
        rotate_left
        · simp only [Act.put, List.setIfInBounds_toArray, List.set_cons_zero, List.set_cons_succ, i64_w, i32_w]
          rfl
        refine last_ (i := 11) (N := none) #[true, true, true, true, true, true, true, true, true, true, true, true] rfl rfl (by kernel_rfl) (by decide) (fun K hK => ?_)
        refine skip_ (w1 := ?_) (by rfl) rfl ?_ ?_
        rotate_left
        · go_simp
          rfl
        refine hK.out _ _ ?_
        clear hK K
        refine done_ (by kernel_rfl) ?_
        have hs9 := HS9.out
        unfold opCs at hs9
        have hs10 := hs9.set 1 (.string x.name) (cs' := #[.int .i64 o2.kind, .string x.name, .string o2.dest, .int .i64 o2.n, .string o2.text]) rfl
        have HS10 := Lib.hid hs10
        clear hs9 hs10 hHeld bz1 by1 hop1 hc bz0
        have HOK := Lib.hid (show OpIn ⟨o2.kind, x.name, o2.dest, o2.n, o2.text⟩ from ⟨⟨HP.out.small.vols.name x (List.mem_of_getElem? HX.out), HOJ.out.1.dest, HOJ.out.1.text⟩, HOJ.out.2⟩)
        go_wp2
        go_roundg (8 - (j + 1))
        case measure => omega
        case rel => exact ⟨j + 1, ⟨o2.kind, x.name, o2.dest, o2.n, o2.text⟩, by omega, int_eq (by omega), HOK.out, HS10.out.more (by omega)⟩
    · have hj9 : j = 8 := by omega
      have hsf := HST.out
      have x0 := hsf.res.cell 0
      have x1 := hsf.res.cell 1
      have x2 := hsf.res.cell 2
      have x3 := hsf.res.cell 3
      have x4 := hsf.res.cell 4
      have f0 := hsf.res.free 0
      have f1 := hsf.res.free 1
      have f2 := hsf.res.free 2
      have f3 := hsf.res.free 3
      have f4 := hsf.res.free 4
      have y0 := hsf.op.cell 0
      have y1 := hsf.op.cell 1
      have y2 := hsf.op.cell 2
      have y3 := hsf.op.cell 3
      have y4 := hsf.op.cell 4
      have zr := hsf.res.lt
      have hne5 := hsf.l2
      simp [opCs, z5] at x0 x1 x2 x3 x4 y0 y1 y2 y3 y4
      clear hsf
      go_wp2
      have hsf := HST.out
      have hl4 : rb < w.heap.size + 1 := by omega
      have hf := (((((hsf.res.set 0 (.int .i64 o.kind) (cs' := #[.int .i64 o.kind, .string ⟨#[]⟩, .string ⟨#[]⟩, .int .i64 0, .string ⟨#[]⟩]) rfl).set 1 (.string o.name) (cs' := #[.int .i64 o.kind, .string o.name, .string ⟨#[]⟩, .int .i64 0, .string ⟨#[]⟩]) rfl).set 2 (.string o.dest) (cs' := #[.int .i64 o.kind, .string o.name, .string o.dest, .int .i64 0, .string ⟨#[]⟩]) rfl).set 3 (.int .i64 o.n) (cs' := #[.int .i64 o.kind, .string o.name, .string o.dest, .int .i64 o.n, .string ⟨#[]⟩]) rfl).set 4 (.string o.text) (cs' := #[.int .i64 o.kind, .string o.name, .string o.dest, .int .i64 o.n, .string o.text]) rfl)
      have hgf := (grown_new (grown_new (grown_new (grown_new (grown_new hsf.g (Nat.le_succ w.heap.size) 0 (.int .i64 o.kind)) (Nat.le_succ w.heap.size) 1 (.string o.name)) (Nat.le_succ w.heap.size) 2 (.string o.dest)) (Nat.le_succ w.heap.size) 3 (.int .i64 o.n)) (Nat.le_succ w.heap.size) 4 (.string o.text))
      have hrf := (((((hsf.rd.set (b := w.heap.size + 1) hl4 0 (.int .i64 o.kind)).set (b := w.heap.size + 1) hl4 1 (.string o.name)).set (b := w.heap.size + 1) hl4 2 (.string o.dest)).set (b := w.heap.size + 1) hl4 3 (.int .i64 o.n)).set (b := w.heap.size + 1) hl4 4 (.string o.text))
      refine bodyPost_ret (results_cell_row rfl _ _ (w.heap.size + 1) 74 (opCs o) (0, 0) _ rfl hf Try.underlying74 rfl (by kernel_rfl)) rfl ?_
      exact ⟨_, rfl, ⟨o, rfl, HOI.out⟩, hrf.more (by omega), hgf⟩
end Go.Proofs.Ytpobgjkmjlmafaa
/- l71Ops: a pool made by drawn changes. -/


namespace Go.Proofs.Ytpobgjkmjlmafaa
open Go.RowKit Go.Proofs.YtpobgjkmjlmafaaW.PrintWords Go.Proofs.YtpobgjkmjlmafaaW.PrintLast
set_option linter.unusedVariables false
set_option linter.unusedSimpArgs false
theorem newP_ok : PoolP newP := poolOk_iff.1 (by kernel_rfl)
theorem info_op : (Try.prog.info? 74).map (fun i => (i.zero, i.size, i.bytes)) = some (some (.agg #[.int .i64 0, .string ⟨#[]⟩, .string ⟨#[]⟩, .int .i64 0, .string ⟨#[]⟩]), 5, 64) := by kernel_rfl
theorem grown_own {w W W' : World} {rb : Nat} {r : Option Nat} (h : w.grownBy W (some rb)) (hg : W.grownBy W' r) (hr : ∀ k, r = some k → w.heap.size ≤ k) : w.grownBy W' (some rb) :=
  ⟨hg.os.trans h.os, hg.tape.trans h.tape, hg.output.trans h.output, Nat.le_trans h.size hg.size, fun i hi hne => (hg.block i (Nat.lt_of_lt_of_le hi h.size) (fun e => by have := hr i e.symm; omega)).trans (h.block i hi hne)⟩
structure OpsSt (w W : World) (rb k : Nat) (v0 v1 : Value) (p : Pool) (bvs : List Value) (pb n : Nat) (v7 : Value) (xs : List Value) : Prop where
  res : Blk W w.heap.size #[.slice none 0 0, .slice none 0 0] 30
  pool : Blk W pb #[v0, v1] 30
  rd : Rd W rb k
  own : OwnP W w.heap.size v0 v1 p bvs
  row : W.ownsRow w.heap.size 74 5 v7 n xs
  g : w.grownBy W (some rb)
  l2 : w.heap.size < pb
  l3 : rb < w.heap.size
theorem row_rd {w w' : World} {base : Nat} {e : TypeId} {sz n : Nat} {v : Value} {xs : List Value} (h : w.ownsRow base e sz v n xs) (he : e ≠ 133) {rb k : Nat} (hR : Rd w rb k) (hg : w.grownBy w' (some rb)) : w'.ownsRow base e sz v n xs := by
  obtain ⟨A, c, bs, q, hB, _⟩ := hR.h
  exact World.ownsRow.kept h hg (.inr fun e => own_ne h hB he e.symm)
theorem OpsSt.step {w W W' : World} {rb k k' : Nat} {v0 v1 : Value} {p : Pool} {bvs : List Value} {pb n : Nat} {v7 : Value} {xs : List Value} (h : OpsSt w W rb k v0 v1 p bvs pb n v7 xs) (hR : Rd W' rb k') (hg : W.grownBy W' (some rb)) : OpsSt w W' rb k' v0 v1 p bvs pb n v7 xs :=
  ⟨h.res.grown hg (fun e => by injection e with e; have := h.l3; omega), h.pool.grown hg (fun e => by injection e with e; have := h.l3; have := h.l2; omega), hR, h.own.rd h.rd hg, row_rd h.row (by decide) h.rd hg, grown_tr h.g hg, h.l2, h.l3⟩
theorem OpsSt.bel {w W W' : World} {rb k : Nat} {v0 v1 : Value} {p : Pool} {bvs : List Value} {pb n : Nat} {v7 : Value} {xs : List Value} (h : OpsSt w W rb k v0 v1 p bvs pb n v7 xs) (hb : Bel W W') : OpsSt w W' rb k v0 v1 p bvs pb n v7 xs :=
  ⟨h.res.bel hb, h.pool.bel hb, h.rd.bel hb, h.own.bel hb, pw_own_below h.row hb, grown_tr h.g (grown_of_bel hb _), h.l2, h.l3⟩
theorem OpsSt.turn {w W : World} {rb k : Nat} {v0 v1 u0 u1 : Value} {p q : Pool} {bvs bvq : List Value} {pb n : Nat} {v7 : Value} {xs : List Value} (h : OpsSt w W rb k v0 v1 p bvs pb n v7 xs) (hq : OwnP W w.heap.size u0 u1 q bvq) : OpsSt w ((W.setCell ⟨pb, 0, none⟩ u0).setCell ⟨pb, 1, none⟩ u1) rb k u0 u1 q bvq pb n v7 xs := by
  have hp1 := h.pool.set 0 u0 (cs' := #[u0, v1]) rfl
  have hlt : rb < pb := Nat.lt_trans h.l3 h.l2
  exact ⟨(h.res.apart (by have := h.l2; omega) 0 u0).apart (by have := h.l2; omega) 1 u1, hp1.set 1 u1 rfl, (h.rd.set hlt 0 u0).set hlt 1 u1, (hq.far h.pool (by decide) (by decide) (by decide) 0 u0).far hp1 (by decide) (by decide) (by decide) 1 u1,
    own_setCell (p := ⟨pb, 1, none⟩) (own_setCell (p := ⟨pb, 0, none⟩) h.row (own_ne h.row h.pool (by decide)) u0) (own_ne (own_setCell (p := ⟨pb, 0, none⟩) h.row (own_ne h.row h.pool (by decide)) u0) hp1 (by decide)) u1, grown_new (grown_new h.g (Nat.le_of_lt h.l2) 0 u0) (Nat.le_of_lt h.l2) 1 u1, h.l2, h.l3⟩
theorem OpsSt.app {w W W' : World} {rb k : Nat} {v0 v1 : Value} {p : Pool} {bvs : List Value} {pb n m : Nat} {v7 v7' : Value} {xs ys : List Value} (h : OpsSt w W rb k v0 v1 p bvs pb n v7 xs) (hg : W.grownBy W' v7.ownBlock) (hr : W'.ownsRow w.heap.size 74 5 v7' m ys) : OpsSt w W' rb k v0 v1 p bvs pb m v7' ys := by
  have key : ∀ {e : TypeId} {size n : Nat} {v : Value} {xs : List Value}, W.ownsRow w.heap.size e size v n xs → e ≠ 74 → W'.ownsRow w.heap.size e size v n xs := fun h' hne => own_other_type h' h.row hne hg
  exact ⟨h.res.grown hg (own_blk_ne h.row h.res (by decide)), h.pool.grown hg (own_blk_ne h.row h.pool (by decide)), h.rd.grown hg (fun b e => by have := own_base h.row b e; have := h.l3; omega),
    ⟨key h.own.s (by decide), ⟨⟨h.own.v.row.len, key h.own.v.row.row (by decide)⟩, fun m x b hx hb => key (h.own.v.inner m x b hx hb) (by decide), h.own.v.apart⟩⟩, hr, grown_own h.g hg (own_base h.row), h.l2, h.l3⟩
theorem OpsSt.fx {w W : World} {rb k : Nat} {v0 v1 : Value} {p : Pool} {bvs : List Value} {pb n : Nat} {v7 : Value} {xs : List Value} {ob : Nat} {o : Op} (h : OpsSt w W rb k v0 v1 p bvs pb n v7 xs ∧ Blk W ob (opCs o) 74) :
    W.cell? ⟨pb, 0, none⟩ = some v0 ∧ W.cell? ⟨pb, 1, none⟩ = some v1 ∧ W.cell? ⟨ob, 0, none⟩ = some (.int .i64 o.kind) ∧ W.cell? ⟨ob, 1, none⟩ = some (.string o.name) ∧ W.cell? ⟨ob, 2, none⟩ = some (.string o.dest) ∧ W.cell? ⟨ob, 3, none⟩ = some (.int .i64 o.n) ∧ W.cell? ⟨ob, 4, none⟩ = some (.string o.text) :=
  ⟨by rw [h.1.pool.cell]; rfl, by rw [h.1.pool.cell]; rfl, by rw [h.2.cell]; rfl, by rw [h.2.cell]; rfl, by rw [h.2.cell]; rfl, by rw [h.2.cell]; rfl, by rw [h.2.cell]; rfl⟩
structure OpsO (w W : World) (rb k : Nat) (v0 v1 : Value) (p : Pool) (bvs : List Value) (pb n : Nat) (v7 : Value) (xs : List Value) (ob : Nat) (o : Op) : Prop where
  st : OpsSt w W rb k v0 v1 p bvs pb n v7 xs
  op : Blk W ob (opCs o) 74
theorem OpsO.bel {w W W' : World} {rb k : Nat} {v0 v1 : Value} {p : Pool} {bvs : List Value} {pb n : Nat} {v7 : Value} {xs : List Value} {ob : Nat} {o : Op} (h : OpsO w W rb k v0 v1 p bvs pb n v7 xs ob o) (hb : Bel W W') : OpsO w W' rb k v0 v1 p bvs pb n v7 xs ob o := ⟨h.st.bel hb, h.op.bel hb⟩
theorem OpsO.fx {w W : World} {rb k : Nat} {v0 v1 : Value} {p : Pool} {bvs : List Value} {pb n : Nat} {v7 : Value} {xs : List Value} {ob : Nat} {o : Op} (h : OpsO w W rb k v0 v1 p bvs pb n v7 xs ob o) :
    W.cell? ⟨pb, 0, none⟩ = some v0 ∧ W.cell? ⟨pb, 1, none⟩ = some v1 ∧ W.cell? ⟨ob, 0, none⟩ = some (.int .i64 o.kind) ∧ W.cell? ⟨ob, 1, none⟩ = some (.string o.name) ∧ W.cell? ⟨ob, 2, none⟩ = some (.string o.dest) ∧ W.cell? ⟨ob, 3, none⟩ = some (.int .i64 o.n) ∧ W.cell? ⟨ob, 4, none⟩ = some (.string o.text) := OpsSt.fx ⟨h.st, h.op⟩
/-- What l71Ops leaves: a list of changes and a pool that is in form. -/
def OpsOut (rb k d : Nat) (w : World) (e : Ending) (w' : World) : Prop := ∃ (v7 v0 v1 : Value) (p : Pool) (bvs : List Value), e = .returned (.tuple #[v7, .agg #[v0, v1]]) ∧ PoolP p ∧ OwnP w' w.heap.size v0 v1 p bvs ∧ Rd w' rb (k + d) ∧ w.grownBy w' (some rb)
set_option maxHeartbeats 16000000 in
set_option maxRecDepth 10000 in
theorem ops_c {w : World} {rb k : Nat} (h : Rd w rb k) (hk : k ≤ 1099511000000) (n : Nat) (hn : n ≤ 100) :
    Calls Try.prog 131 #[.pointer (some ⟨rb, 0, none⟩), .int .i64 (n : Int)] w (OpsOut rb k 20000 w) := by
  have H := Lib.hid h
  have hlt := h.lt
  clear h
  go_enter Try.func131, Try.ntmps131
  go_wp2_with fail
  refine (specPoolNew_c _).mono ?_
  rintro e w1 ⟨v0, v1, bvs, rfl, ho, hb1⟩
  have hb1' : Bel w w1 := (bel_alloc (Below.refl _ _) _ : Bel w (w.alloc (.cells #[.slice none 0 0, .slice none 0 0] 30))).tr hb1
  have hr1 : Blk w1 w.heap.size #[.slice none 0 0, .slice none 0 0] 30 := (Blk.new w _ _).bel hb1
  obtain ⟨A0, A1, c0, c1, rfl, rfl, hpi⟩ := ho.reads
  clear hpi
  have HS1 := Lib.hid (And.intro hb1' (And.intro hr1 ho))
  clear ho hb1 hb1' hr1
  go_wp2
  have hst : OpsSt w ((w1.alloc (.cells #[.slice A0 newP.slots.length c0, .slice A1 newP.vols.length c1] 30)).alloc (.cells #[] 74)) rb k (.slice A0 newP.slots.length c0) (.slice A1 newP.vols.length c1) newP bvs w1.heap.size 0 (.slice (some ⟨w1.heap.size + 1, 0, none⟩) 0 0) [] :=
    ⟨(HS1.out.2.1.alloc _).alloc _, (Blk.new w1 _ _).alloc _, H.out.bel (bel_alloc (bel_alloc HS1.out.1 _) _), (OwnP.bel (OwnP.lower HS1.out.2.2 (by simp)) (bel_alloc (bel_alloc (Below.refl _ _) _) _)), (show (w1.alloc (.cells #[.slice A0 newP.slots.length c0, .slice A1 newP.vols.length c1] 30)).heap.size = w1.heap.size + 1 by simp) ▸ own_empty _ w.heap.size 74 5 (by have := HS1.out.1.size; simp; omega), grown_of_bel (bel_alloc (bel_alloc HS1.out.1 _) _) _, HS1.out.2.1.lt, hlt⟩
  have HST := Lib.hid hst
  clear hst
  generalize ((w1.alloc (.cells #[.slice A0 newP.slots.length c0, .slice A1 newP.vols.length c1] 30)).alloc (.cells #[] 74)) = W4 at HST ⊢
  obtain ⟨pb, hpb⟩ : ∃ pb, w1.heap.size = pb := ⟨_, rfl⟩
  rw [hpb] at HST ⊢
  clear hpb HS1
  go_loopg [7, 8] n (fun gg v7 v8 W => ∃ (j m : Nat) (v0 v1 : Value) (p : Pool) (bvs : List Value) (xs : List Value), gg + j = n ∧ v8 = .int .i64 j ∧ m ≤ j ∧ Hid (PoolP p) ∧ Hid (OpsSt w W rb (k + 200 * j) v0 v1 p bvs pb m v7 xs))
  case atStart => exact ⟨0, 0, _, _, newP, bvs, [], by omega, rfl, Nat.le_refl _, newP_ok, HST.out⟩
  case round =>
    clear HST bvs
    obtain ⟨j, m, v0, v1, p, bvs, xs, hj, rfl, hmj, HP, HST⟩ := hrel
    obtain ⟨Y0, Y1, d0, d1, rfl, rfl, hpi⟩ := HST.out.own.reads
    obtain ⟨A7, c7, rfl, hc7⟩ := own_cap HST.out.row
    clear hpi
    have q0 := HST.out.pool.cell 0
    have q1 := HST.out.pool.cell 1
    simp at q0 q1
    by_cases hjn : j < n
    · have hjn' : (j : Int) < (n : Int) := by omega
      go_wp2_with fail
      refine (fits_c HST.out.rd (by omega) HST.out.own HP.out).mono ?_
      rintro e w2 ⟨v, rfl, ⟨o, rfl, hoi⟩, hR2, hg2⟩
      have hnm : SmallO o := hoi.1
      have HS2 := Lib.hid (HST.out.step hR2 hg2)
      clear q0 q1 hR2 hg2 hoi
      unfold opV
      go_wp2
      have HS3 := Lib.hid (show OpsO w (w2.alloc (.cells #[.int .i64 o.kind, .string o.name, .string o.dest, .int .i64 o.n, .string o.text] 74)) rb (k + 200 * j + 200) (.slice Y0 p.slots.length d0) (.slice Y1 p.vols.length d1) p bvs pb m (.slice A7 m c7) xs w2.heap.size o from ⟨HS2.out.bel (bel_alloc (Below.refl _ _) _), Blk.new w2 _ _⟩)
      generalize w2.alloc (.cells #[.int .i64 o.kind, .string o.name, .string o.dest, .int .i64 o.n, .string o.text] 74) = W3 at HS3 ⊢
      have hobp := HS2.out.pool.lt
      obtain ⟨ob, hob⟩ : ∃ ob, w2.heap.size = ob := ⟨_, rfl⟩
      rw [hob] at HS3 hobp ⊢
      clear hob HS2
      have BB := Lib.hid (HS3.out.bel (Below.refl _ _).drew)
      have D0 := Lib.hid (show Bel W3.drew W3.drew from Below.refl _ _)
      have hfx := Lib.hid (fun W => fun hb : Bel W3.drew W => (BB.out.bel hb).fx)
      have PI := Lib.hid (show PoolIn W3.drew Y0 Y1 d0 d1 p by obtain ⟨a0, a1, k0, k1, e0, e1, hh⟩ := BB.out.st.own.reads; have e0 := slice_eq e0; have e1 := slice_eq e1; obtain ⟨rfl, -, rfl⟩ := e0; obtain ⟨rfl, -, rfl⟩ := e1; exact hh)
      obtain ⟨q, hq⟩ : ∃ q, (opF p o).getD p = q := ⟨_, rfl⟩
      obtain ⟨ok, hokk⟩ : ∃ ok, (opF p o).isSome = ok := ⟨_, rfl⟩
      have hdo := Lib.hid (fun (W : World) (v0 v1 : Value) (bvs : List Value) (h : OwnP W W3.drew.heap.size v0 v1 p bvs) (hb : W3.drew.heap.size ≤ W.heap.size) => l12Do_c (o := o) h HP.out hb hnm)
      unfold TurnsP at hdo
      rw [hq, hokk] at hdo
      have HQ := Lib.hid (And.intro hq hokk)
      clear hq hokk
      obtain ⟨s0, s1, s2, s3, s4, s5, s6⟩ := hfx.out _ D0.out
      have hcp := Lib.hid (fun (W : World) (h : PoolIn W Y0 Y1 d0 d1 p) => l11Copy_c h HP.out.small)
      refine start_ (n := 10) (S := fun w' => w'.cell? ⟨pb, 0, none⟩ = some (.slice Y0 p.slots.length d0) ∧ w'.cell? ⟨pb, 1, none⟩ = some (.slice Y1 p.vols.length d1) ∧ w'.cell? ⟨ob, 0, none⟩ = some (.int .i64 o.kind) ∧ w'.cell? ⟨ob, 1, none⟩ = some (.string o.name) ∧ w'.cell? ⟨ob, 2, none⟩ = some (.string o.dest) ∧ w'.cell? ⟨ob, 3, none⟩ = some (.int .i64 o.n) ∧ w'.cell? ⟨ob, 4, none⟩ = some (.string o.text)) (ds := [8]) #[false, false, false, false, false, false, false, false, false, false] (by kernel_rfl) rfl rfl ⟨s0, s1, s2, s3, s4, s5, s6⟩ (fun hHeld => ?_)
      refine take_ (i := 0) (N := some 23) (v := ?_) (a' := ?_) #[true, false, false, false, false, false, false, false, false, false] rfl rfl (by kernel_rfl) (fun _ _ _ h => h) (Or.inl ⟨by rfl, ?_⟩) hHeld ?_ ?_
      rotate_left
      · rintro w' ⟨s0, s1, s2, s3, s4, s5, s6⟩
        go_simp
        with_reducible rfl
      rotate_left
      · simp only [Act.put, List.setIfInBounds_toArray, List.set_cons_zero, List.set_cons_succ, i64_w, i32_w]
        rfl
      refine take_ (i := 2) (N := some 25) (v := ?_) (a' := ?_) #[true, false, true, false, false, false, false, false, false, false] rfl rfl (by kernel_rfl) (fun _ _ _ h => h) (Or.inl ⟨by rfl, ?_⟩) hHeld ?_ ?_
      rotate_left
      · rintro w' ⟨s0, s1, s2, s3, s4, s5, s6⟩
        go_simp
        with_reducible rfl
      rotate_left
      · simp only [Act.put, List.setIfInBounds_toArray, List.set_cons_zero, List.set_cons_succ, i64_w, i32_w]
        rfl
      refine join_ (σ := Value × Value × Option Addr × Nat × Option Addr × Nat × List Value × Nat) 2 #[true, true, true, true, true, true, true, true, false, false] (fun s => [(24, .agg #[s.1, s.2.1]), (26, .tuple #[.agg #[.slice s.2.2.1 q.slots.length s.2.2.2.1, .slice s.2.2.2.2.1 q.vols.length s.2.2.2.2.2.1], .bool ok]), (22, .tuple #[.agg #[.slice s.2.2.1 q.slots.length s.2.2.2.1, .slice s.2.2.2.2.1 q.vols.length s.2.2.2.2.2.1], .bool ok]), (27, .agg #[.slice s.2.2.1 q.slots.length s.2.2.2.1, .slice s.2.2.2.2.1 q.vols.length s.2.2.2.2.2.1]), (28, .bool ok), (10, .pointer (some ⟨s.2.2.2.2.2.2.2, 0, none⟩))]) (fun s w' => (w'.cell? ⟨pb, 0, none⟩ = some (.slice Y0 p.slots.length d0) ∧ w'.cell? ⟨pb, 1, none⟩ = some (.slice Y1 p.vols.length d1) ∧ w'.cell? ⟨ob, 0, none⟩ = some (.int .i64 o.kind) ∧ w'.cell? ⟨ob, 1, none⟩ = some (.string o.name) ∧ w'.cell? ⟨ob, 2, none⟩ = some (.string o.dest) ∧ w'.cell? ⟨ob, 3, none⟩ = some (.int .i64 o.n) ∧ w'.cell? ⟨ob, 4, none⟩ = some (.string o.text)) ∧ OwnP w' W3.drew.heap.size (.slice s.2.2.1 q.slots.length s.2.2.2.1) (.slice s.2.2.2.2.1 q.vols.length s.2.2.2.2.2.1) q s.2.2.2.2.2.2.1 ∧ Blk w' s.2.2.2.2.2.2.2 #[.slice none 0 0, .slice none 0 0] 30 ∧ W3.drew.heap.size ≤ s.2.2.2.2.2.2.2 ∧ Bel W3.drew w') ?_ ?_
      rotate_left
      · intro hCont
        refine two_ (i := 1) (j := 7) (Ni := some 24) (Nj := some 10) #[true, true, true, false, false, false, false, false, false, false] #[true, false, true, false, false, false, false, true, false, false] rfl rfl rfl rfl (by kernel_rfl) (by decide) (by decide) (fun K hK => ?_) (fun K hK => ?_)
        · skip
          refine goes_ Try.func64 (by kernel_rfl) rfl #[.agg #[.slice Y0 p.slots.length d0, .slice Y1 p.vols.length d1]] (by rfl) rfl rfl (by simp only [List.map_toArray, List.map_cons, List.map_nil]; rfl) ?_
          with_reducible refine (hcp.out _ (PI.out.bel D0.out)).mono ?_
          rintro e w1_ ⟨va, vb, bva, rfl, ho, X1⟩
          have D1 := Lib.hid (Bel.tr D0.out X1)
          have P1 : Hid (OwnP w1_ W3.drew.heap.size va vb p bva) := Lib.hid (ho.lower D0.out.size)
          clear ho
          refine ⟨_, rfl, ?_⟩
          refine hK.out _ _ ⟨(hfx.out _ D1.out).1, (hfx.out _ D1.out).2.1, (hfx.out _ D1.out).2.2.1, (hfx.out _ D1.out).2.2.2.1, (hfx.out _ D1.out).2.2.2.2.1, (hfx.out _ D1.out).2.2.2.2.2.1, (hfx.out _ D1.out).2.2.2.2.2.2⟩ (fun hHeld => ?_)
          clear hK K
          refine norm_ (a' := ?_) ?_ ?_
          rotate_left
          · show Act.put _ (some 24) _ = _
            simp only [Act.put, List.setIfInBounds_toArray, List.set_cons_zero, List.set_cons_succ, i64_w, i32_w]
            rfl
          refine two_ (i := 3) (j := 7) (Ni := some 26) (Nj := some 10) #[true, true, true, true, false, false, false, false, false, false] #[true, true, true, false, false, false, false, true, false, false] rfl rfl rfl rfl (by kernel_rfl) (by decide) (by decide) (fun K hK => ?_) (fun K hK => ?_)
          · skip
            refine goes_ Try.func113 (by kernel_rfl) rfl #[.agg #[va, vb], .agg #[.int .i64 o.kind, .string o.name, .string o.dest, .int .i64 o.n, .string o.text]] (by rfl) rfl rfl (by simp only [List.map_toArray, List.map_cons, List.map_nil]; rfl) ?_
            with_reducible refine (hdo.out _ va vb bva P1.out D1.out.size).mono ?_
            rintro e w2_ ⟨vc, vd, bvc, rfl, ho, X2⟩
            have D2 : Hid (Bel W3.drew w2_) := Lib.hid (D1.out.trans X2.b)
            have Q2 := Lib.hid ho
            obtain ⟨A2, A3, k2, k3, rfl, rfl, hpi⟩ := ho.reads
            clear ho hpi
            refine ⟨_, rfl, ?_⟩
            refine hK.out _ _ ⟨(hfx.out _ D2.out).1, (hfx.out _ D2.out).2.1, (hfx.out _ D2.out).2.2.1, (hfx.out _ D2.out).2.2.2.1, (hfx.out _ D2.out).2.2.2.2.1, (hfx.out _ D2.out).2.2.2.2.2.1, (hfx.out _ D2.out).2.2.2.2.2.2⟩ (fun hHeld => ?_)
            clear hK K
            refine norm_ (a' := ?_) ?_ ?_
            rotate_left
            · show Act.put _ (some 26) _ = _
              simp only [Act.put, List.setIfInBounds_toArray, List.set_cons_zero, List.set_cons_succ, i64_w, i32_w]
              rfl
            refine pure_ (i := 4) (N := some 22) (v := ?_) (a' := ?_) #[true, true, true, true, true, false, false, false, false, false] rfl rfl (by kernel_rfl) (fun _ _ _ h => h) (Or.inl ⟨by rfl, ?_⟩) ?_ ?_
            rotate_left
            · intro w'
              go_simp
              with_reducible rfl
            rotate_left
            · simp only [Act.put, List.setIfInBounds_toArray, List.set_cons_zero, List.set_cons_succ, i64_w, i32_w]
              rfl
            refine pure_ (i := 5) (N := some 27) (v := ?_) (a' := ?_) #[true, true, true, true, true, true, false, false, false, false] rfl rfl (by kernel_rfl) (fun _ _ _ h => h) (Or.inl ⟨by rfl, ?_⟩) ?_ ?_
            rotate_left
            · intro w'
              go_simp
              with_reducible rfl
            rotate_left
            · simp only [Act.put, List.setIfInBounds_toArray, List.set_cons_zero, List.set_cons_succ, i64_w, i32_w]
              rfl
            refine pure_ (i := 6) (N := some 28) (v := ?_) (a' := ?_) #[true, true, true, true, true, true, true, false, false, false] rfl rfl (by kernel_rfl) (fun _ _ _ h => h) (Or.inl ⟨by rfl, ?_⟩) ?_ ?_
            rotate_left
            · intro w'
              go_simp
              with_reducible rfl
            rotate_left
            · simp only [Act.put, List.setIfInBounds_toArray, List.set_cons_zero, List.set_cons_succ, i64_w, i32_w]
              rfl
            refine one_ (i := 7) (N := some 10) #[true, true, true, true, true, true, true, true, false, false] rfl rfl (by kernel_rfl) (by decide) (fun K hK => ?_)
            refine value_ (w1 := ?_) (v := ?_) (by rfl) rfl ?_ ?_
            rotate_left 2
            · go_simp
              constructor
              · rfl
              · rfl
            have D3 : Hid (Bel W3.drew (w2_.alloc (.cells #[.slice none 0 0, .slice none 0 0] 30))) := Lib.hid (bel_alloc D2.out (.cells #[.slice none 0 0, .slice none 0 0] 30))
            have Q3 := Lib.hid (OwnP.bel Q2.out (bel_alloc (Below.refl _ _) (.cells #[.slice none 0 0, .slice none 0 0] 30)))
            have O3 : Hid (Blk (w2_.alloc (.cells #[.slice none 0 0, .slice none 0 0] 30)) w2_.heap.size #[.slice none 0 0, .slice none 0 0] 30) := Lib.hid (Blk.new w2_ #[.slice none 0 0, .slice none 0 0] 30)
            have L3 := D2.out.size
            refine hK.out _ _ ⟨(hfx.out _ D3.out).1, (hfx.out _ D3.out).2.1, (hfx.out _ D3.out).2.2.1, (hfx.out _ D3.out).2.2.2.1, (hfx.out _ D3.out).2.2.2.2.1, (hfx.out _ D3.out).2.2.2.2.2.1, (hfx.out _ D3.out).2.2.2.2.2.2⟩ (fun hHeld => ?_)
            clear hK K
            refine norm_ (a' := ?_) ?_ ?_
            rotate_left
            · show Act.put _ (some 10) _ = _
              simp only [Act.put, List.setIfInBounds_toArray, List.set_cons_zero, List.set_cons_succ, i64_w, i32_w]
              rfl
            exact norm_ (by simp only [putAll, Act.put, List.setIfInBounds_toArray, List.set_cons_zero, List.set_cons_succ]) (hCont (va, vb, A2, k2, A3, k3, bvc, w2_.heap.size) _ ⟨hHeld, Q3.out, O3.out, L3, D3.out⟩)
          · skip
            refine value_ (w1 := ?_) (v := ?_) (by rfl) rfl ?_ ?_
            rotate_left 2
            · go_simp
              constructor
              · rfl
              · rfl
            have D2 : Hid (Bel W3.drew (w1_.alloc (.cells #[.slice none 0 0, .slice none 0 0] 30))) := Lib.hid (bel_alloc D1.out (.cells #[.slice none 0 0, .slice none 0 0] 30))
            have P2 := Lib.hid (OwnP.bel P1.out (bel_alloc (Below.refl _ _) (.cells #[.slice none 0 0, .slice none 0 0] 30)))
            have O2 : Hid (Blk (w1_.alloc (.cells #[.slice none 0 0, .slice none 0 0] 30)) w1_.heap.size #[.slice none 0 0, .slice none 0 0] 30) := Lib.hid (Blk.new w1_ #[.slice none 0 0, .slice none 0 0] 30)
            have L2 := D1.out.size
            refine hK.out _ _ ⟨(hfx.out _ D2.out).1, (hfx.out _ D2.out).2.1, (hfx.out _ D2.out).2.2.1, (hfx.out _ D2.out).2.2.2.1, (hfx.out _ D2.out).2.2.2.2.1, (hfx.out _ D2.out).2.2.2.2.2.1, (hfx.out _ D2.out).2.2.2.2.2.2⟩ (fun hHeld => ?_)
            clear hK K
            refine norm_ (a' := ?_) ?_ ?_
            rotate_left
            · show Act.put _ (some 10) _ = _
              simp only [Act.put, List.setIfInBounds_toArray, List.set_cons_zero, List.set_cons_succ, i64_w, i32_w]
              rfl
            refine one_ (i := 3) (N := some 26) #[true, true, true, true, false, false, false, true, false, false] rfl rfl (by kernel_rfl) (by decide) (fun K hK => ?_)
            refine goes_ Try.func113 (by kernel_rfl) rfl #[.agg #[va, vb], .agg #[.int .i64 o.kind, .string o.name, .string o.dest, .int .i64 o.n, .string o.text]] (by rfl) rfl rfl (by simp only [List.map_toArray, List.map_cons, List.map_nil]; rfl) ?_
            with_reducible refine (hdo.out _ va vb bva P2.out D2.out.size).mono ?_
            rintro e w3_ ⟨vc, vd, bvc, rfl, ho, X3⟩
            have D3 : Hid (Bel W3.drew w3_) := Lib.hid (D2.out.trans X3.b)
            have O3 := Lib.hid (X3.k _ _ _ (by decide) (by decide) (by decide) O2.out)
            have Q3 := Lib.hid ho
            obtain ⟨A2, A3, k2, k3, rfl, rfl, hpi⟩ := ho.reads
            clear ho hpi
            refine ⟨_, rfl, ?_⟩
            refine hK.out _ _ ⟨(hfx.out _ D3.out).1, (hfx.out _ D3.out).2.1, (hfx.out _ D3.out).2.2.1, (hfx.out _ D3.out).2.2.2.1, (hfx.out _ D3.out).2.2.2.2.1, (hfx.out _ D3.out).2.2.2.2.2.1, (hfx.out _ D3.out).2.2.2.2.2.2⟩ (fun hHeld => ?_)
            clear hK K
            refine norm_ (a' := ?_) ?_ ?_
            rotate_left
            · show Act.put _ (some 26) _ = _
              simp only [Act.put, List.setIfInBounds_toArray, List.set_cons_zero, List.set_cons_succ, i64_w, i32_w]
              rfl
            refine pure_ (i := 4) (N := some 22) (v := ?_) (a' := ?_) #[true, true, true, true, true, false, false, true, false, false] rfl rfl (by kernel_rfl) (fun _ _ _ h => h) (Or.inl ⟨by rfl, ?_⟩) ?_ ?_
            rotate_left
            · intro w'
              go_simp
              with_reducible rfl
            rotate_left
            · simp only [Act.put, List.setIfInBounds_toArray, List.set_cons_zero, List.set_cons_succ, i64_w, i32_w]
              rfl
            refine pure_ (i := 5) (N := some 27) (v := ?_) (a' := ?_) #[true, true, true, true, true, true, false, true, false, false] rfl rfl (by kernel_rfl) (fun _ _ _ h => h) (Or.inl ⟨by rfl, ?_⟩) ?_ ?_
            rotate_left
            · intro w'
              go_simp
              with_reducible rfl
            rotate_left
            · simp only [Act.put, List.setIfInBounds_toArray, List.set_cons_zero, List.set_cons_succ, i64_w, i32_w]
              rfl
            refine pure_ (i := 6) (N := some 28) (v := ?_) (a' := ?_) #[true, true, true, true, true, true, true, true, false, false] rfl rfl (by kernel_rfl) (fun _ _ _ h => h) (Or.inl ⟨by rfl, ?_⟩) ?_ ?_
            rotate_left
            · intro w'
              go_simp
              with_reducible rfl
            rotate_left
            · simp only [Act.put, List.setIfInBounds_toArray, List.set_cons_zero, List.set_cons_succ, i64_w, i32_w]
              rfl
            exact norm_ (by simp only [putAll, Act.put, List.setIfInBounds_toArray, List.set_cons_zero, List.set_cons_succ]) (hCont (va, vb, A2, k2, A3, k3, bvc, w1_.heap.size) _ ⟨hHeld, Q3.out, O3.out, L2, D3.out⟩)
        · skip
          refine value_ (w1 := ?_) (v := ?_) (by rfl) rfl ?_ ?_
          rotate_left 2
          · go_simp
            constructor
            · rfl
            · rfl
          have D1 : Hid (Bel W3.drew (W3.alloc (.cells #[.slice none 0 0, .slice none 0 0] 30)).drew) := Lib.hid (bel_alloc D0.out (.cells #[.slice none 0 0, .slice none 0 0] 30))
          have O1 : Hid (Blk (W3.alloc (.cells #[.slice none 0 0, .slice none 0 0] 30)).drew W3.drew.heap.size #[.slice none 0 0, .slice none 0 0] 30) := Lib.hid (Blk.new W3.drew #[.slice none 0 0, .slice none 0 0] 30)
          have L1 := D0.out.size
          refine hK.out _ _ ⟨(hfx.out _ D1.out).1, (hfx.out _ D1.out).2.1, (hfx.out _ D1.out).2.2.1, (hfx.out _ D1.out).2.2.2.1, (hfx.out _ D1.out).2.2.2.2.1, (hfx.out _ D1.out).2.2.2.2.2.1, (hfx.out _ D1.out).2.2.2.2.2.2⟩ (fun hHeld => ?_)
          clear hK K
          refine norm_ (a' := ?_) ?_ ?_
          rotate_left
          · show Act.put _ (some 10) _ = _
            simp only [Act.put, List.setIfInBounds_toArray, List.set_cons_zero, List.set_cons_succ, i64_w, i32_w]
            rfl
          refine one_ (i := 1) (N := some 24) #[true, true, true, false, false, false, false, true, false, false] rfl rfl (by kernel_rfl) (by decide) (fun K hK => ?_)
          refine goes_ Try.func64 (by kernel_rfl) rfl #[.agg #[.slice Y0 p.slots.length d0, .slice Y1 p.vols.length d1]] (by rfl) rfl rfl (by simp only [List.map_toArray, List.map_cons, List.map_nil]; rfl) ?_
          with_reducible refine (hcp.out _ (PI.out.bel D1.out)).mono ?_
          rintro e w2_ ⟨va, vb, bva, rfl, ho, X2⟩
          have D2 := Lib.hid (Bel.tr D1.out X2)
          have O2 := Lib.hid (Blk.bel O1.out X2)
          have P2 : Hid (OwnP w2_ W3.drew.heap.size va vb p bva) := Lib.hid (ho.lower D1.out.size)
          clear ho
          refine ⟨_, rfl, ?_⟩
          refine hK.out _ _ ⟨(hfx.out _ D2.out).1, (hfx.out _ D2.out).2.1, (hfx.out _ D2.out).2.2.1, (hfx.out _ D2.out).2.2.2.1, (hfx.out _ D2.out).2.2.2.2.1, (hfx.out _ D2.out).2.2.2.2.2.1, (hfx.out _ D2.out).2.2.2.2.2.2⟩ (fun hHeld => ?_)
          clear hK K
          refine norm_ (a' := ?_) ?_ ?_
          rotate_left
          · show Act.put _ (some 24) _ = _
            simp only [Act.put, List.setIfInBounds_toArray, List.set_cons_zero, List.set_cons_succ, i64_w, i32_w]
            rfl
          refine one_ (i := 3) (N := some 26) #[true, true, true, true, false, false, false, true, false, false] rfl rfl (by kernel_rfl) (by decide) (fun K hK => ?_)
          refine goes_ Try.func113 (by kernel_rfl) rfl #[.agg #[va, vb], .agg #[.int .i64 o.kind, .string o.name, .string o.dest, .int .i64 o.n, .string o.text]] (by rfl) rfl rfl (by simp only [List.map_toArray, List.map_cons, List.map_nil]; rfl) ?_
          with_reducible refine (hdo.out _ va vb bva P2.out D2.out.size).mono ?_
          rintro e w3_ ⟨vc, vd, bvc, rfl, ho, X3⟩
          have D3 : Hid (Bel W3.drew w3_) := Lib.hid (D2.out.trans X3.b)
          have O3 := Lib.hid (X3.k _ _ _ (by decide) (by decide) (by decide) O2.out)
          have Q3 := Lib.hid ho
          obtain ⟨A2, A3, k2, k3, rfl, rfl, hpi⟩ := ho.reads
          clear ho hpi
          refine ⟨_, rfl, ?_⟩
          refine hK.out _ _ ⟨(hfx.out _ D3.out).1, (hfx.out _ D3.out).2.1, (hfx.out _ D3.out).2.2.1, (hfx.out _ D3.out).2.2.2.1, (hfx.out _ D3.out).2.2.2.2.1, (hfx.out _ D3.out).2.2.2.2.2.1, (hfx.out _ D3.out).2.2.2.2.2.2⟩ (fun hHeld => ?_)
          clear hK K
          refine norm_ (a' := ?_) ?_ ?_
          rotate_left
          · show Act.put _ (some 26) _ = _
            simp only [Act.put, List.setIfInBounds_toArray, List.set_cons_zero, List.set_cons_succ, i64_w, i32_w]
            rfl
          refine pure_ (i := 4) (N := some 22) (v := ?_) (a' := ?_) #[true, true, true, true, true, false, false, true, false, false] rfl rfl (by kernel_rfl) (fun _ _ _ h => h) (Or.inl ⟨by rfl, ?_⟩) ?_ ?_
          rotate_left
          · intro w'
            go_simp
            with_reducible rfl
          rotate_left
          · simp only [Act.put, List.setIfInBounds_toArray, List.set_cons_zero, List.set_cons_succ, i64_w, i32_w]
            rfl
          refine pure_ (i := 5) (N := some 27) (v := ?_) (a' := ?_) #[true, true, true, true, true, true, false, true, false, false] rfl rfl (by kernel_rfl) (fun _ _ _ h => h) (Or.inl ⟨by rfl, ?_⟩) ?_ ?_
          rotate_left
          · intro w'
            go_simp
            with_reducible rfl
          rotate_left
          · simp only [Act.put, List.setIfInBounds_toArray, List.set_cons_zero, List.set_cons_succ, i64_w, i32_w]
            rfl
          refine pure_ (i := 6) (N := some 28) (v := ?_) (a' := ?_) #[true, true, true, true, true, true, true, true, false, false] rfl rfl (by kernel_rfl) (fun _ _ _ h => h) (Or.inl ⟨by rfl, ?_⟩) ?_ ?_
          rotate_left
          · intro w'
            go_simp
            with_reducible rfl
          rotate_left
          · simp only [Act.put, List.setIfInBounds_toArray, List.set_cons_zero, List.set_cons_succ, i64_w, i32_w]
            rfl
          exact norm_ (by simp only [putAll, Act.put, List.setIfInBounds_toArray, List.set_cons_zero, List.set_cons_succ]) (hCont (va, vb, A2, k2, A3, k3, bvc, W3.heap.size) _ ⟨hHeld, Q3.out, O3.out, L1, D3.out⟩)
      rintro ⟨va, vb, A2, k2, A3, k3, bvc, nb⟩ w3 ⟨hHeld, hQ, hO, hL, hD⟩
      dsimp only at hQ hO hL
      have r0 := hO.cell 0
      have r1 := hO.cell 1
      have f0 := hO.free 0
      have f1 := hO.free 1
      simp at r0 r1
      refine norm_ (a' := ?_) ?_ ?_
      rotate_left
      · simp only [putAll, Act.put, List.setIfInBounds_toArray, List.set_cons_zero, List.set_cons_succ]
        rfl
      refine last_ (i := 8) (N := none) #[true, true, true, true, true, true, true, true, true, false] rfl rfl (by kernel_rfl) (by decide) (fun K hK => ?_)
      refine skip_ (w1 := ?_) (by rfl) rfl ?_ ?_
      rotate_left
      · go_simp
        rfl
      refine hK.out _ _ ?_
      clear hK K
      refine pure_ (i := 9) (N := some 11) (v := ?_) (a' := ?_) #[true, true, true, true, true, true, true, true, true, true] rfl rfl (by kernel_rfl) (fun _ _ _ h => h) (Or.inl ⟨by rfl, ?_⟩) ?_ ?_
      rotate_left
      · intro w'
        go_simp
        with_reducible rfl
      rotate_left
      · simp only [Act.put, List.setIfInBounds_toArray, List.set_cons_zero, List.set_cons_succ, i64_w, i32_w]
        rfl
      refine done_ (by kernel_rfl) ?_
      have hO4 := hO.set 0 (.slice A2 q.slots.length k2) (cs' := #[.slice A2 q.slots.length k2, .slice none 0 0]) rfl
      have HO5 := Lib.hid (hO4.set 1 (.slice A3 q.vols.length k3) (cs' := #[.slice A2 q.slots.length k2, .slice A3 q.vols.length k3]) rfl)
      have HQ5 := Lib.hid ((hQ.far hO (by decide) (by decide) (by decide) 0 (.slice A2 q.slots.length k2)).far hO4 (by decide) (by decide) (by decide) 1 (.slice A3 q.vols.length k3))
      have HS8 := Lib.hid (BB.out.bel (bel_set (bel_set hD hL 0 (.slice A2 q.slots.length k2)) hL 1 (.slice A3 q.vols.length k3)))
      have HQP := Lib.hid (show PoolP q from HQ.out.1 ▸ opF_getD HP.out)
      have hbase : w.heap.size ≤ W3.drew.heap.size := BB.out.st.g.size
      have HQ6 := Lib.hid (HQ5.out.lower hbase)
      clear hQ hO hO4 hL hD f0 f1 r0 r1 hHeld s0 s1 s2 s3 s4 s5 s6 hcp hdo hfx D0 PI BB HQ HQ5 hbase
      generalize ((w3.setCell ⟨nb, 0, none⟩ (.slice A2 q.slots.length k2)).setCell ⟨nb, 1, none⟩ (.slice A3 q.vols.length k3)) = W8 at HS8 HO5 HQ6 ⊢
      have y0 := HS8.out.fx
      obtain ⟨s0, s1, s2, s3, s4, s5, s6⟩ := y0
      go_wp2_with fail
      refine (specOpOk_c o hnm _).mono ?_
      rintro e w9 ⟨rfl, hb9⟩
      have HS9 := Lib.hid (HS8.out.bel hb9)
      have HO9 := Lib.hid (HO5.out.bel hb9)
      have HQ9 := Lib.hid (HQ6.out.bel hb9)
      clear s0 s1 s2 s3 s4 s5 s6 HS8 HO5 HQ6 hb9
      cases hok : opOk o with
      | false =>
        go_wp2
        go_roundg (n - (j + 1))
        case measure => omega
        case rel => exact ⟨j + 1, m, _, _, p, bvs, xs, by omega, int_eq (by omega), by omega, HP.out, ⟨HS9.out.st.res, HS9.out.st.pool, HS9.out.st.rd.more (by omega), HS9.out.st.own, HS9.out.st.row, HS9.out.st.g, HS9.out.st.l2, HS9.out.st.l3⟩⟩
      | true =>
        cases ok with
        | false =>
          go_wp2
          go_roundg (n - (j + 1))
          case measure => omega
          case rel => exact ⟨j + 1, m, _, _, p, bvs, xs, by omega, int_eq (by omega), by omega, HP.out, ⟨HS9.out.st.res, HS9.out.st.pool, HS9.out.st.rd.more (by omega), HS9.out.st.own, HS9.out.st.row, HS9.out.st.g, HS9.out.st.l2, HS9.out.st.l3⟩⟩
        | true =>
          obtain ⟨s0, s1, s2, s3, s4, s5, s6⟩ := HS9.out.fx
          have f0 := HS9.out.st.pool.free 0
          have f1 := HS9.out.st.pool.free 1
          have hz9 := HS9.out.st.pool.lt
          have t0 := HO9.out.cell 0
          have t1 := HO9.out.cell 1
          simp at t0 t1
          have HT := Lib.hid (HS9.out.st.turn HQ9.out)
          have hsz := HT.out.g.size
          have hm100 : m ≤ 100 := by omega
          have hn1 : ¬ ob = pb := by omega
          have hn2 : ¬ pb = ob := by omega
          go_wp2_with (at_builtin; refine print_append_cells (w0 := ((w9.setCell ⟨pb, 0, none⟩ (.slice A2 q.slots.length k2)).setCell ⟨pb, 1, none⟩ (.slice A3 q.vols.length k3))) w.heap.size rfl (.tmp 35) (.tmp 37) 129 74 (.agg #[.int .i64 0, .string ⟨#[]⟩, .string ⟨#[]⟩, .int .i64 0, .string ⟨#[]⟩]) 5 64 rfl Try.underlying129 info_op rfl (by decide) (by decide) _ m xs [.int .i64 o.kind, .string o.name, .string o.dest, .int .i64 o.n, .string o.text] rfl (by show Value.slice (some ⟨_, 0, none⟩) 1 1 = Value.slice (some ⟨_, 0, none⟩) 1 1; simp) rfl (by intro u hu; simp at hu; rcases hu with rfl | rfl | rfl | rfl | rfl <;> rfl) HT.out.row (Below.refl _ _) hsz (by omega) ?_; intro v2 w5 hr2 hbq hgq hat2)
          have HA := Lib.hid (HT.out.app hgq hr2)
          clear s0 s1 s2 s3 s4 s5 s6 f0 f1 t0 t1 hr2 hbq hgq hat2
          go_wp2
          go_roundg (n - (j + 1))
          case measure => omega
          case rel => exact ⟨j + 1, m + 1, _, _, q, _, _, by omega, int_eq (by omega), by omega, HQP.out, ⟨HA.out.res, HA.out.pool, HA.out.rd.more (by omega), HA.out.own, HA.out.row, HA.out.g, HA.out.l2, HA.out.l3⟩⟩
    · have hjn' : ¬ (j : Int) < (n : Int) := by omega
      go_wp2
      have HD := Lib.hid (HST.out.bel (Below.refl _ _).drew)
      have e0 := HD.out.res.cell 0
      have e1 := HD.out.res.cell 1
      have f0 := HST.out.res.free 0
      have f1 := HST.out.res.free 1
      have zr := HST.out.res.lt
      have p0 := HD.out.pool.cell 0
      have p1 := HD.out.pool.cell 1
      simp at e0 e1 p0 p1
      refine start_ (n := 4) (S := fun w' => w'.cell? ⟨pb, 0, none⟩ = some (.slice Y0 p.slots.length d0) ∧ w'.cell? ⟨pb, 1, none⟩ = some (.slice Y1 p.vols.length d1)) (ds := [3]) #[false, false, false, false] (by kernel_rfl) rfl rfl ⟨p0, p1⟩ (fun hHeld => ?_)
      refine pure_ (i := 0) (N := some 39) (v := ?_) (a' := ?_) #[true, false, false, false] rfl rfl (by kernel_rfl) (fun _ _ _ h => h) (Or.inl ⟨by rfl, ?_⟩) ?_ ?_
      rotate_left
      · intro w'
        go_simp
        with_reducible rfl
      rotate_left
      · simp only [Act.put, List.setIfInBounds_toArray, List.set_cons_zero, List.set_cons_succ, i64_w, i32_w]
        rfl
      refine pure_ (i := 2) (N := some 4) (v := ?_) (a' := ?_) #[true, false, true, false] rfl rfl (by kernel_rfl) (fun _ _ _ h => h) (Or.inl ⟨by rfl, ?_⟩) ?_ ?_
      rotate_left
      · intro w'
        go_simp
        with_reducible rfl
      rotate_left
      · simp only [Act.put, List.setIfInBounds_toArray, List.set_cons_zero, List.set_cons_succ, i64_w, i32_w]
        rfl
      refine take_ (i := 1) (N := some 40) (v := ?_) (a' := ?_) #[true, true, true, false] rfl rfl (by kernel_rfl) (fun _ _ _ h => h) (Or.inl ⟨by rfl, ?_⟩) hHeld ?_ ?_
      rotate_left
      · rintro w' ⟨s0, s1⟩
        go_simp
        with_reducible rfl
      rotate_left
      · simp only [Act.put, List.setIfInBounds_toArray, List.set_cons_zero, List.set_cons_succ, i64_w, i32_w]
        rfl
      refine last_ (i := 3) (N := none) #[true, true, true, true] rfl rfl (by kernel_rfl) (by decide) (fun K hK => ?_)
      refine skip_ (w1 := ?_) (by rfl) rfl ?_ ?_
      rotate_left
      · go_simp
        rfl
      refine hK.out _ _ ?_
      clear hK K
      refine done_ (by kernel_rfl) ?_
      clear p0 p1 e0 e1 f0 f1 zr hHeld HD
      have hl0 := HST.out.l3
      have hx1 := HST.out.res.set 0 (.slice Y0 p.slots.length d0) (cs' := #[.slice Y0 p.slots.length d0, .slice none 0 0]) rfl
      have hx2 := (hx1.set 1 (.slice Y1 p.vols.length d1) (cs' := #[.slice Y0 p.slots.length d0, .slice Y1 p.vols.length d1]) rfl).bel (Below.refl _ _).drew
      have ho2 := ((HST.out.own.far HST.out.res (by decide) (by decide) (by decide) 0 (.slice Y0 p.slots.length d0)).far hx1 (by decide) (by decide) (by decide) 1 (.slice Y1 p.vols.length d1)).bel (Below.refl _ _).drew
      have hr2 := ((HST.out.rd.set (b := w.heap.size) hl0 0 (.slice Y0 p.slots.length d0)).set (b := w.heap.size) hl0 1 (.slice Y1 p.vols.length d1)).bel (Below.refl _ _).drew
      have hg2 := grown_tr (grown_new (grown_new HST.out.g (Nat.le_refl _) 0 (.slice Y0 p.slots.length d0)) (Nat.le_refl _) 1 (.slice Y1 p.vols.length d1)) (grown_drew _ _)
      go_wp2
      refine bodyPost_ret (results_tc rfl _ _ w.heap.size 30 #[.slice Y0 p.slots.length d0, .slice Y1 p.vols.length d1] (0, 0) _ rfl hx2 Try.underlying30 rfl (by kernel_rfl)) rfl ?_
      exact ⟨_, _, _, p, bvs, rfl, HP.out, ho2, hr2.more (by omega), hg2⟩
end Go.Proofs.Ytpobgjkmjlmafaa
/- l71Pool: a pool that is drawn. -/



namespace Go.Proofs.Ytpobgjkmjlmafaa
open Go.RowKit Go.Proofs.YtpobgjkmjlmafaaW.PrintWords Go.Proofs.YtpobgjkmjlmafaaW.PrintLast
set_option linter.unusedVariables false
set_option linter.unusedSimpArgs false

/-- What is known of a pool that is drawn: it may be out of form. -/
structure DrawnP (p : Pool) : Prop where
  small : SmallP p
  sl : p.slots.length = 8
  vl : p.vols.length ≤ 5
theorem PoolP.drawn {p : Pool} (h : PoolP p) : DrawnP p := ⟨h.small, h.s.len, by have := h.v.len; omega⟩
theorem DrawnP.setU {p : Pool} (h : DrawnP p) {m : Nat} {x : Slot} (hx : p.slots[m]? = some x) (u : Int) : DrawnP ⟨p.slots.set m ⟨x.text, u⟩, p.vols⟩ :=
  ⟨⟨⟨by rw [List.length_set]; exact h.small.slots.len, fun y hy => by
    rcases List.mem_or_eq_of_mem_set hy with hy | rfl
    · exact h.small.slots.text y hy
    · exact h.small.slots.text x (List.mem_of_getElem? hx)⟩, h.small.vols⟩, by show (p.slots.set m _).length = 8; rw [List.length_set]; exact h.sl, h.vl⟩
theorem DrawnP.setB {p : Pool} (h : DrawnP p) {m : Nat} {x : Vol} (hx : p.vols[m]? = some x) (b : Int) : DrawnP ⟨p.slots, p.vols.set m ⟨x.name, x.blocks.set 0 b⟩⟩ := by
  have hs := h.small.vols
  refine ⟨⟨h.small.slots, ⟨by rw [List.length_set]; exact hs.len, fun y hy => ?_, fun y hy => ?_⟩⟩, h.sl, by show (p.vols.set m _).length ≤ 5; rw [List.length_set]; exact h.vl⟩
  · rcases List.mem_or_eq_of_mem_set hy with hy | rfl
    · exact hs.blocks y hy
    · show (x.blocks.set 0 b).length ≤ _
      rw [List.length_set]; exact hs.blocks x (List.mem_of_getElem? hx)
  · rcases List.mem_or_eq_of_mem_set hy with hy | rfl
    · exact hs.name y hy
    · exact hs.name x (List.mem_of_getElem? hx)
theorem PoolP.addA {p : Pool} (h : PoolP p) : DrawnP ⟨p.slots, p.vols ++ [⟨⟨#[65]⟩, [0]⟩]⟩ := by
  have hs := h.small.vols
  have hl := h.v.len
  refine ⟨⟨h.small.slots, ⟨by simp; omega, fun y hy => ?_, fun y hy => ?_⟩⟩, h.s.len, by simp; omega⟩
  · rcases List.mem_append.1 hy with hy | hy
    · exact hs.blocks y hy
    · obtain rfl := List.mem_singleton.1 hy; decide
  · rcases List.mem_append.1 hy with hy | hy
    · exact hs.name y hy
    · obtain rfl := List.mem_singleton.1 hy; decide
/-- What l71Pool leaves. -/
def PoolOut (rb k d : Nat) (w : World) (e : Ending) (w' : World) : Prop := ∃ (v0 v1 : Value) (p : Pool) (bvs : List Value), e = .returned (.agg #[v0, v1]) ∧ DrawnP p ∧ OwnP w' w.heap.size v0 v1 p bvs ∧ Rd w' rb (k + d) ∧ w.grownBy w' (some rb)
theorem OpsSt.own' {w W W' : World} {rb k : Nat} {v0 v1 : Value} {p q : Pool} {bvs bvq : List Value} {pb : Nat} (h : OpsSt w W rb k v0 v1 p bvs pb 0 (.slice none 0 0) []) {g : Nat} {cs : Array Value} {t : TypeId} (hB : Blk W g cs t) (ht : t ≠ 30) (hw : w.heap.size ≤ g) (hg : W.grownBy W' (some g)) (hq : OwnP W' w.heap.size v0 v1 q bvq) : OpsSt w W' rb k v0 v1 q bvq pb 0 (.slice none 0 0) [] := by
  have ne : ∀ {b : Nat} {ds : Array Value}, Blk W b ds 30 → some b ≠ some g := fun hb e => by
    injection e with e
    subst e
    have := hB.symm.trans hb
    injection this with this
    injection this with _ this
    exact ht this
  have hl := h.l3
  exact ⟨h.res.grown hg (ne h.res), h.pool.grown hg (ne h.pool), h.rd.grown hg (fun b e => by injection e with e; omega), hq, World.ownsRow_nil _ _ _ _, grown_own h.g hg (fun k e => by injection e with e; omega), h.l2, h.l3⟩
set_option maxHeartbeats 16000000 in
set_option maxRecDepth 10000 in
theorem pool_c {w : World} {rb k : Nat} (h : Rd w rb k) (hk : k ≤ 1099510000000) :
    Calls Try.prog 78 #[.pointer (some ⟨rb, 0, none⟩)] w (PoolOut rb k 20010 w) := by
  have H := Lib.hid h
  have hlt := h.lt
  clear h
  go_enter Try.func78, Try.ntmps78
  go_wp2_with fail
  have hr0 : Blk (w.alloc (.cells #[.slice none 0 0, .slice none 0 0] 30)) w.heap.size #[.slice none 0 0, .slice none 0 0] 30 := Blk.new _ _ _
  have hW : Bel w (w.alloc (.cells #[.slice none 0 0, .slice none 0 0] 30)) := bel_alloc (Below.refl _ _) _
  generalize (w.alloc (.cells #[.slice none 0 0, .slice none 0 0] 30)) = W0 at hr0 hW ⊢
  refine (pick_c (H.out.bel hW) (by omega) 22 (by omega)).mono ?_
  rintro e w1 ⟨v, rfl, ⟨r, rfl, hp0, hp1, -⟩, hR1, hg1⟩
  have hp2 := hp1 (by omega)
  obtain ⟨n, rfl⟩ : ∃ n : Nat, r = n := ⟨r.toNat, by omega⟩
  have HR1 := Lib.hid (And.intro (hr0.grown hg1 (by intro e; injection e with e; omega)) (And.intro hR1 (grown_tr (grown_of_bel hW _) hg1)))
  have hwn : wrap64 (3 + (n : Int)) = 3 + (n : Int) := by unfold wrap64; omega
  clear hr0 hW hR1 hg1 hp1
  go_wp2_with fail
  have hops := ops_c HR1.out.2.1 (by omega) (3 + n) (by omega)
  rw [show (((3 + n : Nat) : Int)) = 3 + (n : Int) by omega] at hops
  refine hops.mono ?_
  rintro e w3 ⟨v7, v0, v1, p, bvs, rfl, hp, ho, hR3, hg3⟩
  obtain ⟨A0, A1, c0, c1, rfl, rfl, hpi⟩ := ho.reads
  obtain ⟨nv, hnv⟩ : ∃ nv, p.vols.length = nv := ⟨_, rfl⟩
  obtain ⟨ns, hns⟩ : ∃ ns, p.slots.length = ns := ⟨_, rfl⟩
  have hst : OpsSt w (w3.alloc (.cells #[.slice A0 p.slots.length c0, .slice A1 p.vols.length c1] 30)) rb (k + 20001) (.slice A0 p.slots.length c0) (.slice A1 p.vols.length c1) p bvs w3.heap.size 0 (.slice none 0 0) [] :=
    ⟨(HR1.out.1.grown hg3 (by intro e; injection e with e; omega)).alloc _, Blk.new _ _ _, (hR3.bel (bel_alloc (Below.refl _ _) _)).more (by omega), (ho.lower (HR1.out.2.2.size)).bel (bel_alloc (Below.refl _ _) _), World.ownsRow_nil _ _ _ _, grown_tr (grown_tr HR1.out.2.2 hg3) (grown_of_bel (bel_alloc (Below.refl _ _) _) _), (HR1.out.1.grown hg3 (by intro e; injection e with e; omega)).lt, hlt⟩
  have hns1 : 1 ≤ ns := by rw [← hns, hp.s.len]; omega
  have hns2 : ns ≤ 8 := by rw [← hns, hp.s.len]; omega
  have hnv2 : nv ≤ 4 := by rw [← hnv]; exact hp.v.len
  rw [hns, hnv] at hst ⊢
  have HN := Lib.hid (And.intro hns hnv)
  have HP := Lib.hid hp
  have HST := Lib.hid hst
  clear ho hpi hR3 hg3 hst hns hnv hp hops hwn
  go_wp2_with fail
  generalize (w3.alloc (.cells #[.slice A0 ns c0, .slice A1 nv c1] 30)) = W4 at HST ⊢
  obtain ⟨pb, hpb⟩ : ∃ pb, w3.heap.size = pb := ⟨_, rfl⟩
  rw [hpb] at HST ⊢
  clear hpb
  refine (pick_c HST.out.rd (by omega) 30 (by omega)).mono ?_
  rintro e w5 ⟨v, rfl, ⟨r, rfl, hr0, hr1, -⟩, hR5, hg5⟩
  have hr2 := hr1 (by omega)
  have HS5 := Lib.hid (HST.out.step hR5 hg5)
  clear hr1 hR5 hg5 HST HR1
  by_cases hra : r = 0
  · subst hra
    have hs5 := HS5.out
    have y0 := hs5.pool.cell 0
    have y1 := hs5.pool.cell 1
    simp at y0 y1
    clear hs5
    go_wp2
    have HS6 := Lib.hid (HS5.out.bel (Below.refl _ _).drew)
    refine start_ (n := 12) (S := fun w' => w'.cell? ⟨pb, 0, none⟩ = some (.slice A0 ns c0)) (ds := [11]) #[false, false, false, false, false, false, false, false, false, false, false, false] (by kernel_rfl) rfl rfl (y0) (fun hHeld => ?_)
    refine pure_ (i := 0) (N := some 18) (v := ?_) (a' := ?_) #[true, false, false, false, false, false, false, false, false, false, false, false] rfl rfl (by kernel_rfl) (fun _ _ _ h => h) (Or.inl ⟨by rfl, ?_⟩) ?_ ?_
    rotate_left
    · intro w'
      go_simp
      with_reducible rfl
    rotate_left
    · simp only [Act.put, List.setIfInBounds_toArray, List.set_cons_zero, List.set_cons_succ, i64_w, i32_w]
      rfl
    refine pure_ (i := 2) (N := some 20) (v := ?_) (a' := ?_) #[true, false, true, false, false, false, false, false, false, false, false, false] rfl rfl (by kernel_rfl) (fun _ _ _ h => h) (Or.inl ⟨by rfl, ?_⟩) ?_ ?_
    rotate_left
    · intro w'
      go_simp
      with_reducible rfl
    rotate_left
    · simp only [Act.put, List.setIfInBounds_toArray, List.set_cons_zero, List.set_cons_succ, i64_w, i32_w]
      rfl
    refine pure_ (i := 3) (N := some 21) (v := ?_) (a' := ?_) #[true, false, true, true, false, false, false, false, false, false, false, false] rfl rfl (by kernel_rfl) (fun _ _ _ h => h) (Or.inl ⟨by rfl, ?_⟩) ?_ ?_
    rotate_left
    · intro w'
      go_simp
      with_reducible rfl
    rotate_left
    · simp only [Act.put, List.setIfInBounds_toArray, List.set_cons_zero, List.set_cons_succ, i64_w, i32_w]
      rfl
    refine pure_ (i := 7) (N := some 25) (v := ?_) (a' := ?_) #[true, false, true, true, false, false, false, true, false, false, false, false] rfl rfl (by kernel_rfl) (fun _ _ _ h => h) (Or.inl ⟨by rfl, ?_⟩) ?_ ?_
    rotate_left
    · intro w'
      go_simp
      with_reducible rfl
    rotate_left
    · simp only [Act.put, List.setIfInBounds_toArray, List.set_cons_zero, List.set_cons_succ, i64_w, i32_w]
      rfl
    refine take_ (i := 1) (N := some 19) (v := ?_) (a' := ?_) #[true, true, true, true, false, false, false, true, false, false, false, false] rfl rfl (by kernel_rfl) (fun _ _ _ h => h) (Or.inl ⟨by rfl, ?_⟩) hHeld ?_ ?_
    rotate_left
    · intro w' s0
      go_simp
      with_reducible rfl
    rotate_left
    · simp only [Act.put, List.setIfInBounds_toArray, List.set_cons_zero, List.set_cons_succ, i64_w, i32_w]
      rfl
    refine take_ (i := 4) (N := some 22) (v := ?_) (a' := ?_) #[true, true, true, true, true, false, false, true, false, false, false, false] rfl rfl (by kernel_rfl) (fun _ _ _ h => h) (Or.inl ⟨by rfl, ?_⟩) hHeld ?_ ?_
    rotate_left
    · intro w' s0
      go_simp
      with_reducible rfl
    rotate_left
    · simp only [Act.put, List.setIfInBounds_toArray, List.set_cons_zero, List.set_cons_succ, i64_w, i32_w]
      rfl
    refine pure_ (i := 5) (N := some 23) (v := ?_) (a' := ?_) #[true, true, true, true, true, true, false, true, false, false, false, false] rfl rfl (by kernel_rfl) (fun _ _ _ h => h) (Or.inl ⟨by rfl, ?_⟩) ?_ ?_
    rotate_left
    · intro w'
      go_simp
      with_reducible rfl
    rotate_left
    · simp only [Act.put, List.setIfInBounds_toArray, List.set_cons_zero, List.set_cons_succ, i64_w, i32_w]
      rfl
    refine one_ (i := 6) (N := some 24) #[true, true, true, true, true, true, true, true, false, false, false, false] rfl rfl (by kernel_rfl) (by decide) (fun K hK => ?_)
    refine goes_ Try.func96 (by kernel_rfl) rfl #[.pointer (some ⟨rb, 0, none⟩), .int .i64 ns] (by rfl) rfl rfl (by simp only [List.map_toArray, List.map_cons, List.map_nil]; rfl) ?_
    with_reducible refine (pick_c (w := w5.drew) HS6.out.rd (by omega) ns (by omega)).mono ?_
    rintro e w7 ⟨v, rfl, ⟨r2, rfl, hr20, hr21, -⟩, hR7, hg7⟩
    have hr22 := hr21 (by omega)
    obtain ⟨i, rfl⟩ : ∃ i : Nat, r2 = i := ⟨r2.toNat, by omega⟩
    have hi : i < ns := by omega
    have HS7 := Lib.hid (HS6.out.step hR7 hg7)
    have z0 := HS7.out.pool.cell 0
    simp at z0
    clear hR7 hg7 hr21
    refine ⟨_, rfl, ?_⟩
    refine hK.out _ _ (z0) (fun hHeld => ?_)
    clear hK K
    refine norm_ (a' := ?_) ?_ ?_
    rotate_left
    · show Act.put _ (some 24) _ = _
      simp only [Act.put, List.setIfInBounds_toArray, List.set_cons_zero, List.set_cons_succ, i64_w, i32_w]
      rfl
    refine one_ (i := 8) (N := some 26) #[true, true, true, true, true, true, true, true, true, false, false, false] rfl rfl (by kernel_rfl) (by decide) (fun K hK => ?_)
    refine goes_ Try.func96 (by kernel_rfl) rfl #[.pointer (some ⟨rb, 0, none⟩), .int .i64 4] (by rfl) rfl rfl (by simp only [List.map_toArray, List.map_cons, List.map_nil]; rfl) ?_
    with_reducible refine (pick_c HS7.out.rd (by omega) 4 (by omega)).mono ?_
    rintro e w8 ⟨v, rfl, ⟨r3, rfl, hr30, hr31, -⟩, hR8, hg8⟩
    have hr32 := hr31 (by omega)
    have HS8 := Lib.hid (HS7.out.step hR8 hg8)
    obtain ⟨x, hx⟩ := getQ (show i < p.slots.length by rw [HN.out.1]; exact hi)
    obtain ⟨g, cap, ev, hg1, hg2, hcap, hc, hc', hf, hf'⟩ := HS8.out.own.s.at hx
    have ev2 := slice_eq ev
    clear ev hcap
    obtain ⟨rfl, -, rfl⟩ := ev2
    have z1 := HS8.out.pool.cell 0
    simp at z1
    have HX := Lib.hid hx
    clear hR8 hg8 hr31 hx
    refine ⟨_, rfl, ?_⟩
    refine hK.out _ _ (z1) (fun hHeld => ?_)
    clear hK K
    refine norm_ (a' := ?_) ?_ ?_
    rotate_left
    · show Act.put _ (some 26) _ = _
      simp only [Act.put, List.setIfInBounds_toArray, List.set_cons_zero, List.set_cons_succ, i64_w, i32_w]
      rfl
    refine pure_ (i := 9) (N := some 27) (v := ?_) (a' := ?_) #[true, true, true, true, true, true, true, true, true, true, false, false] rfl rfl (by kernel_rfl) (fun _ _ _ h => h) (Or.inl ⟨by rfl, ?_⟩) ?_ ?_
    rotate_left
    · intro w'
      go_simp
      with_reducible rfl
    rotate_left
    · simp only [Act.put, List.setIfInBounds_toArray, List.set_cons_zero, List.set_cons_succ, i64_w, i32_w]
      rfl
    refine pure_ (i := 10) (N := some 28) (v := ?_) (a' := ?_) #[true, true, true, true, true, true, true, true, true, true, true, false] rfl rfl (by kernel_rfl) (fun _ _ _ h => h) (Or.inl ⟨by rfl, ?_⟩) ?_ ?_
    rotate_left
    · intro w'
      go_simp
      with_reducible rfl
    rotate_left
    · simp only [Act.put, List.setIfInBounds_toArray, List.set_cons_zero, List.set_cons_succ, i64_w, i32_w]
      rfl
    refine last_ (i := 11) (N := none) #[true, true, true, true, true, true, true, true, true, true, true, true] rfl rfl (by kernel_rfl) (by decide) (fun K hK => ?_)
    refine skip_ (w1 := ?_) (by rfl) rfl ?_ ?_
    rotate_left
    · go_simp
      rfl
    refine hK.out _ _ ?_
    clear hK K
    refine done_ (by kernel_rfl) ?_
    have hos := HS8.out.own.s
    rw [← HN.out.1] at hos
    have hu := OwnS.setU hos HX.out r3
    obtain ⟨cs, hcs⟩ := own_type hos rfl
    have hq : OwnP _ w.heap.size _ _ ⟨p.slots.set i ⟨x.text, r3⟩, p.vols⟩ bvs := ⟨hu.1, HS8.out.own.v.otherS hos hu.2⟩
    rw [HN.out.1] at hq
    have HS9 := Lib.hid (HS8.out.own' hcs (by decide) hg1 hu.2 hq)
    have DP := Lib.hid (HP.out.drawn.setU HX.out r3)
    clear hos hu hcs hq z1 z0 y0 y1 hf hf' hc hc' hHeld
    generalize w8.setCell ⟨g, i * 2 + 1, none⟩ (.int .i64 r3) = W9 at HS9 ⊢
    have hsf := HS9.out
    have x0 := hsf.res.cell 0
    have x1 := hsf.res.cell 1
    have f0 := hsf.res.free 0
    have f1 := hsf.res.free 1
    have y0 := hsf.pool.cell 0
    have y1 := hsf.pool.cell 1
    have zr := hsf.res.lt
    simp at x0 x1 y0 y1
    clear hsf
    go_wp2
    have hsf := HS9.out
    have hl0 := hsf.l3
    have hx1 := hsf.res.set 0 (.slice (some ⟨g, 0, none⟩) ns c0) (cs' := #[.slice (some ⟨g, 0, none⟩) ns c0, .slice none 0 0]) rfl
    have hx2 := hx1.set 1 (.slice A1 nv c1) (cs' := #[.slice (some ⟨g, 0, none⟩) ns c0, .slice A1 nv c1]) rfl
    have ho2 := (hsf.own.far hsf.res (by decide) (by decide) (by decide) 0 (.slice (some ⟨g, 0, none⟩) ns c0)).far hx1 (by decide) (by decide) (by decide) 1 (.slice A1 nv c1)
    have hr2 := (hsf.rd.set (b := w.heap.size) hl0 0 (.slice (some ⟨g, 0, none⟩) ns c0)).set (b := w.heap.size) hl0 1 (.slice A1 nv c1)
    have hg2 := grown_new (grown_new hsf.g (Nat.le_refl _) 0 (.slice (some ⟨g, 0, none⟩) ns c0)) (Nat.le_refl _) 1 (.slice A1 nv c1)
    refine bodyPost_ret (results_cell_row rfl _ _ w.heap.size 30 #[.slice (some ⟨g, 0, none⟩) ns c0, .slice A1 nv c1] (0, 0) _ rfl hx2 Try.underlying30 rfl (by kernel_rfl)) rfl ?_
    exact ⟨_, _, _, bvs, rfl, DP.out, ho2, hr2.more (by omega), hg2⟩
  by_cases hrb : r = 1
  · subst hrb
    by_cases hv0 : nv = 0
    · subst hv0
      have DP := Lib.hid HP.out.drawn
      have hsf := HS5.out
      have x0 := hsf.res.cell 0
      have x1 := hsf.res.cell 1
      have f0 := hsf.res.free 0
      have f1 := hsf.res.free 1
      have y0 := hsf.pool.cell 0
      have y1 := hsf.pool.cell 1
      have zr := hsf.res.lt
      simp at x0 x1 y0 y1
      clear hsf
      go_wp2
      have hsf := HS5.out
      have hl0 := hsf.l3
      have hx1 := hsf.res.set 0 (.slice A0 ns c0) (cs' := #[.slice A0 ns c0, .slice none 0 0]) rfl
      have hx2 := hx1.set 1 (.slice A1 0 c1) (cs' := #[.slice A0 ns c0, .slice A1 0 c1]) rfl
      have ho2 := (hsf.own.far hsf.res (by decide) (by decide) (by decide) 0 (.slice A0 ns c0)).far hx1 (by decide) (by decide) (by decide) 1 (.slice A1 0 c1)
      have hr2 := (hsf.rd.set (b := w.heap.size) hl0 0 (.slice A0 ns c0)).set (b := w.heap.size) hl0 1 (.slice A1 0 c1)
      have hg2 := grown_new (grown_new hsf.g (Nat.le_refl _) 0 (.slice A0 ns c0)) (Nat.le_refl _) 1 (.slice A1 0 c1)
      refine bodyPost_ret (results_cell_row rfl _ _ w.heap.size 30 #[.slice A0 ns c0, .slice A1 0 c1] (0, 0) _ rfl hx2 Try.underlying30 rfl (by kernel_rfl)) rfl ?_
      exact ⟨_, _, p, bvs, rfl, DP.out, ho2, hr2.more (by omega), hg2⟩
    have hs5 := HS5.out
    have hv1 : 0 < nv := by omega
    have y0 := hs5.pool.cell 0
    have y1 := hs5.pool.cell 1
    simp at y0 y1
    clear hs5
    go_wp2_with fail
    refine (pick_c HS5.out.rd (by omega) nv (by omega)).mono ?_
    rintro e w6 ⟨v, rfl, ⟨r2, rfl, hr20, hr21, -⟩, hR6, hg6⟩
    have hr22 := hr21 (by omega)
    obtain ⟨i, rfl⟩ : ∃ i : Nat, r2 = i := ⟨r2.toNat, by omega⟩
    have hi : i < nv := by omega
    obtain ⟨x, hx⟩ := getQ (show i < p.vols.length by rw [HN.out.2]; exact hi)
    have HS6 := Lib.hid (HS5.out.step hR6 hg6)
    clear y0 y1 hR6 hg6 hr21
    obtain ⟨g, cap, bv, hbv, ev, hg1, hg2, hcap, hc, hc', hf, hf'⟩ := HS6.out.own.v.row.at hx
    have ev2 := slice_eq ev
    clear ev hcap
    obtain ⟨rfl, -, rfl⟩ := ev2
    obtain ⟨b0, hb0⟩ := getQ (show 0 < x.blocks.length by have := volOk_parts (HP.out.v.v i x hx); omega)
    obtain ⟨gb, cb, eb, hgb1, hgb2, hcb, hcc, hff⟩ := (HS6.out.own.v.inner i x bv hx hbv).at hb0
    subst eb
    obtain ⟨bl, hbl⟩ : ∃ bl, x.blocks.length = bl := ⟨_, rfl⟩
    have hbl1 : 0 < bl := by rw [← hbl]; have := volOk_parts (HP.out.v.v i x hx); omega
    rw [hbl] at hc' hbv
    have HX := Lib.hid (And.intro hx (And.intro hbv (And.intro hb0 hbl)))
    have y0 := HS6.out.pool.cell 0
    have y1 := HS6.out.pool.cell 1
    simp at y0 y1
    have hc2 : w6.drew.cell? ⟨g, i * 2 + 1, none⟩ = some (.slice (some ⟨gb, 0, none⟩) bl cb) := hc'
    clear hx hbv hb0 hbl hcb hcc hff hf hf' hc
    go_wp2
    have HS7 := Lib.hid (HS6.out.bel (Below.refl _ _).drew)
    refine start_ (n := 10) (S := fun w' => w'.cell? ⟨pb, 1, none⟩ = some (.slice (some ⟨g, 0, none⟩) nv c1) ∧ w'.cell? ⟨g, i * 2 + 1, none⟩ = some (.slice (some ⟨gb, 0, none⟩) bl cb)) (ds := [9]) #[false, false, false, false, false, false, false, false, false, false] (by kernel_rfl) rfl rfl ⟨y1, hc'⟩ (fun hHeld => ?_)
    refine pure_ (i := 0) (N := some 40) (v := ?_) (a' := ?_) #[true, false, false, false, false, false, false, false, false, false] rfl rfl (by kernel_rfl) (fun _ _ _ h => h) (Or.inl ⟨by rfl, ?_⟩) ?_ ?_
    rotate_left
    · intro w'
      go_simp
      with_reducible rfl
    rotate_left
    · simp only [Act.put, List.setIfInBounds_toArray, List.set_cons_zero, List.set_cons_succ, i64_w, i32_w]
      rfl
    refine pure_ (i := 2) (N := some 42) (v := ?_) (a' := ?_) #[true, false, true, false, false, false, false, false, false, false] rfl rfl (by kernel_rfl) (fun _ _ _ h => h) (Or.inl ⟨by rfl, ?_⟩) ?_ ?_
    rotate_left
    · intro w'
      go_simp
      with_reducible rfl
    rotate_left
    · simp only [Act.put, List.setIfInBounds_toArray, List.set_cons_zero, List.set_cons_succ, i64_w, i32_w]
      rfl
    refine pure_ (i := 6) (N := some 46) (v := ?_) (a' := ?_) #[true, false, true, false, false, false, true, false, false, false] rfl rfl (by kernel_rfl) (fun _ _ _ h => h) (Or.inl ⟨by rfl, ?_⟩) ?_ ?_
    rotate_left
    · intro w'
      go_simp
      with_reducible rfl
    rotate_left
    · simp only [Act.put, List.setIfInBounds_toArray, List.set_cons_zero, List.set_cons_succ, i64_w, i32_w]
      rfl
    refine take_ (i := 1) (N := some 41) (v := ?_) (a' := ?_) #[true, true, true, false, false, false, true, false, false, false] rfl rfl (by kernel_rfl) (fun _ _ _ h => h) (Or.inl ⟨by rfl, ?_⟩) hHeld ?_ ?_
    rotate_left
    · rintro w' ⟨s0, s1⟩
      go_simp
      with_reducible rfl
    rotate_left
    · simp only [Act.put, List.setIfInBounds_toArray, List.set_cons_zero, List.set_cons_succ, i64_w, i32_w]
      rfl
    refine pure_ (i := 3) (N := some 43) (v := ?_) (a' := ?_) #[true, true, true, true, false, false, true, false, false, false] rfl rfl (by kernel_rfl) (fun _ _ _ h => h) (Or.inl ⟨by rfl, ?_⟩) ?_ ?_
    rotate_left
    · intro w'
      go_simp
      with_reducible rfl
    rotate_left
    · simp only [Act.put, List.setIfInBounds_toArray, List.set_cons_zero, List.set_cons_succ, i64_w, i32_w]
      rfl
    refine pure_ (i := 4) (N := some 44) (v := ?_) (a' := ?_) #[true, true, true, true, true, false, true, false, false, false] rfl rfl (by kernel_rfl) (fun _ _ _ h => h) (Or.inl ⟨by rfl, ?_⟩) ?_ ?_
    rotate_left
    · intro w'
      go_simp
      with_reducible rfl
    rotate_left
    · simp only [Act.put, List.setIfInBounds_toArray, List.set_cons_zero, List.set_cons_succ, i64_w, i32_w]
      rfl
    refine take_ (i := 5) (N := some 45) (v := ?_) (a' := ?_) #[true, true, true, true, true, true, true, false, false, false] rfl rfl (by kernel_rfl) (fun _ _ _ h => h) (Or.inl ⟨by rfl, ?_⟩) hHeld ?_ ?_
    rotate_left
    · rintro w' ⟨s0, s1⟩
      go_simp
      with_reducible rfl
    rotate_left
    · simp only [Act.put, List.setIfInBounds_toArray, List.set_cons_zero, List.set_cons_succ, i64_w, i32_w]
      rfl
    refine one_ (i := 7) (N := some 47) #[true, true, true, true, true, true, true, true, false, false] rfl rfl (by kernel_rfl) (by decide) (fun K hK => ?_)
    refine goes_ Try.func96 (by kernel_rfl) rfl #[.pointer (some ⟨rb, 0, none⟩), .int .i64 10] (by rfl) rfl rfl (by simp only [List.map_toArray, List.map_cons, List.map_nil]; rfl) ?_
    with_reducible refine (pick_c (w := w6.drew) HS7.out.rd (by omega) 10 (by omega)).mono ?_
    rintro e w8 ⟨v, rfl, ⟨r3, rfl, hr30, hr31, -⟩, hR8, hg8⟩
    have hr32 := hr31 (by omega)
    have HS8 := Lib.hid (HS7.out.step hR8 hg8)
    obtain ⟨hx, hbv, hb0, hbl⟩ := HX.out
    rw [← hbl] at hbv
    obtain ⟨g', cap', bv', e1, e2, _, _, _, _, z2, _, _⟩ := HS8.out.own.v.row.at hx
    have e3 := slice_eq e2
    clear e2
    obtain ⟨e2, -, -⟩ := e3
    obtain rfl : g = g' := by simpa using e2
    obtain rfl := Option.some.inj (hbv.symm.trans e1)
    rw [hbl] at z2
    have hoi := HS8.out.own.v.inner i x _ hx hbv
    obtain ⟨gb', cb', eb, hgb3, hgb4, _, hcc, hff⟩ := hoi.at hb0
    have eb2 := slice_eq eb
    clear eb
    obtain ⟨eb3, -, -⟩ := eb2
    obtain rfl : gb = gb' := by simpa using eb3
    have z1 := HS8.out.pool.cell 1
    simp at z1
    clear hx hbv hb0 hbl e1 e2 eb3 hoi hR8 hg8 hr31
    refine ⟨_, rfl, ?_⟩
    refine hK.out _ _ ⟨z1, z2⟩ (fun hHeld => ?_)
    clear hK K
    refine norm_ (a' := ?_) ?_ ?_
    rotate_left
    · show Act.put _ (some 47) _ = _
      simp only [Act.put, List.setIfInBounds_toArray, List.set_cons_zero, List.set_cons_succ, i64_w, i32_w]
      rfl
    refine pure_ (i := 8) (N := some 48) (v := ?_) (a' := ?_) #[true, true, true, true, true, true, true, true, true, false] rfl rfl (by kernel_rfl) (fun _ _ _ h => h) (Or.inl ⟨by rfl, ?_⟩) ?_ ?_
    rotate_left
    · intro w'
      go_simp
      with_reducible rfl
    rotate_left
    · simp only [Act.put, List.setIfInBounds_toArray, List.set_cons_zero, List.set_cons_succ, i64_w, i32_w]
      rfl
    refine last_ (i := 9) (N := none) #[true, true, true, true, true, true, true, true, true, true] rfl rfl (by kernel_rfl) (by decide) (fun K hK => ?_)
    refine skip_ (w1 := ?_) (by rfl) rfl ?_ ?_
    rotate_left
    · go_simp
      rfl
    refine hK.out _ _ ?_
    clear hK K
    refine done_ (by kernel_rfl) ?_
    obtain ⟨hx, hbv, hb0, hbl⟩ := HX.out
    rw [← hbl] at hbv
    have hoi := HS8.out.own.v.inner i x _ hx hbv
    have hu := OwnI.set hoi hb0 r3
    obtain ⟨cs, hcs⟩ := own_type hoi rfl
    have hv2 := HS8.out.own.v.setI hx hbv (by have := hu.1; unfold OwnI at this ⊢; rw [List.length_set] at this ⊢; exact this) hu.2
    have hq : OwnP _ w.heap.size _ _ ⟨p.slots, p.vols.set i ⟨x.name, x.blocks.set 0 r3⟩⟩ bvs := ⟨own_other_type HS8.out.own.s hoi (by decide) hu.2, hv2⟩
    have HS9 := Lib.hid (HS8.out.own' hcs (by decide) hgb3 hu.2 hq)
    have DP := Lib.hid (HP.out.drawn.setB hx r3)
    clear hx hbv hb0 hbl hoi hu hcs hv2 hq z1 z2 y0 y1 hcc hff hc' hc2 hHeld
    generalize w8.setCell ⟨gb, 0, none⟩ (.int .i64 r3) = W9 at HS9 ⊢
    have hsf := HS9.out
    have x0 := hsf.res.cell 0
    have x1 := hsf.res.cell 1
    have f0 := hsf.res.free 0
    have f1 := hsf.res.free 1
    have y0 := hsf.pool.cell 0
    have y1 := hsf.pool.cell 1
    have zr := hsf.res.lt
    simp at x0 x1 y0 y1
    clear hsf
    go_wp2
    have hsf := HS9.out
    have hl0 := hsf.l3
    have hx1 := hsf.res.set 0 (.slice A0 ns c0) (cs' := #[.slice A0 ns c0, .slice none 0 0]) rfl
    have hx2 := hx1.set 1 (.slice (some ⟨g, 0, none⟩) nv c1) (cs' := #[.slice A0 ns c0, .slice (some ⟨g, 0, none⟩) nv c1]) rfl
    have ho2 := (hsf.own.far hsf.res (by decide) (by decide) (by decide) 0 (.slice A0 ns c0)).far hx1 (by decide) (by decide) (by decide) 1 (.slice (some ⟨g, 0, none⟩) nv c1)
    have hr2 := (hsf.rd.set (b := w.heap.size) hl0 0 (.slice A0 ns c0)).set (b := w.heap.size) hl0 1 (.slice (some ⟨g, 0, none⟩) nv c1)
    have hg2 := grown_new (grown_new hsf.g (Nat.le_refl _) 0 (.slice A0 ns c0)) (Nat.le_refl _) 1 (.slice (some ⟨g, 0, none⟩) nv c1)
    refine bodyPost_ret (results_cell_row rfl _ _ w.heap.size 30 #[.slice A0 ns c0, .slice (some ⟨g, 0, none⟩) nv c1] (0, 0) _ rfl hx2 Try.underlying30 rfl (by kernel_rfl)) rfl ?_
    exact ⟨_, _, _, bvs, rfl, DP.out, ho2, hr2.more (by omega), hg2⟩
  by_cases hrc : r = 2
  · subst hrc
    have hs5 := HS5.out
    have y0 := hs5.pool.cell 0
    have y1 := hs5.pool.cell 1
    have f0 := hs5.pool.free 0
    have f1 := hs5.pool.free 1
    have hzp := hs5.pool.lt
    simp at y0 y1
    have hl2 := hs5.l2
    have hsz := hs5.g.size
    have hn1 : ¬ pb = w.heap.size := by omega
    have hn2 : ¬ w.heap.size = pb := by omega
    have hrow : (w5.alloc (.cells #[.int .i64 0] 3)).ownsRow w.heap.size 43 2 (.slice A1 nv c1) nv ((p.vols.zip bvs).flatMap encV) := by
      have := (hs5.own.bel (bel_alloc (Below.refl _ _) (.cells #[.int .i64 0] 3))).v.row.row
      rw [HN.out.2] at this
      exact this
    have HROW := Lib.hid hrow
    have hoi : OwnI (w5.alloc (.cells #[.int .i64 0] 3)) w.heap.size (.slice (some ⟨w5.heap.size, 0, none⟩) 1 1) [0] := World.ownsRow_lit (base := w.heap.size) (e := 3) (size := 1) w5 #[.int .i64 0] 1 hsz (by unfold maxLen; omega) rfl
    have HOI := Lib.hid hoi
    clear hs5 hrow hoi
    go_wp2_with (at_builtin; refine print_append_cells (w0 := (w5.alloc (.cells #[.int .i64 0] 3))) w.heap.size rfl (.tmp 52) (.tmp 55) 28 43 (.agg #[.string ⟨#[]⟩, .slice none 0 0]) 2 40 rfl Try.underlying28 info_vol rfl (by decide) (by decide) _ nv ((p.vols.zip bvs).flatMap encV) [.string ⟨#[65]⟩, .slice (some ⟨w5.heap.size, 0, none⟩) 1 1] rfl (by show Value.slice (some ⟨_, 0, none⟩) 1 1 = Value.slice (some ⟨_, 0, none⟩) 1 1; simp) rfl (by intro u hu; simp at hu; rcases hu with rfl | rfl <;> rfl) HROW.out (Below.refl _ _) (by simp; omega) (by omega) ?_; intro v2 w8 hr2 hbq hgq hat2; obtain ⟨A9, c9, rfl, hc9⟩ := own_cap hr2; have hp8 := Blk.grown (HS5.out.pool.alloc (.cells #[.int .i64 0] 3)) hgq (own_blk_ne HROW.out (HS5.out.pool.alloc _) (by decide)); have hs8 := Blk.grown (HS5.out.res.alloc (.cells #[.int .i64 0] 3)) hgq (own_blk_ne HROW.out (HS5.out.res.alloc _) (by decide)); have g0 := hp8.free 0; have g1 := hp8.free 1; have z0 := hp8.cell 0; have z1 := hp8.cell 1; have zl := hp8.lt; have x0 := hs8.cell 0; have x1 := hs8.cell 1; have u0 := hs8.free 0; have u1 := hs8.free 1; have zr := hs8.lt; simp at z0 z1 x0 x1; have HX8 := Lib.hid (And.intro (And.intro hp8 hs8) (And.intro hr2 hgq)); clear hp8 hs8 hr2 hbq hgq hat2)
    have hl3 := HS5.out.l3
    obtain ⟨⟨hp8, hs8⟩, hr2, hgq⟩ := HX8.out
    have hb5 : Bel w5 (w5.alloc (.cells #[.int .i64 0] 3)) := bel_alloc (Below.refl _ _) _
    have hov : OwnV w8 w.heap.size (.slice A9 (nv + 1) c9) (p.vols ++ [⟨⟨#[65]⟩, [0]⟩]) (bvs ++ [.slice (some ⟨w5.heap.size, 0, none⟩) 1 1]) :=
      OwnV.push (HS5.out.own.v.bel hb5) HOI.out (fun m b' k' hb hk e => by
        have h1 := HS5.out.own.v.inner_lt hb hk
        have h2 : w5.heap.size = k' := by simpa [Value.ownBlock] using e
        omega) hgq (by rw [HN.out.2]; exact hr2)
    have hos : OwnS w8 w.heap.size (.slice A0 ns c0) p.slots := own_other_type (HS5.out.own.s.bel hb5) HROW.out (by decide) hgq
    have HS9 : OpsSt w (w8.setCell ⟨pb, 1, none⟩ (.slice A9 (nv + 1) c9)) rb _ (.slice A0 ns c0) (.slice A9 (nv + 1) c9) ⟨p.slots, p.vols ++ [⟨⟨#[65]⟩, [0]⟩]⟩ (bvs ++ [.slice (some ⟨w5.heap.size, 0, none⟩) 1 1]) pb 0 (.slice none 0 0) [] :=
      ⟨hs8.apart (by omega) 1 _, hp8.set 1 (.slice A9 (nv + 1) c9) rfl, ((HS5.out.rd.bel hb5).grown hgq (fun b e => by have := own_base HROW.out b e; omega)).set (Nat.lt_trans hl3 hl2) 1 (.slice A9 (nv + 1) c9), (show OwnP w8 w.heap.size (.slice A0 ns c0) (.slice A9 (nv + 1) c9) ⟨p.slots, p.vols ++ [⟨⟨#[65]⟩, [0]⟩]⟩ (bvs ++ [.slice (some ⟨w5.heap.size, 0, none⟩) 1 1]) from ⟨hos, hov⟩).far hp8 (by decide) (by decide) (by decide) 1 (.slice A9 (nv + 1) c9), World.ownsRow_nil _ _ _ _, grown_new (grown_own (grown_tr HS5.out.g (grown_of_bel hb5 _)) hgq (own_base HROW.out)) (Nat.le_of_lt hl2) 1 (.slice A9 (nv + 1) c9), hl2, hl3⟩
    have DP := HP.out.addA
    have hsf := HS9
    have hl0 := hsf.l3
    have hx1 := hsf.res.set 0 (.slice A0 ns c0) (cs' := #[.slice A0 ns c0, .slice none 0 0]) rfl
    have hx2 := hx1.set 1 (.slice A9 (nv + 1) c9) (cs' := #[.slice A0 ns c0, .slice A9 (nv + 1) c9]) rfl
    have ho2 := (hsf.own.far hsf.res (by decide) (by decide) (by decide) 0 (.slice A0 ns c0)).far hx1 (by decide) (by decide) (by decide) 1 (.slice A9 (nv + 1) c9)
    have hr2 := (hsf.rd.set (b := w.heap.size) hl0 0 (.slice A0 ns c0)).set (b := w.heap.size) hl0 1 (.slice A9 (nv + 1) c9)
    have hg2 := grown_new (grown_new hsf.g (Nat.le_refl _) 0 (.slice A0 ns c0)) (Nat.le_refl _) 1 (.slice A9 (nv + 1) c9)
    refine bodyPost_ret (results_cell_row rfl _ _ w.heap.size 30 #[.slice A0 ns c0, .slice A9 (nv + 1) c9] (0, 0) _ rfl hx2 Try.underlying30 rfl (by kernel_rfl)) rfl ?_
    exact ⟨_, _, _, _, rfl, DP, ho2, hr2.more (by omega), hg2⟩
  have DP := Lib.hid HP.out.drawn
  have hsf := HS5.out
  have x0 := hsf.res.cell 0
  have x1 := hsf.res.cell 1
  have f0 := hsf.res.free 0
  have f1 := hsf.res.free 1
  have y0 := hsf.pool.cell 0
  have y1 := hsf.pool.cell 1
  have zr := hsf.res.lt
  simp at x0 x1 y0 y1
  clear hsf
  go_wp2
  have hsf := HS5.out
  have hl0 := hsf.l3
  have hx1 := hsf.res.set 0 (.slice A0 ns c0) (cs' := #[.slice A0 ns c0, .slice none 0 0]) rfl
  have hx2 := hx1.set 1 (.slice A1 nv c1) (cs' := #[.slice A0 ns c0, .slice A1 nv c1]) rfl
  have ho2 := (hsf.own.far hsf.res (by decide) (by decide) (by decide) 0 (.slice A0 ns c0)).far hx1 (by decide) (by decide) (by decide) 1 (.slice A1 nv c1)
  have hr2 := (hsf.rd.set (b := w.heap.size) hl0 0 (.slice A0 ns c0)).set (b := w.heap.size) hl0 1 (.slice A1 nv c1)
  have hg2 := grown_new (grown_new hsf.g (Nat.le_refl _) 0 (.slice A0 ns c0)) (Nat.le_refl _) 1 (.slice A1 nv c1)
  refine bodyPost_ret (results_cell_row rfl _ _ w.heap.size 30 #[.slice A0 ns c0, .slice A1 nv c1] (0, 0) _ rfl hx2 Try.underlying30 rfl (by kernel_rfl)) rfl ?_
  exact ⟨_, _, p, bvs, rfl, DP.out, ho2, hr2.more (by omega), hg2⟩
end Go.Proofs.Ytpobgjkmjlmafaa
/- l71Name: a name that is drawn. -/

namespace Go.Proofs.Ytpobgjkmjlmafaa
open Go.RowKit Go.Proofs.YtpobgjkmjlmafaaW.PrintWords Go.Proofs.YtpobgjkmjlmafaaW.PrintLast
set_option linter.unusedVariables false
set_option linter.unusedSimpArgs false

def NameV (v : Value) : Prop := ∃ s : ByteArray, v = .string s ∧ s.size ≤ 1048576
structure NmSt (w W : World) (rb k base : Nat) (v0 v1 : Value) (p : Pool) (bvs : List Value) : Prop where
  box : Blk W w.heap.size #[v0, v1] 30
  rd : Rd W rb k
  own : OwnP W base v0 v1 p bvs
  g : w.grownBy W (some rb)
  l3 : rb < w.heap.size
theorem NmSt.step {w W W' : World} {rb k k' base : Nat} {v0 v1 : Value} {p : Pool} {bvs : List Value} (h : NmSt w W rb k base v0 v1 p bvs) (hR : Rd W' rb k') (hg : W.grownBy W' (some rb)) : NmSt w W' rb k' base v0 v1 p bvs :=
  ⟨h.box.grown hg (fun e => by injection e with e; have := h.l3; omega), hR, h.own.rd h.rd hg, grown_tr h.g hg, h.l3⟩
theorem NmSt.bel {w W W' : World} {rb k base : Nat} {v0 v1 : Value} {p : Pool} {bvs : List Value} (h : NmSt w W rb k base v0 v1 p bvs) (hb : Bel W W') : NmSt w W' rb k base v0 v1 p bvs :=
  ⟨h.box.bel hb, h.rd.bel hb, h.own.bel hb, grown_tr h.g (grown_of_bel hb _), h.l3⟩
def five : List ByteArray := [sOf [65], sOf [66], sOf [67], sOf [68], sOf [69]]
theorem five_size {s : ByteArray} (h : s ∈ five) : s.size ≤ 1048576 := by
  simp only [five, List.mem_cons, List.not_mem_nil, or_false] at h
  rcases h with rfl | rfl | rfl | rfl | rfl <;> decide
set_option maxHeartbeats 8000000 in
set_option maxRecDepth 10000 in
theorem name_c {w : World} {rb k base : Nat} {v0 v1 : Value} {p : Pool} {bvs : List Value} (h : Rd w rb k) (hk : k ≤ 1099511000000) (ho : OwnP w base v0 v1 p bvs) (hp : DrawnP p) :
    Calls Try.prog 90 #[.pointer (some ⟨rb, 0, none⟩), .agg #[v0, v1]] w (Drawn rb k 2 NameV w) := by
  have hlt := h.lt
  obtain ⟨A0, A1, c0, c1, rfl, rfl, hpi⟩ := ho.reads
  obtain ⟨nv, hnv⟩ : ∃ nv, p.vols.length = nv := ⟨_, rfl⟩
  have hnv2 : nv ≤ 5 := by rw [← hnv]; exact hp.vl
  have hst : NmSt w (w.alloc (.cells #[.slice A0 p.slots.length c0, .slice A1 p.vols.length c1] 30)) rb k base (.slice A0 p.slots.length c0) (.slice A1 p.vols.length c1) p bvs := ⟨Blk.new _ _ _, h.bel (bel_alloc (Below.refl _ _) _), ho.bel (bel_alloc (Below.refl _ _) _), grown_of_bel (bel_alloc (Below.refl _ _) _) _, hlt⟩
  rw [hnv] at hst ⊢
  have HN := Lib.hid hnv
  have HP := Lib.hid hp
  have HST := Lib.hid hst
  clear h ho hp hpi hst hnv
  by_cases hv0 : nv = 0
  · subst hv0
    go_enter Try.func90, Try.ntmps90
    go_wp2_with fail
    have hz : w.heap.size + 1 = (w.alloc (.cells #[.slice A0 p.slots.length c0, .slice A1 0 c1] 30)).heap.size := by simp
    generalize w.alloc (.cells #[.slice A0 p.slots.length c0, .slice A1 0 c1] 30) = W0 at HST hz ⊢
    rw [hz]
    have hB : Blk (W0.alloc (.cells #[.string ⟨#[65]⟩, .string ⟨#[66]⟩, .string ⟨#[67]⟩, .string ⟨#[68]⟩, .string ⟨#[69]⟩] 9)) W0.heap.size (five.map Value.string).toArray 9 := Blk.new W0 _ _
    have hne : W0.heap.size ≠ rb := by have := HST.out.rd.lt; omega
    refine (of_c (HST.out.rd.bel (bel_alloc (Below.refl _ _) _)) (by omega) hB hne (by decide) (by decide) 5 5 rfl (by omega)).mono ?_
    rintro e w9 ⟨v, rfl, ⟨nm2, rfl, hnm2⟩, hR9, hg9⟩
    have HF := Lib.hid (And.intro (five_size hnm2) (And.intro hR9 (grown_tr HST.out.g (grown_tr (grown_of_bel (bel_alloc (Below.refl _ _) _) _) hg9))))
    clear hB hne hnm2 hR9 hg9
    go_wp2
    go_ret
    exact ⟨_, rfl, ⟨_, rfl, HF.out.1⟩, HF.out.2.1.more (by omega), HF.out.2.2⟩
  have hv1 : 0 < nv := by omega
  go_enter Try.func90, Try.ntmps90
  go_wp2_with fail
  generalize w.alloc (.cells #[.slice A0 p.slots.length c0, .slice A1 nv c1] 30) = W0 at HST ⊢
  refine (pick_c HST.out.rd (by omega) 8 (by omega)).mono ?_
  rintro e w1 ⟨v, rfl, ⟨r, rfl, hr0, hr1, -⟩, hR1, hg1⟩
  have HS1 := Lib.hid (HST.out.step hR1 hg1)
  clear hR1 hg1 hr1
  by_cases hr : r = 0
  · subst hr
    go_wp2_with fail
    have hB : Blk (w1.alloc (.cells #[.string ⟨#[65]⟩, .string ⟨#[66]⟩, .string ⟨#[67]⟩, .string ⟨#[68]⟩, .string ⟨#[69]⟩] 9)) w1.heap.size (five.map Value.string).toArray 9 := Blk.new w1 _ _
    have hne : w1.heap.size ≠ rb := by have := HS1.out.rd.lt; omega
    refine (of_c (HS1.out.rd.bel (bel_alloc (Below.refl _ _) _)) (by omega) hB hne (by decide) (by decide) 5 5 rfl (by omega)).mono ?_
    rintro e w9 ⟨v, rfl, ⟨nm2, rfl, hnm2⟩, hR9, hg9⟩
    have HF := Lib.hid (And.intro (five_size hnm2) (And.intro hR9 (grown_tr HS1.out.g (grown_tr (grown_of_bel (bel_alloc (Below.refl _ _) _) _) hg9))))
    clear hB hne hnm2 hR9 hg9
    go_wp2
    go_ret
    exact ⟨_, rfl, ⟨_, rfl, HF.out.1⟩, HF.out.2.1.more (by omega), HF.out.2.2⟩
  have hr3 : 0 < r := by omega
  have y1 := HS1.out.box.cell 1
  simp at y1
  go_wp2
  have HS2 := Lib.hid (HS1.out.bel (Below.refl _ _).drew)
  refine start_ (n := 11) (S := fun w' => w'.cell? ⟨w.heap.size, 1, none⟩ = some (.slice A1 nv c1)) (ds := []) #[false, false, false, false, false, false, false, false, false, false, false] (by kernel_rfl) rfl rfl (y1) (fun hHeld => ?_)
  refine pure_ (i := 0) (N := some 14) (v := ?_) (a' := ?_) #[true, false, false, false, false, false, false, false, false, false, false] rfl rfl (by kernel_rfl) (fun _ _ _ h => h) (Or.inl ⟨by rfl, ?_⟩) ?_ ?_
  rotate_left
  · intro w'
    go_simp
    with_reducible rfl
  rotate_left
  · simp only [Act.put, List.setIfInBounds_toArray, List.set_cons_zero, List.set_cons_succ, i64_w, i32_w]
    rfl
  refine pure_ (i := 2) (N := some 16) (v := ?_) (a' := ?_) #[true, false, true, false, false, false, false, false, false, false, false] rfl rfl (by kernel_rfl) (fun _ _ _ h => h) (Or.inl ⟨by rfl, ?_⟩) ?_ ?_
  rotate_left
  · intro w'
    go_simp
    with_reducible rfl
  rotate_left
  · simp only [Act.put, List.setIfInBounds_toArray, List.set_cons_zero, List.set_cons_succ, i64_w, i32_w]
    rfl
  refine pure_ (i := 3) (N := some 17) (v := ?_) (a' := ?_) #[true, false, true, true, false, false, false, false, false, false, false] rfl rfl (by kernel_rfl) (fun _ _ _ h => h) (Or.inl ⟨by rfl, ?_⟩) ?_ ?_
  rotate_left
  · intro w'
    go_simp
    with_reducible rfl
  rotate_left
  · simp only [Act.put, List.setIfInBounds_toArray, List.set_cons_zero, List.set_cons_succ, i64_w, i32_w]
    rfl
  refine take_ (i := 1) (N := some 15) (v := ?_) (a' := ?_) #[true, true, true, true, false, false, false, false, false, false, false] rfl rfl (by kernel_rfl) (fun _ _ _ h => h) (Or.inl ⟨by rfl, ?_⟩) hHeld ?_ ?_
  rotate_left
  · intro w' s0
    go_simp
    with_reducible rfl
  rotate_left
  · simp only [Act.put, List.setIfInBounds_toArray, List.set_cons_zero, List.set_cons_succ, i64_w, i32_w]
    rfl
  refine take_ (i := 4) (N := some 18) (v := ?_) (a' := ?_) #[true, true, true, true, true, false, false, false, false, false, false] rfl rfl (by kernel_rfl) (fun _ _ _ h => h) (Or.inl ⟨by rfl, ?_⟩) hHeld ?_ ?_
  rotate_left
  · intro w' s0
    go_simp
    with_reducible rfl
  rotate_left
  · simp only [Act.put, List.setIfInBounds_toArray, List.set_cons_zero, List.set_cons_succ, i64_w, i32_w]
    rfl
  refine pure_ (i := 5) (N := some 19) (v := ?_) (a' := ?_) #[true, true, true, true, true, true, false, false, false, false, false] rfl rfl (by kernel_rfl) (fun _ _ _ h => h) (Or.inl ⟨by rfl, ?_⟩) ?_ ?_
  rotate_left
  · intro w'
    go_simp
    with_reducible rfl
  rotate_left
  · simp only [Act.put, List.setIfInBounds_toArray, List.set_cons_zero, List.set_cons_succ, i64_w, i32_w]
    rfl
  refine one_ (i := 6) (N := some 20) #[true, true, true, true, true, true, true, false, false, false, false] rfl rfl (by kernel_rfl) (by decide) (fun K hK => ?_)
  refine goes_ Try.func96 (by kernel_rfl) rfl #[.pointer (some ⟨rb, 0, none⟩), .int .i64 nv] (by rfl) rfl rfl (by simp only [List.map_toArray, List.map_cons, List.map_nil]; rfl) ?_
  with_reducible refine (pick_c (w := w1.drew) HS2.out.rd (by omega) nv (by omega)).mono ?_
  rintro e w3 ⟨v, rfl, ⟨r2, rfl, hr20, hr21, -⟩, hR3, hg3⟩
  have hr22 := hr21 (by omega)
  obtain ⟨i, rfl⟩ : ∃ i : Nat, r2 = i := ⟨r2.toNat, by omega⟩
  have hi : i < nv := by omega
  have HS3 := Lib.hid (HS2.out.step hR3 hg3)
  obtain ⟨x, hx⟩ := getQ (show i < p.vols.length by rw [HN.out]; exact hi)
  obtain ⟨g, cap, bv, hbv, ev, hg1, hg2, hcap, hc, hc', hf, hf'⟩ := HS3.out.own.v.row.at hx
  have ev2 := slice_eq ev
  clear ev hcap
  obtain ⟨rfl, -, rfl⟩ := ev2
  have z1 := HS3.out.box.cell 1
  simp at z1
  have HX := Lib.hid hx
  clear hR3 hg3 hr21 hbv hc' hf hf' hx
  refine ⟨_, rfl, ?_⟩
  refine hK.out _ _ (z1) (fun hHeld => ?_)
  clear hK K
  refine norm_ (a' := ?_) ?_ ?_
  rotate_left
  · show Act.put _ (some 20) _ = _
    simp only [Act.put, List.setIfInBounds_toArray, List.set_cons_zero, List.set_cons_succ, i64_w, i32_w]
    rfl
  refine pure_ (i := 7) (N := some 21) (v := ?_) (a' := ?_) #[true, true, true, true, true, true, true, true, false, false, false] rfl rfl (by kernel_rfl) (fun _ _ _ h => h) (Or.inl ⟨by rfl, ?_⟩) ?_ ?_
  rotate_left
  · intro w'
    go_simp
    with_reducible rfl
  rotate_left
  · simp only [Act.put, List.setIfInBounds_toArray, List.set_cons_zero, List.set_cons_succ, i64_w, i32_w]
    rfl
  refine pure_ (i := 8) (N := some 22) (v := ?_) (a' := ?_) #[true, true, true, true, true, true, true, true, true, false, false] rfl rfl (by kernel_rfl) (fun _ _ _ h => h) (Or.inl ⟨by rfl, ?_⟩) ?_ ?_
  rotate_left
  · intro w'
    go_simp
    with_reducible rfl
  rotate_left
  · simp only [Act.put, List.setIfInBounds_toArray, List.set_cons_zero, List.set_cons_succ, i64_w, i32_w]
    rfl
  refine one_ (i := 9) (N := some 23) #[true, true, true, true, true, true, true, true, true, true, false] rfl rfl (by kernel_rfl) (by decide) (fun K hK => ?_)
  refine value_ (w1 := ?_) (v := ?_) (by rfl) rfl ?_ ?_
  rotate_left 2
  · go_simp
    constructor
    · rfl
    · rfl
  refine hK.out _ _ (z1) (fun hHeld => ?_)
  clear hK K
  refine norm_ (a' := ?_) ?_ ?_
  rotate_left
  · show Act.put _ (some 23) _ = _
    simp only [Act.put, List.setIfInBounds_toArray, List.set_cons_zero, List.set_cons_succ, i64_w, i32_w]
    rfl
  refine pure_ (i := 10) (N := some 4) (v := ?_) (a' := ?_) #[true, true, true, true, true, true, true, true, true, true, true] rfl rfl (by kernel_rfl) (fun _ _ _ h => h) (Or.inl ⟨by rfl, ?_⟩) ?_ ?_
  rotate_left
  · intro w'
    go_simp
    with_reducible rfl
  rotate_left
  · simp only [Act.put, List.setIfInBounds_toArray, List.set_cons_zero, List.set_cons_succ, i64_w, i32_w]
    rfl
  refine done_ (by kernel_rfl) ?_
  go_wp2
  go_ret
  exact ⟨_, rfl, ⟨_, rfl, HP.out.small.vols.name x (List.mem_of_getElem? HX.out)⟩, HS3.out.rd.more (by omega), HS3.out.g⟩
end Go.Proofs.Ytpobgjkmjlmafaa
/- DrawPoolText, DrawPoolGone. -/

namespace Go.Proofs.Ytpobgjkmjlmafaa
open Go.RowKit Go.Proofs.YtpobgjkmjlmafaaW.PrintWords Go.Proofs.YtpobgjkmjlmafaaW.PrintLast
set_option linter.unusedVariables false
set_option linter.unusedSimpArgs false

theorem bel_of_grown {w w1 w2 : World} (h : Bel w w1) {rb : Nat} (hg : w1.grownBy w2 (some rb)) (hr : w.heap.size ≤ rb) : Bel w w2 := h.grown hg h.size (fun k e => by injection e with e; omega)
/-- What DrawPoolText leaves. -/
def DrewT (w : World) (e : Ending) (w' : World) : Prop := ∃ (v0 v1 : Value) (p : Pool) (bvs : List Value), e = .returned (.agg #[v0, v1]) ∧ DrawnP p ∧ OwnP w' w.heap.size v0 v1 p bvs ∧ Bel w w'
set_option maxHeartbeats 8000000 in
set_option maxRecDepth 10000 in
theorem drawText_c {w : World} {A : Option Addr} {n c : Nat} {bs : List Int} (h : CodeIn w A n c bs) (hn : n ≤ 9223372036854775807) :
    Calls Try.prog 31 #[.slice A n c] w (DrewT w) := by
  have H := Lib.hid h
  clear h
  go_enter Try.func31, Try.ntmps31
  go_wp2_with fail
  have hr0 : Blk (w.alloc (.cells #[.slice none 0 0, .slice none 0 0] 30)) w.heap.size #[.slice none 0 0, .slice none 0 0] 30 := Blk.new _ _ _
  have hW : Bel w (w.alloc (.cells #[.slice none 0 0, .slice none 0 0] 30)) := bel_alloc (Below.refl _ _) _
  generalize (w.alloc (.cells #[.slice none 0 0, .slice none 0 0] 30)) = W0 at hr0 hW ⊢
  refine (open_c (H.out.bel hW) hn).mono ?_
  rintro e w1 ⟨rb, rfl, hR1, hrb, hb1⟩
  have hrb2 : w.heap.size < rb := Nat.lt_of_lt_of_le hr0.lt hrb
  have HR1 := Lib.hid (And.intro (hr0.bel hb1) (And.intro hR1 (hW.tr hb1)))
  clear hr0 hW hR1 hb1
  go_wp2_with fail
  refine (pool_c HR1.out.2.1 (by omega)).mono ?_
  rintro e w2 ⟨v0, v1, p, bvs, rfl, hp, ho, hR2, hg2⟩
  obtain ⟨A0, A1, c0, c1, rfl, rfl, hpi⟩ := ho.reads
  have hB2 := HR1.out.1.grown hg2 (by intro e; injection e with e; omega)
  have hb2 := bel_of_grown HR1.out.2.2 hg2 (by omega)
  have HX := Lib.hid (And.intro hp (And.intro (ho.lower HR1.out.2.2.size) (And.intro hB2 hb2)))
  have x0 := hB2.cell 0
  have x1 := hB2.cell 1
  have f0 := hB2.free 0
  have f1 := hB2.free 1
  have zr := hB2.lt
  simp at x0 x1
  clear hp ho hR2 hg2 hB2 hb2 hpi
  go_wp2
  have hx1 := HX.out.2.2.1.set 0 (.slice A0 p.slots.length c0) (cs' := #[.slice A0 p.slots.length c0, .slice none 0 0]) rfl
  have hx2 := hx1.set 1 (.slice A1 p.vols.length c1) (cs' := #[.slice A0 p.slots.length c0, .slice A1 p.vols.length c1]) rfl
  have ho2 := (HX.out.2.1.far HX.out.2.2.1 (by decide) (by decide) (by decide) 0 (.slice A0 p.slots.length c0)).far hx1 (by decide) (by decide) (by decide) 1 (.slice A1 p.vols.length c1)
  have hb5 := bel_set (bel_set HX.out.2.2.2 (Nat.le_refl _) 0 (.slice A0 p.slots.length c0)) (Nat.le_refl _) 1 (.slice A1 p.vols.length c1)
  refine bodyPost_ret (results_cell_row rfl _ _ w.heap.size 30 #[.slice A0 p.slots.length c0, .slice A1 p.vols.length c1] (0, 0) _ rfl hx2 Try.underlying30 rfl (by kernel_rfl)) rfl ?_
  exact ⟨_, _, p, bvs, rfl, HX.out.1, ho2, hb5⟩
structure DrSt (w W : World) (rb k : Nat) (v0 v1 : Value) (p : Pool) (bvs : List Value) (pb : Nat) : Prop where
  res : Blk W w.heap.size #[.slice none 0 0, .slice none 0 0] 30
  pool : Blk W pb #[v0, v1] 30
  rd : Rd W rb k
  own : OwnP W w.heap.size v0 v1 p bvs
  bel : Bel w W
  l1 : w.heap.size < rb
  l2 : rb < pb
theorem DrSt.step {w W W' : World} {rb k k' : Nat} {v0 v1 : Value} {p : Pool} {bvs : List Value} {pb : Nat} (h : DrSt w W rb k v0 v1 p bvs pb) (hR : Rd W' rb k') (hg : W.grownBy W' (some rb)) : DrSt w W' rb k' v0 v1 p bvs pb :=
  ⟨h.res.grown hg (fun e => by injection e with e; have := h.l1; omega), h.pool.grown hg (fun e => by injection e with e; have := h.l2; omega), hR, h.own.rd h.rd hg, bel_of_grown h.bel hg (Nat.le_of_lt h.l1), h.l1, h.l2⟩
theorem DrSt.below {w W W' : World} {rb k : Nat} {v0 v1 : Value} {p : Pool} {bvs : List Value} {pb : Nat} (h : DrSt w W rb k v0 v1 p bvs pb) (hb : Bel W W') : DrSt w W' rb k v0 v1 p bvs pb :=
  ⟨h.res.bel hb, h.pool.bel hb, h.rd.bel hb, h.own.bel hb, h.bel.tr hb, h.l1, h.l2⟩
/-- What DrawPoolGone leaves. -/
def DrewG (w : World) (e : Ending) (w' : World) : Prop := ∃ (v0 v1 : Value) (p : Pool) (bvs : List Value) (s : ByteArray), e = .returned (.tuple #[.agg #[v0, v1], .string s]) ∧ s.size ≤ 1048576 ∧ DrawnP p ∧ OwnP w' w.heap.size v0 v1 p bvs ∧ Bel w w'
end Go.Proofs.Ytpobgjkmjlmafaa
/- DrawPoolMake. -/

namespace Go.Proofs.Ytpobgjkmjlmafaa
open Go.RowKit Go.Proofs.YtpobgjkmjlmafaaW.PrintWords Go.Proofs.YtpobgjkmjlmafaaW.PrintLast
set_option linter.unusedVariables false
set_option linter.unusedSimpArgs false

def eight : List ByteArray := [sOf [65], sOf [66], sOf [67], sOf [68], sOf [68], sOf [67], sOf [69], sOf []]
/-- What DrawPoolMake leaves. -/
def DrewM (w : World) (e : Ending) (w' : World) : Prop := ∃ (v0 v1 : Value) (p : Pool) (bvs : List Value) (s : ByteArray) (n : Int), e = .returned (.tuple #[.agg #[v0, v1], .string s, .int .i64 n]) ∧ s ∈ eight ∧ 1 ≤ n ∧ n ≤ 100 ∧ DrawnP p ∧ OwnP w' w.heap.size v0 v1 p bvs ∧ Bel w w'
end Go.Proofs.Ytpobgjkmjlmafaa
/- DrawPoolClone. -/


namespace Go.Proofs.Ytpobgjkmjlmafaa
open Go.RowKit Go.Proofs.YtpobgjkmjlmafaaW.PrintWords Go.Proofs.YtpobgjkmjlmafaaW.PrintLast
set_option linter.unusedVariables false
set_option linter.unusedSimpArgs false

/-- What DrawPoolClone leaves. -/
def DrewC (w : World) (e : Ending) (w' : World) : Prop := ∃ (v0 v1 : Value) (p : Pool) (bvs : List Value) (s d : ByteArray), e = .returned (.tuple #[.agg #[v0, v1], .string s, .string d]) ∧ s.size ≤ 1048576 ∧ d ∈ five ∧ DrawnP p ∧ OwnP w' w.heap.size v0 v1 p bvs ∧ Bel w w'
end Go.Proofs.Ytpobgjkmjlmafaa
/- Plain Lean: what each law says of the four changes, as its body's walk needs it. -/



namespace Go.Proofs.Ytpobgjkmjlmafaa
open Go.RowKit Go.Proofs.YtpobgjkmjlmafaaW.PrintWords
set_option linter.unusedVariables false
set_option linter.unusedSimpArgs false

def four : List ByteArray := [sOf [97], sOf [98, 99, 100], sOf [], sOf [100, 100]]
def fourB : List ByteArray := [sOf [97], sOf [98, 98], sOf [], sOf [99, 100]]
theorem lgBlks_zero {p : Pool} (hp : PoolP p) {t : ByteArray} : lgBlks p.vols t = 0 ↔ volIdx p.vols t < 0 := by
  rw [lgBlks_len, volIdx_blks hp.v]
  constructor
  · intro h; exact List.length_eq_zero_iff.1 (by omega)
  · intro h; rw [h]; rfl
theorem lgBlks_pos {p : Pool} (hp : PoolP p) {t : ByteArray} : 0 < lgBlks p.vols t ↔ 0 ≤ volIdx p.vols t := by
  have h1 := lgBlks_zero hp (t := t)
  have h2 : 0 ≤ lgBlks p.vols t := by rw [lgBlks_len]; omega
  omega
/-! ### gone -/
/-! ### make -/
/-! ### clone -/
/-! ### write -/
end Go.Proofs.Ytpobgjkmjlmafaa
/- PoolClone, as the program does it and as the reference does it. -/

namespace Go.Proofs.Ytpobgjkmjlmafaa
open Go.RowKit Go.Proofs.YtpobgjkmjlmafaaW.PrintWords Go.Proofs.YtpobgjkmjlmafaaW.PrintLast
set_option linter.unusedVariables false
set_option linter.unusedSimpArgs false

end Go.Proofs.Ytpobgjkmjlmafaa
/- PoolMake, as the program does it and as the reference does it. -/

namespace Go.Proofs.Ytpobgjkmjlmafaa
open Go.RowKit Go.Proofs.YtpobgjkmjlmafaaW.PrintWords Go.Proofs.YtpobgjkmjlmafaaW.PrintLast
set_option linter.unusedVariables false
set_option linter.unusedSimpArgs false

end Go.Proofs.Ytpobgjkmjlmafaa

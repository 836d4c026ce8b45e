/- The copy that the program itself makes of a pool. -/
import Derived.Test.YtpobgjkmjlmafaaWn
namespace Go.Proofs.Ytpobgjkmjlmafaa
open Go.RowKit Go.Proofs.YtpobgjkmjlmafaaW.PrintWords Go.Proofs.YtpobgjkmjlmafaaW.PrintLast
set_option linter.unusedVariables false
set_option linter.unusedSimpArgs false

/-- A row of volumes whose first k have blocks of their own; the others' are those of the world W0. -/
structure HalfV (W0 w : World) (base : Nat) (v : Value) (vs : List Vol) (bvs : List Value) (k : Nat) : Prop where
  row : VRow w base v vs bvs
  inner : ∀ (m : Nat) (x : Vol) (b : Value), m < k → vs[m]? = some x → bvs[m]? = some b → OwnI w base b x.blocks
  apart : ∀ (i j : Nat) (b b' : Value) (q : Nat), i < j → j < k → bvs[i]? = some b → bvs[j]? = some b' → b.ownBlock = some q → b'.ownBlock ≠ some q
  old : ∀ (m : Nat) (x : Vol) (b : Value), k ≤ m → vs[m]? = some x → bvs[m]? = some b → ∃ A c, b = .slice A x.blocks.length c ∧ x.blocks.length ≤ c ∧ kInt.C W0 A x.blocks.length x.blocks
theorem HalfV.bel {W0 w w' : World} {base : Nat} {v : Value} {vs : List Vol} {bvs : List Value} {k : Nat} (h : HalfV W0 w base v vs bvs k) (hb : Bel w w') : HalfV W0 w' base v vs bvs k :=
  ⟨h.row.bel hb, fun m x b hm hx hbb => (h.inner m x b hm hx hbb).bel hb, h.apart, h.old⟩
theorem HalfV.step {W0 w : World} {base g cap k : Nat} {vs : List Vol} {bvs : List Value} {x : Vol} {b : Value} (h : HalfV W0 w base (.slice (some ⟨g, 0, none⟩) vs.length cap) vs bvs k) (hx : vs[k]? = some x) (hb : OwnI w base b x.blocks)
    (hap : ∀ (m : Nat) (b' : Value) (q : Nat), m < k → bvs[m]? = some b' → b'.ownBlock = some q → b.ownBlock ≠ some q) :
    HalfV W0 (w.setCell ⟨g, k * 2 + 1, none⟩ b) base (.slice (some ⟨g, 0, none⟩) vs.length cap) vs (bvs.set k b) (k + 1) := by
  have hs := h.row.setB hx b
  have hgr : w.grownBy (w.setCell ⟨g, k * 2 + 1, none⟩ b) (Value.slice (some ⟨g, 0, none⟩) vs.length cap).ownBlock := hs.2
  have hk : k < bvs.length := by rw [h.row.len]; exact ltQ hx
  refine ⟨hs.1, ?_, ?_, ?_⟩
  · intro m y c hm hy hc
    by_cases hmk : m = k
    · subst hmk
      rw [List.getElem?_set_self hk] at hc
      obtain rfl := Option.some.inj hc
      obtain rfl := Option.some.inj (hx.symm.trans hy)
      exact own_other_type hb h.row.row (by decide) hgr
    · rw [List.getElem?_set_ne (by omega)] at hc
      exact own_other_type (h.inner m y c (by omega) hy hc) h.row.row (by decide) hgr
  · intro i j c c' q hij hj hc hc' hq
    rw [List.getElem?_set_ne (by omega)] at hc
    by_cases hjk : j = k
    · subst hjk
      rw [List.getElem?_set_self hk] at hc'
      obtain rfl := Option.some.inj hc'
      exact hap i c q hij hc hq
    · rw [List.getElem?_set_ne (by omega)] at hc'
      exact h.apart i j c c' q hij (by omega) hc hc' hq
  · intro m y c hm hy hc
    rw [List.getElem?_set_ne (by omega)] at hc
    exact h.old m y c (by omega) hy hc
theorem HalfV.full {W0 w : World} {base : Nat} {v : Value} {vs : List Vol} {bvs : List Value} (h : HalfV W0 w base v vs bvs vs.length) : OwnV w base v vs bvs :=
  ⟨h.row, fun m x b hx hb => h.inner m x b (ltQ hx) hx hb, fun i j b b' q hne hb hb' hq hq' => by
    have hi := ltQ hb
    have hj := ltQ hb'
    rw [h.row.len] at hi hj
    rcases Nat.lt_or_gt_of_ne hne with h1 | h1
    · exact h.apart i j b b' q h1 hj hb hb' hq hq'
    · exact h.apart j i b' b q h1 hi hb' hb hq' hq⟩
theorem HalfV.far {W0 w : World} {base k : Nat} {v : Value} {vs : List Vol} {bvs : List Value} (h : HalfV W0 w base v vs bvs k) {b : Nat} {cs : Array Value} {t : TypeId} (hB : Blk w b cs t) (ht : 43 ≠ t) (ht2 : 3 ≠ t) (i : Nat) (u : Value) : HalfV W0 (w.setCell ⟨b, i, none⟩ u) base v vs bvs k :=
  ⟨h.row.far hB ht i u, fun m x c hm hx hc => (h.inner m x c hm hx hc).far hB ht2 i u, h.apart, h.old⟩
theorem HalfV.inner_lt {W0 w : World} {base k : Nat} {v : Value} {vs : List Vol} {bvs : List Value} (h : HalfV W0 w base v vs bvs k) {m : Nat} {b : Value} {q : Nat} (hm : m < k) (hb : bvs[m]? = some b) (hk : b.ownBlock = some q) : q < w.heap.size := by
  obtain ⟨x, hx⟩ := getQ (show m < vs.length by rw [← h.row.len]; exact ltQ hb)
  exact own_block_lt (h.inner m x b hm hx hb) hk
/-- The block of a row of volumes is no other block's. -/
theorem Blk.rowset {w : World} {base g n cap j b : Nat} {e : TypeId} {sz : Nat} {xs : List Value} {cs : Array Value} {t : TypeId} (hB : Blk w b cs t) (h : w.ownsRow base e sz (.slice (some ⟨g, 0, none⟩) n cap) n xs) (hne : e ≠ t) (u : Value) :
    Blk (w.setCell ⟨g, j, none⟩ u) b cs t := by
  have hgb : g ≠ b := by
    intro hgb
    obtain ⟨c2, hc2⟩ := own_type h (k := g) rfl
    rw [hgb, show w.heap[b]? = some (.cells cs t (0, 0)) from hB] at hc2
    injection hc2 with hc2
    injection hc2 with _ ht
    exact hne ht.symm
  show (w.setCell ⟨g, j, none⟩ u).heap[b]? = _
  rw [Below.heap_setCell w ⟨g, j, none⟩ u b (fun hh => hgb hh.symm)]
  exact hB

theorem Blk.apart {w : World} {b c : Nat} {cs : Array Value} {t : TypeId} (h : Blk w b cs t) (hne : c ≠ b) (i : Nat) (u : Value) : Blk (w.setCell ⟨c, i, none⟩ u) b cs t := by
  show (w.setCell ⟨c, i, none⟩ u).heap[b]? = _
  rw [Below.heap_setCell w ⟨c, i, none⟩ u b (fun hh => hne hh.symm)]
  exact h

set_option maxHeartbeats 4000000 in
set_option maxRecDepth 10000 in
theorem poolClone_c {w : World} {A0 A1 : Option Addr} {c0 c1 : Nat} {p : Pool} (h : PoolIn w A0 A1 c0 c1 p) (hs : SmallP p) :
    Calls Try.prog 123 #[.agg #[.slice A0 p.slots.length c0, .slice A1 p.vols.length c1]] w (MadeP w p) := by
  have HS := Lib.hid hs
  have HP := Lib.hid h
  have hlv : p.vols.length ≤ 1048576 := hs.vols.len
  have hls : p.slots.length ≤ 1048576 := hs.slots.len
  clear h hs
  go_enter Try.func123, Try.ntmps123
  go_wp2
  have hB : Blk ((w.alloc (.cells #[.slice A0 p.slots.length c0, .slice A1 p.vols.length c1] 30)).alloc (.cells #[.slice none 0 0, .slice none 0 0] 30)) w.heap.size #[.slice A0 p.slots.length c0, .slice A1 p.vols.length c1] 30 := (Blk.new _ _ _).alloc _
  have hR : Blk ((w.alloc (.cells #[.slice A0 p.slots.length c0, .slice A1 p.vols.length c1] 30)).alloc (.cells #[.slice none 0 0, .slice none 0 0] 30)) (w.heap.size + 1) #[.slice none 0 0, .slice none 0 0] 30 := Blk.nw2 _ _ _ _
  have hW : Bel w ((w.alloc (.cells #[.slice A0 p.slots.length c0, .slice A1 p.vols.length c1] 30)).alloc (.cells #[.slice none 0 0, .slice none 0 0] 30)) := bel_alloc (bel_alloc (Below.refl _ _) _) _
  have hl2 : w.heap.size + 2 ≤ ((w.alloc (.cells #[.slice A0 p.slots.length c0, .slice A1 p.vols.length c1] 30)).alloc (.cells #[.slice none 0 0, .slice none 0 0] 30)).heap.size := by simp
  generalize ((w.alloc (.cells #[.slice A0 p.slots.length c0, .slice A1 p.vols.length c1] 30)).alloc (.cells #[.slice none 0 0, .slice none 0 0] 30)) = W0 at hB hR hW hl2 ⊢
  have q0 := hB.cell 0
  have q1 := hB.cell 1
  simp at q0 q1
  have B0 := Lib.hid (show Blk W0.drew w.heap.size #[.slice A0 p.slots.length c0, .slice A1 p.vols.length c1] 30 from hB)
  have R0 := Lib.hid (show Blk W0.drew (w.heap.size + 1) #[.slice none 0 0, .slice none 0 0] 30 from hR)
  have P0 := Lib.hid (HP.out.bel (hW.drew))
  have D0 := Lib.hid (show Bel W0.drew W0.drew from Below.refl _ _)
  have HW := Lib.hid hW
  clear hB hR hW
  refine start_ (n := 9) (S := fun w' => w'.cell? ⟨w.heap.size, 0, none⟩ = some (.slice A0 p.slots.length c0) ∧ w'.cell? ⟨w.heap.size, 1, none⟩ = some (.slice A1 p.vols.length c1)) (ds := [8]) #[false, false, false, false, false, false, false, false, false] (by kernel_rfl) rfl rfl ⟨q0, q1⟩ (fun hHeld => ?_)
  refine pure_ (i := 0) (N := some 5) (v := ?_) (a' := ?_) #[true, false, false, false, false, false, false, false, false] rfl rfl (by kernel_rfl) (fun _ _ _ h => h) (Or.inl ⟨by rfl, ?_⟩) ?_ ?_
  rotate_left
  · intro w'
    go_simp
    with_reducible rfl
  rotate_left
  · simp only [Act.put, List.setIfInBounds_toArray, List.set_cons_zero, List.set_cons_succ, i64_w, i32_w]
    rfl
  refine pure_ (i := 3) (N := some 8) (v := ?_) (a' := ?_) #[true, false, false, true, false, false, false, false, false] rfl rfl (by kernel_rfl) (fun _ _ _ h => h) (Or.inl ⟨by rfl, ?_⟩) ?_ ?_
  rotate_left
  · intro w'
    go_simp
    with_reducible rfl
  rotate_left
  · simp only [Act.put, List.setIfInBounds_toArray, List.set_cons_zero, List.set_cons_succ, i64_w, i32_w]
    rfl
  refine take_ (i := 1) (N := some 6) (v := ?_) (a' := ?_) #[true, true, false, true, false, false, false, false, false] rfl rfl (by kernel_rfl) (fun _ _ _ h => h) (Or.inl ⟨by rfl, ?_⟩) hHeld ?_ ?_
  rotate_left
  · rintro w' ⟨s0, s1⟩
    go_simp
    with_reducible rfl
  rotate_left
  · simp only [Act.put, List.setIfInBounds_toArray, List.set_cons_zero, List.set_cons_succ, i64_w, i32_w]
    rfl
  refine take_ (i := 4) (N := some 9) (v := ?_) (a' := ?_) #[true, true, false, true, true, false, false, false, false] rfl rfl (by kernel_rfl) (fun _ _ _ h => h) (Or.inl ⟨by rfl, ?_⟩) hHeld ?_ ?_
  rotate_left
  · rintro w' ⟨s0, s1⟩
    go_simp
    with_reducible rfl
  rotate_left
  · simp only [Act.put, List.setIfInBounds_toArray, List.set_cons_zero, List.set_cons_succ, i64_w, i32_w]
    rfl
  refine join_ (σ := Option Addr × Nat × Option Addr × Nat × List Value × Nat) 1 #[true, true, true, true, true, true, true, true, false] (fun s => [(7, .slice s.1 p.slots.length s.2.1), (10, .slice s.2.2.1 p.vols.length s.2.2.2.1), (3, .pointer (some ⟨s.2.2.2.2.2, 0, none⟩)), (11, .agg #[.slice s.1 p.slots.length s.2.1, .slice s.2.2.1 p.vols.length s.2.2.2.1])]) (fun s w' => (w'.cell? ⟨w.heap.size, 0, none⟩ = some (.slice A0 p.slots.length c0) ∧ w'.cell? ⟨w.heap.size, 1, none⟩ = some (.slice A1 p.vols.length c1)) ∧ OwnS w' W0.drew.heap.size (.slice s.1 p.slots.length s.2.1) p.slots ∧ HalfV W0.drew w' W0.drew.heap.size (.slice s.2.2.1 p.vols.length s.2.2.2.1) p.vols s.2.2.2.2.1 0 ∧ Blk w' s.2.2.2.2.2 #[.slice none 0 0, .slice none 0 0] 30 ∧ W0.drew.heap.size ≤ s.2.2.2.2.2 ∧ Blk w' (w.heap.size + 1) #[.slice none 0 0, .slice none 0 0] 30 ∧ Bel W0.drew w') ?_ ?_
  rotate_left
  · intro hCont
    refine two_ (i := 2) (j := 7) (Ni := some 7) (Nj := some 3) #[true, true, true, true, true, false, false, false, false] #[true, true, false, true, true, false, false, true, false] rfl rfl rfl rfl (by kernel_rfl) (by decide) (by decide) (fun K hK => ?_) (fun K hK => ?_)
    · skip
      refine goes_ Try.func148 (by kernel_rfl) rfl #[.slice A0 p.slots.length c0] (by rfl) rfl rfl (by simp only [List.map_toArray, List.map_cons, List.map_nil]; rfl) ?_
      with_reducible refine (cloneS_c (P0.out.bel D0.out).s hls).mono ?_
      rintro e w1 ⟨v0, rfl, ho, X1⟩
      have B1 := Lib.hid (Blk.bel B0.out X1)
      have R1 := Lib.hid (Blk.bel R0.out X1)
      have D1 := Lib.hid (Bel.tr D0.out X1)
      have S1 : Hid (OwnS w1 W0.drew.heap.size v0 p.slots) := Lib.hid (own_lower ho D0.out.size)
      clear ho
      obtain ⟨A2, k2, rfl, hc2, hC2⟩ := S1.out.reads
      refine ⟨_, rfl, ?_⟩
      refine hK.out _ _ ⟨B1.out.cell 0, B1.out.cell 1⟩ (fun hHeld => ?_)
      clear hK K
      refine norm_ (a' := ?_) ?_ ?_
      rotate_left
      · show Act.put _ (some 7) _ = _
        simp only [Act.put, List.setIfInBounds_toArray, List.set_cons_zero, List.set_cons_succ, i64_w, i32_w]
        rfl
      refine two_ (i := 5) (j := 7) (Ni := some 10) (Nj := some 3) #[true, true, true, true, true, true, false, false, false] #[true, true, true, true, true, false, false, true, false] rfl rfl rfl rfl (by kernel_rfl) (by decide) (by decide) (fun K hK => ?_) (fun K hK => ?_)
      · skip
        refine goes_ Try.func149 (by kernel_rfl) rfl #[.slice A1 p.vols.length c1] (by rfl) rfl rfl (by simp only [List.map_toArray, List.map_cons, List.map_nil]; rfl) ?_
        with_reducible refine (cloneV_c P0.out.v D1.out hlv).mono ?_
        rintro e w2 ⟨v1, bvs, rfl, ho, hi, X2⟩
        have B2 := Lib.hid (Blk.bel B1.out X2)
        have R2 := Lib.hid (Blk.bel R1.out X2)
        have D2 := Lib.hid (Bel.tr D1.out X2)
        have S2 := Lib.hid (OwnS.bel S1.out X2)
        have V2 := Lib.hid (⟨ho.len, own_lower ho.row D1.out.size⟩ : VRow w2 W0.drew.heap.size v1 p.vols bvs)
        have hi := Lib.hid hi
        clear ho
        obtain ⟨A3, k3, rfl, hc3⟩ := own_cap V2.out.row
        refine ⟨_, rfl, ?_⟩
        refine hK.out _ _ ⟨B2.out.cell 0, B2.out.cell 1⟩ (fun hHeld => ?_)
        clear hK K
        refine norm_ (a' := ?_) ?_ ?_
        rotate_left
        · show Act.put _ (some 10) _ = _
          simp only [Act.put, List.setIfInBounds_toArray, List.set_cons_zero, List.set_cons_succ, i64_w, i32_w]
          rfl
        refine pure_ (i := 6) (N := some 11) (v := ?_) (a' := ?_) #[true, true, true, true, true, true, true, false, false] rfl rfl (by kernel_rfl) (fun _ _ _ h => h) (Or.inl ⟨by rfl, ?_⟩) ?_ ?_
        rotate_left
        · intro w'
          go_simp
          with_reducible rfl
        rotate_left
        · simp only [Act.put, List.setIfInBounds_toArray, List.set_cons_zero, List.set_cons_succ, i64_w, i32_w]
          rfl
        refine one_ (i := 7) (N := some 3) #[true, true, true, true, true, true, true, true, false] rfl rfl (by kernel_rfl) (by decide) (fun K hK => ?_)
        refine value_ (w1 := ?_) (v := ?_) (by rfl) rfl ?_ ?_
        rotate_left 2
        · go_simp
          constructor
          · rfl
          · rfl
        have B3 : Hid (Blk (w2.alloc (.cells #[.slice none 0 0, .slice none 0 0] 30)) w.heap.size #[.slice A0 p.slots.length c0, .slice A1 p.vols.length c1] 30) := Lib.hid (B2.out.alloc (.cells #[.slice none 0 0, .slice none 0 0] 30))
        have R3 : Hid (Blk (w2.alloc (.cells #[.slice none 0 0, .slice none 0 0] 30)) (w.heap.size + 1) #[.slice none 0 0, .slice none 0 0] 30) := Lib.hid (R2.out.alloc (.cells #[.slice none 0 0, .slice none 0 0] 30))
        have D3 : Hid (Bel W0.drew (w2.alloc (.cells #[.slice none 0 0, .slice none 0 0] 30))) := Lib.hid (bel_alloc D2.out (.cells #[.slice none 0 0, .slice none 0 0] 30))
        have S3 := Lib.hid (OwnS.bel S2.out (bel_alloc (Below.refl _ _) (.cells #[.slice none 0 0, .slice none 0 0] 30)))
        have V3 := Lib.hid (VRow.bel V2.out (bel_alloc (Below.refl _ _) (.cells #[.slice none 0 0, .slice none 0 0] 30)))
        have O3 : Hid (Blk (w2.alloc (.cells #[.slice none 0 0, .slice none 0 0] 30)) w2.heap.size #[.slice none 0 0, .slice none 0 0] 30) := Lib.hid (Blk.new w2 #[.slice none 0 0, .slice none 0 0] 30)
        have L3 := D2.out.size
        refine hK.out _ _ ⟨B3.out.cell 0, B3.out.cell 1⟩ (fun hHeld => ?_)
        clear hK K
        refine norm_ (a' := ?_) ?_ ?_
        rotate_left
        · show Act.put _ (some 3) _ = _
          simp only [Act.put, List.setIfInBounds_toArray, List.set_cons_zero, List.set_cons_succ, i64_w, i32_w]
          rfl
        exact norm_ (by simp only [putAll, Act.put, List.setIfInBounds_toArray, List.set_cons_zero, List.set_cons_succ]) (hCont (A2, k2, A3, k3, bvs, w2.heap.size) _ ⟨hHeld, S3.out, ⟨V3.out, fun m x b h0 => absurd h0 (Nat.not_lt_zero _), fun i j b b2 q _ h0 => absurd h0 (Nat.not_lt_zero _), fun m x b _ => hi.out m x b⟩, O3.out, L3, R3.out, D3.out⟩)
      · skip
        refine value_ (w1 := ?_) (v := ?_) (by rfl) rfl ?_ ?_
        rotate_left 2
        · go_simp
          constructor
          · rfl
          · rfl
        have B2 : Hid (Blk (w1.alloc (.cells #[.slice none 0 0, .slice none 0 0] 30)) w.heap.size #[.slice A0 p.slots.length c0, .slice A1 p.vols.length c1] 30) := Lib.hid (B1.out.alloc (.cells #[.slice none 0 0, .slice none 0 0] 30))
        have R2 : Hid (Blk (w1.alloc (.cells #[.slice none 0 0, .slice none 0 0] 30)) (w.heap.size + 1) #[.slice none 0 0, .slice none 0 0] 30) := Lib.hid (R1.out.alloc (.cells #[.slice none 0 0, .slice none 0 0] 30))
        have D2 : Hid (Bel W0.drew (w1.alloc (.cells #[.slice none 0 0, .slice none 0 0] 30))) := Lib.hid (bel_alloc D1.out (.cells #[.slice none 0 0, .slice none 0 0] 30))
        have S2 := Lib.hid (OwnS.bel S1.out (bel_alloc (Below.refl _ _) (.cells #[.slice none 0 0, .slice none 0 0] 30)))
        have O2 : Hid (Blk (w1.alloc (.cells #[.slice none 0 0, .slice none 0 0] 30)) w1.heap.size #[.slice none 0 0, .slice none 0 0] 30) := Lib.hid (Blk.new w1 #[.slice none 0 0, .slice none 0 0] 30)
        have L2 := D1.out.size
        refine hK.out _ _ ⟨B2.out.cell 0, B2.out.cell 1⟩ (fun hHeld => ?_)
        clear hK K
        refine norm_ (a' := ?_) ?_ ?_
        rotate_left
        · show Act.put _ (some 3) _ = _
          simp only [Act.put, List.setIfInBounds_toArray, List.set_cons_zero, List.set_cons_succ, i64_w, i32_w]
          rfl
        refine one_ (i := 5) (N := some 10) #[true, true, true, true, true, true, false, true, false] rfl rfl (by kernel_rfl) (by decide) (fun K hK => ?_)
        refine goes_ Try.func149 (by kernel_rfl) rfl #[.slice A1 p.vols.length c1] (by rfl) rfl rfl (by simp only [List.map_toArray, List.map_cons, List.map_nil]; rfl) ?_
        with_reducible refine (cloneV_c P0.out.v D2.out hlv).mono ?_
        rintro e w3 ⟨v1, bvs, rfl, ho, hi, X3⟩
        have B3 := Lib.hid (Blk.bel B2.out X3)
        have R3 := Lib.hid (Blk.bel R2.out X3)
        have D3 := Lib.hid (Bel.tr D2.out X3)
        have S3 := Lib.hid (OwnS.bel S2.out X3)
        have O3 := Lib.hid (Blk.bel O2.out X3)
        have V3 := Lib.hid (⟨ho.len, own_lower ho.row D2.out.size⟩ : VRow w3 W0.drew.heap.size v1 p.vols bvs)
        have hi := Lib.hid hi
        clear ho
        obtain ⟨A3, k3, rfl, hc3⟩ := own_cap V3.out.row
        refine ⟨_, rfl, ?_⟩
        refine hK.out _ _ ⟨B3.out.cell 0, B3.out.cell 1⟩ (fun hHeld => ?_)
        clear hK K
        refine norm_ (a' := ?_) ?_ ?_
        rotate_left
        · show Act.put _ (some 10) _ = _
          simp only [Act.put, List.setIfInBounds_toArray, List.set_cons_zero, List.set_cons_succ, i64_w, i32_w]
          rfl
        refine pure_ (i := 6) (N := some 11) (v := ?_) (a' := ?_) #[true, true, true, true, true, true, true, true, false] rfl rfl (by kernel_rfl) (fun _ _ _ h => h) (Or.inl ⟨by rfl, ?_⟩) ?_ ?_
        rotate_left
        · intro w'
          go_simp
          with_reducible rfl
        rotate_left
        · simp only [Act.put, List.setIfInBounds_toArray, List.set_cons_zero, List.set_cons_succ, i64_w, i32_w]
          rfl
        exact norm_ (by simp only [putAll, Act.put, List.setIfInBounds_toArray, List.set_cons_zero, List.set_cons_succ]) (hCont (A2, k2, A3, k3, bvs, w1.heap.size) _ ⟨hHeld, S3.out, ⟨V3.out, fun m x b h0 => absurd h0 (Nat.not_lt_zero _), fun i j b b2 q _ h0 => absurd h0 (Nat.not_lt_zero _), fun m x b _ => hi.out m x b⟩, O3.out, L2, R3.out, D3.out⟩)
    · skip
      refine value_ (w1 := ?_) (v := ?_) (by rfl) rfl ?_ ?_
      rotate_left 2
      · go_simp
        constructor
        · rfl
        · rfl
      have B1 : Hid (Blk (W0.alloc (.cells #[.slice none 0 0, .slice none 0 0] 30)).drew w.heap.size #[.slice A0 p.slots.length c0, .slice A1 p.vols.length c1] 30) := Lib.hid (B0.out.alloc (.cells #[.slice none 0 0, .slice none 0 0] 30))
      have R1 : Hid (Blk (W0.alloc (.cells #[.slice none 0 0, .slice none 0 0] 30)).drew (w.heap.size + 1) #[.slice none 0 0, .slice none 0 0] 30) := Lib.hid (R0.out.alloc (.cells #[.slice none 0 0, .slice none 0 0] 30))
      have D1 : Hid (Bel W0.drew (W0.alloc (.cells #[.slice none 0 0, .slice none 0 0] 30)).drew) := Lib.hid (bel_alloc D0.out (.cells #[.slice none 0 0, .slice none 0 0] 30))
      have O1 : Hid (Blk (W0.alloc (.cells #[.slice none 0 0, .slice none 0 0] 30)).drew W0.drew.heap.size #[.slice none 0 0, .slice none 0 0] 30) := Lib.hid (Blk.new W0.drew #[.slice none 0 0, .slice none 0 0] 30)
      have L1 := D0.out.size
      refine hK.out _ _ ⟨B1.out.cell 0, B1.out.cell 1⟩ (fun hHeld => ?_)
      clear hK K
      refine norm_ (a' := ?_) ?_ ?_
      rotate_left
      · show Act.put _ (some 3) _ = _
        simp only [Act.put, List.setIfInBounds_toArray, List.set_cons_zero, List.set_cons_succ, i64_w, i32_w]
        rfl
      refine one_ (i := 2) (N := some 7) #[true, true, true, true, true, false, false, true, false] rfl rfl (by kernel_rfl) (by decide) (fun K hK => ?_)
      refine goes_ Try.func148 (by kernel_rfl) rfl #[.slice A0 p.slots.length c0] (by rfl) rfl rfl (by simp only [List.map_toArray, List.map_cons, List.map_nil]; rfl) ?_
      with_reducible refine (cloneS_c (P0.out.bel D1.out).s hls).mono ?_
      rintro e w2 ⟨v0, rfl, ho, X2⟩
      have B2 := Lib.hid (Blk.bel B1.out X2)
      have R2 := Lib.hid (Blk.bel R1.out X2)
      have D2 := Lib.hid (Bel.tr D1.out X2)
      have O2 := Lib.hid (Blk.bel O1.out X2)
      have S2 : Hid (OwnS w2 W0.drew.heap.size v0 p.slots) := Lib.hid (own_lower ho D1.out.size)
      clear ho
      obtain ⟨A2, k2, rfl, hc2, hC2⟩ := S2.out.reads
      refine ⟨_, rfl, ?_⟩
      refine hK.out _ _ ⟨B2.out.cell 0, B2.out.cell 1⟩ (fun hHeld => ?_)
      clear hK K
      refine norm_ (a' := ?_) ?_ ?_
      rotate_left
      · show Act.put _ (some 7) _ = _
        simp only [Act.put, List.setIfInBounds_toArray, List.set_cons_zero, List.set_cons_succ, i64_w, i32_w]
        rfl
      refine one_ (i := 5) (N := some 10) #[true, true, true, true, true, true, false, true, false] rfl rfl (by kernel_rfl) (by decide) (fun K hK => ?_)
      refine goes_ Try.func149 (by kernel_rfl) rfl #[.slice A1 p.vols.length c1] (by rfl) rfl rfl (by simp only [List.map_toArray, List.map_cons, List.map_nil]; rfl) ?_
      with_reducible refine (cloneV_c P0.out.v D2.out hlv).mono ?_
      rintro e w3 ⟨v1, bvs, rfl, ho, hi, X3⟩
      have B3 := Lib.hid (Blk.bel B2.out X3)
      have R3 := Lib.hid (Blk.bel R2.out X3)
      have D3 := Lib.hid (Bel.tr D2.out X3)
      have S3 := Lib.hid (OwnS.bel S2.out X3)
      have O3 := Lib.hid (Blk.bel O2.out X3)
      have V3 := Lib.hid (⟨ho.len, own_lower ho.row D2.out.size⟩ : VRow w3 W0.drew.heap.size v1 p.vols bvs)
      have hi := Lib.hid hi
      clear ho
      obtain ⟨A3, k3, rfl, hc3⟩ := own_cap V3.out.row
      refine ⟨_, rfl, ?_⟩
      refine hK.out _ _ ⟨B3.out.cell 0, B3.out.cell 1⟩ (fun hHeld => ?_)
      clear hK K
      refine norm_ (a' := ?_) ?_ ?_
      rotate_left
      · show Act.put _ (some 10) _ = _
        simp only [Act.put, List.setIfInBounds_toArray, List.set_cons_zero, List.set_cons_succ, i64_w, i32_w]
        rfl
      refine pure_ (i := 6) (N := some 11) (v := ?_) (a' := ?_) #[true, true, true, true, true, true, true, true, false] rfl rfl (by kernel_rfl) (fun _ _ _ h => h) (Or.inl ⟨by rfl, ?_⟩) ?_ ?_
      rotate_left
      · intro w'
        go_simp
        with_reducible rfl
      rotate_left
      · simp only [Act.put, List.setIfInBounds_toArray, List.set_cons_zero, List.set_cons_succ, i64_w, i32_w]
        rfl
      exact norm_ (by simp only [putAll, Act.put, List.setIfInBounds_toArray, List.set_cons_zero, List.set_cons_succ]) (hCont (A2, k2, A3, k3, bvs, W0.heap.size) _ ⟨hHeld, S3.out, ⟨V3.out, fun m x b h0 => absurd h0 (Nat.not_lt_zero _), fun i j b b2 q _ h0 => absurd h0 (Nat.not_lt_zero _), fun m x b _ => hi.out m x b⟩, O3.out, L1, R3.out, D3.out⟩)
  rintro ⟨A2, k2, A3, k3, bvs, b⟩ w3 ⟨hHeld, hS, hV, hO, hL, hR, hD⟩
  dsimp only at hS hV hO hL
  have r0 := hO.cell 0
  have r1 := hO.cell 1
  have f0 := hO.free 0
  have f1 := hO.free 1
  simp at r0 r1
  refine norm_ (a' := ?_) ?_ ?_
  rotate_left
  · simp only [putAll, Act.put, List.setIfInBounds_toArray, List.set_cons_zero, List.set_cons_succ]
    rfl
  refine last_ (i := 8) (N := none) #[true, true, true, true, true, true, true, true, true] rfl rfl (by kernel_rfl) (by decide) (fun K hK => ?_)
  refine skip_ (w1 := ?_) (by rfl) rfl ?_ ?_
  rotate_left
  · go_simp
    rfl
  refine hK.out _ _ ?_
  clear hK K
  refine done_ (by kernel_rfl) ?_
  have hO4 := (hO.set 0 (.slice A2 p.slots.length k2) (cs' := #[.slice A2 p.slots.length k2, .slice none 0 0]) rfl)
  have hO5 := hO4.set 1 (.slice A3 p.vols.length k3) (cs' := #[.slice A2 p.slots.length k2, .slice A3 p.vols.length k3]) rfl
  have hne : b ≠ w.heap.size + 1 := fun h => by have : W0.drew.heap.size = W0.heap.size := rfl; omega
  have HR5 : Blk ((w3.setCell ⟨b, 0, none⟩ (.slice A2 p.slots.length k2)).setCell ⟨b, 1, none⟩ (.slice A3 p.vols.length k3)) (w.heap.size + 1) #[.slice none 0 0, .slice none 0 0] 30 := (hR.apart hne 0 _).apart hne 1 _
  have hS5 := (hS.far hO (by decide) 0 (.slice A2 p.slots.length k2)).far hO4 (by decide) 1 (.slice A3 p.vols.length k3)
  have hV5 := (hV.far hO (by decide) (by decide) 0 (.slice A2 p.slots.length k2)).far hO4 (by decide) (by decide) 1 (.slice A3 p.vols.length k3)
  have hD5 := bel_set (bel_set hD hL 0 (.slice A2 p.slots.length k2)) hL 1 (.slice A3 p.vols.length k3)
  generalize ((w3.setCell ⟨b, 0, none⟩ (.slice A2 p.slots.length k2)).setCell ⟨b, 1, none⟩ (.slice A3 p.vols.length k3)) = w5 at hO5 HR5 hS5 hV5 hD5 ⊢
  clear hO hO4 hR hS hV hD r0 r1 f0 f1 hHeld q0 q1
  have u0 := hO5.cell 0
  have u1 := hO5.cell 1
  simp at u0 u1
  have K5 := Lib.hid hO5
  have KR5 := Lib.hid HR5
  have KS5 := Lib.hid hS5
  have KV5 := Lib.hid hV5
  have KD5 := Lib.hid hD5
  clear hO5 HR5 hS5 hV5 hD5
  go_wp2
  go_loopg [15] p.vols.length (fun g v15 W => ∃ k : Nat, g + k = p.vols.length ∧ v15 = .int .i64 k ∧ (∃ bvs, HalfV W0.drew W W0.drew.heap.size (.slice A3 p.vols.length k3) p.vols bvs k) ∧ Blk W b #[.slice A2 p.slots.length k2, .slice A3 p.vols.length k3] 30 ∧ Blk W (w.heap.size + 1) #[.slice none 0 0, .slice none 0 0] 30 ∧ OwnS W W0.drew.heap.size (.slice A2 p.slots.length k2) p.slots ∧ Bel W0.drew W)
  case atStart => exact ⟨0, rfl, rfl, ⟨_, KV5.out⟩, K5.out, KR5.out, KS5.out, KD5.out⟩
  case round =>
    obtain ⟨k, hk, rfl, ⟨bvs, hv⟩, hO, hR, hS, hD⟩ := hrel
    have q0 := hO.cell 0
    have q1 := hO.cell 1
    have r0 := hR.cell 0
    have r1 := hR.cell 1
    have f0 := hR.free 0
    have f1 := hR.free 1
    simp at q0 q1 r0 r1
    clear u0 u1
    have HV := Lib.hid hv
    have HO := Lib.hid hO
    have HR := Lib.hid hR
    have HS2 := Lib.hid hS
    have HD := Lib.hid hD
    clear hO hR hS hD
    by_cases hlt : k < p.vols.length
    · obtain ⟨x, hx⟩ := getQ hlt
      obtain ⟨g, cap, bv, hbv, ev, hg1, hg2, hcap, hc, hc', hf, hf'⟩ := hv.row.at hx
      obtain ⟨rfl, -, rfl⟩ := by simpa using ev
      obtain ⟨A4, k4, rfl, hk4, hC4⟩ := hv.old k x bv (Nat.le_refl _) hx hbv
      have hx1 : x.blocks.length ≤ 1048576 := HS.out.vols.blocks x (List.mem_of_getElem? hx)
      have HX := Lib.hid hx
      have HC4 := Lib.hid (Kd.C_below hC4 HD.out)
      clear hv ev hx hC4 hbv
      go_wp2
      refine start_ (n := 13) (S := fun w' => w'.cell? ⟨b, 1, none⟩ = some (.slice (some ⟨g, 0, none⟩) p.vols.length k3) ∧ w'.cell? ⟨g, k * 2 + 1, none⟩ = some (.slice A4 x.blocks.length k4)) (ds := [12]) #[false, false, false, false, false, false, false, false, false, false, false, false, false] (by kernel_rfl) rfl rfl ⟨q1, hc'⟩ (fun hHeld => ?_)
      refine pure_ (i := 0) (N := some 18) (v := ?_) (a' := ?_) #[true, false, false, false, false, false, false, false, false, false, false, false, false] rfl rfl (by kernel_rfl) (fun _ _ _ h => h) (Or.inl ⟨by rfl, ?_⟩) ?_ ?_
      rotate_left
      · intro w'
        go_simp
        with_reducible rfl
      rotate_left
      · simp only [Act.put, List.setIfInBounds_toArray, List.set_cons_zero, List.set_cons_succ, i64_w, i32_w]
        rfl
      refine pure_ (i := 2) (N := some 20) (v := ?_) (a' := ?_) #[true, false, true, false, false, false, false, false, false, false, false, false, false] rfl rfl (by kernel_rfl) (fun _ _ _ h => h) (Or.inl ⟨by rfl, ?_⟩) ?_ ?_
      rotate_left
      · intro w'
        go_simp
        with_reducible rfl
      rotate_left
      · simp only [Act.put, List.setIfInBounds_toArray, List.set_cons_zero, List.set_cons_succ, i64_w, i32_w]
        rfl
      refine pure_ (i := 3) (N := some 21) (v := ?_) (a' := ?_) #[true, false, true, true, false, false, false, false, false, false, false, false, false] rfl rfl (by kernel_rfl) (fun _ _ _ h => h) (Or.inl ⟨by rfl, ?_⟩) ?_ ?_
      rotate_left
      · intro w'
        go_simp
        with_reducible rfl
      rotate_left
      · simp only [Act.put, List.setIfInBounds_toArray, List.set_cons_zero, List.set_cons_succ, i64_w, i32_w]
        rfl
      refine pure_ (i := 5) (N := some 23) (v := ?_) (a' := ?_) #[true, false, true, true, false, true, false, false, false, false, false, false, false] rfl rfl (by kernel_rfl) (fun _ _ _ h => h) (Or.inl ⟨by rfl, ?_⟩) ?_ ?_
      rotate_left
      · intro w'
        go_simp
        with_reducible rfl
      rotate_left
      · simp only [Act.put, List.setIfInBounds_toArray, List.set_cons_zero, List.set_cons_succ, i64_w, i32_w]
        rfl
      refine take_ (i := 1) (N := some 19) (v := ?_) (a' := ?_) #[true, true, true, true, false, true, false, false, false, false, false, false, false] rfl rfl (by kernel_rfl) (fun _ _ _ h => h) (Or.inl ⟨by rfl, ?_⟩) hHeld ?_ ?_
      rotate_left
      · rintro w' ⟨s0, s1⟩
        go_simp
        with_reducible rfl
      rotate_left
      · simp only [Act.put, List.setIfInBounds_toArray, List.set_cons_zero, List.set_cons_succ, i64_w, i32_w]
        rfl
      refine take_ (i := 4) (N := some 22) (v := ?_) (a' := ?_) #[true, true, true, true, true, true, false, false, false, false, false, false, false] rfl rfl (by kernel_rfl) (fun _ _ _ h => h) (Or.inl ⟨by rfl, ?_⟩) hHeld ?_ ?_
      rotate_left
      · rintro w' ⟨s0, s1⟩
        go_simp
        with_reducible rfl
      rotate_left
      · simp only [Act.put, List.setIfInBounds_toArray, List.set_cons_zero, List.set_cons_succ, i64_w, i32_w]
        rfl
      refine pure_ (i := 6) (N := some 24) (v := ?_) (a' := ?_) #[true, true, true, true, true, true, true, false, false, false, false, false, false] rfl rfl (by kernel_rfl) (fun _ _ _ h => h) (Or.inl ⟨by rfl, ?_⟩) ?_ ?_
      rotate_left
      · intro w'
        go_simp
        with_reducible rfl
      rotate_left
      · simp only [Act.put, List.setIfInBounds_toArray, List.set_cons_zero, List.set_cons_succ, i64_w, i32_w]
        rfl
      refine pure_ (i := 7) (N := some 25) (v := ?_) (a' := ?_) #[true, true, true, true, true, true, true, true, false, false, false, false, false] rfl rfl (by kernel_rfl) (fun _ _ _ h => h) (Or.inl ⟨by rfl, ?_⟩) ?_ ?_
      rotate_left
      · intro w'
        go_simp
        with_reducible rfl
      rotate_left
      · simp only [Act.put, List.setIfInBounds_toArray, List.set_cons_zero, List.set_cons_succ, i64_w, i32_w]
        rfl
      refine take_ (i := 8) (N := some 26) (v := ?_) (a' := ?_) #[true, true, true, true, true, true, true, true, true, false, false, false, false] rfl rfl (by kernel_rfl) (fun _ _ _ h => h) (Or.inl ⟨by rfl, ?_⟩) hHeld ?_ ?_
      rotate_left
      · rintro w' ⟨s0, s1⟩
        go_simp
        with_reducible rfl
      rotate_left
      · simp only [Act.put, List.setIfInBounds_toArray, List.set_cons_zero, List.set_cons_succ, i64_w, i32_w]
        rfl
      refine one_ (i := 9) (N := some 27) #[true, true, true, true, true, true, true, true, true, true, false, false, false] rfl rfl (by kernel_rfl) (by decide) (fun K hK => ?_)
      refine goes_ Try.func109 (by kernel_rfl) rfl #[.slice A4 x.blocks.length k4] (by rfl) rfl rfl (by simp only [List.map_toArray, List.map_cons, List.map_nil]; rfl) ?_
      with_reducible refine (cloneI_c (Kd.C_drew HC4.out) hx1).mono ?_
      rintro e w6 ⟨v6, rfl, ho, hb6⟩
      obtain ⟨A6, k6, rfl, hk6, hC6⟩ := ho.reads
      have hO6 := HO.out.bel (w := wr.drew) hb6
      have HV6 := Lib.hid (HalfV.bel (w := wr.drew) (HV.out.bel (Below.refl _ _).drew) hb6)
      have HO6 := Lib.hid hO6
      have HI6 := Lib.hid ho
      have d1 := (Below.cell hb6 hg2).trans hc'
      have d0 := hO6.cell 1
      have e0 := World.ownsRow.frozenAt HV6.out.row.row (k * 2 + 1)
      simp at d0
      clear hO6 ho
      refine ⟨_, rfl, ?_⟩
      refine hK.out _ _ ⟨d0, d1⟩ (fun hHeld => ?_)
      clear hK K
      refine norm_ (a' := ?_) ?_ ?_
      rotate_left
      · show Act.put _ (some 27) _ = _
        simp only [Act.put, List.setIfInBounds_toArray, List.set_cons_zero, List.set_cons_succ, i64_w, i32_w]
        rfl
      refine pure_ (i := 10) (N := some 28) (v := ?_) (a' := ?_) #[true, true, true, true, true, true, true, true, true, true, true, false, false] rfl rfl (by kernel_rfl) (fun _ _ _ h => h) (Or.inl ⟨by rfl, ?_⟩) ?_ ?_
      rotate_left
      · intro w'
        go_simp
        with_reducible rfl
      rotate_left
      · simp only [Act.put, List.setIfInBounds_toArray, List.set_cons_zero, List.set_cons_succ, i64_w, i32_w]
        rfl
      refine pure_ (i := 11) (N := some 29) (v := ?_) (a' := ?_) #[true, true, true, true, true, true, true, true, true, true, true, true, false] rfl rfl (by kernel_rfl) (fun _ _ _ h => h) (Or.inl ⟨by rfl, ?_⟩) ?_ ?_
      rotate_left
      · intro w'
        go_simp
        with_reducible rfl
      rotate_left
      · simp only [Act.put, List.setIfInBounds_toArray, List.set_cons_zero, List.set_cons_succ, i64_w, i32_w]
        rfl
      refine last_ (i := 12) (N := none) #[true, true, true, true, true, true, true, true, true, true, true, true, true] rfl rfl (by kernel_rfl) (by decide) (fun K hK => ?_)
      refine skip_ (w1 := ?_) (by rfl) rfl ?_ ?_
      rotate_left
      · go_simp
        rfl
      refine hK.out _ _ ?_
      clear hK K
      refine done_ (by kernel_rfl) ?_
      have hst := HalfV.step HV6.out HX.out (own_lower HI6.out HD.out.drew.size) (fun m b' q hm hb' hq hq2 => by
        have h1 := HV.out.inner_lt hm hb' hq
        have h2 := own_block_ge HI6.out hq2
        have h3 : wr.drew.heap.size = wr.heap.size := rfl
        omega)
      have hO7 := HO6.out.rowset HV6.out.row.row (by decide) (j := k * 2 + 1) (.slice A6 x.blocks.length k6)
      have hR7 := (HR.out.bel (w := wr.drew) hb6).rowset HV6.out.row.row (by decide) (j := k * 2 + 1) (.slice A6 x.blocks.length k6)
      have hS7 := own_other_type (HS2.out.bel (w := wr.drew) hb6) HV6.out.row.row (by decide) (HV6.out.row.setB HX.out (.slice A6 x.blocks.length k6)).2
      have hD7 := bel_set (Bel.tr (b := wr.drew) HD.out.drew hb6) hg1 (k * 2 + 1) (.slice A6 x.blocks.length k6)
      have H7 := Lib.hid (And.intro (And.intro hO7 hR7) (And.intro hS7 (And.intro hD7 hst)))
      clear hst hO7 hR7 hS7 hD7
      go_wp2
      go_roundg (p.vols.length - (k + 1))
      case rel => exact ⟨k + 1, by omega, int_eq (by omega), ⟨_, H7.out.2.2.2⟩, H7.out.1.1, H7.out.1.2, H7.out.2.1, H7.out.2.2.1⟩
      case measure => omega
    · have hkl : k = p.vols.length := by omega
      subst hkl
      have hop : OwnP wr W0.drew.heap.size (.slice A2 p.slots.length k2) (.slice A3 p.vols.length k3) p bvs := ⟨HS2.out, HV.out.full⟩
      have HOP := Lib.hid hop
      clear hv hop
      go_wp2
      have hR3 := HR.out.set 0 (.slice A2 p.slots.length k2) (cs' := #[.slice A2 p.slots.length k2, .slice none 0 0]) rfl
      have hR4 := hR3.set 1 (.slice A3 p.vols.length k3) (cs' := #[.slice A2 p.slots.length k2, .slice A3 p.vols.length k3]) rfl
      have hop4 := (HOP.out.far HR.out (by decide) (by decide) (by decide) 0 (.slice A2 p.slots.length k2)).far hR3 (by decide) (by decide) (by decide) 1 (.slice A3 p.vols.length k3)
      have hb4 := bel_set (bel_set (Bel.tr (b := W0.drew) HW.out.drew HD.out) (Nat.le_succ _) 0 (.slice A2 p.slots.length k2)) (Nat.le_succ _) 1 (.slice A3 p.vols.length k3)
      refine bodyPost_ret (results_cell_row rfl _ _ (w.heap.size + 1) 30 #[.slice A2 p.slots.length k2, .slice A3 p.vols.length k3] (0, 0) _ rfl hR4 Try.underlying30 rfl (by kernel_rfl)) rfl ?_
      exact ⟨_, _, _, rfl, hop4.lower (by have : W0.drew.heap.size = W0.heap.size := rfl; omega), hb4⟩
end Go.Proofs.Ytpobgjkmjlmafaa

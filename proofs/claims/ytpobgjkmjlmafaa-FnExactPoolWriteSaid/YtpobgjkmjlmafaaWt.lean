/- A pool that is a variable of one's own; a volume put into it. -/
import Derived.Test.YtpobgjkmjlmafaaWs
import Derived.Test.YtpobgjkmjlmafaaWo
namespace Go.Proofs.Ytpobgjkmjlmafaa
open Go.RowKit Go.Proofs.YtpobgjkmjlmafaaW.PrintWords Go.Proofs.YtpobgjkmjlmafaaW.PrintLast
set_option linter.unusedVariables false
set_option linter.unusedSimpArgs false

/-- Block b is a variable that holds the pool p; all that p has is of one's own, behind base. -/
structure PV (w : World) (b base : Nat) (p : Pool) : Prop where
  h : ∃ v0 v1 bvs, Blk w b #[v0, v1] 30 ∧ OwnP w base v0 v1 p bvs
  lo : base ≤ b
theorem PV.bel {w w' : World} {b base : Nat} {p : Pool} (h : PV w b base p) (hb : Bel w w') : PV w' b base p := by
  obtain ⟨⟨v0, v1, bvs, h1, h2⟩, h3⟩ := h
  exact ⟨⟨v0, v1, bvs, h1.bel hb, h2.bel hb⟩, h3⟩
/-- A step on such a variable: p becomes q, what lies below base is as it was. -/
def PVStep (b base : Nat) (q : Pool) (r : Value) (w : World) (e : Ending) (w' : World) : Prop := e = .returned r ∧ PV w' b base q ∧ Below base w w'
theorem own_one {w : World} {base : Nat} {e : TypeId} {sz n : Nat} {v : Value} {xs : List Value} (h : w.ownsRow base e sz v n xs) : v.oneCell' = true := by
  obtain ⟨A, c, rfl, _⟩ := own_cap h; rfl
theorem OwnV.one {w : World} {base : Nat} {v : Value} {vs : List Vol} {bvs : List Value} (h : OwnV w base v vs bvs) : ∀ b ∈ bvs, b.oneCell' = true := by
  intro b hb
  obtain ⟨m, hm⟩ := List.getElem?_of_mem hb
  obtain ⟨x, hx⟩ := getQ (show m < vs.length by rw [← h.row.len]; exact ltQ hm)
  exact own_one (h.inner m x b hx hm)
theorem insAt_get {α} {i : Nat} {x : α} {xs : List α} (hi : i ≤ xs.length) (k : Nat) : (insAt i x xs)[k]? = if k < i then xs[k]? else if k = i then some x else xs[k - 1]? := by
  unfold insAt
  have ht : (xs.take i).length = i := by rw [List.length_take]; omega
  by_cases h1 : k < i
  · rw [if_pos h1, List.getElem?_append_left (by omega), List.getElem?_take, if_pos h1]
  · rw [if_neg h1, List.getElem?_append_right (by omega), ht]
    by_cases h2 : k = i
    · rw [if_pos h2, h2, Nat.sub_self]; rfl
    · rw [if_neg h2, show k - i = (k - 1 - i) + 1 by omega, List.getElem?_cons_succ, List.getElem?_drop]
      congr 1; omega
/-- One volume more, in its place. -/
theorem OwnV.ins {W w1 : World} {base i : Nat} {v v1 : Value} {vs : List Vol} {bvs : List Value} {x : Vol} {b : Value} (h : OwnV W base v vs bvs) (hb : OwnI W base b x.blocks) (hi : i ≤ vs.length)
    (hap : ∀ (m : Nat) (b' : Value) (k : Nat), bvs[m]? = some b' → b'.ownBlock = some k → b.ownBlock ≠ some k) (hg : W.grownBy w1 v.ownBlock)
    (hr : VRow w1 base v1 (insAt i x vs) (insAt i b bvs)) : OwnV w1 base v1 (insAt i x vs) (insAt i b bvs) := by
  have hl := h.row.len
  refine ⟨hr, ?_, ?_⟩
  · intro m y c hy hc
    rw [insAt_get (by omega)] at hy hc
    by_cases h1 : m < i
    · rw [if_pos h1] at hy hc
      exact own_other_type (h.inner m y c hy hc) h.row.row (by decide) hg
    · rw [if_neg h1] at hy hc
      by_cases h2 : m = i
      · rw [if_pos h2] at hy hc
        obtain rfl := Option.some.inj hy
        obtain rfl := Option.some.inj hc
        exact own_other_type hb h.row.row (by decide) hg
      · rw [if_neg h2] at hy hc
        exact own_other_type (h.inner (m - 1) y c hy hc) h.row.row (by decide) hg
  · have hne : ∀ m c k, m ≠ i → (insAt i b bvs)[m]? = some c → c.ownBlock = some k → b.ownBlock ≠ some k := by
      intro m c k hm hc hk
      rw [insAt_get (by omega)] at hc
      by_cases h1 : m < i
      · rw [if_pos h1] at hc; exact hap m c k hc hk
      · rw [if_neg h1, if_neg hm] at hc; exact hap (m - 1) c k hc hk
    intro m j c c' k hmj hc hc' hk hk'
    by_cases h1 : m = i
    · subst h1
      rw [insAt_get (by omega), if_neg (by omega), if_pos rfl] at hc
      obtain rfl := Option.some.inj hc
      exact hne j c' k (by omega) hc' hk' hk
    · by_cases h2 : j = i
      · subst h2
        rw [insAt_get (by omega), if_neg (by omega), if_pos rfl] at hc'
        obtain rfl := Option.some.inj hc'
        exact hne m c k h1 hc hk hk'
      · rw [insAt_get (by omega)] at hc hc'
        have key : ∀ m : Nat, m ≠ i → ∀ c, (if m < i then bvs[m]? else if m = i then some b else bvs[m - 1]?) = some c → bvs[if m < i then m else m - 1]? = some c := by
          intro m hm c hc
          by_cases h3 : m < i
          · rwa [if_pos h3] at hc ⊢
          · rw [if_neg h3, if_neg hm] at hc; rwa [if_neg h3]
        refine h.apart _ _ c c' k ?_ (key m h1 c hc) (key j h2 c' hc') hk hk'
        split <;> split <;> omega

theorem Blk.grown {w w' : World} {b : Nat} {cs : Array Value} {t : TypeId} {r : Option Nat} (h : Blk w b cs t) (hg : w.grownBy w' r) (hne : some b ≠ r) : Blk w' b cs t := (hg.block b (Blk.lt h) hne).trans h
theorem own_blk_ne {w : World} {base : Nat} {e : TypeId} {sz n : Nat} {v : Value} {xs : List Value} (h : w.ownsRow base e sz v n xs) {b : Nat} {cs : Array Value} {t : TypeId} (hB : Blk w b cs t) (hne : e ≠ t) : some b ≠ v.ownBlock := by
  intro hk
  obtain ⟨c2, hc2⟩ := own_type h hk.symm
  rw [show w.heap[b]? = some (.cells cs t (0, 0)) from hB] at hc2
  injection hc2 with hc2
  injection hc2 with _ ht
  exact hne ht.symm
theorem own_old {w : World} {base : Nat} {e : TypeId} {sz n : Nat} {v : Value} {xs : List Value} (h : w.ownsRow base e sz v n xs) : some w.heap.size ≠ v.ownBlock := fun hk => by
  have := own_block_lt h hk.symm
  omega

set_option maxHeartbeats 4000000 in
set_option maxRecDepth 10000 in
theorem insert2_c {w w0 : World} {b base q : Nat} {p : Pool} {x : Vol} {bx : Value} (hp : PV w0 b base p) (hb : Bel w0 w) (hx : OwnI w w0.heap.size bx x.blocks) (hq : q ≤ p.vols.length) (hl : p.vols.length ≤ 1048576) (hm : ∀ (m : Nat) (y : Vol), p.vols[m]? = some y → (m < q ↔ cmpS y.name x.name < 0)) :
    Calls Try.prog 105 #[.pointer (some ⟨b, 0, none⟩), .agg #[.string x.name, bx]] w (PVStep b base ⟨p.slots, insAt q x p.vols⟩ (.tuple #[]) w) := by
  obtain ⟨⟨v0, v1, bvs, hB0, hP0⟩, hlo⟩ := hp
  have hbW : b < w0.heap.size := hB0.lt
  have hB := hB0.bel hb
  have hP := hP0.bel hb
  have hrow := hP.v.row
  obtain ⟨A1, c1, rfl, hc1, hC1⟩ := hP.v.reads
  obtain ⟨A0, c0, rfl, hc0, hC0⟩ := hP.s.reads
  obtain ⟨Ax, cx, rfl, hcx, hCx⟩ := hx.reads
  have hap : ∀ (m : Nat) (b' : Value) (k : Nat), bvs[m]? = some b' → b'.ownBlock = some k → Value.ownBlock (.slice Ax x.blocks.length cx) ≠ some k := fun m b' k hm hk h2 => by
    have e1 := hP0.v.inner_lt hm hk
    have e2 := own_block_ge hx h2
    omega
  have hbase : base ≤ w.heap.size := by have := hb.size; omega
  have HX := Lib.hid (own_lower hx (by have := hb.size; omega) : OwnI w base (.slice Ax x.blocks.length cx) x.blocks)
  have HP := Lib.hid hP
  have HB := Lib.hid hB
  have HAP := Lib.hid hap
  have HM := Lib.hid hm
  have HC1 := Lib.hid hC1
  clear hm hap hP hP0 hB0 hx hC1 hC0 hCx hrow
  have q1 := HB.out.cell 1
  have hbw : b < w.heap.size := HB.out.lt
  simp at q1
  clear hB
  go_enter Try.func105, Try.ntmps105
  go_wp2
  have hT : Blk (w.alloc (.cells #[.string x.name, .slice Ax x.blocks.length cx] 43)) w.heap.size #[.string x.name, .slice Ax x.blocks.length cx] 43 := Blk.new _ _ _
  have hW : Bel w (w.alloc (.cells #[.string x.name, .slice Ax x.blocks.length cx] 43)) := bel_alloc (Below.refl _ _) _
  have hwt : w.heap.size < (w.alloc (.cells #[.string x.name, .slice Ax x.blocks.length cx] 43)).heap.size := by simp
  generalize (w.alloc (.cells #[.string x.name, .slice Ax x.blocks.length cx] 43)) = W at hT hW hwt ⊢
  have HT := Lib.hid hT
  have HW := Lib.hid hW
  have u1 := (HB.out.bel HW.out).cell 1
  have t0 := HT.out.cell 0
  have t1 := HT.out.cell 1
  simp at u1 t0 t1
  clear hT hW q1
  refine start_ (n := 12) (S := fun w' => w'.cell? ⟨b, 1, none⟩ = some (.slice A1 p.vols.length c1) ∧ w'.cell? ⟨w.heap.size, 0, none⟩ = some (.string x.name)) (ds := []) #[false, false, false, false, false, false, false, false, false, false, false, false] (by kernel_rfl) rfl rfl ⟨u1, t0⟩ (fun hHeld => ?_)
  refine pure_ (i := 0) (N := some 7) (v := ?_) (a' := ?_) #[true, false, false, false, false, false, false, false, false, false, false, false] rfl rfl (by kernel_rfl) (fun _ _ _ h => h) (Or.inl ⟨by rfl, ?_⟩) ?_ ?_
  rotate_left
  · intro w'
    go_simp
    with_reducible rfl
  rotate_left
  · simp only [Act.put, List.setIfInBounds_toArray, List.set_cons_zero, List.set_cons_succ, i64_w, i32_w]
    rfl
  refine pure_ (i := 1) (N := some 8) (v := ?_) (a' := ?_) #[true, true, false, false, false, false, false, false, false, false, false, false] rfl rfl (by kernel_rfl) (fun _ _ _ h => h) (Or.inl ⟨by rfl, ?_⟩) ?_ ?_
  rotate_left
  · intro w'
    go_simp
    with_reducible rfl
  rotate_left
  · simp only [Act.put, List.setIfInBounds_toArray, List.set_cons_zero, List.set_cons_succ, i64_w, i32_w]
    rfl
  refine pure_ (i := 2) (N := some 9) (v := ?_) (a' := ?_) #[true, true, true, false, false, false, false, false, false, false, false, false] rfl rfl (by kernel_rfl) (fun _ _ _ h => h) (Or.inl ⟨by rfl, ?_⟩) ?_ ?_
  rotate_left
  · intro w'
    go_simp
    with_reducible rfl
  rotate_left
  · simp only [Act.put, List.setIfInBounds_toArray, List.set_cons_zero, List.set_cons_succ, i64_w, i32_w]
    rfl
  refine pure_ (i := 4) (N := some 11) (v := ?_) (a' := ?_) #[true, true, true, false, true, false, false, false, false, false, false, false] rfl rfl (by kernel_rfl) (fun _ _ _ h => h) (Or.inl ⟨by rfl, ?_⟩) ?_ ?_
  rotate_left
  · intro w'
    go_simp
    with_reducible rfl
  rotate_left
  · simp only [Act.put, List.setIfInBounds_toArray, List.set_cons_zero, List.set_cons_succ, i64_w, i32_w]
    rfl
  refine take_ (i := 3) (N := some 10) (v := ?_) (a' := ?_) #[true, true, true, true, true, false, false, false, false, false, false, false] rfl rfl (by kernel_rfl) (fun _ _ _ h => h) (Or.inl ⟨by rfl, ?_⟩) hHeld ?_ ?_
  rotate_left
  · rintro w' ⟨s0, s1⟩
    go_simp
    with_reducible rfl
  rotate_left
  · simp only [Act.put, List.setIfInBounds_toArray, List.set_cons_zero, List.set_cons_succ, i64_w, i32_w]
    rfl
  refine take_ (i := 5) (N := some 12) (v := ?_) (a' := ?_) #[true, true, true, true, true, true, false, false, false, false, false, false] rfl rfl (by kernel_rfl) (fun _ _ _ h => h) (Or.inl ⟨by rfl, ?_⟩) hHeld ?_ ?_
  rotate_left
  · rintro w' ⟨s0, s1⟩
    go_simp
    with_reducible rfl
  rotate_left
  · simp only [Act.put, List.setIfInBounds_toArray, List.set_cons_zero, List.set_cons_succ, i64_w, i32_w]
    rfl
  refine one_ (i := 6) (N := some 13) #[true, true, true, true, true, true, true, false, false, false, false, false] rfl rfl (by kernel_rfl) (by decide) (fun K hK => ?_)
  refine goes_ Try.func142 (by kernel_rfl) rfl #[.slice A1 p.vols.length c1, .string x.name, .func (.func 143) #[] #[]] (by rfl) rfl rfl (by simp only [List.map_toArray, List.map_cons, List.map_nil]; rfl) ?_
  with_reducible refine (search_c (Kd.C_below HC1.out HW.out.drew) hq hl HM.out).mono ?_
  rintro e w1 ⟨f, rfl, hb1⟩
  refine ⟨_, rfl, ?_⟩
  refine hK.out _ _ ⟨(HB.out.bel (Bel.tr (b := W.drew) HW.out.drew hb1)).cell 1, (Blk.bel (w := W.drew) HT.out hb1).cell 0⟩ (fun hHeld => ?_)
  clear hK K
  refine norm_ (a' := ?_) ?_ ?_
  rotate_left
  · show Act.put _ (some 13) _ = _
    simp only [Act.put, List.setIfInBounds_toArray, List.set_cons_zero, List.set_cons_succ, i64_w, i32_w]
    rfl
  refine pure_ (i := 7) (N := some 6) (v := ?_) (a' := ?_) #[true, true, true, true, true, true, true, true, false, false, false, false] rfl rfl (by kernel_rfl) (fun _ _ _ h => h) (Or.inl ⟨by rfl, ?_⟩) ?_ ?_
  rotate_left
  · intro w'
    go_simp
    with_reducible rfl
  rotate_left
  · simp only [Act.put, List.setIfInBounds_toArray, List.set_cons_zero, List.set_cons_succ, i64_w, i32_w]
    rfl
  refine pure_ (i := 8) (N := some 14) (v := ?_) (a' := ?_) #[true, true, true, true, true, true, true, true, true, false, false, false] rfl rfl (by kernel_rfl) (fun _ _ _ h => h) (Or.inl ⟨by rfl, ?_⟩) ?_ ?_
  rotate_left
  · intro w'
    go_simp
    with_reducible rfl
  rotate_left
  · simp only [Act.put, List.setIfInBounds_toArray, List.set_cons_zero, List.set_cons_succ, i64_w, i32_w]
    rfl
  refine pure_ (i := 9) (N := some 15) (v := ?_) (a' := ?_) #[true, true, true, true, true, true, true, true, true, true, false, false] rfl rfl (by kernel_rfl) (fun _ _ _ h => h) (Or.inl ⟨by rfl, ?_⟩) ?_ ?_
  rotate_left
  · intro w'
    go_simp
    with_reducible rfl
  rotate_left
  · simp only [Act.put, List.setIfInBounds_toArray, List.set_cons_zero, List.set_cons_succ, i64_w, i32_w]
    rfl
  refine pure_ (i := 10) (N := some 4) (v := ?_) (a' := ?_) #[true, true, true, true, true, true, true, true, true, true, true, false] rfl rfl (by kernel_rfl) (fun _ _ _ h => h) (Or.inl ⟨by rfl, ?_⟩) ?_ ?_
  rotate_left
  · intro w'
    go_simp
    with_reducible rfl
  rotate_left
  · simp only [Act.put, List.setIfInBounds_toArray, List.set_cons_zero, List.set_cons_succ, i64_w, i32_w]
    rfl
  refine pure_ (i := 11) (N := some 5) (v := ?_) (a' := ?_) #[true, true, true, true, true, true, true, true, true, true, true, true] rfl rfl (by kernel_rfl) (fun _ _ _ h => h) (Or.inl ⟨by rfl, ?_⟩) ?_ ?_
  rotate_left
  · intro w'
    go_simp
    with_reducible rfl
  rotate_left
  · simp only [Act.put, List.setIfInBounds_toArray, List.set_cons_zero, List.set_cons_succ, i64_w, i32_w]
    rfl
  refine done_ (by kernel_rfl) ?_
  have hD1 := Bel.tr (b := W.drew) HW.out.drew hb1
  have hT1 := Blk.bel (w := W.drew) HT.out hb1
  clear u1 t0 t1 hHeld
  have u1 := (HB.out.bel hD1).cell 1
  have t0 := hT1.cell 0
  have t1 := hT1.cell 1
  simp at u1 t0 t1
  have HT1 := Lib.hid hT1
  have HD1 := Lib.hid hD1
  have hI : Calls Try.prog 145 #[.slice A1 p.vols.length c1, .int .i64 q, .slice (some ⟨w1.heap.size, 0, none⟩) 1 1] ((w1.alloc (.cells #[.string x.name, .slice Ax x.blocks.length cx] 43)).drew) (Ins1 w1.drew base (.slice A1 p.vols.length c1) p.vols bvs q x (.slice Ax x.blocks.length cx)) :=
    insert_c (W := w1.drew) ((HP.out.v.row).bel hD1.drew) (by have := hD1.size; show base ≤ w1.heap.size; omega) HP.out.v.one rfl hq hl
  have HI := Lib.hid hI
  clear hT1 hD1 hI hb1
  go_wp2
  refine start_ (n := 12) (S := fun w' => w'.cell? ⟨b, 1, none⟩ = some (.slice A1 p.vols.length c1) ∧ w'.cell? ⟨w.heap.size, 0, none⟩ = some (.string x.name) ∧ w'.cell? ⟨w.heap.size, 1, none⟩ = some (.slice Ax x.blocks.length cx)) (ds := [11]) #[false, false, false, false, false, false, false, false, false, false, false, false] (by kernel_rfl) rfl rfl ⟨u1, t0, t1⟩ (fun hHeld => ?_)
  refine pure_ (i := 0) (N := some 16) (v := ?_) (a' := ?_) #[true, false, false, false, false, false, false, false, false, false, false, false] rfl rfl (by kernel_rfl) (fun _ _ _ h => h) (Or.inl ⟨by rfl, ?_⟩) ?_ ?_
  rotate_left
  · intro w'
    go_simp
    with_reducible rfl
  rotate_left
  · simp only [Act.put, List.setIfInBounds_toArray, List.set_cons_zero, List.set_cons_succ, i64_w, i32_w]
    rfl
  refine pure_ (i := 1) (N := some 17) (v := ?_) (a' := ?_) #[true, true, false, false, false, false, false, false, false, false, false, false] rfl rfl (by kernel_rfl) (fun _ _ _ h => h) (Or.inl ⟨by rfl, ?_⟩) ?_ ?_
  rotate_left
  · intro w'
    go_simp
    with_reducible rfl
  rotate_left
  · simp only [Act.put, List.setIfInBounds_toArray, List.set_cons_zero, List.set_cons_succ, i64_w, i32_w]
    rfl
  refine pure_ (i := 2) (N := some 18) (v := ?_) (a' := ?_) #[true, true, true, false, false, false, false, false, false, false, false, false] rfl rfl (by kernel_rfl) (fun _ _ _ h => h) (Or.inl ⟨by rfl, ?_⟩) ?_ ?_
  rotate_left
  · intro w'
    go_simp
    with_reducible rfl
  rotate_left
  · simp only [Act.put, List.setIfInBounds_toArray, List.set_cons_zero, List.set_cons_succ, i64_w, i32_w]
    rfl
  refine pure_ (i := 3) (N := some 19) (v := ?_) (a' := ?_) #[true, true, true, true, false, false, false, false, false, false, false, false] rfl rfl (by kernel_rfl) (fun _ _ _ h => h) (Or.inl ⟨by rfl, ?_⟩) ?_ ?_
  rotate_left
  · intro w'
    go_simp
    with_reducible rfl
  rotate_left
  · simp only [Act.put, List.setIfInBounds_toArray, List.set_cons_zero, List.set_cons_succ, i64_w, i32_w]
    rfl
  refine pure_ (i := 5) (N := some 21) (v := ?_) (a' := ?_) #[true, true, true, true, false, true, false, false, false, false, false, false] rfl rfl (by kernel_rfl) (fun _ _ _ h => h) (Or.inl ⟨by rfl, ?_⟩) ?_ ?_
  rotate_left
  · intro w'
    go_simp
    with_reducible rfl
  rotate_left
  · simp only [Act.put, List.setIfInBounds_toArray, List.set_cons_zero, List.set_cons_succ, i64_w, i32_w]
    rfl
  refine take_ (i := 4) (N := some 20) (v := ?_) (a' := ?_) #[true, true, true, true, true, true, false, false, false, false, false, false] rfl rfl (by kernel_rfl) (fun _ _ _ h => h) (Or.inl ⟨by rfl, ?_⟩) hHeld ?_ ?_
  rotate_left
  · rintro w' ⟨s0, s1, s2⟩
    go_simp
    with_reducible rfl
  rotate_left
  · simp only [Act.put, List.setIfInBounds_toArray, List.set_cons_zero, List.set_cons_succ, i64_w, i32_w]
    rfl
  refine take_ (i := 6) (N := some 22) (v := ?_) (a' := ?_) #[true, true, true, true, true, true, true, false, false, false, false, false] rfl rfl (by kernel_rfl) (fun _ _ _ h => h) (Or.inl ⟨by rfl, ?_⟩) hHeld ?_ ?_
  rotate_left
  · rintro w' ⟨s0, s1, s2⟩
    go_simp
    with_reducible rfl
  rotate_left
  · simp only [Act.put, List.setIfInBounds_toArray, List.set_cons_zero, List.set_cons_succ, i64_w, i32_w]
    rfl
  refine one_ (i := 7) (N := some 23) #[true, true, true, true, true, true, true, true, false, false, false, false] rfl rfl (by kernel_rfl) (by decide) (fun K hK => ?_)
  refine value_ (w1 := ?_) (v := ?_) (by rfl) rfl ?_ ?_
  rotate_left 2
  · go_simp
    constructor
    · rfl
    · rfl
  have hB2 := (HB.out.bel HD1.out).alloc (.cells #[.string x.name, .slice Ax x.blocks.length cx] 43)
  have hT2 := HT1.out.alloc (.cells #[.string x.name, .slice Ax x.blocks.length cx] 43)
  refine hK.out _ _ ⟨hB2.cell 1, hT2.cell 0, hT2.cell 1⟩ (fun hHeld => ?_)
  clear hK K
  refine norm_ (a' := ?_) ?_ ?_
  rotate_left
  · show Act.put _ (some 23) _ = _
    simp only [Act.put, List.setIfInBounds_toArray, List.set_cons_zero, List.set_cons_succ, i64_w, i32_w]
    rfl
  refine one_ (i := 8) (N := some 24) #[true, true, true, true, true, true, true, true, true, false, false, false] rfl rfl (by kernel_rfl) (by decide) (fun K hK => ?_)
  refine goes_ Try.func145 (by kernel_rfl) rfl #[.slice A1 p.vols.length c1, .int .i64 q, .slice (some ⟨w1.heap.size, 0, none⟩) 1 1] (by rfl) rfl rfl (by simp only [List.map_toArray, List.map_cons, List.map_nil]; rfl) ?_
  with_reducible refine (HI.out).mono ?_
  rintro e w2 ⟨v2, rfl, hr2, hg2⟩
  obtain ⟨A2, c2, rfl, hc2⟩ := own_cap hr2.row
  have hB2 : Blk w2 b _ _ := (HB.out.bel HD1.out.drew).grown hg2 (own_blk_ne (HP.out.v.row.row) HB.out (by decide))
  have hT2 : Blk w2 w.heap.size _ _ := Blk.grown (w := w1.drew) HT1.out hg2 (own_old HP.out.v.row.row)
  have z1 := hB2.cell 1
  have f1 := hB2.free 1
  simp at z1
  refine ⟨_, rfl, ?_⟩
  refine hK.out _ _ ⟨hB2.cell 1, hT2.cell 0, hT2.cell 1⟩ (fun hHeld => ?_)
  clear hK K
  refine norm_ (a' := ?_) ?_ ?_
  rotate_left
  · show Act.put _ (some 24) _ = _
    simp only [Act.put, List.setIfInBounds_toArray, List.set_cons_zero, List.set_cons_succ, i64_w, i32_w]
    rfl
  refine pure_ (i := 9) (N := some 25) (v := ?_) (a' := ?_) #[true, true, true, true, true, true, true, true, true, true, false, false] rfl rfl (by kernel_rfl) (fun _ _ _ h => h) (Or.inl ⟨by rfl, ?_⟩) ?_ ?_
  rotate_left
  · intro w'
    go_simp
    with_reducible rfl
  rotate_left
  · simp only [Act.put, List.setIfInBounds_toArray, List.set_cons_zero, List.set_cons_succ, i64_w, i32_w]
    rfl
  refine pure_ (i := 10) (N := some 26) (v := ?_) (a' := ?_) #[true, true, true, true, true, true, true, true, true, true, true, false] rfl rfl (by kernel_rfl) (fun _ _ _ h => h) (Or.inl ⟨by rfl, ?_⟩) ?_ ?_
  rotate_left
  · intro w'
    go_simp
    with_reducible rfl
  rotate_left
  · simp only [Act.put, List.setIfInBounds_toArray, List.set_cons_zero, List.set_cons_succ, i64_w, i32_w]
    rfl
  refine last_ (i := 11) (N := none) #[true, true, true, true, true, true, true, true, true, true, true, true] rfl rfl (by kernel_rfl) (by decide) (fun K hK => ?_)
  refine skip_ (w1 := ?_) (by rfl) rfl ?_ ?_
  rotate_left
  · go_simp
    rfl
  refine hK.out _ _ ?_
  clear hK K
  refine done_ (by kernel_rfl) ?_
  have hD2 := HD1.out.drew
  have hrowv := (HP.out.v.row).bel hD2
  have hov := (HP.out.v.bel hD2).ins (OwnI.bel HX.out hD2) hq HAP.out hg2 hr2
  have hos : OwnS w2 base (.slice A0 p.slots.length c0) p.slots := own_other_type (HP.out.s.bel hD2) hrowv.row (by decide) hg2
  have hB3 := hB2.set 1 (.slice A2 (insAt q x p.vols).length c2) (cs' := #[.slice A0 p.slots.length c0, .slice A2 (insAt q x p.vols).length c2]) rfl
  have hsz : w.heap.size ≤ w1.heap.size := HD1.out.size
  have hbel : Below base w w2 := (hD2.mono hbase).grown hg2 (by show base ≤ w1.heap.size; omega) (own_base hrowv.row)
  go_end0
  exact ⟨rfl, ⟨⟨_, _, _, hB3, hos.far hB2 (by decide) _ _, hov.far hB2 (by decide) (by decide) _ _⟩, hlo⟩, hbel.setCell hlo _⟩
end Go.Proofs.Ytpobgjkmjlmafaa

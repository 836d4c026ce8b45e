/- toIntS, toSlot, toVol, toSlotS, toVolS, toPool: copies of the laws' own values. -/
import Derived.Test.YtpobgjkmjlmafaaMd
import Derived.Test.YtpobgjkmjlmafaaWm
import Derived.Test.YtpobgjkmjlmafaaWo
import Derived.Test.YtpobgjkmjlmafaaMe
import Derived.Test.YtpobgjkmjlmafaaWLast
import Derived.Test.YtpobgjkmjlmafaaWApart
import Derived.Test.YtpobgjkmjlmafaaWt
namespace Go.Proofs.Ytpobgjkmjlmafaa
open Go.RowKit Go.Proofs.YtpobgjkmjlmafaaW.PrintWords Go.Proofs.YtpobgjkmjlmafaaW.PrintLast
set_option linter.unusedVariables false
set_option linter.unusedSimpArgs false

theorem kInt_mkM (w : World) (base : Nat) (ok : Nat → Prop) (x : Int) : kInt.M w base ok x [.int .i64 x] := rfl
theorem OwnI.get {w : World} {base g n cap : Nat} {s : List Int} (h : OwnI w base (.slice (some ⟨g, 0, none⟩) n cap) s) (hn : n = s.length) : OwnI w base (.slice (some ⟨g, 0, none⟩) s.length cap) s := hn ▸ h
theorem take_set_snoc {α} {xs ys : List α} {k : Nat} {x : α} (h : xs[k]? = some x) (hy : k < ys.length) (hp : ys.take k = xs.take k) : (ys.set k x).take (k + 1) = xs.take (k + 1) := by
  rw [take_snoc h, take_snoc (d := x) (by rw [List.getElem?_set_self hy]), List.take_set_of_le (Nat.le_refl _), hp]
set_option maxHeartbeats 2000000 in
theorem toIntS_c {w : World} {A : Option Addr} {c : Nat} {xs : List Int} (hC : kInt.C w A xs.length xs) (hl : xs.length ≤ 1048576) :
    Calls Try.prog 147 #[.slice A xs.length c] w (MadeI w xs) := by
  have H := Lib.hid hC
  clear hC
  go_enter Try.func147, Try.ntmps147
  go_wp2_with ((with_reducible refine gate_dst (N := 7) rfl ?_); refine Kd.R_make (w0 := w) kInt _ 3 rfl (N := 7) rfl 41 _ _ rfl xs.length rfl rfl Try.underlying41 (.int .i64 0) 8 info_int rfl (by decide) (by omega) 0 (ok := fun _ => True) (okp := fun _ => True) (kInt_mkM _ _ _ 0) (fun _ hk => hk) trivial (by omega) (by omega) (Below.refl _ _) (Nat.le_refl _) ?_; intro v1 w2 ho hb hg_ hnew_; clear hg_ hnew_)
  have ho1 : OwnI w2 w.heap.size v1 (List.replicate xs.length 0) := by have := ownI_of_R ho; rwa [Int.toNat_natCast] at this
  obtain ⟨A1, c1, rfl, hc1, hC1⟩ := ho1.reads
  rw [List.length_replicate] at hc1 ho1 ⊢
  have HO := Lib.hid ho1
  clear ho ho1 hC1
  go_loopg [4] xs.length (fun g v4 W => ∃ (j : Nat) (s' : List Int), g + j = xs.length ∧ v4 = .int .i64 j ∧ Hid (s'.length = xs.length) ∧ Hid (s'.take j = xs.take j) ∧ Hid (OwnI W w.heap.size (.slice A1 xs.length c1) s') ∧ Bel w W)
  case atStart => exact ⟨0, List.replicate xs.length 0, rfl, rfl, List.length_replicate, rfl, HO.out, hb⟩
  case round =>
    obtain ⟨j, s', hj, rfl, hl', ht, ho, hW⟩ := hrel
    by_cases hlt : j < xs.length
    · obtain ⟨x, hx⟩ := getQ hlt
      obtain ⟨ad, rfl, hc⟩ := at_int (Kd.C_below H.out hW) hx
      obtain ⟨y, hy⟩ := getQ (show j < s'.length by rw [hl'.out]; exact hlt)
      obtain ⟨g, cap, ev, hbg, hgw, hcap, hcc, hf⟩ := ho.out.at hy
      obtain ⟨rfl, -, rfl⟩ := by simpa using ev
      have hst := OwnI.set (hl'.out ▸ ho.out) hy x
      have H3 := Lib.hid (And.intro hst (And.intro (bel_set hW hbg j (.int .i64 x)) (take_set_snoc hx (ltQ hy) ht.out)))
      clear hx hy hst ev
      go_wp2
      go_roundg (xs.length - (j + 1))
      case measure => omega
      case rel => exact ⟨j + 1, s'.set j x, by omega, by go_num, by rw [Hid, List.length_set]; exact hl'.out, H3.out.2.2, hl'.out ▸ H3.out.1.1, H3.out.2.1⟩
    · have HE := Lib.hid (show s' = xs by
        have h1 := ht.out
        rwa [List.take_of_length_le (by rw [hl'.out]; omega), List.take_of_length_le (by omega)] at h1)
      go_wp2
      go_ret
      exact ⟨_, rfl, HE.out ▸ ho.out, hW⟩
set_option maxHeartbeats 1000000 in
theorem toSlot_c (x : Slot) (w : World) : Calls Try.prog 121 #[.agg #[.string x.text, .int .i64 x.uses]] w (Ret (.agg #[.string x.text, .int .i64 x.uses]) w) := by
  go_enter Try.func121, Try.ntmps121
  go_wp2
  have hR : Blk (((w.alloc (.cells #[.string x.text, .int .i64 x.uses] 117)).alloc (.cells #[.string x.text, .int .i64 x.uses] 100)).alloc (.cells #[.string x.text, .int .i64 x.uses] 100)) (w.heap.size + 1) #[.string x.text, .int .i64 x.uses] 100 := (Blk.nw2 _ _ _ _).alloc _
  refine bodyPost_ret (results_cell_row rfl _ _ (w.heap.size + 1) 100 #[.string x.text, .int .i64 x.uses] (0, 0) _ rfl hR Try.underlying100 rfl (by kernel_rfl)) rfl ?_
  exact ⟨rfl, bel_alloc (bel_alloc (bel_alloc (Below.refl _ _) _) _) _⟩
theorem Blk.nw3 (w : World) (o o' : Obj) (cs : Array Value) (t : TypeId) : Blk (((w.alloc o).alloc o').alloc (.cells cs t)) (w.heap.size + 1 + 1) cs t := by
  have := Blk.nw2 (w.alloc o) o' cs t
  rwa [show (w.alloc o).heap.size = w.heap.size + 1 by simp] at this
set_option maxHeartbeats 2000000 in
theorem toVol_c {w : World} {A : Option Addr} {c : Nat} {v : Vol} (hC : kInt.C w A v.blocks.length v.blocks) (hl : v.blocks.length ≤ 1048576) :
    Calls Try.prog 122 #[.agg #[.string v.name, .slice A v.blocks.length c]] w (MadeV1 w v) := by
  have H := Lib.hid hC
  clear hC
  go_enter Try.func122, Try.ntmps122
  go_wp2_with fail
  have hR : Blk (((w.alloc (.cells #[.string v.name, .slice A v.blocks.length c] 119)).alloc (.cells #[.string ⟨#[]⟩, .slice none 0 0] 43)).alloc (.cells #[.string v.name, .slice none 0 0] 43)) (w.heap.size + 1) #[.string ⟨#[]⟩, .slice none 0 0] 43 := (Blk.nw2 _ _ _ _).alloc _
  have hL : Blk (((w.alloc (.cells #[.string v.name, .slice A v.blocks.length c] 119)).alloc (.cells #[.string ⟨#[]⟩, .slice none 0 0] 43)).alloc (.cells #[.string v.name, .slice none 0 0] 43)) (w.heap.size + 1 + 1) #[.string v.name, .slice none 0 0] 43 := Blk.nw3 _ _ _ _ _
  have hW : Bel w (((w.alloc (.cells #[.string v.name, .slice A v.blocks.length c] 119)).alloc (.cells #[.string ⟨#[]⟩, .slice none 0 0] 43)).alloc (.cells #[.string v.name, .slice none 0 0] 43)) := bel_alloc (bel_alloc (bel_alloc (Below.refl _ _) _) _) _
  generalize (((w.alloc (.cells #[.string v.name, .slice A v.blocks.length c] 119)).alloc (.cells #[.string ⟨#[]⟩, .slice none 0 0] 43)).alloc (.cells #[.string v.name, .slice none 0 0] 43)) = W at hR hL hW ⊢
  refine (toIntS_c (Kd.C_below H.out hW) hl).mono ?_
  rintro e w1 ⟨b, rfl, ho, hb1⟩
  obtain ⟨A1, c1, rfl, hc1, hC1⟩ := ho.reads
  have HR := Lib.hid (hR.bel hb1)
  have HL := Lib.hid (hL.bel hb1)
  have HW := Lib.hid (hW.tr hb1)
  have HO := Lib.hid (own_lower ho hW.size : OwnI w1 w.heap.size (.slice A1 v.blocks.length c1) v.blocks)
  have r0 := HR.out.cell 0
  have r1 := HR.out.cell 1
  have f0 := HR.out.free 0
  have f1 := HR.out.free 1
  have l0 := HL.out.cell 0
  have l1 := HL.out.cell 1
  have g0 := HL.out.free 0
  have g1 := HL.out.free 1
  have z1 := HL.out.lt
  simp at r0 r1 l0 l1
  clear hR hL hW ho hb1 hC1
  go_wp2
  have hR0 := HR.out.apart (show w.heap.size + 1 + 1 ≠ w.heap.size + 1 by omega) 1 (.slice A1 v.blocks.length c1)
  have hR1 := hR0.set 0 (.string v.name) (cs' := #[.string v.name, .slice none 0 0]) rfl
  have hR2 := hR1.set 1 (.slice A1 v.blocks.length c1) (cs' := #[.string v.name, .slice A1 v.blocks.length c1]) rfl
  have ho := ((OwnI.far HO.out HL.out (by decide) 1 (.slice A1 v.blocks.length c1)).far hR0 (by decide) 0 (.string v.name)).far hR1 (by decide) 1 (.slice A1 v.blocks.length c1)
  have hb := bel_set (bel_set (bel_set HW.out (show w.heap.size ≤ w.heap.size + 1 + 1 by omega) 1 (.slice A1 v.blocks.length c1)) (show w.heap.size ≤ w.heap.size + 1 by omega) 0 (.string v.name)) (show w.heap.size ≤ w.heap.size + 1 by omega) 1 (.slice A1 v.blocks.length c1)
  refine bodyPost_ret (results_cell_row rfl _ _ (w.heap.size + 1) 43 #[.string v.name, .slice A1 v.blocks.length c1] (0, 0) _ rfl hR2 Try.underlying43 rfl (by kernel_rfl)) rfl ?_
  exact ⟨_, rfl, ho, hb⟩
/-- One volume of one's own stored: its name, its blocks. -/
theorem OwnV.put {w : World} {base g cap : Nat} {vs : List Vol} {bvs : List Value} (h : OwnV w base (.slice (some ⟨g, 0, none⟩) vs.length cap) vs bvs) {m : Nat} {y : Vol} (hy : vs[m]? = some y) (x : Vol) {b : Value} (hb : OwnI w base b x.blocks)
    (hap : ∀ (i : Nat) (b' : Value) (k : Nat), bvs[i]? = some b' → b'.ownBlock = some k → b.ownBlock ≠ some k) :
    OwnV ((w.setCell ⟨g, m * 2, none⟩ (.string x.name)).setCell ⟨g, m * 2 + 1, none⟩ b) base (.slice (some ⟨g, 0, none⟩) vs.length cap) (vs.set m x) (bvs.set m b) ∧ w.grownBy ((w.setCell ⟨g, m * 2, none⟩ (.string x.name)).setCell ⟨g, m * 2 + 1, none⟩ b) (some g) := by
  obtain ⟨h1, g1⟩ := h.row.setN hy x.name
  have hm := ltQ hy
  have hy1 : (vs.set m ⟨x.name, y.blocks⟩)[m]? = some ⟨x.name, y.blocks⟩ := List.getElem?_set_self hm
  have h1' : VRow (w.setCell ⟨g, m * 2, none⟩ (.string x.name)) base (.slice (some ⟨g, 0, none⟩) (vs.set m ⟨x.name, y.blocks⟩).length cap) (vs.set m ⟨x.name, y.blocks⟩) bvs := by rw [List.length_set]; exact h1
  obtain ⟨h2, g2⟩ := h1'.setB hy1 b
  have hbm : m < bvs.length := by rw [h.row.len]; exact hm
  have hg := grown_tr g1 g2
  have hz : ((vs.set m x).zip (bvs.set m b)).flatMap encV = ((vs.set m ⟨x.name, y.blocks⟩).zip (bvs.set m b)).flatMap encV := by
    rw [show vs.set m x = (vs.set m ⟨x.name, y.blocks⟩).set m x by rw [List.set_set], ← zip_setL (List.getElem?_set_self hbm)]
    exact flat_same (zip_get hy1 (List.getElem?_set_self hbm)) rfl
  refine ⟨⟨⟨by rw [List.length_set, List.length_set]; exact h.row.len, ?_⟩, ?_, ?_⟩, hg⟩
  · have h5 := h2.row
    rw [hz, List.length_set]
    rw [List.length_set] at h5
    exact h5
  · intro i z c hz2 hc
    by_cases e : i = m
    · subst e
      rw [List.getElem?_set_self hm] at hz2
      rw [List.getElem?_set_self hbm] at hc
      obtain rfl := Option.some.inj hz2
      obtain rfl := Option.some.inj hc
      exact own_other_type hb h.row.row (by decide) hg
    · rw [List.getElem?_set_ne (fun h => e h.symm)] at hz2 hc
      exact own_other_type (h.inner i z c hz2 hc) h.row.row (by decide) hg
  · intro i j c c' k hij hc hc' hk hk'
    by_cases e : i = m
    · subst e
      rw [List.getElem?_set_self hbm] at hc
      rw [List.getElem?_set_ne hij] at hc'
      obtain rfl := Option.some.inj hc
      exact hap j c' k hc' hk' hk
    · rw [List.getElem?_set_ne (fun h => e h.symm)] at hc
      by_cases e2 : j = m
      · subst e2
        rw [List.getElem?_set_self hbm] at hc'
        obtain rfl := Option.some.inj hc'
        exact hap i c k hc hk hk'
      · rw [List.getElem?_set_ne (fun h => e2 h.symm)] at hc'
        exact h.apart i j c c' k hij hc hc' hk hk'
/-- A row whose elements are all zero. -/
def kZ (Z : List Value) : Kd Unit := Kd.iso (Kd.raw Z.length) (fun _ => Z)
theorem kZ_rows {w : World} {base : Nat} {T : TypeId} {ok : Nat → Prop} {v : Value} {Z : List Value} {xs : List Unit} (h : (kZ Z).R T w base ok v xs) : w.ownsRow base T Z.length v xs.length (xs.flatMap fun _ => Z) := by
  obtain ⟨_, inner, ho, hr⟩ := h
  have := reps_eq (enc := fun _ : Unit => Z) (sz := Z.length) (fun _ => rfl) hr (fun x c hx => hx.1)
  rw [this] at ho
  exact ho
theorem OwnV.zeros {w : World} {base n : Nat} {v : Value} (h : w.ownsRow base 43 2 v n ((List.replicate n ()).flatMap fun _ => [.string ⟨#[]⟩, .slice none 0 0])) : OwnV w base v (List.replicate n Vol.z) (List.replicate n (.slice none 0 0)) := by
  refine ⟨⟨by simp, ?_⟩, fun m x b hx hb => ?_, fun i j b b' k _ hb _ hk => ?_⟩
  · rw [List.length_replicate]
    have : ∀ n : Nat, ((List.replicate n Vol.z).zip (List.replicate n (Value.slice none 0 0))).flatMap encV = (List.replicate n ()).flatMap fun _ => [.string ⟨#[]⟩, .slice none 0 0] := by
      intro n
      induction n with
      | zero => rfl
      | succ n ih => simp only [List.replicate_succ, List.zip_cons_cons, List.flatMap_cons, ih]; rfl
    rw [this]; exact h
  · obtain rfl := (List.mem_replicate.1 (List.mem_of_getElem? hx)).2
    obtain rfl := (List.mem_replicate.1 (List.mem_of_getElem? hb)).2
    exact World.ownsRow_nil _ _ _ _
  · obtain rfl := (List.mem_replicate.1 (List.mem_of_getElem? hb)).2
    simp [Value.ownBlock] at hk
set_option maxHeartbeats 2000000 in
theorem toSlotS_c {w : World} {A : Option Addr} {c : Nat} {xs : List Slot} (hC : kSlot.C w A xs.length xs) (hl : xs.length ≤ 1048576) :
    Calls Try.prog 65 #[.slice A xs.length c] w (MadeS w xs) := by
  have H := Lib.hid hC
  clear hC
  go_enter Try.func65, Try.ntmps65
  go_wp2_with ((with_reducible refine gate_dst (N := 7) rfl ?_); refine Kd.R_make (w0 := w) kSlot _ 100 rfl (N := 7) rfl 27 _ _ rfl xs.length rfl rfl Try.underlying27 (.agg #[.string ⟨#[]⟩, .int .i64 0]) 24 info_slot rfl (by decide) (by omega) Slot.z (ok := fun _ => True) (okp := fun _ => True) (kSlot_mkM _ _ _ Slot.z) (fun _ hk => hk) trivial (by omega) (by omega) (Below.refl _ _) (Nat.le_refl _) ?_; intro v1 w2 ho hb hg_ hnew_; clear hg_ hnew_)
  have ho1 : OwnS w2 w.heap.size v1 (List.replicate xs.length Slot.z) := by have := ownS_of_R ho; rwa [Int.toNat_natCast] at this
  obtain ⟨A1, c1, rfl, hc1, hC1⟩ := ho1.reads
  rw [List.length_replicate] at hc1 ho1 ⊢
  have HO := Lib.hid ho1
  clear ho ho1 hC1
  go_loopg [4] xs.length (fun g v4 W => ∃ (j : Nat) (s' : List Slot), g + j = xs.length ∧ v4 = .int .i64 j ∧ Hid (s'.length = xs.length) ∧ Hid (s'.take j = xs.take j) ∧ Hid (OwnS W w.heap.size (.slice A1 xs.length c1) s') ∧ Bel w W)
  case atStart => exact ⟨0, List.replicate xs.length Slot.z, rfl, rfl, List.length_replicate, rfl, HO.out, hb⟩
  case round =>
    obtain ⟨j, s', hj, rfl, hl', ht, ho, hW⟩ := hrel
    by_cases hlt : j < xs.length
    · obtain ⟨x, hx⟩ := getQ hlt
      obtain ⟨ad, rfl, hc, hc'⟩ := at_slot (Kd.C_below H.out hW) hx
      obtain ⟨y, hy⟩ := getQ (show j < s'.length by rw [hl'.out]; exact hlt)
      have HX := Lib.hid (And.intro hx hy)
      have HW := Lib.hid hW
      clear hx hy hW
      go_wp2_with fail
      refine (toSlot_c x _).mono ?_
      rintro e w4 ⟨rfl, hb4⟩
      have ho4 := ho.out.bel hb4
      obtain ⟨g, cap, ev, hbg, hgw, hcap, hcc, hcc', hf, hf'⟩ := OwnS.at ho4 HX.out.2
      obtain ⟨rfl, -, rfl⟩ := by simpa using ev
      have hst := OwnS.setTU (hl'.out ▸ ho4) HX.out.2 x.text x.uses
      have H3 := Lib.hid (And.intro hst (And.intro (bel_set (bel_set (HW.out.tr hb4) hbg (j * 2) (.string x.text)) hbg (j * 2 + 1) (.int .i64 x.uses)) (take_set_snoc HX.out.1 (ltQ HX.out.2) ht.out)))
      clear hst ev ho4 hb4
      go_wp2
      go_roundg (xs.length - (j + 1))
      case measure => omega
      case rel => exact ⟨j + 1, s'.set j x, by omega, by go_num, by rw [Hid, List.length_set]; exact hl'.out, H3.out.2.2, hl'.out ▸ H3.out.1.1, H3.out.2.1⟩
    · have HE := Lib.hid (show s' = xs by
        have h1 := ht.out
        rwa [List.take_of_length_le (by rw [hl'.out]; omega), List.take_of_length_le (by omega)] at h1)
      go_wp2
      go_ret
      exact ⟨_, rfl, HE.out ▸ ho.out, hW⟩
def MadeV (w : World) (vs : List Vol) (e : Ending) (w' : World) : Prop := ∃ v bvs, e = .returned v ∧ OwnV w' w.heap.size v vs bvs ∧ Bel w w'
theorem raw_mk (w : World) (base : Nat) (ok : Nat → Prop) : (kZ [.string ⟨#[]⟩, .slice none 0 0]).M w base ok () [.string ⟨#[]⟩, .slice none 0 0] := ⟨rfl, rfl, by intro u hu; simp at hu; rcases hu with rfl | rfl <;> rfl⟩
set_option maxHeartbeats 2000000 in
theorem toVolS_c {w : World} {A : Option Addr} {c : Nat} {xs : List Vol} (hC : kVol.C w A xs.length xs) (hs : SmallV xs) :
    Calls Try.prog 66 #[.slice A xs.length c] w (MadeV w xs) := by
  have H := Lib.hid hC
  have HS := Lib.hid hs
  have hl := hs.len
  clear hC hs
  go_enter Try.func66, Try.ntmps66
  go_wp2_with ((with_reducible refine gate_dst (N := 7) rfl ?_); refine Kd.R_make (w0 := w) (kZ [.string ⟨#[]⟩, .slice none 0 0]) _ 43 rfl (N := 7) rfl 28 _ _ rfl xs.length rfl rfl Try.underlying28 (.agg #[.string ⟨#[]⟩, .slice none 0 0]) 40 info_vol rfl (by decide) (by omega) () (ok := fun _ => True) (okp := fun _ => True) (raw_mk _ _ _) (fun _ hk => hk) trivial (by omega) (by omega) (Below.refl _ _) (Nat.le_refl _) ?_; intro v1 w2 ho hb hg_ hnew_; clear hg_ hnew_)
  have ho1 : OwnV w2 w.heap.size v1 (List.replicate xs.length Vol.z) (List.replicate xs.length (.slice none 0 0)) := by
    have := kZ_rows ho
    rw [Int.toNat_natCast, List.length_replicate] at this
    exact OwnV.zeros this
  obtain ⟨A1, c1, rfl, hc1, hC1⟩ := ho1.reads
  rw [List.length_replicate] at hc1 ho1 ⊢
  have HO := Lib.hid ho1
  clear ho ho1 hC1
  go_loopg [4] xs.length (fun g v4 W => ∃ (j : Nat) (s' : List Vol), g + j = xs.length ∧ v4 = .int .i64 j ∧ Hid (s'.length = xs.length) ∧ Hid (s'.take j = xs.take j) ∧ Hid (∃ bvs, OwnV W w.heap.size (.slice A1 xs.length c1) s' bvs) ∧ Bel w W)
  case atStart => exact ⟨0, List.replicate xs.length Vol.z, rfl, rfl, List.length_replicate, rfl, ⟨_, HO.out⟩, hb⟩
  case round =>
    obtain ⟨j, s', hj, rfl, hl', ht, ho, hW⟩ := hrel
    by_cases hlt : j < xs.length
    · obtain ⟨x, hx⟩ := getQ hlt
      obtain ⟨ad, A2, c2, rfl, hc, hc', hc2, hC2⟩ := at_vol (Kd.C_below H.out hW) hx
      obtain ⟨y, hy⟩ := getQ (show j < s'.length by rw [hl'.out]; exact hlt)
      have hxb : x.blocks.length ≤ 1048576 := HS.out.blocks x (List.mem_of_getElem? hx)
      have HX := Lib.hid (And.intro hx hy)
      have HW := Lib.hid hW
      have HC2 := Lib.hid hC2
      clear hx hy hW hC2
      go_wp2_with fail
      refine (toVol_c (v := x) HC2.out hxb).mono ?_
      rintro e w4 ⟨b, rfl, hob, hb4⟩
      obtain ⟨bvs, hov⟩ := ho.out
      have ho4 := hov.bel hb4
      have hlt4 : ∀ (i : Nat) (b' : Value) (k : Nat), bvs[i]? = some b' → b'.ownBlock = some k → b.ownBlock ≠ some k := fun i b' k hi hk h2 => by
        have e1 := hov.inner_lt hi hk
        have e2 := own_block_ge hob h2
        omega
      obtain ⟨g, cap, bv, hbv, ev, hbg, hgw, hcap, hcc, hcc', hf, hf'⟩ := ho4.row.at HX.out.2
      obtain ⟨rfl, -, rfl⟩ := by simpa using ev
      obtain ⟨A3, c3, rfl, hc3, hC3⟩ := hob.reads
      have hst := OwnV.put (hl'.out ▸ ho4) HX.out.2 x (own_lower hob HW.out.size) hlt4
      have H3 := Lib.hid (And.intro hst (And.intro (bel_set (bel_set (HW.out.tr hb4) hbg (j * 2) (.string x.name)) hbg (j * 2 + 1) (.slice A3 x.blocks.length c3)) (take_set_snoc HX.out.1 (ltQ HX.out.2) ht.out)))
      clear hst ev ho4 hb4 hov hlt4 hob hC3 hbv
      go_wp2
      go_roundg (xs.length - (j + 1))
      case measure => omega
      case rel => exact ⟨j + 1, s'.set j x, by omega, by go_num, by rw [Hid, List.length_set]; exact hl'.out, H3.out.2.2, ⟨_, hl'.out ▸ H3.out.1.1⟩, H3.out.2.1⟩
    · have HE := Lib.hid (show s' = xs by
        have h1 := ht.out
        rwa [List.take_of_length_le (by rw [hl'.out]; omega), List.take_of_length_le (by omega)] at h1)
      go_wp2
      go_ret
      obtain ⟨bvs, hov⟩ := ho.out
      exact ⟨_, bvs, rfl, HE.out ▸ hov, hW⟩
set_option maxHeartbeats 2000000 in
theorem toPool_c {w : World} {A0 A1 : Option Addr} {c0 c1 : Nat} {p : Pool} (h : PoolIn w A0 A1 c0 c1 p) (hs : SmallP p) :
    Calls Try.prog 26 #[.agg #[.slice A0 p.slots.length c0, .slice A1 p.vols.length c1]] w (MadeP w p) := by
  have H := Lib.hid h
  have HS := Lib.hid hs
  clear h hs
  go_enter Try.func26, Try.ntmps26
  go_wp2_with fail
  have hB : Blk (((w.alloc (.cells #[.slice A0 p.slots.length c0, .slice A1 p.vols.length c1] 25)).alloc (.cells #[.slice none 0 0, .slice none 0 0] 30)).alloc (.cells #[.slice none 0 0, .slice none 0 0] 30)) w.heap.size #[.slice A0 p.slots.length c0, .slice A1 p.vols.length c1] 25 := ((Blk.new _ _ _).alloc _).alloc _
  have hR : Blk (((w.alloc (.cells #[.slice A0 p.slots.length c0, .slice A1 p.vols.length c1] 25)).alloc (.cells #[.slice none 0 0, .slice none 0 0] 30)).alloc (.cells #[.slice none 0 0, .slice none 0 0] 30)) (w.heap.size + 1) #[.slice none 0 0, .slice none 0 0] 30 := (Blk.nw2 _ _ _ _).alloc _
  have hL : Blk (((w.alloc (.cells #[.slice A0 p.slots.length c0, .slice A1 p.vols.length c1] 25)).alloc (.cells #[.slice none 0 0, .slice none 0 0] 30)).alloc (.cells #[.slice none 0 0, .slice none 0 0] 30)) (w.heap.size + 1 + 1) #[.slice none 0 0, .slice none 0 0] 30 := Blk.nw3 _ _ _ _ _
  have hW : Bel w (((w.alloc (.cells #[.slice A0 p.slots.length c0, .slice A1 p.vols.length c1] 25)).alloc (.cells #[.slice none 0 0, .slice none 0 0] 30)).alloc (.cells #[.slice none 0 0, .slice none 0 0] 30)) := bel_alloc (bel_alloc (bel_alloc (Below.refl _ _) _) _) _
  generalize (((w.alloc (.cells #[.slice A0 p.slots.length c0, .slice A1 p.vols.length c1] 25)).alloc (.cells #[.slice none 0 0, .slice none 0 0] 30)).alloc (.cells #[.slice none 0 0, .slice none 0 0] 30)) = W at hB hR hL hW ⊢
  refine (toSlotS_c (H.out.bel hW).s HS.out.slots.len).mono ?_
  rintro e w1 ⟨b, rfl, ho, hb1⟩
  obtain ⟨A2, c2, rfl, hc2, hC2⟩ := ho.reads
  have HB := Lib.hid (hB.bel hb1)
  have HR := Lib.hid (hR.bel hb1)
  have HL := Lib.hid (hL.bel hb1)
  have HW := Lib.hid (hW.tr hb1)
  have HO := Lib.hid (own_lower ho hW.size : OwnS w1 w.heap.size (.slice A2 p.slots.length c2) p.slots)
  have q0 := HB.out.cell 0
  have q1 := HB.out.cell 1
  have l0 := HL.out.cell 0
  have l1 := HL.out.cell 1
  have g0 := HL.out.free 0
  have g1 := HL.out.free 1
  have z1 := HL.out.lt
  simp at q0 q1 l0 l1
  clear hB hR hL hW ho hb1 hC2
  go_wp2_with fail
  have hL1 := HL.out.set 0 (.slice A2 p.slots.length c2) (cs' := #[.slice A2 p.slots.length c2, .slice none 0 0]) rfl
  have hR1 := HR.out.apart (show w.heap.size + 1 + 1 ≠ w.heap.size + 1 by omega) 0 (.slice A2 p.slots.length c2)
  have ho1 := OwnS.far HO.out HL.out (by decide) 0 (.slice A2 p.slots.length c2)
  have hb1 := bel_set HW.out (show w.heap.size ≤ w.heap.size + 1 + 1 by omega) 0 (.slice A2 p.slots.length c2)
  generalize (w1.setCell ⟨w.heap.size + 1 + 1, 0, none⟩ (.slice A2 p.slots.length c2)) = W1 at hL1 hR1 ho1 hb1 ⊢
  refine (toVolS_c (H.out.bel hb1).v HS.out.vols).mono ?_
  rintro e w3 ⟨v3, bvs, rfl, ho3, hb3⟩
  obtain ⟨A3, c3, rfl, hc3, hC3⟩ := ho3.reads
  have HR3 := Lib.hid (hR1.bel hb3)
  have HL3 := Lib.hid (hL1.bel hb3)
  have HP3 := Lib.hid (show OwnP w3 w.heap.size (.slice A2 p.slots.length c2) (.slice A3 p.vols.length c3) p bvs from ⟨ho1.bel hb3, ⟨ho3.row.len, own_lower ho3.row.row hb1.size⟩, fun m x b hx hbb => own_lower (ho3.inner m x b hx hbb) hb1.size, ho3.apart⟩)
  have HB3 := Lib.hid (hb1.tr hb3)
  clear hL1 hR1 ho1 hb1 hb3 ho3 hC3 q0 q1 l0 l1 g0 g1 z1
  have r0 := HR3.out.cell 0
  have r1 := HR3.out.cell 1
  have f0 := HR3.out.free 0
  have f1 := HR3.out.free 1
  have l0 := HL3.out.cell 0
  have l1 := HL3.out.cell 1
  have g0 := HL3.out.free 0
  have g1 := HL3.out.free 1
  have z1 := HL3.out.lt
  simp at r0 r1 l0 l1
  go_wp2
  have hL4 := HL3.out.set 1 (.slice A3 p.vols.length c3) (cs' := #[.slice A2 p.slots.length c2, .slice A3 p.vols.length c3]) rfl
  have hR4 := HR3.out.apart (show w.heap.size + 1 + 1 ≠ w.heap.size + 1 by omega) 1 (.slice A3 p.vols.length c3)
  have hR5 := hR4.set 0 (.slice A2 p.slots.length c2) (cs' := #[.slice A2 p.slots.length c2, .slice none 0 0]) rfl
  have hR6 := hR5.set 1 (.slice A3 p.vols.length c3) (cs' := #[.slice A2 p.slots.length c2, .slice A3 p.vols.length c3]) rfl
  have hop := ((HP3.out.far HL3.out (by decide) (by decide) (by decide) 1 (.slice A3 p.vols.length c3)).far hR4 (by decide) (by decide) (by decide) 0 (.slice A2 p.slots.length c2)).far hR5 (by decide) (by decide) (by decide) 1 (.slice A3 p.vols.length c3)
  have hb5 := bel_set (bel_set (bel_set HB3.out (show w.heap.size ≤ w.heap.size + 1 + 1 by omega) 1 (.slice A3 p.vols.length c3)) (show w.heap.size ≤ w.heap.size + 1 by omega) 0 (.slice A2 p.slots.length c2)) (show w.heap.size ≤ w.heap.size + 1 by omega) 1 (.slice A3 p.vols.length c3)
  refine bodyPost_ret (results_cell_row rfl _ _ (w.heap.size + 1) 30 #[.slice A2 p.slots.length c2, .slice A3 p.vols.length c3] (0, 0) _ rfl hR6 Try.underlying30 rfl (by kernel_rfl)) rfl ?_
  exact ⟨_, _, bvs, rfl, hop, hb5⟩
end Go.Proofs.Ytpobgjkmjlmafaa

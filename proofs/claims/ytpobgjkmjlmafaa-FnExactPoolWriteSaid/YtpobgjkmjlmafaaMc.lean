/- heldIntS, heldSlotS, heldVolS, heldPool at values that hold the marks. -/
import Derived.Test.YtpobgjkmjlmafaaMb
namespace Go.Proofs.Ytpobgjkmjlmafaa
open Go.RowKit Go.Proofs.YtpobgjkmjlmafaaW.PrintWords
set_option linter.unusedVariables false
set_option linter.unusedSimpArgs false

def MkI (k : Int) (xs : List Int) : Prop := ∀ (i : Nat) (x : Int), xs[i]? = some x → x = k + i
def MkS (k : Int) (s : List Slot) : Prop := ∀ (i : Nat) (x : Slot), s[i]? = some x → x.text = mkT (k + 2 * i) ∧ x.uses = k + 2 * i + 1
def nxV (k : Int) : List Vol → Int
  | [] => k
  | v :: vs => nxV (k + 1 + v.blocks.length) vs
theorem nxV_snoc (k : Int) (vs : List Vol) (v : Vol) : nxV k (vs ++ [v]) = nxV k vs + 1 + v.blocks.length := by
  induction vs generalizing k with
  | nil => rfl
  | cons a vs ih => exact ih _
theorem nxV_le {vs : List Vol} (h : ∀ v ∈ vs, v.blocks.length ≤ 1048576) (k : Int) : k ≤ nxV k vs ∧ nxV k vs ≤ k + vs.length * 1048577 := by
  induction vs generalizing k with
  | nil => simp [nxV]
  | cons a vs ih =>
    have h1 := ih (fun v hv => h v (List.mem_cons_of_mem _ hv)) (k + 1 + a.blocks.length)
    have h2 := h a List.mem_cons_self
    simp only [nxV, List.length_cons]
    omega
def MkV (k : Int) (vs : List Vol) : Prop := ∀ (i : Nat) (v : Vol), vs[i]? = some v → v.name = mkT (nxV k (vs.take i)) ∧ MkI (nxV k (vs.take i) + 1) v.blocks
set_option maxHeartbeats 2000000 in
theorem heldIntS_c {w : World} {A : Option Addr} {c : Nat} {xs : List Int} {k : Int} (hC : kInt.C w A xs.length xs) (hm : MkI k xs) (hl : xs.length ≤ 1048576) (h0 : 0 < k) (h1 : k ≤ 1152921504606846976) :
    Calls Try.prog 130 #[.slice A xs.length c, .int .i64 k] w (Ret (.int .i64 (k + xs.length)) w) := by
  have H := Lib.hid hC
  have HM := Lib.hid hm
  clear hC hm
  go_enter Try.func130, Try.ntmps130
  go_wp2
  go_loopg [1, 5] xs.length (fun g v1 v W => ∃ j : Nat, g + j = xs.length ∧ v = .int .i64 j ∧ v1 = .int .i64 (k + j) ∧ Bel w W)
  case atStart => exact ⟨0, rfl, rfl, int_eq (by omega), Below.refl _ _⟩
  case round =>
    obtain ⟨j, hj, rfl, rfl, hW⟩ := hrel
    by_cases hlt : j < xs.length
    · obtain ⟨x, hx⟩ := getQ hlt
      obtain ⟨ad, rfl, hc⟩ := at_int (Kd.C_below H.out hW) hx
      obtain rfl := HM.out j x hx
      clear hx
      go_wp2
      go_roundg (xs.length - (j + 1))
      case measure => omega
      case rel => exact ⟨j + 1, by omega, by go_num, int_eq (by omega), hW⟩
    · have hjl : j = xs.length := by omega
      go_wp2
      go_ret
      exact ⟨ret_int (by omega), hW⟩
set_option maxHeartbeats 2000000 in
theorem heldSlotS_c {w : World} {A : Option Addr} {c : Nat} {xs : List Slot} {k : Int} (hC : kSlot.C w A xs.length xs) (hm : MkS k xs) (hl : xs.length ≤ 1048576) (h0 : 0 < k) (h1 : k ≤ 1152921504606846976) :
    Calls Try.prog 76 #[.slice A xs.length c, .int .i64 k] w (Ret (.int .i64 (k + 2 * xs.length)) w) := by
  have H := Lib.hid hC
  have HM := Lib.hid hm
  clear hC hm
  go_enter Try.func76, Try.ntmps76
  go_wp2
  go_loopg [1, 5] xs.length (fun g v1 v W => ∃ j : Nat, g + j = xs.length ∧ v = .int .i64 j ∧ v1 = .int .i64 (k + 2 * j) ∧ Bel w W)
  case atStart => exact ⟨0, rfl, rfl, int_eq (by omega), Below.refl _ _⟩
  case round =>
    obtain ⟨j, hj, rfl, rfl, hW⟩ := hrel
    by_cases hlt : j < xs.length
    · obtain ⟨⟨t, u⟩, hx⟩ := getQ hlt
      obtain ⟨ad, rfl, hc, hd⟩ := at_slot (Kd.C_below H.out hW) hx
      obtain ⟨ht, hu⟩ := HM.out j _ hx
      simp only at ht hu hc hd
      subst ht
      subst hu
      have hq : ((mkT (k + 2 * (j : Int))).toList == (mkT (k + 2 * (j : Int))).toList) = true := by simp
      have g0 := gb_cell hc
      have g1 := gb_cell hd
      have HMT : Hid (∀ p : GB wr, Calls Try.prog 128 #[.int .i64 (k + 2 * (j : Int))] p.W (Ret (.string (mkT (k + 2 * (j : Int)))) p.W)) := fun p => markText_c _ _ (by omega) (by omega)
      clear hx
      go_wp2
      refine wp_region_gb (by kernel_rfl) (by kernel_rfl) ?_
      repeat (first | go_big_quiet_skip | (go_big_quiet_want; go_big_quiet_op; first | go_big_quiet_on | (apply Exists.intro; refine ⟨fun _ => ?_, ?_⟩; (go_at_call 128; exact gb_call (HMT.out _)); go_big_quiet_on)))
      refine wpQuiet_nil ?_
      rintro _ ⟨⟨w4, hb4⟩, rfl⟩
      have hd4 := (hb4.cell (World.block_lt_of_cell? wr _ hd)).trans hd
      clear g0 g1
      go_wp2
      go_roundg (xs.length - (j + 1))
      case measure => omega
      case rel => exact ⟨j + 1, by omega, by go_num, int_eq (by omega), hW.tr hb4⟩
    · have hjl : j = xs.length := by omega
      go_wp2
      go_ret
      exact ⟨ret_int (by omega), hW⟩
set_option maxHeartbeats 2000000 in
theorem heldVolS_c {w : World} {A : Option Addr} {c : Nat} {xs : List Vol} {k : Int} (hC : kVol.C w A xs.length xs) (hm : MkV k xs) (hs : SmallV xs) (h0 : 0 < k) (h1 : k ≤ 281474976710656) :
    Calls Try.prog 77 #[.slice A xs.length c, .int .i64 k] w (Ret (.int .i64 (nxV k xs)) w) := by
  have H := Lib.hid hC
  have HM := Lib.hid hm
  have HS := Lib.hid hs
  have hl := hs.len
  clear hC hm hs
  go_enter Try.func77, Try.ntmps77
  go_wp2
  go_loopg [1, 5] xs.length (fun g v1 v W => ∃ j : Nat, g + j = xs.length ∧ v = .int .i64 j ∧ v1 = .int .i64 (nxV k (xs.take j)) ∧ Bel w W)
  case atStart => exact ⟨0, rfl, rfl, rfl, Below.refl _ _⟩
  case round =>
    obtain ⟨j, hj, rfl, rfl, hW⟩ := hrel
    have hb := nxV_le (vs := xs.take j) (fun v hv => HS.out.blocks v (List.mem_of_mem_take hv)) k
    have hjl : (xs.take j).length ≤ 1048576 := Nat.le_trans (List.length_take_le' _ _) hl
    have hb2 : nxV k (xs.take j) ≤ 1152921504606846000 := by omega
    have hb1 : 0 < nxV k (xs.take j) := by omega
    clear hb
    by_cases hlt : j < xs.length
    · obtain ⟨⟨t, bs⟩, hx⟩ := getQ hlt
      obtain ⟨ad, A1, n1, rfl, hc, hd, hn, hC1⟩ := at_vol (Kd.C_below H.out hW) hx
      obtain ⟨ht, hu⟩ := HM.out j _ hx
      have hbs : bs.length ≤ 1048576 := HS.out.blocks ⟨t, bs⟩ (List.mem_of_getElem? hx)
      have HT := Lib.hid (show nxV k (xs.take (j + 1)) = nxV k (xs.take j) + 1 + bs.length by rw [take_snoc hx, nxV_snoc])
      simp only at ht hu hc hd hC1
      generalize nxV k (xs.take j) = q at *
      subst ht
      have hq : ((mkT q).toList == (mkT q).toList) = true := by simp
      have g0 := gb_cell hc
      have HMT : Hid (∀ p : GB wr, Calls Try.prog 128 #[.int .i64 q] p.W (Ret (.string (mkT q)) p.W)) := fun p => markText_c _ _ (by omega) (by omega)
      have HU := Lib.hid hu
      have HC1 := Lib.hid hC1
      clear hx hu hC1
      go_wp2
      refine wp_region_gb (by kernel_rfl) (by kernel_rfl) ?_
      repeat (first | go_big_quiet_skip | (go_big_quiet_want; go_big_quiet_op; first | go_big_quiet_on | (apply Exists.intro; refine ⟨fun _ => ?_, ?_⟩; (go_at_call 128; exact gb_call (HMT.out _)); go_big_quiet_on)))
      refine wpQuiet_nil ?_
      rintro _ ⟨⟨w4, hb4⟩, rfl⟩
      have hd4 := (hb4.cell (World.block_lt_of_cell? wr _ hd)).trans hd
      have HB4 := Lib.hid hb4
      clear g0 hb4
      go_wp2_with fail
      refine (heldIntS_c (Kd.C_below HC1.out HB4.out) HU.out hbs (by omega) (by omega)).mono ?_
      rintro e w5 ⟨rfl, hb5⟩
      have hneg : ¬ (q + 1 + (bs.length : Int) < 0) := by omega
      have HB5 := Lib.hid (hW.tr (HB4.out.tr hb5))
      clear hb5
      go_wp2
      go_roundg (xs.length - (j + 1))
      case measure => omega
      case rel => exact ⟨j + 1, by omega, by go_num, by rw [HT.out], HB5.out⟩
    · have HT := Lib.hid (show xs.take j = xs by rw [List.take_of_length_le (by omega)])
      have HR := Lib.hid (show nxV k (xs.take j) = nxV k xs by rw [HT.out])
      go_wp2
      go_ret
      exact ⟨ret_int HR.out, hW⟩
def nxP (k : Int) (p : Pool) : Int := nxV (k + 2 * p.slots.length) p.vols
structure MkP (k : Int) (p : Pool) : Prop where
  s : MkS k p.slots
  v : MkV (k + 2 * p.slots.length) p.vols
set_option maxHeartbeats 1000000 in
theorem heldPool_c {w : World} {A0 A1 : Option Addr} {c0 c1 : Nat} {p : Pool} {k : Int} (h : PoolIn w A0 A1 c0 c1 p) (hm : MkP k p) (hs : SmallP p) (h0 : 0 < k) (h1 : k ≤ 1099511627776) :
    Calls Try.prog 30 #[.agg #[.slice A0 p.slots.length c0, .slice A1 p.vols.length c1], .int .i64 k] w (Ret (.int .i64 (nxP k p)) w) := by
  have H := Lib.hid h
  have HM := Lib.hid hm
  have HS := Lib.hid hs
  have hl := hs.slots.len
  have hlv := hs.vols.len
  have hb := nxV_le (vs := p.vols) hs.vols.blocks (k + 2 * p.slots.length)
  clear h hm hs
  go_enter Try.func30, Try.ntmps30
  go_wp2_with fail
  refine (heldSlotS_c (H.out.alloc _).s HM.out.s hl h0 (by omega)).mono ?_
  rintro e w1 ⟨rfl, hb1⟩
  have hn1 : ¬ (k + 2 * (p.slots.length : Int) < 0) := by omega
  have hB := (Blk.new w #[.slice A0 p.slots.length c0, .slice A1 p.vols.length c1] 30).bel hb1
  have q1 := hB.cell 1
  simp at q1
  have HW1 := Lib.hid ((bel_alloc (Below.refl _ w) (.cells #[.slice A0 p.slots.length c0, .slice A1 p.vols.length c1] 30)).tr hb1)
  clear hB hb1
  go_wp2_with fail
  refine (heldVolS_c (H.out.bel HW1.out).v HM.out.v HS.out.vols (by omega) (by omega)).mono ?_
  rintro e w2 ⟨rfl, hb2⟩
  have hn2 : ¬ (nxV (k + 2 * (p.slots.length : Int)) p.vols < 0) := by omega
  have HW2 := Lib.hid (HW1.out.tr hb2)
  clear hb2
  go_wp2
  go_ret
  exact ⟨rfl, HW2.out⟩
end Go.Proofs.Ytpobgjkmjlmafaa

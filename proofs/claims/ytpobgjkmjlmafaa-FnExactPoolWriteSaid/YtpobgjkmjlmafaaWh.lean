/- hasBlock, PoolRead, StoreFree, StoreFind of the program. -/
import Derived.Test.YtpobgjkmjlmafaaWg
namespace Go.Proofs.Ytpobgjkmjlmafaa
open Go.RowKit Go.Proofs.YtpobgjkmjlmafaaW.PrintWords
set_option linter.unusedVariables false
set_option linter.unusedSimpArgs false

theorem volIdx_bd (vs : List Vol) (t : ByteArray) : -1 ≤ volIdx vs t ∧ volIdx vs t < vs.length := ⟨(idx_bd _ _).1, (idx_bd _ _).2.1⟩
theorem hasBlk_neg {vs : List Vol} {t : ByteArray} {b : Int} (h : volIdx vs t < 0) : hasBlk vs t b = -1 := by unfold hasBlk; rw [if_pos h]
theorem hasBlk_at {vs : List Vol} {t : ByteArray} {b : Int} {k : Nat} {x : Vol} (h : volIdx vs t = k) (hx : vs[k]? = some x) : hasBlk vs t b = if inR b 0 ((x.blocks.length : Int) - 1) then (k : Int) else -1 := by
  unfold hasBlk volAt; rw [h, if_neg (by omega), Int.toNat_natCast, getD_of hx]
set_option maxHeartbeats 1000000 in
theorem hasBlock_c {p : Pool} {A0 A1 : Option Addr} {c0 c1 : Nat} {w : World} (h : PoolIn w A0 A1 c0 c1 p) (hs : SmallP p) (t : ByteArray) (b : Int) :
    Calls Try.prog 93 #[.agg #[.slice A0 p.slots.length c0, .slice A1 p.vols.length c1], .string t, .int .i64 b] w (Ret (.int .i64 (hasBlk p.vols t b)) w) := by
  have H := Lib.hid h
  have hl := hs.vols.len
  have HV := Lib.hid hs.vols
  clear h hs
  have hi := volIdx_bd p.vols t
  by_cases hneg : volIdx p.vols t < 0
  · have g := Lib.hid (hasBlk_neg (b := b) hneg)
    go_enter Try.func93, Try.ntmps93
    go_wp2_with (go_at_call 69; refine (vol_c _ p.vols _ _ t _ (Kd.C_alloc H.out.v _) hl).mono ?_; rintro e w1 ⟨rfl, hb1⟩)
    go_ret
    exact ⟨ret_int g.out.symm, (bel_alloc (Below.refl _ _) _).tr hb1⟩
  · obtain ⟨k, hk⟩ : ∃ k : Nat, volIdx p.vols t = k := ⟨(volIdx p.vols t).toNat, by omega⟩
    obtain ⟨x, hx⟩ := getQ (show k < p.vols.length by omega)
    have hkl : k < p.vols.length := by omega
    obtain ⟨hxb, _⟩ := HV.out.at hx
    have HX := Lib.hid hx
    have g := Lib.hid (hasBlk_at (b := b) hk hx)
    have hvc := Lib.hid (fun W (hC : kVol.C W A1 p.vols.length p.vols) => (hk ▸ vol_c (.slice A0 p.slots.length c0) p.vols A1 c1 t W hC hl : Calls Try.prog 69 #[.agg #[.slice A0 p.slots.length c0, .slice A1 p.vols.length c1], .string t] W (Ret (.int .i64 k) W)))
    clear hx hneg hi hk
    cases hr : inR b 0 ((x.blocks.length : Int) - 1)
    all_goals
      have g2 := Lib.hid (g.out.trans (by rw [hr]))
      go_enter Try.func93, Try.ntmps93
      go_wp2_with (first | (go_at_call 69; refine (hvc.out _ (Kd.C_alloc H.out.v _)).mono ?_; rintro e w1 ⟨rfl, hb1⟩; obtain ⟨hc1, hf1⟩ := bcell hb1; obtain ⟨ad, A2, n2, rfl, hc, hc', _, _⟩ := at_vol (Kd.C_below (Kd.C_alloc H.out.v _) hb1) HX.out) | (go_at_call 104; refine (within_c _ _ _ _).mono ?_; rintro e w' ⟨rfl, rfl⟩))
      go_ret
      exact ⟨ret_int (by rw [g2.out]; rfl), (bel_alloc (Below.refl _ _) _).tr hb1⟩

theorem readOk_no {p : Pool} {t : ByteArray} {b : Int} (h : hasBlk p.vols t b < 0 ∨ poolOk p = false) : readOk p t b = false := by
  unfold readOk
  rcases h with h | h
  · rw [decide_eq_false (show ¬ 0 ≤ hasBlk p.vols t b by omega)]; rfl
  · rw [h, Bool.and_false]
theorem hasBlk_bd (vs : List Vol) (t : ByteArray) (b : Int) : -1 ≤ hasBlk vs t b ∧ hasBlk vs t b < vs.length := by
  have := volIdx_bd vs t
  unfold hasBlk; split
  · omega
  · split <;> omega
def readV (p : Pool) (t : ByteArray) (b : Int) : ByteArray := if readOk p t b then readOf p t b else e0
set_option maxHeartbeats 2000000 in
theorem poolRead_c {p : Pool} {A0 A1 : Option Addr} {c0 c1 : Nat} {w : World} (h : PoolIn w A0 A1 c0 c1 p) (hs : SmallP p) (t : ByteArray) (b : Int) :
    Calls Try.prog 48 #[.agg #[.slice A0 p.slots.length c0, .slice A1 p.vols.length c1], .string t, .int .i64 b] w (Ret (.tuple #[.string (readV p t b), .bool (readOk p t b)]) w) := by
  have H := Lib.hid h
  have HS := Lib.hid hs
  clear h hs
  have hi := hasBlk_bd p.vols t b
  by_cases hneg : hasBlk p.vols t b < 0
  · have g := Lib.hid (readOk_no (p := p) (t := t) (b := b) (.inl hneg))
    go_enter Try.func48, Try.ntmps48
    go_wp2_with (go_at_call 93; refine (hasBlock_c (H.out.alloc _) HS.out t b).mono ?_; rintro e w1 ⟨rfl, hb1⟩)
    go_ret2
    exact ⟨by simp only [readV, g.out]; rfl, (bel_alloc (Below.refl _ _) _).tr hb1⟩
  cases hok : poolOk p
  · have g := Lib.hid (readOk_no (p := p) (t := t) (b := b) (.inr hok))
    have hok' := Lib.hid hok
    go_enter Try.func48, Try.ntmps48
    go_wp2_with (first | (go_at_call 93; refine (hasBlock_c (H.out.alloc _) HS.out t b).mono ?_; rintro e w1 ⟨rfl, hb1⟩; obtain ⟨hc1, hf1⟩ := bcell hb1) | (go_at_call 37; refine (implPoolOk_in ((H.out.alloc _).bel hb1) HS.out).mono ?_; rintro e w2 ⟨rfl, hb2⟩))
    go_ret2
    exact ⟨by simp only [readV, g.out]; rfl, ((bel_alloc (Below.refl _ _) _).tr hb1).tr hb2⟩
  obtain ⟨he, hi0, x, pl, hx, hxn, _, hb0, hpl, hpa⟩ := hasBlk_yes (show 0 ≤ hasBlk p.vols t b by omega)
  obtain ⟨k, hk⟩ : ∃ k : Nat, hasBlk p.vols t b = k := ⟨(hasBlk p.vols t b).toNat, by omega⟩
  obtain ⟨j, rfl⟩ : ∃ j : Nat, b = j := ⟨b.toNat, by omega⟩
  have hk' : (volIdx p.vols t).toNat = k := by omega
  rw [hk'] at hx
  rw [Int.toNat_natCast] at hpl
  have hjl := ltQ hpl
  have hkl := ltQ hx
  obtain ⟨hxb, _⟩ := HS.out.vols.at hx
  have hp8 := (volOk_parts (poolOk_vol hok hx)).1 pl (List.mem_of_getElem? hpl)
  have H8 := Lib.hid (storeOk_len (poolOk_parts hok).1)
  have g := Lib.hid (show readOk p t j = true by unfold readOk; rw [hok]; simp; omega)
  have HX := Lib.hid hx
  have HL := Lib.hid hpl
  have HPA := Lib.hid hpa
  have hvc := Lib.hid (fun W (hC : PoolIn W A0 A1 c0 c1 p) => (hk ▸ hasBlock_c hC HS.out t j : Calls Try.prog 93 #[.agg #[.slice A0 p.slots.length c0, .slice A1 p.vols.length c1], .string t, .int .i64 j] W (Ret (.int .i64 k) W)))
  have HOK := Lib.hid (fun W (hC : PoolIn W A0 A1 c0 c1 p) => (hok ▸ implPoolOk_in hC HS.out : Calls Try.prog 37 #[.agg #[.slice A0 p.slots.length c0, .slice A1 p.vols.length c1]] W (Ret (.bool true) W)))
  clear hx hpl hpa hk hk' he hi0 hi hneg hok
  by_cases hp0 : 0 < pl
  · obtain ⟨m, rfl⟩ : ∃ m : Nat, pl = (m : Int) + 1 := ⟨(pl - 1).toNat, by omega⟩
    have hm : m < p.slots.length := by rw [H8.out]; omega
    obtain ⟨y, hy⟩ := getQ hm
    have HR := Lib.hid (show readV p t j = y.text by unfold readV readOf slotText; rw [g.out, if_pos rfl, HPA.out, if_pos hp0, getD_of (by rw [show ((m : Int) + 1 - 1).toNat = m by omega]; exact hy)])
    have HY := Lib.hid hy
    clear hy
    go_enter Try.func48, Try.ntmps48
    go_wp2_with fail
    refine (hvc.out _ (H.out.alloc _)).mono ?_
    rintro e w1 ⟨rfl, hb1⟩
    have hB1 := (Blk.new w #[.slice A0 p.slots.length c0, .slice A1 p.vols.length c1] 30).bel hb1
    have q0 := hB1.cell 0
    have q1 := hB1.cell 1
    simp at q0 q1
    go_wp2_with fail
    refine (HOK.out _ ((H.out.alloc _).bel hb1)).mono ?_
    rintro e w2 ⟨rfl, hb2⟩
    have hB2 := hB1.bel hb2
    clear q0 q1
    have q0 := hB2.cell 0
    have q1 := hB2.cell 1
    simp at q0 q1
    have hin := ((H.out.alloc (.cells #[.slice A0 p.slots.length c0, .slice A1 p.vols.length c1] 30)).bel hb1).bel hb2
    obtain ⟨ad, A2, n2, rfl, hc, hc', _, hC⟩ := at_vol hin.v HX.out
    obtain ⟨ad2, rfl, hd⟩ := at_int hC HL.out
    obtain ⟨ad3, rfl, hd3, hd4⟩ := at_slot hin.s HY.out
    have hin' := Lib.hid hin
    clear hin
    go_wp2
    go_ret2
    exact ⟨by rw [HR.out, g.out]; rfl, ((bel_alloc (Below.refl _ _) _).tr hb1).tr hb2⟩
  · obtain rfl : pl = 0 := by omega
    have HR := Lib.hid (show readV p t j = e0 by unfold readV readOf; rw [g.out, if_pos rfl, HPA.out]; rfl)
    go_enter Try.func48, Try.ntmps48
    go_wp2_with fail
    refine (hvc.out _ (H.out.alloc _)).mono ?_
    rintro e w1 ⟨rfl, hb1⟩
    have hB1 := (Blk.new w #[.slice A0 p.slots.length c0, .slice A1 p.vols.length c1] 30).bel hb1
    have q0 := hB1.cell 0
    have q1 := hB1.cell 1
    simp at q0 q1
    go_wp2_with fail
    refine (HOK.out _ ((H.out.alloc _).bel hb1)).mono ?_
    rintro e w2 ⟨rfl, hb2⟩
    have hB2 := hB1.bel hb2
    clear q0 q1
    have q0 := hB2.cell 0
    have q1 := hB2.cell 1
    simp at q0 q1
    have hin := ((H.out.alloc (.cells #[.slice A0 p.slots.length c0, .slice A1 p.vols.length c1] 30)).bel hb1).bel hb2
    obtain ⟨ad, A2, n2, rfl, hc, hc', _, hC⟩ := at_vol hin.v HX.out
    obtain ⟨ad2, rfl, hd⟩ := at_int hC HL.out
    have hin' := Lib.hid hin
    clear hin
    go_wp2
    go_ret2
    exact ⟨by rw [HR.out, g.out]; rfl, ((bel_alloc (Below.refl _ _) _).tr hb1).tr hb2⟩
theorem storeFree_no {s : List Slot} (h : storeOk s = false) : storeFree s = -1 := by unfold storeFree; rw [h]; rfl
theorem storeFree_yes {s : List Slot} (h : storeOk s = true) : storeFree s = freeN s := by unfold storeFree; rw [h]; rfl
set_option maxHeartbeats 1000000 in
theorem storeFree_c (s : List Slot) (A : Option Addr) (c : Nat) (w : World) (hs : kSlot.C w A s.length s) (hcap : s.length ≤ c) (hS : SmallS s) :
    Calls Try.prog 41 #[.slice A s.length c] w (Ret (.int .i64 (storeFree s)) w) := by
  have HS := Lib.hid hs
  have hl := hS.len
  have HSM := Lib.hid hS
  have HK := Lib.hid hcap
  clear hs hS hcap
  cases hok : storeOk s
  · have g := Lib.hid (storeFree_no hok)
    go_enter Try.func41, Try.ntmps41
    go_wp2_with (go_at_call 87; refine (implStoreOk_c s A c _ HS.out HK.out HSM.out).mono ?_; rintro e w1 ⟨rfl, hb1⟩)
    go_ret
    exact ⟨ret_int g.out.symm, hb1⟩
  · have g := Lib.hid (storeFree_yes hok)
    go_enter Try.func41, Try.ntmps41
    go_wp2_with (go_at_call 87; refine (implStoreOk_c s A c _ HS.out HK.out HSM.out).mono ?_; rintro e w1 ⟨rfl, hb1⟩)
    go_loopg [3, 11] s.length (fun g v3 v W => ∃ k : Nat, g + k = s.length ∧ v = .int .i64 k ∧ v3 = .int .i64 (freeN (s.take k)) ∧ Bel w W)
    case atStart => exact ⟨0, rfl, rfl, rfl, hb1⟩
    case round =>
      obtain ⟨k, hk, rfl, rfl, hW⟩ := hrel
      have c1 := freeN_le (s.take k)
      have c2 : (s.take k).length ≤ k := List.length_take_le _ _
      by_cases hlt : k < s.length
      · obtain ⟨x, hx⟩ := getQ hlt
        obtain ⟨ad, rfl, hc, hc'⟩ := at_slot (Kd.C_below HS.out hW) hx
        have H := Lib.hid ((congrArg freeN (take_snoc hx)).trans (freeN_snoc _ _))
        clear hx hok
        go_wp2
        all_goals
          go_roundg (s.length - (k + 1))
          case measure => omega
          case rel => exact ⟨k + 1, by omega, by go_num, int_eq (by rw [H.out]; simp_all), bel_alloc hW _⟩
      · have H := Lib.hid (congrArg freeN (take_all hlt))
        go_wp2
        go_ret
        exact ⟨ret_int (by rw [H.out, g.out]), hW⟩
end Go.Proofs.Ytpobgjkmjlmafaa

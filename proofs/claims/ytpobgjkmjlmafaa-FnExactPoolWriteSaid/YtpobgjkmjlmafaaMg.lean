/- szSlot, szIntS, szVol, szSlotS, szVolS, szPool: what is not too great is small. -/
import Derived.Test.YtpobgjkmjlmafaaWg
namespace Go.Proofs.Ytpobgjkmjlmafaa
open Go.RowKit Go.Proofs.YtpobgjkmjlmafaaW.PrintWords
set_option linter.unusedVariables false
set_option linter.unusedSimpArgs false

/-- A number is returned; if it is not negative, C holds, and it is at most what was left. -/
def Left (C : Prop) (left : Int) (w : World) (e : Ending) (w' : World) : Prop := ∃ r : Int, e = .returned (.int .i64 r) ∧ Bel w w' ∧ (0 ≤ r → C ∧ r ≤ left) ∧ -1 ≤ r
set_option maxHeartbeats 1000000 in
theorem szSlot_c (x : Slot) (left : Int) (w : World) (h0 : 0 ≤ left) (h1 : left ≤ 1048576) (hx : x.text.size ≤ 9223372036854775807) : Calls Try.prog 116 #[.agg #[.string x.text, .int .i64 x.uses], .int .i64 left] w (Left (x.text.size ≤ 1048576) left w) := by
  go_enter Try.func116, Try.ntmps116
  by_cases hn : left - (x.text.size : Int) < 0
  · go_wp2
    go_ret
    exact ⟨-1, rfl, bel_alloc (Below.refl _ _) _, by omega, by omega⟩
  · go_wp2
    go_ret
    exact ⟨_, rfl, bel_alloc (Below.refl _ _) _, by omega, by omega⟩
set_option maxHeartbeats 1000000 in
theorem szIntS_c (A : Option Addr) (n c : Nat) (left : Int) (w : World) (h0 : 0 ≤ left) (h1 : left ≤ 1048576) (hx : n ≤ 9223372036854775807) : Calls Try.prog 146 #[.slice A n c, .int .i64 left] w (Left (n ≤ 1048576) left w) := by
  go_enter Try.func146, Try.ntmps146
  by_cases hn : left - (n : Int) < 0
  · go_wp2
    go_ret
    exact ⟨-1, rfl, Below.refl _ _, by omega, by omega⟩
  · go_wp2
    go_ret
    exact ⟨_, rfl, Below.refl _ _, by omega, by omega⟩
set_option maxHeartbeats 1000000 in
theorem szVol_c (x : Vol) (A : Option Addr) (c : Nat) (left : Int) (w : World) (h0 : 0 ≤ left) (h1 : left ≤ 1048576) (hx : x.name.size ≤ 9223372036854775807) (hb : x.blocks.length ≤ 9223372036854775807) : Calls Try.prog 117 #[.agg #[.string x.name, .slice A x.blocks.length c], .int .i64 left] w (Left (x.name.size ≤ 1048576 ∧ x.blocks.length ≤ 1048576) left w) := by
  go_enter Try.func117, Try.ntmps117
  by_cases hn : left - (x.name.size : Int) < 0
  · go_wp2
    go_ret
    exact ⟨-1, rfl, bel_alloc (Below.refl _ _) _, by omega, by omega⟩
  · have hn' : 0 ≤ left - (x.name.size : Int) := by omega
    go_wp2_with fail
    refine (szIntS_c A x.blocks.length c (left - x.name.size) _ hn' (by omega) hb).mono ?_
    rintro e w1 ⟨r, rfl, hb1, hr, hr1⟩
    have hr2 : r ≤ 1048576 := by by_cases h : 0 ≤ r; have := (hr h).2; omega; omega
    have HR := Lib.hid hr
    clear hr
    by_cases hrn : r < 0
    · go_wp2
      go_ret
      exact ⟨-1, rfl, (bel_alloc (Below.refl _ _) _).tr hb1, by omega, by omega⟩
    · go_wp2
      go_ret
      exact ⟨r, rfl, (bel_alloc (Below.refl _ _) _).tr hb1, fun h => ⟨⟨by omega, (HR.out h).1⟩, by have := (HR.out h).2; omega⟩, by omega⟩
/-- Lengths that a memory can bear. -/
structure RawS (s : List Slot) : Prop where
  len : s.length ≤ 9223372036854775807
  text : ∀ x ∈ s, x.text.size ≤ 9223372036854775807
structure RawV (vs : List Vol) : Prop where
  len : vs.length ≤ 9223372036854775807
  name : ∀ x ∈ vs, x.name.size ≤ 9223372036854775807
  blocks : ∀ x ∈ vs, x.blocks.length ≤ 9223372036854775807
set_option maxHeartbeats 2000000 in
theorem szSlotS_c {w : World} {A : Option Addr} {c : Nat} {xs : List Slot} {left : Int} (hC : kSlot.C w A xs.length xs) (hr : RawS xs) (h0 : 0 ≤ left) (h1 : left ≤ 1048576) :
    Calls Try.prog 61 #[.slice A xs.length c, .int .i64 left] w (Left (SmallS xs) left w) := by
  have H := Lib.hid hC
  have HR := Lib.hid hr
  have hl := hr.len
  clear hC hr
  go_enter Try.func61, Try.ntmps61
  by_cases hn : left - (xs.length : Int) < 0
  · go_wp2
    go_ret
    exact ⟨-1, rfl, Below.refl _ _, by omega, by omega⟩
  · have hl2 : xs.length ≤ 1048576 := by omega
    go_wp2
    go_loopg [1, 5] xs.length (fun g v1 v W => ∃ (j : Nat) (q : Int), g + j = xs.length ∧ v = .int .i64 j ∧ v1 = .int .i64 q ∧ 0 ≤ q ∧ q ≤ left ∧ Hid (∀ x ∈ xs.take j, x.text.size ≤ 1048576) ∧ Bel w W)
    case atStart => exact ⟨0, left - xs.length, rfl, rfl, rfl, by omega, by omega, fun x hx => by simp at hx, Below.refl _ _⟩
    case round =>
      obtain ⟨j, q, hj, rfl, rfl, hq0, hq1, hd, hW⟩ := hrel
      by_cases hlt : j < xs.length
      · obtain ⟨x, hx⟩ := getQ hlt
        obtain ⟨ad, rfl, hc, hc'⟩ := at_slot (Kd.C_below H.out hW) hx
        have HX := Lib.hid hx
        have hxt := HR.out.text x (List.mem_of_getElem? hx)
        clear hx
        go_wp2_with fail
        refine (szSlot_c x q _ hq0 (by omega) hxt).mono ?_
        rintro e w1 ⟨r, rfl, hb1, hr, hr1⟩
        have hr2 : r ≤ 1048576 := by by_cases h : 0 ≤ r; have := (hr h).2; omega; omega
        have HRR := Lib.hid hr
        clear hr
        by_cases hrn : r < 0
        · go_wp2
          go_ret
          exact ⟨-1, rfl, hW.tr hb1, by omega, by omega⟩
        · go_wp2
          go_roundg (xs.length - (j + 1))
          case measure => omega
          case rel =>
            have h5 := HRR.out (by omega)
            refine ⟨j + 1, r, by omega, by go_num, rfl, by omega, by omega, fun y hy => ?_, hW.tr hb1⟩
            rw [take_snoc HX.out, List.mem_append] at hy
            rcases hy with hy | hy
            · exact hd.out y hy
            · rw [List.mem_singleton.1 hy]; exact h5.1
      · have HT := Lib.hid (show xs.take j = xs by rw [List.take_of_length_le (by omega)])
        go_wp2
        go_ret
        exact ⟨q, rfl, hW, fun _ => ⟨⟨hl2, fun x hx => hd.out x (by rw [HT.out]; exact hx)⟩, hq1⟩, by omega⟩
set_option maxHeartbeats 2000000 in
theorem szVolS_c {w : World} {A : Option Addr} {c : Nat} {xs : List Vol} {left : Int} (hC : kVol.C w A xs.length xs) (hr : RawV xs) (h0 : 0 ≤ left) (h1 : left ≤ 1048576) :
    Calls Try.prog 62 #[.slice A xs.length c, .int .i64 left] w (Left (SmallV xs) left w) := by
  have H := Lib.hid hC
  have HR := Lib.hid hr
  have hl := hr.len
  clear hC hr
  go_enter Try.func62, Try.ntmps62
  by_cases hn : left - (xs.length : Int) < 0
  · go_wp2
    go_ret
    exact ⟨-1, rfl, Below.refl _ _, by omega, by omega⟩
  · have hl2 : xs.length ≤ 1048576 := by omega
    go_wp2
    go_loopg [1, 5] xs.length (fun g v1 v W => ∃ (j : Nat) (q : Int), g + j = xs.length ∧ v = .int .i64 j ∧ v1 = .int .i64 q ∧ 0 ≤ q ∧ q ≤ left ∧ Hid (∀ x ∈ xs.take j, x.name.size ≤ 1048576 ∧ x.blocks.length ≤ 1048576) ∧ Bel w W)
    case atStart => exact ⟨0, left - xs.length, rfl, rfl, rfl, by omega, by omega, fun x hx => by simp at hx, Below.refl _ _⟩
    case round =>
      obtain ⟨j, q, hj, rfl, rfl, hq0, hq1, hd, hW⟩ := hrel
      by_cases hlt : j < xs.length
      · obtain ⟨x, hx⟩ := getQ hlt
        obtain ⟨ad, A1, n1, rfl, hc, hc', hn1, hC1⟩ := at_vol (Kd.C_below H.out hW) hx
        have HX := Lib.hid hx
        have hxt := HR.out.name x (List.mem_of_getElem? hx)
        have hxb := HR.out.blocks x (List.mem_of_getElem? hx)
        clear hx hC1
        go_wp2_with fail
        refine (szVol_c x A1 n1 q _ hq0 (by omega) hxt hxb).mono ?_
        rintro e w1 ⟨r, rfl, hb1, hr, hr1⟩
        have hr2 : r ≤ 1048576 := by by_cases h : 0 ≤ r; have := (hr h).2; omega; omega
        have HRR := Lib.hid hr
        clear hr
        by_cases hrn : r < 0
        · go_wp2
          go_ret
          exact ⟨-1, rfl, hW.tr hb1, by omega, by omega⟩
        · go_wp2
          go_roundg (xs.length - (j + 1))
          case measure => omega
          case rel =>
            have h5 := HRR.out (by omega)
            refine ⟨j + 1, r, by omega, by go_num, rfl, by omega, by omega, fun y hy => ?_, hW.tr hb1⟩
            rw [take_snoc HX.out, List.mem_append] at hy
            rcases hy with hy | hy
            · exact hd.out y hy
            · rw [List.mem_singleton.1 hy]; exact h5.1
      · have HT := Lib.hid (show xs.take j = xs by rw [List.take_of_length_le (by omega)])
        go_wp2
        go_ret
        exact ⟨q, rfl, hW, fun _ => ⟨⟨hl2, fun x hx => (hd.out x (by rw [HT.out]; exact hx)).2, fun x hx => (hd.out x (by rw [HT.out]; exact hx)).1⟩, hq1⟩, by omega⟩
set_option maxHeartbeats 2000000 in
theorem szPool_c {w : World} {A0 A1 : Option Addr} {c0 c1 : Nat} {p : Pool} {left : Int} (h : PoolIn w A0 A1 c0 c1 p) (hs : RawS p.slots) (hv : RawV p.vols) (h0 : 0 ≤ left) (h1 : left ≤ 1048576) :
    Calls Try.prog 24 #[.agg #[.slice A0 p.slots.length c0, .slice A1 p.vols.length c1], .int .i64 left] w (Left (SmallP p) left w) := by
  have H := Lib.hid h
  have HS := Lib.hid hs
  have HV := Lib.hid hv
  clear h hs hv
  go_enter Try.func24, Try.ntmps24
  go_wp2_with fail
  refine (szSlotS_c (H.out.alloc _).s HS.out h0 h1).mono ?_
  rintro e w1 ⟨r, rfl, hb1, hr, hr1⟩
  have hB := (Blk.new w #[.slice A0 p.slots.length c0, .slice A1 p.vols.length c1] 25).bel hb1
  have q1 := hB.cell 1
  simp at q1
  have hr2 : r ≤ 1048576 := by by_cases h : 0 ≤ r; have := (hr h).2; omega; omega
  have HW1 := Lib.hid ((bel_alloc (Below.refl _ w) (.cells #[.slice A0 p.slots.length c0, .slice A1 p.vols.length c1] 25)).tr hb1)
  have HR := Lib.hid hr
  clear hB hb1 hr
  by_cases hrn : r < 0
  · go_wp2
    go_ret
    exact ⟨-1, rfl, HW1.out, by omega, by omega⟩
  · go_wp2_with fail
    refine (szVolS_c (H.out.bel HW1.out).v HV.out (by omega) hr2).mono ?_
    rintro e w2 ⟨r', rfl, hb2, hr', hr1'⟩
    have HR' := Lib.hid hr'
    have HW2 := Lib.hid (HW1.out.tr hb2)
    have hr3 : r' ≤ 1048576 := by by_cases h : 0 ≤ r'; have := (hr' h).2; omega; omega
    clear hb2 hr'
    by_cases hrn' : r' < 0
    · go_wp2
      go_ret
      exact ⟨-1, rfl, HW2.out, by omega, by omega⟩
    · go_wp2
      go_ret
      refine ⟨r', rfl, HW2.out, fun _ => ?_, by omega⟩
      have h5 := HR.out (by omega)
      have h6 := HR'.out (by omega)
      exact ⟨⟨h5.1, h6.1⟩, by omega⟩
end Go.Proofs.Ytpobgjkmjlmafaa

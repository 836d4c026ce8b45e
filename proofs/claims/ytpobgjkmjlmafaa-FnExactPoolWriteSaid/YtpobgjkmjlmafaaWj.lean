/- drop, put (program); l2Drop, l2Find, l2Put (reference): a reference less, a reference more, in slots of one's own. -/
import Derived.Test.YtpobgjkmjlmafaaWi
namespace Go.Proofs.Ytpobgjkmjlmafaa
open Go.RowKit Go.Proofs.YtpobgjkmjlmafaaW.PrintWords
set_option linter.unusedVariables false
set_option linter.unusedSimpArgs false

def lessS (x : Slot) : Slot := if x.uses - 1 = 0 then ⟨e0, 0⟩ else ⟨x.text, x.uses - 1⟩
def dropS (s : List Slot) (m : Nat) : List Slot := s.set m (lessS (s.getD m Slot.z))
theorem dropS_eq {s : List Slot} {m : Nat} {x : Slot} (h : s[m]? = some x) : dropS s m = s.set m (lessS x) := by unfold dropS; rw [getD_of h]

/-- A slot of one's own, as a walk reads and stores it. -/
theorem OwnS.at {w : World} {base : Nat} {v : Value} {s : List Slot} (h : OwnS w base v s) {m : Nat} {x : Slot} (hx : s[m]? = some x) :
    ∃ g cap, v = .slice (some ⟨g, 0, none⟩) s.length cap ∧ base ≤ g ∧ g < w.heap.size ∧ s.length ≤ cap ∧ w.cell? ⟨g, m * 2, none⟩ = some (.string x.text) ∧ w.cell? ⟨g, m * 2 + 1, none⟩ = some (.int .i64 x.uses) ∧ w.frozen? ⟨g, m * 2, none⟩ = false ∧ w.frozen? ⟨g, m * 2 + 1, none⟩ = false := by
  have hm := ltQ hx
  obtain ⟨g, cap, rfl, hb, hg, hc⟩ := own_form h (by omega)
  refine ⟨g, cap, rfl, hb, hg, hc, ?_, ?_, World.ownsRow.frozenAt h _, World.ownsRow.frozenAt h _⟩
  · rw [World.ownsRow.cellAt h _ (by omega), show m * 2 = m * 2 + 0 from rfl, flat_get encS_len hx (by omega)]; rfl
  · rw [World.ownsRow.cellAt h _ (by omega), flat_get encS_len hx (by omega)]; rfl
theorem OwnS.setU {w : World} {base g cap : Nat} {s : List Slot} (h : OwnS w base (.slice (some ⟨g, 0, none⟩) s.length cap) s) {m : Nat} {x : Slot} (hx : s[m]? = some x) (u : Int) :
    OwnS (w.setCell ⟨g, m * 2 + 1, none⟩ (.int .i64 u)) base (.slice (some ⟨g, 0, none⟩) s.length cap) (s.set m ⟨x.text, u⟩) ∧ w.grownBy (w.setCell ⟨g, m * 2 + 1, none⟩ (.int .i64 u)) (some g) := by
  have := World.ownsRow.stored h (m * 2 + 1) (.int .i64 u)
  rw [flat_set encS_len (y := ⟨x.text, u⟩) hx (by omega) rfl] at this
  unfold OwnS
  rw [List.length_set]
  exact this
theorem OwnS.setT {w : World} {base g cap : Nat} {s : List Slot} (h : OwnS w base (.slice (some ⟨g, 0, none⟩) s.length cap) s) {m : Nat} {x : Slot} (hx : s[m]? = some x) (t : ByteArray) :
    OwnS (w.setCell ⟨g, m * 2, none⟩ (.string t)) base (.slice (some ⟨g, 0, none⟩) s.length cap) (s.set m ⟨t, x.uses⟩) ∧ w.grownBy (w.setCell ⟨g, m * 2, none⟩ (.string t)) (some g) := by
  have := World.ownsRow.stored h (m * 2) (.string t)
  rw [show m * 2 = m * 2 + 0 from rfl, flat_set encS_len (y := ⟨t, x.uses⟩) hx (by omega) rfl] at this
  unfold OwnS
  rw [List.length_set]
  exact this
theorem OwnS.setTU {w : World} {base g cap : Nat} {s : List Slot} (h : OwnS w base (.slice (some ⟨g, 0, none⟩) s.length cap) s) {m : Nat} {x : Slot} (hx : s[m]? = some x) (t : ByteArray) (u : Int) :
    OwnS ((w.setCell ⟨g, m * 2, none⟩ (.string t)).setCell ⟨g, m * 2 + 1, none⟩ (.int .i64 u)) base (.slice (some ⟨g, 0, none⟩) s.length cap) (s.set m ⟨t, u⟩) ∧ w.grownBy ((w.setCell ⟨g, m * 2, none⟩ (.string t)).setCell ⟨g, m * 2 + 1, none⟩ (.int .i64 u)) (some g) := by
  obtain ⟨h1, g1⟩ := h.setT hx t
  have hx1 : (s.set m ⟨t, x.uses⟩)[m]? = some ⟨t, x.uses⟩ := by rw [List.getElem?_set_self (ltQ hx)]
  have h1' : OwnS (w.setCell ⟨g, m * 2, none⟩ (.string t)) base (.slice (some ⟨g, 0, none⟩) (s.set m ⟨t, x.uses⟩).length cap) (s.set m ⟨t, x.uses⟩) := by rw [List.length_set]; exact h1
  obtain ⟨h2, g2⟩ := h1'.setU hx1 u
  rw [List.length_set, List.set_set] at h2
  exact ⟨h2, grown_tr g1 g2⟩
theorem OwnS.setUT {w : World} {base g cap : Nat} {s : List Slot} (h : OwnS w base (.slice (some ⟨g, 0, none⟩) s.length cap) s) {m : Nat} {x : Slot} (hx : s[m]? = some x) (t : ByteArray) (u : Int) :
    OwnS ((w.setCell ⟨g, m * 2 + 1, none⟩ (.int .i64 u)).setCell ⟨g, m * 2, none⟩ (.string t)) base (.slice (some ⟨g, 0, none⟩) s.length cap) (s.set m ⟨t, u⟩) ∧ w.grownBy ((w.setCell ⟨g, m * 2 + 1, none⟩ (.int .i64 u)).setCell ⟨g, m * 2, none⟩ (.string t)) (some g) := by
  obtain ⟨h1, g1⟩ := h.setU hx u
  have hx1 : (s.set m ⟨x.text, u⟩)[m]? = some ⟨x.text, u⟩ := by rw [List.getElem?_set_self (ltQ hx)]
  have h1' : OwnS (w.setCell ⟨g, m * 2 + 1, none⟩ (.int .i64 u)) base (.slice (some ⟨g, 0, none⟩) (s.set m ⟨x.text, u⟩).length cap) (s.set m ⟨x.text, u⟩) := by rw [List.length_set]; exact h1
  obtain ⟨h2, g2⟩ := h1'.setT hx1 t
  rw [List.length_set, List.set_set] at h2
  exact ⟨h2, grown_tr g1 g2⟩

/-- What a writer of slots leaves: the row as told, nothing else changed. -/
def Wrote (r : Value) (w : World) (base : Nat) (v : Value) (s : List Slot) (e : Ending) (w' : World) : Prop := e = .returned r ∧ OwnS w' base v s ∧ w.grownBy w' v.ownBlock

set_option maxHeartbeats 1000000 in
theorem drop_c {w : World} {base : Nat} {v : Value} {s : List Slot} (h : OwnS w base v s) {m : Nat} {x : Slot} (hx : s[m]? = some x) (hm : s.length ≤ 1048576) (h1 : 1 ≤ x.uses) (h2 : x.uses ≤ 99) :
    Calls Try.prog 70 #[v, .int .i64 ((m : Int) + 1)] w (Wrote (.tuple #[]) w base v (dropS s m)) := by
  obtain ⟨g, cap, rfl, hb, hg, hcap, hc, hc', hf, hf'⟩ := OwnS.at h hx
  have hl := ltQ hx
  have H := Lib.hid h
  have HX := Lib.hid hx
  have HD := Lib.hid (dropS_eq hx)
  clear h hx
  by_cases h0 : x.uses - 1 = 0
  · have HL := Lib.hid (show lessS x = ⟨e0, 0⟩ by unfold lessS; rw [if_pos h0])
    have hu : x.uses = 1 := by omega
    have HU := Lib.hid hu
    rw [hu] at hc'
    clear h0 hu
    go_enter Try.func70, Try.ntmps70
    go_wp2
    go_end0
    have hs := OwnS.setUT H.out HX.out e0 0
    exact ⟨rfl, by rw [HD.out, HL.out]; exact hs.1, hs.2⟩
  · have HL := Lib.hid (show lessS x = ⟨x.text, x.uses - 1⟩ by unfold lessS; rw [if_neg h0])
    go_enter Try.func70, Try.ntmps70
    go_wp2
    go_end0
    have hs := OwnS.setU H.out HX.out (x.uses - 1)
    exact ⟨rfl, by rw [HD.out, HL.out]; exact hs.1, hs.2⟩
set_option maxHeartbeats 1000000 in
theorem l2Drop_c {w : World} {base : Nat} {v : Value} {s : List Slot} (h : OwnS w base v s) {m : Nat} {x : Slot} (hx : s[m]? = some x) (hm : s.length ≤ 1048576) (h1 : 1 ≤ x.uses) (h2 : x.uses ≤ 99) :
    Calls Try.prog 118 #[v, .int .i64 ((m : Int) + 1)] w (Wrote v w base v (dropS s m)) := by
  obtain ⟨g, cap, rfl, hb, hg, hcap, hc, hc', hf, hf'⟩ := OwnS.at h hx
  have hl := ltQ hx
  have H := Lib.hid h
  have HX := Lib.hid hx
  have HD := Lib.hid (dropS_eq hx)
  clear h hx
  by_cases h0 : x.uses - 1 = 0
  · have HL := Lib.hid (show lessS x = ⟨e0, 0⟩ by unfold lessS; rw [if_pos h0])
    have hu : x.uses = 1 := by omega
    have HU := Lib.hid hu
    rw [hu] at hc'
    clear h0 hu
    go_enter Try.func118, Try.ntmps118
    go_wp2
    go_ret
    have hs := OwnS.setUT H.out HX.out e0 0
    exact ⟨rfl, by rw [HD.out, HL.out]; exact hs.1, hs.2⟩
  · have HL := Lib.hid (show lessS x = ⟨x.text, x.uses - 1⟩ by unfold lessS; rw [if_neg h0])
    go_enter Try.func118, Try.ntmps118
    go_wp2
    go_ret
    have hs := OwnS.setU H.out HX.out (x.uses - 1)
    exact ⟨rfl, by rw [HD.out, HL.out]; exact hs.1, hs.2⟩

/-! ### adding a reference -/
def probe (s : List Slot) : Nat → Int → Int
  | 0, _ => 0
  | n + 1, p => if (s.getD (p - 1).toNat Slot.z).uses = 0 then p else probe s n (p % 8 + 1)
def putAt (s : List Slot) (t : ByteArray) : Int :=
  if idx (fun o : Slot => o.text.toList == t.toList) s = -1 then probe s 8 (placeOf t)
  else if (s.getD (idx (fun o : Slot => o.text.toList == t.toList) s).toNat Slot.z).uses = 99 then 0 else idx (fun o : Slot => o.text.toList == t.toList) s + 1
def moreS (s : List Slot) (t : ByteArray) (p : Int) : List Slot := if p = 0 then s else s.set (p - 1).toNat ⟨t, (s.getD (p - 1).toNat Slot.z).uses + 1⟩
def putS (s : List Slot) (t : ByteArray) : List Slot := moreS s t (putAt s t)
theorem probe_bd (s : List Slot) (n : Nat) (p : Int) (h1 : 1 ≤ p) (h8 : p ≤ 8) : 0 ≤ probe s n p ∧ probe s n p ≤ 8 := by
  induction n generalizing p with
  | zero => simp [probe]
  | succ n ih =>
    unfold probe
    split
    · omega
    · exact ih _ (by omega) (by omega)
set_option maxHeartbeats 2000000 in
theorem put_c {w : World} {base : Nat} {v : Value} {s : List Slot} (h : OwnS w base v s) (hm : s.length = 8) (hu : ∀ x ∈ s, 0 ≤ x.uses ∧ x.uses ≤ 99) (t : ByteArray) (ht : tOk t = true) :
    Calls Try.prog 95 #[v, .string t] w (Wrote (.int .i64 (putAt s t)) w base v (putS s t)) := by
  obtain ⟨A, c, rfl, hc, hC⟩ := h.reads
  have H := Lib.hid h
  have HC := Lib.hid hC
  have HU := Lib.hid hu
  have HT := Lib.hid ht
  have HM := Lib.hid hm
  have hl : s.length ≤ 1048576 := by omega
  clear h hC hu ht
  have hi := idx_bd (fun o : Slot => o.text.toList == t.toList) s
  by_cases hn : idx (fun o : Slot => o.text.toList == t.toList) s = -1
  · have HF : ∀ W, kSlot.C W A s.length s → Calls Try.prog 100 #[.slice A s.length c, .string t] W (Ret (.int .i64 0) W) := fun W hW => by
      have := find_c s A c t W hW hl
      rw [hn] at this
      exact this
    have HF' := Lib.hid HF
    have HP := Lib.hid (show putAt s t = probe s 8 (placeOf t) by unfold putAt; rw [if_pos hn])
    clear HF hn hi hm
    go_enter Try.func95, Try.ntmps95
    go_wp2_with (first | (go_at_call 100; refine (HF'.out _ HC.out).mono ?_; rintro e w1 ⟨rfl, hb1⟩) | (go_at_call 137; refine (textPlace_c t _ HT.out).mono ?_; rintro e w' ⟨rfl, rfl⟩))
    have HW1 := Lib.hid (H.out.bel hb1)
    go_loop [5, 13] (fun v5 v13 => ∃ (j m : Nat), j ≤ 8 ∧ m < 8 ∧ v13 = .int .i64 j ∧ v5 = .int .i64 ((m : Int) + 1) ∧ Hid (putAt s t = probe s (8 - j) ((m : Int) + 1))) (fun _ v => 8 - (intOf v).toNat)
    case atStart =>
      have := @placeOf_bd t
      exact ⟨0, (placeOf t - 1).toNat, by omega, by omega, rfl, int_eq (by omega), by rw [show (((placeOf t - 1).toNat : Nat) : Int) + 1 = placeOf t by omega]; exact HP⟩
    case round =>
      obtain ⟨j, m, hj, hm8, rfl, rfl, hP⟩ := hrel
      by_cases hlt : j < 8
      · obtain ⟨x, hx⟩ := getQ (show m < s.length by rw [HM.out]; exact hm8)
        obtain ⟨g, cap, ev, hb, hg, hcap, hcc, hcc', hf, hf'⟩ := OwnS.at HW1.out hx
        obtain ⟨rfl, -, rfl⟩ := by simpa using ev
        have hux := HU.out x (List.mem_of_getElem? hx)
        have hmi : ((m : Int) + 1 - 1).toNat = m := by omega
        have HX := Lib.hid hx
        have hml : m < s.length := by rw [HM.out]; exact hm8
        by_cases h0 : x.uses = 0
        · have HQ := Lib.hid (show putAt s t = (m : Int) + 1 by rw [hP.out, show 8 - j = (7 - j) + 1 by omega]; unfold probe; rw [hmi, getD_of hx, if_pos h0])
          have HS := Lib.hid (show putS s t = s.set m ⟨t, 1⟩ by unfold putS moreS; rw [HQ.out, if_neg (by omega), hmi, getD_of hx, h0]; rfl)
          rw [h0] at hcc'
          clear hx hmi h0
          go_wp2
          go_ret
          have hs := OwnS.setTU HW1.out HX.out t 1
          exact ⟨ret_int HQ.out.symm, by rw [HS.out]; exact hs.1, grown_tr (grown_of_bel hb1 _) hs.2⟩
        · have HQ := Lib.hid (show putAt s t = probe s (8 - (j + 1)) ((((m + 1) % 8 : Nat) : Int) + 1) by
            rw [hP.out, show 8 - j = (7 - j) + 1 by omega]
            conv => lhs; unfold probe
            rw [hmi, getD_of hx, if_neg h0, show 7 - j = 8 - (j + 1) by omega]
            congr 1 <;> omega)
          clear hx hmi
          go_wp2_with (go_at_call 138; refine (textNext_c _ _ (by omega) (by omega)).mono ?_; rintro e w' ⟨rfl, rfl⟩)
          go_round
          case rel => exact ⟨j + 1, (m + 1) % 8, by omega, by omega, by go_num, int_eq (by omega), HQ⟩
          case measure => simp [intOf]; omega
      · have HQ := Lib.hid (show putAt s t = 0 by rw [hP.out, show 8 - j = 0 by omega]; rfl)
        have HS := Lib.hid (show putS s t = s by unfold putS moreS; rw [HQ.out, if_pos rfl])
        go_wp2
        go_ret
        exact ⟨ret_int HQ.out.symm, by rw [HS.out]; exact HW1.out, grown_of_bel hb1 _⟩
  · obtain ⟨m, hm'⟩ : ∃ m : Nat, idx (fun o : Slot => o.text.toList == t.toList) s = m := ⟨(idx (fun o : Slot => o.text.toList == t.toList) s).toNat, by omega⟩
    obtain ⟨x, hx, hxt⟩ := idx_get (f := fun o : Slot => o.text.toList == t.toList) (xs := s) (by omega)
    rw [hm', Int.toNat_natCast] at hx
    have hxt' : x.text = t := str_eq (by simpa using hxt)
    have hml := ltQ hx
    have HF : ∀ W, kSlot.C W A s.length s → Calls Try.prog 100 #[.slice A s.length c, .string t] W (Ret (.int .i64 ((m : Int) + 1)) W) := fun W hW => by
      have := find_c s A c t W hW hl
      rw [hm'] at this
      exact this
    have HF' := Lib.hid HF
    have hux := HU.out x (List.mem_of_getElem? hx)
    have HX := Lib.hid hx
    by_cases h99 : x.uses = 99
    · have HQ := Lib.hid (show putAt s t = 0 by unfold putAt; rw [if_neg hn, hm', Int.toNat_natCast, getD_of hx, if_pos h99])
      have HS := Lib.hid (show putS s t = s by unfold putS moreS; rw [HQ.out, if_pos rfl])
      have H99 := Lib.hid h99
      clear HF hn hi hm hx hxt hxt' h99 hm'
      go_enter Try.func95, Try.ntmps95
      go_wp2_with fail
      refine (HF'.out _ HC.out).mono ?_
      rintro e w1 ⟨rfl, hb1⟩
      obtain ⟨g, cap, ev, hb, hg, hcap, hcc, hcc', hf, hf'⟩ := OwnS.at (H.out.bel hb1) HX.out
      obtain ⟨rfl, -, rfl⟩ := by simpa using ev
      rw [H99.out] at hcc'
      have HW1 := Lib.hid (H.out.bel hb1)
      go_wp2
      go_ret
      exact ⟨ret_int HQ.out.symm, by rw [HS.out]; exact HW1.out, grown_of_bel hb1 _⟩
    · have HQ := Lib.hid (show putAt s t = (m : Int) + 1 by unfold putAt; rw [if_neg hn, hm', Int.toNat_natCast, getD_of hx, if_neg h99])
      have HS := Lib.hid (show putS s t = s.set m ⟨x.text, x.uses + 1⟩ by unfold putS moreS; rw [HQ.out, if_neg (by omega), show ((m : Int) + 1 - 1).toNat = m by omega, getD_of hx, hxt'])
      clear HF hn hi hm hx hxt hxt' hm'
      go_enter Try.func95, Try.ntmps95
      go_wp2_with fail
      refine (HF'.out _ HC.out).mono ?_
      rintro e w1 ⟨rfl, hb1⟩
      obtain ⟨g, cap, ev, hb, hg, hcap, hcc, hcc', hf, hf'⟩ := OwnS.at (H.out.bel hb1) HX.out
      obtain ⟨rfl, -, rfl⟩ := by simpa using ev
      have HW1 := Lib.hid (H.out.bel hb1)
      go_wp2
      go_ret
      have hs := OwnS.setU HW1.out HX.out (x.uses + 1)
      exact ⟨ret_int HQ.out.symm, by rw [HS.out]; exact hs.1, grown_tr (grown_of_bel hb1 _) hs.2⟩
end Go.Proofs.Ytpobgjkmjlmafaa

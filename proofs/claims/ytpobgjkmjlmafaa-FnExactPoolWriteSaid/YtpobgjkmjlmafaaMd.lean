/- markIntS, markSlotS: a row of one's own filled with marks. -/
import Derived.Test.YtpobgjkmjlmafaaMc
import Derived.Test.YtpobgjkmjlmafaaWj
import Derived.Test.YtpobgjkmjlmafaaOwnV
namespace Go.Proofs.Ytpobgjkmjlmafaa
open Go.RowKit Go.Proofs.YtpobgjkmjlmafaaW.PrintWords
set_option linter.unusedVariables false
set_option linter.unusedSimpArgs false

theorem OwnI.at {w : World} {base : Nat} {v : Value} {s : List Int} (h : OwnI w base v s) {m : Nat} {x : Int} (hx : s[m]? = some x) :
    ∃ g cap, v = .slice (some ⟨g, 0, none⟩) s.length cap ∧ base ≤ g ∧ g < w.heap.size ∧ s.length ≤ cap ∧ w.cell? ⟨g, m, none⟩ = some (.int .i64 x) ∧ w.frozen? ⟨g, m, none⟩ = false := by
  have hm := ltQ hx
  obtain ⟨g, cap, rfl, hb, hg, hc⟩ := own_form h (by omega)
  refine ⟨g, cap, rfl, hb, hg, hc, ?_, World.ownsRow.frozenAt h _⟩
  rw [World.ownsRow.cellAt h _ (by omega), show m = m * 1 + 0 by omega, flat_get encI_len hx (by omega)]; rfl
theorem OwnI.set {w : World} {base g cap : Nat} {s : List Int} (h : OwnI w base (.slice (some ⟨g, 0, none⟩) s.length cap) s) {m : Nat} {x : Int} (hx : s[m]? = some x) (u : Int) :
    OwnI (w.setCell ⟨g, m, none⟩ (.int .i64 u)) base (.slice (some ⟨g, 0, none⟩) s.length cap) (s.set m u) ∧ w.grownBy (w.setCell ⟨g, m, none⟩ (.int .i64 u)) (some g) := by
  have := World.ownsRow.stored h (m * 1 + 0) (.int .i64 u)
  rw [flat_set encI_len (y := u) hx (by omega) rfl, show m * 1 + 0 = m by omega] at this
  unfold OwnI
  rw [List.length_set]
  exact this
/-- What a marker of numbers leaves. -/
def MarkedI (k : Int) (w : World) (base : Nat) (v : Value) (n : Nat) (e : Ending) (w' : World) : Prop := e = .returned (.int .i64 (k + n)) ∧ (∃ s, s.length = n ∧ OwnI w' base v s ∧ MkI k s) ∧ w.grownBy w' v.ownBlock
theorem mkI_all {k : Int} {s : List Int} (h : ∀ (i : Nat) (x : Int), i < s.length → s[i]? = some x → x = k + i) : MkI k s := fun i x hx => h i x (ltQ hx) hx
set_option maxHeartbeats 2000000 in
theorem markIntS_c {w : World} {base : Nat} {v : Value} {s : List Int} {k : Int} (h : OwnI w base v s) (hl : s.length ≤ 1048576) (h0 : 0 < k) (h1 : k ≤ 1152921504606846976) :
    Calls Try.prog 129 #[v, .int .i64 k] w (MarkedI k w base v s.length) := by
  obtain ⟨A, c, rfl, hc, hC⟩ := h.reads
  have H := Lib.hid h
  clear h hC
  go_enter Try.func129, Try.ntmps129
  go_wp2
  go_loopg [1, 5] s.length (fun g v1 v5 W => ∃ (j : Nat) (s' : List Int), g + j = s.length ∧ v5 = .int .i64 j ∧ v1 = .int .i64 (k + j) ∧ Hid (s'.length = s.length) ∧ Hid (∀ (i : Nat) (x : Int), i < j → s'[i]? = some x → x = k + i) ∧ Hid (OwnI W base (.slice A s.length c) s') ∧ w.grownBy W (Value.slice A s.length c).ownBlock)
  case atStart => exact ⟨0, s, rfl, rfl, int_eq (by omega), rfl, fun i x hi => by omega, H.out, grown_refl _ _⟩
  case round =>
    obtain ⟨j, s', hj, rfl, rfl, hl', hm, ho, hg⟩ := hrel
    by_cases hlt : j < s.length
    · obtain ⟨x, hx⟩ := getQ (show j < s'.length by rw [hl'.out]; exact hlt)
      obtain ⟨g, cap, ev, hb, hgw, hcap, hcc, hf⟩ := ho.out.at hx
      obtain ⟨rfl, -, rfl⟩ := by simpa using ev
      have hst := OwnI.set (hl'.out ▸ ho.out) hx (k + j)
      have H3 := Lib.hid (And.intro hst hg)
      have HX := Lib.hid hx
      clear hx hst ev hg
      go_wp2
      go_roundg (s.length - (j + 1))
      case measure => omega
      case rel =>
        refine ⟨j + 1, s'.set j (k + j), by omega, by go_num, int_eq (by omega), by rw [Hid, List.length_set]; exact hl'.out, fun i x hi hx => ?_, hl'.out ▸ H3.out.1.1, grown_tr H3.out.2 H3.out.1.2⟩
        by_cases e : i = j
        · subst e; rw [List.getElem?_set_self (ltQ HX.out)] at hx; exact (Option.some.inj hx).symm
        · rw [List.getElem?_set_ne (fun h => e h.symm)] at hx; exact hm.out i x (by omega) hx
    · have hjl : j = s.length := by omega
      have HM := Lib.hid (mkI_all (k := k) (s := s') (fun i x hi hx => hm.out i x (by rw [hl'.out] at hi; omega) hx))
      have HG := Lib.hid hg
      clear hg
      go_wp2
      go_ret
      exact ⟨ret_int (by omega), ⟨s', hl'.out, ho.out, HM.out⟩, HG.out⟩
/-- What a marker of slots leaves. -/
def MarkedS (k : Int) (w : World) (base : Nat) (v : Value) (n : Nat) (e : Ending) (w' : World) : Prop := e = .returned (.int .i64 (k + 2 * n)) ∧ (∃ s, s.length = n ∧ OwnS w' base v s ∧ MkS k s) ∧ w.grownBy w' v.ownBlock
set_option maxHeartbeats 2000000 in
theorem markSlotS_c {w : World} {base : Nat} {v : Value} {s : List Slot} {k : Int} (h : OwnS w base v s) (hl : s.length ≤ 1048576) (h0 : 0 < k) (h1 : k ≤ 1152921504606846976) :
    Calls Try.prog 74 #[v, .int .i64 k] w (MarkedS k w base v s.length) := by
  obtain ⟨A, c, rfl, hc, hC⟩ := h.reads
  have H := Lib.hid h
  clear h hC
  go_enter Try.func74, Try.ntmps74
  go_wp2
  go_loopg [1, 5] s.length (fun g v1 v5 W => ∃ (j : Nat) (s' : List Slot), g + j = s.length ∧ v5 = .int .i64 j ∧ v1 = .int .i64 (k + 2 * j) ∧ Hid (s'.length = s.length) ∧ Hid (∀ (i : Nat) (x : Slot), i < j → s'[i]? = some x → x.text = mkT (k + 2 * i) ∧ x.uses = k + 2 * i + 1) ∧ Hid (OwnS W base (.slice A s.length c) s') ∧ w.grownBy W (Value.slice A s.length c).ownBlock)
  case atStart => exact ⟨0, s, rfl, rfl, int_eq (by omega), rfl, fun i x hi => by omega, H.out, grown_refl _ _⟩
  case round =>
    obtain ⟨j, s', hj, rfl, rfl, hl', hm, ho, hg⟩ := hrel
    by_cases hlt : j < s.length
    · obtain ⟨x, hx⟩ := getQ (show j < s'.length by rw [hl'.out]; exact hlt)
      have HG := Lib.hid hg
      have HX := Lib.hid hx
      clear hx hg
      have HMT := Lib.hid (fun W : World => markText_c (k + 2 * (j : Int)) W (by omega) (by omega))
      go_wp2_with fail
      refine (HMT.out _).mono ?_
      rintro e w4 ⟨rfl, hb4⟩
      have ho4 := ho.out.bel hb4
      obtain ⟨g, cap, ev, hb, hgw, hcap, hcc, hcc', hf, hf'⟩ := OwnS.at ho4 HX.out
      obtain ⟨rfl, -, rfl⟩ := by simpa using ev
      have hst := OwnS.setTU (hl'.out ▸ ho4) HX.out (mkT (k + 2 * j)) (k + 2 * j + 1)
      have H3 := Lib.hid (And.intro hst (grown_tr HG.out (grown_of_bel hb4 _)))
      clear hst ev ho4 hb4
      go_wp2
      go_roundg (s.length - (j + 1))
      case measure => omega
      case rel =>
        refine ⟨j + 1, s'.set j ⟨mkT (k + 2 * j), k + 2 * j + 1⟩, by omega, by go_num, int_eq (by omega), by rw [Hid, List.length_set]; exact hl'.out, fun i x hi hx => ?_, hl'.out ▸ H3.out.1.1, grown_tr H3.out.2 H3.out.1.2⟩
        by_cases e : i = j
        · subst e; rw [List.getElem?_set_self (ltQ HX.out)] at hx; obtain rfl := Option.some.inj hx; exact ⟨rfl, rfl⟩
        · rw [List.getElem?_set_ne (fun h => e h.symm)] at hx; exact hm.out i x (by omega) hx
    · have hjl : j = s.length := by omega
      have HM := Lib.hid (show MkS k s' from fun i x hx => hm.out i x (by have := ltQ hx; rw [hl'.out] at this; omega) hx)
      have HG := Lib.hid hg
      clear hg
      go_wp2
      go_ret
      exact ⟨ret_int (by omega), ⟨s', hl'.out, ho.out, HM.out⟩, HG.out⟩
end Go.Proofs.Ytpobgjkmjlmafaa

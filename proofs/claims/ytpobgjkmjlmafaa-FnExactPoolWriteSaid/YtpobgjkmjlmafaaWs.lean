/- Comparing strings; searching a sorted row of volumes. -/
import Derived.Test.YtpobgjkmjlmafaaWr
namespace Go.Proofs.Ytpobgjkmjlmafaa
open Go.RowKit Go.Proofs.YtpobgjkmjlmafaaW.PrintWords Go.Proofs.YtpobgjkmjlmafaaW.PrintLast
set_option linter.unusedVariables false
set_option linter.unusedSimpArgs false

theorem insert_c {W : World} {base : Nat} {v : Value} {vs : List Vol} {bvs : List Value} {x : Vol} {b : Value} {i : Nat} (h : VRow W base v vs bvs) (hbase : base ≤ W.heap.size) (h1 : ∀ b ∈ bvs, b.oneCell' = true) (hb : b.oneCell' = true) (hi : i ≤ vs.length) (hl : vs.length ≤ 1048576) :
    Calls Try.prog 145 #[v, .int .i64 i, .slice (some ⟨W.heap.size, 0, none⟩) 1 1] (W.alloc (.cells #[.string x.name, b] 43)) (Ins1 W base v vs bvs i x b) := by
  by_cases hin : i = vs.length
  · subst hin; exact insert_end_c h hbase hb hl
  · obtain ⟨g, cap, rfl, _, _, hc⟩ := own_form h.row (by omega)
    by_cases hr : vs.length + 1 ≤ cap
    · exact insert_room_c h hbase h1 hb (by omega) hr
    · exact insert_grow_c h hbase h1 hb (by omega) (by omega) hl

def cmpS (a b : ByteArray) : Int := Lib.compareBytes a.data.toList b.data.toList
theorem run_cmpS (a b : ByteArray) (w : World) : (callFunc 160 #[.string a, .string b]).run Try.prog w = .ok (.value (.int .i64 (cmpS a b))) w := by
  rw [run_callFunc_extern Try.func160 (by kernel_rfl) (by kernel_rfl) (by kernel_rfl) (e := Extern.BytealgCompare.compare) (by kernel_rfl), Lib.run_compareString]
  rfl
theorem compareString_c (a b : ByteArray) (w : World) : Calls Try.prog 154 #[.string a, .string b] w (Same (.int .i64 (cmpS a b)) w) := by
  have hc := run_cmpS a b
  go_enter Try.func154, Try.ntmps154
  go_wp2
  go_ret
  exact ⟨rfl, rfl⟩
theorem compare_c (a b : ByteArray) (w : World) : Calls Try.prog 144 #[.string a, .string b] w (Same (.int .i64 (cmpS a b)) w) := by
  go_enter Try.func144, Try.ntmps144
  go_wp2_with (go_at_call 154; refine (compareString_c a b _).mono ?_; rintro e w' ⟨rfl, rfl⟩)
  go_ret
  exact ⟨rfl, rfl⟩
theorem insertClo_c (x : Vol) (bv : Value) (t : ByteArray) (w : World) : Calls Try.prog 143 #[.agg #[.string x.name, bv], .string t] w (Ret (.int .i64 (cmpS x.name t)) w) := by
  go_enter Try.func143, Try.ntmps143
  go_wp2_with (go_at_call 144; refine (compare_c _ _ _).mono ?_; rintro e w' ⟨rfl, rfl⟩)
  go_ret
  exact ⟨rfl, bel_alloc (Below.refl _ _) _⟩

/-- What a search leaves: the place, and whether it is met there. -/
def Found (q : Nat) (w : World) (e : Ending) (w' : World) : Prop := ∃ f : Bool, e = .returned (.tuple #[.int .i64 q, .bool f]) ∧ Bel w w'
set_option maxRecDepth 100000 in
set_option maxHeartbeats 2000000 in
theorem search_c {w : World} {A : Option Addr} {c q : Nat} {vs : List Vol} {t : ByteArray} (hC : kVol.C w A vs.length vs) (hq : q ≤ vs.length) (hl : vs.length ≤ 1048576) (hm : ∀ (m : Nat) (x : Vol), vs[m]? = some x → (m < q ↔ cmpS x.name t < 0)) :
    Calls Try.prog 142 #[.slice A vs.length c, .string t, .func (.func 143) #[] #[]] w (Found q w) := by
  have H := Lib.hid hC
  have HM := Lib.hid hm
  clear hC hm
  go_enter Try.func142, Try.ntmps142
  go_wp2
  go_loopg [9, 10] vs.length (fun g v9 v10 W => ∃ i j : Nat, i ≤ q ∧ q ≤ j ∧ j ≤ vs.length ∧ j - i = g ∧ v9 = .int .i64 i ∧ v10 = .int .i64 j ∧ Bel w W)
  case atStart => exact ⟨0, vs.length, by omega, hq, Nat.le_refl _, rfl, rfl, rfl, Below.refl _ _⟩
  case round =>
    obtain ⟨i, j, hi, hj, hjn, hg, rfl, rfl, hW⟩ := hrel
    by_cases hlt : i < j
    · have hk : (i + j) / 2 < vs.length := by omega
      obtain ⟨x, hx⟩ := getQ hk
      obtain ⟨ad, A1, n1, rfl, hc, hc', hn, hC1⟩ := at_vol (Kd.C_below H.out hW) hx
      have HX := Lib.hid hx
      clear hx
      have hiff := HM.out _ _ HX.out
      by_cases hcm : cmpS x.name t < 0
      · have hkq : (i + j) / 2 < q := hiff.2 hcm
        clear hiff
        go_wp2_with (go_at_call 143; refine (insertClo_c x _ t _).mono ?_; rintro e w1 ⟨rfl, hb1⟩)
        go_roundg (j - ((i + j) / 2 + 1))
        case rel => exact ⟨(i + j) / 2 + 1, j, by omega, hj, hjn, rfl, int_eq (by omega), rfl, hW.tr hb1⟩
        case measure => omega
      · have hkq : q ≤ (i + j) / 2 := Nat.le_of_not_lt fun h => hcm (hiff.1 h)
        clear hiff
        go_wp2_with (go_at_call 143; refine (insertClo_c x _ t _).mono ?_; rintro e w1 ⟨rfl, hb1⟩)
        go_roundg ((i + j) / 2 - i)
        case rel => exact ⟨i, (i + j) / 2, hi, hkq, by omega, rfl, rfl, int_eq (by omega), hW.tr hb1⟩
        case measure => omega
    · obtain rfl : i = q := by omega
      by_cases hqn : i < vs.length
      · obtain ⟨x, hx⟩ := getQ hqn
        obtain ⟨ad, A1, n1, rfl, hc, hc', hn, hC1⟩ := at_vol (Kd.C_below H.out hW) hx
        clear hx
        go_wp2_with (go_at_call 143; refine (insertClo_c x _ t _).mono ?_; rintro e w1 ⟨rfl, hb1⟩)
        all_goals
          go_ret2
          exact ⟨_, rfl, hW.tr hb1⟩
      · have hqe : i = vs.length := by omega
        go_wp2
        go_ret2
        exact ⟨_, rfl, hW⟩
end Go.Proofs.Ytpobgjkmjlmafaa

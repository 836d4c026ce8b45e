/- What the readers of slot stores, volumes and pools compute: VolOk, uses, StoreOk, PoolOk, in the program and in the reference. -/
import Derived.Test.YtpobgjkmjlmafaaWa
namespace Go.Proofs.Ytpobgjkmjlmafaa
open Go.RowKit Go.Proofs.YtpobgjkmjlmafaaW.PrintWords
set_option linter.unusedVariables false
set_option linter.unusedSimpArgs false

theorem volOk_no {v : Vol} {k : Nat} {x : Int} (h : v.blocks[k]? = some x) (hf : inR x 0 8 = false) : volOk v = false := by
  simp [volOk, all_no h (fun p => inR p 0 8) hf]
theorem volOk_end {v : Vol} {k : Nat} (h : (v.blocks.take k).all (fun p => inR p 0 8) = true) (hk : ¬ k < v.blocks.length) : volOk v = (isNm v.name && inR (v.blocks.length : Int) 1 6) := by
  rw [take_all hk] at h
  simp only [volOk, h, Bool.true_and]

set_option maxHeartbeats 1000000 in
theorem implVolOk_c (v : Vol) (A : Option Addr) (c : Nat) (w : World) (hb : kInt.C w A v.blocks.length v.blocks) (hl : v.blocks.length ≤ 1048576) :
    Calls Try.prog 88 #[.agg #[.string v.name, .slice A v.blocks.length c]] w (Ret (.bool (volOk v)) w) := by
  have HB := Lib.hid hb
  clear hb
  go_enter Try.func88, Try.ntmps88
  go_wp2
  go_loop [8] (fun v8 => ∃ k : Nat, k ≤ v.blocks.length ∧ v8 = .int .i64 k ∧ Hid ((v.blocks.take k).all (fun p => inR p 0 8) = true)) (fun v8 => v.blocks.length - (intOf v8).toNat)
  case atStart => exact ⟨0, Nat.zero_le _, rfl, rfl⟩
  case round =>
    obtain ⟨k, hk, rfl, hall⟩ := hrel
    by_cases hlt : k < v.blocks.length
    · obtain ⟨x, hx⟩ := getQ hlt
      obtain ⟨ad, rfl, hc⟩ := at_int (Kd.C_alloc HB.out (.cells #[.string v.name, .slice A v.blocks.length c] 43)) hx
      cases hr : inR x 0 8
      · have g := Lib.hid (volOk_no hx hr)
        clear hx
        go_wp2_with (go_at_call 104; refine (within_c _ _ _ _).mono ?_; rintro e w' ⟨rfl, rfl⟩)
        go_ret
        exact ⟨ret_bool g.out.symm, bel_alloc (Below.refl _ _) _⟩
      · have g := Lib.hid (show ((v.blocks.take (k + 1)).all fun p => inR p 0 8) = true by rw [all_snoc hx, hall.out, hr]; rfl)
        clear hx
        go_wp2_with (go_at_call 104; refine (within_c _ _ _ _).mono ?_; rintro e w' ⟨rfl, rfl⟩)
        go_round
        case rel => exact ⟨k + 1, by omega, by go_num, g⟩
        case measure => simp [intOf]; omega
    · have g := Lib.hid (volOk_end hall.out hlt)
      cases hn : isNm v.name
      all_goals
        go_wp2_with (first | (go_at_call 104; refine (within_c _ _ _ _).mono ?_; rintro e w' ⟨rfl, rfl⟩) | (go_at_call 103; refine (isName_c _ _).mono ?_; rintro e w' ⟨rfl, rfl⟩))
        go_ret
        exact ⟨ret_bool (by rw [g.out, hn]; rfl), bel_alloc (Below.refl _ _) _⟩

set_option maxHeartbeats 1000000 in
theorem specVolOk_c (v : Vol) (A : Option Addr) (c : Nat) (w : World) (hb : kInt.C w A v.blocks.length v.blocks) (hl : v.blocks.length ≤ 1048576) (hs : v.name.size ≤ 1048576) :
    Calls Try.prog 83 #[.agg #[.string v.name, .slice A v.blocks.length c]] w (Ret (.bool (volOk v)) w) := by
  have HB := Lib.hid hb
  clear hb
  go_enter Try.func83, Try.ntmps83
  go_wp2
  go_loop [3] (fun v8 => ∃ k : Nat, k ≤ v.blocks.length ∧ v8 = .int .i64 k ∧ Hid ((v.blocks.take k).all (fun p => inR p 0 8) = true)) (fun v8 => v.blocks.length - (intOf v8).toNat)
  case atStart => exact ⟨0, Nat.zero_le _, rfl, rfl⟩
  case round =>
    obtain ⟨k, hk, rfl, hall⟩ := hrel
    by_cases hlt : k < v.blocks.length
    · obtain ⟨x, hx⟩ := getQ hlt
      obtain ⟨ad, rfl, hc⟩ := at_int (Kd.C_alloc HB.out (.cells #[.string v.name, .slice A v.blocks.length c] 43)) hx
      cases hr : inR x 0 8
      · have g := Lib.hid (volOk_no hx hr)
        clear hx
        go_wp2_with (go_at_call 98; refine (l6In_c _ _ _ _).mono ?_; rintro e w' ⟨rfl, rfl⟩)
        go_ret
        exact ⟨ret_bool g.out.symm, bel_alloc (Below.refl _ _) _⟩
      · have g := Lib.hid (show ((v.blocks.take (k + 1)).all fun p => inR p 0 8) = true by rw [all_snoc hx, hall.out, hr]; rfl)
        clear hx
        go_wp2_with (go_at_call 98; refine (l6In_c _ _ _ _).mono ?_; rintro e w' ⟨rfl, rfl⟩)
        go_round
        case rel => exact ⟨k + 1, by omega, by go_num, g⟩
        case measure => simp [intOf]; omega
    · have g := Lib.hid (volOk_end hall.out hlt)
      cases hn : isNm v.name
      all_goals
        go_wp2_with (first | (go_at_call 98; refine (l6In_c _ _ _ _).mono ?_; rintro e w' ⟨rfl, rfl⟩) | (go_at_call 115; refine (l3Name_c _ _ (by unfold maxLen; omega)).mono ?_; rintro e w' ⟨rfl, rfl⟩))
        go_ret
        exact ⟨ret_bool (by rw [g.out, hn]; rfl), bel_alloc (Below.refl _ _) _⟩

set_option maxHeartbeats 1000000 in
theorem implUses_c (v : Vol) (A : Option Addr) (c : Nat) (p : Int) (w : World) (hb : kInt.C w A v.blocks.length v.blocks) (hl : v.blocks.length ≤ 1048576) :
    Calls Try.prog 89 #[.agg #[.string v.name, .slice A v.blocks.length c], .int .i64 p] w (Ret (.int .i64 (cnt p v.blocks)) w) := by
  have HB := Lib.hid hb
  clear hb
  go_enter Try.func89, Try.ntmps89
  go_wp2
  go_loop [5, 11] (fun v5 v6 => ∃ k : Nat, k ≤ v.blocks.length ∧ v6 = .int .i64 k ∧ v5 = .int .i64 (cnt p (v.blocks.take k))) (fun _ v6 => v.blocks.length - (intOf v6).toNat)
  case atStart => exact ⟨0, Nat.zero_le _, rfl, rfl⟩
  case round =>
    obtain ⟨k, hk, rfl, rfl⟩ := hrel
    have c1 := cnt_le p (v.blocks.take k)
    have c2 : (v.blocks.take k).length ≤ k := List.length_take_le _ _
    by_cases hlt : k < v.blocks.length
    · obtain ⟨x, hx⟩ := getQ hlt
      obtain ⟨ad, rfl, hc⟩ := at_int (Kd.C_alloc HB.out (.cells #[.string v.name, .slice A v.blocks.length c] 43)) hx
      have H := Lib.hid ((congrArg (cnt p) (take_snoc hx)).trans (cnt_snoc _ _ _))
      clear hx
      go_wp2
      all_goals
        go_round
        case rel => exact ⟨k + 1, by omega, by go_num, int_eq (by rw [H.out]; simp_all)⟩
        case measure => simp [intOf]; omega
    · have H := Lib.hid (congrArg (cnt p) (take_all hlt))
      go_wp2
      go_ret
      exact ⟨ret_int H.out, bel_alloc (Below.refl _ _) _⟩
set_option maxHeartbeats 1000000 in
theorem l3Uses_c (v : Vol) (A : Option Addr) (c : Nat) (p : Int) (w : World) (hb : kInt.C w A v.blocks.length v.blocks) (hl : v.blocks.length ≤ 1048576) :
    Calls Try.prog 132 #[.agg #[.string v.name, .slice A v.blocks.length c], .int .i64 p] w (Ret (.int .i64 (cnt p v.blocks)) w) := by
  have HB := Lib.hid hb
  clear hb
  go_enter Try.func132, Try.ntmps132
  go_wp2
  go_loop [5, 6] (fun v5 v6 => ∃ k : Nat, k ≤ v.blocks.length ∧ v6 = .int .i64 k ∧ v5 = .int .i64 (cnt p (v.blocks.take k))) (fun _ v6 => v.blocks.length - (intOf v6).toNat)
  case atStart => exact ⟨0, Nat.zero_le _, rfl, rfl⟩
  case round =>
    obtain ⟨k, hk, rfl, rfl⟩ := hrel
    have c1 := cnt_le p (v.blocks.take k)
    have c2 : (v.blocks.take k).length ≤ k := List.length_take_le _ _
    by_cases hlt : k < v.blocks.length
    · obtain ⟨x, hx⟩ := getQ hlt
      obtain ⟨ad, rfl, hc⟩ := at_int (Kd.C_alloc HB.out (.cells #[.string v.name, .slice A v.blocks.length c] 43)) hx
      have H := Lib.hid ((congrArg (cnt p) (take_snoc hx)).trans (cnt_snoc _ _ _))
      clear hx
      go_wp2
      all_goals
        go_round
        case rel => exact ⟨k + 1, by omega, by go_num, int_eq (by rw [H.out]; simp_all)⟩
        case measure => simp [intOf]; omega
    · have H := Lib.hid (congrArg (cnt p) (take_all hlt))
      go_wp2
      go_ret
      exact ⟨ret_int H.out, bel_alloc (Below.refl _ _) _⟩
set_option maxHeartbeats 1000000 in
theorem l11Uses_c (v0 : Value) (A : Option Addr) (c : Nat) (vs : List Vol) (p : Int) (w : World) (hb : kVol.C w A vs.length vs) (hs : SmallV vs) :
    Calls Try.prog 84 #[.agg #[v0, .slice A vs.length c], .int .i64 p] w (Ret (.int .i64 (uses p vs)) w) := by
  have HB := Lib.hid hb
  have HS := Lib.hid hs
  have hl : vs.length ≤ 1048576 := hs.len
  clear hb hs
  go_enter Try.func84, Try.ntmps84
  go_wp2
  go_loopg [5, 6] vs.length (fun g v5 v6 W => ∃ k : Nat, g + k = vs.length ∧ v6 = .int .i64 k ∧ v5 = .int .i64 (uses p (vs.take k)) ∧ Blk W w.heap.size #[v0, .slice A vs.length c] 30 ∧ Bel w W)
  case atStart => exact ⟨0, rfl, rfl, rfl, Blk.new _ _ _, bel_alloc (Below.refl _ _) _⟩
  case round =>
    obtain ⟨k, hk, rfl, rfl, hB, hW⟩ := hrel
    have c0 := hB.cell 0
    have c1 := hB.cell 1
    simp at c0 c1
    by_cases hlt : k < vs.length
    · obtain ⟨x, hx⟩ := getQ hlt
      obtain ⟨ad, A1, n1, rfl, hc, hc', hn, hC⟩ := at_vol (Kd.C_below HB.out hW) hx
      have H := Lib.hid ((congrArg (uses p) (take_snoc hx)).trans (uses_snoc _ _ _))
      have hx1 : x.blocks.length ≤ 1048576 := HS.out.blocks x (List.mem_of_getElem? hx)
      have c2 := cnt_le p x.blocks
      have c3 := uses_le (p := p) (HS.out.take k)
      have c4 : (vs.take k).length ≤ k := List.length_take_le _ _
      clear hx
      go_wp2_with (go_at_call 132; refine (l3Uses_c x _ _ _ _ hC hx1).mono ?_; rintro e w1 ⟨rfl, hb1⟩)
      go_roundg (vs.length - (k + 1))
      case measure => omega
      case rel => exact ⟨k + 1, by omega, by go_num, int_eq H.out.symm, hB.bel hb1, hW.tr hb1⟩
    · have H := Lib.hid (congrArg (uses p) (take_all hlt))
      go_wp2
      go_ret
      exact ⟨ret_int H.out, hW⟩
end Go.Proofs.Ytpobgjkmjlmafaa

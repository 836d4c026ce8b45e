/- Finding a volume, a block, and reading one; counting free slots. -/
import Derived.Test.YtpobgjkmjlmafaaWf
namespace Go.Proofs.Ytpobgjkmjlmafaa
open Go.RowKit Go.Proofs.YtpobgjkmjlmafaaW.PrintWords
set_option linter.unusedVariables false
set_option linter.unusedSimpArgs false

theorem implPoolOk_in {p : Pool} {A0 A1 : Option Addr} {c0 c1 : Nat} {w : World} (h : PoolIn w A0 A1 c0 c1 p) (hs : SmallP p) :
    Calls Try.prog 37 #[.agg #[.slice A0 p.slots.length c0, .slice A1 p.vols.length c1]] w (Ret (.bool (poolOk p)) w) := implPoolOk_c p A0 A1 c0 c1 w h.s h.sc h.v hs
theorem specPoolOk_in {p : Pool} {A0 A1 : Option Addr} {c0 c1 : Nat} {w : World} (h : PoolIn w A0 A1 c0 c1 p) (hs : SmallP p) :
    Calls Try.prog 34 #[.agg #[.slice A0 p.slots.length c0, .slice A1 p.vols.length c1]] w (Ret (.bool (poolOk p)) w) := specPoolOk_c p A0 A1 c0 c1 w h.s h.v hs
theorem Blk.new2 (w : World) (o : Obj) (cs : Array Value) (t : TypeId) : Blk ((w.alloc o).alloc (.cells cs t)) (w.heap.size + 1) cs t := by
  have := Blk.new (w.alloc o) cs t
  rwa [show (w.alloc o).heap.size = w.heap.size + 1 by simp] at this
theorem volClo_c (x : Vol) (v1 : Value) (t : ByteArray) (B : Nat) (T : TypeId) (w : World) (hB : Blk w B #[.string t] T) :
    Calls Try.prog 125 #[.agg #[.string x.name, v1], .pointer (some ⟨B, 0, none⟩)] w (Ret (.bool (x.name.toList == t.toList)) w) := by
  have h0 := hB.cell 0
  have hl := hB.lt
  simp at h0
  go_enter Try.func125, Try.ntmps125
  go_wp2
  go_ret
  exact ⟨rfl, bel_alloc (Below.refl _ _) _⟩
set_option maxHeartbeats 1000000 in
theorem indexVol_c (s : List Vol) (A : Option Addr) (c : Nat) (t : ByteArray) (B : Nat) (T : TypeId) (w : World) (hs : kVol.C w A s.length s) (hl : s.length ≤ 1048576) (hB : Blk w B #[.string t] T) :
    Calls Try.prog 124 #[.slice A s.length c, .func (.func 125) #[] #[.pointer (some ⟨B, 0, none⟩)]] w (Ret (.int .i64 (volIdx s t)) w) := by
  have HS := Lib.hid hs
  clear hs
  go_enter Try.func124, Try.ntmps124
  go_wp2
  go_loopg [8] s.length (fun g v W => ∃ k : Nat, g + k = s.length ∧ v = .int .i64 k ∧ Hid ((s.take k).any (fun o => o.name.toList == t.toList) = false) ∧ Bel w W)
  case atStart => exact ⟨0, rfl, rfl, rfl, Below.refl _ _⟩
  case round =>
    obtain ⟨k, hk, rfl, hn, hW⟩ := hrel
    by_cases hlt : k < s.length
    · obtain ⟨x, hx⟩ := getQ hlt
      obtain ⟨ad, A2, n2, rfl, hc, hc', _, _⟩ := at_vol (Kd.C_below HS.out hW) hx
      cases ht : x.name.toList == t.toList
      · have g := Lib.hid (show (s.take (k + 1)).any (fun o => o.name.toList == t.toList) = false by rw [any_snoc hx, hn.out, ht]; rfl)
        clear hx
        go_wp2_with (go_at_call 125; refine (volClo_c x _ t B T _ (hB.bel hW)).mono ?_; rintro e w1 ⟨rfl, hb1⟩)
        go_roundg (s.length - (k + 1))
        case measure => omega
        case rel => exact ⟨k + 1, by omega, by go_num, g, hW.tr hb1⟩
      · have g := Lib.hid (idx_hit (f := fun o : Vol => o.name.toList == t.toList) hx hn.out ht)
        clear hx
        go_wp2_with (go_at_call 125; refine (volClo_c x _ t B T _ (hB.bel hW)).mono ?_; rintro e w1 ⟨rfl, hb1⟩)
        go_ret
        exact ⟨ret_int g.out.symm, hW.tr hb1⟩
    · have g := Lib.hid (idx_none (take_all hlt ▸ hn.out))
      go_wp2
      go_ret
      exact ⟨ret_int g.out.symm, hW⟩
theorem vol_c (v0 : Value) (vs : List Vol) (A : Option Addr) (c : Nat) (t : ByteArray) (w : World) (hs : kVol.C w A vs.length vs) (hl : vs.length ≤ 1048576) :
    Calls Try.prog 69 #[.agg #[v0, .slice A vs.length c], .string t] w (Ret (.int .i64 (volIdx vs t)) w) := by
  have HS := Lib.hid hs
  clear hs
  go_enter Try.func69, Try.ntmps69
  go_wp2_with (go_at_call 124; refine (indexVol_c vs A c t _ _ _ (Kd.C_alloc (Kd.C_alloc HS.out _) _) hl (Blk.new2 _ _ _ _)).mono ?_; rintro e w1 ⟨rfl, hb1⟩)
  go_ret
  exact ⟨rfl, (bel_alloc (bel_alloc (Below.refl _ _) _) _).tr hb1⟩
set_option maxHeartbeats 1000000 in
theorem l11At_c (v0 : Value) (vs : List Vol) (A : Option Addr) (c : Nat) (t : ByteArray) (w : World) (hs : kVol.C w A vs.length vs) (hl : vs.length ≤ 1048576) :
    Calls Try.prog 110 #[.agg #[v0, .slice A vs.length c], .string t] w (Ret (.int .i64 (volIdx vs t)) w) := by
  have HS := Lib.hid hs
  clear hs
  go_enter Try.func110, Try.ntmps110
  go_wp2
  go_loop [5] (fun v => ∃ k : Nat, k ≤ vs.length ∧ v = .int .i64 k ∧ Hid ((vs.take k).any (fun o => o.name.toList == t.toList) = false)) (fun v => vs.length - (intOf v).toNat)
  case atStart => exact ⟨0, Nat.zero_le _, rfl, rfl⟩
  case round =>
    obtain ⟨k, hk, rfl, hn⟩ := hrel
    by_cases hlt : k < vs.length
    · obtain ⟨x, hx⟩ := getQ hlt
      obtain ⟨ad, A2, n2, rfl, hc, hc', _, _⟩ := at_vol (Kd.C_alloc HS.out (.cells #[v0, .slice A vs.length c] 30)) hx
      cases ht : x.name.toList == t.toList
      · have g := Lib.hid (show (vs.take (k + 1)).any (fun o => o.name.toList == t.toList) = false by rw [any_snoc hx, hn.out, ht]; rfl)
        clear hx
        go_wp2
        go_round
        case rel => exact ⟨k + 1, by omega, by go_num, g⟩
        case measure => simp [intOf]; omega
      · have g := Lib.hid (idx_hit (f := fun o : Vol => o.name.toList == t.toList) hx hn.out ht)
        clear hx
        go_wp2
        go_ret
        exact ⟨ret_int g.out.symm, bel_alloc (Below.refl _ _) _⟩
    · have g := Lib.hid (idx_none (take_all hlt ▸ hn.out))
      go_wp2
      go_ret
      exact ⟨ret_int g.out.symm, bel_alloc (Below.refl _ _) _⟩
end Go.Proofs.Ytpobgjkmjlmafaa

/- New slots, copies of slots, of volumes, of pools. -/
import Derived.Test.YtpobgjkmjlmafaaWk
import Derived.Test.YtpobgjkmjlmafaaOwnV
import Derived.WalkSpells
namespace Go.Proofs.Ytpobgjkmjlmafaa
open Go.RowKit Go.Proofs.YtpobgjkmjlmafaaW.PrintWords
set_option linter.unusedVariables false
set_option linter.unusedSimpArgs false

/-- What a maker of slots leaves. -/
def MadeS (w : World) (s : List Slot) (e : Ending) (w' : World) : Prop := ∃ v, e = .returned v ∧ OwnS w' w.heap.size v s ∧ Bel w w'
set_option maxHeartbeats 1000000 in
theorem l2Copy_c {w : World} {A : Option Addr} {c : Nat} {s : List Slot} (hC : kSlot.C w A s.length s) (hl : s.length ≤ 1048576) :
    Calls Try.prog 120 #[.slice A s.length c] w (MadeS w s) := by
  have H := Lib.hid hC
  clear hC
  go_enter Try.func120, Try.ntmps120
  go_wp2_with (at_builtin; refine Kd.R_append_rows kSlot (w0 := w) w.heap.size rfl (.tmp 3) (.tmp 4) 27 100 (.agg #[.string ⟨#[]⟩, .int .i64 0]) 24 rfl Try.underlying27 info_slot rfl (by decide) (by decide) _ [] s _ _ _ (fun _ => True) (fun _ => False) rfl rfl (R_emptyS w w.heap.size (Nat.le_refl _)) (Kd.C_alloc H.out _) (fun _ _ h => h) (fun _ h => h.elim) (fun _ _ => trivial) ?a2 ?a3 ?a4 ?_; (case a2 => exact bel_alloc (Below.refl _ _) _); (case a3 => simp); (case a4 => simp; omega); intro v1 w1 ho hb hg hat)
  go_ret
  exact ⟨_, rfl, ownS_of_R ho, hb⟩

set_option maxHeartbeats 1000000 in
theorem cloneS_c {w : World} {A : Option Addr} {c : Nat} {s : List Slot} (hC : kSlot.C w A s.length s) (hl : s.length ≤ 1048576) :
    Calls Try.prog 148 #[.slice A s.length c] w (MadeS w s) := by
  have H := Lib.hid hC
  clear hC
  have hn := @Lib.run_eql_slice_nil Try.prog
  cases A with
  | none =>
    have h0 : s = [] := by
      cases s with
      | nil => rfl
      | cons a s => obtain ⟨ad, e, _⟩ := H.out.2.2 (by simp); cases e
    subst h0
    go_enter Try.func148, Try.ntmps148
    go_wp2
    go_ret
    exact ⟨_, rfl, World.ownsRow_nil _ _ _ _, Below.refl _ _⟩
  | some ad =>
    go_enter Try.func148, Try.ntmps148
    go_wp2_with (at_builtin; refine Kd.R_append_rows kSlot (w0 := w) w.heap.size rfl (.tmp 5) (.tmp 6) 27 100 (.agg #[.string ⟨#[]⟩, .int .i64 0]) 24 rfl Try.underlying27 info_slot rfl (by decide) (by decide) _ [] s _ _ _ (fun _ => True) (fun _ => False) rfl rfl (R_emptyS w w.heap.size (Nat.le_refl _)) (Kd.C_alloc H.out _) (fun _ _ h => h) (fun _ h => h.elim) (fun _ _ => trivial) ?a2 ?a3 ?a4 ?_; (case a2 => exact bel_alloc (Below.refl _ _) _); (case a3 => simp); (case a4 => simp; omega); intro v1 w1 ho hb hg hat)
    go_ret
    exact ⟨_, rfl, ownS_of_R ho, hb⟩
/-- What a maker of numbers leaves. -/
def MadeI (w : World) (s : List Int) (e : Ending) (w' : World) : Prop := ∃ v, e = .returned v ∧ OwnI w' w.heap.size v s ∧ Bel w w'
set_option maxHeartbeats 1000000 in
theorem cloneI_c {w : World} {A : Option Addr} {c : Nat} {s : List Int} (hC : kInt.C w A s.length s) (hl : s.length ≤ 1048576) :
    Calls Try.prog 109 #[.slice A s.length c] w (MadeI w s) := by
  have H := Lib.hid hC
  clear hC
  have hn := @Lib.run_eql_slice_nil Try.prog
  cases A with
  | none =>
    have h0 : s = [] := by
      cases s with
      | nil => rfl
      | cons a s => obtain ⟨ad, e, _⟩ := H.out.2.2 (by simp); cases e
    subst h0
    go_enter Try.func109, Try.ntmps109
    go_wp2
    go_ret
    exact ⟨_, rfl, World.ownsRow_nil _ _ _ _, Below.refl _ _⟩
  | some ad =>
    go_enter Try.func109, Try.ntmps109
    go_wp2_with (at_builtin; refine Kd.R_append_rows kInt (w0 := w) w.heap.size rfl (.tmp 5) (.tmp 6) 41 3 (.int .i64 0) 8 rfl Try.underlying41 info_int rfl (by decide) (by decide) _ [] s _ _ _ (fun _ => True) (fun _ => False) rfl rfl (R_emptyI w w.heap.size (Nat.le_refl _)) (Kd.C_alloc H.out _) (fun _ _ h => h) (fun _ h => h.elim) (fun _ _ => trivial) ?a2 ?a3 ?a4 ?_; (case a2 => exact bel_alloc (Below.refl _ _) _); (case a3 => simp); (case a4 => simp; omega); intro v1 w1 ho hb hg hat)
    go_ret
    exact ⟨_, rfl, ownI_of_R ho, hb⟩
/-- What slices.Clone leaves of volumes: the array is new, the blocks are the old ones. -/
def MadeVR (w0 w : World) (vs : List Vol) (e : Ending) (w' : World) : Prop := ∃ v bvs, e = .returned v ∧ VRow w' w.heap.size v vs bvs ∧
  (∀ (m : Nat) (x : Vol) (b : Value), vs[m]? = some x → bvs[m]? = some b → ∃ A c, b = .slice A x.blocks.length c ∧ x.blocks.length ≤ c ∧ kInt.C w0 A x.blocks.length x.blocks) ∧ Bel w w'
theorem vrow_of_R {w w0 : World} {base : Nat} {ok : Nat → Prop} {v : Value} {vs : List Vol} (h : (Kd.fixed kVol w0).R 43 w base ok v vs) : ∃ bvs, VRow w base v vs bvs ∧
    ∀ (m : Nat) (x : Vol) (b : Value), vs[m]? = some x → bvs[m]? = some b → ∃ A c, b = .slice A x.blocks.length c ∧ x.blocks.length ≤ c ∧ kInt.C w0 A x.blocks.length x.blocks := by
  obtain ⟨_, inner, ho, hr⟩ := h
  have hr' : Reps (kVol.K w0) 2 vs inner := hr
  clear hr
  have key : ∀ (vs : List Vol) (inner : List Value), Reps (kVol.K w0) 2 vs inner → ∃ bvs : List Value, bvs.length = vs.length ∧ inner = (vs.zip bvs).flatMap encV ∧ ∀ (m : Nat) (x : Vol) (b : Value), vs[m]? = some x → bvs[m]? = some b → ∃ A c, b = .slice A x.blocks.length c ∧ x.blocks.length ≤ c ∧ kInt.C w0 A x.blocks.length x.blocks := by
    intro vs
    induction vs with
    | nil => intro inner h; exact ⟨[], rfl, List.length_eq_zero_iff.1 h.1, fun m x b hx _ => by simp at hx⟩
    | cons x xs ih =>
      intro inner h
      have h0 := h.2 0 x rfl
      obtain ⟨A, c, e, hc, hC⟩ := kVol_open h0
      rw [Nat.zero_mul, List.drop_zero] at e
      obtain ⟨bvs, hl, hin, hall⟩ := ih (inner.drop 2) ⟨by rw [List.length_drop, h.1, List.length_cons, Nat.add_mul]; omega, fun j p hp => by
        have := h.2 (j + 1) p (by simpa using hp)
        rw [List.drop_drop, show 2 + j * 2 = (j + 1) * 2 by omega]
        exact this⟩
      refine ⟨.slice A x.blocks.length c :: bvs, by simp [hl], ?_, ?_⟩
      · rw [List.zip_cons_cons, List.flatMap_cons, ← hin]
        conv => lhs; rw [← List.take_append_drop 2 inner, e]
        rfl
      · intro m y b hy hb
        cases m with
        | zero => simp at hy hb; subst hy; subst hb; exact ⟨A, c, rfl, hc, hC⟩
        | succ m => exact hall m y b (by simpa using hy) (by simpa using hb)
  obtain ⟨bvs, hl, rfl, hall⟩ := key vs inner hr'
  exact ⟨bvs, ⟨hl, ho⟩, hall⟩
theorem R_emptyV (w w0 : World) (base : Nat) (hb : base ≤ w.heap.size) : (Kd.fixed kVol w0).R 43 (w.alloc (.cells #[] 43)) base (fun _ => True) (.slice (some ⟨w.heap.size, 0, none⟩) 0 0) [] := ⟨fun _ _ => trivial, [], own_empty w base _ _ hb, Reps.none _ _⟩
set_option maxHeartbeats 1000000 in
theorem cloneV_c {w0 w : World} {A : Option Addr} {c : Nat} {vs : List Vol} (hC : kVol.C w0 A vs.length vs) (hbw : Bel w0 w) (hl : vs.length ≤ 1048576) :
    Calls Try.prog 149 #[.slice A vs.length c] w (MadeVR w0 w vs) := by
  have H := Lib.hid hC
  have HB := Lib.hid hbw
  clear hC hbw
  have hn := @Lib.run_eql_slice_nil Try.prog
  cases A with
  | none =>
    have h0 : vs = [] := by
      cases vs with
      | nil => rfl
      | cons a s => obtain ⟨ad, e, _⟩ := H.out.2.2 (by simp); cases e
    subst h0
    go_enter Try.func149, Try.ntmps149
    go_wp2
    go_ret
    exact ⟨_, [], rfl, ⟨rfl, World.ownsRow_nil _ _ _ _⟩, fun m x b hx _ => by simp at hx, Below.refl _ _⟩
  | some ad =>
    go_enter Try.func149, Try.ntmps149
    go_wp2_with (at_builtin; refine Kd.R_append_rows (Kd.fixed kVol w0) (w0 := w) (Rr := kVol.K w0) w.heap.size rfl (.tmp 5) (.tmp 6) 28 43 (.agg #[.string ⟨#[]⟩, .slice none 0 0]) 40 rfl Try.underlying28 info_vol rfl (show 0 < kVol.sz by decide) (by decide) _ [] vs _ _ _ (fun _ => True) (fun _ => False) rfl rfl (R_emptyV w w0 w.heap.size (Nat.le_refl _)) ?a1 (fun _ _ h => h) (fun _ h => h.elim) (fun _ _ => trivial) ?a2 ?a3 ?a4 ?_; (case a1 => exact ReadsRow.imp_ H.out (bel_alloc HB.out _) (fun _ _ h => h)); (case a2 => exact bel_alloc (Below.refl _ _) _); (case a3 => simp); (case a4 => simp; omega); intro v1 w1 ho hb hg hat)
    go_ret
    obtain ⟨bvs, h1, h2⟩ := vrow_of_R ho
    exact ⟨_, bvs, rfl, h1, h2, hb⟩
end Go.Proofs.Ytpobgjkmjlmafaa

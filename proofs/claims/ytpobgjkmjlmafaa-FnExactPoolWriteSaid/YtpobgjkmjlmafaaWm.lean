/- New pools; copies of volumes and pools. -/
import Derived.Test.YtpobgjkmjlmafaaWl
namespace Go.Proofs.Ytpobgjkmjlmafaa
open Go.RowKit Go.Proofs.YtpobgjkmjlmafaaW.PrintWords
set_option linter.unusedVariables false
set_option linter.unusedSimpArgs false

theorem Blk.nw2 (w : World) (o : Obj) (cs : Array Value) (t : TypeId) : Blk ((w.alloc o).alloc (.cells cs t)) (w.heap.size + 1) cs t := by
  have := Blk.new (w.alloc o) cs t
  rwa [show (w.alloc o).heap.size = w.heap.size + 1 by simp] at this
def newS : List Slot := List.replicate 8 Slot.z
def newP : Pool := ⟨newS, []⟩
theorem kSlot_mkM (w : World) (base : Nat) (ok : Nat → Prop) (x : Slot) : kSlot.M w base ok x [.string x.text, .int .i64 x.uses] := ⟨[.string x.text], [.int .i64 x.uses], rfl, rfl, rfl⟩
theorem implStoreNew_c (w : World) : Calls Try.prog 86 #[] w (MadeS w newS) := by
  go_enter Try.func86, Try.ntmps86
  go_wp2_with ((with_reducible refine gate_dst (N := 1) rfl ?_); refine Kd.R_make (w0 := w) kSlot _ 100 rfl (N := 1) rfl 27 _ _ rfl 8 rfl rfl Try.underlying27 (.agg #[.string ⟨#[]⟩, .int .i64 0]) 24 info_slot rfl (by decide) (by omega) Slot.z (ok := fun _ => True) (okp := fun _ => True) (kSlot_mkM _ _ _ Slot.z) (fun _ hk => hk) trivial (by omega) (by omega) (Below.refl _ _) (Nat.le_refl _) ?_; intro v1 w2 ho hb hg_ hnew_; clear hg_ hnew_)
  go_ret
  exact ⟨_, rfl, ownS_of_R ho, hb⟩
theorem specStoreNew_c (w : World) : Calls Try.prog 157 #[] w (MadeS w newS) := by
  go_enter Try.func157, Try.ntmps157
  go_wp2_with ((with_reducible refine gate_dst (N := 1) rfl ?_); refine Kd.R_make (w0 := w) kSlot _ 100 rfl (N := 1) rfl 27 _ _ rfl 8 rfl rfl Try.underlying27 (.agg #[.string ⟨#[]⟩, .int .i64 0]) 24 info_slot rfl (by decide) (by omega) Slot.z (ok := fun _ => True) (okp := fun _ => True) (kSlot_mkM _ _ _ Slot.z) (fun _ hk => hk) trivial (by omega) (by omega) (Below.refl _ _) (Nat.le_refl _) ?_; intro v1 w2 ho hb hg_ hnew_; clear hg_ hnew_)
  go_ret
  exact ⟨_, rfl, ownS_of_R ho, hb⟩
/-- What a maker of pools leaves. -/
def MadeP (w : World) (p : Pool) (e : Ending) (w' : World) : Prop := ∃ v0 v1 bvs, e = .returned (.agg #[v0, v1]) ∧ OwnP w' w.heap.size v0 v1 p bvs ∧ Bel w w'
set_option maxHeartbeats 1000000 in
theorem implPoolNew_c (w : World) : Calls Try.prog 36 #[] w (MadeP w newP) := by
  go_enter Try.func36, Try.ntmps36
  go_wp2_with fail
  refine (implStoreNew_c _).mono ?_
  rintro e w1 ⟨v0, rfl, ho, hb⟩
  obtain ⟨A, c, rfl, hc, hC⟩ := ho.reads
  have hB := (Blk.new w #[.slice none 0 0, .slice none 0 0] 30).bel hb
  have q0 := hB.cell 0
  have q1 := hB.cell 1
  have f0 := hB.free 0
  have f1 := hB.free 1
  have hz := hB.lt
  simp at q0 q1
  go_wp2
  have hB1 := hB.set 0 (.slice A newS.length c) (cs' := #[.slice A newS.length c, .slice none 0 0]) rfl
  have hB2 := hB1.set 1 (.slice none 0 0) (cs' := #[.slice A newS.length c, .slice none 0 0]) rfl
  refine bodyPost_ret (results_cell_row rfl _ _ w.heap.size 30 #[.slice A newS.length c, .slice none 0 0] (0, 0) _ rfl hB2 Try.underlying30 rfl (by kernel_rfl)) rfl ?_
  have hos : OwnS w1 w.heap.size (.slice A newS.length c) newS := own_lower ho (by simp)
  refine ⟨_, _, [], rfl, ⟨(hos.far hB (by decide) _ _).far hB1 (by decide) _ _, OwnV.nil _ _⟩, bel_set (bel_set ((bel_alloc (Below.refl _ _) _).tr hb) (Nat.le_refl _) _ _) (Nat.le_refl _) _ _⟩
theorem OwnV.empty (w : World) (base : Nat) (hb : base ≤ w.heap.size) : OwnV (w.alloc (.cells #[] 43)) base (.slice (some ⟨w.heap.size, 0, none⟩) 0 0) [] [] :=
  ⟨⟨rfl, own_empty w base _ _ hb⟩, fun m x b hx _ => by simp at hx, fun i j b b' k _ hb => by simp at hb⟩
set_option maxHeartbeats 1000000 in
theorem specPoolNew_c (w : World) : Calls Try.prog 151 #[] w (MadeP w newP) := by
  go_enter Try.func151, Try.ntmps151
  go_wp2_with fail
  refine (specStoreNew_c _).mono ?_
  rintro e w1 ⟨v0, rfl, ho, hb⟩
  obtain ⟨A, c, rfl, hc, hC⟩ := ho.reads
  have hB0 := (Blk.new w #[.slice none 0 0, .slice none 0 0] 30).bel hb
  have q0 := hB0.cell 0
  have q1 := hB0.cell 1
  have f0 := hB0.free 0
  have f1 := hB0.free 1
  have hz := hB0.lt
  simp at q0 q1
  go_wp2
  have hB1 := hB0.set 0 (.slice A newS.length c) (cs' := #[.slice A newS.length c, .slice none 0 0]) rfl
  have hB2 := hB1.set 1 (.slice (some ⟨w1.heap.size, 0, none⟩) 0 0) (cs' := #[.slice A newS.length c, .slice (some ⟨w1.heap.size, 0, none⟩) 0 0]) rfl
  have hos : OwnS w1 w.heap.size (.slice A newS.length c) newS := own_lower ho (by simp)
  have hos2 := (hos.far hB0 (by decide) 0 (.slice A newS.length c)).far hB1 (by decide) 1 (.slice (some ⟨w1.heap.size, 0, none⟩) 0 0)
  have hb2 := bel_set (bel_set ((bel_alloc (Below.refl _ _) _).tr hb) (Nat.le_refl _) 0 (.slice A newS.length c)) (Nat.le_refl _) 1 (.slice (some ⟨w1.heap.size, 0, none⟩) 0 0)
  have hz2 : w1.heap.size = ((w1.setCell ⟨w.heap.size, 0, none⟩ (.slice A newS.length c)).setCell ⟨w.heap.size, 1, none⟩ (.slice (some ⟨w1.heap.size, 0, none⟩) 0 0)).heap.size := by simp
  have hov : OwnV (World.alloc ((w1.setCell ⟨w.heap.size, 0, none⟩ (.slice A newS.length c)).setCell ⟨w.heap.size, 1, none⟩ (.slice (some ⟨w1.heap.size, 0, none⟩) 0 0)) (.cells #[] 43)) w.heap.size (.slice (some ⟨w1.heap.size, 0, none⟩) 0 0) [] [] := by
    have := OwnV.empty ((w1.setCell ⟨w.heap.size, 0, none⟩ (.slice A newS.length c)).setCell ⟨w.heap.size, 1, none⟩ (.slice (some ⟨w1.heap.size, 0, none⟩) 0 0)) w.heap.size (by rw [← hz2]; omega)
    rwa [← hz2] at this
  refine bodyPost_ret (results_cell_row rfl _ _ w.heap.size 30 #[.slice A newS.length c, .slice (some ⟨w1.heap.size, 0, none⟩) 0 0] (0, 0) _ rfl (hB2.alloc _) Try.underlying30 rfl (by kernel_rfl)) rfl ?_
  exact ⟨_, _, [], rfl, ⟨OwnS.bel hos2 (bel_alloc (Below.refl _ _) _), hov⟩, bel_alloc hb2 _⟩
end Go.Proofs.Ytpobgjkmjlmafaa

/- What a change of a pool returns. -/
import Derived.Test.YtpobgjkmjlmafaaWt
import Derived.Test.YtpobgjkmjlmafaaWg
namespace Go.Proofs.Ytpobgjkmjlmafaa
open Go.RowKit Go.Proofs.YtpobgjkmjlmafaaW.PrintWords Go.Proofs.YtpobgjkmjlmafaaW.PrintLast
set_option linter.unusedVariables false
set_option linter.unusedSimpArgs false

/-- A pool of the callee's own, and a bool. -/
def MadePB (w : World) (q : Pool) (ok : Bool) (e : Ending) (w' : World) : Prop := ∃ v0 v1 bvs, e = .returned (.tuple #[.agg #[v0, v1], .bool ok]) ∧ OwnP w' w.heap.size v0 v1 q bvs ∧ Bel w w'
def noP : Pool := ⟨[], []⟩
theorem OwnP.none (w : World) (base : Nat) : OwnP w base (.slice none 0 0) (.slice none 0 0) noP [] := ⟨World.ownsRow_nil _ _ _ _, OwnV.nil _ _⟩
/-- What a closure handed to 'changed' does. -/
def Changes (r : Option Pool) (b base : Nat) (w : World) (e : Ending) (w' : World) : Prop := e = .returned (.bool r.isSome) ∧ (∃ q, PV w' b base q ∧ ∀ q', r = some q' → q = q') ∧ Below base w w'
/-- What 'changed' returns. -/
def chP (p : Pool) (r : Option Pool) : Pool := if poolOk p then r.getD p else noP
def chB (p : Pool) (r : Option Pool) : Bool := poolOk p && r.isSome
theorem calls_false {P : Program} {f : FuncId} {args : Array Value} {w : World} {R : Ending → World → Prop} {b : Bool} (h : Calls P f args w R) : Calls P f args w R := h

set_option maxHeartbeats 4000000 in
set_option maxRecDepth 10000 in
theorem changed_c {w : World} {A0 A1 : Option Addr} {c0 c1 : Nat} {p : Pool} (h : PoolIn w A0 A1 c0 c1 p) (hs : SmallP p) (F : FuncId) (caps : Array Value) (r : Option Pool)
    (hen : ∀ (args : Array Value) (W : World), (callFunc F args).run Try.prog W = .ok (.enter F args) W)
    (hch : poolOk p = true → ∀ (W : World) (b base : Nat), Bel w W → w.heap.size ≤ base → base ≤ W.heap.size → PV W b base p → Calls Try.prog F (#[.pointer (some ⟨b, 0, none⟩)] ++ caps) W (Changes r b base W)) :
    Calls Try.prog 67 #[.agg #[.slice A0 p.slots.length c0, .slice A1 p.vols.length c1], .func (.func F) #[] caps] w (MadePB w (chP p r) (chB p r)) := by
  have HS := Lib.hid hs
  have HP := Lib.hid h
  have HC := Lib.hid hch
  clear h hs hch
  go_enter Try.func67, Try.ntmps67
  go_wp2_with fail
  have hB : Blk ((w.alloc (.cells #[.slice A0 p.slots.length c0, .slice A1 p.vols.length c1] 30)).alloc (.cells #[.slice none 0 0, .slice none 0 0] 30)) w.heap.size #[.slice A0 p.slots.length c0, .slice A1 p.vols.length c1] 30 := (Blk.new _ _ _).alloc _
  have hR : Blk ((w.alloc (.cells #[.slice A0 p.slots.length c0, .slice A1 p.vols.length c1] 30)).alloc (.cells #[.slice none 0 0, .slice none 0 0] 30)) (w.heap.size + 1) #[.slice none 0 0, .slice none 0 0] 30 := Blk.nw2 _ _ _ _
  have hW : Bel w ((w.alloc (.cells #[.slice A0 p.slots.length c0, .slice A1 p.vols.length c1] 30)).alloc (.cells #[.slice none 0 0, .slice none 0 0] 30)) := bel_alloc (bel_alloc (Below.refl _ _) _) _
  have hl2 : w.heap.size + 2 ≤ ((w.alloc (.cells #[.slice A0 p.slots.length c0, .slice A1 p.vols.length c1] 30)).alloc (.cells #[.slice none 0 0, .slice none 0 0] 30)).heap.size := by simp
  generalize ((w.alloc (.cells #[.slice A0 p.slots.length c0, .slice A1 p.vols.length c1] 30)).alloc (.cells #[.slice none 0 0, .slice none 0 0] 30)) = W0 at hB hR hW hl2 ⊢
  have HB := Lib.hid hB
  have HR := Lib.hid hR
  have HW := Lib.hid hW
  clear hB hR hW
  refine (implPoolOk_in (HP.out.bel HW.out) HS.out).mono ?_
  rintro e w1 ⟨rfl, hb1⟩
  have HB1 := Lib.hid hb1
  have q0 := (HB.out.bel HB1.out).cell 0
  have q1 := (HB.out.bel HB1.out).cell 1
  have r0 := (HR.out.bel HB1.out).cell 0
  have r1 := (HR.out.bel HB1.out).cell 1
  have f0 := (HR.out.bel HB1.out).free 0
  have f1 := (HR.out.bel HB1.out).free 1
  simp at q0 q1 r0 r1
  clear hb1
  cases hok : poolOk p with
  | false =>
    have E1 := Lib.hid (show chP p r = noP by unfold chP; rw [hok]; rfl)
    have E2 := Lib.hid (show chB p r = false by unfold chB; rw [hok]; rfl)
    clear hok
    go_wp2
    have hR3 := (HR.out.bel HB1.out).set 0 (.slice none 0 0) (cs' := #[.slice none 0 0, .slice none 0 0]) rfl
    have hR4 := hR3.set 1 (.slice none 0 0) (cs' := #[.slice none 0 0, .slice none 0 0]) rfl
    have hb4 := bel_set (bel_set (HW.out.tr HB1.out) (Nat.le_succ _) 0 (.slice none 0 0)) (Nat.le_succ _) 1 (.slice none 0 0)
    refine bodyPost_ret (results_ct rfl _ _ (w.heap.size + 1) 30 #[.slice none 0 0, .slice none 0 0] (0, 0) _ rfl hR4 Try.underlying30 rfl (by kernel_rfl)) rfl ?_
    rw [E1.out, E2.out]
    exact ⟨_, _, _, rfl, OwnP.none _ _, hb4⟩
  | true =>
    have E1 := Lib.hid (show chP p r = r.getD p by unfold chP; rw [if_pos hok])
    have E2 := Lib.hid (show chB p r = r.isSome by unfold chB; rw [hok]; rfl)
    have HK := Lib.hid (HC.out hok)
    clear hok
    go_wp2_with fail
    refine (poolClone_c (HP.out.bel (HW.out.tr HB1.out)) HS.out).mono ?_
    rintro e w2 ⟨v0, v1, bvs, rfl, ho, hb2⟩
    have HO := Lib.hid ho
    have HB2 := Lib.hid hb2
    clear q0 q1 r0 r1 f0 f1 ho hb2
    obtain ⟨A2, A3, c2, c3, rfl, rfl, hpi⟩ := HO.out.reads
    clear hpi
    go_wp2_with fail
    have hpv : PV (w2.alloc (.cells #[.slice A2 p.slots.length c2, .slice A3 p.vols.length c3] 30)) w2.heap.size w1.heap.size p := ⟨⟨_, _, _, Blk.new _ _ _, HO.out.bel (bel_alloc (Below.refl _ _) _)⟩, HB2.out.size⟩
    have hb01 : Bel W0 w2 := HB1.out.tr HB2.out
    refine (HK.out _ w2.heap.size w1.heap.size (HW.out.tr (bel_alloc hb01 _)) (HW.out.tr HB1.out).size (by have := HB2.out.size; simp; omega) hpv).mono ?_
    rintro e w3 ⟨rfl, ⟨q, hq, hqr⟩, hb3⟩
    have hb13 : Below w1.heap.size w1 w3 := (bel_alloc HB2.out _).trans hb3
    have hb03 : Bel W0 w3 := HB1.out.tr hb13
    have HB3 := Lib.hid hb03
    have HB13 := Lib.hid hb13
    have HQ := Lib.hid hq
    have HQR := Lib.hid hqr
    clear hpv hb01 hb13 hb03 hb3 hq hqr
    have q0 := (HB.out.bel HB3.out).cell 0
    have q1 := (HB.out.bel HB3.out).cell 1
    have r0 := (HR.out.bel HB3.out).cell 0
    have r1 := (HR.out.bel HB3.out).cell 1
    have f0 := (HR.out.bel HB3.out).free 0
    have f1 := (HR.out.bel HB3.out).free 1
    simp at q0 q1 r0 r1
    cases hr : r with
    | none =>
      have E3 := Lib.hid (show chP p r = p by rw [E1.out, hr]; rfl)
      have E4 := Lib.hid (show chB p r = false by rw [E2.out, hr]; rfl)
      clear hr
      go_wp2_with fail
      refine (poolClone_c (HP.out.bel (HW.out.tr HB3.out)) HS.out).mono ?_
      rintro e w4 ⟨v0, v1, bvs, rfl, ho, hb4⟩
      have HO4 := Lib.hid ho
      have HB4 := Lib.hid hb4
      obtain ⟨A2, A3, c2, c3, rfl, rfl, hpi⟩ := ho.reads
      clear q0 q1 r0 r1 f0 f1 ho hb4 hpi
      have r0 := (HR.out.bel (HB3.out.tr HB4.out)).cell 0
      have r1 := (HR.out.bel (HB3.out.tr HB4.out)).cell 1
      have f0 := (HR.out.bel (HB3.out.tr HB4.out)).free 0
      have f1 := (HR.out.bel (HB3.out.tr HB4.out)).free 1
      simp at r0 r1
      go_wp2
      have hR2 := HR.out.bel (HB3.out.tr HB4.out)
      have hR3 := hR2.set 0 (.slice A2 p.slots.length c2) (cs' := #[.slice A2 p.slots.length c2, .slice none 0 0]) rfl
      have hR4 := hR3.set 1 (.slice A3 p.vols.length c3) (cs' := #[.slice A2 p.slots.length c2, .slice A3 p.vols.length c3]) rfl
      have hb5 := bel_set (bel_set (HW.out.tr (HB3.out.tr HB4.out)) (Nat.le_succ _) 0 (.slice A2 p.slots.length c2)) (Nat.le_succ _) 1 (.slice A3 p.vols.length c3)
      have hop4 := (HO4.out.far hR2 (by decide) (by decide) (by decide) 0 (.slice A2 p.slots.length c2)).far hR3 (by decide) (by decide) (by decide) 1 (.slice A3 p.vols.length c3)
      refine bodyPost_ret (results_ct rfl _ _ (w.heap.size + 1) 30 #[.slice A2 p.slots.length c2, .slice A3 p.vols.length c3] (0, 0) _ rfl hR4 Try.underlying30 rfl (by kernel_rfl)) rfl ?_
      rw [E3.out, E4.out]
      exact ⟨_, _, _, rfl, hop4.lower (by have := (HW.out.tr HB3.out).size; omega), hb5⟩
    | some q' =>
      have E3 := Lib.hid (show chP p r = q by rw [E1.out, HQR.out q' hr, hr]; rfl)
      have E4 := Lib.hid (show chB p r = true by rw [E2.out, hr]; rfl)
      clear hr
      obtain ⟨⟨v0, v1, bvs, hq1, hq2⟩, hlo⟩ := HQ.out
      obtain ⟨A4, A5, c4, c5, rfl, rfl, hpi⟩ := hq2.reads
      have HQ1 := Lib.hid hq1
      have HQ2 := Lib.hid hq2
      have s0 := HQ1.out.cell 0
      have s1 := HQ1.out.cell 1
      simp at s0 s1
      clear hq1 hq2 hpi
      go_wp2
      have hR2 := HR.out.bel HB3.out
      have hR3 := hR2.set 0 (.slice A4 q.slots.length c4) (cs' := #[.slice A4 q.slots.length c4, .slice none 0 0]) rfl
      have hR4 := hR3.set 1 (.slice A5 q.vols.length c5) (cs' := #[.slice A4 q.slots.length c4, .slice A5 q.vols.length c5]) rfl
      have hb5 := bel_set (bel_set (HW.out.tr HB3.out) (Nat.le_succ _) 0 (.slice A4 q.slots.length c4)) (Nat.le_succ _) 1 (.slice A5 q.vols.length c5)
      have hop4 := (HQ2.out.far hR2 (by decide) (by decide) (by decide) 0 (.slice A4 q.slots.length c4)).far hR3 (by decide) (by decide) (by decide) 1 (.slice A5 q.vols.length c5)
      refine bodyPost_ret (results_ct rfl _ _ (w.heap.size + 1) 30 #[.slice A4 q.slots.length c4, .slice A5 q.vols.length c5] (0, 0) _ rfl hR4 Try.underlying30 rfl (by kernel_rfl)) rfl ?_
      rw [E3.out, E4.out]
      exact ⟨_, _, _, rfl, hop4.lower (HW.out.tr HB1.out).size, hb5⟩
end Go.Proofs.Ytpobgjkmjlmafaa

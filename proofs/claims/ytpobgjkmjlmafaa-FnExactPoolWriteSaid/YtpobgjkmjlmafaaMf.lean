/- markPool. -/
import Derived.Test.YtpobgjkmjlmafaaMe
namespace Go.Proofs.Ytpobgjkmjlmafaa
open Go.RowKit Go.Proofs.YtpobgjkmjlmafaaW.PrintWords
set_option linter.unusedVariables false
set_option linter.unusedSimpArgs false

def InP (v0 v1 : Value) (bvs : List Value) (k : Nat) : Prop := v0.ownBlock = some k ∨ InV v1 bvs k
/-- What a marker of pools leaves. -/
def MarkedP (k : Int) (w : World) (base : Nat) (v0 v1 : Value) (p : Pool) (bvs : List Value) (e : Ending) (w' : World) : Prop :=
  e = .returned (.int .i64 (nxP k p)) ∧ (∃ p', p'.slots.length = p.slots.length ∧ p'.vols.map (fun x => x.blocks.length) = p.vols.map (fun x => x.blocks.length) ∧ OwnP w' base v0 v1 p' bvs ∧ MkP k p') ∧ Only w w' (InP v0 v1 bvs)
theorem own_move2 {w w1 : World} {base : Nat} {e : TypeId} {sz n : Nat} {v : Value} {xs : List Value} (h : w.ownsRow base e sz v n xs) (hm : ∀ k, v.ownBlock = some k → w1.heap[k]? = w.heap[k]?) : w1.ownsRow base e sz v n xs := by
  obtain ⟨h1, h2⟩ := h
  refine ⟨h1, ?_⟩
  rcases h2 with h2 | ⟨g, cap, cur, rfl, hg, hh, r⟩
  · exact .inl h2
  · exact .inr ⟨g, cap, cur, rfl, hg, (hm g (by simp [Value.ownBlock])).trans hh, r⟩
set_option maxHeartbeats 2000000 in
theorem markPool_c {w : World} {base : Nat} {v0 v1 : Value} {p : Pool} {bvs : List Value} {k : Int} (h : OwnP w base v0 v1 p bvs) (hs : SmallP p) (h0 : 0 < k) (h1 : k ≤ 1099511627776) :
    Calls Try.prog 29 #[.agg #[v0, v1], .int .i64 k] w (MarkedP k w base v0 v1 p bvs) := by
  obtain ⟨A0, A1, c0, c1, rfl, rfl, hpi⟩ := h.reads
  have H := Lib.hid h
  have HS := Lib.hid hs
  have hl := hs.slots.len
  clear h hs hpi
  go_enter Try.func29, Try.ntmps29
  go_wp2_with fail
  have hw0 : Bel w (w.alloc (.cells #[.slice A0 p.slots.length c0, .slice A1 p.vols.length c1] 30)) := bel_alloc (Below.refl _ _) _
  refine (markSlotS_c (H.out.s.bel hw0) hl h0 (by omega)).mono ?_
  rintro e w1 ⟨rfl, ⟨s', hl', ho, hm⟩, hg⟩
  have hB : Blk w1 w.heap.size #[.slice A0 p.slots.length c0, .slice A1 p.vols.length c1] 30 := by
    have hb := Blk.new w #[.slice A0 p.slots.length c0, .slice A1 p.vols.length c1] 30
    refine (hg.block w.heap.size (Blk.lt hb) (fun e => ?_)).trans hb
    obtain ⟨cs, hc⟩ := own_type (H.out.s.bel hw0) e.symm
    rw [show (w.alloc (.cells #[.slice A0 p.slots.length c0, .slice A1 p.vols.length c1] 30)).heap[w.heap.size]? = _ from hb] at hc
    injection hc with hc
    injection hc with _ ht
    exact absurd ht (by decide)
  have hov := (H.out.v.bel hw0).otherS (H.out.s.bel hw0) hg
  have q1 := hB.cell 1
  simp at q1
  have H1 := Lib.hid (And.intro (And.intro hl' ho) (And.intro hm (And.intro hov (Only.trans (Only.of_bel (S := InP (.slice A0 p.slots.length c0) (.slice A1 p.vols.length c1) bvs) hw0) (Only.of_grown hg (fun k hk => .inl hk))))))
  clear hl' ho hm hov hg hB hw0
  go_wp2_with fail
  refine (markVolS_c H1.out.2.2.1 HS.out.vols (by omega) (by omega)).mono ?_
  rintro e w2 ⟨rfl, ⟨vs', hl2, ho2, hm2⟩, hg2⟩
  have H2 := Lib.hid (And.intro (And.intro hl2 ho2) (And.intro hm2 hg2))
  clear hl2 ho2 hm2 hg2
  go_wp2
  go_ret
  have hos2 : OwnS w2 base (.slice A0 p.slots.length c0) s' := own_move2 H1.out.1.2 fun q hq => by
    obtain ⟨cs, hcs⟩ := own_type H1.out.1.2 hq
    refine H2.out.2.2.block q (Array.getElem?_eq_some_iff.1 hcs).1 fun hin => ?_
    rcases hin with h5 | ⟨b, hb, h5⟩
    · obtain ⟨c2, hc2⟩ := own_type H1.out.2.2.1.row.row h5
      rw [hcs] at hc2
      injection hc2 with hc2
      injection hc2 with _ ht
      exact absurd ht (by decide)
    · obtain ⟨m, hm⟩ := List.getElem?_of_mem hb
      obtain ⟨x, hx⟩ := getQ (show m < p.vols.length by rw [← H1.out.2.2.1.row.len]; exact ltQ hm)
      obtain ⟨c2, hc2⟩ := own_type (H1.out.2.2.1.inner m x b hx hm) h5
      rw [hcs] at hc2
      injection hc2 with hc2
      injection hc2 with _ ht
      exact absurd ht (by decide)
  refine ⟨rfl, ⟨⟨s', vs'⟩, H1.out.1.1, H2.out.1.1, ⟨?_, ?_⟩, ⟨H1.out.2.1, ?_⟩⟩, H1.out.2.2.2.trans (H2.out.2.2.mono fun q hq => .inr hq)⟩
  · have e : s'.length = p.slots.length := H1.out.1.1
    exact hos2
  · exact H2.out.1.2
  · show MkV (k + 2 * (s'.length : Int)) vs'
    rw [H1.out.1.1]; exact H2.out.2.1
end Go.Proofs.Ytpobgjkmjlmafaa

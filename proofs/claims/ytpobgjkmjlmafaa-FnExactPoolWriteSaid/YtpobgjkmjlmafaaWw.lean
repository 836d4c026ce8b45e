/- PoolGone, as the program does it. -/
import Derived.Test.YtpobgjkmjlmafaaWv
namespace Go.Proofs.Ytpobgjkmjlmafaa
open Go.RowKit Go.Proofs.YtpobgjkmjlmafaaW.PrintWords Go.Proofs.YtpobgjkmjlmafaaW.PrintLast
set_option linter.unusedVariables false
set_option linter.unusedSimpArgs false

theorem Blk.at (w : World) (o : Obj) (cs : Array Value) (t : TypeId) (h : o = .cells cs t (0, 0)) : Blk (w.alloc o) w.heap.size cs t := h ▸ Blk.new w cs t
theorem enters {f : FuncId} {fn : Func} (hf : Try.prog.funcs[f]? = some fn) (hname : (fn.name == "runtime.NumGoroutine") = false) (hb : fn.body.isSome = true) (args : Array Value) (w : World) : (callFunc f args).run Try.prog w = .ok (.enter f args) w := enters_ hf hname hb args w
set_option maxHeartbeats 4000000 in
set_option maxRecDepth 10000 in
theorem implPoolGone_c {w : World} {A0 A1 : Option Addr} {c0 c1 : Nat} {p : Pool} {name : ByteArray} (h : PoolIn w A0 A1 c0 c1 p) (hs : SmallP p) :
    Calls Try.prog 27 #[.agg #[.slice A0 p.slots.length c0, .slice A1 p.vols.length c1], .string name] w (MadePB w (chP p (goneF p name)) (chB p (goneF p name))) := by
  have HS := Lib.hid hs
  have HP := Lib.hid h
  clear h hs
  go_enter Try.func27, Try.ntmps27
  go_wp2_with fail
  have hB : Blk (((w.alloc (.cells #[.slice A0 p.slots.length c0, .slice A1 p.vols.length c1] 30)).alloc (.cells #[.string name] 9)).alloc (.cells #[.slice none 0 0, .slice none 0 0] 30)) w.heap.size #[.slice A0 p.slots.length c0, .slice A1 p.vols.length c1] 30 := ((Blk.new _ _ _).alloc _).alloc _
  have hN : Blk (((w.alloc (.cells #[.slice A0 p.slots.length c0, .slice A1 p.vols.length c1] 30)).alloc (.cells #[.string name] 9)).alloc (.cells #[.slice none 0 0, .slice none 0 0] 30)) (w.heap.size + 1) #[.string name] 9 := (Blk.nw2 _ _ _ _).alloc _
  have hR : Blk (((w.alloc (.cells #[.slice A0 p.slots.length c0, .slice A1 p.vols.length c1] 30)).alloc (.cells #[.string name] 9)).alloc (.cells #[.slice none 0 0, .slice none 0 0] 30)) (w.heap.size + 1 + 1) #[.slice none 0 0, .slice none 0 0] 30 := by
    have := Blk.new ((w.alloc (.cells #[.slice A0 p.slots.length c0, .slice A1 p.vols.length c1] 30)).alloc (.cells #[.string name] 9)) #[.slice none 0 0, .slice none 0 0] 30
    simpa using this
  have hW : Bel w (((w.alloc (.cells #[.slice A0 p.slots.length c0, .slice A1 p.vols.length c1] 30)).alloc (.cells #[.string name] 9)).alloc (.cells #[.slice none 0 0, .slice none 0 0] 30)) := bel_alloc (bel_alloc (bel_alloc (Below.refl _ _) _) _) _
  generalize (((w.alloc (.cells #[.slice A0 p.slots.length c0, .slice A1 p.vols.length c1] 30)).alloc (.cells #[.string name] 9)).alloc (.cells #[.slice none 0 0, .slice none 0 0] 30)) = W0 at hB hN hR hW ⊢
  have HB := Lib.hid hB
  have HN := Lib.hid hN
  have HR := Lib.hid hR
  have HW := Lib.hid hW
  clear hB hN hR hW
  refine (changed_c (HP.out.bel HW.out) HS.out 68 #[.pointer (some ⟨w.heap.size, 0, none⟩), .pointer (some ⟨w.heap.size + 1, 0, none⟩)] (goneF p name) (enters Try.func68 (by kernel_rfl) (by kernel_rfl))
    (fun hok W b base h1 h2 h3 h4 => goneClo_c (HP.out.bel HW.out) HS.out HB.out HN.out hok W b base h1 h2 h3 h4)).mono ?_
  rintro e w1 ⟨v0, v1, bvs, rfl, ho, hb1⟩
  obtain ⟨q, hq⟩ : ∃ q, chP p (goneF p name) = q := ⟨_, rfl⟩
  obtain ⟨ok, hok⟩ : ∃ ok, chB p (goneF p name) = ok := ⟨_, rfl⟩
  rw [hq] at ho
  rw [hok]
  have HQ := Lib.hid hq
  have HK := Lib.hid hok
  clear hq hok
  have HO := Lib.hid ho
  have HB1 := Lib.hid hb1
  have r0 := (HR.out.bel HB1.out).cell 0
  have r1 := (HR.out.bel HB1.out).cell 1
  have f0 := (HR.out.bel HB1.out).free 0
  have f1 := (HR.out.bel HB1.out).free 1
  simp at r0 r1
  clear ho hb1
  obtain ⟨A2, A3, c2, c3, rfl, rfl, hpi⟩ := HO.out.reads
  clear hpi
  go_wp2
  have hR2 := HR.out.bel HB1.out
  have hR3 := hR2.set 0 (.slice A2 q.slots.length c2) (cs' := #[.slice A2 q.slots.length c2, .slice none 0 0]) rfl
  have hR4 := hR3.set 1 (.slice A3 q.vols.length c3) (cs' := #[.slice A2 q.slots.length c2, .slice A3 q.vols.length c3]) rfl
  have hb5 := bel_set (bel_set (HW.out.tr HB1.out) (show w.heap.size ≤ w.heap.size + 1 + 1 by omega) 0 (.slice A2 q.slots.length c2)) (show w.heap.size ≤ w.heap.size + 1 + 1 by omega) 1 (.slice A3 q.vols.length c3)
  have hop4 := (HO.out.far hR2 (by decide) (by decide) (by decide) 0 (.slice A2 q.slots.length c2)).far hR3 (by decide) (by decide) (by decide) 1 (.slice A3 q.vols.length c3)
  refine bodyPost_ret (results_ct rfl _ _ (w.heap.size + 1 + 1) 30 #[.slice A2 q.slots.length c2, .slice A3 q.vols.length c3] (0, 0) _ rfl hR4 Try.underlying30 rfl (by kernel_rfl)) rfl ?_
  rw [HQ.out, HK.out]
  exact ⟨_, _, _, rfl, hop4.lower HW.out.size, hb5⟩
end Go.Proofs.Ytpobgjkmjlmafaa

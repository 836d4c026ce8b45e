/- Contracts of the program's and the reference's functions, and the plain laws behind them: part 5 of 5. -/
import Derived.Test.YtpobgjkmjlmafaaY4
import Derived.Test.YtpobgjkmjlmafaaRows
import Derived.JoinedOf
import Derived.KernelRfl
import Derived.Deep.Slices
import Derived.Deep.Fields
import Derived.ChangeSame
import Derived.ChangeArms
import Derived.Lib.SmallJoins
import Derived.WideShapes
import Derived.OpenShut
/- PoolWrite, as the program does it and as the reference does it. -/

namespace Go.Proofs.Ytpobgjkmjlmafaa
open Go.RowKit Go.Proofs.YtpobgjkmjlmafaaW.PrintWords Go.Proofs.YtpobgjkmjlmafaaW.PrintLast
set_option linter.unusedVariables false
set_option linter.unusedSimpArgs false

set_option maxHeartbeats 4000000 in
set_option maxRecDepth 10000 in
theorem implPoolWrite_c {w : World} {A0 A1 : Option Addr} {c0 c1 : Nat} {p : Pool} {name : ByteArray} {blk : Int} {text : ByteArray} (h : PoolIn w A0 A1 c0 c1 p) (hs : SmallP p) (hnm : text.size ≤ 1048576) :
    Calls Try.prog 43 #[.agg #[.slice A0 p.slots.length c0, .slice A1 p.vols.length c1], .string name, .int .i64 blk, .string text] w (MadePB w (chP p (writeF p name blk text)) (chB p (writeF p name blk text))) := by
  have HS := Lib.hid hs
  have HP := Lib.hid h
  clear h hs
  go_enter Try.func43, Try.ntmps43
  go_wp2_with fail
  have hB : Blk (((((w.alloc (.cells #[.slice A0 p.slots.length c0, .slice A1 p.vols.length c1] 30)).alloc (.cells #[.string name] 9)).alloc (.cells #[.int .i64 blk] 3)).alloc (.cells #[.string text] 9)).alloc (.cells #[.slice none 0 0, .slice none 0 0] 30)) (w.heap.size) #[.slice A0 p.slots.length c0, .slice A1 p.vols.length c1] 30 := (((((Blk.new _ _ _)).alloc _).alloc _).alloc _).alloc _
  have hN0 : Blk (((((w.alloc (.cells #[.slice A0 p.slots.length c0, .slice A1 p.vols.length c1] 30)).alloc (.cells #[.string name] 9)).alloc (.cells #[.int .i64 blk] 3)).alloc (.cells #[.string text] 9)).alloc (.cells #[.slice none 0 0, .slice none 0 0] 30)) (w.heap.size + 1) #[.string name] 9 := ((((Blk.nw2 _ _ _ _)).alloc _).alloc _).alloc _
  have hN1 : Blk (((((w.alloc (.cells #[.slice A0 p.slots.length c0, .slice A1 p.vols.length c1] 30)).alloc (.cells #[.string name] 9)).alloc (.cells #[.int .i64 blk] 3)).alloc (.cells #[.string text] 9)).alloc (.cells #[.slice none 0 0, .slice none 0 0] 30)) (w.heap.size + 1 + 1) #[.int .i64 blk] 3 := (((Blk.nw3 _ _ _ _ _)).alloc _).alloc _
  have hN2 : Blk (((((w.alloc (.cells #[.slice A0 p.slots.length c0, .slice A1 p.vols.length c1] 30)).alloc (.cells #[.string name] 9)).alloc (.cells #[.int .i64 blk] 3)).alloc (.cells #[.string text] 9)).alloc (.cells #[.slice none 0 0, .slice none 0 0] 30)) (w.heap.size + 1 + 1 + 1) #[.string text] 9 := ((Blk.nw4 _ _ _ _ _ _)).alloc _
  have hR : Blk (((((w.alloc (.cells #[.slice A0 p.slots.length c0, .slice A1 p.vols.length c1] 30)).alloc (.cells #[.string name] 9)).alloc (.cells #[.int .i64 blk] 3)).alloc (.cells #[.string text] 9)).alloc (.cells #[.slice none 0 0, .slice none 0 0] 30)) (w.heap.size + 1 + 1 + 1 + 1) #[.slice none 0 0, .slice none 0 0] 30 := Blk.nw5 _ _ _ _ _ _ _
  have hW : Bel w (((((w.alloc (.cells #[.slice A0 p.slots.length c0, .slice A1 p.vols.length c1] 30)).alloc (.cells #[.string name] 9)).alloc (.cells #[.int .i64 blk] 3)).alloc (.cells #[.string text] 9)).alloc (.cells #[.slice none 0 0, .slice none 0 0] 30)) := bel_alloc (bel_alloc (bel_alloc (bel_alloc (bel_alloc (Below.refl _ _) _) _) _) _) _
  generalize (((((w.alloc (.cells #[.slice A0 p.slots.length c0, .slice A1 p.vols.length c1] 30)).alloc (.cells #[.string name] 9)).alloc (.cells #[.int .i64 blk] 3)).alloc (.cells #[.string text] 9)).alloc (.cells #[.slice none 0 0, .slice none 0 0] 30)) = W0 at hB hN0 hN1 hN2 hR hW ⊢
  have HB := Lib.hid hB
  have HN0 := Lib.hid hN0
  have HN1 := Lib.hid hN1
  have HN2 := Lib.hid hN2
  have HR := Lib.hid hR
  have HW := Lib.hid hW
  clear hB hN0 hN1 hN2 hR hW
  refine (changed_c (HP.out.bel HW.out) HS.out 92 #[.pointer (some ⟨w.heap.size, 0, none⟩), .pointer (some ⟨w.heap.size + 1, 0, none⟩), .pointer (some ⟨w.heap.size + 1 + 1, 0, none⟩), .pointer (some ⟨w.heap.size + 1 + 1 + 1, 0, none⟩)] (writeF p name blk text) (enters Try.func92 (by kernel_rfl) (by kernel_rfl))
    (fun hok W b base h1 h2 h3 h4 => writeClo_c (HP.out.bel HW.out) HS.out HB.out HN0.out HN1.out HN2.out hnm hok W b base h1 h2 h3 h4)).mono ?_
  rintro e w1 ⟨v0, v1, bvs, rfl, ho, hb1⟩
  obtain ⟨q, hq⟩ : ∃ q, chP p (writeF p name blk text) = q := ⟨_, rfl⟩
  obtain ⟨ok, hok⟩ : ∃ ok, chB p (writeF p name blk text) = ok := ⟨_, rfl⟩
  rw [hq] at ho
  rw [hok]
  have HQ := Lib.hid hq
  have HK := Lib.hid hok
  clear hq hok
  have HO := Lib.hid ho
  have HB1 := Lib.hid hb1
  have r0 := (HR.out.bel HB1.out).cell 0
  have r1 := (HR.out.bel HB1.out).cell 1
  have f0 := (HR.out.bel HB1.out).free 0
  have f1 := (HR.out.bel HB1.out).free 1
  simp at r0 r1
  clear ho hb1
  obtain ⟨A2, A3, c2, c3, rfl, rfl, hpi⟩ := HO.out.reads
  clear hpi
  go_wp2
  have hR2 := HR.out.bel HB1.out
  have hR3 := hR2.set 0 (.slice A2 q.slots.length c2) (cs' := #[.slice A2 q.slots.length c2, .slice none 0 0]) rfl
  have hR4 := hR3.set 1 (.slice A3 q.vols.length c3) (cs' := #[.slice A2 q.slots.length c2, .slice A3 q.vols.length c3]) rfl
  have hb5 := bel_set (bel_set (HW.out.tr HB1.out) (show w.heap.size ≤ w.heap.size + 1 + 1 + 1 + 1 by omega) 0 (.slice A2 q.slots.length c2)) (show w.heap.size ≤ w.heap.size + 1 + 1 + 1 + 1 by omega) 1 (.slice A3 q.vols.length c3)
  have hop4 := (HO.out.far hR2 (by decide) (by decide) (by decide) 0 (.slice A2 q.slots.length c2)).far hR3 (by decide) (by decide) (by decide) 1 (.slice A3 q.vols.length c3)
  refine bodyPost_ret (results_ct rfl _ _ (w.heap.size + 1 + 1 + 1 + 1) 30 #[.slice A2 q.slots.length c2, .slice A3 q.vols.length c3] (0, 0) _ rfl hR4 Try.underlying30 rfl (by kernel_rfl)) rfl ?_
  rw [HQ.out, HK.out]
  exact ⟨_, _, _, rfl, hop4.lower HW.out.size, hb5⟩
set_option maxHeartbeats 4000000 in
set_option maxRecDepth 10000 in
theorem specPoolWrite_c {w : World} {A0 A1 : Option Addr} {c0 c1 : Nat} {p : Pool} {name : ByteArray} {blk : Int} {text : ByteArray} (h : PoolIn w A0 A1 c0 c1 p) (hs : SmallP p) (hnm : text.size ≤ 1048576) :
    Calls Try.prog 42 #[.agg #[.slice A0 p.slots.length c0, .slice A1 p.vols.length c1], .string name, .int .i64 blk, .string text] w (MadePB w (chP p (writeF p name blk text)) (chB p (writeF p name blk text))) := by
  have HS := Lib.hid hs
  have HP := Lib.hid h
  clear h hs
  go_enter Try.func42, Try.ntmps42
  go_wp2_with fail
  have hB : Blk ((w.alloc (.cells #[.slice A0 p.slots.length c0, .slice A1 p.vols.length c1] 30)).alloc (.cells #[.slice none 0 0, .slice none 0 0] 30)) w.heap.size #[.slice A0 p.slots.length c0, .slice A1 p.vols.length c1] 30 := (Blk.new _ _ _).alloc _
  have hR : Blk ((w.alloc (.cells #[.slice A0 p.slots.length c0, .slice A1 p.vols.length c1] 30)).alloc (.cells #[.slice none 0 0, .slice none 0 0] 30)) (w.heap.size + 1) #[.slice none 0 0, .slice none 0 0] 30 := Blk.nw2 _ _ _ _
  have hW : Bel w ((w.alloc (.cells #[.slice A0 p.slots.length c0, .slice A1 p.vols.length c1] 30)).alloc (.cells #[.slice none 0 0, .slice none 0 0] 30)) := bel_alloc (bel_alloc (Below.refl _ _) _) _
  have hl2 : w.heap.size + 2 ≤ ((w.alloc (.cells #[.slice A0 p.slots.length c0, .slice A1 p.vols.length c1] 30)).alloc (.cells #[.slice none 0 0, .slice none 0 0] 30)).heap.size := by simp
  generalize ((w.alloc (.cells #[.slice A0 p.slots.length c0, .slice A1 p.vols.length c1] 30)).alloc (.cells #[.slice none 0 0, .slice none 0 0] 30)) = W0 at hB hR hW hl2 ⊢
  have HB := Lib.hid hB
  have HR := Lib.hid hR
  have HW := Lib.hid hW
  clear hB hR hW
  refine (specPoolOk_in (HP.out.bel HW.out) HS.out).mono ?_
  rintro e w1 ⟨rfl, hb1⟩
  have HB1 := Lib.hid hb1
  have q0 := (HB.out.bel HB1.out).cell 0
  have q1 := (HB.out.bel HB1.out).cell 1
  have r0 := (HR.out.bel HB1.out).cell 0
  have r1 := (HR.out.bel HB1.out).cell 1
  have f0 := (HR.out.bel HB1.out).free 0
  have f1 := (HR.out.bel HB1.out).free 1
  simp at q0 q1 r0 r1
  clear hb1
  cases hok : poolOk p with
  | false =>
    have E1 := Lib.hid (show chP p (writeF p name blk text) = noP by unfold chP; rw [hok]; rfl)
    have E2 := Lib.hid (show chB p (writeF p name blk text) = false by unfold chB; rw [hok]; rfl)
    clear hok
    go_wp2
    have hR3 := (HR.out.bel HB1.out).set 0 (.slice none 0 0) (cs' := #[.slice none 0 0, .slice none 0 0]) rfl
    have hR4 := hR3.set 1 (.slice none 0 0) (cs' := #[.slice none 0 0, .slice none 0 0]) rfl
    have hb4 := bel_set (bel_set (HW.out.tr HB1.out) (Nat.le_succ _) 0 (.slice none 0 0)) (Nat.le_succ _) 1 (.slice none 0 0)
    refine bodyPost_ret (results_ct rfl _ _ (w.heap.size + 1) 30 #[.slice none 0 0, .slice none 0 0] (0, 0) _ rfl hR4 Try.underlying30 rfl (by kernel_rfl)) rfl ?_
    rw [E1.out, E2.out]
    exact ⟨_, _, _, rfl, OwnP.none _ _, hb4⟩
  | true =>
    have E1 := Lib.hid (show chP p (writeF p name blk text) = (writeF p name blk text).getD p by unfold chP; rw [if_pos hok])
    have E2 := Lib.hid (show chB p (writeF p name blk text) = (writeF p name blk text).isSome by unfold chB; rw [hok]; rfl)
    have HK := Lib.hid (poolOk_iff.1 hok)
    clear hok
    go_wp2_with fail
    refine (l11Copy_c (HP.out.bel (HW.out.tr HB1.out)) HS.out).mono ?_
    rintro e w2 ⟨v0, v1, bvs, rfl, ho, hb2⟩
    have HO := Lib.hid ho
    have HB2 := Lib.hid hb2
    clear q0 q1 r0 r1 f0 f1 ho hb2
    go_wp2_with fail
    refine (l11Write_c HO.out HS.out HK.out HB2.out.size hnm).mono ?_
    rintro e w3 ⟨v2, v3, bvs3, rfl, ho3, hb3⟩
    have hb13 : Bel w1 w3 := HB2.out.trans hb3.b
    have HO3 := Lib.hid ho3
    have HB3 := Lib.hid (HB1.out.tr hb13)
    clear ho3 hb3 hb13
    obtain ⟨q, hq⟩ : ∃ q, (writeF p name blk text).getD p = q := ⟨_, rfl⟩
    obtain ⟨ok, hok⟩ : ∃ ok, (writeF p name blk text).isSome = ok := ⟨_, rfl⟩
    rw [hq] at HO3
    rw [hok]
    have HQ := Lib.hid hq
    have HK2 := Lib.hid hok
    clear hq hok
    obtain ⟨A2, A3, c2, c3, rfl, rfl, hpi⟩ := HO3.out.reads
    have r0 := (HR.out.bel HB3.out).cell 0
    have r1 := (HR.out.bel HB3.out).cell 1
    have f0 := (HR.out.bel HB3.out).free 0
    have f1 := (HR.out.bel HB3.out).free 1
    simp at r0 r1
    clear hpi
    go_wp2
    have hR2 := HR.out.bel HB3.out
    have hR3 := hR2.set 0 (.slice A2 q.slots.length c2) (cs' := #[.slice A2 q.slots.length c2, .slice none 0 0]) rfl
    have hR4 := hR3.set 1 (.slice A3 q.vols.length c3) (cs' := #[.slice A2 q.slots.length c2, .slice A3 q.vols.length c3]) rfl
    have hb5 := bel_set (bel_set (HW.out.tr HB3.out) (Nat.le_succ _) 0 (.slice A2 q.slots.length c2)) (Nat.le_succ _) 1 (.slice A3 q.vols.length c3)
    have hop4 := (HO3.out.far hR2 (by decide) (by decide) (by decide) 0 (.slice A2 q.slots.length c2)).far hR3 (by decide) (by decide) (by decide) 1 (.slice A3 q.vols.length c3)
    refine bodyPost_ret (results_ct rfl _ _ (w.heap.size + 1) 30 #[.slice A2 q.slots.length c2, .slice A3 q.vols.length c3] (0, 0) _ rfl hR4 Try.underlying30 rfl (by kernel_rfl)) rfl ?_
    rw [E1.out, E2.out, HQ.out, HK2.out]
    exact ⟨_, _, _, rfl, hop4.lower (HW.out.tr HB1.out).size, hb5⟩
end Go.Proofs.Ytpobgjkmjlmafaa
/- DrawPoolWrite. -/

namespace Go.Proofs.Ytpobgjkmjlmafaa
open Go.RowKit Go.Proofs.YtpobgjkmjlmafaaW.PrintWords Go.Proofs.YtpobgjkmjlmafaaW.PrintLast
set_option linter.unusedVariables false
set_option linter.unusedSimpArgs false

/-- What DrawPoolWrite leaves. -/
def DrewW (w : World) (e : Ending) (w' : World) : Prop := ∃ (v0 v1 : Value) (p : Pool) (bvs : List Value) (s : ByteArray) (n : Int) (tx : ByteArray), e = .returned (.tuple #[.agg #[v0, v1], .string s, .int .i64 n, .string tx]) ∧ s.size ≤ 1048576 ∧ -100 ≤ n ∧ n ≤ 100 ∧ tx.size ≤ 1048576 ∧ DrawnP p ∧ OwnP w' w.heap.size v0 v1 p bvs ∧ Bel w w'
set_option maxHeartbeats 8000000 in
set_option maxRecDepth 10000 in
theorem drawWrite_c {w : World} {A : Option Addr} {n c : Nat} {bs : List Int} (h : CodeIn w A n c bs) (hn : n ≤ 9223372036854775807) :
    Calls Try.prog 44 #[.slice A n c] w (DrewW w) := by
  have H := Lib.hid h
  clear h
  go_enter Try.func44, Try.ntmps44
  go_wp2_with fail
  have hr0 : Blk (w.alloc (.cells #[.slice none 0 0, .slice none 0 0] 30)) w.heap.size #[.slice none 0 0, .slice none 0 0] 30 := Blk.new _ _ _
  have hW : Bel w (w.alloc (.cells #[.slice none 0 0, .slice none 0 0] 30)) := bel_alloc (Below.refl _ _) _
  generalize (w.alloc (.cells #[.slice none 0 0, .slice none 0 0] 30)) = W0 at hr0 hW ⊢
  refine (open_c (H.out.bel hW) hn).mono ?_
  rintro e w1 ⟨rb, rfl, hR1, hrb, hb1⟩
  have hrb2 : w.heap.size < rb := Nat.lt_of_lt_of_le hr0.lt hrb
  have HR1 := Lib.hid (And.intro (hr0.bel hb1) (And.intro hR1 (hW.tr hb1)))
  clear hr0 hW hR1 hb1
  go_wp2_with fail
  refine (pool_c HR1.out.2.1 (by omega)).mono ?_
  rintro e w2 ⟨v0, v1, p, bvs, rfl, hp, ho, hR2, hg2⟩
  obtain ⟨A0, A1, c0, c1, rfl, rfl, hpi⟩ := ho.reads
  have hB2 := HR1.out.1.grown hg2 (by intro e; injection e with e; omega)
  have hb2 := bel_of_grown HR1.out.2.2 hg2 (by omega)
  have hbx : Bel w2 (w2.alloc (.cells #[.slice A0 p.slots.length c0, .slice A1 p.vols.length c1] 30)) := bel_alloc (Below.refl _ _) _
  have hst : DrSt w (w2.alloc (.cells #[.slice A0 p.slots.length c0, .slice A1 p.vols.length c1] 30)) rb (0 + 20010) (.slice A0 p.slots.length c0) (.slice A1 p.vols.length c1) p bvs w2.heap.size :=
    ⟨hB2.bel hbx, Blk.new _ _ _, hR2.bel hbx, (ho.lower HR1.out.2.2.size).bel hbx, hb2.tr hbx, hrb2, hR2.lt⟩
  have HP := Lib.hid hp
  have HST := Lib.hid hst
  clear hp ho hR2 hg2 hB2 hb2 hbx hst hpi
  go_wp2
  generalize (w2.alloc (.cells #[.slice A0 p.slots.length c0, .slice A1 p.vols.length c1] 30)) = W4 at HST ⊢
  obtain ⟨pb, hpb⟩ : ∃ pb, w2.heap.size = pb := ⟨_, rfl⟩
  rw [hpb] at HST ⊢
  clear hpb
  have HS5 := Lib.hid (HST.out.below (Below.refl _ _).drew)
  have y0 := HST.out.pool.cell 0
  have y1 := HST.out.pool.cell 1
  simp at y0 y1
  refine start_ (n := 17) (S := fun w' => w'.cell? ⟨pb, 0, none⟩ = some (.slice A0 p.slots.length c0) ∧ w'.cell? ⟨pb, 1, none⟩ = some (.slice A1 p.vols.length c1)) (ds := [13]) #[false, false, false, false, false, false, false, false, false, false, false, false, false, false, false, false, false] (by kernel_rfl) rfl rfl ⟨y0, y1⟩ (fun hHeld => ?_)
  refine pure_ (i := 1) (N := some 13) (v := ?_) (a' := ?_) #[false, true, false, false, false, false, false, false, false, false, false, false, false, false, false, false, false] rfl rfl (by kernel_rfl) (fun _ _ _ h => h) (Or.inl ⟨by rfl, ?_⟩) ?_ ?_
  rotate_left
  · intro w'
    go_simp
    with_reducible rfl
  rotate_left
  · simp only [Act.put, List.setIfInBounds_toArray, List.set_cons_zero, List.set_cons_succ, i64_w, i32_w]
    rfl
  refine pure_ (i := 4) (N := some 16) (v := ?_) (a' := ?_) #[false, true, false, false, true, false, false, false, false, false, false, false, false, false, false, false, false] rfl rfl (by kernel_rfl) (fun _ _ _ h => h) (Or.inl ⟨by rfl, ?_⟩) ?_ ?_
  rotate_left
  · intro w'
    go_simp
    with_reducible rfl
  rotate_left
  · simp only [Act.put, List.setIfInBounds_toArray, List.set_cons_zero, List.set_cons_succ, i64_w, i32_w]
    rfl
  refine pure_ (i := 6) (N := some 18) (v := ?_) (a' := ?_) #[false, true, false, false, true, false, true, false, false, false, false, false, false, false, false, false, false] rfl rfl (by kernel_rfl) (fun _ _ _ h => h) (Or.inl ⟨by rfl, ?_⟩) ?_ ?_
  rotate_left
  · intro w'
    go_simp
    with_reducible rfl
  rotate_left
  · simp only [Act.put, List.setIfInBounds_toArray, List.set_cons_zero, List.set_cons_succ, i64_w, i32_w]
    rfl
  refine pure_ (i := 11) (N := some 23) (v := ?_) (a' := ?_) #[false, true, false, false, true, false, true, false, false, false, false, true, false, false, false, false, false] rfl rfl (by kernel_rfl) (fun _ _ _ h => h) (Or.inl ⟨by rfl, ?_⟩) ?_ ?_
  rotate_left
  · intro w'
    go_simp
    with_reducible rfl
  rotate_left
  · simp only [Act.put, List.setIfInBounds_toArray, List.set_cons_zero, List.set_cons_succ, i64_w, i32_w]
    rfl
  refine take_ (i := 0) (N := some 12) (v := ?_) (a' := ?_) #[true, true, false, false, true, false, true, false, false, false, false, true, false, false, false, false, false] rfl rfl (by kernel_rfl) (fun _ _ _ h => h) (Or.inl ⟨by rfl, ?_⟩) hHeld ?_ ?_
  rotate_left
  · rintro w' ⟨s0, s1⟩
    go_simp
    with_reducible rfl
  rotate_left
  · simp only [Act.put, List.setIfInBounds_toArray, List.set_cons_zero, List.set_cons_succ, i64_w, i32_w]
    rfl
  refine take_ (i := 2) (N := some 14) (v := ?_) (a' := ?_) #[true, true, true, false, true, false, true, false, false, false, false, true, false, false, false, false, false] rfl rfl (by kernel_rfl) (fun _ _ _ h => h) (Or.inl ⟨by rfl, ?_⟩) hHeld ?_ ?_
  rotate_left
  · rintro w' ⟨s0, s1⟩
    go_simp
    with_reducible rfl
  rotate_left
  · simp only [Act.put, List.setIfInBounds_toArray, List.set_cons_zero, List.set_cons_succ, i64_w, i32_w]
    rfl
  refine one_ (i := 3) (N := some 15) #[true, true, true, true, true, false, true, false, false, false, false, true, false, false, false, false, false] rfl rfl (by kernel_rfl) (by decide) (fun K hK => ?_)
  refine goes_ Try.func90 (by kernel_rfl) rfl #[.pointer (some ⟨rb, 0, none⟩), .agg #[.slice A0 p.slots.length c0, .slice A1 p.vols.length c1]] (by rfl) rfl rfl (by simp only [List.map_toArray, List.map_cons, List.map_nil]; rfl) ?_
  with_reducible refine (name_c (w := W4.drew) HS5.out.rd (by omega) HS5.out.own HP.out).mono ?_
  rintro e w6 ⟨v, rfl, ⟨s, rfl, hs⟩, hR6, hg6⟩
  have HS6 := Lib.hid (HS5.out.step hR6 hg6)
  have z60 := HS6.out.pool.cell 0
  have z61 := HS6.out.pool.cell 1
  simp at z60 z61
  clear hR6 hg6
  have HSZ := Lib.hid hs
  clear hs
  refine ⟨_, rfl, ?_⟩
  refine hK.out _ _ ⟨z60, z61⟩ (fun hHeld => ?_)
  clear hK K
  refine norm_ (a' := ?_) ?_ ?_
  rotate_left
  · show Act.put _ (some 15) _ = _
    simp only [Act.put, List.setIfInBounds_toArray, List.set_cons_zero, List.set_cons_succ, i64_w, i32_w]
    rfl
  refine one_ (i := 5) (N := some 17) #[true, true, true, true, true, true, true, false, false, false, false, true, false, false, false, false, false] rfl rfl (by kernel_rfl) (by decide) (fun K hK => ?_)
  refine goes_ Try.func96 (by kernel_rfl) rfl #[.pointer (some ⟨rb, 0, none⟩), .int .i64 4] (by rfl) rfl rfl (by simp only [List.map_toArray, List.map_cons, List.map_nil]; rfl) ?_
  with_reducible refine (pick_c HS6.out.rd (by omega) 4 (by omega)).mono ?_
  rintro e w7 ⟨v, rfl, ⟨r, rfl, hr0, hr1, -⟩, hR7, hg7⟩
  have hr2 := hr1 (by omega)
  have HS7 := Lib.hid (HS6.out.step hR7 hg7)
  have z70 := HS7.out.pool.cell 0
  have z71 := HS7.out.pool.cell 1
  simp at z70 z71
  clear hR7 hg7
  clear hr1
  refine ⟨_, rfl, ?_⟩
  refine hK.out _ _ ⟨z70, z71⟩ (fun hHeld => ?_)
  clear hK K
  refine norm_ (a' := ?_) ?_ ?_
  rotate_left
  · show Act.put _ (some 17) _ = _
    simp only [Act.put, List.setIfInBounds_toArray, List.set_cons_zero, List.set_cons_succ, i64_w, i32_w]
    rfl
  refine one_ (i := 7) (N := some 19) #[true, true, true, true, true, true, true, true, false, false, false, true, false, false, false, false, false] rfl rfl (by kernel_rfl) (by decide) (fun K hK => ?_)
  refine goes_ Try.func96 (by kernel_rfl) rfl #[.pointer (some ⟨rb, 0, none⟩), .int .i64 24] (by rfl) rfl rfl (by simp only [List.map_toArray, List.map_cons, List.map_nil]; rfl) ?_
  with_reducible refine (pick_c HS7.out.rd (by omega) 24 (by omega)).mono ?_
  rintro e w8 ⟨v, rfl, ⟨q, rfl, hq0, hq1, -⟩, hR8, hg8⟩
  have hq2 := hq1 (by omega)
  have HS8 := Lib.hid (HS7.out.step hR8 hg8)
  have z80 := HS8.out.pool.cell 0
  have z81 := HS8.out.pool.cell 1
  simp at z80 z81
  clear hR8 hg8
  obtain ⟨d, hd⟩ : ∃ d : Int, q.tdiv 23 = d := ⟨_, rfl⟩
  have hd1 : 0 ≤ d ∧ d ≤ 1 := by rw [← hd, Int.tdiv_eq_ediv_of_nonneg hq0]; omega
  have hd0 := hd1.1
  have hd2 := hd1.2
  have hw2 : wrap64 d = d := by unfold wrap64; omega
  have hw3 : wrap64 (d * 9) = d * 9 := by unfold wrap64; omega
  have hw4 : wrap64 (r - d * 9) = r - d * 9 := by unfold wrap64; omega
  clear hd1 hq1
  refine ⟨_, rfl, ?_⟩
  refine hK.out _ _ ⟨z80, z81⟩ (fun hHeld => ?_)
  clear hK K
  refine norm_ (a' := ?_) ?_ ?_
  rotate_left
  · show Act.put _ (some 19) _ = _
    simp only [Act.put, List.setIfInBounds_toArray, List.set_cons_zero, List.set_cons_succ, i64_w, i32_w]
    rfl
  refine pure_ (i := 8) (N := some 20) (v := ?_) (a' := ?_) #[true, true, true, true, true, true, true, true, true, false, false, true, false, false, false, false, false] rfl rfl (by kernel_rfl) (fun _ _ _ h => h) (Or.inl ⟨by rfl, ?_⟩) ?_ ?_
  rotate_left
  · intro w'
    go_simp
    with_reducible rfl
  rotate_left
  · simp only [Act.put, List.setIfInBounds_toArray, List.set_cons_zero, List.set_cons_succ, i64_w, i32_w]
    rfl
  refine pure_ (i := 9) (N := some 21) (v := ?_) (a' := ?_) #[true, true, true, true, true, true, true, true, true, true, false, true, false, false, false, false, false] rfl rfl (by kernel_rfl) (fun _ _ _ h => h) (Or.inl ⟨by rfl, ?_⟩) ?_ ?_
  rotate_left
  · intro w'
    go_simp
    with_reducible rfl
  rotate_left
  · simp only [Act.put, List.setIfInBounds_toArray, List.set_cons_zero, List.set_cons_succ, i64_w, i32_w]
    rfl
  refine pure_ (i := 10) (N := some 22) (v := ?_) (a' := ?_) #[true, true, true, true, true, true, true, true, true, true, true, true, false, false, false, false, false] rfl rfl (by kernel_rfl) (fun _ _ _ h => h) (Or.inl ⟨by rfl, ?_⟩) ?_ ?_
  rotate_left
  · intro w'
    go_simp
    with_reducible rfl
  rotate_left
  · simp only [Act.put, List.setIfInBounds_toArray, List.set_cons_zero, List.set_cons_succ, i64_w, i32_w]
    rfl
  refine one_ (i := 12) (N := some 24) #[true, true, true, true, true, true, true, true, true, true, true, true, true, false, false, false, false] rfl rfl (by kernel_rfl) (by decide) (fun K hK => ?_)
  refine goes_ Try.func97 (by kernel_rfl) rfl #[.pointer (some ⟨rb, 0, none⟩)] (by rfl) rfl rfl (by simp only [List.map_toArray, List.map_cons, List.map_nil]; rfl) ?_
  with_reducible refine (text_c HS8.out.rd (by omega)).mono ?_
  rintro e w9 ⟨v, rfl, ⟨tx, rfl, htx⟩, hR9, hg9⟩
  have HS9 := Lib.hid (HS8.out.step hR9 hg9)
  have z90 := HS9.out.pool.cell 0
  have z91 := HS9.out.pool.cell 1
  simp at z90 z91
  clear hR9 hg9
  have HTX := Lib.hid htx
  have x0 := HS9.out.res.cell 0
  have x1 := HS9.out.res.cell 1
  have f0 := HS9.out.res.free 0
  have f1 := HS9.out.res.free 1
  have zr := HS9.out.res.lt
  simp at x0 x1
  clear htx
  refine ⟨_, rfl, ?_⟩
  refine hK.out _ _ ⟨z90, z91⟩ (fun hHeld => ?_)
  clear hK K
  refine norm_ (a' := ?_) ?_ ?_
  rotate_left
  · show Act.put _ (some 24) _ = _
    simp only [Act.put, List.setIfInBounds_toArray, List.set_cons_zero, List.set_cons_succ, i64_w, i32_w]
    rfl
  refine last_ (i := 13) (N := none) #[true, true, true, true, true, true, true, true, true, true, true, true, true, true, false, false, false] rfl rfl (by kernel_rfl) (by decide) (fun K hK => ?_)
  refine skip_ (w1 := ?_) (by rfl) rfl ?_ ?_
  rotate_left
  · go_simp
    rfl
  refine hK.out _ _ ?_
  clear hK K
  refine pure_ (i := 14) (N := some 3) (v := ?_) (a' := ?_) #[true, true, true, true, true, true, true, true, true, true, true, true, true, true, true, false, false] rfl rfl (by kernel_rfl) (fun _ _ _ h => h) (Or.inl ⟨by rfl, ?_⟩) ?_ ?_
  rotate_left
  · intro w'
    go_simp
    with_reducible rfl
  rotate_left
  · simp only [Act.put, List.setIfInBounds_toArray, List.set_cons_zero, List.set_cons_succ, i64_w, i32_w]
    rfl
  refine pure_ (i := 15) (N := some 4) (v := ?_) (a' := ?_) #[true, true, true, true, true, true, true, true, true, true, true, true, true, true, true, true, false] rfl rfl (by kernel_rfl) (fun _ _ _ h => h) (Or.inl ⟨by rfl, ?_⟩) ?_ ?_
  rotate_left
  · intro w'
    go_simp
    with_reducible rfl
  rotate_left
  · simp only [Act.put, List.setIfInBounds_toArray, List.set_cons_zero, List.set_cons_succ, i64_w, i32_w]
    rfl
  refine pure_ (i := 16) (N := some 5) (v := ?_) (a' := ?_) #[true, true, true, true, true, true, true, true, true, true, true, true, true, true, true, true, true] rfl rfl (by kernel_rfl) (fun _ _ _ h => h) (Or.inl ⟨by rfl, ?_⟩) ?_ ?_
  rotate_left
  · intro w'
    go_simp
    with_reducible rfl
  rotate_left
  · simp only [Act.put, List.setIfInBounds_toArray, List.set_cons_zero, List.set_cons_succ, i64_w, i32_w]
    rfl
  refine done_ (by kernel_rfl) ?_
  clear y0 y1 z60 z61 z70 z71 z80 z81 z90 z91 x0 x1 f0 f1 zr hHeld
  have hx1 := HS9.out.res.set 0 (.slice A0 p.slots.length c0) (cs' := #[.slice A0 p.slots.length c0, .slice none 0 0]) rfl
  have hx2 := hx1.set 1 (.slice A1 p.vols.length c1) (cs' := #[.slice A0 p.slots.length c0, .slice A1 p.vols.length c1]) rfl
  have ho2 := (HS9.out.own.far HS9.out.res (by decide) (by decide) (by decide) 0 (.slice A0 p.slots.length c0)).far hx1 (by decide) (by decide) (by decide) 1 (.slice A1 p.vols.length c1)
  have hb5 := bel_set (bel_set HS9.out.bel (Nat.le_refl _) 0 (.slice A0 p.slots.length c0)) (Nat.le_refl _) 1 (.slice A1 p.vols.length c1)
  go_wp2
  refine bodyPost_ret (results_list rfl (by simp) (.cell w.heap.size 30 #[.slice A0 p.slots.length c0, .slice A1 p.vols.length c1] (0, 0) _ rfl hx2 Try.underlying30 rfl (by kernel_rfl) (.tmp (.tmp (.tmp .nil))))) rfl ?_
  exact ⟨_, _, p, bvs, s, r - d * 9, tx, rfl, HSZ.out, by omega, by omega, by have := HTX.out; omega, HP.out, ho2, hb5⟩
end Go.Proofs.Ytpobgjkmjlmafaa
/- What the laws' bodies need of each callee, in one form; StoreFind of the program. -/











namespace Go.Proofs.Ytpobgjkmjlmafaa
open Go.RowKit Go.Proofs.YtpobgjkmjlmafaaW.PrintWords
set_option linter.unusedVariables false
set_option linter.unusedSimpArgs false

/-- A new pool and whether all went well. -/
def NewP (w : World) (q : Pool) (ok : Bool) (e : Ending) (w' : World) : Prop := ∃ A0 A1 c0 c1, e = .returned (.tuple #[.agg #[.slice A0 q.slots.length c0, .slice A1 q.vols.length c1], .bool ok]) ∧ PoolIn w' A0 A1 c0 c1 q ∧ Bel w w'
theorem MadePB.new {w : World} {q : Pool} {ok : Bool} {e : Ending} {w' : World} (h : MadePB w q ok e w') : NewP w q ok e w' := by
  obtain ⟨v0, v1, bvs, rfl, ho, hb⟩ := h
  obtain ⟨A0, A1, c0, c1, rfl, rfl, hi⟩ := ho.reads
  exact ⟨A0, A1, c0, c1, rfl, hi, hb⟩
/-- A pool in a variable. -/
structure PVar (w : World) (b : Nat) (A0 A1 : Option Addr) (c0 c1 : Nat) (q : Pool) : Prop where
  blk : Blk w b #[.slice A0 q.slots.length c0, .slice A1 q.vols.length c1] 30
  inn : PoolIn w A0 A1 c0 c1 q
theorem PVar.bel {w w' : World} {b : Nat} {A0 A1 : Option Addr} {c0 c1 : Nat} {q : Pool} (h : PVar w b A0 A1 c0 c1 q) (hb : Bel w w') : PVar w' b A0 A1 c0 c1 q := ⟨h.blk.bel hb, h.inn.bel hb⟩
theorem PVar.new {w : World} {A0 A1 : Option Addr} {c0 c1 : Nat} {q : Pool} (h : PoolIn w A0 A1 c0 c1 q) : PVar (w.alloc (.cells #[.slice A0 q.slots.length c0, .slice A1 q.vols.length c1] 30)) w.heap.size A0 A1 c0 c1 q := ⟨Blk.new _ _ _, h.alloc _⟩
theorem PVar.c0 {w : World} {b : Nat} {A0 A1 : Option Addr} {c0 c1 : Nat} {q : Pool} (h : PVar w b A0 A1 c0 c1 q) : w.cell? ⟨b, 0, none⟩ = some (.slice A0 q.slots.length c0) := by have := h.blk.cell 0; simpa using this
theorem PVar.c1 {w : World} {b : Nat} {A0 A1 : Option Addr} {c0 c1 : Nat} {q : Pool} (h : PVar w b A0 A1 c0 c1 q) : w.cell? ⟨b, 1, none⟩ = some (.slice A1 q.vols.length c1) := by have := h.blk.cell 1; simpa using this
theorem PVar.lt {w : World} {b : Nat} {A0 A1 : Option Addr} {c0 c1 : Nat} {q : Pool} (h : PVar w b A0 A1 c0 c1 q) : b < w.heap.size := h.blk.lt

/-! ### cases of a change -/
theorem ch_bad {p : Pool} (h : poolOk p = false) (r : Option Pool) : chP p r = noP ∧ chB p r = false := by unfold chP chB; rw [h]; exact ⟨rfl, rfl⟩
theorem ch_none {p : Pool} {r : Option Pool} (h : PoolP p) (hr : r = none) : chP p r = p ∧ chB p r = false := by unfold chP chB; rw [poolOk_iff.2 h, hr]; exact ⟨rfl, rfl⟩
theorem ch_some {p q : Pool} {r : Option Pool} (h : PoolP p) (hr : r = some q) : chP p r = q ∧ chB p r = true := by unfold chP chB; rw [poolOk_iff.2 h, hr]; exact ⟨rfl, rfl⟩

section
variable {w : World} {A0 A1 : Option Addr} {c0 c1 : Nat} {p q : Pool} {ok : Bool}
abbrev poolV (A0 A1 : Option Addr) (c0 c1 : Nat) (p : Pool) : Value := .agg #[.slice A0 p.slots.length c0, .slice A1 p.vols.length c1]
theorem implWrite_n {name : ByteArray} {blk : Int} {text : ByteArray} (h : PoolIn w A0 A1 c0 c1 p) (hs : SmallP p) (hn : text.size ≤ 1048576) (he : chP p (writeF p name blk text) = q ∧ chB p (writeF p name blk text) = ok) :
    Calls Try.prog 43 #[.agg #[.slice A0 p.slots.length c0, .slice A1 p.vols.length c1], .string name, .int .i64 blk, .string text] w (NewP w q ok) := by
  have := (implPoolWrite_c (name := name) (blk := blk) (text := text) h hs hn).mono fun _ _ h => h.new; rw [he.1, he.2] at this; exact this
theorem specWrite_n {name : ByteArray} {blk : Int} {text : ByteArray} (h : PoolIn w A0 A1 c0 c1 p) (hs : SmallP p) (hn : text.size ≤ 1048576) (he : chP p (writeF p name blk text) = q ∧ chB p (writeF p name blk text) = ok) :
    Calls Try.prog 42 #[.agg #[.slice A0 p.slots.length c0, .slice A1 p.vols.length c1], .string name, .int .i64 blk, .string text] w (NewP w q ok) := by
  have := (specPoolWrite_c (name := name) (blk := blk) (text := text) h hs hn).mono fun _ _ h => h.new; rw [he.1, he.2] at this; exact this
theorem implOk_n {b : Bool} (h : PoolIn w A0 A1 c0 c1 p) (hs : SmallP p) (he : poolOk p = b) :
    Calls Try.prog 37 #[.agg #[.slice A0 p.slots.length c0, .slice A1 p.vols.length c1]] w (Ret (.bool b) w) := he ▸ implPoolOk_in h hs
theorem specOk_n {b : Bool} (h : PoolIn w A0 A1 c0 c1 p) (hs : SmallP p) (he : poolOk p = b) :
    Calls Try.prog 34 #[.agg #[.slice A0 p.slots.length c0, .slice A1 p.vols.length c1]] w (Ret (.bool b) w) := he ▸ specPoolOk_in h hs
theorem free_n {n : Int} (h : PoolIn w A0 A1 c0 c1 p) (hs : SmallP p) (he : storeFree p.slots = n) :
    Calls Try.prog 41 #[.slice A0 p.slots.length c0] w (Ret (.int .i64 n) w) := he ▸ storeFree_c p.slots A0 c0 w h.s h.sc hs.slots
theorem read_n {t : ByteArray} {b : Int} {u : ByteArray} {ok : Bool} (h : PoolIn w A0 A1 c0 c1 p) (hs : SmallP p) (he : readV p t b = u ∧ readOk p t b = ok) :
    Calls Try.prog 48 #[.agg #[.slice A0 p.slots.length c0, .slice A1 p.vols.length c1], .string t, .int .i64 b] w (Ret (.tuple #[.string u, .bool ok]) w) := he.1 ▸ he.2 ▸ poolRead_c h hs t b
theorem implText_n {t : ByteArray} (h : PoolIn w A0 A1 c0 c1 p) (hs : SmallP p) (he : poolT p = t) :
    Calls Try.prog 32 #[.agg #[.slice A0 p.slots.length c0, .slice A1 p.vols.length c1]] w (Ret (.string t) w) := he ▸ implPoolText_c h hs
theorem specText_n {t : ByteArray} (h : PoolIn w A0 A1 c0 c1 p) (hs : SmallP p) (he : poolT p = t) :
    Calls Try.prog 33 #[.agg #[.slice A0 p.slots.length c0, .slice A1 p.vols.length c1]] w (Ret (.string t) w) := he ▸ specPoolText_c h hs
end

/-! ### drawn pools -/
def DrewG' (w : World) (e : Ending) (w' : World) : Prop := ∃ A0 A1 c0 c1, ∃ (p : Pool) (s : ByteArray), e = .returned (.tuple #[.agg #[.slice A0 p.slots.length c0, .slice A1 p.vols.length c1], .string s]) ∧ s.size ≤ 1048576 ∧ DrawnP p ∧ PoolIn w' A0 A1 c0 c1 p ∧ Bel w w'
theorem DrewG.new {w : World} {e : Ending} {w' : World} (h : DrewG w e w') : DrewG' w e w' := by
  obtain ⟨v0, v1, p, bvs, s, rfl, hs, hp, ho, hb⟩ := h
  obtain ⟨A0, A1, c0, c1, rfl, rfl, hi⟩ := ho.reads
  exact ⟨A0, A1, c0, c1, p, s, rfl, hs, hp, hi, hb⟩
def DrewT' (w : World) (e : Ending) (w' : World) : Prop := ∃ A0 A1 c0 c1, ∃ (p : Pool), e = .returned (.agg #[.slice A0 p.slots.length c0, .slice A1 p.vols.length c1]) ∧ DrawnP p ∧ PoolIn w' A0 A1 c0 c1 p ∧ Bel w w'
theorem DrewT.new {w : World} {e : Ending} {w' : World} (h : DrewT w e w') : DrewT' w e w' := by
  obtain ⟨v0, v1, p, bvs, rfl, hp, ho, hb⟩ := h
  obtain ⟨A0, A1, c0, c1, rfl, rfl, hi⟩ := ho.reads
  exact ⟨A0, A1, c0, c1, p, rfl, hp, hi, hb⟩
def DrewM' (w : World) (e : Ending) (w' : World) : Prop := ∃ A0 A1 c0 c1, ∃ (p : Pool) (s : ByteArray) (n : Int), e = .returned (.tuple #[.agg #[.slice A0 p.slots.length c0, .slice A1 p.vols.length c1], .string s, .int .i64 n]) ∧ s ∈ eight ∧ 1 ≤ n ∧ n ≤ 100 ∧ DrawnP p ∧ PoolIn w' A0 A1 c0 c1 p ∧ Bel w w'
theorem DrewM.new {w : World} {e : Ending} {w' : World} (h : DrewM w e w') : DrewM' w e w' := by
  obtain ⟨v0, v1, p, bvs, s, n, rfl, hs, h1, h2, hp, ho, hb⟩ := h
  obtain ⟨A0, A1, c0, c1, rfl, rfl, hi⟩ := ho.reads
  exact ⟨A0, A1, c0, c1, p, s, n, rfl, hs, h1, h2, hp, hi, hb⟩
def DrewC' (w : World) (e : Ending) (w' : World) : Prop := ∃ A0 A1 c0 c1, ∃ (p : Pool) (s d : ByteArray), e = .returned (.tuple #[.agg #[.slice A0 p.slots.length c0, .slice A1 p.vols.length c1], .string s, .string d]) ∧ s.size ≤ 1048576 ∧ d ∈ five ∧ DrawnP p ∧ PoolIn w' A0 A1 c0 c1 p ∧ Bel w w'
theorem DrewC.new {w : World} {e : Ending} {w' : World} (h : DrewC w e w') : DrewC' w e w' := by
  obtain ⟨v0, v1, p, bvs, s, d, rfl, hs, hd, hp, ho, hb⟩ := h
  obtain ⟨A0, A1, c0, c1, rfl, rfl, hi⟩ := ho.reads
  exact ⟨A0, A1, c0, c1, p, s, d, rfl, hs, hd, hp, hi, hb⟩
def DrewW' (w : World) (e : Ending) (w' : World) : Prop := ∃ A0 A1 c0 c1, ∃ (p : Pool) (s : ByteArray) (n : Int) (tx : ByteArray), e = .returned (.tuple #[.agg #[.slice A0 p.slots.length c0, .slice A1 p.vols.length c1], .string s, .int .i64 n, .string tx]) ∧ s.size ≤ 1048576 ∧ -100 ≤ n ∧ n ≤ 100 ∧ tx.size ≤ 1048576 ∧ DrawnP p ∧ PoolIn w' A0 A1 c0 c1 p ∧ Bel w w'
theorem DrewW.new {w : World} {e : Ending} {w' : World} (h : DrewW w e w') : DrewW' w e w' := by
  obtain ⟨v0, v1, p, bvs, s, n, tx, rfl, hs, h1, h2, ht, hp, ho, hb⟩ := h
  obtain ⟨A0, A1, c0, c1, rfl, rfl, hi⟩ := ho.reads
  exact ⟨A0, A1, c0, c1, p, s, n, tx, rfl, hs, h1, h2, ht, hp, hi, hb⟩

/-! ### StoreFind -/
def findB (s : List Slot) (t : ByteArray) : Bool := storeOk s && (tOk t && !t.toList.isEmpty)
def FoundB (s : List Slot) (t : ByteArray) (w : World) (e : Ending) (w' : World) : Prop := ∃ n : Int, e = .returned (.tuple #[.int .i64 n, .bool (findB s t && there s t)]) ∧ Bel w w'
end Go.Proofs.Ytpobgjkmjlmafaa
/- lgKinds: how many pieces a valid pool has. -/

namespace Go.Proofs.Ytpobgjkmjlmafaa
open Go.RowKit Go.Proofs.YtpobgjkmjlmafaaW.PrintWords
set_option linter.unusedVariables false
set_option linter.unusedSimpArgs false

/-- A row of words of one's own. -/
def SeenS (W : World) (base : Nat) (v : Value) (seen : List ByteArray) : Prop := W.ownsRow base 9 1 v seen.length (seen.map Value.string)
theorem info_str : (Try.prog.info? 9).map (fun i => (i.zero, i.size, i.bytes)) = some (some (.string ⟨#[]⟩), 1, 16) := by kernel_rfl
theorem SeenS.bel {w w' : World} {base : Nat} {v : Value} {s : List ByteArray} (h : SeenS w base v s) (hb : Bel w w') : SeenS w' base v s := pw_own_below h hb
theorem SeenS.reads {w : World} {base : Nat} {v : Value} {s : List ByteArray} (h : SeenS w base v s) : ∃ A c, v = .slice A s.length c ∧ s.length ≤ c ∧ Kd.string.C w A s.length s := by
  have hr : Reps (Kd.string.K w) 1 s (s.map Value.string) := by
    refine ⟨by simp, fun j p hp => ?_⟩
    show _ = [Value.string p]
    rw [Nat.mul_one]
    apply List.ext_getElem?
    intro k
    rw [List.getElem?_take]
    cases k with
    | zero => simp [hp]
    | succ k => simp
  obtain ⟨A, c, e, hr⟩ := own_reads_row h hr rfl
  obtain ⟨A', c', e', hc⟩ := own_cap h
  rw [e] at e'
  injection e' with _ _ e3
  exact ⟨A, c, e, e3 ▸ hc, hr⟩
theorem at_str {w : World} {A : Option Addr} {n : Nat} {xs : List ByteArray} (h : Kd.string.C w A n xs) {i : Nat} {x : ByteArray} (hx : xs[i]? = some x) : ∃ ad, A = some ad ∧ w.cell? (ad.add i) = some (.string x) := by
  have hl := h.1 ▸ ltQ hx
  obtain ⟨ad, c, e, _, hK, hc⟩ := Kd.C_get h e0 i (by omega) (by omega)
  have he : xs.getD (i : Int).toNat e0 = x := by rw [List.getD_eq_getElem?_getD, Int.toNat_natCast, hx]; rfl
  rw [he] at hK
  have hK' : c = [.string x] := hK
  subst hK'
  have := hc 0 _ rfl
  simp only [Nat.add_zero] at this
  refine ⟨ad, e, ?_⟩
  have h1 : Kd.string.sz = 1 := rfl
  simpa [h1] using this
def seenB (t : ByteArray) (seen : List ByteArray) (m : Nat) : Bool := (t.toList == []) || (seen.take m).any fun o => o.toList == t.toList
theorem seenB_zero (t : ByteArray) (seen : List ByteArray) : seenB t seen 0 = (t.toList == []) := by simp [seenB]
theorem seenB_succ {t o : ByteArray} {seen : List ByteArray} {m : Nat} (h : seen[m]? = some o) : seenB t seen (m + 1) = (seenB t seen m || (o.toList == t.toList)) := by
  unfold seenB; rw [any_snoc h, Bool.or_assoc]
theorem seenB_end {t : ByteArray} {seen : List ByteArray} {m : Nat} (h : ¬ m < seen.length) : kstep seen t = if seenB t seen m then seen else seen ++ [t] := by
  unfold kstep seenB; rw [take_all h]
theorem fold_take {ts : List ByteArray} {k : Nat} {t : ByteArray} (h : ts[k]? = some t) (s : List ByteArray) : (ts.take (k + 1)).foldl kstep s = kstep ((ts.take k).foldl kstep s) t := by
  rw [take_snoc h, List.foldl_append]; rfl
theorem allT_take {p : Pool} {vs : List Vol} {i : Nat} {x : Vol} (h : vs[i]? = some x) (s : List ByteArray) : (allT p (vs.take (i + 1))).foldl kstep s = (pieces p x.name).foldl kstep ((allT p (vs.take i)).foldl kstep s) := by
  unfold allT
  rw [take_snoc h, List.flatMap_append, List.foldl_append]
  simp
set_option maxHeartbeats 8000000 in
set_option maxRecDepth 10000 in
theorem lgKinds_c {w : World} {A0 A1 : Option Addr} {c0 c1 : Nat} {p : Pool} (h : PoolIn w A0 A1 c0 c1 p) (hp : PoolP p) :
    Calls Try.prog 47 #[.agg #[.slice A0 p.slots.length c0, .slice A1 p.vols.length c1]] w (Ret (.int .i64 (8 - freeN p.slots)) w) := by
  have H := Lib.hid h
  have HP := Lib.hid hp
  have HS := Lib.hid hp.small
  have hl4 := hp.v.len
  have HK := Lib.hid (kinds_eq hp)
  clear h hp
  go_enter Try.func47, Try.ntmps47
  go_wp2
  have hB := Blk.new w #[.slice A0 p.slots.length c0, .slice A1 p.vols.length c1] 30
  have hW : Bel w (w.alloc (.cells #[.slice A0 p.slots.length c0, .slice A1 p.vols.length c1] 30)) := bel_alloc (Below.refl _ _) _
  have hsz : (w.alloc (.cells #[.slice A0 p.slots.length c0, .slice A1 p.vols.length c1] 30)).heap.size = w.heap.size + 1 := by simp
  generalize (w.alloc (.cells #[.slice A0 p.slots.length c0, .slice A1 p.vols.length c1] 30)) = W0 at hB hW hsz ⊢
  have hS : SeenS (W0.alloc (.cells #[] 9)) W0.heap.size (.slice (some ⟨W0.heap.size, 0, none⟩) 0 0) [] := own_empty W0 _ _ _ (Nat.le_refl _)
  have hb1 : Bel W0 (W0.alloc (.cells #[] 9)) := bel_alloc (Below.refl _ _) _
  rw [hsz] at hS
  have KB := Lib.hid hB
  have KW := Lib.hid hW
  have KZ := Lib.hid hsz
  have HIN := Lib.hid (H.out.bel hW)
  generalize (W0.alloc (.cells #[] 9)) = W1 at hS hb1 ⊢
  have KS := Lib.hid hS
  have K1 := Lib.hid hb1
  clear hB hW hsz hS hb1
  go_loopg [3, 4] p.vols.length (fun gg v3 v4 W => ∃ (i : Nat) (seen : List ByteArray), gg + i = p.vols.length ∧ v4 = .int .i64 i ∧ SeenS W (w.heap.size + 1) v3 seen ∧ seen.length ≤ 6 * i ∧ Hid (seen = (allT p (p.vols.take i)).foldl kstep []) ∧ Bel W0 W)
  case atStart => exact ⟨0, [], rfl, rfl, KS.out, Nat.zero_le _, rfl, K1.out⟩
  case round =>
    obtain ⟨i, seen, hi, rfl, hsn, hsl, hse, hbW⟩ := hrel
    have KSN := Lib.hid hsn
    have KBW := Lib.hid hbW
    clear hsn hbW
    have q1 := (KB.out.bel KBW.out).cell 1
    simp at q1
    by_cases hlt : i < p.vols.length
    · obtain ⟨x, hx⟩ := getQ hlt
      have hxm := List.mem_of_getElem? hx
      have hx6 := (volOk_parts (HP.out.v.okM hxm)).2.2.2
      have hpl : (pieces p x.name).length = x.blocks.length := by unfold pieces; rw [blksOf_mem HP.out.v hxm, List.length_map]
      have HPL := Lib.hid hpl
      have HX := Lib.hid hx
      clear hx hxm hpl
      go_wp2
      clear q1
      go_loopg [3, 5] x.blocks.length (fun gg v3 v5 W => ∃ (k : Nat) (sn : List ByteArray), gg + k = x.blocks.length ∧ v5 = .int .i64 k ∧ SeenS W (w.heap.size + 1) v3 sn ∧ sn.length ≤ 6 * i + k ∧ Hid (sn = ((pieces p x.name).take k).foldl kstep seen) ∧ Bel W0 W)
      case atStart => exact ⟨0, seen, rfl, rfl, KSN.out, by omega, rfl, KBW.out⟩
      case round =>
        clear KSN KBW
        obtain ⟨k, sn, hk, rfl, hsn, hsnl, hsne, hbW⟩ := hrel
        have KSN := Lib.hid hsn
        have KBW := Lib.hid hbW
        clear hsn hbW
        obtain ⟨ad, A2, n2, hA1, hc, hd, hn2, _⟩ := at_vol (HIN.out.bel KBW.out).v HX.out
        subst hA1
        have q0 := (KB.out.bel KBW.out).cell 0
        have q1 := (KB.out.bel KBW.out).cell 1
        simp at q0 q1
        by_cases hkn : k < x.blocks.length
        · obtain ⟨t, ht⟩ := getQ (show k < (pieces p x.name).length by rw [HPL.out]; exact hkn)
          have hrd := readV_pieces HP.out (t := x.name) (i := k) (by rw [HPL.out]; exact hkn)
          rw [ht] at hrd
          have hrd2 : readV p x.name k = t ∧ readOk p x.name k = true := ⟨Option.some.inj hrd.2, hrd.1⟩
          have HE : Hid (∀ q : GB wr, Calls Try.prog 48 #[.agg #[.slice A0 p.slots.length c0, .slice (some ad) p.vols.length c1], .string x.name, .int .i64 k] q.W (Ret (.tuple #[.string t, .bool true]) q.W)) := fun q => read_n (HIN.out.bel (KBW.out.tr q.h)) HS.out hrd2
          have HT := Lib.hid ht
          have g0 := gb_cell hc
          have g1 := gb_cell q0
          have g2 := gb_cell q1
          clear ht hrd hrd2
          go_wp2
          clear q0 q1 hc hd
          refine wp_region_gb (by kernel_rfl) (by kernel_rfl) ?_
          repeat (first | go_big_quiet_skip | (go_big_quiet_want; go_big_quiet_op; first | go_big_quiet_on | (apply Exists.intro; refine ⟨fun _ => ?_, ?_⟩; (go_at_call 48; exact gb_call (HE.out _)); go_big_quiet_on)))
          refine wpQuiet_nil ?_
          rintro w4 ⟨⟨_, hb⟩, rfl⟩
          replace hb : Bel wr w4 := hb
          replace KSN := Lib.hid (KSN.out.bel hb)
          replace KBW := Lib.hid (KBW.out.tr hb)
          clear hb g0 g1 g2
          obtain ⟨A3, c3, rfl, hc3, hC3⟩ := KSN.out.reads
          have HC3 := Lib.hid hC3
          clear hC3
          have he : (if t.toList = [] then true else false) = (t.toList == []) := by by_cases h : t.toList = [] <;> simp [h]
          cases hem : t.toList.isEmpty
          all_goals
            have hz := Lib.hid (show (t.toList == []) = t.toList.isEmpty by cases t.toList <;> rfl)
            first | (have hne : t.toList = [] := by simpa using hem) | (have hne : ¬ t.toList = [] := by simpa using hem)
            have hb0 := Lib.hid ((seenB_zero t sn).trans (hz.out.trans hem))
            clear he
            go_wp2
            go_loopg [8, 9] sn.length (fun gg v8 v9 W => ∃ (m : Nat) (b : Bool), gg + m = sn.length ∧ v9 = .int .i64 m ∧ v8 = .bool b ∧ Hid (b = seenB t sn m) ∧ Bel w4 W)
            case atStart => exact ⟨0, _, rfl, rfl, rfl, hb0.out.symm, Below.refl _ _⟩
            case round =>
              obtain ⟨m, b, hm, rfl, rfl, hbb, hb4⟩ := hrel
              by_cases hmn : m < sn.length
              · obtain ⟨o, ho⟩ := getQ hmn
                obtain ⟨ad3, rfl, hc4⟩ := at_str (Kd.C_below HC3.out hb4) ho
                have HB1 := Lib.hid (seenB_succ (t := t) ho)
                clear ho
                cases b
                · by_cases hte : t.toList = []
                  · exfalso
                    have hbx := hbb.out
                    unfold seenB at hbx
                    rw [hte] at hbx
                    simp at hbx
                  · first
                      | exact absurd hne hte
                      | (cases hot : o.toList == t.toList
                         all_goals
                           have HB2 := Lib.hid (HB1.out.trans (by rw [← hbb.out, hot]))
                           go_wp2
                           go_roundg (sn.length - (m + 1))
                           case measure => omega
                           case rel => exact ⟨m + 1, _, by omega, by go_num, rfl, HB2.out.symm, hb4⟩)
                · have HB2 := Lib.hid (HB1.out.trans (by rw [← hbb.out, Bool.true_or]))
                  go_wp2
                  go_roundg (sn.length - (m + 1))
                  case measure => omega
                  case rel => exact ⟨m + 1, _, by omega, by go_num, rfl, HB2.out.symm, hb4⟩
              · have hks := seenB_end (t := t) (seen := sn) hmn
                rw [← hbb.out] at hks
                have hfk := fold_take HT.out seen
                rw [← hsne.out, hks] at hfk
                have KSM := Lib.hid (KSN.out.bel hb4)
                have KBM := Lib.hid (KBW.out.tr hb4)
                cases b
                · have HFK := Lib.hid hfk
                  clear hks hfk hbb
                  have hbase : w.heap.size + 1 ≤ wr.heap.size := by have := KBM.out.size; have := KZ.out; omega
                  have hbel : Below (w.heap.size + 1) W0 wr := by have := KBM.out; unfold Bel at this; rw [KZ.out] at this; exact this
                  have HBL := Lib.hid hbel
                  clear hbel
                  go_wp2_with (at_builtin; refine print_append_cells (w0 := W0) (w.heap.size + 1) rfl (.tmp 60) (.tmp 62) 63 9 (.string ⟨#[]⟩) 1 16 rfl Try.underlying63 info_str rfl (by decide) (by decide) _ sn.length (sn.map Value.string) [.string t] rfl (by show Value.slice (some ⟨_, 0, none⟩) 1 1 = Value.slice (some ⟨_, 0, none⟩) 1 1; simp) rfl (by intro u hu; simp at hu; subst hu; rfl) KSM.out HBL.out hbase (by omega) ?_; intro v2 w5 hr2 hbq hgq hat2)
                  have hsn2 : SeenS w5 (w.heap.size + 1) v2 (sn ++ [t]) := by unfold SeenS; rw [List.length_append, List.length_singleton, List.map_append]; exact hr2
                  have hbq2 : Bel W0 w5 := by unfold Bel; rw [KZ.out]; exact hbq
                  go_roundg (x.blocks.length - (k + 1))
                  case measure => omega
                  case rel => exact ⟨k + 1, sn ++ [t], by omega, by go_num, hsn2, by rw [List.length_append, List.length_singleton]; omega, HFK.out.symm, hbq2⟩
                · have HFK := Lib.hid hfk
                  clear hks hfk hbb
                  go_wp2
                  go_roundg (x.blocks.length - (k + 1))
                  case measure => omega
                  case rel => exact ⟨k + 1, sn, by omega, by go_num, KSM.out, by omega, HFK.out.symm, KBM.out⟩
        · have hfin : sn = (allT p (p.vols.take (i + 1))).foldl kstep [] := by
            rw [allT_take HX.out, ← hse.out, hsne.out, List.take_of_length_le (by rw [HPL.out]; omega)]
          have HFIN := Lib.hid hfin
          clear hfin
          go_wp2
          go_roundg (p.vols.length - (i + 1))
          case measure => omega
          case rel => exact ⟨i + 1, sn, by omega, by go_num, KSN.out, by omega, HFIN.out, KBW.out⟩
    · have hfin : ((seen.length : Nat) : Int) = 8 - freeN p.slots := by rw [hse.out, take_all hlt]; exact HK.out
      have HFIN := Lib.hid hfin
      obtain ⟨A3, c3, rfl, hc3, hC3⟩ := KSN.out.reads
      clear hC3 hfin
      go_wp2
      go_ret
      exact ⟨ret_int HFIN.out, KW.out.tr KBW.out⟩
theorem lgKinds_n {w : World} {A0 A1 : Option Addr} {c0 c1 : Nat} {p : Pool} {f : Int} (h : PoolIn w A0 A1 c0 c1 p) (hp : PoolP p) (hf : storeFree p.slots = f) :
    Calls Try.prog 47 #[.agg #[.slice A0 p.slots.length c0, .slice A1 p.vols.length c1]] w (Ret (.int .i64 (8 - f)) w) := by
  have := lgKinds_c h hp
  rw [← hp.free, hf] at this
  exact this
theorem drop_get {α} {xs : List α} {k : Nat} {x : α} (h : xs[k]? = some x) : xs.drop k = x :: xs.drop (k + 1) := by
  obtain ⟨hk, rfl⟩ := List.getElem?_eq_some_iff.1 h
  exact List.drop_eq_getElem_cons hk
/-- A piece that was written can be written anywhere. -/
theorem write_same {p q : Pool} {name : ByteArray} {b : Int} {text : ByteArray} (hp : PoolP p) (h : writeF p name b text = some q) (hne : text ≠ e0) {i : Nat} {v : Vol} (hv : q.vols[i]? = some v) {j : Nat} (hj : j < v.blocks.length) :
    ∃ y, writeF q v.name j text = some y ∧ PoolP y ∧ freeN q.slots ≤ freeN y.slots := by
  have hq := writeF_ok hp h
  obtain ⟨h0, h1, h2, htk⟩ := write_back_blk hp h
  obtain ⟨i', v', x', hw⟩ := hq.wr (t := name) h0 (by rw [h2]; exact h1)
  have hlen : b.toNat < (pieces p name).length := by rw [pieces_len] at h1; omega
  have hpc : pc q.slots x' = text := by
    have e1 := write_pieces hp h name
    rw [if_pos rfl] at e1
    have e2 : (pieces q name)[b.toNat]? = some text := by rw [e1, List.getElem?_set_self hlen]
    unfold pieces at e2
    rw [blksOf_at hw.idx hw.vol, List.getElem?_map, hw.blk] at e2
    exact Option.some.inj e2
  have hx : 0 < x' := by
    by_cases hx : 0 < x'
    · exact hx
    · unfold pc at hpc; rw [if_neg hx] at hpc; exact absurd hpc.symm hne
  obtain ⟨s, hs, _, _, hst⟩ := hq.blkM (List.mem_of_getElem? hw.vol) (List.mem_of_getElem? hw.blk) hx
  obtain ⟨i2, v2, x2, hw2⟩ := hq.wr (t := v.name) (b := j) (by omega) (by rw [lgBlks_len, blksOf_mem hq.v (List.mem_of_getElem? hv)]; omega)
  obtain ⟨y, hy, hfy, _⟩ := write_there hq hw2 htk hne hs (hst.symm.trans hpc)
  exact ⟨y, hy, writeF_ok hq hy, hfy⟩
theorem write_vols {p q : Pool} {name : ByteArray} {b : Int} {text : ByteArray} (hp : PoolP p) (h : writeF p name b text = some q) : 0 < q.vols.length := by
  have hq := writeF_ok hp h
  obtain ⟨h0, h1, h2, _⟩ := write_back_blk hp h
  have h3 := (lgBlks_pos hq (t := name)).1 (by omega)
  obtain ⟨x, hx, _⟩ := volIdx_mem.1 h3
  exact List.length_pos_of_mem hx
end Go.Proofs.Ytpobgjkmjlmafaa
/- The closed facts of the rows that do not depend on the law, and how a row's facts are put together one by one. -/



namespace Go.Proofs.Ytpobgjkmjlmafaa
open Go.ChangeShapes Go.WideShapes
set_option linter.unusedVariables false
theorem joined_of {P : Program} {f : FuncId} {fn : Func} {s : ChangeSpec} {c : OpenClaim}
    (h0 : (c.wf (OpenSpec.ofChange s)) = true)
    (h1 : (laidOutB P) = true)
    (h2 : (mapsRowed P) = true)
    (h3 : (fn.params.all (P.readableRec ·)) = true)
    (h4 : (namedTie P c.named s.vars) = true)
    (h5 : (c.stops == []) = true)
    (h6 : (P.stops == []) = true)
    (h7 : (c.knobs == []) = true)
    (h8 : (P.stopKnobs == []) = true)
    (h9 : (c.inPlace == P.inPlace f) = true)
    (h10 : (c.unfollowed == P.unfollowed f) = true)
    (h11 : (c.recurses == P.recurses f) = true)
    (h12 : (c.named == P.varsNamed f) = true)
    (h13 : (c.maps == (fn.params.toList ++ s.plain.varTypes P).any (P.mapsRec ·)) = true)
    (h14 : (c.ifaces == (fn.params.toList ++ s.plain.varTypes P).any (P.ifacesRec ·)) = true)
    (h15 : (c.mapsOut == P.mapsAmong fn.resultTypes.toList) = true)
    (h16 : (c.loops == (fn.params.toList ++ s.plain.varTypes P).any (P.loopsFrom ·)) = true)
    (h17 : (c.wideKeys == (fn.params.toList ++ s.plain.varTypes P ++ fn.resultTypes.toList).any (P.wideKeysFrom ·)) = true)
    (h18 : (s.vars.all (P.varReadable ·)) = true)
    (h19 : (fn.resultTypes.all (fun t => P.readableRec t && decide (t < P.types.size))) = true)
    (h20 : (c.ifacesOut == fn.resultTypes.toList.any (P.ifacesRec ·)) = true)
    (h21 : (c.loopsOut == fn.resultTypes.toList.any (P.loopsFrom ·)) = true)
    (h22 : (c.plainKeys == P.plainKeys) = true)
    (h23 : (c.shortTexts.isNone) = true)
    (h24 : (P.stopsHeard) = true)
    (h25 : (P.mayEnter) = true)
    (h26 : (c.lifted == P.liftsFinal) = true)
    (h27 : (P.make == some c.make) = true)
    (h28 : (c.kinds == (if c.domain.isEmpty then [] else fn.params.toList.map fun t => match P.underlying t with | some (.int k) => some k | _ => none)) = true)
    (h29 : (c.pinned == c.pinnedBy) = true)
    (h30 : (c.veiled == (fn.params.toList ++ s.plain.varTypes P ++ fn.resultTypes.toList).any (P.veiledRec ·)) = true)
    (h31 : (c.veiledFits P fn.params.toList (fn.params.toList ++ s.plain.varTypes P ++ fn.resultTypes.toList)) = true) : joinedFacts P f fn s c = true := by
  unfold joinedFacts
  simp only [Bool.and_eq_true]
  exact ⟨⟨⟨⟨⟨⟨⟨⟨⟨⟨⟨⟨⟨⟨⟨⟨⟨⟨⟨⟨⟨⟨⟨⟨⟨⟨⟨⟨⟨⟨⟨h0, h1⟩, h2⟩, h3⟩, h4⟩, h5⟩, h6⟩, h7⟩, h8⟩, h9⟩, h10⟩, h11⟩, h12⟩, h13⟩, h14⟩, h15⟩, h16⟩, h17⟩, h18⟩, h19⟩, h20⟩, h21⟩, h22⟩, h23⟩, h24⟩, h25⟩, h26⟩, h27⟩, h28⟩, h29⟩, h30⟩, h31⟩
def ordN : List Nat := [104, 97, 114, 110, 101, 115, 115, 32, 56, 52, 48, 98, 101, 101, 57, 56, 98, 48, 49, 53, 97, 97, 98, 97, 56, 99, 50, 49, 53, 55, 56, 56, 100, 54, 53, 51, 102, 57, 102, 98,
  54, 53, 97, 97, 55, 50, 48, 50, 51, 100, 56, 52, 98, 101, 50, 98, 57, 50, 48, 56, 56, 49, 53, 97, 100, 52, 51, 51, 50, 56, 52, 55, 32, 99, 117, 116, 32, 97, 116, 32,
  108, 111, 111, 112, 46, 101, 120, 97, 109, 112, 108, 101, 47, 103, 97, 114, 110, 101, 114, 47, 108, 97, 119, 115, 46, 70, 110, 69, 120, 97, 99, 116, 80, 111, 111, 108, 71, 111, 110, 101,
  32, 108, 111, 111, 112, 46, 101, 120, 97, 109, 112, 108, 101, 47, 103, 97, 114, 110, 101, 114, 47, 108, 97, 119, 115, 46, 70, 110, 80, 111, 111, 108, 69, 109, 112, 116, 121, 32, 108, 111,
  111, 112, 46, 101, 120, 97, 109, 112, 108, 101, 47, 103, 97, 114, 110, 101, 114, 47, 108, 97, 119, 115, 46, 70, 110, 71, 111, 110, 101, 32, 108, 111, 111, 112, 46, 101, 120, 97, 109, 112,
  108, 101, 47, 103, 97, 114, 110, 101, 114, 47, 108, 97, 119, 115, 46, 70, 110, 69, 120, 97, 99, 116, 80, 111, 111, 108, 87, 114, 105, 116, 101, 32, 108, 111, 111, 112, 46, 101, 120, 97,
  109, 112, 108, 101, 47, 103, 97, 114, 110, 101, 114, 47, 108, 97, 119, 115, 46, 70, 110, 87, 114, 105, 116, 101, 82, 111, 111, 109, 32, 108, 111, 111, 112, 46, 101, 120, 97, 109, 112, 108,
  101, 47, 103, 97, 114, 110, 101, 114, 47, 108, 97, 119, 115, 46, 70, 110, 87, 114, 105, 116, 101, 83, 97, 109, 101, 32, 108, 111, 111, 112, 46, 101, 120, 97, 109, 112, 108, 101, 47, 103,
  97, 114, 110, 101, 114, 47, 108, 97, 119, 115, 46, 70, 110, 87, 114, 105, 116, 101, 82, 101, 97, 100, 32, 108, 111, 111, 112, 46, 101, 120, 97, 109, 112, 108, 101, 47, 103, 97, 114, 110,
  101, 114, 47, 108, 97, 119, 115, 46, 70, 110, 87, 114, 105, 116, 101, 70, 114, 101, 101, 32, 108, 111, 111, 112, 46, 101, 120, 97, 109, 112, 108, 101, 47, 103, 97, 114, 110, 101, 114, 47,
  108, 97, 119, 115, 46, 70, 110, 87, 114, 105, 116, 101, 84, 119, 105, 99, 101, 32, 108, 111, 111, 112, 46, 101, 120, 97, 109, 112, 108, 101, 47, 103, 97, 114, 110, 101, 114, 47, 108, 97,
  119, 115, 46, 70, 110, 69, 120, 97, 99, 116, 80, 111, 111, 108, 77, 97, 107, 101, 32, 108, 111, 111, 112, 46, 101, 120, 97, 109, 112, 108, 101, 47, 103, 97, 114, 110, 101, 114, 47, 108,
  97, 119, 115, 46, 70, 110, 77, 97, 107, 101, 84, 119, 111, 32, 108, 111, 111, 112, 46, 101, 120, 97, 109, 112, 108, 101, 47, 103, 97, 114, 110, 101, 114, 47, 108, 97, 119, 115, 46, 70,
  110, 69, 120, 97, 99, 116, 80, 111, 111, 108, 67, 108, 111, 110, 101, 32, 108, 111, 111, 112, 46, 101, 120, 97, 109, 112, 108, 101, 47, 103, 97, 114, 110, 101, 114, 47, 108, 97, 119, 115,
  46, 70, 110, 77, 97, 107, 101, 32, 108, 111, 111, 112, 46, 101, 120, 97, 109, 112, 108, 101, 47, 103, 97, 114, 110, 101, 114, 47, 108, 97, 119, 115, 46, 70, 110, 67, 108, 111, 110, 101,
  84, 119, 111, 32, 108, 111, 111, 112, 46, 101, 120, 97, 109, 112, 108, 101, 47, 103, 97, 114, 110, 101, 114, 47, 108, 97, 119, 115, 46, 70, 110, 67, 108, 111, 110, 101, 32, 108, 111, 111,
  112, 46, 101, 120, 97, 109, 112, 108, 101, 47, 103, 97, 114, 110, 101, 114, 47, 108, 97, 119, 115, 46, 70, 110, 67, 108, 111, 110, 101, 71, 111, 110, 101, 32, 108, 111, 111, 112, 46, 101,
  120, 97, 109, 112, 108, 101, 47, 103, 97, 114, 110, 101, 114, 47, 108, 97, 119, 115, 46, 70, 110, 71, 111, 110, 101, 77, 97, 107, 101, 32, 108, 111, 111, 112, 46, 101, 120, 97, 109, 112,
  108, 101, 47, 103, 97, 114, 110, 101, 114, 47, 108, 97, 119, 115, 46, 70, 110, 67, 108, 111, 110, 101, 87, 114, 105, 116, 101, 32, 108, 111, 111, 112, 46, 101, 120, 97, 109, 112, 108, 101,
  47, 103, 97, 114, 110, 101, 114, 47, 108, 97, 119, 115, 46, 70, 110, 79, 112, 68, 111, 32, 108, 111, 111, 112, 46, 101, 120, 97, 109, 112, 108, 101, 47, 103, 97, 114, 110, 101, 114, 47,
  108, 97, 119, 115, 46, 70, 110, 79, 112, 65, 112, 97, 114, 116, 32, 108, 111, 111, 112, 46, 101, 120, 97, 109, 112, 108, 101, 47, 103, 97, 114, 110, 101, 114, 47, 108, 97, 119, 115, 46,
  70, 110, 79, 112, 84, 119, 105, 99, 101]
theorem ord_eq : Try.prog.initOrder = String.ofList (ordN.map Char.ofNat) := by kernel_rfl
theorem ord_list : Try.prog.initOrder.toList = ordN.map Char.ofNat := by rw [ord_eq, String.toList_ofList]
theorem jo_laid : laidOutB Try.prog = true := by kernel_rfl
theorem jo_maps : mapsRowed Try.prog = true := by kernel_rfl
theorem jo_stops : (Try.prog.stops == []) = true := by kernel_rfl
theorem jo_knobs : (Try.prog.stopKnobs == []) = true := by kernel_rfl
theorem jo_keys : (true == Try.prog.plainKeys) = true := by kernel_rfl
theorem jo_heard : Try.prog.stopsHeard = true := by kernel_rfl
theorem ord_words : behindMainWord (wordsSigns (ordN.map Char.ofNat)) = "cut".toList :: (behindMainWord (wordsSigns (ordN.map Char.ofNat))).tail := by kernel_rfl
theorem strip_cut (W : List (List Char)) : stripLifts liftWords ("cut".toList :: W) = ([], "cut".toList :: W) := by kernel_rfl
theorem jo_later : Try.prog.laysLater = false := by kernel_rfl
theorem jo_reflect : Try.prog.bearsReflect = false := by kernel_rfl
theorem jo_door : Try.prog.doorFits [] = true := by kernel_rfl
theorem cut_gc : ("cut".toList == "gc".toList) = false := by kernel_rfl
theorem cut_spec : ("cut".toList == "spec".toList) = false := by kernel_rfl
theorem cut_carried : ("cut".toList == "carried".toList) = false := by kernel_rfl
theorem cut_cut : ("cut".toList == "cut".toList) = true := by kernel_rfl
theorem some_cut : (some "cut".toList == some "cut".toList) = true := by kernel_rfl
theorem jo_enter : Try.prog.mayEnter = true := by
  rw [Program.mayEnter, ord_list, ord_words]
  generalize (behindMainWord (wordsSigns (ordN.map Char.ofNat))).tail = W
  simp only [strip_cut, cut_gc, cut_spec, cut_carried, List.head?_cons, some_cut, jo_later, jo_reflect, jo_door, Bool.or_self, Bool.false_and, Bool.not_false, Bool.or_true, Bool.and_self, List.contains_nil]
theorem jo_lifts : Try.prog.headLifts = [] := by
  unfold Program.headLifts
  rw [ord_list, ord_words]
  generalize (behindMainWord (wordsSigns (ordN.map Char.ofNat))).tail = W
  simp only [strip_cut, List.head?_cons, some_cut, if_true]
theorem jo_final : (false == Try.prog.liftsFinal) = true := by
  unfold Program.liftsFinal
  rw [jo_lifts, ord_list, ord_words]
  generalize (behindMainWord (wordsSigns (ordN.map Char.ofNat))).tail = W
  kernel_rfl
theorem jo_make : (Try.prog.make == some .cut) = true := by
  rw [Program.make, ord_list, ord_words]
  generalize (behindMainWord (wordsSigns (ordN.map Char.ofNat))).tail = W
  simp only [cut_gc, cut_spec, cut_cut, Bool.or_self, Bool.true_or, if_true, Bool.false_eq_true, if_false]
  kernel_rfl
end Go.Proofs.Ytpobgjkmjlmafaa
/- Arguments opened: a pool that came in, as lists. -/








namespace Go.Proofs.Ytpobgjkmjlmafaa
open Go.RowKit Go.Proofs.YtpobgjkmjlmafaaW.PrintWords Go.Joins Go.ChangeShapes Go.WideShapes Go.Deep
set_option linter.unusedVariables false
set_option linter.unusedSimpArgs false

theorem list_of {α : Type} {Q : Nat → α → Prop} : ∀ n : Nat, (∀ i, i < n → ∃ x, Q i x) → ∃ xs : List α, xs.length = n ∧ ∀ i x, xs[i]? = some x → Q i x
  | 0, _ => ⟨[], rfl, fun i x h => by simp at h⟩
  | n + 1, h => by
    obtain ⟨xs, hl, hx⟩ := list_of n fun i hi => h i (by omega)
    obtain ⟨x, hq⟩ := h n (by omega)
    refine ⟨xs ++ [x], by simp [hl], fun i y hy => ?_⟩
    by_cases hi : i < n
    · rw [List.getElem?_append_left (by omega)] at hy; exact hx i y hy
    · rw [List.getElem?_append_right (by omega), hl] at hy
      obtain rfl : i = n := by have := ltQ hy; simp at this; omega
      rw [Nat.sub_self] at hy
      obtain rfl := Option.some.inj hy
      exact hq
section
variable {H : Type} {enc : TypeId × Value → H} {P : Program} {w : World} {base : Nat} {spare : Nat → Bool} {held : Bool}
/-- A slice that came in, as a row of elements that can be read. -/
theorem open_row {α : Type} (d : Kd α) {Q : α → Prop} {t e : TypeId} {fuel : Nat} {cs : List Value} {x : DataW H × List MemPlace} (ht : P.underlying t = some (.slice e)) (hC : P.cellsOf e = d.sz)
    (hel : ∀ (n : Nat) (c : List Value) (y : DataW H × List MemPlace), c.length = d.sz → DataW.trod enc P w base spare held n e c = some y → ∃ z : α, d.K w z c ∧ Q z) (h : DataW.trod enc P w base spare held fuel t cs = some x) :
    ∃ A c, ∃ xs : List α, cs = [.slice A xs.length c] ∧ xs.length ≤ c ∧ d.C w A xs.length xs ∧ (∀ z ∈ xs, Q z) ∧ xs.length ≤ maxLen := by
  rcases open_slice ht h with ⟨rfl, _⟩ | ⟨a, len, cap, m, n, D, Pl, rfl, hb, hl, hm, hmm, _, hi⟩
  · exact ⟨none, 0, [], rfl, Nat.le_refl _, ⟨rfl, by simp, fun h => by simp at h⟩, fun z hz => by simp at hz, by simp⟩
  · have hlm : len ≤ m := by rw [hmm]; split <;> omega
    obtain ⟨xs, hxl, hx⟩ := list_of (Q := fun i z => (∃ c, c.length = d.sz ∧ d.K w z c ∧ ∀ j u, c[j]? = some u → w.cell? (a.add (i * d.sz + j)) = some u) ∧ Q z) len fun i hi' => by
      obtain ⟨c, hc, hy⟩ := hi i (by omega)
      rw [hC] at hc
      obtain ⟨_, hcl, hat⟩ := World.cells?_some hc
      obtain ⟨z, hz, hq⟩ := hel n c _ hcl hy
      refine ⟨z, ⟨c, hcl, hz, fun j u hu => ?_⟩, hq⟩
      rw [← Go.Deep.add_add, hat j (by rw [← hcl]; exact ltQ hu), hu]
    have hmx : (maxLen : Nat) ≤ 9223372036854775807 := by simp [maxLen]
    refine ⟨some a, cap, xs, by rw [hxl], by omega, ⟨rfl, by omega, fun _ => ⟨a, rfl, fun j p hp => ?_⟩⟩, fun z hz => ?_, by omega⟩
    · obtain ⟨c, h1, h2, h3⟩ := (hx j p hp).1
      exact ⟨c, h1, h2, h3⟩
    · obtain ⟨j, hj⟩ := List.getElem?_of_mem hz
      exact (hx j z hj).2
end
section
variable {H : Type} {enc : TypeId × Value → H} {w : World} {base : Nat} {spare : Nat → Bool} {held : Bool}
theorem big_max : (maxLen : Nat) ≤ 9223372036854775807 := by simp [maxLen]
end
end Go.Proofs.Ytpobgjkmjlmafaa
/- Arguments opened: a code of bytes that came in. -/


namespace Go.Proofs.Ytpobgjkmjlmafaa
open Go.RowKit Go.Proofs.YtpobgjkmjlmafaaW.PrintWords Go.Joins Go.ChangeShapes Go.WideShapes Go.Deep
set_option linter.unusedVariables false
set_option linter.unusedSimpArgs false

section
variable {H : Type} {enc : TypeId × Value → H} {w : World} {base : Nat} {spare : Nat → Bool} {held : Bool}
theorem open_byteE {n : Nat} {c : List Value} {y : DataW H × List MemPlace} (h : DataW.trod enc Try.prog w base spare held n 5 c = some y) : ∃ z : Int, kByte.K w z c ∧ 0 ≤ z ∧ z ≤ 255 := by
  obtain ⟨z, rfl, _, hw⟩ := DataW.trod_int Try.underlying5 h
  have hb := bounds_u8 hw
  exact ⟨z, rfl, hb.1, hb.2⟩
theorem cells_byte : Try.prog.cellsOf 5 = 1 := by kernel_rfl
set_option maxRecDepth 100000 in
theorem bytes_lt {r : Reach} {b0 : Nat} {ad : Addr} {n c : Nat} (h : Value.okWide Try.prog w r b0 37 (.slice (some ad) n c)) : ad.block < w.heap.size := by
  simp only [Value.okWide, Try.underlying37, Cell.okWide, Cell.ok, World.has] at h
  obtain ⟨_, _, _, _, row, cells, hs, _⟩ := h
  unfold World.shape? at hs
  by_cases hl : ad.block < w.heap.size
  · exact hl
  · rw [Array.getElem?_eq_none (by omega)] at hs
    cases hs
set_option maxRecDepth 100000 in
theorem open_bytes {r : Reach} {b0 : Nat} {v : Value} {d : DataW H} {p : List MemPlace} (hv : Value.okWide Try.prog w r b0 37 v) (h : DataW.Trod enc Try.prog w base spare held 37 v d p) :
    ∃ A n c, ∃ bs : List Int, v = .slice A n c ∧ CodeIn w A n c bs ∧ n ≤ 9223372036854775807 := by
  obtain ⟨a, len, cap, rfl⟩ := okWide_slice Try.underlying37 hv
  obtain ⟨fuel, hf⟩ := h
  obtain ⟨A, c, xs, e, hc, hC, hQ, hm⟩ := open_row kByte (Q := fun z => 0 ≤ z ∧ z ≤ 255) Try.underlying37 cells_byte (fun n c y hl h => by
    obtain ⟨z, hz, h0, h1⟩ := open_byteE h
    exact ⟨z, hz, h0, h1⟩) hf
  simp [Value.cells] at e
  obtain ⟨rfl, rfl, rfl⟩ := e
  have := big_max
  exact ⟨_, _, _, xs, rfl, ⟨rfl, hc, hC, hQ, fun ad e => by subst e; exact bytes_lt hv⟩, by omega⟩
end
end Go.Proofs.Ytpobgjkmjlmafaa

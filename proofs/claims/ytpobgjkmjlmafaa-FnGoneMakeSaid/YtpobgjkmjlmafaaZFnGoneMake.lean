/- The law FnGoneMake: its body walked. -/
import Derived.Test.YtpobgjkmjlmafaaZ5
namespace Go.Proofs.Ytpobgjkmjlmafaa
open Go.RowKit Go.Proofs.YtpobgjkmjlmafaaW.PrintWords Go.Proofs.YtpobgjkmjlmafaaW.PrintLast
set_option linter.unusedVariables false
set_option linter.unusedSimpArgs false

set_option maxHeartbeats 8000000 in
set_option maxRecDepth 10000 in
theorem lawFnGoneMake_c {w : World} {A : Option Addr} {n c : Nat} {bs : List Int} (h : CodeIn w A n c bs) (hn : n ≤ 9223372036854775807) :
    Calls Try.prog 19 #[.slice A n c] w (Ret (.bool true) w) := by
  have H := Lib.hid h
  clear h
  go_enter Try.func19, Try.ntmps19
  by_cases hlen : (1048576 : Int) < (n : Int)
  · go_wp2
    go_ret
    exact ⟨rfl, Below.refl _ _⟩
  go_wp2_with fail
  refine ((drawGone_c H.out hn).mono fun _ _ h => DrewG.new h).mono ?_
  rintro e w1 ⟨Ap, Bp, cp, dp, p, name, rfl, hs, hp, hin, hb⟩
  have HP := Lib.hid hp
  have HSp := Lib.hid hp.small
  have Ip := Lib.hid hin
  have KW := Lib.hid hb
  clear hp hin hb
  have HN : Hid (name.size ≤ 1048576) := hs
  clear hs
  cases hok : poolOk p
  · obtain ⟨q, hq, hqs⟩ : ∃ q, (chP p (goneF p name) = q ∧ chB p (goneF p name) = false) ∧ SmallP q := ⟨_, ch_bad hok _, noP_small⟩
    have HE := Lib.hid hq
    have HSq := Lib.hid hqs
    have HOK := Lib.hid hok
    clear hq hqs hok
    go_wp2_with fail
    have hnew := PVar.new Ip.out
    have hb : Bel w1 (w1.alloc (.cells #[.slice Ap p.slots.length cp, .slice Bp p.vols.length dp] 30)) := bel_alloc (Below.refl _ _) _
    generalize w1.alloc (.cells #[.slice Ap p.slots.length cp, .slice Bp p.vols.length dp] 30) = W2 at hnew hb ⊢
    replace Ip := Lib.hid (Ip.out.bel hb)
    replace KW := Lib.hid (KW.out.tr hb)
    obtain ⟨bkp, hbn⟩ : ∃ b, w1.heap.size = b := ⟨_, rfl⟩
    rw [hbn] at hnew ⊢
    have Pp := Lib.hid hnew
    clear hnew hb hbn Ip
    refine (specGone_n Pp.out.inn HSp.out HE.out).mono ?_
    rintro e w3 ⟨Awant, Bwant, cwant, dwant, rfl, hin, hb⟩
    replace Pp := Lib.hid (Pp.out.bel hb)
    replace KW := Lib.hid (KW.out.tr hb)
    have Iwant := Lib.hid hin
    clear hin hb
    have qp0 := Pp.out.c0
    have qp1 := Pp.out.c1
    have yp := Pp.out.lt
    go_wp2_with fail
    clear qp0 qp1 yp
    have hnew := PVar.new Iwant.out
    have hb : Bel w3 (w3.alloc (.cells #[.slice Awant q.slots.length cwant, .slice Bwant q.vols.length dwant] 30)) := bel_alloc (Below.refl _ _) _
    generalize w3.alloc (.cells #[.slice Awant q.slots.length cwant, .slice Bwant q.vols.length dwant] 30) = W4 at hnew hb ⊢
    replace Pp := Lib.hid (Pp.out.bel hb)
    replace Iwant := Lib.hid (Iwant.out.bel hb)
    replace KW := Lib.hid (KW.out.tr hb)
    obtain ⟨bkwant, hbn⟩ : ∃ b, w3.heap.size = b := ⟨_, rfl⟩
    rw [hbn] at hnew ⊢
    have Pwant := Lib.hid hnew
    clear hnew hb hbn Iwant
    refine (implGone_n Pp.out.inn HSp.out HE.out).mono ?_
    rintro e w5 ⟨Ax, Bx, cx, dx, rfl, hin, hb⟩
    replace Pp := Lib.hid (Pp.out.bel hb)
    replace Pwant := Lib.hid (Pwant.out.bel hb)
    replace KW := Lib.hid (KW.out.tr hb)
    have Ix := Lib.hid hin
    clear hin hb
    have qp0 := Pp.out.c0
    have qp1 := Pp.out.c1
    have yp := Pp.out.lt
    have qwant0 := Pwant.out.c0
    have qwant1 := Pwant.out.c1
    have ywant := Pwant.out.lt
    go_wp2_with fail
    clear qp0 qp1 yp qwant0 qwant1 ywant
    have hnew := PVar.new Ix.out
    have hb : Bel w5 (w5.alloc (.cells #[.slice Ax q.slots.length cx, .slice Bx q.vols.length dx] 30)) := bel_alloc (Below.refl _ _) _
    generalize w5.alloc (.cells #[.slice Ax q.slots.length cx, .slice Bx q.vols.length dx] 30) = W6 at hnew hb ⊢
    replace Pp := Lib.hid (Pp.out.bel hb)
    replace Pwant := Lib.hid (Pwant.out.bel hb)
    replace Ix := Lib.hid (Ix.out.bel hb)
    replace KW := Lib.hid (KW.out.tr hb)
    obtain ⟨bkx, hbn⟩ : ∃ b, w5.heap.size = b := ⟨_, rfl⟩
    rw [hbn] at hnew ⊢
    have Px := Lib.hid hnew
    clear hnew hb hbn Ix
    refine (lgPool_c Px.out.inn Pwant.out.inn HSq.out).mono ?_
    rintro e w7 ⟨rfl, hb⟩
    replace Pp := Lib.hid (Pp.out.bel hb)
    replace Pwant := Lib.hid (Pwant.out.bel hb)
    replace Px := Lib.hid (Px.out.bel hb)
    replace KW := Lib.hid (KW.out.tr hb)
    clear hb
    have qp0 := Pp.out.c0
    have qp1 := Pp.out.c1
    have yp := Pp.out.lt
    have qwant0 := Pwant.out.c0
    have qwant1 := Pwant.out.c1
    have ywant := Pwant.out.lt
    have qx0 := Px.out.c0
    have qx1 := Px.out.c1
    have yx := Px.out.lt
    go_wp2_with fail
    clear qp0 qp1 yp qwant0 qwant1 ywant qx0 qx1 yx
    refine (lgPool_c Px.out.inn Pwant.out.inn HSq.out).mono ?_
    rintro e w8 ⟨rfl, hb⟩
    replace Pp := Lib.hid (Pp.out.bel hb)
    replace Pwant := Lib.hid (Pwant.out.bel hb)
    replace Px := Lib.hid (Px.out.bel hb)
    replace KW := Lib.hid (KW.out.tr hb)
    clear hb
    have qp0 := Pp.out.c0
    have qp1 := Pp.out.c1
    have yp := Pp.out.lt
    have qwant0 := Pwant.out.c0
    have qwant1 := Pwant.out.c1
    have ywant := Pwant.out.lt
    have qx0 := Px.out.c0
    have qx1 := Px.out.c1
    have yx := Px.out.lt
    go_wp2
    go_ret
    exact ⟨rfl, KW.out⟩
  have HV := Lib.hid (poolOk_iff.1 hok)
  have HOK := Lib.hid hok
  clear hok
  cases hF : goneF p name
  · have HE := Lib.hid (ch_none HV.out hF)
    clear hF
    go_wp2_with fail
    have hnew := PVar.new Ip.out
    have hb : Bel w1 (w1.alloc (.cells #[.slice Ap p.slots.length cp, .slice Bp p.vols.length dp] 30)) := bel_alloc (Below.refl _ _) _
    generalize w1.alloc (.cells #[.slice Ap p.slots.length cp, .slice Bp p.vols.length dp] 30) = W2 at hnew hb ⊢
    replace Ip := Lib.hid (Ip.out.bel hb)
    replace KW := Lib.hid (KW.out.tr hb)
    obtain ⟨bkp, hbn⟩ : ∃ b, w1.heap.size = b := ⟨_, rfl⟩
    rw [hbn] at hnew ⊢
    have Pp := Lib.hid hnew
    clear hnew hb hbn Ip
    refine (specGone_n Pp.out.inn HSp.out HE.out).mono ?_
    rintro e w3 ⟨Awant, Bwant, cwant, dwant, rfl, hin, hb⟩
    replace Pp := Lib.hid (Pp.out.bel hb)
    replace KW := Lib.hid (KW.out.tr hb)
    have Iwant := Lib.hid hin
    clear hin hb
    have qp0 := Pp.out.c0
    have qp1 := Pp.out.c1
    have yp := Pp.out.lt
    go_wp2_with fail
    clear qp0 qp1 yp
    have hnew := PVar.new Iwant.out
    have hb : Bel w3 (w3.alloc (.cells #[.slice Awant p.slots.length cwant, .slice Bwant p.vols.length dwant] 30)) := bel_alloc (Below.refl _ _) _
    generalize w3.alloc (.cells #[.slice Awant p.slots.length cwant, .slice Bwant p.vols.length dwant] 30) = W4 at hnew hb ⊢
    replace Pp := Lib.hid (Pp.out.bel hb)
    replace Iwant := Lib.hid (Iwant.out.bel hb)
    replace KW := Lib.hid (KW.out.tr hb)
    obtain ⟨bkwant, hbn⟩ : ∃ b, w3.heap.size = b := ⟨_, rfl⟩
    rw [hbn] at hnew ⊢
    have Pwant := Lib.hid hnew
    clear hnew hb hbn Iwant
    refine (implGone_n Pp.out.inn HSp.out HE.out).mono ?_
    rintro e w5 ⟨Ax, Bx, cx, dx, rfl, hin, hb⟩
    replace Pp := Lib.hid (Pp.out.bel hb)
    replace Pwant := Lib.hid (Pwant.out.bel hb)
    replace KW := Lib.hid (KW.out.tr hb)
    have Ix := Lib.hid hin
    clear hin hb
    have qp0 := Pp.out.c0
    have qp1 := Pp.out.c1
    have yp := Pp.out.lt
    have qwant0 := Pwant.out.c0
    have qwant1 := Pwant.out.c1
    have ywant := Pwant.out.lt
    go_wp2_with fail
    clear qp0 qp1 yp qwant0 qwant1 ywant
    have hnew := PVar.new Ix.out
    have hb : Bel w5 (w5.alloc (.cells #[.slice Ax p.slots.length cx, .slice Bx p.vols.length dx] 30)) := bel_alloc (Below.refl _ _) _
    generalize w5.alloc (.cells #[.slice Ax p.slots.length cx, .slice Bx p.vols.length dx] 30) = W6 at hnew hb ⊢
    replace Pp := Lib.hid (Pp.out.bel hb)
    replace Pwant := Lib.hid (Pwant.out.bel hb)
    replace Ix := Lib.hid (Ix.out.bel hb)
    replace KW := Lib.hid (KW.out.tr hb)
    obtain ⟨bkx, hbn⟩ : ∃ b, w5.heap.size = b := ⟨_, rfl⟩
    rw [hbn] at hnew ⊢
    have Px := Lib.hid hnew
    clear hnew hb hbn Ix
    refine (lgPool_c Px.out.inn Pwant.out.inn HSp.out).mono ?_
    rintro e w7 ⟨rfl, hb⟩
    replace Pp := Lib.hid (Pp.out.bel hb)
    replace Pwant := Lib.hid (Pwant.out.bel hb)
    replace Px := Lib.hid (Px.out.bel hb)
    replace KW := Lib.hid (KW.out.tr hb)
    clear hb
    have qp0 := Pp.out.c0
    have qp1 := Pp.out.c1
    have yp := Pp.out.lt
    have qwant0 := Pwant.out.c0
    have qwant1 := Pwant.out.c1
    have ywant := Pwant.out.lt
    have qx0 := Px.out.c0
    have qx1 := Px.out.c1
    have yx := Px.out.lt
    go_wp2_with fail
    clear qp0 qp1 yp qwant0 qwant1 ywant qx0 qx1 yx
    refine (lgPool_c Px.out.inn Pwant.out.inn HSp.out).mono ?_
    rintro e w8 ⟨rfl, hb⟩
    replace Pp := Lib.hid (Pp.out.bel hb)
    replace Pwant := Lib.hid (Pwant.out.bel hb)
    replace Px := Lib.hid (Px.out.bel hb)
    replace KW := Lib.hid (KW.out.tr hb)
    clear hb
    have qp0 := Pp.out.c0
    have qp1 := Pp.out.c1
    have yp := Pp.out.lt
    have qwant0 := Pwant.out.c0
    have qwant1 := Pwant.out.c1
    have ywant := Pwant.out.lt
    have qx0 := Px.out.c0
    have qx1 := Px.out.c1
    have yx := Px.out.lt
    go_wp2
    go_ret
    exact ⟨rfl, KW.out⟩
  rename_i q
  have HE := Lib.hid (ch_some HV.out hF)
  have hqv := goneF_ok HV.out hF
  have HSq := Lib.hid hqv.small
  have HVq := Lib.hid hqv
  have HOKq := Lib.hid (poolOk_iff.2 hqv)
  clear hqv
  obtain ⟨hnm, h1, h6, y, hy, hrd, hot, hfr⟩ := gone_make HV.out hF
  obtain ⟨m, hm⟩ : ∃ m : Nat, lgBlks p.vols name = m := ⟨(lgBlks p.vols name).toNat, by omega⟩
  rw [hm] at h1 h6 hy hrd
  have HBL := Lib.hid hm
  have HE2 := Lib.hid (ch_some HVq.out hy)
  have hyp := makeF_ok HVq.out hy
  have HSy := Lib.hid hyp.small
  have HRD := Lib.hid hrd
  have HOT := Lib.hid hot
  obtain ⟨fp, hfp⟩ : ∃ f, storeFree q.slots = f := ⟨_, rfl⟩
  have hfx : storeFree y.slots = fp := by rw [← hfp, hyp.free, HVq.out.free]; exact hfr
  have HFX := Lib.hid hfx
  have HFP := Lib.hid hfp
  clear hF hfx hfp hy hyp hrd hot hfr hm hnm
  go_wp2_with fail
  have hnew := PVar.new Ip.out
  have hb : Bel w1 (w1.alloc (.cells #[.slice Ap p.slots.length cp, .slice Bp p.vols.length dp] 30)) := bel_alloc (Below.refl _ _) _
  generalize w1.alloc (.cells #[.slice Ap p.slots.length cp, .slice Bp p.vols.length dp] 30) = W2 at hnew hb ⊢
  replace Ip := Lib.hid (Ip.out.bel hb)
  replace KW := Lib.hid (KW.out.tr hb)
  obtain ⟨bkp, hbn⟩ : ∃ b, w1.heap.size = b := ⟨_, rfl⟩
  rw [hbn] at hnew ⊢
  have Pp := Lib.hid hnew
  clear hnew hb hbn Ip
  refine (specGone_n Pp.out.inn HSp.out HE.out).mono ?_
  rintro e w3 ⟨Awant, Bwant, cwant, dwant, rfl, hin, hb⟩
  replace Pp := Lib.hid (Pp.out.bel hb)
  replace KW := Lib.hid (KW.out.tr hb)
  have Iwant := Lib.hid hin
  clear hin hb
  have qp0 := Pp.out.c0
  have qp1 := Pp.out.c1
  have yp := Pp.out.lt
  go_wp2_with fail
  clear qp0 qp1 yp
  have hnew := PVar.new Iwant.out
  have hb : Bel w3 (w3.alloc (.cells #[.slice Awant q.slots.length cwant, .slice Bwant q.vols.length dwant] 30)) := bel_alloc (Below.refl _ _) _
  generalize w3.alloc (.cells #[.slice Awant q.slots.length cwant, .slice Bwant q.vols.length dwant] 30) = W4 at hnew hb ⊢
  replace Pp := Lib.hid (Pp.out.bel hb)
  replace Iwant := Lib.hid (Iwant.out.bel hb)
  replace KW := Lib.hid (KW.out.tr hb)
  obtain ⟨bkwant, hbn⟩ : ∃ b, w3.heap.size = b := ⟨_, rfl⟩
  rw [hbn] at hnew ⊢
  have Pwant := Lib.hid hnew
  clear hnew hb hbn Iwant
  refine (implGone_n Pp.out.inn HSp.out HE.out).mono ?_
  rintro e w5 ⟨Ax, Bx, cx, dx, rfl, hin, hb⟩
  replace Pp := Lib.hid (Pp.out.bel hb)
  replace Pwant := Lib.hid (Pwant.out.bel hb)
  replace KW := Lib.hid (KW.out.tr hb)
  have Ix := Lib.hid hin
  clear hin hb
  have qp0 := Pp.out.c0
  have qp1 := Pp.out.c1
  have yp := Pp.out.lt
  have qwant0 := Pwant.out.c0
  have qwant1 := Pwant.out.c1
  have ywant := Pwant.out.lt
  go_wp2_with fail
  clear qp0 qp1 yp qwant0 qwant1 ywant
  have hnew := PVar.new Ix.out
  have hb : Bel w5 (w5.alloc (.cells #[.slice Ax q.slots.length cx, .slice Bx q.vols.length dx] 30)) := bel_alloc (Below.refl _ _) _
  generalize w5.alloc (.cells #[.slice Ax q.slots.length cx, .slice Bx q.vols.length dx] 30) = W6 at hnew hb ⊢
  replace Pp := Lib.hid (Pp.out.bel hb)
  replace Pwant := Lib.hid (Pwant.out.bel hb)
  replace Ix := Lib.hid (Ix.out.bel hb)
  replace KW := Lib.hid (KW.out.tr hb)
  obtain ⟨bkx, hbn⟩ : ∃ b, w5.heap.size = b := ⟨_, rfl⟩
  rw [hbn] at hnew ⊢
  have Px := Lib.hid hnew
  clear hnew hb hbn Ix
  refine (lgPool_c Px.out.inn Pwant.out.inn HSq.out).mono ?_
  rintro e w7 ⟨rfl, hb⟩
  replace Pp := Lib.hid (Pp.out.bel hb)
  replace Pwant := Lib.hid (Pwant.out.bel hb)
  replace Px := Lib.hid (Px.out.bel hb)
  replace KW := Lib.hid (KW.out.tr hb)
  clear hb
  have qp0 := Pp.out.c0
  have qp1 := Pp.out.c1
  have yp := Pp.out.lt
  have qwant0 := Pwant.out.c0
  have qwant1 := Pwant.out.c1
  have ywant := Pwant.out.lt
  have qx0 := Px.out.c0
  have qx1 := Px.out.c1
  have yx := Px.out.lt
  go_wp2_with fail
  clear qp0 qp1 yp qwant0 qwant1 ywant qx0 qx1 yx
  refine (blocks_n Pp.out.inn HSp.out HBL.out).mono ?_
  rintro e w8 ⟨rfl, hb⟩
  replace Pp := Lib.hid (Pp.out.bel hb)
  replace Pwant := Lib.hid (Pwant.out.bel hb)
  replace Px := Lib.hid (Px.out.bel hb)
  replace KW := Lib.hid (KW.out.tr hb)
  clear hb
  have qp0 := Pp.out.c0
  have qp1 := Pp.out.c1
  have yp := Pp.out.lt
  have qwant0 := Pwant.out.c0
  have qwant1 := Pwant.out.c1
  have ywant := Pwant.out.lt
  have qx0 := Px.out.c0
  have qx1 := Px.out.c1
  have yx := Px.out.lt
  go_wp2_with fail
  clear qp0 qp1 yp qwant0 qwant1 ywant qx0 qx1 yx
  refine (implMake_n Px.out.inn HSq.out HN.out HE2.out).mono ?_
  rintro e w9 ⟨Ay, By, cy, dy, rfl, hin, hb⟩
  replace Pp := Lib.hid (Pp.out.bel hb)
  replace Pwant := Lib.hid (Pwant.out.bel hb)
  replace Px := Lib.hid (Px.out.bel hb)
  replace KW := Lib.hid (KW.out.tr hb)
  have Iy := Lib.hid hin
  clear hin hb
  have qp0 := Pp.out.c0
  have qp1 := Pp.out.c1
  have yp := Pp.out.lt
  have qwant0 := Pwant.out.c0
  have qwant1 := Pwant.out.c1
  have ywant := Pwant.out.lt
  have qx0 := Px.out.c0
  have qx1 := Px.out.c1
  have yx := Px.out.lt
  go_wp2_with fail
  clear qp0 qp1 yp qwant0 qwant1 ywant qx0 qx1 yx
  have hnew := PVar.new Iy.out
  have hb : Bel w9 (w9.alloc (.cells #[.slice Ay y.slots.length cy, .slice By y.vols.length dy] 30)) := bel_alloc (Below.refl _ _) _
  generalize w9.alloc (.cells #[.slice Ay y.slots.length cy, .slice By y.vols.length dy] 30) = W10 at hnew hb ⊢
  replace Pp := Lib.hid (Pp.out.bel hb)
  replace Pwant := Lib.hid (Pwant.out.bel hb)
  replace Px := Lib.hid (Px.out.bel hb)
  replace Iy := Lib.hid (Iy.out.bel hb)
  replace KW := Lib.hid (KW.out.tr hb)
  obtain ⟨bky, hbn⟩ : ∃ b, w9.heap.size = b := ⟨_, rfl⟩
  rw [hbn] at hnew ⊢
  have Py := Lib.hid hnew
  clear hnew hb hbn Iy
  go_loopg [12] m (fun g v W => ∃ k : Nat, g + k = m ∧ v = .int .i64 k ∧ Bel W10 W)
  case atStart => exact ⟨0, rfl, rfl, Below.refl _ _⟩
  case round =>
    obtain ⟨k, hk, rfl, hW⟩ := hrel
    have BW := Lib.hid hW
    replace Pp := Lib.hid (Pp.out.bel hW)
    replace Pwant := Lib.hid (Pwant.out.bel hW)
    replace Px := Lib.hid (Px.out.bel hW)
    replace Py := Lib.hid (Py.out.bel hW)
    replace KW := Lib.hid (KW.out.tr hW)
    clear hW
    by_cases hlt : k < m
    · have HR := Lib.hid (HRD.out k (by omega))
      have qp0 := Pp.out.c0
      have qp1 := Pp.out.c1
      have yp := Pp.out.lt
      have qwant0 := Pwant.out.c0
      have qwant1 := Pwant.out.c1
      have ywant := Pwant.out.lt
      have qx0 := Px.out.c0
      have qx1 := Px.out.c1
      have yx := Px.out.lt
      have qy0 := Py.out.c0
      have qy1 := Py.out.c1
      have yy := Py.out.lt
      go_wp2_with fail
      clear qp0 qp1 yp qwant0 qwant1 ywant qx0 qx1 yx qy0 qy1 yy
      refine (read_n Py.out.inn HSy.out HR.out).mono ?_
      rintro e w11 ⟨rfl, hb⟩
      replace Pp := Lib.hid (Pp.out.bel hb)
      replace Pwant := Lib.hid (Pwant.out.bel hb)
      replace Px := Lib.hid (Px.out.bel hb)
      replace Py := Lib.hid (Py.out.bel hb)
      replace BW := Lib.hid (BW.out.tr hb)
      replace KW := Lib.hid (KW.out.tr hb)
      clear hb
      have qp0 := Pp.out.c0
      have qp1 := Pp.out.c1
      have yp := Pp.out.lt
      have qwant0 := Pwant.out.c0
      have qwant1 := Pwant.out.c1
      have ywant := Pwant.out.lt
      have qx0 := Px.out.c0
      have qx1 := Px.out.c1
      have yx := Px.out.lt
      have qy0 := Py.out.c0
      have qy1 := Py.out.c1
      have yy := Py.out.lt
      go_wp2
      go_roundg (m - (k + 1))
      case measure => omega
      case rel => exact ⟨k + 1, by omega, by go_num, BW.out⟩
    · skip
      have qp0 := Pp.out.c0
      have qp1 := Pp.out.c1
      have yp := Pp.out.lt
      have qwant0 := Pwant.out.c0
      have qwant1 := Pwant.out.c1
      have ywant := Pwant.out.lt
      have qx0 := Px.out.c0
      have qx1 := Px.out.c1
      have yx := Px.out.lt
      have qy0 := Py.out.c0
      have qy1 := Py.out.c1
      have yy := Py.out.lt
      go_wp2_with fail
      clear qp0 qp1 yp qwant0 qwant1 ywant qx0 qx1 yx qy0 qy1 yy
      have gp0 := gb_cell Pp.out.c0
      have gp1 := gb_cell Pp.out.c1
      have gx0 := gb_cell Px.out.c0
      have gx1 := gb_cell Px.out.c1
      have gy0 := gb_cell Py.out.c0
      have gy1 := gb_cell Py.out.c1
      refine wp_region_gb (by kernel_rfl) (by kernel_rfl) ?_
      repeat (first | go_big_quiet_skip | (go_big_quiet_want; go_big_quiet_op; first | go_big_quiet_on | (apply Exists.intro; refine ⟨fun _ => ?_, ?_⟩; (first | (go_at_call 40; exact gb_call (lgOthers_c (Pp.out.bel (GB.h _)).inn (Py.out.bel (GB.h _)).inn HSp.out HSy.out HOT.out)) | (go_at_call 41; exact gb_call (free_n (Py.out.bel (GB.h _)).inn HSy.out HFX.out)) | (go_at_call 41; exact gb_call (free_n (Px.out.bel (GB.h _)).inn HSq.out HFP.out))); go_big_quiet_on)))
      refine wpQuiet_nil ?_
      rintro w11 ⟨⟨_, hb⟩, rfl⟩
      replace hb : Bel wr w11 := hb
      clear gp0 gp1 gx0 gx1 gy0 gy1
      replace Pp := Lib.hid (Pp.out.bel hb)
      replace Pwant := Lib.hid (Pwant.out.bel hb)
      replace Px := Lib.hid (Px.out.bel hb)
      replace Py := Lib.hid (Py.out.bel hb)
      replace BW := Lib.hid (BW.out.tr hb)
      replace KW := Lib.hid (KW.out.tr hb)
      clear hb
      have qp0 := Pp.out.c0
      have qp1 := Pp.out.c1
      have yp := Pp.out.lt
      have qwant0 := Pwant.out.c0
      have qwant1 := Pwant.out.c1
      have ywant := Pwant.out.lt
      have qx0 := Px.out.c0
      have qx1 := Px.out.c1
      have yx := Px.out.lt
      have qy0 := Py.out.c0
      have qy1 := Py.out.c1
      have yy := Py.out.lt
      go_wp2
      go_ret
      exact ⟨rfl, KW.out⟩
end Go.Proofs.Ytpobgjkmjlmafaa

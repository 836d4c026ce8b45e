/- The law FnCloneTwo: its body walked. -/
import Derived.Test.YtpobgjkmjlmafaaZ5
namespace Go.Proofs.Ytpobgjkmjlmafaa
open Go.RowKit Go.Proofs.YtpobgjkmjlmafaaW.PrintWords Go.Proofs.YtpobgjkmjlmafaaW.PrintLast
set_option linter.unusedVariables false
set_option linter.unusedSimpArgs false

set_option maxHeartbeats 8000000 in
set_option maxRecDepth 10000 in
theorem lawFnCloneTwo_c {w : World} {A : Option Addr} {n c : Nat} {bs : List Int} (h : CodeIn w A n c bs) (hn : n ≤ 9223372036854775807) :
    Calls Try.prog 16 #[.slice A n c] w (Ret (.bool true) w) := by
  have H := Lib.hid h
  clear h
  go_enter Try.func16, Try.ntmps16
  by_cases hlen : (1048576 : Int) < (n : Int)
  · go_wp2
    go_ret
    exact ⟨rfl, Below.refl _ _⟩
  go_wp2_with fail
  refine ((drawClone_c H.out hn).mono fun _ _ h => DrewC.new h).mono ?_
  rintro e w1 ⟨Ap, Bp, cp, dp, p, fr, dst, rfl, hs, hd, hp, hin, hb⟩
  have HP := Lib.hid hp
  have HSp := Lib.hid hp.small
  have Ip := Lib.hid hin
  have KW := Lib.hid hb
  clear hp hin hb
  have HN : Hid (dst.size ≤ 1048576) := five_size hd
  have HFR := Lib.hid hs
  clear hd hs
  cases hok : poolOk p
  · obtain ⟨q, hq, hqs⟩ : ∃ q, (chP p (cloneF p fr dst) = q ∧ chB p (cloneF p fr dst) = false) ∧ SmallP q := ⟨_, ch_bad hok _, noP_small⟩
    have HE := Lib.hid hq
    have HSq := Lib.hid hqs
    have HOK := Lib.hid hok
    clear hq hqs hok
    go_wp2_with fail
    have hnew := PVar.new Ip.out
    have hb : Bel w1 (w1.alloc (.cells #[.slice Ap p.slots.length cp, .slice Bp p.vols.length dp] 30)) := bel_alloc (Below.refl _ _) _
    generalize w1.alloc (.cells #[.slice Ap p.slots.length cp, .slice Bp p.vols.length dp] 30) = W2 at hnew hb ⊢
    replace Ip := Lib.hid (Ip.out.bel hb)
    replace KW := Lib.hid (KW.out.tr hb)
    obtain ⟨bkp, hbn⟩ : ∃ b, w1.heap.size = b := ⟨_, rfl⟩
    rw [hbn] at hnew ⊢
    have Pp := Lib.hid hnew
    clear hnew hb hbn Ip
    refine (specClone_n Pp.out.inn HSp.out HN.out HE.out).mono ?_
    rintro e w3 ⟨Awant, Bwant, cwant, dwant, rfl, hin, hb⟩
    replace Pp := Lib.hid (Pp.out.bel hb)
    replace KW := Lib.hid (KW.out.tr hb)
    have Iwant := Lib.hid hin
    clear hin hb
    have qp0 := Pp.out.c0
    have qp1 := Pp.out.c1
    have yp := Pp.out.lt
    go_wp2_with fail
    clear qp0 qp1 yp
    have hnew := PVar.new Iwant.out
    have hb : Bel w3 (w3.alloc (.cells #[.slice Awant q.slots.length cwant, .slice Bwant q.vols.length dwant] 30)) := bel_alloc (Below.refl _ _) _
    generalize w3.alloc (.cells #[.slice Awant q.slots.length cwant, .slice Bwant q.vols.length dwant] 30) = W4 at hnew hb ⊢
    replace Pp := Lib.hid (Pp.out.bel hb)
    replace Iwant := Lib.hid (Iwant.out.bel hb)
    replace KW := Lib.hid (KW.out.tr hb)
    obtain ⟨bkwant, hbn⟩ : ∃ b, w3.heap.size = b := ⟨_, rfl⟩
    rw [hbn] at hnew ⊢
    have Pwant := Lib.hid hnew
    clear hnew hb hbn Iwant
    refine (implClone_n Pp.out.inn HSp.out HN.out HE.out).mono ?_
    rintro e w5 ⟨Ax, Bx, cx, dx, rfl, hin, hb⟩
    replace Pp := Lib.hid (Pp.out.bel hb)
    replace Pwant := Lib.hid (Pwant.out.bel hb)
    replace KW := Lib.hid (KW.out.tr hb)
    have Ix := Lib.hid hin
    clear hin hb
    have qp0 := Pp.out.c0
    have qp1 := Pp.out.c1
    have yp := Pp.out.lt
    have qwant0 := Pwant.out.c0
    have qwant1 := Pwant.out.c1
    have ywant := Pwant.out.lt
    go_wp2_with fail
    clear qp0 qp1 yp qwant0 qwant1 ywant
    have hnew := PVar.new Ix.out
    have hb : Bel w5 (w5.alloc (.cells #[.slice Ax q.slots.length cx, .slice Bx q.vols.length dx] 30)) := bel_alloc (Below.refl _ _) _
    generalize w5.alloc (.cells #[.slice Ax q.slots.length cx, .slice Bx q.vols.length dx] 30) = W6 at hnew hb ⊢
    replace Pp := Lib.hid (Pp.out.bel hb)
    replace Pwant := Lib.hid (Pwant.out.bel hb)
    replace Ix := Lib.hid (Ix.out.bel hb)
    replace KW := Lib.hid (KW.out.tr hb)
    obtain ⟨bkx, hbn⟩ : ∃ b, w5.heap.size = b := ⟨_, rfl⟩
    rw [hbn] at hnew ⊢
    have Px := Lib.hid hnew
    clear hnew hb hbn Ix
    refine (lgPool_c Px.out.inn Pwant.out.inn HSq.out).mono ?_
    rintro e w7 ⟨rfl, hb⟩
    replace Pp := Lib.hid (Pp.out.bel hb)
    replace Pwant := Lib.hid (Pwant.out.bel hb)
    replace Px := Lib.hid (Px.out.bel hb)
    replace KW := Lib.hid (KW.out.tr hb)
    clear hb
    have qp0 := Pp.out.c0
    have qp1 := Pp.out.c1
    have yp := Pp.out.lt
    have qwant0 := Pwant.out.c0
    have qwant1 := Pwant.out.c1
    have ywant := Pwant.out.lt
    have qx0 := Px.out.c0
    have qx1 := Px.out.c1
    have yx := Px.out.lt
    go_wp2_with fail
    clear qp0 qp1 yp qwant0 qwant1 ywant qx0 qx1 yx
    refine (lgPool_c Px.out.inn Pwant.out.inn HSq.out).mono ?_
    rintro e w8 ⟨rfl, hb⟩
    replace Pp := Lib.hid (Pp.out.bel hb)
    replace Pwant := Lib.hid (Pwant.out.bel hb)
    replace Px := Lib.hid (Px.out.bel hb)
    replace KW := Lib.hid (KW.out.tr hb)
    clear hb
    have qp0 := Pp.out.c0
    have qp1 := Pp.out.c1
    have yp := Pp.out.lt
    have qwant0 := Pwant.out.c0
    have qwant1 := Pwant.out.c1
    have ywant := Pwant.out.lt
    have qx0 := Px.out.c0
    have qx1 := Px.out.c1
    have yx := Px.out.lt
    go_wp2
    go_ret
    exact ⟨rfl, KW.out⟩
  have HV := Lib.hid (poolOk_iff.1 hok)
  have HOK := Lib.hid hok
  clear hok
  cases hF : cloneF p fr dst
  · have HE := Lib.hid (ch_none HV.out hF)
    clear hF
    go_wp2_with fail
    have hnew := PVar.new Ip.out
    have hb : Bel w1 (w1.alloc (.cells #[.slice Ap p.slots.length cp, .slice Bp p.vols.length dp] 30)) := bel_alloc (Below.refl _ _) _
    generalize w1.alloc (.cells #[.slice Ap p.slots.length cp, .slice Bp p.vols.length dp] 30) = W2 at hnew hb ⊢
    replace Ip := Lib.hid (Ip.out.bel hb)
    replace KW := Lib.hid (KW.out.tr hb)
    obtain ⟨bkp, hbn⟩ : ∃ b, w1.heap.size = b := ⟨_, rfl⟩
    rw [hbn] at hnew ⊢
    have Pp := Lib.hid hnew
    clear hnew hb hbn Ip
    refine (specClone_n Pp.out.inn HSp.out HN.out HE.out).mono ?_
    rintro e w3 ⟨Awant, Bwant, cwant, dwant, rfl, hin, hb⟩
    replace Pp := Lib.hid (Pp.out.bel hb)
    replace KW := Lib.hid (KW.out.tr hb)
    have Iwant := Lib.hid hin
    clear hin hb
    have qp0 := Pp.out.c0
    have qp1 := Pp.out.c1
    have yp := Pp.out.lt
    go_wp2_with fail
    clear qp0 qp1 yp
    have hnew := PVar.new Iwant.out
    have hb : Bel w3 (w3.alloc (.cells #[.slice Awant p.slots.length cwant, .slice Bwant p.vols.length dwant] 30)) := bel_alloc (Below.refl _ _) _
    generalize w3.alloc (.cells #[.slice Awant p.slots.length cwant, .slice Bwant p.vols.length dwant] 30) = W4 at hnew hb ⊢
    replace Pp := Lib.hid (Pp.out.bel hb)
    replace Iwant := Lib.hid (Iwant.out.bel hb)
    replace KW := Lib.hid (KW.out.tr hb)
    obtain ⟨bkwant, hbn⟩ : ∃ b, w3.heap.size = b := ⟨_, rfl⟩
    rw [hbn] at hnew ⊢
    have Pwant := Lib.hid hnew
    clear hnew hb hbn Iwant
    refine (implClone_n Pp.out.inn HSp.out HN.out HE.out).mono ?_
    rintro e w5 ⟨Ax, Bx, cx, dx, rfl, hin, hb⟩
    replace Pp := Lib.hid (Pp.out.bel hb)
    replace Pwant := Lib.hid (Pwant.out.bel hb)
    replace KW := Lib.hid (KW.out.tr hb)
    have Ix := Lib.hid hin
    clear hin hb
    have qp0 := Pp.out.c0
    have qp1 := Pp.out.c1
    have yp := Pp.out.lt
    have qwant0 := Pwant.out.c0
    have qwant1 := Pwant.out.c1
    have ywant := Pwant.out.lt
    go_wp2_with fail
    clear qp0 qp1 yp qwant0 qwant1 ywant
    have hnew := PVar.new Ix.out
    have hb : Bel w5 (w5.alloc (.cells #[.slice Ax p.slots.length cx, .slice Bx p.vols.length dx] 30)) := bel_alloc (Below.refl _ _) _
    generalize w5.alloc (.cells #[.slice Ax p.slots.length cx, .slice Bx p.vols.length dx] 30) = W6 at hnew hb ⊢
    replace Pp := Lib.hid (Pp.out.bel hb)
    replace Pwant := Lib.hid (Pwant.out.bel hb)
    replace Ix := Lib.hid (Ix.out.bel hb)
    replace KW := Lib.hid (KW.out.tr hb)
    obtain ⟨bkx, hbn⟩ : ∃ b, w5.heap.size = b := ⟨_, rfl⟩
    rw [hbn] at hnew ⊢
    have Px := Lib.hid hnew
    clear hnew hb hbn Ix
    refine (lgPool_c Px.out.inn Pwant.out.inn HSp.out).mono ?_
    rintro e w7 ⟨rfl, hb⟩
    replace Pp := Lib.hid (Pp.out.bel hb)
    replace Pwant := Lib.hid (Pwant.out.bel hb)
    replace Px := Lib.hid (Px.out.bel hb)
    replace KW := Lib.hid (KW.out.tr hb)
    clear hb
    have qp0 := Pp.out.c0
    have qp1 := Pp.out.c1
    have yp := Pp.out.lt
    have qwant0 := Pwant.out.c0
    have qwant1 := Pwant.out.c1
    have ywant := Pwant.out.lt
    have qx0 := Px.out.c0
    have qx1 := Px.out.c1
    have yx := Px.out.lt
    go_wp2_with fail
    clear qp0 qp1 yp qwant0 qwant1 ywant qx0 qx1 yx
    refine (lgPool_c Px.out.inn Pwant.out.inn HSp.out).mono ?_
    rintro e w8 ⟨rfl, hb⟩
    replace Pp := Lib.hid (Pp.out.bel hb)
    replace Pwant := Lib.hid (Pwant.out.bel hb)
    replace Px := Lib.hid (Px.out.bel hb)
    replace KW := Lib.hid (KW.out.tr hb)
    clear hb
    have qp0 := Pp.out.c0
    have qp1 := Pp.out.c1
    have yp := Pp.out.lt
    have qwant0 := Pwant.out.c0
    have qwant1 := Pwant.out.c1
    have ywant := Pwant.out.lt
    have qx0 := Px.out.c0
    have qx1 := Px.out.c1
    have yx := Px.out.lt
    go_wp2
    go_ret
    exact ⟨rfl, KW.out⟩
  rename_i q
  have HE := Lib.hid (ch_some HV.out hF)
  have hqv := cloneF_ok HV.out hF
  have HSq := Lib.hid hqv.small
  have HVq := Lib.hid hqv
  have HOKq := Lib.hid (poolOk_iff.2 hqv)
  clear hqv
  obtain ⟨fp, hfp⟩ : ∃ f, storeFree p.slots = f := ⟨_, rfl⟩
  have HFP := Lib.hid hfp
  have HF := Lib.hid hF
  clear hF hfp
  go_wp2_with fail
  have hnew := PVar.new Ip.out
  have hb : Bel w1 (w1.alloc (.cells #[.slice Ap p.slots.length cp, .slice Bp p.vols.length dp] 30)) := bel_alloc (Below.refl _ _) _
  generalize w1.alloc (.cells #[.slice Ap p.slots.length cp, .slice Bp p.vols.length dp] 30) = W2 at hnew hb ⊢
  replace Ip := Lib.hid (Ip.out.bel hb)
  replace KW := Lib.hid (KW.out.tr hb)
  obtain ⟨bkp, hbn⟩ : ∃ b, w1.heap.size = b := ⟨_, rfl⟩
  rw [hbn] at hnew ⊢
  have Pp := Lib.hid hnew
  clear hnew hb hbn Ip
  refine (specClone_n Pp.out.inn HSp.out HN.out HE.out).mono ?_
  rintro e w3 ⟨Awant, Bwant, cwant, dwant, rfl, hin, hb⟩
  replace Pp := Lib.hid (Pp.out.bel hb)
  replace KW := Lib.hid (KW.out.tr hb)
  have Iwant := Lib.hid hin
  clear hin hb
  have qp0 := Pp.out.c0
  have qp1 := Pp.out.c1
  have yp := Pp.out.lt
  go_wp2_with fail
  clear qp0 qp1 yp
  have hnew := PVar.new Iwant.out
  have hb : Bel w3 (w3.alloc (.cells #[.slice Awant q.slots.length cwant, .slice Bwant q.vols.length dwant] 30)) := bel_alloc (Below.refl _ _) _
  generalize w3.alloc (.cells #[.slice Awant q.slots.length cwant, .slice Bwant q.vols.length dwant] 30) = W4 at hnew hb ⊢
  replace Pp := Lib.hid (Pp.out.bel hb)
  replace Iwant := Lib.hid (Iwant.out.bel hb)
  replace KW := Lib.hid (KW.out.tr hb)
  obtain ⟨bkwant, hbn⟩ : ∃ b, w3.heap.size = b := ⟨_, rfl⟩
  rw [hbn] at hnew ⊢
  have Pwant := Lib.hid hnew
  clear hnew hb hbn Iwant
  refine (implClone_n Pp.out.inn HSp.out HN.out HE.out).mono ?_
  rintro e w5 ⟨Ax, Bx, cx, dx, rfl, hin, hb⟩
  replace Pp := Lib.hid (Pp.out.bel hb)
  replace Pwant := Lib.hid (Pwant.out.bel hb)
  replace KW := Lib.hid (KW.out.tr hb)
  have Ix := Lib.hid hin
  clear hin hb
  have qp0 := Pp.out.c0
  have qp1 := Pp.out.c1
  have yp := Pp.out.lt
  have qwant0 := Pwant.out.c0
  have qwant1 := Pwant.out.c1
  have ywant := Pwant.out.lt
  go_wp2_with fail
  clear qp0 qp1 yp qwant0 qwant1 ywant
  have hnew := PVar.new Ix.out
  have hb : Bel w5 (w5.alloc (.cells #[.slice Ax q.slots.length cx, .slice Bx q.vols.length dx] 30)) := bel_alloc (Below.refl _ _) _
  generalize w5.alloc (.cells #[.slice Ax q.slots.length cx, .slice Bx q.vols.length dx] 30) = W6 at hnew hb ⊢
  replace Pp := Lib.hid (Pp.out.bel hb)
  replace Pwant := Lib.hid (Pwant.out.bel hb)
  replace Ix := Lib.hid (Ix.out.bel hb)
  replace KW := Lib.hid (KW.out.tr hb)
  obtain ⟨bkx, hbn⟩ : ∃ b, w5.heap.size = b := ⟨_, rfl⟩
  rw [hbn] at hnew ⊢
  have Px := Lib.hid hnew
  clear hnew hb hbn Ix
  refine (lgPool_c Px.out.inn Pwant.out.inn HSq.out).mono ?_
  rintro e w7 ⟨rfl, hb⟩
  replace Pp := Lib.hid (Pp.out.bel hb)
  replace Pwant := Lib.hid (Pwant.out.bel hb)
  replace Px := Lib.hid (Px.out.bel hb)
  replace KW := Lib.hid (KW.out.tr hb)
  clear hb
  have qp0 := Pp.out.c0
  have qp1 := Pp.out.c1
  have yp := Pp.out.lt
  have qwant0 := Pwant.out.c0
  have qwant1 := Pwant.out.c1
  have ywant := Pwant.out.lt
  have qx0 := Px.out.c0
  have qx1 := Px.out.c1
  have yx := Px.out.lt
  go_wp2_with fail
  clear qp0 qp1 yp qwant0 qwant1 ywant qx0 qx1 yx
  have hb : Bel w7 (w7.alloc (.cells #[.string ⟨#[65]⟩, .string ⟨#[66]⟩, .string ⟨#[67]⟩, .string ⟨#[68]⟩] 9)) := bel_alloc (Below.refl _ _) _
  have hL : Blk (w7.alloc (.cells #[.string ⟨#[65]⟩, .string ⟨#[66]⟩, .string ⟨#[67]⟩, .string ⟨#[68]⟩] 9)) w7.heap.size (nms.map Value.string).toArray 9 := Blk.new _ _ _
  generalize w7.alloc (.cells #[.string ⟨#[65]⟩, .string ⟨#[66]⟩, .string ⟨#[67]⟩, .string ⟨#[68]⟩] 9) = W8 at hb hL ⊢
  replace Pp := Lib.hid (Pp.out.bel hb)
  replace Pwant := Lib.hid (Pwant.out.bel hb)
  replace Px := Lib.hid (Px.out.bel hb)
  replace KW := Lib.hid (KW.out.tr hb)
  obtain ⟨bL, hbn⟩ : ∃ b, w7.heap.size = b := ⟨_, rfl⟩
  rw [hbn] at hL ⊢
  have KL := Lib.hid hL
  clear hb hL hbn
  go_loopg [60] 4 (fun g v W => ∃ k : Nat, g + k = 4 ∧ v = .int .i64 k ∧ Bel W8 W)
  case atStart => exact ⟨0, rfl, rfl, Below.refl _ _⟩
  case round =>
    obtain ⟨k, hk, rfl, hW⟩ := hrel
    have BW := Lib.hid hW
    replace Pp := Lib.hid (Pp.out.bel hW)
    replace Pwant := Lib.hid (Pwant.out.bel hW)
    replace Px := Lib.hid (Px.out.bel hW)
    replace KL := Lib.hid (KL.out.bel hW)
    replace KW := Lib.hid (KW.out.tr hW)
    clear hW
    by_cases hlt : k < 4
    · obtain ⟨t, ht⟩ := getQ (show k < nms.length from hlt)
      have hct := cell_str KL.out ht
      have hlb := KL.out.lt
      have HNT : Hid (t.size ≤ 1048576) := by have := nms_size (List.mem_of_getElem? ht); exact Lib.hid (by omega)
      clear ht
      cases hF2 : cloneF q dst t
      · have HE2 := Lib.hid (ch_none HVq.out hF2)
        clear hF2
        have qp0 := Pp.out.c0
        have qp1 := Pp.out.c1
        have yp := Pp.out.lt
        have qwant0 := Pwant.out.c0
        have qwant1 := Pwant.out.c1
        have ywant := Pwant.out.lt
        have qx0 := Px.out.c0
        have qx1 := Px.out.c1
        have yx := Px.out.lt
        go_wp2_with fail
        clear qp0 qp1 yp qwant0 qwant1 ywant qx0 qx1 yx
        clear hct hlb
        refine (implClone_n Px.out.inn HSq.out HNT.out HE2.out).mono ?_
        rintro e w9 ⟨Ay, By, cy, dy, rfl, hin, hb⟩
        replace Pp := Lib.hid (Pp.out.bel hb)
        replace Pwant := Lib.hid (Pwant.out.bel hb)
        replace Px := Lib.hid (Px.out.bel hb)
        replace KL := Lib.hid (KL.out.bel hb)
        replace BW := Lib.hid (BW.out.tr hb)
        replace KW := Lib.hid (KW.out.tr hb)
        have Iy := Lib.hid hin
        clear hin hb
        have qp0 := Pp.out.c0
        have qp1 := Pp.out.c1
        have yp := Pp.out.lt
        have qwant0 := Pwant.out.c0
        have qwant1 := Pwant.out.c1
        have ywant := Pwant.out.lt
        have qx0 := Px.out.c0
        have qx1 := Px.out.c1
        have yx := Px.out.lt
        go_wp2_with fail
        clear qp0 qp1 yp qwant0 qwant1 ywant qx0 qx1 yx
        have hnew := PVar.new Iy.out
        have hb : Bel w9 (w9.alloc (.cells #[.slice Ay q.slots.length cy, .slice By q.vols.length dy] 30)) := bel_alloc (Below.refl _ _) _
        generalize w9.alloc (.cells #[.slice Ay q.slots.length cy, .slice By q.vols.length dy] 30) = W10 at hnew hb ⊢
        replace Pp := Lib.hid (Pp.out.bel hb)
        replace Pwant := Lib.hid (Pwant.out.bel hb)
        replace Px := Lib.hid (Px.out.bel hb)
        replace KL := Lib.hid (KL.out.bel hb)
        replace BW := Lib.hid (BW.out.tr hb)
        replace Iy := Lib.hid (Iy.out.bel hb)
        replace KW := Lib.hid (KW.out.tr hb)
        obtain ⟨bky, hbn⟩ : ∃ b, w9.heap.size = b := ⟨_, rfl⟩
        rw [hbn] at hnew ⊢
        have Py := Lib.hid hnew
        clear hnew hb hbn Iy
        have gp0 := gb_cell Pp.out.c0
        have gp1 := gb_cell Pp.out.c1
        have gy0 := gb_cell Py.out.c0
        have gy1 := gb_cell Py.out.c1
        refine wp_region_gb (by kernel_rfl) (by kernel_rfl) ?_
        repeat (first | go_big_quiet_skip | (go_big_quiet_want; go_big_quiet_op; first | go_big_quiet_on | (apply Exists.intro; refine ⟨fun _ => ?_, ?_⟩; (first | (go_at_call 49; exact gb_call (lgReads_c _ _ _ _ _))); go_big_quiet_on)))
        refine wpQuiet_nil ?_
        rintro w11 ⟨⟨_, hb⟩, rfl⟩
        replace hb : Bel W10 w11 := hb
        clear gp0 gp1 gy0 gy1
        replace Pp := Lib.hid (Pp.out.bel hb)
        replace Pwant := Lib.hid (Pwant.out.bel hb)
        replace Px := Lib.hid (Px.out.bel hb)
        replace KL := Lib.hid (KL.out.bel hb)
        replace BW := Lib.hid (BW.out.tr hb)
        replace Py := Lib.hid (Py.out.bel hb)
        replace KW := Lib.hid (KW.out.tr hb)
        clear hb
        have qp0 := Pp.out.c0
        have qp1 := Pp.out.c1
        have yp := Pp.out.lt
        have qwant0 := Pwant.out.c0
        have qwant1 := Pwant.out.c1
        have ywant := Pwant.out.lt
        have qx0 := Px.out.c0
        have qx1 := Px.out.c1
        have yx := Px.out.lt
        have qy0 := Py.out.c0
        have qy1 := Py.out.c1
        have yy := Py.out.lt
        go_wp2
        go_roundg (4 - (k + 1))
        case measure => omega
        case rel => exact ⟨k + 1, by omega, by go_num, BW.out⟩
      rename_i y
      have HE2 := Lib.hid (ch_some HVq.out hF2)
      have hyp := cloneF_ok HVq.out hF2
      have HSy := Lib.hid hyp.small
      have hct2 := clone_two HV.out HF.out hF2
      have HR1 := Lib.hid hct2.1
      have HR2 := Lib.hid hct2.2.1
      have hfy : storeFree y.slots = fp := by rw [← HFP.out, hyp.free, HV.out.free]; exact hct2.2.2
      have HFY := Lib.hid hfy
      clear hF2 hyp hct2 hfy
      have qp0 := Pp.out.c0
      have qp1 := Pp.out.c1
      have yp := Pp.out.lt
      have qwant0 := Pwant.out.c0
      have qwant1 := Pwant.out.c1
      have ywant := Pwant.out.lt
      have qx0 := Px.out.c0
      have qx1 := Px.out.c1
      have yx := Px.out.lt
      go_wp2_with fail
      clear qp0 qp1 yp qwant0 qwant1 ywant qx0 qx1 yx
      clear hct hlb
      refine (implClone_n Px.out.inn HSq.out HNT.out HE2.out).mono ?_
      rintro e w9 ⟨Ay, By, cy, dy, rfl, hin, hb⟩
      replace Pp := Lib.hid (Pp.out.bel hb)
      replace Pwant := Lib.hid (Pwant.out.bel hb)
      replace Px := Lib.hid (Px.out.bel hb)
      replace KL := Lib.hid (KL.out.bel hb)
      replace BW := Lib.hid (BW.out.tr hb)
      replace KW := Lib.hid (KW.out.tr hb)
      have Iy := Lib.hid hin
      clear hin hb
      have qp0 := Pp.out.c0
      have qp1 := Pp.out.c1
      have yp := Pp.out.lt
      have qwant0 := Pwant.out.c0
      have qwant1 := Pwant.out.c1
      have ywant := Pwant.out.lt
      have qx0 := Px.out.c0
      have qx1 := Px.out.c1
      have yx := Px.out.lt
      go_wp2_with fail
      clear qp0 qp1 yp qwant0 qwant1 ywant qx0 qx1 yx
      have hnew := PVar.new Iy.out
      have hb : Bel w9 (w9.alloc (.cells #[.slice Ay y.slots.length cy, .slice By y.vols.length dy] 30)) := bel_alloc (Below.refl _ _) _
      generalize w9.alloc (.cells #[.slice Ay y.slots.length cy, .slice By y.vols.length dy] 30) = W10 at hnew hb ⊢
      replace Pp := Lib.hid (Pp.out.bel hb)
      replace Pwant := Lib.hid (Pwant.out.bel hb)
      replace Px := Lib.hid (Px.out.bel hb)
      replace KL := Lib.hid (KL.out.bel hb)
      replace BW := Lib.hid (BW.out.tr hb)
      replace Iy := Lib.hid (Iy.out.bel hb)
      replace KW := Lib.hid (KW.out.tr hb)
      obtain ⟨bky, hbn⟩ : ∃ b, w9.heap.size = b := ⟨_, rfl⟩
      rw [hbn] at hnew ⊢
      have Py := Lib.hid hnew
      clear hnew hb hbn Iy
      have gp0 := gb_cell Pp.out.c0
      have gp1 := gb_cell Pp.out.c1
      have gy0 := gb_cell Py.out.c0
      have gy1 := gb_cell Py.out.c1
      refine wp_region_gb (by kernel_rfl) (by kernel_rfl) ?_
      repeat (first | go_big_quiet_skip | (go_big_quiet_want; go_big_quiet_op; first | go_big_quiet_on | (apply Exists.intro; refine ⟨fun _ => ?_, ?_⟩; (first | (go_at_call 49; exact gb_call (lgReads_c (Py.out.bel (GB.h _)).inn (Pp.out.bel (GB.h _)).inn HSy.out HSp.out HR1.out)) | (go_at_call 49; exact gb_call (lgReads_c (Py.out.bel (GB.h _)).inn (Pp.out.bel (GB.h _)).inn HSy.out HSp.out HR2.out)) | (go_at_call 41; exact gb_call (free_n (Py.out.bel (GB.h _)).inn HSy.out HFY.out)) | (go_at_call 41; exact gb_call (free_n (Pp.out.bel (GB.h _)).inn HSp.out HFP.out))); go_big_quiet_on)))
      refine wpQuiet_nil ?_
      rintro w11 ⟨⟨_, hb⟩, rfl⟩
      replace hb : Bel W10 w11 := hb
      clear gp0 gp1 gy0 gy1
      replace Pp := Lib.hid (Pp.out.bel hb)
      replace Pwant := Lib.hid (Pwant.out.bel hb)
      replace Px := Lib.hid (Px.out.bel hb)
      replace KL := Lib.hid (KL.out.bel hb)
      replace BW := Lib.hid (BW.out.tr hb)
      replace Py := Lib.hid (Py.out.bel hb)
      replace KW := Lib.hid (KW.out.tr hb)
      clear hb
      have qp0 := Pp.out.c0
      have qp1 := Pp.out.c1
      have yp := Pp.out.lt
      have qwant0 := Pwant.out.c0
      have qwant1 := Pwant.out.c1
      have ywant := Pwant.out.lt
      have qx0 := Px.out.c0
      have qx1 := Px.out.c1
      have yx := Px.out.lt
      have qy0 := Py.out.c0
      have qy1 := Py.out.c1
      have yy := Py.out.lt
      go_wp2
      go_roundg (4 - (k + 1))
      case measure => omega
      case rel => exact ⟨k + 1, by omega, by go_num, BW.out⟩
    · skip
      have qp0 := Pp.out.c0
      have qp1 := Pp.out.c1
      have yp := Pp.out.lt
      have qwant0 := Pwant.out.c0
      have qwant1 := Pwant.out.c1
      have ywant := Pwant.out.lt
      have qx0 := Px.out.c0
      have qx1 := Px.out.c1
      have yx := Px.out.lt
      go_wp2
      go_ret
      exact ⟨rfl, KW.out⟩
end Go.Proofs.Ytpobgjkmjlmafaa

/- The law FnClone: its body walked. -/
import Derived.Test.YtpobgjkmjlmafaaZ5
namespace Go.Proofs.Ytpobgjkmjlmafaa
open Go.RowKit Go.Proofs.YtpobgjkmjlmafaaW.PrintWords Go.Proofs.YtpobgjkmjlmafaaW.PrintLast
set_option linter.unusedVariables false
set_option linter.unusedSimpArgs false

set_option maxHeartbeats 8000000 in
set_option maxRecDepth 10000 in
theorem lawFnClone_c {w : World} {A : Option Addr} {n c : Nat} {bs : List Int} (h : CodeIn w A n c bs) (hn : n ≤ 9223372036854775807) :
    Calls Try.prog 17 #[.slice A n c] w (Ret (.bool true) w) := by
  have H := Lib.hid h
  clear h
  go_enter Try.func17, Try.ntmps17
  by_cases hlen : (1048576 : Int) < (n : Int)
  · go_wp2
    go_ret
    exact ⟨rfl, Below.refl _ _⟩
  go_wp2_with fail
  refine ((drawClone_c H.out hn).mono fun _ _ h => DrewC.new h).mono ?_
  rintro e w1 ⟨Ap, Bp, cp, dp, p, fr, dst, rfl, hs, hd, hp, hin, hb⟩
  have HP := Lib.hid hp
  have HSp := Lib.hid hp.small
  have Ip := Lib.hid hin
  have KW := Lib.hid hb
  clear hp hin hb
  have HN : Hid (dst.size ≤ 1048576) := five_size hd
  have HNM := Lib.hid hd
  clear hd
  cases hok : poolOk p
  · obtain ⟨q, hq, hqs⟩ : ∃ q, (chP p (cloneF p fr dst) = q ∧ chB p (cloneF p fr dst) = false) ∧ SmallP q := ⟨_, ch_bad hok _, noP_small⟩
    have HE := Lib.hid hq
    have HSq := Lib.hid hqs
    have HOK := Lib.hid hok
    clear hq hqs hok
    go_wp2_with fail
    have hnew := PVar.new Ip.out
    have hb : Bel w1 (w1.alloc (.cells #[.slice Ap p.slots.length cp, .slice Bp p.vols.length dp] 30)) := bel_alloc (Below.refl _ _) _
    generalize w1.alloc (.cells #[.slice Ap p.slots.length cp, .slice Bp p.vols.length dp] 30) = W2 at hnew hb ⊢
    replace Ip := Lib.hid (Ip.out.bel hb)
    replace KW := Lib.hid (KW.out.tr hb)
    obtain ⟨bp, hbn⟩ : ∃ b, w1.heap.size = b := ⟨_, rfl⟩
    rw [hbn] at hnew ⊢
    have Pp := Lib.hid hnew
    clear hnew hb hbn Ip
    refine (specClone_n Pp.out.inn HSp.out HN.out HE.out).mono ?_
    rintro e w3 ⟨Awant, Bwant, cwant, dwant, rfl, hin, hb⟩
    replace Pp := Lib.hid (Pp.out.bel hb)
    replace KW := Lib.hid (KW.out.tr hb)
    have Iwant := Lib.hid hin
    clear hin hb
    have qp0 := Pp.out.c0
    have qp1 := Pp.out.c1
    have yp := Pp.out.lt
    go_wp2_with fail
    clear qp0 qp1 yp
    have hnew := PVar.new Iwant.out
    have hb : Bel w3 (w3.alloc (.cells #[.slice Awant q.slots.length cwant, .slice Bwant q.vols.length dwant] 30)) := bel_alloc (Below.refl _ _) _
    generalize w3.alloc (.cells #[.slice Awant q.slots.length cwant, .slice Bwant q.vols.length dwant] 30) = W4 at hnew hb ⊢
    replace Pp := Lib.hid (Pp.out.bel hb)
    replace Iwant := Lib.hid (Iwant.out.bel hb)
    replace KW := Lib.hid (KW.out.tr hb)
    obtain ⟨bwant, hbn⟩ : ∃ b, w3.heap.size = b := ⟨_, rfl⟩
    rw [hbn] at hnew ⊢
    have Pwant := Lib.hid hnew
    clear hnew hb hbn Iwant
    refine (implClone_n Pp.out.inn HSp.out HN.out HE.out).mono ?_
    rintro e w5 ⟨Ax, Bx, cx, dx, rfl, hin, hb⟩
    replace Pp := Lib.hid (Pp.out.bel hb)
    replace Pwant := Lib.hid (Pwant.out.bel hb)
    replace KW := Lib.hid (KW.out.tr hb)
    have Ix := Lib.hid hin
    clear hin hb
    have qp0 := Pp.out.c0
    have qp1 := Pp.out.c1
    have yp := Pp.out.lt
    have qwant0 := Pwant.out.c0
    have qwant1 := Pwant.out.c1
    have ywant := Pwant.out.lt
    go_wp2_with fail
    clear qp0 qp1 yp qwant0 qwant1 ywant
    have hnew := PVar.new Ix.out
    have hb : Bel w5 (w5.alloc (.cells #[.slice Ax q.slots.length cx, .slice Bx q.vols.length dx] 30)) := bel_alloc (Below.refl _ _) _
    generalize w5.alloc (.cells #[.slice Ax q.slots.length cx, .slice Bx q.vols.length dx] 30) = W6 at hnew hb ⊢
    replace Pp := Lib.hid (Pp.out.bel hb)
    replace Pwant := Lib.hid (Pwant.out.bel hb)
    replace Ix := Lib.hid (Ix.out.bel hb)
    replace KW := Lib.hid (KW.out.tr hb)
    obtain ⟨bx, hbn⟩ : ∃ b, w5.heap.size = b := ⟨_, rfl⟩
    rw [hbn] at hnew ⊢
    have Px := Lib.hid hnew
    clear hnew hb hbn Ix
    refine (lgPool_c Px.out.inn Pwant.out.inn HSq.out).mono ?_
    rintro e w7 ⟨rfl, hb⟩
    replace Pp := Lib.hid (Pp.out.bel hb)
    replace Pwant := Lib.hid (Pwant.out.bel hb)
    replace Px := Lib.hid (Px.out.bel hb)
    replace KW := Lib.hid (KW.out.tr hb)
    clear hb
    have qp0 := Pp.out.c0
    have qp1 := Pp.out.c1
    have yp := Pp.out.lt
    have qwant0 := Pwant.out.c0
    have qwant1 := Pwant.out.c1
    have ywant := Pwant.out.lt
    have qx0 := Px.out.c0
    have qx1 := Px.out.c1
    have yx := Px.out.lt
    go_wp2_with fail
    clear qp0 qp1 yp qwant0 qwant1 ywant qx0 qx1 yx
    refine (specOk_n Pp.out.inn HSp.out HOK.out).mono ?_
    rintro e w8 ⟨rfl, hb⟩
    replace Pp := Lib.hid (Pp.out.bel hb)
    replace Pwant := Lib.hid (Pwant.out.bel hb)
    replace Px := Lib.hid (Px.out.bel hb)
    replace KW := Lib.hid (KW.out.tr hb)
    clear hb
    have qp0 := Pp.out.c0
    have qp1 := Pp.out.c1
    have yp := Pp.out.lt
    have qwant0 := Pwant.out.c0
    have qwant1 := Pwant.out.c1
    have ywant := Pwant.out.lt
    have qx0 := Px.out.c0
    have qx1 := Px.out.c1
    have yx := Px.out.lt
    go_wp2_with fail
    clear qp0 qp1 yp qwant0 qwant1 ywant qx0 qx1 yx
    refine (lgPool_c Px.out.inn Pwant.out.inn HSq.out).mono ?_
    rintro e w9 ⟨rfl, hb⟩
    replace Pp := Lib.hid (Pp.out.bel hb)
    replace Pwant := Lib.hid (Pwant.out.bel hb)
    replace Px := Lib.hid (Px.out.bel hb)
    replace KW := Lib.hid (KW.out.tr hb)
    clear hb
    have qp0 := Pp.out.c0
    have qp1 := Pp.out.c1
    have yp := Pp.out.lt
    have qwant0 := Pwant.out.c0
    have qwant1 := Pwant.out.c1
    have ywant := Pwant.out.lt
    have qx0 := Px.out.c0
    have qx1 := Px.out.c1
    have yx := Px.out.lt
    go_wp2
    go_ret
    exact ⟨rfl, KW.out⟩
  have HV := Lib.hid (poolOk_iff.1 hok)
  have HOK := Lib.hid hok
  clear hok
  cases hF : cloneF p fr dst
  · have HE := Lib.hid (ch_none HV.out hF)
    have hcs := clone_none_cases HV.out hF HNM.out
    obtain ⟨nb, hnb⟩ : ∃ nb, lgBlks p.vols fr = nb := ⟨_, rfl⟩
    obtain ⟨nd, hnd⟩ : ∃ nd, lgBlks p.vols dst = nd := ⟨_, rfl⟩
    rw [hnb, hnd] at hcs
    have HBL := Lib.hid hnb
    have HBD := Lib.hid hnd
    clear hF hnb hnd
    rcases hcs with hc | ⟨hc, hd | ⟨hd, hc5⟩⟩
    · skip
      have HBL0 : Hid (lgBlks p.vols fr = 0) := HBL.out.trans hc
      clear hc
      go_wp2_with fail
      have hnew := PVar.new Ip.out
      have hb : Bel w1 (w1.alloc (.cells #[.slice Ap p.slots.length cp, .slice Bp p.vols.length dp] 30)) := bel_alloc (Below.refl _ _) _
      generalize w1.alloc (.cells #[.slice Ap p.slots.length cp, .slice Bp p.vols.length dp] 30) = W2 at hnew hb ⊢
      replace Ip := Lib.hid (Ip.out.bel hb)
      replace KW := Lib.hid (KW.out.tr hb)
      obtain ⟨bp, hbn⟩ : ∃ b, w1.heap.size = b := ⟨_, rfl⟩
      rw [hbn] at hnew ⊢
      have Pp := Lib.hid hnew
      clear hnew hb hbn Ip
      refine (specClone_n Pp.out.inn HSp.out HN.out HE.out).mono ?_
      rintro e w3 ⟨Awant, Bwant, cwant, dwant, rfl, hin, hb⟩
      replace Pp := Lib.hid (Pp.out.bel hb)
      replace KW := Lib.hid (KW.out.tr hb)
      have Iwant := Lib.hid hin
      clear hin hb
      have qp0 := Pp.out.c0
      have qp1 := Pp.out.c1
      have yp := Pp.out.lt
      go_wp2_with fail
      clear qp0 qp1 yp
      have hnew := PVar.new Iwant.out
      have hb : Bel w3 (w3.alloc (.cells #[.slice Awant p.slots.length cwant, .slice Bwant p.vols.length dwant] 30)) := bel_alloc (Below.refl _ _) _
      generalize w3.alloc (.cells #[.slice Awant p.slots.length cwant, .slice Bwant p.vols.length dwant] 30) = W4 at hnew hb ⊢
      replace Pp := Lib.hid (Pp.out.bel hb)
      replace Iwant := Lib.hid (Iwant.out.bel hb)
      replace KW := Lib.hid (KW.out.tr hb)
      obtain ⟨bwant, hbn⟩ : ∃ b, w3.heap.size = b := ⟨_, rfl⟩
      rw [hbn] at hnew ⊢
      have Pwant := Lib.hid hnew
      clear hnew hb hbn Iwant
      refine (implClone_n Pp.out.inn HSp.out HN.out HE.out).mono ?_
      rintro e w5 ⟨Ax, Bx, cx, dx, rfl, hin, hb⟩
      replace Pp := Lib.hid (Pp.out.bel hb)
      replace Pwant := Lib.hid (Pwant.out.bel hb)
      replace KW := Lib.hid (KW.out.tr hb)
      have Ix := Lib.hid hin
      clear hin hb
      have qp0 := Pp.out.c0
      have qp1 := Pp.out.c1
      have yp := Pp.out.lt
      have qwant0 := Pwant.out.c0
      have qwant1 := Pwant.out.c1
      have ywant := Pwant.out.lt
      go_wp2_with fail
      clear qp0 qp1 yp qwant0 qwant1 ywant
      have hnew := PVar.new Ix.out
      have hb : Bel w5 (w5.alloc (.cells #[.slice Ax p.slots.length cx, .slice Bx p.vols.length dx] 30)) := bel_alloc (Below.refl _ _) _
      generalize w5.alloc (.cells #[.slice Ax p.slots.length cx, .slice Bx p.vols.length dx] 30) = W6 at hnew hb ⊢
      replace Pp := Lib.hid (Pp.out.bel hb)
      replace Pwant := Lib.hid (Pwant.out.bel hb)
      replace Ix := Lib.hid (Ix.out.bel hb)
      replace KW := Lib.hid (KW.out.tr hb)
      obtain ⟨bx, hbn⟩ : ∃ b, w5.heap.size = b := ⟨_, rfl⟩
      rw [hbn] at hnew ⊢
      have Px := Lib.hid hnew
      clear hnew hb hbn Ix
      refine (lgPool_c Px.out.inn Pwant.out.inn HSp.out).mono ?_
      rintro e w7 ⟨rfl, hb⟩
      replace Pp := Lib.hid (Pp.out.bel hb)
      replace Pwant := Lib.hid (Pwant.out.bel hb)
      replace Px := Lib.hid (Px.out.bel hb)
      replace KW := Lib.hid (KW.out.tr hb)
      clear hb
      have qp0 := Pp.out.c0
      have qp1 := Pp.out.c1
      have yp := Pp.out.lt
      have qwant0 := Pwant.out.c0
      have qwant1 := Pwant.out.c1
      have ywant := Pwant.out.lt
      have qx0 := Px.out.c0
      have qx1 := Px.out.c1
      have yx := Px.out.lt
      go_wp2_with fail
      clear qp0 qp1 yp qwant0 qwant1 ywant qx0 qx1 yx
      refine (specOk_n Pp.out.inn HSp.out HOK.out).mono ?_
      rintro e w8 ⟨rfl, hb⟩
      replace Pp := Lib.hid (Pp.out.bel hb)
      replace Pwant := Lib.hid (Pwant.out.bel hb)
      replace Px := Lib.hid (Px.out.bel hb)
      replace KW := Lib.hid (KW.out.tr hb)
      clear hb
      have qp0 := Pp.out.c0
      have qp1 := Pp.out.c1
      have yp := Pp.out.lt
      have qwant0 := Pwant.out.c0
      have qwant1 := Pwant.out.c1
      have ywant := Pwant.out.lt
      have qx0 := Px.out.c0
      have qx1 := Px.out.c1
      have yx := Px.out.lt
      go_wp2_with fail
      clear qp0 qp1 yp qwant0 qwant1 ywant qx0 qx1 yx
      refine (lgPool_c Px.out.inn Pp.out.inn HSp.out).mono ?_
      rintro e w9 ⟨rfl, hb⟩
      replace Pp := Lib.hid (Pp.out.bel hb)
      replace Pwant := Lib.hid (Pwant.out.bel hb)
      replace Px := Lib.hid (Px.out.bel hb)
      replace KW := Lib.hid (KW.out.tr hb)
      clear hb
      have qp0 := Pp.out.c0
      have qp1 := Pp.out.c1
      have yp := Pp.out.lt
      have qwant0 := Pwant.out.c0
      have qwant1 := Pwant.out.c1
      have ywant := Pwant.out.lt
      have qx0 := Px.out.c0
      have qx1 := Px.out.c1
      have yx := Px.out.lt
      go_wp2_with fail
      clear qp0 qp1 yp qwant0 qwant1 ywant qx0 qx1 yx
      refine (blocks_n Pp.out.inn HSp.out HBL0.out).mono ?_
      rintro e w10 ⟨rfl, hb⟩
      replace Pp := Lib.hid (Pp.out.bel hb)
      replace Pwant := Lib.hid (Pwant.out.bel hb)
      replace Px := Lib.hid (Px.out.bel hb)
      replace KW := Lib.hid (KW.out.tr hb)
      clear hb
      have qp0 := Pp.out.c0
      have qp1 := Pp.out.c1
      have yp := Pp.out.lt
      have qwant0 := Pwant.out.c0
      have qwant1 := Pwant.out.c1
      have ywant := Pwant.out.lt
      have qx0 := Px.out.c0
      have qx1 := Px.out.c1
      have yx := Px.out.lt
      go_wp2
      go_ret
      exact ⟨rfl, KW.out⟩
    · skip
      have hnz : (nb == 0) = false := by simp; omega
      go_wp2_with fail
      have hnew := PVar.new Ip.out
      have hb : Bel w1 (w1.alloc (.cells #[.slice Ap p.slots.length cp, .slice Bp p.vols.length dp] 30)) := bel_alloc (Below.refl _ _) _
      generalize w1.alloc (.cells #[.slice Ap p.slots.length cp, .slice Bp p.vols.length dp] 30) = W2 at hnew hb ⊢
      replace Ip := Lib.hid (Ip.out.bel hb)
      replace KW := Lib.hid (KW.out.tr hb)
      obtain ⟨bp, hbn⟩ : ∃ b, w1.heap.size = b := ⟨_, rfl⟩
      rw [hbn] at hnew ⊢
      have Pp := Lib.hid hnew
      clear hnew hb hbn Ip
      refine (specClone_n Pp.out.inn HSp.out HN.out HE.out).mono ?_
      rintro e w3 ⟨Awant, Bwant, cwant, dwant, rfl, hin, hb⟩
      replace Pp := Lib.hid (Pp.out.bel hb)
      replace KW := Lib.hid (KW.out.tr hb)
      have Iwant := Lib.hid hin
      clear hin hb
      have qp0 := Pp.out.c0
      have qp1 := Pp.out.c1
      have yp := Pp.out.lt
      go_wp2_with fail
      clear qp0 qp1 yp
      have hnew := PVar.new Iwant.out
      have hb : Bel w3 (w3.alloc (.cells #[.slice Awant p.slots.length cwant, .slice Bwant p.vols.length dwant] 30)) := bel_alloc (Below.refl _ _) _
      generalize w3.alloc (.cells #[.slice Awant p.slots.length cwant, .slice Bwant p.vols.length dwant] 30) = W4 at hnew hb ⊢
      replace Pp := Lib.hid (Pp.out.bel hb)
      replace Iwant := Lib.hid (Iwant.out.bel hb)
      replace KW := Lib.hid (KW.out.tr hb)
      obtain ⟨bwant, hbn⟩ : ∃ b, w3.heap.size = b := ⟨_, rfl⟩
      rw [hbn] at hnew ⊢
      have Pwant := Lib.hid hnew
      clear hnew hb hbn Iwant
      refine (implClone_n Pp.out.inn HSp.out HN.out HE.out).mono ?_
      rintro e w5 ⟨Ax, Bx, cx, dx, rfl, hin, hb⟩
      replace Pp := Lib.hid (Pp.out.bel hb)
      replace Pwant := Lib.hid (Pwant.out.bel hb)
      replace KW := Lib.hid (KW.out.tr hb)
      have Ix := Lib.hid hin
      clear hin hb
      have qp0 := Pp.out.c0
      have qp1 := Pp.out.c1
      have yp := Pp.out.lt
      have qwant0 := Pwant.out.c0
      have qwant1 := Pwant.out.c1
      have ywant := Pwant.out.lt
      go_wp2_with fail
      clear qp0 qp1 yp qwant0 qwant1 ywant
      have hnew := PVar.new Ix.out
      have hb : Bel w5 (w5.alloc (.cells #[.slice Ax p.slots.length cx, .slice Bx p.vols.length dx] 30)) := bel_alloc (Below.refl _ _) _
      generalize w5.alloc (.cells #[.slice Ax p.slots.length cx, .slice Bx p.vols.length dx] 30) = W6 at hnew hb ⊢
      replace Pp := Lib.hid (Pp.out.bel hb)
      replace Pwant := Lib.hid (Pwant.out.bel hb)
      replace Ix := Lib.hid (Ix.out.bel hb)
      replace KW := Lib.hid (KW.out.tr hb)
      obtain ⟨bx, hbn⟩ : ∃ b, w5.heap.size = b := ⟨_, rfl⟩
      rw [hbn] at hnew ⊢
      have Px := Lib.hid hnew
      clear hnew hb hbn Ix
      refine (lgPool_c Px.out.inn Pwant.out.inn HSp.out).mono ?_
      rintro e w7 ⟨rfl, hb⟩
      replace Pp := Lib.hid (Pp.out.bel hb)
      replace Pwant := Lib.hid (Pwant.out.bel hb)
      replace Px := Lib.hid (Px.out.bel hb)
      replace KW := Lib.hid (KW.out.tr hb)
      clear hb
      have qp0 := Pp.out.c0
      have qp1 := Pp.out.c1
      have yp := Pp.out.lt
      have qwant0 := Pwant.out.c0
      have qwant1 := Pwant.out.c1
      have ywant := Pwant.out.lt
      have qx0 := Px.out.c0
      have qx1 := Px.out.c1
      have yx := Px.out.lt
      go_wp2_with fail
      clear qp0 qp1 yp qwant0 qwant1 ywant qx0 qx1 yx
      refine (specOk_n Pp.out.inn HSp.out HOK.out).mono ?_
      rintro e w8 ⟨rfl, hb⟩
      replace Pp := Lib.hid (Pp.out.bel hb)
      replace Pwant := Lib.hid (Pwant.out.bel hb)
      replace Px := Lib.hid (Px.out.bel hb)
      replace KW := Lib.hid (KW.out.tr hb)
      clear hb
      have qp0 := Pp.out.c0
      have qp1 := Pp.out.c1
      have yp := Pp.out.lt
      have qwant0 := Pwant.out.c0
      have qwant1 := Pwant.out.c1
      have ywant := Pwant.out.lt
      have qx0 := Px.out.c0
      have qx1 := Px.out.c1
      have yx := Px.out.lt
      go_wp2_with fail
      clear qp0 qp1 yp qwant0 qwant1 ywant qx0 qx1 yx
      refine (lgPool_c Px.out.inn Pp.out.inn HSp.out).mono ?_
      rintro e w9 ⟨rfl, hb⟩
      replace Pp := Lib.hid (Pp.out.bel hb)
      replace Pwant := Lib.hid (Pwant.out.bel hb)
      replace Px := Lib.hid (Px.out.bel hb)
      replace KW := Lib.hid (KW.out.tr hb)
      clear hb
      have qp0 := Pp.out.c0
      have qp1 := Pp.out.c1
      have yp := Pp.out.lt
      have qwant0 := Pwant.out.c0
      have qwant1 := Pwant.out.c1
      have ywant := Pwant.out.lt
      have qx0 := Px.out.c0
      have qx1 := Px.out.c1
      have yx := Px.out.lt
      go_wp2_with fail
      clear qp0 qp1 yp qwant0 qwant1 ywant qx0 qx1 yx
      refine (blocks_n Pp.out.inn HSp.out HBL.out).mono ?_
      rintro e w10 ⟨rfl, hb⟩
      replace Pp := Lib.hid (Pp.out.bel hb)
      replace Pwant := Lib.hid (Pwant.out.bel hb)
      replace Px := Lib.hid (Px.out.bel hb)
      replace KW := Lib.hid (KW.out.tr hb)
      clear hb
      have qp0 := Pp.out.c0
      have qp1 := Pp.out.c1
      have yp := Pp.out.lt
      have qwant0 := Pwant.out.c0
      have qwant1 := Pwant.out.c1
      have ywant := Pwant.out.lt
      have qx0 := Px.out.c0
      have qx1 := Px.out.c1
      have yx := Px.out.lt
      go_wp2_with fail
      clear qp0 qp1 yp qwant0 qwant1 ywant qx0 qx1 yx
      refine (blocks_n Pp.out.inn HSp.out HBD.out).mono ?_
      rintro e w11 ⟨rfl, hb⟩
      replace Pp := Lib.hid (Pp.out.bel hb)
      replace Pwant := Lib.hid (Pwant.out.bel hb)
      replace Px := Lib.hid (Px.out.bel hb)
      replace KW := Lib.hid (KW.out.tr hb)
      clear hb
      have qp0 := Pp.out.c0
      have qp1 := Pp.out.c1
      have yp := Pp.out.lt
      have qwant0 := Pwant.out.c0
      have qwant1 := Pwant.out.c1
      have ywant := Pwant.out.lt
      have qx0 := Px.out.c0
      have qx1 := Px.out.c1
      have yx := Px.out.lt
      go_wp2
      go_ret
      exact ⟨rfl, KW.out⟩
    · skip
      have hnz : (nb == 0) = false := by simp; omega
      have HBD0 : Hid (lgBlks p.vols dst = 0) := HBD.out.trans hd
      have h69 : (dst.toList == [69]) = true := by simp [hc5]
      have HC69 := Lib.hid hc5
      clear hc5 hd
      go_wp2_with fail
      have hnew := PVar.new Ip.out
      have hb : Bel w1 (w1.alloc (.cells #[.slice Ap p.slots.length cp, .slice Bp p.vols.length dp] 30)) := bel_alloc (Below.refl _ _) _
      generalize w1.alloc (.cells #[.slice Ap p.slots.length cp, .slice Bp p.vols.length dp] 30) = W2 at hnew hb ⊢
      replace Ip := Lib.hid (Ip.out.bel hb)
      replace KW := Lib.hid (KW.out.tr hb)
      obtain ⟨bp, hbn⟩ : ∃ b, w1.heap.size = b := ⟨_, rfl⟩
      rw [hbn] at hnew ⊢
      have Pp := Lib.hid hnew
      clear hnew hb hbn Ip
      refine (specClone_n Pp.out.inn HSp.out HN.out HE.out).mono ?_
      rintro e w3 ⟨Awant, Bwant, cwant, dwant, rfl, hin, hb⟩
      replace Pp := Lib.hid (Pp.out.bel hb)
      replace KW := Lib.hid (KW.out.tr hb)
      have Iwant := Lib.hid hin
      clear hin hb
      have qp0 := Pp.out.c0
      have qp1 := Pp.out.c1
      have yp := Pp.out.lt
      go_wp2_with fail
      clear qp0 qp1 yp
      have hnew := PVar.new Iwant.out
      have hb : Bel w3 (w3.alloc (.cells #[.slice Awant p.slots.length cwant, .slice Bwant p.vols.length dwant] 30)) := bel_alloc (Below.refl _ _) _
      generalize w3.alloc (.cells #[.slice Awant p.slots.length cwant, .slice Bwant p.vols.length dwant] 30) = W4 at hnew hb ⊢
      replace Pp := Lib.hid (Pp.out.bel hb)
      replace Iwant := Lib.hid (Iwant.out.bel hb)
      replace KW := Lib.hid (KW.out.tr hb)
      obtain ⟨bwant, hbn⟩ : ∃ b, w3.heap.size = b := ⟨_, rfl⟩
      rw [hbn] at hnew ⊢
      have Pwant := Lib.hid hnew
      clear hnew hb hbn Iwant
      refine (implClone_n Pp.out.inn HSp.out HN.out HE.out).mono ?_
      rintro e w5 ⟨Ax, Bx, cx, dx, rfl, hin, hb⟩
      replace Pp := Lib.hid (Pp.out.bel hb)
      replace Pwant := Lib.hid (Pwant.out.bel hb)
      replace KW := Lib.hid (KW.out.tr hb)
      have Ix := Lib.hid hin
      clear hin hb
      have qp0 := Pp.out.c0
      have qp1 := Pp.out.c1
      have yp := Pp.out.lt
      have qwant0 := Pwant.out.c0
      have qwant1 := Pwant.out.c1
      have ywant := Pwant.out.lt
      go_wp2_with fail
      clear qp0 qp1 yp qwant0 qwant1 ywant
      have hnew := PVar.new Ix.out
      have hb : Bel w5 (w5.alloc (.cells #[.slice Ax p.slots.length cx, .slice Bx p.vols.length dx] 30)) := bel_alloc (Below.refl _ _) _
      generalize w5.alloc (.cells #[.slice Ax p.slots.length cx, .slice Bx p.vols.length dx] 30) = W6 at hnew hb ⊢
      replace Pp := Lib.hid (Pp.out.bel hb)
      replace Pwant := Lib.hid (Pwant.out.bel hb)
      replace Ix := Lib.hid (Ix.out.bel hb)
      replace KW := Lib.hid (KW.out.tr hb)
      obtain ⟨bx, hbn⟩ : ∃ b, w5.heap.size = b := ⟨_, rfl⟩
      rw [hbn] at hnew ⊢
      have Px := Lib.hid hnew
      clear hnew hb hbn Ix
      refine (lgPool_c Px.out.inn Pwant.out.inn HSp.out).mono ?_
      rintro e w7 ⟨rfl, hb⟩
      replace Pp := Lib.hid (Pp.out.bel hb)
      replace Pwant := Lib.hid (Pwant.out.bel hb)
      replace Px := Lib.hid (Px.out.bel hb)
      replace KW := Lib.hid (KW.out.tr hb)
      clear hb
      have qp0 := Pp.out.c0
      have qp1 := Pp.out.c1
      have yp := Pp.out.lt
      have qwant0 := Pwant.out.c0
      have qwant1 := Pwant.out.c1
      have ywant := Pwant.out.lt
      have qx0 := Px.out.c0
      have qx1 := Px.out.c1
      have yx := Px.out.lt
      go_wp2_with fail
      clear qp0 qp1 yp qwant0 qwant1 ywant qx0 qx1 yx
      refine (specOk_n Pp.out.inn HSp.out HOK.out).mono ?_
      rintro e w8 ⟨rfl, hb⟩
      replace Pp := Lib.hid (Pp.out.bel hb)
      replace Pwant := Lib.hid (Pwant.out.bel hb)
      replace Px := Lib.hid (Px.out.bel hb)
      replace KW := Lib.hid (KW.out.tr hb)
      clear hb
      have qp0 := Pp.out.c0
      have qp1 := Pp.out.c1
      have yp := Pp.out.lt
      have qwant0 := Pwant.out.c0
      have qwant1 := Pwant.out.c1
      have ywant := Pwant.out.lt
      have qx0 := Px.out.c0
      have qx1 := Px.out.c1
      have yx := Px.out.lt
      go_wp2_with fail
      clear qp0 qp1 yp qwant0 qwant1 ywant qx0 qx1 yx
      refine (lgPool_c Px.out.inn Pp.out.inn HSp.out).mono ?_
      rintro e w9 ⟨rfl, hb⟩
      replace Pp := Lib.hid (Pp.out.bel hb)
      replace Pwant := Lib.hid (Pwant.out.bel hb)
      replace Px := Lib.hid (Px.out.bel hb)
      replace KW := Lib.hid (KW.out.tr hb)
      clear hb
      have qp0 := Pp.out.c0
      have qp1 := Pp.out.c1
      have yp := Pp.out.lt
      have qwant0 := Pwant.out.c0
      have qwant1 := Pwant.out.c1
      have ywant := Pwant.out.lt
      have qx0 := Px.out.c0
      have qx1 := Px.out.c1
      have yx := Px.out.lt
      go_wp2_with fail
      clear qp0 qp1 yp qwant0 qwant1 ywant qx0 qx1 yx
      refine (blocks_n Pp.out.inn HSp.out HBL.out).mono ?_
      rintro e w10 ⟨rfl, hb⟩
      replace Pp := Lib.hid (Pp.out.bel hb)
      replace Pwant := Lib.hid (Pwant.out.bel hb)
      replace Px := Lib.hid (Px.out.bel hb)
      replace KW := Lib.hid (KW.out.tr hb)
      clear hb
      have qp0 := Pp.out.c0
      have qp1 := Pp.out.c1
      have yp := Pp.out.lt
      have qwant0 := Pwant.out.c0
      have qwant1 := Pwant.out.c1
      have ywant := Pwant.out.lt
      have qx0 := Px.out.c0
      have qx1 := Px.out.c1
      have yx := Px.out.lt
      go_wp2_with fail
      clear qp0 qp1 yp qwant0 qwant1 ywant qx0 qx1 yx
      refine (blocks_n Pp.out.inn HSp.out HBD0.out).mono ?_
      rintro e w11 ⟨rfl, hb⟩
      replace Pp := Lib.hid (Pp.out.bel hb)
      replace Pwant := Lib.hid (Pwant.out.bel hb)
      replace Px := Lib.hid (Px.out.bel hb)
      replace KW := Lib.hid (KW.out.tr hb)
      clear hb
      have qp0 := Pp.out.c0
      have qp1 := Pp.out.c1
      have yp := Pp.out.lt
      have qwant0 := Pwant.out.c0
      have qwant1 := Pwant.out.c1
      have ywant := Pwant.out.lt
      have qx0 := Px.out.c0
      have qx1 := Px.out.c1
      have yx := Px.out.lt
      go_wp2
      go_ret
      exact ⟨rfl, KW.out⟩
  rename_i q
  have HE := Lib.hid (ch_some HV.out hF)
  have hqv := cloneF_ok HV.out hF
  have HSq := Lib.hid hqv.small
  have HVq := Lib.hid hqv
  have HOKq := Lib.hid (poolOk_iff.2 hqv)
  clear hqv
  have hcf := clone_facts HV.out hF
  have HRD := Lib.hid hcf.1
  have HOT := Lib.hid hcf.2.1
  have HLQ := Lib.hid (clone_len hF)
  have hl4 := HV.out.v.len
  obtain ⟨fp, hfp⟩ : ∃ f, storeFree p.slots = f := ⟨_, rfl⟩
  have hfx : storeFree q.slots = fp := by rw [← hfp, HVq.out.free, HV.out.free]; exact clone_free HV.out hF
  have HFX := Lib.hid hfx
  have HFP := Lib.hid hfp
  clear hF hcf hfx hfp
  go_wp2_with fail
  have hnew := PVar.new Ip.out
  have hb : Bel w1 (w1.alloc (.cells #[.slice Ap p.slots.length cp, .slice Bp p.vols.length dp] 30)) := bel_alloc (Below.refl _ _) _
  generalize w1.alloc (.cells #[.slice Ap p.slots.length cp, .slice Bp p.vols.length dp] 30) = W2 at hnew hb ⊢
  replace Ip := Lib.hid (Ip.out.bel hb)
  replace KW := Lib.hid (KW.out.tr hb)
  obtain ⟨bp, hbn⟩ : ∃ b, w1.heap.size = b := ⟨_, rfl⟩
  rw [hbn] at hnew ⊢
  have Pp := Lib.hid hnew
  clear hnew hb hbn Ip
  refine (specClone_n Pp.out.inn HSp.out HN.out HE.out).mono ?_
  rintro e w3 ⟨Awant, Bwant, cwant, dwant, rfl, hin, hb⟩
  replace Pp := Lib.hid (Pp.out.bel hb)
  replace KW := Lib.hid (KW.out.tr hb)
  have Iwant := Lib.hid hin
  clear hin hb
  have qp0 := Pp.out.c0
  have qp1 := Pp.out.c1
  have yp := Pp.out.lt
  go_wp2_with fail
  clear qp0 qp1 yp
  have hnew := PVar.new Iwant.out
  have hb : Bel w3 (w3.alloc (.cells #[.slice Awant q.slots.length cwant, .slice Bwant q.vols.length dwant] 30)) := bel_alloc (Below.refl _ _) _
  generalize w3.alloc (.cells #[.slice Awant q.slots.length cwant, .slice Bwant q.vols.length dwant] 30) = W4 at hnew hb ⊢
  replace Pp := Lib.hid (Pp.out.bel hb)
  replace Iwant := Lib.hid (Iwant.out.bel hb)
  replace KW := Lib.hid (KW.out.tr hb)
  obtain ⟨bwant, hbn⟩ : ∃ b, w3.heap.size = b := ⟨_, rfl⟩
  rw [hbn] at hnew ⊢
  have Pwant := Lib.hid hnew
  clear hnew hb hbn Iwant
  refine (implClone_n Pp.out.inn HSp.out HN.out HE.out).mono ?_
  rintro e w5 ⟨Ax, Bx, cx, dx, rfl, hin, hb⟩
  replace Pp := Lib.hid (Pp.out.bel hb)
  replace Pwant := Lib.hid (Pwant.out.bel hb)
  replace KW := Lib.hid (KW.out.tr hb)
  have Ix := Lib.hid hin
  clear hin hb
  have qp0 := Pp.out.c0
  have qp1 := Pp.out.c1
  have yp := Pp.out.lt
  have qwant0 := Pwant.out.c0
  have qwant1 := Pwant.out.c1
  have ywant := Pwant.out.lt
  go_wp2_with fail
  clear qp0 qp1 yp qwant0 qwant1 ywant
  have hnew := PVar.new Ix.out
  have hb : Bel w5 (w5.alloc (.cells #[.slice Ax q.slots.length cx, .slice Bx q.vols.length dx] 30)) := bel_alloc (Below.refl _ _) _
  generalize w5.alloc (.cells #[.slice Ax q.slots.length cx, .slice Bx q.vols.length dx] 30) = W6 at hnew hb ⊢
  replace Pp := Lib.hid (Pp.out.bel hb)
  replace Pwant := Lib.hid (Pwant.out.bel hb)
  replace Ix := Lib.hid (Ix.out.bel hb)
  replace KW := Lib.hid (KW.out.tr hb)
  obtain ⟨bx, hbn⟩ : ∃ b, w5.heap.size = b := ⟨_, rfl⟩
  rw [hbn] at hnew ⊢
  have Px := Lib.hid hnew
  clear hnew hb hbn Ix
  refine (lgPool_c Px.out.inn Pwant.out.inn HSq.out).mono ?_
  rintro e w7 ⟨rfl, hb⟩
  replace Pp := Lib.hid (Pp.out.bel hb)
  replace Pwant := Lib.hid (Pwant.out.bel hb)
  replace Px := Lib.hid (Px.out.bel hb)
  replace KW := Lib.hid (KW.out.tr hb)
  clear hb
  have qp0 := Pp.out.c0
  have qp1 := Pp.out.c1
  have yp := Pp.out.lt
  have qwant0 := Pwant.out.c0
  have qwant1 := Pwant.out.c1
  have ywant := Pwant.out.lt
  have qx0 := Px.out.c0
  have qx1 := Px.out.c1
  have yx := Px.out.lt
  go_wp2_with fail
  clear qp0 qp1 yp qwant0 qwant1 ywant qx0 qx1 yx
  refine (specOk_n Pp.out.inn HSp.out HOK.out).mono ?_
  rintro e w8 ⟨rfl, hb⟩
  replace Pp := Lib.hid (Pp.out.bel hb)
  replace Pwant := Lib.hid (Pwant.out.bel hb)
  replace Px := Lib.hid (Px.out.bel hb)
  replace KW := Lib.hid (KW.out.tr hb)
  clear hb
  have qp0 := Pp.out.c0
  have qp1 := Pp.out.c1
  have yp := Pp.out.lt
  have qwant0 := Pwant.out.c0
  have qwant1 := Pwant.out.c1
  have ywant := Pwant.out.lt
  have qx0 := Px.out.c0
  have qx1 := Px.out.c1
  have yx := Px.out.lt
  go_wp2_with fail
  clear qp0 qp1 yp qwant0 qwant1 ywant qx0 qx1 yx
  have gp0 := gb_cell Pp.out.c0
  have gp1 := gb_cell Pp.out.c1
  have gx0 := gb_cell Px.out.c0
  have gx1 := gb_cell Px.out.c1
  have hg1 : ((q.vols.length : Int) == (p.vols.length : Int) + 1) = true := by have := HLQ.out; simp; omega
  refine wp_region_gb (by kernel_rfl) (by kernel_rfl) ?_
  repeat (first | go_big_quiet_skip | (go_big_quiet_want; go_big_quiet_op; first | go_big_quiet_on | (apply Exists.intro; refine ⟨fun _ => ?_, ?_⟩; (first | (go_at_call 49; exact gb_call (lgReads_c (Pp.out.bel (GB.h _)).inn (Px.out.bel (GB.h _)).inn HSp.out HSq.out HRD.out)) | (go_at_call 40; exact gb_call (lgOthers_c (Pp.out.bel (GB.h _)).inn (Px.out.bel (GB.h _)).inn HSp.out HSq.out HOT.out)) | (go_at_call 41; exact gb_call (free_n (Px.out.bel (GB.h _)).inn HSq.out HFX.out)) | (go_at_call 41; exact gb_call (free_n (Pp.out.bel (GB.h _)).inn HSp.out HFP.out)) | (go_at_call 37; exact gb_call (implOk_n (Px.out.bel (GB.h _)).inn HSq.out HOKq.out))); go_big_quiet_on)))
  refine wpQuiet_nil ?_
  rintro w9 ⟨⟨_, hb⟩, rfl⟩
  replace hb : Bel w8 w9 := hb
  clear gp0 gp1 gx0 gx1
  replace Pp := Lib.hid (Pp.out.bel hb)
  replace Pwant := Lib.hid (Pwant.out.bel hb)
  replace Px := Lib.hid (Px.out.bel hb)
  replace KW := Lib.hid (KW.out.tr hb)
  clear hb
  have qp0 := Pp.out.c0
  have qp1 := Pp.out.c1
  have yp := Pp.out.lt
  have qwant0 := Pwant.out.c0
  have qwant1 := Pwant.out.c1
  have ywant := Pwant.out.lt
  have qx0 := Px.out.c0
  have qx1 := Px.out.c1
  have yx := Px.out.lt
  go_wp2
  go_ret
  exact ⟨rfl, KW.out⟩
end Go.Proofs.Ytpobgjkmjlmafaa

/- The law FnMake: its body walked. -/
import Derived.Test.YtpobgjkmjlmafaaZ5
namespace Go.Proofs.Ytpobgjkmjlmafaa
open Go.RowKit Go.Proofs.YtpobgjkmjlmafaaW.PrintWords Go.Proofs.YtpobgjkmjlmafaaW.PrintLast
set_option linter.unusedVariables false
set_option linter.unusedSimpArgs false

set_option maxHeartbeats 8000000 in
set_option maxRecDepth 10000 in
theorem lawFnMake_c {w : World} {A : Option Addr} {n c : Nat} {bs : List Int} (h : CodeIn w A n c bs) (hn : n ≤ 9223372036854775807) :
    Calls Try.prog 15 #[.slice A n c] w (Ret (.bool true) w) := by
  have H := Lib.hid h
  clear h
  go_enter Try.func15, Try.ntmps15
  by_cases hlen : (1048576 : Int) < (n : Int)
  · go_wp2
    go_ret
    exact ⟨rfl, Below.refl _ _⟩
  go_wp2_with fail
  refine ((drawMake_c H.out hn).mono fun _ _ h => DrewM.new h).mono ?_
  rintro e w1 ⟨Ap, Bp, cp, dp, p, name, size, rfl, hs, hn1, hn2, hp, hin, hb⟩
  have HP := Lib.hid hp
  have HSp := Lib.hid hp.small
  have Ip := Lib.hid hin
  have KW := Lib.hid hb
  clear hp hin hb
  have HN : Hid (name.size ≤ 1048576) := eight_size hs
  have HNM := Lib.hid hs
  clear hs
  cases hok : poolOk p
  · obtain ⟨q, hq, hqs⟩ : ∃ q, (chP p (makeF p name size) = q ∧ chB p (makeF p name size) = false) ∧ SmallP q := ⟨_, ch_bad hok _, noP_small⟩
    have HE := Lib.hid hq
    have HSq := Lib.hid hqs
    have HOK := Lib.hid hok
    clear hq hqs hok
    go_wp2_with fail
    have hnew := PVar.new Ip.out
    have hb : Bel w1 (w1.alloc (.cells #[.slice Ap p.slots.length cp, .slice Bp p.vols.length dp] 30)) := bel_alloc (Below.refl _ _) _
    generalize w1.alloc (.cells #[.slice Ap p.slots.length cp, .slice Bp p.vols.length dp] 30) = W2 at hnew hb ⊢
    replace Ip := Lib.hid (Ip.out.bel hb)
    replace KW := Lib.hid (KW.out.tr hb)
    obtain ⟨bp, hbn⟩ : ∃ b, w1.heap.size = b := ⟨_, rfl⟩
    rw [hbn] at hnew ⊢
    have Pp := Lib.hid hnew
    clear hnew hb hbn Ip
    refine (specMake_n Pp.out.inn HSp.out HN.out HE.out).mono ?_
    rintro e w3 ⟨Awant, Bwant, cwant, dwant, rfl, hin, hb⟩
    replace Pp := Lib.hid (Pp.out.bel hb)
    replace KW := Lib.hid (KW.out.tr hb)
    have Iwant := Lib.hid hin
    clear hin hb
    have qp0 := Pp.out.c0
    have qp1 := Pp.out.c1
    have yp := Pp.out.lt
    go_wp2_with fail
    clear qp0 qp1 yp
    have hnew := PVar.new Iwant.out
    have hb : Bel w3 (w3.alloc (.cells #[.slice Awant q.slots.length cwant, .slice Bwant q.vols.length dwant] 30)) := bel_alloc (Below.refl _ _) _
    generalize w3.alloc (.cells #[.slice Awant q.slots.length cwant, .slice Bwant q.vols.length dwant] 30) = W4 at hnew hb ⊢
    replace Pp := Lib.hid (Pp.out.bel hb)
    replace Iwant := Lib.hid (Iwant.out.bel hb)
    replace KW := Lib.hid (KW.out.tr hb)
    obtain ⟨bwant, hbn⟩ : ∃ b, w3.heap.size = b := ⟨_, rfl⟩
    rw [hbn] at hnew ⊢
    have Pwant := Lib.hid hnew
    clear hnew hb hbn Iwant
    refine (implMake_n Pp.out.inn HSp.out HN.out HE.out).mono ?_
    rintro e w5 ⟨Ax, Bx, cx, dx, rfl, hin, hb⟩
    replace Pp := Lib.hid (Pp.out.bel hb)
    replace Pwant := Lib.hid (Pwant.out.bel hb)
    replace KW := Lib.hid (KW.out.tr hb)
    have Ix := Lib.hid hin
    clear hin hb
    have qp0 := Pp.out.c0
    have qp1 := Pp.out.c1
    have yp := Pp.out.lt
    have qwant0 := Pwant.out.c0
    have qwant1 := Pwant.out.c1
    have ywant := Pwant.out.lt
    go_wp2_with fail
    clear qp0 qp1 yp qwant0 qwant1 ywant
    have hnew := PVar.new Ix.out
    have hb : Bel w5 (w5.alloc (.cells #[.slice Ax q.slots.length cx, .slice Bx q.vols.length dx] 30)) := bel_alloc (Below.refl _ _) _
    generalize w5.alloc (.cells #[.slice Ax q.slots.length cx, .slice Bx q.vols.length dx] 30) = W6 at hnew hb ⊢
    replace Pp := Lib.hid (Pp.out.bel hb)
    replace Pwant := Lib.hid (Pwant.out.bel hb)
    replace Ix := Lib.hid (Ix.out.bel hb)
    replace KW := Lib.hid (KW.out.tr hb)
    obtain ⟨bx, hbn⟩ : ∃ b, w5.heap.size = b := ⟨_, rfl⟩
    rw [hbn] at hnew ⊢
    have Px := Lib.hid hnew
    clear hnew hb hbn Ix
    refine (lgPool_c Px.out.inn Pwant.out.inn HSq.out).mono ?_
    rintro e w7 ⟨rfl, hb⟩
    replace Pp := Lib.hid (Pp.out.bel hb)
    replace Pwant := Lib.hid (Pwant.out.bel hb)
    replace Px := Lib.hid (Px.out.bel hb)
    replace KW := Lib.hid (KW.out.tr hb)
    clear hb
    have qp0 := Pp.out.c0
    have qp1 := Pp.out.c1
    have yp := Pp.out.lt
    have qwant0 := Pwant.out.c0
    have qwant1 := Pwant.out.c1
    have ywant := Pwant.out.lt
    have qx0 := Px.out.c0
    have qx1 := Px.out.c1
    have yx := Px.out.lt
    go_wp2_with fail
    clear qp0 qp1 yp qwant0 qwant1 ywant qx0 qx1 yx
    refine (specOk_n Pp.out.inn HSp.out HOK.out).mono ?_
    rintro e w8 ⟨rfl, hb⟩
    replace Pp := Lib.hid (Pp.out.bel hb)
    replace Pwant := Lib.hid (Pwant.out.bel hb)
    replace Px := Lib.hid (Px.out.bel hb)
    replace KW := Lib.hid (KW.out.tr hb)
    clear hb
    have qp0 := Pp.out.c0
    have qp1 := Pp.out.c1
    have yp := Pp.out.lt
    have qwant0 := Pwant.out.c0
    have qwant1 := Pwant.out.c1
    have ywant := Pwant.out.lt
    have qx0 := Px.out.c0
    have qx1 := Px.out.c1
    have yx := Px.out.lt
    go_wp2_with fail
    clear qp0 qp1 yp qwant0 qwant1 ywant qx0 qx1 yx
    refine (lgPool_c Px.out.inn Pwant.out.inn HSq.out).mono ?_
    rintro e w9 ⟨rfl, hb⟩
    replace Pp := Lib.hid (Pp.out.bel hb)
    replace Pwant := Lib.hid (Pwant.out.bel hb)
    replace Px := Lib.hid (Px.out.bel hb)
    replace KW := Lib.hid (KW.out.tr hb)
    clear hb
    have qp0 := Pp.out.c0
    have qp1 := Pp.out.c1
    have yp := Pp.out.lt
    have qwant0 := Pwant.out.c0
    have qwant1 := Pwant.out.c1
    have ywant := Pwant.out.lt
    have qx0 := Px.out.c0
    have qx1 := Px.out.c1
    have yx := Px.out.lt
    go_wp2
    go_ret
    exact ⟨rfl, KW.out⟩
  have HV := Lib.hid (poolOk_iff.1 hok)
  have HOK := Lib.hid hok
  clear hok
  cases hF : makeF p name size
  · have HE := Lib.hid (ch_none HV.out hF)
    have hcs := make_none_cases HV.out hF HNM.out hn1
    obtain ⟨nb, hnb⟩ : ∃ nb, lgBlks p.vols name = nb := ⟨_, rfl⟩
    rw [hnb] at hcs
    have HBL := Lib.hid hnb
    clear hF hnb
    rcases hcs with hc | ⟨hc, hc | ⟨hc6, hc | hc⟩⟩
    · skip
      go_wp2_with fail
      have hnew := PVar.new Ip.out
      have hb : Bel w1 (w1.alloc (.cells #[.slice Ap p.slots.length cp, .slice Bp p.vols.length dp] 30)) := bel_alloc (Below.refl _ _) _
      generalize w1.alloc (.cells #[.slice Ap p.slots.length cp, .slice Bp p.vols.length dp] 30) = W2 at hnew hb ⊢
      replace Ip := Lib.hid (Ip.out.bel hb)
      replace KW := Lib.hid (KW.out.tr hb)
      obtain ⟨bp, hbn⟩ : ∃ b, w1.heap.size = b := ⟨_, rfl⟩
      rw [hbn] at hnew ⊢
      have Pp := Lib.hid hnew
      clear hnew hb hbn Ip
      refine (specMake_n Pp.out.inn HSp.out HN.out HE.out).mono ?_
      rintro e w3 ⟨Awant, Bwant, cwant, dwant, rfl, hin, hb⟩
      replace Pp := Lib.hid (Pp.out.bel hb)
      replace KW := Lib.hid (KW.out.tr hb)
      have Iwant := Lib.hid hin
      clear hin hb
      have qp0 := Pp.out.c0
      have qp1 := Pp.out.c1
      have yp := Pp.out.lt
      go_wp2_with fail
      clear qp0 qp1 yp
      have hnew := PVar.new Iwant.out
      have hb : Bel w3 (w3.alloc (.cells #[.slice Awant p.slots.length cwant, .slice Bwant p.vols.length dwant] 30)) := bel_alloc (Below.refl _ _) _
      generalize w3.alloc (.cells #[.slice Awant p.slots.length cwant, .slice Bwant p.vols.length dwant] 30) = W4 at hnew hb ⊢
      replace Pp := Lib.hid (Pp.out.bel hb)
      replace Iwant := Lib.hid (Iwant.out.bel hb)
      replace KW := Lib.hid (KW.out.tr hb)
      obtain ⟨bwant, hbn⟩ : ∃ b, w3.heap.size = b := ⟨_, rfl⟩
      rw [hbn] at hnew ⊢
      have Pwant := Lib.hid hnew
      clear hnew hb hbn Iwant
      refine (implMake_n Pp.out.inn HSp.out HN.out HE.out).mono ?_
      rintro e w5 ⟨Ax, Bx, cx, dx, rfl, hin, hb⟩
      replace Pp := Lib.hid (Pp.out.bel hb)
      replace Pwant := Lib.hid (Pwant.out.bel hb)
      replace KW := Lib.hid (KW.out.tr hb)
      have Ix := Lib.hid hin
      clear hin hb
      have qp0 := Pp.out.c0
      have qp1 := Pp.out.c1
      have yp := Pp.out.lt
      have qwant0 := Pwant.out.c0
      have qwant1 := Pwant.out.c1
      have ywant := Pwant.out.lt
      go_wp2_with fail
      clear qp0 qp1 yp qwant0 qwant1 ywant
      have hnew := PVar.new Ix.out
      have hb : Bel w5 (w5.alloc (.cells #[.slice Ax p.slots.length cx, .slice Bx p.vols.length dx] 30)) := bel_alloc (Below.refl _ _) _
      generalize w5.alloc (.cells #[.slice Ax p.slots.length cx, .slice Bx p.vols.length dx] 30) = W6 at hnew hb ⊢
      replace Pp := Lib.hid (Pp.out.bel hb)
      replace Pwant := Lib.hid (Pwant.out.bel hb)
      replace Ix := Lib.hid (Ix.out.bel hb)
      replace KW := Lib.hid (KW.out.tr hb)
      obtain ⟨bx, hbn⟩ : ∃ b, w5.heap.size = b := ⟨_, rfl⟩
      rw [hbn] at hnew ⊢
      have Px := Lib.hid hnew
      clear hnew hb hbn Ix
      refine (lgPool_c Px.out.inn Pwant.out.inn HSp.out).mono ?_
      rintro e w7 ⟨rfl, hb⟩
      replace Pp := Lib.hid (Pp.out.bel hb)
      replace Pwant := Lib.hid (Pwant.out.bel hb)
      replace Px := Lib.hid (Px.out.bel hb)
      replace KW := Lib.hid (KW.out.tr hb)
      clear hb
      have qp0 := Pp.out.c0
      have qp1 := Pp.out.c1
      have yp := Pp.out.lt
      have qwant0 := Pwant.out.c0
      have qwant1 := Pwant.out.c1
      have ywant := Pwant.out.lt
      have qx0 := Px.out.c0
      have qx1 := Px.out.c1
      have yx := Px.out.lt
      go_wp2_with fail
      clear qp0 qp1 yp qwant0 qwant1 ywant qx0 qx1 yx
      refine (specOk_n Pp.out.inn HSp.out HOK.out).mono ?_
      rintro e w8 ⟨rfl, hb⟩
      replace Pp := Lib.hid (Pp.out.bel hb)
      replace Pwant := Lib.hid (Pwant.out.bel hb)
      replace Px := Lib.hid (Px.out.bel hb)
      replace KW := Lib.hid (KW.out.tr hb)
      clear hb
      have qp0 := Pp.out.c0
      have qp1 := Pp.out.c1
      have yp := Pp.out.lt
      have qwant0 := Pwant.out.c0
      have qwant1 := Pwant.out.c1
      have ywant := Pwant.out.lt
      have qx0 := Px.out.c0
      have qx1 := Px.out.c1
      have yx := Px.out.lt
      go_wp2_with fail
      clear qp0 qp1 yp qwant0 qwant1 ywant qx0 qx1 yx
      refine (lgPool_c Px.out.inn Pp.out.inn HSp.out).mono ?_
      rintro e w9 ⟨rfl, hb⟩
      replace Pp := Lib.hid (Pp.out.bel hb)
      replace Pwant := Lib.hid (Pwant.out.bel hb)
      replace Px := Lib.hid (Px.out.bel hb)
      replace KW := Lib.hid (KW.out.tr hb)
      clear hb
      have qp0 := Pp.out.c0
      have qp1 := Pp.out.c1
      have yp := Pp.out.lt
      have qwant0 := Pwant.out.c0
      have qwant1 := Pwant.out.c1
      have ywant := Pwant.out.lt
      have qx0 := Px.out.c0
      have qx1 := Px.out.c1
      have yx := Px.out.lt
      go_wp2_with fail
      clear qp0 qp1 yp qwant0 qwant1 ywant qx0 qx1 yx
      refine (blocks_n Pp.out.inn HSp.out HBL.out).mono ?_
      rintro e w10 ⟨rfl, hb⟩
      replace Pp := Lib.hid (Pp.out.bel hb)
      replace Pwant := Lib.hid (Pwant.out.bel hb)
      replace Px := Lib.hid (Px.out.bel hb)
      replace KW := Lib.hid (KW.out.tr hb)
      clear hb
      have qp0 := Pp.out.c0
      have qp1 := Pp.out.c1
      have yp := Pp.out.lt
      have qwant0 := Pwant.out.c0
      have qwant1 := Pwant.out.c1
      have ywant := Pwant.out.lt
      have qx0 := Px.out.c0
      have qx1 := Px.out.c1
      have yx := Px.out.lt
      go_wp2
      go_ret
      exact ⟨rfl, KW.out⟩
    · skip
      have HBL0 : Hid (lgBlks p.vols name = 0) := HBL.out.trans (by assumption)
      go_wp2_with fail
      have hnew := PVar.new Ip.out
      have hb : Bel w1 (w1.alloc (.cells #[.slice Ap p.slots.length cp, .slice Bp p.vols.length dp] 30)) := bel_alloc (Below.refl _ _) _
      generalize w1.alloc (.cells #[.slice Ap p.slots.length cp, .slice Bp p.vols.length dp] 30) = W2 at hnew hb ⊢
      replace Ip := Lib.hid (Ip.out.bel hb)
      replace KW := Lib.hid (KW.out.tr hb)
      obtain ⟨bp, hbn⟩ : ∃ b, w1.heap.size = b := ⟨_, rfl⟩
      rw [hbn] at hnew ⊢
      have Pp := Lib.hid hnew
      clear hnew hb hbn Ip
      refine (specMake_n Pp.out.inn HSp.out HN.out HE.out).mono ?_
      rintro e w3 ⟨Awant, Bwant, cwant, dwant, rfl, hin, hb⟩
      replace Pp := Lib.hid (Pp.out.bel hb)
      replace KW := Lib.hid (KW.out.tr hb)
      have Iwant := Lib.hid hin
      clear hin hb
      have qp0 := Pp.out.c0
      have qp1 := Pp.out.c1
      have yp := Pp.out.lt
      go_wp2_with fail
      clear qp0 qp1 yp
      have hnew := PVar.new Iwant.out
      have hb : Bel w3 (w3.alloc (.cells #[.slice Awant p.slots.length cwant, .slice Bwant p.vols.length dwant] 30)) := bel_alloc (Below.refl _ _) _
      generalize w3.alloc (.cells #[.slice Awant p.slots.length cwant, .slice Bwant p.vols.length dwant] 30) = W4 at hnew hb ⊢
      replace Pp := Lib.hid (Pp.out.bel hb)
      replace Iwant := Lib.hid (Iwant.out.bel hb)
      replace KW := Lib.hid (KW.out.tr hb)
      obtain ⟨bwant, hbn⟩ : ∃ b, w3.heap.size = b := ⟨_, rfl⟩
      rw [hbn] at hnew ⊢
      have Pwant := Lib.hid hnew
      clear hnew hb hbn Iwant
      refine (implMake_n Pp.out.inn HSp.out HN.out HE.out).mono ?_
      rintro e w5 ⟨Ax, Bx, cx, dx, rfl, hin, hb⟩
      replace Pp := Lib.hid (Pp.out.bel hb)
      replace Pwant := Lib.hid (Pwant.out.bel hb)
      replace KW := Lib.hid (KW.out.tr hb)
      have Ix := Lib.hid hin
      clear hin hb
      have qp0 := Pp.out.c0
      have qp1 := Pp.out.c1
      have yp := Pp.out.lt
      have qwant0 := Pwant.out.c0
      have qwant1 := Pwant.out.c1
      have ywant := Pwant.out.lt
      go_wp2_with fail
      clear qp0 qp1 yp qwant0 qwant1 ywant
      have hnew := PVar.new Ix.out
      have hb : Bel w5 (w5.alloc (.cells #[.slice Ax p.slots.length cx, .slice Bx p.vols.length dx] 30)) := bel_alloc (Below.refl _ _) _
      generalize w5.alloc (.cells #[.slice Ax p.slots.length cx, .slice Bx p.vols.length dx] 30) = W6 at hnew hb ⊢
      replace Pp := Lib.hid (Pp.out.bel hb)
      replace Pwant := Lib.hid (Pwant.out.bel hb)
      replace Ix := Lib.hid (Ix.out.bel hb)
      replace KW := Lib.hid (KW.out.tr hb)
      obtain ⟨bx, hbn⟩ : ∃ b, w5.heap.size = b := ⟨_, rfl⟩
      rw [hbn] at hnew ⊢
      have Px := Lib.hid hnew
      clear hnew hb hbn Ix
      refine (lgPool_c Px.out.inn Pwant.out.inn HSp.out).mono ?_
      rintro e w7 ⟨rfl, hb⟩
      replace Pp := Lib.hid (Pp.out.bel hb)
      replace Pwant := Lib.hid (Pwant.out.bel hb)
      replace Px := Lib.hid (Px.out.bel hb)
      replace KW := Lib.hid (KW.out.tr hb)
      clear hb
      have qp0 := Pp.out.c0
      have qp1 := Pp.out.c1
      have yp := Pp.out.lt
      have qwant0 := Pwant.out.c0
      have qwant1 := Pwant.out.c1
      have ywant := Pwant.out.lt
      have qx0 := Px.out.c0
      have qx1 := Px.out.c1
      have yx := Px.out.lt
      go_wp2_with fail
      clear qp0 qp1 yp qwant0 qwant1 ywant qx0 qx1 yx
      refine (specOk_n Pp.out.inn HSp.out HOK.out).mono ?_
      rintro e w8 ⟨rfl, hb⟩
      replace Pp := Lib.hid (Pp.out.bel hb)
      replace Pwant := Lib.hid (Pwant.out.bel hb)
      replace Px := Lib.hid (Px.out.bel hb)
      replace KW := Lib.hid (KW.out.tr hb)
      clear hb
      have qp0 := Pp.out.c0
      have qp1 := Pp.out.c1
      have yp := Pp.out.lt
      have qwant0 := Pwant.out.c0
      have qwant1 := Pwant.out.c1
      have ywant := Pwant.out.lt
      have qx0 := Px.out.c0
      have qx1 := Px.out.c1
      have yx := Px.out.lt
      go_wp2_with fail
      clear qp0 qp1 yp qwant0 qwant1 ywant qx0 qx1 yx
      refine (lgPool_c Px.out.inn Pp.out.inn HSp.out).mono ?_
      rintro e w9 ⟨rfl, hb⟩
      replace Pp := Lib.hid (Pp.out.bel hb)
      replace Pwant := Lib.hid (Pwant.out.bel hb)
      replace Px := Lib.hid (Px.out.bel hb)
      replace KW := Lib.hid (KW.out.tr hb)
      clear hb
      have qp0 := Pp.out.c0
      have qp1 := Pp.out.c1
      have yp := Pp.out.lt
      have qwant0 := Pwant.out.c0
      have qwant1 := Pwant.out.c1
      have ywant := Pwant.out.lt
      have qx0 := Px.out.c0
      have qx1 := Px.out.c1
      have yx := Px.out.lt
      go_wp2_with fail
      clear qp0 qp1 yp qwant0 qwant1 ywant qx0 qx1 yx
      refine (blocks_n Pp.out.inn HSp.out HBL0.out).mono ?_
      rintro e w10 ⟨rfl, hb⟩
      replace Pp := Lib.hid (Pp.out.bel hb)
      replace Pwant := Lib.hid (Pwant.out.bel hb)
      replace Px := Lib.hid (Px.out.bel hb)
      replace KW := Lib.hid (KW.out.tr hb)
      clear hb
      have qp0 := Pp.out.c0
      have qp1 := Pp.out.c1
      have yp := Pp.out.lt
      have qwant0 := Pwant.out.c0
      have qwant1 := Pwant.out.c1
      have ywant := Pwant.out.lt
      have qx0 := Px.out.c0
      have qx1 := Px.out.c1
      have yx := Px.out.lt
      go_wp2
      go_ret
      exact ⟨rfl, KW.out⟩
    · skip
      have HBL0 : Hid (lgBlks p.vols name = 0) := HBL.out.trans (by assumption)
      have hem : name.toList.isEmpty = true := by simpa using hc
      go_wp2_with fail
      have hnew := PVar.new Ip.out
      have hb : Bel w1 (w1.alloc (.cells #[.slice Ap p.slots.length cp, .slice Bp p.vols.length dp] 30)) := bel_alloc (Below.refl _ _) _
      generalize w1.alloc (.cells #[.slice Ap p.slots.length cp, .slice Bp p.vols.length dp] 30) = W2 at hnew hb ⊢
      replace Ip := Lib.hid (Ip.out.bel hb)
      replace KW := Lib.hid (KW.out.tr hb)
      obtain ⟨bp, hbn⟩ : ∃ b, w1.heap.size = b := ⟨_, rfl⟩
      rw [hbn] at hnew ⊢
      have Pp := Lib.hid hnew
      clear hnew hb hbn Ip
      refine (specMake_n Pp.out.inn HSp.out HN.out HE.out).mono ?_
      rintro e w3 ⟨Awant, Bwant, cwant, dwant, rfl, hin, hb⟩
      replace Pp := Lib.hid (Pp.out.bel hb)
      replace KW := Lib.hid (KW.out.tr hb)
      have Iwant := Lib.hid hin
      clear hin hb
      have qp0 := Pp.out.c0
      have qp1 := Pp.out.c1
      have yp := Pp.out.lt
      go_wp2_with fail
      clear qp0 qp1 yp
      have hnew := PVar.new Iwant.out
      have hb : Bel w3 (w3.alloc (.cells #[.slice Awant p.slots.length cwant, .slice Bwant p.vols.length dwant] 30)) := bel_alloc (Below.refl _ _) _
      generalize w3.alloc (.cells #[.slice Awant p.slots.length cwant, .slice Bwant p.vols.length dwant] 30) = W4 at hnew hb ⊢
      replace Pp := Lib.hid (Pp.out.bel hb)
      replace Iwant := Lib.hid (Iwant.out.bel hb)
      replace KW := Lib.hid (KW.out.tr hb)
      obtain ⟨bwant, hbn⟩ : ∃ b, w3.heap.size = b := ⟨_, rfl⟩
      rw [hbn] at hnew ⊢
      have Pwant := Lib.hid hnew
      clear hnew hb hbn Iwant
      refine (implMake_n Pp.out.inn HSp.out HN.out HE.out).mono ?_
      rintro e w5 ⟨Ax, Bx, cx, dx, rfl, hin, hb⟩
      replace Pp := Lib.hid (Pp.out.bel hb)
      replace Pwant := Lib.hid (Pwant.out.bel hb)
      replace KW := Lib.hid (KW.out.tr hb)
      have Ix := Lib.hid hin
      clear hin hb
      have qp0 := Pp.out.c0
      have qp1 := Pp.out.c1
      have yp := Pp.out.lt
      have qwant0 := Pwant.out.c0
      have qwant1 := Pwant.out.c1
      have ywant := Pwant.out.lt
      go_wp2_with fail
      clear qp0 qp1 yp qwant0 qwant1 ywant
      have hnew := PVar.new Ix.out
      have hb : Bel w5 (w5.alloc (.cells #[.slice Ax p.slots.length cx, .slice Bx p.vols.length dx] 30)) := bel_alloc (Below.refl _ _) _
      generalize w5.alloc (.cells #[.slice Ax p.slots.length cx, .slice Bx p.vols.length dx] 30) = W6 at hnew hb ⊢
      replace Pp := Lib.hid (Pp.out.bel hb)
      replace Pwant := Lib.hid (Pwant.out.bel hb)
      replace Ix := Lib.hid (Ix.out.bel hb)
      replace KW := Lib.hid (KW.out.tr hb)
      obtain ⟨bx, hbn⟩ : ∃ b, w5.heap.size = b := ⟨_, rfl⟩
      rw [hbn] at hnew ⊢
      have Px := Lib.hid hnew
      clear hnew hb hbn Ix
      refine (lgPool_c Px.out.inn Pwant.out.inn HSp.out).mono ?_
      rintro e w7 ⟨rfl, hb⟩
      replace Pp := Lib.hid (Pp.out.bel hb)
      replace Pwant := Lib.hid (Pwant.out.bel hb)
      replace Px := Lib.hid (Px.out.bel hb)
      replace KW := Lib.hid (KW.out.tr hb)
      clear hb
      have qp0 := Pp.out.c0
      have qp1 := Pp.out.c1
      have yp := Pp.out.lt
      have qwant0 := Pwant.out.c0
      have qwant1 := Pwant.out.c1
      have ywant := Pwant.out.lt
      have qx0 := Px.out.c0
      have qx1 := Px.out.c1
      have yx := Px.out.lt
      go_wp2_with fail
      clear qp0 qp1 yp qwant0 qwant1 ywant qx0 qx1 yx
      refine (specOk_n Pp.out.inn HSp.out HOK.out).mono ?_
      rintro e w8 ⟨rfl, hb⟩
      replace Pp := Lib.hid (Pp.out.bel hb)
      replace Pwant := Lib.hid (Pwant.out.bel hb)
      replace Px := Lib.hid (Px.out.bel hb)
      replace KW := Lib.hid (KW.out.tr hb)
      clear hb
      have qp0 := Pp.out.c0
      have qp1 := Pp.out.c1
      have yp := Pp.out.lt
      have qwant0 := Pwant.out.c0
      have qwant1 := Pwant.out.c1
      have ywant := Pwant.out.lt
      have qx0 := Px.out.c0
      have qx1 := Px.out.c1
      have yx := Px.out.lt
      go_wp2_with fail
      clear qp0 qp1 yp qwant0 qwant1 ywant qx0 qx1 yx
      refine (lgPool_c Px.out.inn Pp.out.inn HSp.out).mono ?_
      rintro e w9 ⟨rfl, hb⟩
      replace Pp := Lib.hid (Pp.out.bel hb)
      replace Pwant := Lib.hid (Pwant.out.bel hb)
      replace Px := Lib.hid (Px.out.bel hb)
      replace KW := Lib.hid (KW.out.tr hb)
      clear hb
      have qp0 := Pp.out.c0
      have qp1 := Pp.out.c1
      have yp := Pp.out.lt
      have qwant0 := Pwant.out.c0
      have qwant1 := Pwant.out.c1
      have ywant := Pwant.out.lt
      have qx0 := Px.out.c0
      have qx1 := Px.out.c1
      have yx := Px.out.lt
      go_wp2_with fail
      clear qp0 qp1 yp qwant0 qwant1 ywant qx0 qx1 yx
      refine (blocks_n Pp.out.inn HSp.out HBL0.out).mono ?_
      rintro e w10 ⟨rfl, hb⟩
      replace Pp := Lib.hid (Pp.out.bel hb)
      replace Pwant := Lib.hid (Pwant.out.bel hb)
      replace Px := Lib.hid (Px.out.bel hb)
      replace KW := Lib.hid (KW.out.tr hb)
      clear hb
      have qp0 := Pp.out.c0
      have qp1 := Pp.out.c1
      have yp := Pp.out.lt
      have qwant0 := Pwant.out.c0
      have qwant1 := Pwant.out.c1
      have ywant := Pwant.out.lt
      have qx0 := Px.out.c0
      have qx1 := Px.out.c1
      have yx := Px.out.lt
      go_wp2
      go_ret
      exact ⟨rfl, KW.out⟩
    · skip
      have HBL0 : Hid (lgBlks p.vols name = 0) := HBL.out.trans (by assumption)
      have hne : ¬ name.toList = [] := by rw [hc]; simp
      have hem : name.toList.isEmpty = false := by simpa using hne
      have h69 : (name.toList == [69]) = true := by simp [hc]
      have HC69 := Lib.hid hc
      clear hc
      go_wp2_with fail
      have hnew := PVar.new Ip.out
      have hb : Bel w1 (w1.alloc (.cells #[.slice Ap p.slots.length cp, .slice Bp p.vols.length dp] 30)) := bel_alloc (Below.refl _ _) _
      generalize w1.alloc (.cells #[.slice Ap p.slots.length cp, .slice Bp p.vols.length dp] 30) = W2 at hnew hb ⊢
      replace Ip := Lib.hid (Ip.out.bel hb)
      replace KW := Lib.hid (KW.out.tr hb)
      obtain ⟨bp, hbn⟩ : ∃ b, w1.heap.size = b := ⟨_, rfl⟩
      rw [hbn] at hnew ⊢
      have Pp := Lib.hid hnew
      clear hnew hb hbn Ip
      refine (specMake_n Pp.out.inn HSp.out HN.out HE.out).mono ?_
      rintro e w3 ⟨Awant, Bwant, cwant, dwant, rfl, hin, hb⟩
      replace Pp := Lib.hid (Pp.out.bel hb)
      replace KW := Lib.hid (KW.out.tr hb)
      have Iwant := Lib.hid hin
      clear hin hb
      have qp0 := Pp.out.c0
      have qp1 := Pp.out.c1
      have yp := Pp.out.lt
      go_wp2_with fail
      clear qp0 qp1 yp
      have hnew := PVar.new Iwant.out
      have hb : Bel w3 (w3.alloc (.cells #[.slice Awant p.slots.length cwant, .slice Bwant p.vols.length dwant] 30)) := bel_alloc (Below.refl _ _) _
      generalize w3.alloc (.cells #[.slice Awant p.slots.length cwant, .slice Bwant p.vols.length dwant] 30) = W4 at hnew hb ⊢
      replace Pp := Lib.hid (Pp.out.bel hb)
      replace Iwant := Lib.hid (Iwant.out.bel hb)
      replace KW := Lib.hid (KW.out.tr hb)
      obtain ⟨bwant, hbn⟩ : ∃ b, w3.heap.size = b := ⟨_, rfl⟩
      rw [hbn] at hnew ⊢
      have Pwant := Lib.hid hnew
      clear hnew hb hbn Iwant
      refine (implMake_n Pp.out.inn HSp.out HN.out HE.out).mono ?_
      rintro e w5 ⟨Ax, Bx, cx, dx, rfl, hin, hb⟩
      replace Pp := Lib.hid (Pp.out.bel hb)
      replace Pwant := Lib.hid (Pwant.out.bel hb)
      replace KW := Lib.hid (KW.out.tr hb)
      have Ix := Lib.hid hin
      clear hin hb
      have qp0 := Pp.out.c0
      have qp1 := Pp.out.c1
      have yp := Pp.out.lt
      have qwant0 := Pwant.out.c0
      have qwant1 := Pwant.out.c1
      have ywant := Pwant.out.lt
      go_wp2_with fail
      clear qp0 qp1 yp qwant0 qwant1 ywant
      have hnew := PVar.new Ix.out
      have hb : Bel w5 (w5.alloc (.cells #[.slice Ax p.slots.length cx, .slice Bx p.vols.length dx] 30)) := bel_alloc (Below.refl _ _) _
      generalize w5.alloc (.cells #[.slice Ax p.slots.length cx, .slice Bx p.vols.length dx] 30) = W6 at hnew hb ⊢
      replace Pp := Lib.hid (Pp.out.bel hb)
      replace Pwant := Lib.hid (Pwant.out.bel hb)
      replace Ix := Lib.hid (Ix.out.bel hb)
      replace KW := Lib.hid (KW.out.tr hb)
      obtain ⟨bx, hbn⟩ : ∃ b, w5.heap.size = b := ⟨_, rfl⟩
      rw [hbn] at hnew ⊢
      have Px := Lib.hid hnew
      clear hnew hb hbn Ix
      refine (lgPool_c Px.out.inn Pwant.out.inn HSp.out).mono ?_
      rintro e w7 ⟨rfl, hb⟩
      replace Pp := Lib.hid (Pp.out.bel hb)
      replace Pwant := Lib.hid (Pwant.out.bel hb)
      replace Px := Lib.hid (Px.out.bel hb)
      replace KW := Lib.hid (KW.out.tr hb)
      clear hb
      have qp0 := Pp.out.c0
      have qp1 := Pp.out.c1
      have yp := Pp.out.lt
      have qwant0 := Pwant.out.c0
      have qwant1 := Pwant.out.c1
      have ywant := Pwant.out.lt
      have qx0 := Px.out.c0
      have qx1 := Px.out.c1
      have yx := Px.out.lt
      go_wp2_with fail
      clear qp0 qp1 yp qwant0 qwant1 ywant qx0 qx1 yx
      refine (specOk_n Pp.out.inn HSp.out HOK.out).mono ?_
      rintro e w8 ⟨rfl, hb⟩
      replace Pp := Lib.hid (Pp.out.bel hb)
      replace Pwant := Lib.hid (Pwant.out.bel hb)
      replace Px := Lib.hid (Px.out.bel hb)
      replace KW := Lib.hid (KW.out.tr hb)
      clear hb
      have qp0 := Pp.out.c0
      have qp1 := Pp.out.c1
      have yp := Pp.out.lt
      have qwant0 := Pwant.out.c0
      have qwant1 := Pwant.out.c1
      have ywant := Pwant.out.lt
      have qx0 := Px.out.c0
      have qx1 := Px.out.c1
      have yx := Px.out.lt
      go_wp2_with fail
      clear qp0 qp1 yp qwant0 qwant1 ywant qx0 qx1 yx
      refine (lgPool_c Px.out.inn Pp.out.inn HSp.out).mono ?_
      rintro e w9 ⟨rfl, hb⟩
      replace Pp := Lib.hid (Pp.out.bel hb)
      replace Pwant := Lib.hid (Pwant.out.bel hb)
      replace Px := Lib.hid (Px.out.bel hb)
      replace KW := Lib.hid (KW.out.tr hb)
      clear hb
      have qp0 := Pp.out.c0
      have qp1 := Pp.out.c1
      have yp := Pp.out.lt
      have qwant0 := Pwant.out.c0
      have qwant1 := Pwant.out.c1
      have ywant := Pwant.out.lt
      have qx0 := Px.out.c0
      have qx1 := Px.out.c1
      have yx := Px.out.lt
      go_wp2_with fail
      clear qp0 qp1 yp qwant0 qwant1 ywant qx0 qx1 yx
      refine (blocks_n Pp.out.inn HSp.out HBL0.out).mono ?_
      rintro e w10 ⟨rfl, hb⟩
      replace Pp := Lib.hid (Pp.out.bel hb)
      replace Pwant := Lib.hid (Pwant.out.bel hb)
      replace Px := Lib.hid (Px.out.bel hb)
      replace KW := Lib.hid (KW.out.tr hb)
      clear hb
      have qp0 := Pp.out.c0
      have qp1 := Pp.out.c1
      have yp := Pp.out.lt
      have qwant0 := Pwant.out.c0
      have qwant1 := Pwant.out.c1
      have ywant := Pwant.out.lt
      have qx0 := Px.out.c0
      have qx1 := Px.out.c1
      have yx := Px.out.lt
      go_wp2
      go_ret
      exact ⟨rfl, KW.out⟩
  rename_i q
  have HE := Lib.hid (ch_some HV.out hF)
  have hqv := makeF_ok HV.out hF
  have HSq := Lib.hid hqv.small
  have HVq := Lib.hid hqv
  have HOKq := Lib.hid (poolOk_iff.2 hqv)
  clear hqv
  have hmf := make_facts HV.out hF
  obtain ⟨m, rfl⟩ : ∃ m : Nat, size = m := ⟨size.toNat, by omega⟩
  have HRD := Lib.hid hmf.1
  have HBL := Lib.hid hmf.2.1
  have HOT := Lib.hid hmf.2.2
  have HSL := Lib.hid (make_slots hF)
  have HLQ := Lib.hid (make_len hF)
  have hl4 := HV.out.v.len
  clear hF hmf
  go_wp2_with fail
  have hnew := PVar.new Ip.out
  have hb : Bel w1 (w1.alloc (.cells #[.slice Ap p.slots.length cp, .slice Bp p.vols.length dp] 30)) := bel_alloc (Below.refl _ _) _
  generalize w1.alloc (.cells #[.slice Ap p.slots.length cp, .slice Bp p.vols.length dp] 30) = W2 at hnew hb ⊢
  replace Ip := Lib.hid (Ip.out.bel hb)
  replace KW := Lib.hid (KW.out.tr hb)
  obtain ⟨bp, hbn⟩ : ∃ b, w1.heap.size = b := ⟨_, rfl⟩
  rw [hbn] at hnew ⊢
  have Pp := Lib.hid hnew
  clear hnew hb hbn Ip
  refine (specMake_n Pp.out.inn HSp.out HN.out HE.out).mono ?_
  rintro e w3 ⟨Awant, Bwant, cwant, dwant, rfl, hin, hb⟩
  replace Pp := Lib.hid (Pp.out.bel hb)
  replace KW := Lib.hid (KW.out.tr hb)
  have Iwant := Lib.hid hin
  clear hin hb
  have qp0 := Pp.out.c0
  have qp1 := Pp.out.c1
  have yp := Pp.out.lt
  go_wp2_with fail
  clear qp0 qp1 yp
  have hnew := PVar.new Iwant.out
  have hb : Bel w3 (w3.alloc (.cells #[.slice Awant q.slots.length cwant, .slice Bwant q.vols.length dwant] 30)) := bel_alloc (Below.refl _ _) _
  generalize w3.alloc (.cells #[.slice Awant q.slots.length cwant, .slice Bwant q.vols.length dwant] 30) = W4 at hnew hb ⊢
  replace Pp := Lib.hid (Pp.out.bel hb)
  replace Iwant := Lib.hid (Iwant.out.bel hb)
  replace KW := Lib.hid (KW.out.tr hb)
  obtain ⟨bwant, hbn⟩ : ∃ b, w3.heap.size = b := ⟨_, rfl⟩
  rw [hbn] at hnew ⊢
  have Pwant := Lib.hid hnew
  clear hnew hb hbn Iwant
  refine (implMake_n Pp.out.inn HSp.out HN.out HE.out).mono ?_
  rintro e w5 ⟨Ax, Bx, cx, dx, rfl, hin, hb⟩
  replace Pp := Lib.hid (Pp.out.bel hb)
  replace Pwant := Lib.hid (Pwant.out.bel hb)
  replace KW := Lib.hid (KW.out.tr hb)
  have Ix := Lib.hid hin
  clear hin hb
  have qp0 := Pp.out.c0
  have qp1 := Pp.out.c1
  have yp := Pp.out.lt
  have qwant0 := Pwant.out.c0
  have qwant1 := Pwant.out.c1
  have ywant := Pwant.out.lt
  go_wp2_with fail
  clear qp0 qp1 yp qwant0 qwant1 ywant
  have hnew := PVar.new Ix.out
  have hb : Bel w5 (w5.alloc (.cells #[.slice Ax q.slots.length cx, .slice Bx q.vols.length dx] 30)) := bel_alloc (Below.refl _ _) _
  generalize w5.alloc (.cells #[.slice Ax q.slots.length cx, .slice Bx q.vols.length dx] 30) = W6 at hnew hb ⊢
  replace Pp := Lib.hid (Pp.out.bel hb)
  replace Pwant := Lib.hid (Pwant.out.bel hb)
  replace Ix := Lib.hid (Ix.out.bel hb)
  replace KW := Lib.hid (KW.out.tr hb)
  obtain ⟨bx, hbn⟩ : ∃ b, w5.heap.size = b := ⟨_, rfl⟩
  rw [hbn] at hnew ⊢
  have Px := Lib.hid hnew
  clear hnew hb hbn Ix
  refine (lgPool_c Px.out.inn Pwant.out.inn HSq.out).mono ?_
  rintro e w7 ⟨rfl, hb⟩
  replace Pp := Lib.hid (Pp.out.bel hb)
  replace Pwant := Lib.hid (Pwant.out.bel hb)
  replace Px := Lib.hid (Px.out.bel hb)
  replace KW := Lib.hid (KW.out.tr hb)
  clear hb
  have qp0 := Pp.out.c0
  have qp1 := Pp.out.c1
  have yp := Pp.out.lt
  have qwant0 := Pwant.out.c0
  have qwant1 := Pwant.out.c1
  have ywant := Pwant.out.lt
  have qx0 := Px.out.c0
  have qx1 := Px.out.c1
  have yx := Px.out.lt
  go_wp2_with fail
  clear qp0 qp1 yp qwant0 qwant1 ywant qx0 qx1 yx
  refine (specOk_n Pp.out.inn HSp.out HOK.out).mono ?_
  rintro e w8 ⟨rfl, hb⟩
  replace Pp := Lib.hid (Pp.out.bel hb)
  replace Pwant := Lib.hid (Pwant.out.bel hb)
  replace Px := Lib.hid (Px.out.bel hb)
  replace KW := Lib.hid (KW.out.tr hb)
  clear hb
  have qp0 := Pp.out.c0
  have qp1 := Pp.out.c1
  have yp := Pp.out.lt
  have qwant0 := Pwant.out.c0
  have qwant1 := Pwant.out.c1
  have ywant := Pwant.out.lt
  have qx0 := Px.out.c0
  have qx1 := Px.out.c1
  have yx := Px.out.lt
  go_wp2_with fail
  clear qp0 qp1 yp qwant0 qwant1 ywant qx0 qx1 yx
  go_loopg [10] m (fun g v W => ∃ k : Nat, g + k = m ∧ v = .int .i64 k ∧ Bel w8 W)
  case atStart => exact ⟨0, rfl, rfl, Below.refl _ _⟩
  case round =>
    obtain ⟨k, hk, rfl, hW⟩ := hrel
    have BW := Lib.hid hW
    replace Pp := Lib.hid (Pp.out.bel hW)
    replace Pwant := Lib.hid (Pwant.out.bel hW)
    replace Px := Lib.hid (Px.out.bel hW)
    replace KW := Lib.hid (KW.out.tr hW)
    clear hW
    by_cases hlt : k < m
    · have HR := Lib.hid (HRD.out k (by omega))
      have qp0 := Pp.out.c0
      have qp1 := Pp.out.c1
      have yp := Pp.out.lt
      have qwant0 := Pwant.out.c0
      have qwant1 := Pwant.out.c1
      have ywant := Pwant.out.lt
      have qx0 := Px.out.c0
      have qx1 := Px.out.c1
      have yx := Px.out.lt
      go_wp2_with fail
      clear qp0 qp1 yp qwant0 qwant1 ywant qx0 qx1 yx
      refine (read_n Px.out.inn HSq.out HR.out).mono ?_
      rintro e w9 ⟨rfl, hb⟩
      replace Pp := Lib.hid (Pp.out.bel hb)
      replace Pwant := Lib.hid (Pwant.out.bel hb)
      replace Px := Lib.hid (Px.out.bel hb)
      replace BW := Lib.hid (BW.out.tr hb)
      replace KW := Lib.hid (KW.out.tr hb)
      clear hb
      have qp0 := Pp.out.c0
      have qp1 := Pp.out.c1
      have yp := Pp.out.lt
      have qwant0 := Pwant.out.c0
      have qwant1 := Pwant.out.c1
      have ywant := Pwant.out.lt
      have qx0 := Px.out.c0
      have qx1 := Px.out.c1
      have yx := Px.out.lt
      go_wp2
      go_roundg (m - (k + 1))
      case measure => omega
      case rel => exact ⟨k + 1, by omega, by go_num, BW.out⟩
    · skip
      have qp0 := Pp.out.c0
      have qp1 := Pp.out.c1
      have yp := Pp.out.lt
      have qwant0 := Pwant.out.c0
      have qwant1 := Pwant.out.c1
      have ywant := Pwant.out.lt
      have qx0 := Px.out.c0
      have qx1 := Px.out.c1
      have yx := Px.out.lt
      go_wp2_with fail
      clear qp0 qp1 yp qwant0 qwant1 ywant qx0 qx1 yx
      refine (blocks_n Px.out.inn HSq.out HBL.out).mono ?_
      rintro e w9 ⟨rfl, hb⟩
      replace Pp := Lib.hid (Pp.out.bel hb)
      replace Pwant := Lib.hid (Pwant.out.bel hb)
      replace Px := Lib.hid (Px.out.bel hb)
      replace BW := Lib.hid (BW.out.tr hb)
      replace KW := Lib.hid (KW.out.tr hb)
      clear hb
      have qp0 := Pp.out.c0
      have qp1 := Pp.out.c1
      have yp := Pp.out.lt
      have qwant0 := Pwant.out.c0
      have qwant1 := Pwant.out.c1
      have ywant := Pwant.out.lt
      have qx0 := Px.out.c0
      have qx1 := Px.out.c1
      have yx := Px.out.lt
      go_wp2_with fail
      clear qp0 qp1 yp qwant0 qwant1 ywant qx0 qx1 yx
      refine (lgOthers_c Pp.out.inn Px.out.inn HSp.out HSq.out HOT.out).mono ?_
      rintro e w10 ⟨rfl, hb⟩
      replace Pp := Lib.hid (Pp.out.bel hb)
      replace Pwant := Lib.hid (Pwant.out.bel hb)
      replace Px := Lib.hid (Px.out.bel hb)
      replace BW := Lib.hid (BW.out.tr hb)
      replace KW := Lib.hid (KW.out.tr hb)
      clear hb
      have qp0 := Pp.out.c0
      have qp1 := Pp.out.c1
      have yp := Pp.out.lt
      have qwant0 := Pwant.out.c0
      have qwant1 := Pwant.out.c1
      have ywant := Pwant.out.lt
      have qx0 := Px.out.c0
      have qx1 := Px.out.c1
      have yx := Px.out.lt
      go_wp2_with fail
      clear qp0 qp1 yp qwant0 qwant1 ywant qx0 qx1 yx
      refine (lgSlots_n Px.out.inn.s Pp.out.inn.s HSL.out.symm HSp.out.slots.len).mono ?_
      rintro e w11 ⟨rfl, hb⟩
      replace Pp := Lib.hid (Pp.out.bel hb)
      replace Pwant := Lib.hid (Pwant.out.bel hb)
      replace Px := Lib.hid (Px.out.bel hb)
      replace BW := Lib.hid (BW.out.tr hb)
      replace KW := Lib.hid (KW.out.tr hb)
      clear hb
      have hg1 : ((q.vols.length : Int) == (p.vols.length : Int) + 1) = true := by have := HLQ.out; simp; omega
      have qp0 := Pp.out.c0
      have qp1 := Pp.out.c1
      have yp := Pp.out.lt
      have qwant0 := Pwant.out.c0
      have qwant1 := Pwant.out.c1
      have ywant := Pwant.out.lt
      have qx0 := Px.out.c0
      have qx1 := Px.out.c1
      have yx := Px.out.lt
      go_wp2_with fail
      clear qp0 qp1 yp qwant0 qwant1 ywant qx0 qx1 yx
      refine (implOk_n Px.out.inn HSq.out HOKq.out).mono ?_
      rintro e w12 ⟨rfl, hb⟩
      replace Pp := Lib.hid (Pp.out.bel hb)
      replace Pwant := Lib.hid (Pwant.out.bel hb)
      replace Px := Lib.hid (Px.out.bel hb)
      replace BW := Lib.hid (BW.out.tr hb)
      replace KW := Lib.hid (KW.out.tr hb)
      clear hb
      have qp0 := Pp.out.c0
      have qp1 := Pp.out.c1
      have yp := Pp.out.lt
      have qwant0 := Pwant.out.c0
      have qwant1 := Pwant.out.c1
      have ywant := Pwant.out.lt
      have qx0 := Px.out.c0
      have qx1 := Px.out.c1
      have yx := Px.out.lt
      go_wp2
      go_ret
      exact ⟨rfl, KW.out⟩
end Go.Proofs.Ytpobgjkmjlmafaa

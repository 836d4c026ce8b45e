/- The law FnOpTwice: its body walked. -/
import Derived.Test.YtpobgjkmjlmafaaZ5
namespace Go.Proofs.Ytpobgjkmjlmafaa
open Go.RowKit Go.Proofs.YtpobgjkmjlmafaaW.PrintWords Go.Proofs.YtpobgjkmjlmafaaW.PrintLast
set_option linter.unusedVariables false
set_option linter.unusedSimpArgs false

set_option maxHeartbeats 8000000 in
set_option maxRecDepth 10000 in
theorem lawFnOpTwice_c {w : World} {A : Option Addr} {n c : Nat} {bs : List Int} (h : CodeIn w A n c bs) (hn : n ≤ 9223372036854775807) :
    Calls Try.prog 23 #[.slice A n c] w (Ret (.bool true) w) := by
  have H := Lib.hid h
  clear h
  go_enter Try.func23, Try.ntmps23
  by_cases hlen : (1048576 : Int) < (n : Int)
  · go_wp2
    go_ret
    exact ⟨rfl, Below.refl _ _⟩
  go_wp2_with fail
  refine ((drawOpDo_c H.out hn).mono fun _ _ h => DrewO.new h).mono ?_
  rintro e w1 ⟨Ap, Bp, cp, dp, p, kd, nm, ds, n', tx, rfl, hoi, hp, hin, hb⟩
  have HP := Lib.hid hp
  have HOI := Lib.hid hoi
  have HSO := Lib.hid hoi.1
  have HSp := Lib.hid hp.small
  have Ip := Lib.hid hin
  have KW := Lib.hid hb
  clear hp hin hb hoi
  cases hok : poolOk p
  · obtain ⟨q, hq, hqs⟩ : ∃ q, (chO p ⟨kd, nm, ds, n', tx⟩ = q ∧ chOB p ⟨kd, nm, ds, n', tx⟩ = false) ∧ SmallP q := ⟨_, chO_bad (.inl hok), noP_small⟩
    have HE := Lib.hid hq
    have HSq := Lib.hid hqs
    have HOK := Lib.hid hok
    clear hq hqs hok
    go_wp2_with fail
    have hP := (PVar.new Ip.out).bel (bel_alloc (Below.refl _ _) (.cells #[.int .i64 kd, .string nm, .string ds, .int .i64 n', .string tx] 74))
    have hO : OVar ((w1.alloc (.cells #[.slice Ap p.slots.length cp, .slice Bp p.vols.length dp] 30)).alloc (.cells #[.int .i64 kd, .string nm, .string ds, .int .i64 n', .string tx] 74)) (w1.heap.size + 1) kd nm ds n' tx := ⟨Blk.nw2 _ _ _ _⟩
    have hb : Bel w1 ((w1.alloc (.cells #[.slice Ap p.slots.length cp, .slice Bp p.vols.length dp] 30)).alloc (.cells #[.int .i64 kd, .string nm, .string ds, .int .i64 n', .string tx] 74)) := bel_alloc (bel_alloc (Below.refl _ _) _) _
    generalize ((w1.alloc (.cells #[.slice Ap p.slots.length cp, .slice Bp p.vols.length dp] 30)).alloc (.cells #[.int .i64 kd, .string nm, .string ds, .int .i64 n', .string tx] 74)) = W2 at hP hO hb ⊢
    replace Ip := Lib.hid (Ip.out.bel hb)
    replace KW := Lib.hid (KW.out.tr hb)
    obtain ⟨bkp, hbn⟩ : ∃ b, w1.heap.size = b := ⟨_, rfl⟩
    rw [hbn] at hP hO ⊢
    obtain ⟨bko, hbo⟩ : ∃ b, bkp + 1 = b := ⟨_, rfl⟩
    rw [hbo] at hO ⊢
    have Pp := Lib.hid hP
    have Oo := Lib.hid hO
    clear hP hO hb hbn hbo Ip
    refine (specOp_n Pp.out.inn HSp.out HSO.out HE.out).mono ?_
    rintro e w3 ⟨Awant, Bwant, cwant, dwant, rfl, hin, hb⟩
    replace Pp := Lib.hid (Pp.out.bel hb)
    replace Oo := Lib.hid (Oo.out.bel hb)
    replace KW := Lib.hid (KW.out.tr hb)
    have Iwant := Lib.hid hin
    clear hin hb
    have qp0 := Pp.out.c0
    have qp1 := Pp.out.c1
    have yp := Pp.out.lt
    have mo0 := Oo.out.m0
    have mo1 := Oo.out.m1
    have mo2 := Oo.out.m2
    have mo3 := Oo.out.m3
    have mo4 := Oo.out.m4
    have myo := Oo.out.lt
    go_wp2_with fail
    clear qp0 qp1 yp
    clear mo0 mo1 mo2 mo3 mo4 myo
    have hnew := PVar.new Iwant.out
    have hb : Bel w3 (w3.alloc (.cells #[.slice Awant q.slots.length cwant, .slice Bwant q.vols.length dwant] 30)) := bel_alloc (Below.refl _ _) _
    generalize w3.alloc (.cells #[.slice Awant q.slots.length cwant, .slice Bwant q.vols.length dwant] 30) = W4 at hnew hb ⊢
    replace Pp := Lib.hid (Pp.out.bel hb)
    replace Oo := Lib.hid (Oo.out.bel hb)
    replace Iwant := Lib.hid (Iwant.out.bel hb)
    replace KW := Lib.hid (KW.out.tr hb)
    obtain ⟨bkwant, hbn⟩ : ∃ b, w3.heap.size = b := ⟨_, rfl⟩
    rw [hbn] at hnew ⊢
    have Pwant := Lib.hid hnew
    clear hnew hb hbn Iwant
    refine (implOp_n Pp.out.inn HSp.out HSO.out HE.out).mono ?_
    rintro e w5 ⟨Ax, Bx, cx, dx, rfl, hin, hb⟩
    replace Pp := Lib.hid (Pp.out.bel hb)
    replace Oo := Lib.hid (Oo.out.bel hb)
    replace Pwant := Lib.hid (Pwant.out.bel hb)
    replace KW := Lib.hid (KW.out.tr hb)
    have Ix := Lib.hid hin
    clear hin hb
    have qp0 := Pp.out.c0
    have qp1 := Pp.out.c1
    have yp := Pp.out.lt
    have qwant0 := Pwant.out.c0
    have qwant1 := Pwant.out.c1
    have ywant := Pwant.out.lt
    have mo0 := Oo.out.m0
    have mo1 := Oo.out.m1
    have mo2 := Oo.out.m2
    have mo3 := Oo.out.m3
    have mo4 := Oo.out.m4
    have myo := Oo.out.lt
    go_wp2_with fail
    clear qp0 qp1 yp qwant0 qwant1 ywant
    clear mo0 mo1 mo2 mo3 mo4 myo
    have hnew := PVar.new Ix.out
    have hb : Bel w5 (w5.alloc (.cells #[.slice Ax q.slots.length cx, .slice Bx q.vols.length dx] 30)) := bel_alloc (Below.refl _ _) _
    generalize w5.alloc (.cells #[.slice Ax q.slots.length cx, .slice Bx q.vols.length dx] 30) = W6 at hnew hb ⊢
    replace Pp := Lib.hid (Pp.out.bel hb)
    replace Oo := Lib.hid (Oo.out.bel hb)
    replace Pwant := Lib.hid (Pwant.out.bel hb)
    replace Ix := Lib.hid (Ix.out.bel hb)
    replace KW := Lib.hid (KW.out.tr hb)
    obtain ⟨bkx, hbn⟩ : ∃ b, w5.heap.size = b := ⟨_, rfl⟩
    rw [hbn] at hnew ⊢
    have Px := Lib.hid hnew
    clear hnew hb hbn Ix
    refine (lgPool_c Px.out.inn Pwant.out.inn HSq.out).mono ?_
    rintro e w7 ⟨rfl, hb⟩
    replace Pp := Lib.hid (Pp.out.bel hb)
    replace Oo := Lib.hid (Oo.out.bel hb)
    replace Pwant := Lib.hid (Pwant.out.bel hb)
    replace Px := Lib.hid (Px.out.bel hb)
    replace KW := Lib.hid (KW.out.tr hb)
    clear hb
    have qp0 := Pp.out.c0
    have qp1 := Pp.out.c1
    have yp := Pp.out.lt
    have qwant0 := Pwant.out.c0
    have qwant1 := Pwant.out.c1
    have ywant := Pwant.out.lt
    have qx0 := Px.out.c0
    have qx1 := Px.out.c1
    have yx := Px.out.lt
    have mo0 := Oo.out.m0
    have mo1 := Oo.out.m1
    have mo2 := Oo.out.m2
    have mo3 := Oo.out.m3
    have mo4 := Oo.out.m4
    have myo := Oo.out.lt
    go_wp2_with fail
    clear qp0 qp1 yp qwant0 qwant1 ywant qx0 qx1 yx
    clear mo0 mo1 mo2 mo3 mo4 myo
    refine (lgPool_c Px.out.inn Pwant.out.inn HSq.out).mono ?_
    rintro e w8 ⟨rfl, hb⟩
    replace Pp := Lib.hid (Pp.out.bel hb)
    replace Oo := Lib.hid (Oo.out.bel hb)
    replace Pwant := Lib.hid (Pwant.out.bel hb)
    replace Px := Lib.hid (Px.out.bel hb)
    replace KW := Lib.hid (KW.out.tr hb)
    clear hb
    have qp0 := Pp.out.c0
    have qp1 := Pp.out.c1
    have yp := Pp.out.lt
    have qwant0 := Pwant.out.c0
    have qwant1 := Pwant.out.c1
    have ywant := Pwant.out.lt
    have qx0 := Px.out.c0
    have qx1 := Px.out.c1
    have yx := Px.out.lt
    have mo0 := Oo.out.m0
    have mo1 := Oo.out.m1
    have mo2 := Oo.out.m2
    have mo3 := Oo.out.m3
    have mo4 := Oo.out.m4
    have myo := Oo.out.lt
    go_wp2
    go_ret
    exact ⟨rfl, KW.out⟩
  have HV := Lib.hid (poolOk_iff.1 hok)
  have HOK := Lib.hid hok
  clear hok
  cases hoo : opOk ⟨kd, nm, ds, n', tx⟩
  · obtain ⟨q, hq, hqs⟩ : ∃ q, (chO p ⟨kd, nm, ds, n', tx⟩ = q ∧ chOB p ⟨kd, nm, ds, n', tx⟩ = false) ∧ SmallP q := ⟨_, chO_bad (.inr hoo), noP_small⟩
    have HE := Lib.hid hq
    have HSq := Lib.hid hqs
    have HOK := Lib.hid hoo
    clear hq hqs hoo
    go_wp2_with fail
    have hP := (PVar.new Ip.out).bel (bel_alloc (Below.refl _ _) (.cells #[.int .i64 kd, .string nm, .string ds, .int .i64 n', .string tx] 74))
    have hO : OVar ((w1.alloc (.cells #[.slice Ap p.slots.length cp, .slice Bp p.vols.length dp] 30)).alloc (.cells #[.int .i64 kd, .string nm, .string ds, .int .i64 n', .string tx] 74)) (w1.heap.size + 1) kd nm ds n' tx := ⟨Blk.nw2 _ _ _ _⟩
    have hb : Bel w1 ((w1.alloc (.cells #[.slice Ap p.slots.length cp, .slice Bp p.vols.length dp] 30)).alloc (.cells #[.int .i64 kd, .string nm, .string ds, .int .i64 n', .string tx] 74)) := bel_alloc (bel_alloc (Below.refl _ _) _) _
    generalize ((w1.alloc (.cells #[.slice Ap p.slots.length cp, .slice Bp p.vols.length dp] 30)).alloc (.cells #[.int .i64 kd, .string nm, .string ds, .int .i64 n', .string tx] 74)) = W2 at hP hO hb ⊢
    replace Ip := Lib.hid (Ip.out.bel hb)
    replace KW := Lib.hid (KW.out.tr hb)
    obtain ⟨bkp, hbn⟩ : ∃ b, w1.heap.size = b := ⟨_, rfl⟩
    rw [hbn] at hP hO ⊢
    obtain ⟨bko, hbo⟩ : ∃ b, bkp + 1 = b := ⟨_, rfl⟩
    rw [hbo] at hO ⊢
    have Pp := Lib.hid hP
    have Oo := Lib.hid hO
    clear hP hO hb hbn hbo Ip
    refine (specOp_n Pp.out.inn HSp.out HSO.out HE.out).mono ?_
    rintro e w3 ⟨Awant, Bwant, cwant, dwant, rfl, hin, hb⟩
    replace Pp := Lib.hid (Pp.out.bel hb)
    replace Oo := Lib.hid (Oo.out.bel hb)
    replace KW := Lib.hid (KW.out.tr hb)
    have Iwant := Lib.hid hin
    clear hin hb
    have qp0 := Pp.out.c0
    have qp1 := Pp.out.c1
    have yp := Pp.out.lt
    have mo0 := Oo.out.m0
    have mo1 := Oo.out.m1
    have mo2 := Oo.out.m2
    have mo3 := Oo.out.m3
    have mo4 := Oo.out.m4
    have myo := Oo.out.lt
    go_wp2_with fail
    clear qp0 qp1 yp
    clear mo0 mo1 mo2 mo3 mo4 myo
    have hnew := PVar.new Iwant.out
    have hb : Bel w3 (w3.alloc (.cells #[.slice Awant q.slots.length cwant, .slice Bwant q.vols.length dwant] 30)) := bel_alloc (Below.refl _ _) _
    generalize w3.alloc (.cells #[.slice Awant q.slots.length cwant, .slice Bwant q.vols.length dwant] 30) = W4 at hnew hb ⊢
    replace Pp := Lib.hid (Pp.out.bel hb)
    replace Oo := Lib.hid (Oo.out.bel hb)
    replace Iwant := Lib.hid (Iwant.out.bel hb)
    replace KW := Lib.hid (KW.out.tr hb)
    obtain ⟨bkwant, hbn⟩ : ∃ b, w3.heap.size = b := ⟨_, rfl⟩
    rw [hbn] at hnew ⊢
    have Pwant := Lib.hid hnew
    clear hnew hb hbn Iwant
    refine (implOp_n Pp.out.inn HSp.out HSO.out HE.out).mono ?_
    rintro e w5 ⟨Ax, Bx, cx, dx, rfl, hin, hb⟩
    replace Pp := Lib.hid (Pp.out.bel hb)
    replace Oo := Lib.hid (Oo.out.bel hb)
    replace Pwant := Lib.hid (Pwant.out.bel hb)
    replace KW := Lib.hid (KW.out.tr hb)
    have Ix := Lib.hid hin
    clear hin hb
    have qp0 := Pp.out.c0
    have qp1 := Pp.out.c1
    have yp := Pp.out.lt
    have qwant0 := Pwant.out.c0
    have qwant1 := Pwant.out.c1
    have ywant := Pwant.out.lt
    have mo0 := Oo.out.m0
    have mo1 := Oo.out.m1
    have mo2 := Oo.out.m2
    have mo3 := Oo.out.m3
    have mo4 := Oo.out.m4
    have myo := Oo.out.lt
    go_wp2_with fail
    clear qp0 qp1 yp qwant0 qwant1 ywant
    clear mo0 mo1 mo2 mo3 mo4 myo
    have hnew := PVar.new Ix.out
    have hb : Bel w5 (w5.alloc (.cells #[.slice Ax q.slots.length cx, .slice Bx q.vols.length dx] 30)) := bel_alloc (Below.refl _ _) _
    generalize w5.alloc (.cells #[.slice Ax q.slots.length cx, .slice Bx q.vols.length dx] 30) = W6 at hnew hb ⊢
    replace Pp := Lib.hid (Pp.out.bel hb)
    replace Oo := Lib.hid (Oo.out.bel hb)
    replace Pwant := Lib.hid (Pwant.out.bel hb)
    replace Ix := Lib.hid (Ix.out.bel hb)
    replace KW := Lib.hid (KW.out.tr hb)
    obtain ⟨bkx, hbn⟩ : ∃ b, w5.heap.size = b := ⟨_, rfl⟩
    rw [hbn] at hnew ⊢
    have Px := Lib.hid hnew
    clear hnew hb hbn Ix
    refine (lgPool_c Px.out.inn Pwant.out.inn HSq.out).mono ?_
    rintro e w7 ⟨rfl, hb⟩
    replace Pp := Lib.hid (Pp.out.bel hb)
    replace Oo := Lib.hid (Oo.out.bel hb)
    replace Pwant := Lib.hid (Pwant.out.bel hb)
    replace Px := Lib.hid (Px.out.bel hb)
    replace KW := Lib.hid (KW.out.tr hb)
    clear hb
    have qp0 := Pp.out.c0
    have qp1 := Pp.out.c1
    have yp := Pp.out.lt
    have qwant0 := Pwant.out.c0
    have qwant1 := Pwant.out.c1
    have ywant := Pwant.out.lt
    have qx0 := Px.out.c0
    have qx1 := Px.out.c1
    have yx := Px.out.lt
    have mo0 := Oo.out.m0
    have mo1 := Oo.out.m1
    have mo2 := Oo.out.m2
    have mo3 := Oo.out.m3
    have mo4 := Oo.out.m4
    have myo := Oo.out.lt
    go_wp2_with fail
    clear qp0 qp1 yp qwant0 qwant1 ywant qx0 qx1 yx
    clear mo0 mo1 mo2 mo3 mo4 myo
    refine (lgPool_c Px.out.inn Pwant.out.inn HSq.out).mono ?_
    rintro e w8 ⟨rfl, hb⟩
    replace Pp := Lib.hid (Pp.out.bel hb)
    replace Oo := Lib.hid (Oo.out.bel hb)
    replace Pwant := Lib.hid (Pwant.out.bel hb)
    replace Px := Lib.hid (Px.out.bel hb)
    replace KW := Lib.hid (KW.out.tr hb)
    clear hb
    have qp0 := Pp.out.c0
    have qp1 := Pp.out.c1
    have yp := Pp.out.lt
    have qwant0 := Pwant.out.c0
    have qwant1 := Pwant.out.c1
    have ywant := Pwant.out.lt
    have qx0 := Px.out.c0
    have qx1 := Px.out.c1
    have yx := Px.out.lt
    have mo0 := Oo.out.m0
    have mo1 := Oo.out.m1
    have mo2 := Oo.out.m2
    have mo3 := Oo.out.m3
    have mo4 := Oo.out.m4
    have myo := Oo.out.lt
    go_wp2
    go_ret
    exact ⟨rfl, KW.out⟩
  have EO := Lib.hid (chO_ok (p := p) hoo)
  have HOO := Lib.hid hoo
  clear hoo
  cases hF : opF p ⟨kd, nm, ds, n', tx⟩
  · have HE := Lib.hid (And.intro (EO.out.1.trans (ch_none HV.out hF).1) (EO.out.2.trans (ch_none HV.out hF).2))
    clear hF
    go_wp2_with fail
    have hP := (PVar.new Ip.out).bel (bel_alloc (Below.refl _ _) (.cells #[.int .i64 kd, .string nm, .string ds, .int .i64 n', .string tx] 74))
    have hO : OVar ((w1.alloc (.cells #[.slice Ap p.slots.length cp, .slice Bp p.vols.length dp] 30)).alloc (.cells #[.int .i64 kd, .string nm, .string ds, .int .i64 n', .string tx] 74)) (w1.heap.size + 1) kd nm ds n' tx := ⟨Blk.nw2 _ _ _ _⟩
    have hb : Bel w1 ((w1.alloc (.cells #[.slice Ap p.slots.length cp, .slice Bp p.vols.length dp] 30)).alloc (.cells #[.int .i64 kd, .string nm, .string ds, .int .i64 n', .string tx] 74)) := bel_alloc (bel_alloc (Below.refl _ _) _) _
    generalize ((w1.alloc (.cells #[.slice Ap p.slots.length cp, .slice Bp p.vols.length dp] 30)).alloc (.cells #[.int .i64 kd, .string nm, .string ds, .int .i64 n', .string tx] 74)) = W2 at hP hO hb ⊢
    replace Ip := Lib.hid (Ip.out.bel hb)
    replace KW := Lib.hid (KW.out.tr hb)
    obtain ⟨bkp, hbn⟩ : ∃ b, w1.heap.size = b := ⟨_, rfl⟩
    rw [hbn] at hP hO ⊢
    obtain ⟨bko, hbo⟩ : ∃ b, bkp + 1 = b := ⟨_, rfl⟩
    rw [hbo] at hO ⊢
    have Pp := Lib.hid hP
    have Oo := Lib.hid hO
    clear hP hO hb hbn hbo Ip
    refine (specOp_n Pp.out.inn HSp.out HSO.out HE.out).mono ?_
    rintro e w3 ⟨Awant, Bwant, cwant, dwant, rfl, hin, hb⟩
    replace Pp := Lib.hid (Pp.out.bel hb)
    replace Oo := Lib.hid (Oo.out.bel hb)
    replace KW := Lib.hid (KW.out.tr hb)
    have Iwant := Lib.hid hin
    clear hin hb
    have qp0 := Pp.out.c0
    have qp1 := Pp.out.c1
    have yp := Pp.out.lt
    have mo0 := Oo.out.m0
    have mo1 := Oo.out.m1
    have mo2 := Oo.out.m2
    have mo3 := Oo.out.m3
    have mo4 := Oo.out.m4
    have myo := Oo.out.lt
    go_wp2_with fail
    clear qp0 qp1 yp
    clear mo0 mo1 mo2 mo3 mo4 myo
    have hnew := PVar.new Iwant.out
    have hb : Bel w3 (w3.alloc (.cells #[.slice Awant p.slots.length cwant, .slice Bwant p.vols.length dwant] 30)) := bel_alloc (Below.refl _ _) _
    generalize w3.alloc (.cells #[.slice Awant p.slots.length cwant, .slice Bwant p.vols.length dwant] 30) = W4 at hnew hb ⊢
    replace Pp := Lib.hid (Pp.out.bel hb)
    replace Oo := Lib.hid (Oo.out.bel hb)
    replace Iwant := Lib.hid (Iwant.out.bel hb)
    replace KW := Lib.hid (KW.out.tr hb)
    obtain ⟨bkwant, hbn⟩ : ∃ b, w3.heap.size = b := ⟨_, rfl⟩
    rw [hbn] at hnew ⊢
    have Pwant := Lib.hid hnew
    clear hnew hb hbn Iwant
    refine (implOp_n Pp.out.inn HSp.out HSO.out HE.out).mono ?_
    rintro e w5 ⟨Ax, Bx, cx, dx, rfl, hin, hb⟩
    replace Pp := Lib.hid (Pp.out.bel hb)
    replace Oo := Lib.hid (Oo.out.bel hb)
    replace Pwant := Lib.hid (Pwant.out.bel hb)
    replace KW := Lib.hid (KW.out.tr hb)
    have Ix := Lib.hid hin
    clear hin hb
    have qp0 := Pp.out.c0
    have qp1 := Pp.out.c1
    have yp := Pp.out.lt
    have qwant0 := Pwant.out.c0
    have qwant1 := Pwant.out.c1
    have ywant := Pwant.out.lt
    have mo0 := Oo.out.m0
    have mo1 := Oo.out.m1
    have mo2 := Oo.out.m2
    have mo3 := Oo.out.m3
    have mo4 := Oo.out.m4
    have myo := Oo.out.lt
    go_wp2_with fail
    clear qp0 qp1 yp qwant0 qwant1 ywant
    clear mo0 mo1 mo2 mo3 mo4 myo
    have hnew := PVar.new Ix.out
    have hb : Bel w5 (w5.alloc (.cells #[.slice Ax p.slots.length cx, .slice Bx p.vols.length dx] 30)) := bel_alloc (Below.refl _ _) _
    generalize w5.alloc (.cells #[.slice Ax p.slots.length cx, .slice Bx p.vols.length dx] 30) = W6 at hnew hb ⊢
    replace Pp := Lib.hid (Pp.out.bel hb)
    replace Oo := Lib.hid (Oo.out.bel hb)
    replace Pwant := Lib.hid (Pwant.out.bel hb)
    replace Ix := Lib.hid (Ix.out.bel hb)
    replace KW := Lib.hid (KW.out.tr hb)
    obtain ⟨bkx, hbn⟩ : ∃ b, w5.heap.size = b := ⟨_, rfl⟩
    rw [hbn] at hnew ⊢
    have Px := Lib.hid hnew
    clear hnew hb hbn Ix
    refine (lgPool_c Px.out.inn Pwant.out.inn HSp.out).mono ?_
    rintro e w7 ⟨rfl, hb⟩
    replace Pp := Lib.hid (Pp.out.bel hb)
    replace Oo := Lib.hid (Oo.out.bel hb)
    replace Pwant := Lib.hid (Pwant.out.bel hb)
    replace Px := Lib.hid (Px.out.bel hb)
    replace KW := Lib.hid (KW.out.tr hb)
    clear hb
    have qp0 := Pp.out.c0
    have qp1 := Pp.out.c1
    have yp := Pp.out.lt
    have qwant0 := Pwant.out.c0
    have qwant1 := Pwant.out.c1
    have ywant := Pwant.out.lt
    have qx0 := Px.out.c0
    have qx1 := Px.out.c1
    have yx := Px.out.lt
    have mo0 := Oo.out.m0
    have mo1 := Oo.out.m1
    have mo2 := Oo.out.m2
    have mo3 := Oo.out.m3
    have mo4 := Oo.out.m4
    have myo := Oo.out.lt
    go_wp2_with fail
    clear qp0 qp1 yp qwant0 qwant1 ywant qx0 qx1 yx
    clear mo0 mo1 mo2 mo3 mo4 myo
    refine (lgPool_c Px.out.inn Pwant.out.inn HSp.out).mono ?_
    rintro e w8 ⟨rfl, hb⟩
    replace Pp := Lib.hid (Pp.out.bel hb)
    replace Oo := Lib.hid (Oo.out.bel hb)
    replace Pwant := Lib.hid (Pwant.out.bel hb)
    replace Px := Lib.hid (Px.out.bel hb)
    replace KW := Lib.hid (KW.out.tr hb)
    clear hb
    have qp0 := Pp.out.c0
    have qp1 := Pp.out.c1
    have yp := Pp.out.lt
    have qwant0 := Pwant.out.c0
    have qwant1 := Pwant.out.c1
    have ywant := Pwant.out.lt
    have qx0 := Px.out.c0
    have qx1 := Px.out.c1
    have yx := Px.out.lt
    have mo0 := Oo.out.m0
    have mo1 := Oo.out.m1
    have mo2 := Oo.out.m2
    have mo3 := Oo.out.m3
    have mo4 := Oo.out.m4
    have myo := Oo.out.lt
    go_wp2
    go_ret
    exact ⟨rfl, KW.out⟩
  rename_i q
  have HE := Lib.hid (And.intro (EO.out.1.trans (ch_some HV.out hF).1) (EO.out.2.trans (ch_some HV.out hF).2))
  have hqv := opF_ok HV.out hF
  have HSq := Lib.hid hqv.small
  have HVq := Lib.hid hqv
  have EQ := Lib.hid (chO_ok (p := q) HOO.out)
  clear hqv
  by_cases hk : kd = 2
  · subst hk
    obtain ⟨y, hy, hty⟩ := op_twice_w HV.out hF rfl
    have hyp := opF_ok HVq.out hy
    have HSy := Lib.hid hyp.small
    have HE2 := Lib.hid (And.intro (EQ.out.1.trans (ch_some HVq.out hy).1) (EQ.out.2.trans (ch_some HVq.out hy).2))
    obtain ⟨t, ht⟩ : ∃ t, poolT q = t := ⟨_, rfl⟩
    have HTQ := Lib.hid ht
    have HTY := Lib.hid (hty.trans ht)
    have hts : (t.toList == t.toList) = true := by simp
    clear hF hy hty hyp ht
    go_wp2_with fail
    have hP := (PVar.new Ip.out).bel (bel_alloc (Below.refl _ _) (.cells #[.int .i64 2, .string nm, .string ds, .int .i64 n', .string tx] 74))
    have hO : OVar ((w1.alloc (.cells #[.slice Ap p.slots.length cp, .slice Bp p.vols.length dp] 30)).alloc (.cells #[.int .i64 2, .string nm, .string ds, .int .i64 n', .string tx] 74)) (w1.heap.size + 1) 2 nm ds n' tx := ⟨Blk.nw2 _ _ _ _⟩
    have hb : Bel w1 ((w1.alloc (.cells #[.slice Ap p.slots.length cp, .slice Bp p.vols.length dp] 30)).alloc (.cells #[.int .i64 2, .string nm, .string ds, .int .i64 n', .string tx] 74)) := bel_alloc (bel_alloc (Below.refl _ _) _) _
    generalize ((w1.alloc (.cells #[.slice Ap p.slots.length cp, .slice Bp p.vols.length dp] 30)).alloc (.cells #[.int .i64 2, .string nm, .string ds, .int .i64 n', .string tx] 74)) = W2 at hP hO hb ⊢
    replace Ip := Lib.hid (Ip.out.bel hb)
    replace KW := Lib.hid (KW.out.tr hb)
    obtain ⟨bkp, hbn⟩ : ∃ b, w1.heap.size = b := ⟨_, rfl⟩
    rw [hbn] at hP hO ⊢
    obtain ⟨bko, hbo⟩ : ∃ b, bkp + 1 = b := ⟨_, rfl⟩
    rw [hbo] at hO ⊢
    have Pp := Lib.hid hP
    have Oo := Lib.hid hO
    clear hP hO hb hbn hbo Ip
    refine (specOp_n Pp.out.inn HSp.out HSO.out HE.out).mono ?_
    rintro e w3 ⟨Awant, Bwant, cwant, dwant, rfl, hin, hb⟩
    replace Pp := Lib.hid (Pp.out.bel hb)
    replace Oo := Lib.hid (Oo.out.bel hb)
    replace KW := Lib.hid (KW.out.tr hb)
    have Iwant := Lib.hid hin
    clear hin hb
    have qp0 := Pp.out.c0
    have qp1 := Pp.out.c1
    have yp := Pp.out.lt
    have mo0 := Oo.out.m0
    have mo1 := Oo.out.m1
    have mo2 := Oo.out.m2
    have mo3 := Oo.out.m3
    have mo4 := Oo.out.m4
    have myo := Oo.out.lt
    go_wp2_with fail
    clear qp0 qp1 yp
    clear mo0 mo1 mo2 mo3 mo4 myo
    have hnew := PVar.new Iwant.out
    have hb : Bel w3 (w3.alloc (.cells #[.slice Awant q.slots.length cwant, .slice Bwant q.vols.length dwant] 30)) := bel_alloc (Below.refl _ _) _
    generalize w3.alloc (.cells #[.slice Awant q.slots.length cwant, .slice Bwant q.vols.length dwant] 30) = W4 at hnew hb ⊢
    replace Pp := Lib.hid (Pp.out.bel hb)
    replace Oo := Lib.hid (Oo.out.bel hb)
    replace Iwant := Lib.hid (Iwant.out.bel hb)
    replace KW := Lib.hid (KW.out.tr hb)
    obtain ⟨bkwant, hbn⟩ : ∃ b, w3.heap.size = b := ⟨_, rfl⟩
    rw [hbn] at hnew ⊢
    have Pwant := Lib.hid hnew
    clear hnew hb hbn Iwant
    refine (implOp_n Pp.out.inn HSp.out HSO.out HE.out).mono ?_
    rintro e w5 ⟨Ax, Bx, cx, dx, rfl, hin, hb⟩
    replace Pp := Lib.hid (Pp.out.bel hb)
    replace Oo := Lib.hid (Oo.out.bel hb)
    replace Pwant := Lib.hid (Pwant.out.bel hb)
    replace KW := Lib.hid (KW.out.tr hb)
    have Ix := Lib.hid hin
    clear hin hb
    have qp0 := Pp.out.c0
    have qp1 := Pp.out.c1
    have yp := Pp.out.lt
    have qwant0 := Pwant.out.c0
    have qwant1 := Pwant.out.c1
    have ywant := Pwant.out.lt
    have mo0 := Oo.out.m0
    have mo1 := Oo.out.m1
    have mo2 := Oo.out.m2
    have mo3 := Oo.out.m3
    have mo4 := Oo.out.m4
    have myo := Oo.out.lt
    go_wp2_with fail
    clear qp0 qp1 yp qwant0 qwant1 ywant
    clear mo0 mo1 mo2 mo3 mo4 myo
    have hnew := PVar.new Ix.out
    have hb : Bel w5 (w5.alloc (.cells #[.slice Ax q.slots.length cx, .slice Bx q.vols.length dx] 30)) := bel_alloc (Below.refl _ _) _
    generalize w5.alloc (.cells #[.slice Ax q.slots.length cx, .slice Bx q.vols.length dx] 30) = W6 at hnew hb ⊢
    replace Pp := Lib.hid (Pp.out.bel hb)
    replace Oo := Lib.hid (Oo.out.bel hb)
    replace Pwant := Lib.hid (Pwant.out.bel hb)
    replace Ix := Lib.hid (Ix.out.bel hb)
    replace KW := Lib.hid (KW.out.tr hb)
    obtain ⟨bkx, hbn⟩ : ∃ b, w5.heap.size = b := ⟨_, rfl⟩
    rw [hbn] at hnew ⊢
    have Px := Lib.hid hnew
    clear hnew hb hbn Ix
    refine (lgPool_c Px.out.inn Pwant.out.inn HSq.out).mono ?_
    rintro e w7 ⟨rfl, hb⟩
    replace Pp := Lib.hid (Pp.out.bel hb)
    replace Oo := Lib.hid (Oo.out.bel hb)
    replace Pwant := Lib.hid (Pwant.out.bel hb)
    replace Px := Lib.hid (Px.out.bel hb)
    replace KW := Lib.hid (KW.out.tr hb)
    clear hb
    have qp0 := Pp.out.c0
    have qp1 := Pp.out.c1
    have yp := Pp.out.lt
    have qwant0 := Pwant.out.c0
    have qwant1 := Pwant.out.c1
    have ywant := Pwant.out.lt
    have qx0 := Px.out.c0
    have qx1 := Px.out.c1
    have yx := Px.out.lt
    have mo0 := Oo.out.m0
    have mo1 := Oo.out.m1
    have mo2 := Oo.out.m2
    have mo3 := Oo.out.m3
    have mo4 := Oo.out.m4
    have myo := Oo.out.lt
    go_wp2_with fail
    clear qp0 qp1 yp qwant0 qwant1 ywant qx0 qx1 yx
    clear mo0 mo1 mo2 mo3 mo4 myo
    refine (implOp_n Px.out.inn HSq.out HSO.out HE2.out).mono ?_
    rintro e w8 ⟨Ay, By, cy, dy, rfl, hin, hb⟩
    replace Pp := Lib.hid (Pp.out.bel hb)
    replace Oo := Lib.hid (Oo.out.bel hb)
    replace Pwant := Lib.hid (Pwant.out.bel hb)
    replace Px := Lib.hid (Px.out.bel hb)
    replace KW := Lib.hid (KW.out.tr hb)
    have Iy := Lib.hid hin
    clear hin hb
    have qp0 := Pp.out.c0
    have qp1 := Pp.out.c1
    have yp := Pp.out.lt
    have qwant0 := Pwant.out.c0
    have qwant1 := Pwant.out.c1
    have ywant := Pwant.out.lt
    have qx0 := Px.out.c0
    have qx1 := Px.out.c1
    have yx := Px.out.lt
    have mo0 := Oo.out.m0
    have mo1 := Oo.out.m1
    have mo2 := Oo.out.m2
    have mo3 := Oo.out.m3
    have mo4 := Oo.out.m4
    have myo := Oo.out.lt
    go_wp2_with fail
    clear qp0 qp1 yp qwant0 qwant1 ywant qx0 qx1 yx
    clear mo0 mo1 mo2 mo3 mo4 myo
    have hnew := PVar.new Iy.out
    have hb : Bel w8 (w8.alloc (.cells #[.slice Ay y.slots.length cy, .slice By y.vols.length dy] 30)) := bel_alloc (Below.refl _ _) _
    generalize w8.alloc (.cells #[.slice Ay y.slots.length cy, .slice By y.vols.length dy] 30) = W9 at hnew hb ⊢
    replace Pp := Lib.hid (Pp.out.bel hb)
    replace Oo := Lib.hid (Oo.out.bel hb)
    replace Pwant := Lib.hid (Pwant.out.bel hb)
    replace Px := Lib.hid (Px.out.bel hb)
    replace Iy := Lib.hid (Iy.out.bel hb)
    replace KW := Lib.hid (KW.out.tr hb)
    obtain ⟨bky, hbn⟩ : ∃ b, w8.heap.size = b := ⟨_, rfl⟩
    rw [hbn] at hnew ⊢
    have Py := Lib.hid hnew
    clear hnew hb hbn Iy
    have gx0 := gb_cell Px.out.c0
    have gx1 := gb_cell Px.out.c1
    have gy0 := gb_cell Py.out.c0
    have gy1 := gb_cell Py.out.c1
    refine wp_region_gb (by kernel_rfl) (by kernel_rfl) ?_
    repeat (first | go_big_quiet_skip | (go_big_quiet_want; go_big_quiet_op; first | go_big_quiet_on | (apply Exists.intro; refine ⟨fun _ => ?_, ?_⟩; (first | (go_at_call 32; exact gb_call (implText_n (Py.out.bel (GB.h _)).inn HSy.out HTY.out)) | (go_at_call 32; exact gb_call (implText_n (Px.out.bel (GB.h _)).inn HSq.out HTQ.out))); go_big_quiet_on)))
    refine wpQuiet_nil ?_
    rintro w10 ⟨⟨_, hb⟩, rfl⟩
    replace hb : Bel W9 w10 := hb
    clear gx0 gx1 gy0 gy1
    replace Pp := Lib.hid (Pp.out.bel hb)
    replace Oo := Lib.hid (Oo.out.bel hb)
    replace Pwant := Lib.hid (Pwant.out.bel hb)
    replace Px := Lib.hid (Px.out.bel hb)
    replace Py := Lib.hid (Py.out.bel hb)
    replace KW := Lib.hid (KW.out.tr hb)
    clear hb
    have qp0 := Pp.out.c0
    have qp1 := Pp.out.c1
    have yp := Pp.out.lt
    have qwant0 := Pwant.out.c0
    have qwant1 := Pwant.out.c1
    have ywant := Pwant.out.lt
    have qx0 := Px.out.c0
    have qx1 := Px.out.c1
    have yx := Px.out.lt
    have qy0 := Py.out.c0
    have qy1 := Py.out.c1
    have yy := Py.out.lt
    have mo0 := Oo.out.m0
    have mo1 := Oo.out.m1
    have mo2 := Oo.out.m2
    have mo3 := Oo.out.m3
    have mo4 := Oo.out.m4
    have myo := Oo.out.lt
    go_wp2
    go_ret
    exact ⟨rfl, KW.out⟩
  have hnn := op_twice_no HV.out hF hk
  have HE2 := Lib.hid (And.intro (EQ.out.1.trans (ch_none HVq.out hnn).1) (EQ.out.2.trans (ch_none HVq.out hnn).2))
  have hk2 : (kd == 2) = false := by simpa using hk
  clear hF hnn
  go_wp2_with fail
  have hP := (PVar.new Ip.out).bel (bel_alloc (Below.refl _ _) (.cells #[.int .i64 kd, .string nm, .string ds, .int .i64 n', .string tx] 74))
  have hO : OVar ((w1.alloc (.cells #[.slice Ap p.slots.length cp, .slice Bp p.vols.length dp] 30)).alloc (.cells #[.int .i64 kd, .string nm, .string ds, .int .i64 n', .string tx] 74)) (w1.heap.size + 1) kd nm ds n' tx := ⟨Blk.nw2 _ _ _ _⟩
  have hb : Bel w1 ((w1.alloc (.cells #[.slice Ap p.slots.length cp, .slice Bp p.vols.length dp] 30)).alloc (.cells #[.int .i64 kd, .string nm, .string ds, .int .i64 n', .string tx] 74)) := bel_alloc (bel_alloc (Below.refl _ _) _) _
  generalize ((w1.alloc (.cells #[.slice Ap p.slots.length cp, .slice Bp p.vols.length dp] 30)).alloc (.cells #[.int .i64 kd, .string nm, .string ds, .int .i64 n', .string tx] 74)) = W2 at hP hO hb ⊢
  replace Ip := Lib.hid (Ip.out.bel hb)
  replace KW := Lib.hid (KW.out.tr hb)
  obtain ⟨bkp, hbn⟩ : ∃ b, w1.heap.size = b := ⟨_, rfl⟩
  rw [hbn] at hP hO ⊢
  obtain ⟨bko, hbo⟩ : ∃ b, bkp + 1 = b := ⟨_, rfl⟩
  rw [hbo] at hO ⊢
  have Pp := Lib.hid hP
  have Oo := Lib.hid hO
  clear hP hO hb hbn hbo Ip
  refine (specOp_n Pp.out.inn HSp.out HSO.out HE.out).mono ?_
  rintro e w3 ⟨Awant, Bwant, cwant, dwant, rfl, hin, hb⟩
  replace Pp := Lib.hid (Pp.out.bel hb)
  replace Oo := Lib.hid (Oo.out.bel hb)
  replace KW := Lib.hid (KW.out.tr hb)
  have Iwant := Lib.hid hin
  clear hin hb
  have qp0 := Pp.out.c0
  have qp1 := Pp.out.c1
  have yp := Pp.out.lt
  have mo0 := Oo.out.m0
  have mo1 := Oo.out.m1
  have mo2 := Oo.out.m2
  have mo3 := Oo.out.m3
  have mo4 := Oo.out.m4
  have myo := Oo.out.lt
  go_wp2_with fail
  clear qp0 qp1 yp
  clear mo0 mo1 mo2 mo3 mo4 myo
  have hnew := PVar.new Iwant.out
  have hb : Bel w3 (w3.alloc (.cells #[.slice Awant q.slots.length cwant, .slice Bwant q.vols.length dwant] 30)) := bel_alloc (Below.refl _ _) _
  generalize w3.alloc (.cells #[.slice Awant q.slots.length cwant, .slice Bwant q.vols.length dwant] 30) = W4 at hnew hb ⊢
  replace Pp := Lib.hid (Pp.out.bel hb)
  replace Oo := Lib.hid (Oo.out.bel hb)
  replace Iwant := Lib.hid (Iwant.out.bel hb)
  replace KW := Lib.hid (KW.out.tr hb)
  obtain ⟨bkwant, hbn⟩ : ∃ b, w3.heap.size = b := ⟨_, rfl⟩
  rw [hbn] at hnew ⊢
  have Pwant := Lib.hid hnew
  clear hnew hb hbn Iwant
  refine (implOp_n Pp.out.inn HSp.out HSO.out HE.out).mono ?_
  rintro e w5 ⟨Ax, Bx, cx, dx, rfl, hin, hb⟩
  replace Pp := Lib.hid (Pp.out.bel hb)
  replace Oo := Lib.hid (Oo.out.bel hb)
  replace Pwant := Lib.hid (Pwant.out.bel hb)
  replace KW := Lib.hid (KW.out.tr hb)
  have Ix := Lib.hid hin
  clear hin hb
  have qp0 := Pp.out.c0
  have qp1 := Pp.out.c1
  have yp := Pp.out.lt
  have qwant0 := Pwant.out.c0
  have qwant1 := Pwant.out.c1
  have ywant := Pwant.out.lt
  have mo0 := Oo.out.m0
  have mo1 := Oo.out.m1
  have mo2 := Oo.out.m2
  have mo3 := Oo.out.m3
  have mo4 := Oo.out.m4
  have myo := Oo.out.lt
  go_wp2_with fail
  clear qp0 qp1 yp qwant0 qwant1 ywant
  clear mo0 mo1 mo2 mo3 mo4 myo
  have hnew := PVar.new Ix.out
  have hb : Bel w5 (w5.alloc (.cells #[.slice Ax q.slots.length cx, .slice Bx q.vols.length dx] 30)) := bel_alloc (Below.refl _ _) _
  generalize w5.alloc (.cells #[.slice Ax q.slots.length cx, .slice Bx q.vols.length dx] 30) = W6 at hnew hb ⊢
  replace Pp := Lib.hid (Pp.out.bel hb)
  replace Oo := Lib.hid (Oo.out.bel hb)
  replace Pwant := Lib.hid (Pwant.out.bel hb)
  replace Ix := Lib.hid (Ix.out.bel hb)
  replace KW := Lib.hid (KW.out.tr hb)
  obtain ⟨bkx, hbn⟩ : ∃ b, w5.heap.size = b := ⟨_, rfl⟩
  rw [hbn] at hnew ⊢
  have Px := Lib.hid hnew
  clear hnew hb hbn Ix
  refine (lgPool_c Px.out.inn Pwant.out.inn HSq.out).mono ?_
  rintro e w7 ⟨rfl, hb⟩
  replace Pp := Lib.hid (Pp.out.bel hb)
  replace Oo := Lib.hid (Oo.out.bel hb)
  replace Pwant := Lib.hid (Pwant.out.bel hb)
  replace Px := Lib.hid (Px.out.bel hb)
  replace KW := Lib.hid (KW.out.tr hb)
  clear hb
  have qp0 := Pp.out.c0
  have qp1 := Pp.out.c1
  have yp := Pp.out.lt
  have qwant0 := Pwant.out.c0
  have qwant1 := Pwant.out.c1
  have ywant := Pwant.out.lt
  have qx0 := Px.out.c0
  have qx1 := Px.out.c1
  have yx := Px.out.lt
  have mo0 := Oo.out.m0
  have mo1 := Oo.out.m1
  have mo2 := Oo.out.m2
  have mo3 := Oo.out.m3
  have mo4 := Oo.out.m4
  have myo := Oo.out.lt
  go_wp2_with fail
  clear qp0 qp1 yp qwant0 qwant1 ywant qx0 qx1 yx
  clear mo0 mo1 mo2 mo3 mo4 myo
  refine (implOp_n Px.out.inn HSq.out HSO.out HE2.out).mono ?_
  rintro e w8 ⟨Ay, By, cy, dy, rfl, hin, hb⟩
  replace Pp := Lib.hid (Pp.out.bel hb)
  replace Oo := Lib.hid (Oo.out.bel hb)
  replace Pwant := Lib.hid (Pwant.out.bel hb)
  replace Px := Lib.hid (Px.out.bel hb)
  replace KW := Lib.hid (KW.out.tr hb)
  have Iy := Lib.hid hin
  clear hin hb
  have qp0 := Pp.out.c0
  have qp1 := Pp.out.c1
  have yp := Pp.out.lt
  have qwant0 := Pwant.out.c0
  have qwant1 := Pwant.out.c1
  have ywant := Pwant.out.lt
  have qx0 := Px.out.c0
  have qx1 := Px.out.c1
  have yx := Px.out.lt
  have mo0 := Oo.out.m0
  have mo1 := Oo.out.m1
  have mo2 := Oo.out.m2
  have mo3 := Oo.out.m3
  have mo4 := Oo.out.m4
  have myo := Oo.out.lt
  go_wp2_with fail
  clear qp0 qp1 yp qwant0 qwant1 ywant qx0 qx1 yx
  clear mo0 mo1 mo2 mo3 mo4 myo
  have hnew := PVar.new Iy.out
  have hb : Bel w8 (w8.alloc (.cells #[.slice Ay q.slots.length cy, .slice By q.vols.length dy] 30)) := bel_alloc (Below.refl _ _) _
  generalize w8.alloc (.cells #[.slice Ay q.slots.length cy, .slice By q.vols.length dy] 30) = W9 at hnew hb ⊢
  replace Pp := Lib.hid (Pp.out.bel hb)
  replace Oo := Lib.hid (Oo.out.bel hb)
  replace Pwant := Lib.hid (Pwant.out.bel hb)
  replace Px := Lib.hid (Px.out.bel hb)
  replace Iy := Lib.hid (Iy.out.bel hb)
  replace KW := Lib.hid (KW.out.tr hb)
  obtain ⟨bky, hbn⟩ : ∃ b, w8.heap.size = b := ⟨_, rfl⟩
  rw [hbn] at hnew ⊢
  have Py := Lib.hid hnew
  clear hnew hb hbn Iy
  refine (lgPool_c Py.out.inn Px.out.inn HSq.out).mono ?_
  rintro e w10 ⟨rfl, hb⟩
  replace Pp := Lib.hid (Pp.out.bel hb)
  replace Oo := Lib.hid (Oo.out.bel hb)
  replace Pwant := Lib.hid (Pwant.out.bel hb)
  replace Px := Lib.hid (Px.out.bel hb)
  replace Py := Lib.hid (Py.out.bel hb)
  replace KW := Lib.hid (KW.out.tr hb)
  clear hb
  have qp0 := Pp.out.c0
  have qp1 := Pp.out.c1
  have yp := Pp.out.lt
  have qwant0 := Pwant.out.c0
  have qwant1 := Pwant.out.c1
  have ywant := Pwant.out.lt
  have qx0 := Px.out.c0
  have qx1 := Px.out.c1
  have yx := Px.out.lt
  have qy0 := Py.out.c0
  have qy1 := Py.out.c1
  have yy := Py.out.lt
  have mo0 := Oo.out.m0
  have mo1 := Oo.out.m1
  have mo2 := Oo.out.m2
  have mo3 := Oo.out.m3
  have mo4 := Oo.out.m4
  have myo := Oo.out.lt
  go_wp2
  go_ret
  exact ⟨rfl, KW.out⟩
end Go.Proofs.Ytpobgjkmjlmafaa

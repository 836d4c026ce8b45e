/- The law FnOpDo: its body walked. -/
import Derived.Test.YtpobgjkmjlmafaaZ5
namespace Go.Proofs.Ytpobgjkmjlmafaa
open Go.RowKit Go.Proofs.YtpobgjkmjlmafaaW.PrintWords Go.Proofs.YtpobgjkmjlmafaaW.PrintLast
set_option linter.unusedVariables false
set_option linter.unusedSimpArgs false

set_option maxHeartbeats 8000000 in
set_option maxRecDepth 10000 in
theorem lawFnOpDo_c {w : World} {A : Option Addr} {n c : Nat} {bs : List Int} (h : CodeIn w A n c bs) (hn : n ≤ 9223372036854775807) :
    Calls Try.prog 21 #[.slice A n c] w (Ret (.bool true) w) := by
  have H := Lib.hid h
  clear h
  go_enter Try.func21, Try.ntmps21
  by_cases hlen : (1048576 : Int) < (n : Int)
  · go_wp2
    go_ret
    exact ⟨rfl, Below.refl _ _⟩
  go_wp2_with fail
  refine ((drawOpDo_c H.out hn).mono fun _ _ h => DrewO.new h).mono ?_
  rintro e w1 ⟨Ap, Bp, cp, dp, p, kd, nm, ds, n', tx, rfl, hoi, hp, hin, hb⟩
  have HP := Lib.hid hp
  have HOI := Lib.hid hoi
  have HSO := Lib.hid hoi.1
  have HSp := Lib.hid hp.small
  have Ip := Lib.hid hin
  have KW := Lib.hid hb
  clear hp hin hb hoi
  cases hok : poolOk p
  · obtain ⟨q, hq, hqs⟩ : ∃ q, (chO p ⟨kd, nm, ds, n', tx⟩ = q ∧ chOB p ⟨kd, nm, ds, n', tx⟩ = false) ∧ SmallP q := ⟨_, chO_bad (.inl hok), noP_small⟩
    have HE := Lib.hid hq
    have HSq := Lib.hid hqs
    have HOK := Lib.hid hok
    clear hq hqs hok
    go_wp2_with fail
    have hP := (PVar.new Ip.out).bel (bel_alloc (Below.refl _ _) (.cells #[.int .i64 kd, .string nm, .string ds, .int .i64 n', .string tx] 74))
    have hO : OVar ((w1.alloc (.cells #[.slice Ap p.slots.length cp, .slice Bp p.vols.length dp] 30)).alloc (.cells #[.int .i64 kd, .string nm, .string ds, .int .i64 n', .string tx] 74)) (w1.heap.size + 1) kd nm ds n' tx := ⟨Blk.nw2 _ _ _ _⟩
    have hb : Bel w1 ((w1.alloc (.cells #[.slice Ap p.slots.length cp, .slice Bp p.vols.length dp] 30)).alloc (.cells #[.int .i64 kd, .string nm, .string ds, .int .i64 n', .string tx] 74)) := bel_alloc (bel_alloc (Below.refl _ _) _) _
    generalize ((w1.alloc (.cells #[.slice Ap p.slots.length cp, .slice Bp p.vols.length dp] 30)).alloc (.cells #[.int .i64 kd, .string nm, .string ds, .int .i64 n', .string tx] 74)) = W2 at hP hO hb ⊢
    replace Ip := Lib.hid (Ip.out.bel hb)
    replace KW := Lib.hid (KW.out.tr hb)
    obtain ⟨bkp, hbn⟩ : ∃ b, w1.heap.size = b := ⟨_, rfl⟩
    rw [hbn] at hP hO ⊢
    obtain ⟨bko, hbo⟩ : ∃ b, bkp + 1 = b := ⟨_, rfl⟩
    rw [hbo] at hO ⊢
    have Pp := Lib.hid hP
    have Oo := Lib.hid hO
    clear hP hO hb hbn hbo Ip
    refine (specOp_n Pp.out.inn HSp.out HSO.out HE.out).mono ?_
    rintro e w3 ⟨Awant, Bwant, cwant, dwant, rfl, hin, hb⟩
    replace Pp := Lib.hid (Pp.out.bel hb)
    replace Oo := Lib.hid (Oo.out.bel hb)
    replace KW := Lib.hid (KW.out.tr hb)
    have Iwant := Lib.hid hin
    clear hin hb
    have qp0 := Pp.out.c0
    have qp1 := Pp.out.c1
    have yp := Pp.out.lt
    have mo0 := Oo.out.m0
    have mo1 := Oo.out.m1
    have mo2 := Oo.out.m2
    have mo3 := Oo.out.m3
    have mo4 := Oo.out.m4
    have myo := Oo.out.lt
    go_wp2_with fail
    clear qp0 qp1 yp
    clear mo0 mo1 mo2 mo3 mo4 myo
    have hnew := PVar.new Iwant.out
    have hb : Bel w3 (w3.alloc (.cells #[.slice Awant q.slots.length cwant, .slice Bwant q.vols.length dwant] 30)) := bel_alloc (Below.refl _ _) _
    generalize w3.alloc (.cells #[.slice Awant q.slots.length cwant, .slice Bwant q.vols.length dwant] 30) = W4 at hnew hb ⊢
    replace Pp := Lib.hid (Pp.out.bel hb)
    replace Oo := Lib.hid (Oo.out.bel hb)
    replace Iwant := Lib.hid (Iwant.out.bel hb)
    replace KW := Lib.hid (KW.out.tr hb)
    obtain ⟨bkwant, hbn⟩ : ∃ b, w3.heap.size = b := ⟨_, rfl⟩
    rw [hbn] at hnew ⊢
    have Pwant := Lib.hid hnew
    clear hnew hb hbn Iwant
    refine (implOp_n Pp.out.inn HSp.out HSO.out HE.out).mono ?_
    rintro e w5 ⟨Ax, Bx, cx, dx, rfl, hin, hb⟩
    replace Pp := Lib.hid (Pp.out.bel hb)
    replace Oo := Lib.hid (Oo.out.bel hb)
    replace Pwant := Lib.hid (Pwant.out.bel hb)
    replace KW := Lib.hid (KW.out.tr hb)
    have Ix := Lib.hid hin
    clear hin hb
    have qp0 := Pp.out.c0
    have qp1 := Pp.out.c1
    have yp := Pp.out.lt
    have qwant0 := Pwant.out.c0
    have qwant1 := Pwant.out.c1
    have ywant := Pwant.out.lt
    have mo0 := Oo.out.m0
    have mo1 := Oo.out.m1
    have mo2 := Oo.out.m2
    have mo3 := Oo.out.m3
    have mo4 := Oo.out.m4
    have myo := Oo.out.lt
    go_wp2_with fail
    clear qp0 qp1 yp qwant0 qwant1 ywant
    clear mo0 mo1 mo2 mo3 mo4 myo
    have hnew := PVar.new Ix.out
    have hb : Bel w5 (w5.alloc (.cells #[.slice Ax q.slots.length cx, .slice Bx q.vols.length dx] 30)) := bel_alloc (Below.refl _ _) _
    generalize w5.alloc (.cells #[.slice Ax q.slots.length cx, .slice Bx q.vols.length dx] 30) = W6 at hnew hb ⊢
    replace Pp := Lib.hid (Pp.out.bel hb)
    replace Oo := Lib.hid (Oo.out.bel hb)
    replace Pwant := Lib.hid (Pwant.out.bel hb)
    replace Ix := Lib.hid (Ix.out.bel hb)
    replace KW := Lib.hid (KW.out.tr hb)
    obtain ⟨bkx, hbn⟩ : ∃ b, w5.heap.size = b := ⟨_, rfl⟩
    rw [hbn] at hnew ⊢
    have Px := Lib.hid hnew
    clear hnew hb hbn Ix
    refine (lgPool_c Px.out.inn Pwant.out.inn HSq.out).mono ?_
    rintro e w7 ⟨rfl, hb⟩
    replace Pp := Lib.hid (Pp.out.bel hb)
    replace Oo := Lib.hid (Oo.out.bel hb)
    replace Pwant := Lib.hid (Pwant.out.bel hb)
    replace Px := Lib.hid (Px.out.bel hb)
    replace KW := Lib.hid (KW.out.tr hb)
    clear hb
    have qp0 := Pp.out.c0
    have qp1 := Pp.out.c1
    have yp := Pp.out.lt
    have qwant0 := Pwant.out.c0
    have qwant1 := Pwant.out.c1
    have ywant := Pwant.out.lt
    have qx0 := Px.out.c0
    have qx1 := Px.out.c1
    have yx := Px.out.lt
    have mo0 := Oo.out.m0
    have mo1 := Oo.out.m1
    have mo2 := Oo.out.m2
    have mo3 := Oo.out.m3
    have mo4 := Oo.out.m4
    have myo := Oo.out.lt
    go_wp2_with fail
    clear qp0 qp1 yp qwant0 qwant1 ywant qx0 qx1 yx
    clear mo0 mo1 mo2 mo3 mo4 myo
    refine (specOk_n Pp.out.inn HSp.out HOK.out).mono ?_
    rintro e w8 ⟨rfl, hb⟩
    replace Pp := Lib.hid (Pp.out.bel hb)
    replace Oo := Lib.hid (Oo.out.bel hb)
    replace Pwant := Lib.hid (Pwant.out.bel hb)
    replace Px := Lib.hid (Px.out.bel hb)
    replace KW := Lib.hid (KW.out.tr hb)
    clear hb
    have qp0 := Pp.out.c0
    have qp1 := Pp.out.c1
    have yp := Pp.out.lt
    have qwant0 := Pwant.out.c0
    have qwant1 := Pwant.out.c1
    have ywant := Pwant.out.lt
    have qx0 := Px.out.c0
    have qx1 := Px.out.c1
    have yx := Px.out.lt
    have mo0 := Oo.out.m0
    have mo1 := Oo.out.m1
    have mo2 := Oo.out.m2
    have mo3 := Oo.out.m3
    have mo4 := Oo.out.m4
    have myo := Oo.out.lt
    go_wp2_with fail
    clear qp0 qp1 yp qwant0 qwant1 ywant qx0 qx1 yx
    clear mo0 mo1 mo2 mo3 mo4 myo
    refine (lgPool_c Px.out.inn Pwant.out.inn HSq.out).mono ?_
    rintro e w9 ⟨rfl, hb⟩
    replace Pp := Lib.hid (Pp.out.bel hb)
    replace Oo := Lib.hid (Oo.out.bel hb)
    replace Pwant := Lib.hid (Pwant.out.bel hb)
    replace Px := Lib.hid (Px.out.bel hb)
    replace KW := Lib.hid (KW.out.tr hb)
    clear hb
    have qp0 := Pp.out.c0
    have qp1 := Pp.out.c1
    have yp := Pp.out.lt
    have qwant0 := Pwant.out.c0
    have qwant1 := Pwant.out.c1
    have ywant := Pwant.out.lt
    have qx0 := Px.out.c0
    have qx1 := Px.out.c1
    have yx := Px.out.lt
    have mo0 := Oo.out.m0
    have mo1 := Oo.out.m1
    have mo2 := Oo.out.m2
    have mo3 := Oo.out.m3
    have mo4 := Oo.out.m4
    have myo := Oo.out.lt
    go_wp2
    go_ret
    exact ⟨rfl, KW.out⟩
  have HV := Lib.hid (poolOk_iff.1 hok)
  have HOK := Lib.hid hok
  clear hok
  have HPK := HOK
  cases hoo : opOk ⟨kd, nm, ds, n', tx⟩
  · obtain ⟨q, hq, hqs⟩ : ∃ q, (chO p ⟨kd, nm, ds, n', tx⟩ = q ∧ chOB p ⟨kd, nm, ds, n', tx⟩ = false) ∧ SmallP q := ⟨_, chO_bad (.inr hoo), noP_small⟩
    have HE := Lib.hid hq
    have HSq := Lib.hid hqs
    have HOK := Lib.hid hoo
    clear hq hqs hoo
    go_wp2_with fail
    have hP := (PVar.new Ip.out).bel (bel_alloc (Below.refl _ _) (.cells #[.int .i64 kd, .string nm, .string ds, .int .i64 n', .string tx] 74))
    have hO : OVar ((w1.alloc (.cells #[.slice Ap p.slots.length cp, .slice Bp p.vols.length dp] 30)).alloc (.cells #[.int .i64 kd, .string nm, .string ds, .int .i64 n', .string tx] 74)) (w1.heap.size + 1) kd nm ds n' tx := ⟨Blk.nw2 _ _ _ _⟩
    have hb : Bel w1 ((w1.alloc (.cells #[.slice Ap p.slots.length cp, .slice Bp p.vols.length dp] 30)).alloc (.cells #[.int .i64 kd, .string nm, .string ds, .int .i64 n', .string tx] 74)) := bel_alloc (bel_alloc (Below.refl _ _) _) _
    generalize ((w1.alloc (.cells #[.slice Ap p.slots.length cp, .slice Bp p.vols.length dp] 30)).alloc (.cells #[.int .i64 kd, .string nm, .string ds, .int .i64 n', .string tx] 74)) = W2 at hP hO hb ⊢
    replace Ip := Lib.hid (Ip.out.bel hb)
    replace KW := Lib.hid (KW.out.tr hb)
    obtain ⟨bkp, hbn⟩ : ∃ b, w1.heap.size = b := ⟨_, rfl⟩
    rw [hbn] at hP hO ⊢
    obtain ⟨bko, hbo⟩ : ∃ b, bkp + 1 = b := ⟨_, rfl⟩
    rw [hbo] at hO ⊢
    have Pp := Lib.hid hP
    have Oo := Lib.hid hO
    clear hP hO hb hbn hbo Ip
    refine (specOp_n Pp.out.inn HSp.out HSO.out HE.out).mono ?_
    rintro e w3 ⟨Awant, Bwant, cwant, dwant, rfl, hin, hb⟩
    replace Pp := Lib.hid (Pp.out.bel hb)
    replace Oo := Lib.hid (Oo.out.bel hb)
    replace KW := Lib.hid (KW.out.tr hb)
    have Iwant := Lib.hid hin
    clear hin hb
    have qp0 := Pp.out.c0
    have qp1 := Pp.out.c1
    have yp := Pp.out.lt
    have mo0 := Oo.out.m0
    have mo1 := Oo.out.m1
    have mo2 := Oo.out.m2
    have mo3 := Oo.out.m3
    have mo4 := Oo.out.m4
    have myo := Oo.out.lt
    go_wp2_with fail
    clear qp0 qp1 yp
    clear mo0 mo1 mo2 mo3 mo4 myo
    have hnew := PVar.new Iwant.out
    have hb : Bel w3 (w3.alloc (.cells #[.slice Awant q.slots.length cwant, .slice Bwant q.vols.length dwant] 30)) := bel_alloc (Below.refl _ _) _
    generalize w3.alloc (.cells #[.slice Awant q.slots.length cwant, .slice Bwant q.vols.length dwant] 30) = W4 at hnew hb ⊢
    replace Pp := Lib.hid (Pp.out.bel hb)
    replace Oo := Lib.hid (Oo.out.bel hb)
    replace Iwant := Lib.hid (Iwant.out.bel hb)
    replace KW := Lib.hid (KW.out.tr hb)
    obtain ⟨bkwant, hbn⟩ : ∃ b, w3.heap.size = b := ⟨_, rfl⟩
    rw [hbn] at hnew ⊢
    have Pwant := Lib.hid hnew
    clear hnew hb hbn Iwant
    refine (implOp_n Pp.out.inn HSp.out HSO.out HE.out).mono ?_
    rintro e w5 ⟨Ax, Bx, cx, dx, rfl, hin, hb⟩
    replace Pp := Lib.hid (Pp.out.bel hb)
    replace Oo := Lib.hid (Oo.out.bel hb)
    replace Pwant := Lib.hid (Pwant.out.bel hb)
    replace KW := Lib.hid (KW.out.tr hb)
    have Ix := Lib.hid hin
    clear hin hb
    have qp0 := Pp.out.c0
    have qp1 := Pp.out.c1
    have yp := Pp.out.lt
    have qwant0 := Pwant.out.c0
    have qwant1 := Pwant.out.c1
    have ywant := Pwant.out.lt
    have mo0 := Oo.out.m0
    have mo1 := Oo.out.m1
    have mo2 := Oo.out.m2
    have mo3 := Oo.out.m3
    have mo4 := Oo.out.m4
    have myo := Oo.out.lt
    go_wp2_with fail
    clear qp0 qp1 yp qwant0 qwant1 ywant
    clear mo0 mo1 mo2 mo3 mo4 myo
    have hnew := PVar.new Ix.out
    have hb : Bel w5 (w5.alloc (.cells #[.slice Ax q.slots.length cx, .slice Bx q.vols.length dx] 30)) := bel_alloc (Below.refl _ _) _
    generalize w5.alloc (.cells #[.slice Ax q.slots.length cx, .slice Bx q.vols.length dx] 30) = W6 at hnew hb ⊢
    replace Pp := Lib.hid (Pp.out.bel hb)
    replace Oo := Lib.hid (Oo.out.bel hb)
    replace Pwant := Lib.hid (Pwant.out.bel hb)
    replace Ix := Lib.hid (Ix.out.bel hb)
    replace KW := Lib.hid (KW.out.tr hb)
    obtain ⟨bkx, hbn⟩ : ∃ b, w5.heap.size = b := ⟨_, rfl⟩
    rw [hbn] at hnew ⊢
    have Px := Lib.hid hnew
    clear hnew hb hbn Ix
    refine (lgPool_c Px.out.inn Pwant.out.inn HSq.out).mono ?_
    rintro e w7 ⟨rfl, hb⟩
    replace Pp := Lib.hid (Pp.out.bel hb)
    replace Oo := Lib.hid (Oo.out.bel hb)
    replace Pwant := Lib.hid (Pwant.out.bel hb)
    replace Px := Lib.hid (Px.out.bel hb)
    replace KW := Lib.hid (KW.out.tr hb)
    clear hb
    have qp0 := Pp.out.c0
    have qp1 := Pp.out.c1
    have yp := Pp.out.lt
    have qwant0 := Pwant.out.c0
    have qwant1 := Pwant.out.c1
    have ywant := Pwant.out.lt
    have qx0 := Px.out.c0
    have qx1 := Px.out.c1
    have yx := Px.out.lt
    have mo0 := Oo.out.m0
    have mo1 := Oo.out.m1
    have mo2 := Oo.out.m2
    have mo3 := Oo.out.m3
    have mo4 := Oo.out.m4
    have myo := Oo.out.lt
    go_wp2_with fail
    clear qp0 qp1 yp qwant0 qwant1 ywant qx0 qx1 yx
    clear mo0 mo1 mo2 mo3 mo4 myo
    refine (specOk_n Pp.out.inn HSp.out HPK.out).mono ?_
    rintro e w8 ⟨rfl, hb⟩
    replace Pp := Lib.hid (Pp.out.bel hb)
    replace Oo := Lib.hid (Oo.out.bel hb)
    replace Pwant := Lib.hid (Pwant.out.bel hb)
    replace Px := Lib.hid (Px.out.bel hb)
    replace KW := Lib.hid (KW.out.tr hb)
    clear hb
    have qp0 := Pp.out.c0
    have qp1 := Pp.out.c1
    have yp := Pp.out.lt
    have qwant0 := Pwant.out.c0
    have qwant1 := Pwant.out.c1
    have ywant := Pwant.out.lt
    have qx0 := Px.out.c0
    have qx1 := Px.out.c1
    have yx := Px.out.lt
    have mo0 := Oo.out.m0
    have mo1 := Oo.out.m1
    have mo2 := Oo.out.m2
    have mo3 := Oo.out.m3
    have mo4 := Oo.out.m4
    have myo := Oo.out.lt
    go_wp2_with fail
    clear qp0 qp1 yp qwant0 qwant1 ywant qx0 qx1 yx
    clear mo0 mo1 mo2 mo3 mo4 myo
    refine (opOk_n HSO.out HOK.out).mono ?_
    rintro e w9 ⟨rfl, hb⟩
    replace Pp := Lib.hid (Pp.out.bel hb)
    replace Oo := Lib.hid (Oo.out.bel hb)
    replace Pwant := Lib.hid (Pwant.out.bel hb)
    replace Px := Lib.hid (Px.out.bel hb)
    replace KW := Lib.hid (KW.out.tr hb)
    clear hb
    have qp0 := Pp.out.c0
    have qp1 := Pp.out.c1
    have yp := Pp.out.lt
    have qwant0 := Pwant.out.c0
    have qwant1 := Pwant.out.c1
    have ywant := Pwant.out.lt
    have qx0 := Px.out.c0
    have qx1 := Px.out.c1
    have yx := Px.out.lt
    have mo0 := Oo.out.m0
    have mo1 := Oo.out.m1
    have mo2 := Oo.out.m2
    have mo3 := Oo.out.m3
    have mo4 := Oo.out.m4
    have myo := Oo.out.lt
    go_wp2_with fail
    clear qp0 qp1 yp qwant0 qwant1 ywant qx0 qx1 yx
    clear mo0 mo1 mo2 mo3 mo4 myo
    refine (lgPool_c Px.out.inn Pwant.out.inn HSq.out).mono ?_
    rintro e w10 ⟨rfl, hb⟩
    replace Pp := Lib.hid (Pp.out.bel hb)
    replace Oo := Lib.hid (Oo.out.bel hb)
    replace Pwant := Lib.hid (Pwant.out.bel hb)
    replace Px := Lib.hid (Px.out.bel hb)
    replace KW := Lib.hid (KW.out.tr hb)
    clear hb
    have qp0 := Pp.out.c0
    have qp1 := Pp.out.c1
    have yp := Pp.out.lt
    have qwant0 := Pwant.out.c0
    have qwant1 := Pwant.out.c1
    have ywant := Pwant.out.lt
    have qx0 := Px.out.c0
    have qx1 := Px.out.c1
    have yx := Px.out.lt
    have mo0 := Oo.out.m0
    have mo1 := Oo.out.m1
    have mo2 := Oo.out.m2
    have mo3 := Oo.out.m3
    have mo4 := Oo.out.m4
    have myo := Oo.out.lt
    go_wp2
    go_ret
    exact ⟨rfl, KW.out⟩
  have EO := Lib.hid (chO_ok (p := p) hoo)
  have HOO := Lib.hid hoo
  rcases opOk_kind hoo with hk | hk | hk | hk
  · simp only at hk
    subst hk
    clear hoo
    have EF : opF p ⟨1, nm, ds, n', tx⟩ = makeF p nm n' := rfl
    have E1 := EO.out.1
    have E2 := EO.out.2
    rw [EF] at E1 E2
    obtain ⟨q, hq⟩ : ∃ q, chP p (makeF p nm n') = q := ⟨_, rfl⟩
    obtain ⟨ok, hok2⟩ : ∃ ok, chB p (makeF p nm n') = ok := ⟨_, rfl⟩
    have hqv : PoolP q := by rw [← hq, ← EF]; unfold chP; rw [if_pos HOK.out]; exact opF_getD HV.out
    have HQ := Lib.hid (And.intro hq hok2)
    have HE := Lib.hid (And.intro (E1.trans hq) (E2.trans hok2))
    have HSq := Lib.hid hqv.small
    have HOKq := Lib.hid (poolOk_iff.2 hqv)
    clear EF E1 E2 hq hok2 hqv
    cases ok
    · skip
      go_wp2_with fail
      have hP := (PVar.new Ip.out).bel (bel_alloc (Below.refl _ _) (.cells #[.int .i64 1, .string nm, .string ds, .int .i64 n', .string tx] 74))
      have hO : OVar ((w1.alloc (.cells #[.slice Ap p.slots.length cp, .slice Bp p.vols.length dp] 30)).alloc (.cells #[.int .i64 1, .string nm, .string ds, .int .i64 n', .string tx] 74)) (w1.heap.size + 1) 1 nm ds n' tx := ⟨Blk.nw2 _ _ _ _⟩
      have hb : Bel w1 ((w1.alloc (.cells #[.slice Ap p.slots.length cp, .slice Bp p.vols.length dp] 30)).alloc (.cells #[.int .i64 1, .string nm, .string ds, .int .i64 n', .string tx] 74)) := bel_alloc (bel_alloc (Below.refl _ _) _) _
      generalize ((w1.alloc (.cells #[.slice Ap p.slots.length cp, .slice Bp p.vols.length dp] 30)).alloc (.cells #[.int .i64 1, .string nm, .string ds, .int .i64 n', .string tx] 74)) = W2 at hP hO hb ⊢
      replace Ip := Lib.hid (Ip.out.bel hb)
      replace KW := Lib.hid (KW.out.tr hb)
      obtain ⟨bkp, hbn⟩ : ∃ b, w1.heap.size = b := ⟨_, rfl⟩
      rw [hbn] at hP hO ⊢
      obtain ⟨bko, hbo⟩ : ∃ b, bkp + 1 = b := ⟨_, rfl⟩
      rw [hbo] at hO ⊢
      have Pp := Lib.hid hP
      have Oo := Lib.hid hO
      clear hP hO hb hbn hbo Ip
      refine (specOp_n Pp.out.inn HSp.out HSO.out HE.out).mono ?_
      rintro e w3 ⟨Awant, Bwant, cwant, dwant, rfl, hin, hb⟩
      replace Pp := Lib.hid (Pp.out.bel hb)
      replace Oo := Lib.hid (Oo.out.bel hb)
      replace KW := Lib.hid (KW.out.tr hb)
      have Iwant := Lib.hid hin
      clear hin hb
      have qp0 := Pp.out.c0
      have qp1 := Pp.out.c1
      have yp := Pp.out.lt
      have mo0 := Oo.out.m0
      have mo1 := Oo.out.m1
      have mo2 := Oo.out.m2
      have mo3 := Oo.out.m3
      have mo4 := Oo.out.m4
      have myo := Oo.out.lt
      go_wp2_with fail
      clear qp0 qp1 yp
      clear mo0 mo1 mo2 mo3 mo4 myo
      have hnew := PVar.new Iwant.out
      have hb : Bel w3 (w3.alloc (.cells #[.slice Awant q.slots.length cwant, .slice Bwant q.vols.length dwant] 30)) := bel_alloc (Below.refl _ _) _
      generalize w3.alloc (.cells #[.slice Awant q.slots.length cwant, .slice Bwant q.vols.length dwant] 30) = W4 at hnew hb ⊢
      replace Pp := Lib.hid (Pp.out.bel hb)
      replace Oo := Lib.hid (Oo.out.bel hb)
      replace Iwant := Lib.hid (Iwant.out.bel hb)
      replace KW := Lib.hid (KW.out.tr hb)
      obtain ⟨bkwant, hbn⟩ : ∃ b, w3.heap.size = b := ⟨_, rfl⟩
      rw [hbn] at hnew ⊢
      have Pwant := Lib.hid hnew
      clear hnew hb hbn Iwant
      refine (implOp_n Pp.out.inn HSp.out HSO.out HE.out).mono ?_
      rintro e w5 ⟨Ax, Bx, cx, dx, rfl, hin, hb⟩
      replace Pp := Lib.hid (Pp.out.bel hb)
      replace Oo := Lib.hid (Oo.out.bel hb)
      replace Pwant := Lib.hid (Pwant.out.bel hb)
      replace KW := Lib.hid (KW.out.tr hb)
      have Ix := Lib.hid hin
      clear hin hb
      have qp0 := Pp.out.c0
      have qp1 := Pp.out.c1
      have yp := Pp.out.lt
      have qwant0 := Pwant.out.c0
      have qwant1 := Pwant.out.c1
      have ywant := Pwant.out.lt
      have mo0 := Oo.out.m0
      have mo1 := Oo.out.m1
      have mo2 := Oo.out.m2
      have mo3 := Oo.out.m3
      have mo4 := Oo.out.m4
      have myo := Oo.out.lt
      go_wp2_with fail
      clear qp0 qp1 yp qwant0 qwant1 ywant
      clear mo0 mo1 mo2 mo3 mo4 myo
      have hnew := PVar.new Ix.out
      have hb : Bel w5 (w5.alloc (.cells #[.slice Ax q.slots.length cx, .slice Bx q.vols.length dx] 30)) := bel_alloc (Below.refl _ _) _
      generalize w5.alloc (.cells #[.slice Ax q.slots.length cx, .slice Bx q.vols.length dx] 30) = W6 at hnew hb ⊢
      replace Pp := Lib.hid (Pp.out.bel hb)
      replace Oo := Lib.hid (Oo.out.bel hb)
      replace Pwant := Lib.hid (Pwant.out.bel hb)
      replace Ix := Lib.hid (Ix.out.bel hb)
      replace KW := Lib.hid (KW.out.tr hb)
      obtain ⟨bkx, hbn⟩ : ∃ b, w5.heap.size = b := ⟨_, rfl⟩
      rw [hbn] at hnew ⊢
      have Px := Lib.hid hnew
      clear hnew hb hbn Ix
      refine (lgPool_c Px.out.inn Pwant.out.inn HSq.out).mono ?_
      rintro e w7 ⟨rfl, hb⟩
      replace Pp := Lib.hid (Pp.out.bel hb)
      replace Oo := Lib.hid (Oo.out.bel hb)
      replace Pwant := Lib.hid (Pwant.out.bel hb)
      replace Px := Lib.hid (Px.out.bel hb)
      replace KW := Lib.hid (KW.out.tr hb)
      clear hb
      have qp0 := Pp.out.c0
      have qp1 := Pp.out.c1
      have yp := Pp.out.lt
      have qwant0 := Pwant.out.c0
      have qwant1 := Pwant.out.c1
      have ywant := Pwant.out.lt
      have qx0 := Px.out.c0
      have qx1 := Px.out.c1
      have yx := Px.out.lt
      have mo0 := Oo.out.m0
      have mo1 := Oo.out.m1
      have mo2 := Oo.out.m2
      have mo3 := Oo.out.m3
      have mo4 := Oo.out.m4
      have myo := Oo.out.lt
      go_wp2_with fail
      clear qp0 qp1 yp qwant0 qwant1 ywant qx0 qx1 yx
      clear mo0 mo1 mo2 mo3 mo4 myo
      refine (specOk_n Pp.out.inn HSp.out HPK.out).mono ?_
      rintro e w8 ⟨rfl, hb⟩
      replace Pp := Lib.hid (Pp.out.bel hb)
      replace Oo := Lib.hid (Oo.out.bel hb)
      replace Pwant := Lib.hid (Pwant.out.bel hb)
      replace Px := Lib.hid (Px.out.bel hb)
      replace KW := Lib.hid (KW.out.tr hb)
      clear hb
      have qp0 := Pp.out.c0
      have qp1 := Pp.out.c1
      have yp := Pp.out.lt
      have qwant0 := Pwant.out.c0
      have qwant1 := Pwant.out.c1
      have ywant := Pwant.out.lt
      have qx0 := Px.out.c0
      have qx1 := Px.out.c1
      have yx := Px.out.lt
      have mo0 := Oo.out.m0
      have mo1 := Oo.out.m1
      have mo2 := Oo.out.m2
      have mo3 := Oo.out.m3
      have mo4 := Oo.out.m4
      have myo := Oo.out.lt
      go_wp2_with fail
      clear qp0 qp1 yp qwant0 qwant1 ywant qx0 qx1 yx
      clear mo0 mo1 mo2 mo3 mo4 myo
      refine (opOk_n HSO.out HOO.out).mono ?_
      rintro e w9 ⟨rfl, hb⟩
      replace Pp := Lib.hid (Pp.out.bel hb)
      replace Oo := Lib.hid (Oo.out.bel hb)
      replace Pwant := Lib.hid (Pwant.out.bel hb)
      replace Px := Lib.hid (Px.out.bel hb)
      replace KW := Lib.hid (KW.out.tr hb)
      clear hb
      have qp0 := Pp.out.c0
      have qp1 := Pp.out.c1
      have yp := Pp.out.lt
      have qwant0 := Pwant.out.c0
      have qwant1 := Pwant.out.c1
      have ywant := Pwant.out.lt
      have qx0 := Px.out.c0
      have qx1 := Px.out.c1
      have yx := Px.out.lt
      have mo0 := Oo.out.m0
      have mo1 := Oo.out.m1
      have mo2 := Oo.out.m2
      have mo3 := Oo.out.m3
      have mo4 := Oo.out.m4
      have myo := Oo.out.lt
      go_wp2_with fail
      clear qp0 qp1 yp qwant0 qwant1 ywant qx0 qx1 yx
      clear mo0 mo1 mo2 mo3 mo4 myo
      have ZP := Pp
      have ZX := Px
      have ZW := KW
      have hnew : Blk (w9.alloc (.cells #[.slice Ap p.slots.length cp, .slice Bp p.vols.length dp] 30)) w9.heap.size #[.slice Ap p.slots.length cp, .slice Bp p.vols.length dp] 30 := Blk.new _ _ _
      have hb : Bel w9 (w9.alloc (.cells #[.slice Ap p.slots.length cp, .slice Bp p.vols.length dp] 30)) := bel_alloc (Below.refl _ _) _
      generalize w9.alloc (.cells #[.slice Ap p.slots.length cp, .slice Bp p.vols.length dp] 30) = W10 at hnew hb ⊢
      replace Pp := Lib.hid (Pp.out.bel hb)
      replace Oo := Lib.hid (Oo.out.bel hb)
      replace Pwant := Lib.hid (Pwant.out.bel hb)
      replace Px := Lib.hid (Px.out.bel hb)
      replace KW := Lib.hid (KW.out.tr hb)
      have HBZ := Lib.hid hb
      have hle : w9.heap.size ≤ w9.heap.size := Nat.le_refl _
      obtain ⟨bky, hbn⟩ : ∃ b, w9.heap.size = b := ⟨_, rfl⟩
      have HLE := Lib.hid (show w9.heap.size ≤ bky by omega)
      rw [hbn] at hnew ⊢
      have KY := Lib.hid hnew
      clear hnew hb hbn hle
      refine (implPoolMake_c (name := nm) (size := n') Pp.out.inn HSp.out HSO.out.name).mono ?_
      rintro e w11 ⟨v0, v1, bvs, rfl, ho, hb⟩
      rw [HQ.out.1] at ho
      rw [HQ.out.2]
      replace KY := Lib.hid (KY.out.bel hb)
      replace HBZ := Lib.hid (HBZ.out.tr hb)
      replace Pp := Lib.hid (Pp.out.bel hb)
      replace Oo := Lib.hid (Oo.out.bel hb)
      replace Pwant := Lib.hid (Pwant.out.bel hb)
      replace Px := Lib.hid (Px.out.bel hb)
      replace KW := Lib.hid (KW.out.tr hb)
      obtain ⟨Ay, By, cy, dy, rfl, rfl, hpi⟩ := ho.reads
      clear hpi hb
      have HO := Lib.hid ho
      clear ho
      have qp0 := Pp.out.c0
      have qp1 := Pp.out.c1
      have yp := Pp.out.lt
      have qwant0 := Pwant.out.c0
      have qwant1 := Pwant.out.c1
      have ywant := Pwant.out.lt
      have qx0 := Px.out.c0
      have qx1 := Px.out.c1
      have yx := Px.out.lt
      have mo0 := Oo.out.m0
      have mo1 := Oo.out.m1
      have mo2 := Oo.out.m2
      have mo3 := Oo.out.m3
      have mo4 := Oo.out.m4
      have myo := Oo.out.lt
      have qy0 := KY.out.cell 0
      have qy1 := KY.out.cell 1
      have yy := KY.out.lt
      have fy0 := KY.out.free 0
      have fy1 := KY.out.free 1
      simp at qy0 qy1
      have hxl := ZX.out.lt
      have hxy : ¬ bkx = bky := by have := HLE.out; omega
      have hyx : ¬ bky = bkx := fun e => hxy e.symm
      clear hxl
      go_wp2_with fail
      clear qp0 qp1 yp qwant0 qwant1 ywant qx0 qx1 yx
      clear mo0 mo1 mo2 mo3 mo4 myo
      clear qy0 qy1 yy fy0 fy1 hxy hyx
      have hx1 := KY.out.set 0 (.slice Ay q.slots.length cy) (cs' := #[.slice Ay q.slots.length cy, .slice Bp p.vols.length dp]) rfl
      have hx2 := hx1.set 1 (.slice By q.vols.length dy) (cs' := #[.slice Ay q.slots.length cy, .slice By q.vols.length dy]) rfl
      have ho2 := (HO.out.far KY.out (by decide) (by decide) (by decide) 0 (.slice Ay q.slots.length cy)).far hx1 (by decide) (by decide) (by decide) 1 (.slice By q.vols.length dy)
      have hb5 := bel_set (bel_set HBZ.out HLE.out 0 (.slice Ay q.slots.length cy)) HLE.out 1 (.slice By q.vols.length dy)
      generalize (w11.setCell ⟨bky, 0, none⟩ (.slice Ay q.slots.length cy)).setCell ⟨bky, 1, none⟩ (.slice By q.vols.length dy) = W12 at hx2 ho2 hb5 ⊢
      obtain ⟨a0, a1, k0, k1, e0, e1, hpi⟩ := ho2.reads
      have e0 := slice_eq e0
      have e1 := slice_eq e1
      obtain ⟨rfl, -, rfl⟩ := e0
      obtain ⟨rfl, -, rfl⟩ := e1
      have Px := Lib.hid (ZX.out.bel hb5)
      have KW := Lib.hid (ZW.out.tr hb5)
      have Py : Hid (PVar W12 bky Ay By cy dy q) := ⟨hx2, hpi⟩
      clear hx1 hx2 ho2 hb5 hpi
      refine (lgPool_c Px.out.inn Py.out.inn HSq.out).mono ?_
      rintro e w13 ⟨rfl, hb⟩
      replace Px := Lib.hid (Px.out.bel hb)
      replace Py := Lib.hid (Py.out.bel hb)
      replace KW := Lib.hid (KW.out.tr hb)
      clear hb
      have qx0 := Px.out.c0
      have qx1 := Px.out.c1
      have yx := Px.out.lt
      have qy0 := Py.out.c0
      have qy1 := Py.out.c1
      have yy := Py.out.lt
      go_wp2_with fail
      clear qx0 qx1 yx qy0 qy1 yy
      refine (implOk_n Px.out.inn HSq.out HOKq.out).mono ?_
      rintro e w14 ⟨rfl, hb⟩
      replace Px := Lib.hid (Px.out.bel hb)
      replace Py := Lib.hid (Py.out.bel hb)
      replace KW := Lib.hid (KW.out.tr hb)
      clear hb
      have qx0 := Px.out.c0
      have qx1 := Px.out.c1
      have yx := Px.out.lt
      have qy0 := Py.out.c0
      have qy1 := Py.out.c1
      have yy := Py.out.lt
      go_wp2
      go_ret
      exact ⟨rfl, KW.out⟩
    · skip
      go_wp2_with fail
      have hP := (PVar.new Ip.out).bel (bel_alloc (Below.refl _ _) (.cells #[.int .i64 1, .string nm, .string ds, .int .i64 n', .string tx] 74))
      have hO : OVar ((w1.alloc (.cells #[.slice Ap p.slots.length cp, .slice Bp p.vols.length dp] 30)).alloc (.cells #[.int .i64 1, .string nm, .string ds, .int .i64 n', .string tx] 74)) (w1.heap.size + 1) 1 nm ds n' tx := ⟨Blk.nw2 _ _ _ _⟩
      have hb : Bel w1 ((w1.alloc (.cells #[.slice Ap p.slots.length cp, .slice Bp p.vols.length dp] 30)).alloc (.cells #[.int .i64 1, .string nm, .string ds, .int .i64 n', .string tx] 74)) := bel_alloc (bel_alloc (Below.refl _ _) _) _
      generalize ((w1.alloc (.cells #[.slice Ap p.slots.length cp, .slice Bp p.vols.length dp] 30)).alloc (.cells #[.int .i64 1, .string nm, .string ds, .int .i64 n', .string tx] 74)) = W2 at hP hO hb ⊢
      replace Ip := Lib.hid (Ip.out.bel hb)
      replace KW := Lib.hid (KW.out.tr hb)
      obtain ⟨bkp, hbn⟩ : ∃ b, w1.heap.size = b := ⟨_, rfl⟩
      rw [hbn] at hP hO ⊢
      obtain ⟨bko, hbo⟩ : ∃ b, bkp + 1 = b := ⟨_, rfl⟩
      rw [hbo] at hO ⊢
      have Pp := Lib.hid hP
      have Oo := Lib.hid hO
      clear hP hO hb hbn hbo Ip
      refine (specOp_n Pp.out.inn HSp.out HSO.out HE.out).mono ?_
      rintro e w3 ⟨Awant, Bwant, cwant, dwant, rfl, hin, hb⟩
      replace Pp := Lib.hid (Pp.out.bel hb)
      replace Oo := Lib.hid (Oo.out.bel hb)
      replace KW := Lib.hid (KW.out.tr hb)
      have Iwant := Lib.hid hin
      clear hin hb
      have qp0 := Pp.out.c0
      have qp1 := Pp.out.c1
      have yp := Pp.out.lt
      have mo0 := Oo.out.m0
      have mo1 := Oo.out.m1
      have mo2 := Oo.out.m2
      have mo3 := Oo.out.m3
      have mo4 := Oo.out.m4
      have myo := Oo.out.lt
      go_wp2_with fail
      clear qp0 qp1 yp
      clear mo0 mo1 mo2 mo3 mo4 myo
      have hnew := PVar.new Iwant.out
      have hb : Bel w3 (w3.alloc (.cells #[.slice Awant q.slots.length cwant, .slice Bwant q.vols.length dwant] 30)) := bel_alloc (Below.refl _ _) _
      generalize w3.alloc (.cells #[.slice Awant q.slots.length cwant, .slice Bwant q.vols.length dwant] 30) = W4 at hnew hb ⊢
      replace Pp := Lib.hid (Pp.out.bel hb)
      replace Oo := Lib.hid (Oo.out.bel hb)
      replace Iwant := Lib.hid (Iwant.out.bel hb)
      replace KW := Lib.hid (KW.out.tr hb)
      obtain ⟨bkwant, hbn⟩ : ∃ b, w3.heap.size = b := ⟨_, rfl⟩
      rw [hbn] at hnew ⊢
      have Pwant := Lib.hid hnew
      clear hnew hb hbn Iwant
      refine (implOp_n Pp.out.inn HSp.out HSO.out HE.out).mono ?_
      rintro e w5 ⟨Ax, Bx, cx, dx, rfl, hin, hb⟩
      replace Pp := Lib.hid (Pp.out.bel hb)
      replace Oo := Lib.hid (Oo.out.bel hb)
      replace Pwant := Lib.hid (Pwant.out.bel hb)
      replace KW := Lib.hid (KW.out.tr hb)
      have Ix := Lib.hid hin
      clear hin hb
      have qp0 := Pp.out.c0
      have qp1 := Pp.out.c1
      have yp := Pp.out.lt
      have qwant0 := Pwant.out.c0
      have qwant1 := Pwant.out.c1
      have ywant := Pwant.out.lt
      have mo0 := Oo.out.m0
      have mo1 := Oo.out.m1
      have mo2 := Oo.out.m2
      have mo3 := Oo.out.m3
      have mo4 := Oo.out.m4
      have myo := Oo.out.lt
      go_wp2_with fail
      clear qp0 qp1 yp qwant0 qwant1 ywant
      clear mo0 mo1 mo2 mo3 mo4 myo
      have hnew := PVar.new Ix.out
      have hb : Bel w5 (w5.alloc (.cells #[.slice Ax q.slots.length cx, .slice Bx q.vols.length dx] 30)) := bel_alloc (Below.refl _ _) _
      generalize w5.alloc (.cells #[.slice Ax q.slots.length cx, .slice Bx q.vols.length dx] 30) = W6 at hnew hb ⊢
      replace Pp := Lib.hid (Pp.out.bel hb)
      replace Oo := Lib.hid (Oo.out.bel hb)
      replace Pwant := Lib.hid (Pwant.out.bel hb)
      replace Ix := Lib.hid (Ix.out.bel hb)
      replace KW := Lib.hid (KW.out.tr hb)
      obtain ⟨bkx, hbn⟩ : ∃ b, w5.heap.size = b := ⟨_, rfl⟩
      rw [hbn] at hnew ⊢
      have Px := Lib.hid hnew
      clear hnew hb hbn Ix
      refine (lgPool_c Px.out.inn Pwant.out.inn HSq.out).mono ?_
      rintro e w7 ⟨rfl, hb⟩
      replace Pp := Lib.hid (Pp.out.bel hb)
      replace Oo := Lib.hid (Oo.out.bel hb)
      replace Pwant := Lib.hid (Pwant.out.bel hb)
      replace Px := Lib.hid (Px.out.bel hb)
      replace KW := Lib.hid (KW.out.tr hb)
      clear hb
      have qp0 := Pp.out.c0
      have qp1 := Pp.out.c1
      have yp := Pp.out.lt
      have qwant0 := Pwant.out.c0
      have qwant1 := Pwant.out.c1
      have ywant := Pwant.out.lt
      have qx0 := Px.out.c0
      have qx1 := Px.out.c1
      have yx := Px.out.lt
      have mo0 := Oo.out.m0
      have mo1 := Oo.out.m1
      have mo2 := Oo.out.m2
      have mo3 := Oo.out.m3
      have mo4 := Oo.out.m4
      have myo := Oo.out.lt
      go_wp2_with fail
      clear qp0 qp1 yp qwant0 qwant1 ywant qx0 qx1 yx
      clear mo0 mo1 mo2 mo3 mo4 myo
      refine (specOk_n Pp.out.inn HSp.out HPK.out).mono ?_
      rintro e w8 ⟨rfl, hb⟩
      replace Pp := Lib.hid (Pp.out.bel hb)
      replace Oo := Lib.hid (Oo.out.bel hb)
      replace Pwant := Lib.hid (Pwant.out.bel hb)
      replace Px := Lib.hid (Px.out.bel hb)
      replace KW := Lib.hid (KW.out.tr hb)
      clear hb
      have qp0 := Pp.out.c0
      have qp1 := Pp.out.c1
      have yp := Pp.out.lt
      have qwant0 := Pwant.out.c0
      have qwant1 := Pwant.out.c1
      have ywant := Pwant.out.lt
      have qx0 := Px.out.c0
      have qx1 := Px.out.c1
      have yx := Px.out.lt
      have mo0 := Oo.out.m0
      have mo1 := Oo.out.m1
      have mo2 := Oo.out.m2
      have mo3 := Oo.out.m3
      have mo4 := Oo.out.m4
      have myo := Oo.out.lt
      go_wp2_with fail
      clear qp0 qp1 yp qwant0 qwant1 ywant qx0 qx1 yx
      clear mo0 mo1 mo2 mo3 mo4 myo
      refine (opOk_n HSO.out HOO.out).mono ?_
      rintro e w9 ⟨rfl, hb⟩
      replace Pp := Lib.hid (Pp.out.bel hb)
      replace Oo := Lib.hid (Oo.out.bel hb)
      replace Pwant := Lib.hid (Pwant.out.bel hb)
      replace Px := Lib.hid (Px.out.bel hb)
      replace KW := Lib.hid (KW.out.tr hb)
      clear hb
      have qp0 := Pp.out.c0
      have qp1 := Pp.out.c1
      have yp := Pp.out.lt
      have qwant0 := Pwant.out.c0
      have qwant1 := Pwant.out.c1
      have ywant := Pwant.out.lt
      have qx0 := Px.out.c0
      have qx1 := Px.out.c1
      have yx := Px.out.lt
      have mo0 := Oo.out.m0
      have mo1 := Oo.out.m1
      have mo2 := Oo.out.m2
      have mo3 := Oo.out.m3
      have mo4 := Oo.out.m4
      have myo := Oo.out.lt
      go_wp2_with fail
      clear qp0 qp1 yp qwant0 qwant1 ywant qx0 qx1 yx
      clear mo0 mo1 mo2 mo3 mo4 myo
      have ZP := Pp
      have ZX := Px
      have ZW := KW
      have hnew : Blk (w9.alloc (.cells #[.slice Ap p.slots.length cp, .slice Bp p.vols.length dp] 30)) w9.heap.size #[.slice Ap p.slots.length cp, .slice Bp p.vols.length dp] 30 := Blk.new _ _ _
      have hb : Bel w9 (w9.alloc (.cells #[.slice Ap p.slots.length cp, .slice Bp p.vols.length dp] 30)) := bel_alloc (Below.refl _ _) _
      generalize w9.alloc (.cells #[.slice Ap p.slots.length cp, .slice Bp p.vols.length dp] 30) = W10 at hnew hb ⊢
      replace Pp := Lib.hid (Pp.out.bel hb)
      replace Oo := Lib.hid (Oo.out.bel hb)
      replace Pwant := Lib.hid (Pwant.out.bel hb)
      replace Px := Lib.hid (Px.out.bel hb)
      replace KW := Lib.hid (KW.out.tr hb)
      have HBZ := Lib.hid hb
      have hle : w9.heap.size ≤ w9.heap.size := Nat.le_refl _
      obtain ⟨bky, hbn⟩ : ∃ b, w9.heap.size = b := ⟨_, rfl⟩
      have HLE := Lib.hid (show w9.heap.size ≤ bky by omega)
      rw [hbn] at hnew ⊢
      have KY := Lib.hid hnew
      clear hnew hb hbn hle
      refine (implPoolMake_c (name := nm) (size := n') Pp.out.inn HSp.out HSO.out.name).mono ?_
      rintro e w11 ⟨v0, v1, bvs, rfl, ho, hb⟩
      rw [HQ.out.1] at ho
      rw [HQ.out.2]
      replace KY := Lib.hid (KY.out.bel hb)
      replace HBZ := Lib.hid (HBZ.out.tr hb)
      replace Pp := Lib.hid (Pp.out.bel hb)
      replace Oo := Lib.hid (Oo.out.bel hb)
      replace Pwant := Lib.hid (Pwant.out.bel hb)
      replace Px := Lib.hid (Px.out.bel hb)
      replace KW := Lib.hid (KW.out.tr hb)
      obtain ⟨Ay, By, cy, dy, rfl, rfl, hpi⟩ := ho.reads
      clear hpi hb
      have HO := Lib.hid ho
      clear ho
      have qp0 := Pp.out.c0
      have qp1 := Pp.out.c1
      have yp := Pp.out.lt
      have qwant0 := Pwant.out.c0
      have qwant1 := Pwant.out.c1
      have ywant := Pwant.out.lt
      have qx0 := Px.out.c0
      have qx1 := Px.out.c1
      have yx := Px.out.lt
      have mo0 := Oo.out.m0
      have mo1 := Oo.out.m1
      have mo2 := Oo.out.m2
      have mo3 := Oo.out.m3
      have mo4 := Oo.out.m4
      have myo := Oo.out.lt
      have qy0 := KY.out.cell 0
      have qy1 := KY.out.cell 1
      have yy := KY.out.lt
      have fy0 := KY.out.free 0
      have fy1 := KY.out.free 1
      simp at qy0 qy1
      have hxl := ZX.out.lt
      have hxy : ¬ bkx = bky := by have := HLE.out; omega
      have hyx : ¬ bky = bkx := fun e => hxy e.symm
      clear hxl
      go_wp2_with fail
      clear qp0 qp1 yp qwant0 qwant1 ywant qx0 qx1 yx
      clear mo0 mo1 mo2 mo3 mo4 myo
      clear qy0 qy1 yy fy0 fy1 hxy hyx
      have hx1 := KY.out.set 0 (.slice Ay q.slots.length cy) (cs' := #[.slice Ay q.slots.length cy, .slice Bp p.vols.length dp]) rfl
      have hx2 := hx1.set 1 (.slice By q.vols.length dy) (cs' := #[.slice Ay q.slots.length cy, .slice By q.vols.length dy]) rfl
      have ho2 := (HO.out.far KY.out (by decide) (by decide) (by decide) 0 (.slice Ay q.slots.length cy)).far hx1 (by decide) (by decide) (by decide) 1 (.slice By q.vols.length dy)
      have hb5 := bel_set (bel_set HBZ.out HLE.out 0 (.slice Ay q.slots.length cy)) HLE.out 1 (.slice By q.vols.length dy)
      generalize (w11.setCell ⟨bky, 0, none⟩ (.slice Ay q.slots.length cy)).setCell ⟨bky, 1, none⟩ (.slice By q.vols.length dy) = W12 at hx2 ho2 hb5 ⊢
      obtain ⟨a0, a1, k0, k1, e0, e1, hpi⟩ := ho2.reads
      have e0 := slice_eq e0
      have e1 := slice_eq e1
      obtain ⟨rfl, -, rfl⟩ := e0
      obtain ⟨rfl, -, rfl⟩ := e1
      have Px := Lib.hid (ZX.out.bel hb5)
      have KW := Lib.hid (ZW.out.tr hb5)
      have Py : Hid (PVar W12 bky Ay By cy dy q) := ⟨hx2, hpi⟩
      clear hx1 hx2 ho2 hb5 hpi
      refine (lgPool_c Px.out.inn Py.out.inn HSq.out).mono ?_
      rintro e w13 ⟨rfl, hb⟩
      replace Px := Lib.hid (Px.out.bel hb)
      replace Py := Lib.hid (Py.out.bel hb)
      replace KW := Lib.hid (KW.out.tr hb)
      clear hb
      have qx0 := Px.out.c0
      have qx1 := Px.out.c1
      have yx := Px.out.lt
      have qy0 := Py.out.c0
      have qy1 := Py.out.c1
      have yy := Py.out.lt
      go_wp2_with fail
      clear qx0 qx1 yx qy0 qy1 yy
      refine (implOk_n Px.out.inn HSq.out HOKq.out).mono ?_
      rintro e w14 ⟨rfl, hb⟩
      replace Px := Lib.hid (Px.out.bel hb)
      replace Py := Lib.hid (Py.out.bel hb)
      replace KW := Lib.hid (KW.out.tr hb)
      clear hb
      have qx0 := Px.out.c0
      have qx1 := Px.out.c1
      have yx := Px.out.lt
      have qy0 := Py.out.c0
      have qy1 := Py.out.c1
      have yy := Py.out.lt
      go_wp2
      go_ret
      exact ⟨rfl, KW.out⟩
  · simp only at hk
    subst hk
    clear hoo
    have EF : opF p ⟨2, nm, ds, n', tx⟩ = writeF p nm n' tx := rfl
    have E1 := EO.out.1
    have E2 := EO.out.2
    rw [EF] at E1 E2
    obtain ⟨q, hq⟩ : ∃ q, chP p (writeF p nm n' tx) = q := ⟨_, rfl⟩
    obtain ⟨ok, hok2⟩ : ∃ ok, chB p (writeF p nm n' tx) = ok := ⟨_, rfl⟩
    have hqv : PoolP q := by rw [← hq, ← EF]; unfold chP; rw [if_pos HOK.out]; exact opF_getD HV.out
    have HQ := Lib.hid (And.intro hq hok2)
    have HE := Lib.hid (And.intro (E1.trans hq) (E2.trans hok2))
    have HSq := Lib.hid hqv.small
    have HOKq := Lib.hid (poolOk_iff.2 hqv)
    clear EF E1 E2 hq hok2 hqv
    cases ok
    · skip
      go_wp2_with fail
      have hP := (PVar.new Ip.out).bel (bel_alloc (Below.refl _ _) (.cells #[.int .i64 2, .string nm, .string ds, .int .i64 n', .string tx] 74))
      have hO : OVar ((w1.alloc (.cells #[.slice Ap p.slots.length cp, .slice Bp p.vols.length dp] 30)).alloc (.cells #[.int .i64 2, .string nm, .string ds, .int .i64 n', .string tx] 74)) (w1.heap.size + 1) 2 nm ds n' tx := ⟨Blk.nw2 _ _ _ _⟩
      have hb : Bel w1 ((w1.alloc (.cells #[.slice Ap p.slots.length cp, .slice Bp p.vols.length dp] 30)).alloc (.cells #[.int .i64 2, .string nm, .string ds, .int .i64 n', .string tx] 74)) := bel_alloc (bel_alloc (Below.refl _ _) _) _
      generalize ((w1.alloc (.cells #[.slice Ap p.slots.length cp, .slice Bp p.vols.length dp] 30)).alloc (.cells #[.int .i64 2, .string nm, .string ds, .int .i64 n', .string tx] 74)) = W2 at hP hO hb ⊢
      replace Ip := Lib.hid (Ip.out.bel hb)
      replace KW := Lib.hid (KW.out.tr hb)
      obtain ⟨bkp, hbn⟩ : ∃ b, w1.heap.size = b := ⟨_, rfl⟩
      rw [hbn] at hP hO ⊢
      obtain ⟨bko, hbo⟩ : ∃ b, bkp + 1 = b := ⟨_, rfl⟩
      rw [hbo] at hO ⊢
      have Pp := Lib.hid hP
      have Oo := Lib.hid hO
      clear hP hO hb hbn hbo Ip
      refine (specOp_n Pp.out.inn HSp.out HSO.out HE.out).mono ?_
      rintro e w3 ⟨Awant, Bwant, cwant, dwant, rfl, hin, hb⟩
      replace Pp := Lib.hid (Pp.out.bel hb)
      replace Oo := Lib.hid (Oo.out.bel hb)
      replace KW := Lib.hid (KW.out.tr hb)
      have Iwant := Lib.hid hin
      clear hin hb
      have qp0 := Pp.out.c0
      have qp1 := Pp.out.c1
      have yp := Pp.out.lt
      have mo0 := Oo.out.m0
      have mo1 := Oo.out.m1
      have mo2 := Oo.out.m2
      have mo3 := Oo.out.m3
      have mo4 := Oo.out.m4
      have myo := Oo.out.lt
      go_wp2_with fail
      clear qp0 qp1 yp
      clear mo0 mo1 mo2 mo3 mo4 myo
      have hnew := PVar.new Iwant.out
      have hb : Bel w3 (w3.alloc (.cells #[.slice Awant q.slots.length cwant, .slice Bwant q.vols.length dwant] 30)) := bel_alloc (Below.refl _ _) _
      generalize w3.alloc (.cells #[.slice Awant q.slots.length cwant, .slice Bwant q.vols.length dwant] 30) = W4 at hnew hb ⊢
      replace Pp := Lib.hid (Pp.out.bel hb)
      replace Oo := Lib.hid (Oo.out.bel hb)
      replace Iwant := Lib.hid (Iwant.out.bel hb)
      replace KW := Lib.hid (KW.out.tr hb)
      obtain ⟨bkwant, hbn⟩ : ∃ b, w3.heap.size = b := ⟨_, rfl⟩
      rw [hbn] at hnew ⊢
      have Pwant := Lib.hid hnew
      clear hnew hb hbn Iwant
      refine (implOp_n Pp.out.inn HSp.out HSO.out HE.out).mono ?_
      rintro e w5 ⟨Ax, Bx, cx, dx, rfl, hin, hb⟩
      replace Pp := Lib.hid (Pp.out.bel hb)
      replace Oo := Lib.hid (Oo.out.bel hb)
      replace Pwant := Lib.hid (Pwant.out.bel hb)
      replace KW := Lib.hid (KW.out.tr hb)
      have Ix := Lib.hid hin
      clear hin hb
      have qp0 := Pp.out.c0
      have qp1 := Pp.out.c1
      have yp := Pp.out.lt
      have qwant0 := Pwant.out.c0
      have qwant1 := Pwant.out.c1
      have ywant := Pwant.out.lt
      have mo0 := Oo.out.m0
      have mo1 := Oo.out.m1
      have mo2 := Oo.out.m2
      have mo3 := Oo.out.m3
      have mo4 := Oo.out.m4
      have myo := Oo.out.lt
      go_wp2_with fail
      clear qp0 qp1 yp qwant0 qwant1 ywant
      clear mo0 mo1 mo2 mo3 mo4 myo
      have hnew := PVar.new Ix.out
      have hb : Bel w5 (w5.alloc (.cells #[.slice Ax q.slots.length cx, .slice Bx q.vols.length dx] 30)) := bel_alloc (Below.refl _ _) _
      generalize w5.alloc (.cells #[.slice Ax q.slots.length cx, .slice Bx q.vols.length dx] 30) = W6 at hnew hb ⊢
      replace Pp := Lib.hid (Pp.out.bel hb)
      replace Oo := Lib.hid (Oo.out.bel hb)
      replace Pwant := Lib.hid (Pwant.out.bel hb)
      replace Ix := Lib.hid (Ix.out.bel hb)
      replace KW := Lib.hid (KW.out.tr hb)
      obtain ⟨bkx, hbn⟩ : ∃ b, w5.heap.size = b := ⟨_, rfl⟩
      rw [hbn] at hnew ⊢
      have Px := Lib.hid hnew
      clear hnew hb hbn Ix
      refine (lgPool_c Px.out.inn Pwant.out.inn HSq.out).mono ?_
      rintro e w7 ⟨rfl, hb⟩
      replace Pp := Lib.hid (Pp.out.bel hb)
      replace Oo := Lib.hid (Oo.out.bel hb)
      replace Pwant := Lib.hid (Pwant.out.bel hb)
      replace Px := Lib.hid (Px.out.bel hb)
      replace KW := Lib.hid (KW.out.tr hb)
      clear hb
      have qp0 := Pp.out.c0
      have qp1 := Pp.out.c1
      have yp := Pp.out.lt
      have qwant0 := Pwant.out.c0
      have qwant1 := Pwant.out.c1
      have ywant := Pwant.out.lt
      have qx0 := Px.out.c0
      have qx1 := Px.out.c1
      have yx := Px.out.lt
      have mo0 := Oo.out.m0
      have mo1 := Oo.out.m1
      have mo2 := Oo.out.m2
      have mo3 := Oo.out.m3
      have mo4 := Oo.out.m4
      have myo := Oo.out.lt
      go_wp2_with fail
      clear qp0 qp1 yp qwant0 qwant1 ywant qx0 qx1 yx
      clear mo0 mo1 mo2 mo3 mo4 myo
      refine (specOk_n Pp.out.inn HSp.out HPK.out).mono ?_
      rintro e w8 ⟨rfl, hb⟩
      replace Pp := Lib.hid (Pp.out.bel hb)
      replace Oo := Lib.hid (Oo.out.bel hb)
      replace Pwant := Lib.hid (Pwant.out.bel hb)
      replace Px := Lib.hid (Px.out.bel hb)
      replace KW := Lib.hid (KW.out.tr hb)
      clear hb
      have qp0 := Pp.out.c0
      have qp1 := Pp.out.c1
      have yp := Pp.out.lt
      have qwant0 := Pwant.out.c0
      have qwant1 := Pwant.out.c1
      have ywant := Pwant.out.lt
      have qx0 := Px.out.c0
      have qx1 := Px.out.c1
      have yx := Px.out.lt
      have mo0 := Oo.out.m0
      have mo1 := Oo.out.m1
      have mo2 := Oo.out.m2
      have mo3 := Oo.out.m3
      have mo4 := Oo.out.m4
      have myo := Oo.out.lt
      go_wp2_with fail
      clear qp0 qp1 yp qwant0 qwant1 ywant qx0 qx1 yx
      clear mo0 mo1 mo2 mo3 mo4 myo
      refine (opOk_n HSO.out HOO.out).mono ?_
      rintro e w9 ⟨rfl, hb⟩
      replace Pp := Lib.hid (Pp.out.bel hb)
      replace Oo := Lib.hid (Oo.out.bel hb)
      replace Pwant := Lib.hid (Pwant.out.bel hb)
      replace Px := Lib.hid (Px.out.bel hb)
      replace KW := Lib.hid (KW.out.tr hb)
      clear hb
      have qp0 := Pp.out.c0
      have qp1 := Pp.out.c1
      have yp := Pp.out.lt
      have qwant0 := Pwant.out.c0
      have qwant1 := Pwant.out.c1
      have ywant := Pwant.out.lt
      have qx0 := Px.out.c0
      have qx1 := Px.out.c1
      have yx := Px.out.lt
      have mo0 := Oo.out.m0
      have mo1 := Oo.out.m1
      have mo2 := Oo.out.m2
      have mo3 := Oo.out.m3
      have mo4 := Oo.out.m4
      have myo := Oo.out.lt
      go_wp2_with fail
      clear qp0 qp1 yp qwant0 qwant1 ywant qx0 qx1 yx
      clear mo0 mo1 mo2 mo3 mo4 myo
      have ZP := Pp
      have ZX := Px
      have ZW := KW
      have hnew : Blk (w9.alloc (.cells #[.slice Ap p.slots.length cp, .slice Bp p.vols.length dp] 30)) w9.heap.size #[.slice Ap p.slots.length cp, .slice Bp p.vols.length dp] 30 := Blk.new _ _ _
      have hb : Bel w9 (w9.alloc (.cells #[.slice Ap p.slots.length cp, .slice Bp p.vols.length dp] 30)) := bel_alloc (Below.refl _ _) _
      generalize w9.alloc (.cells #[.slice Ap p.slots.length cp, .slice Bp p.vols.length dp] 30) = W10 at hnew hb ⊢
      replace Pp := Lib.hid (Pp.out.bel hb)
      replace Oo := Lib.hid (Oo.out.bel hb)
      replace Pwant := Lib.hid (Pwant.out.bel hb)
      replace Px := Lib.hid (Px.out.bel hb)
      replace KW := Lib.hid (KW.out.tr hb)
      have HBZ := Lib.hid hb
      have hle : w9.heap.size ≤ w9.heap.size := Nat.le_refl _
      obtain ⟨bky, hbn⟩ : ∃ b, w9.heap.size = b := ⟨_, rfl⟩
      have HLE := Lib.hid (show w9.heap.size ≤ bky by omega)
      rw [hbn] at hnew ⊢
      have KY := Lib.hid hnew
      clear hnew hb hbn hle
      refine (implPoolWrite_c (name := nm) (blk := n') (text := tx) Pp.out.inn HSp.out HSO.out.text).mono ?_
      rintro e w11 ⟨v0, v1, bvs, rfl, ho, hb⟩
      rw [HQ.out.1] at ho
      rw [HQ.out.2]
      replace KY := Lib.hid (KY.out.bel hb)
      replace HBZ := Lib.hid (HBZ.out.tr hb)
      replace Pp := Lib.hid (Pp.out.bel hb)
      replace Oo := Lib.hid (Oo.out.bel hb)
      replace Pwant := Lib.hid (Pwant.out.bel hb)
      replace Px := Lib.hid (Px.out.bel hb)
      replace KW := Lib.hid (KW.out.tr hb)
      obtain ⟨Ay, By, cy, dy, rfl, rfl, hpi⟩ := ho.reads
      clear hpi hb
      have HO := Lib.hid ho
      clear ho
      have qp0 := Pp.out.c0
      have qp1 := Pp.out.c1
      have yp := Pp.out.lt
      have qwant0 := Pwant.out.c0
      have qwant1 := Pwant.out.c1
      have ywant := Pwant.out.lt
      have qx0 := Px.out.c0
      have qx1 := Px.out.c1
      have yx := Px.out.lt
      have mo0 := Oo.out.m0
      have mo1 := Oo.out.m1
      have mo2 := Oo.out.m2
      have mo3 := Oo.out.m3
      have mo4 := Oo.out.m4
      have myo := Oo.out.lt
      have qy0 := KY.out.cell 0
      have qy1 := KY.out.cell 1
      have yy := KY.out.lt
      have fy0 := KY.out.free 0
      have fy1 := KY.out.free 1
      simp at qy0 qy1
      have hxl := ZX.out.lt
      have hxy : ¬ bkx = bky := by have := HLE.out; omega
      have hyx : ¬ bky = bkx := fun e => hxy e.symm
      clear hxl
      go_wp2_with fail
      clear qp0 qp1 yp qwant0 qwant1 ywant qx0 qx1 yx
      clear mo0 mo1 mo2 mo3 mo4 myo
      clear qy0 qy1 yy fy0 fy1 hxy hyx
      have hx1 := KY.out.set 0 (.slice Ay q.slots.length cy) (cs' := #[.slice Ay q.slots.length cy, .slice Bp p.vols.length dp]) rfl
      have hx2 := hx1.set 1 (.slice By q.vols.length dy) (cs' := #[.slice Ay q.slots.length cy, .slice By q.vols.length dy]) rfl
      have ho2 := (HO.out.far KY.out (by decide) (by decide) (by decide) 0 (.slice Ay q.slots.length cy)).far hx1 (by decide) (by decide) (by decide) 1 (.slice By q.vols.length dy)
      have hb5 := bel_set (bel_set HBZ.out HLE.out 0 (.slice Ay q.slots.length cy)) HLE.out 1 (.slice By q.vols.length dy)
      generalize (w11.setCell ⟨bky, 0, none⟩ (.slice Ay q.slots.length cy)).setCell ⟨bky, 1, none⟩ (.slice By q.vols.length dy) = W12 at hx2 ho2 hb5 ⊢
      obtain ⟨a0, a1, k0, k1, e0, e1, hpi⟩ := ho2.reads
      have e0 := slice_eq e0
      have e1 := slice_eq e1
      obtain ⟨rfl, -, rfl⟩ := e0
      obtain ⟨rfl, -, rfl⟩ := e1
      have Px := Lib.hid (ZX.out.bel hb5)
      have KW := Lib.hid (ZW.out.tr hb5)
      have Py : Hid (PVar W12 bky Ay By cy dy q) := ⟨hx2, hpi⟩
      clear hx1 hx2 ho2 hb5 hpi
      refine (lgPool_c Px.out.inn Py.out.inn HSq.out).mono ?_
      rintro e w13 ⟨rfl, hb⟩
      replace Px := Lib.hid (Px.out.bel hb)
      replace Py := Lib.hid (Py.out.bel hb)
      replace KW := Lib.hid (KW.out.tr hb)
      clear hb
      have qx0 := Px.out.c0
      have qx1 := Px.out.c1
      have yx := Px.out.lt
      have qy0 := Py.out.c0
      have qy1 := Py.out.c1
      have yy := Py.out.lt
      go_wp2_with fail
      clear qx0 qx1 yx qy0 qy1 yy
      refine (implOk_n Px.out.inn HSq.out HOKq.out).mono ?_
      rintro e w14 ⟨rfl, hb⟩
      replace Px := Lib.hid (Px.out.bel hb)
      replace Py := Lib.hid (Py.out.bel hb)
      replace KW := Lib.hid (KW.out.tr hb)
      clear hb
      have qx0 := Px.out.c0
      have qx1 := Px.out.c1
      have yx := Px.out.lt
      have qy0 := Py.out.c0
      have qy1 := Py.out.c1
      have yy := Py.out.lt
      go_wp2
      go_ret
      exact ⟨rfl, KW.out⟩
    · skip
      go_wp2_with fail
      have hP := (PVar.new Ip.out).bel (bel_alloc (Below.refl _ _) (.cells #[.int .i64 2, .string nm, .string ds, .int .i64 n', .string tx] 74))
      have hO : OVar ((w1.alloc (.cells #[.slice Ap p.slots.length cp, .slice Bp p.vols.length dp] 30)).alloc (.cells #[.int .i64 2, .string nm, .string ds, .int .i64 n', .string tx] 74)) (w1.heap.size + 1) 2 nm ds n' tx := ⟨Blk.nw2 _ _ _ _⟩
      have hb : Bel w1 ((w1.alloc (.cells #[.slice Ap p.slots.length cp, .slice Bp p.vols.length dp] 30)).alloc (.cells #[.int .i64 2, .string nm, .string ds, .int .i64 n', .string tx] 74)) := bel_alloc (bel_alloc (Below.refl _ _) _) _
      generalize ((w1.alloc (.cells #[.slice Ap p.slots.length cp, .slice Bp p.vols.length dp] 30)).alloc (.cells #[.int .i64 2, .string nm, .string ds, .int .i64 n', .string tx] 74)) = W2 at hP hO hb ⊢
      replace Ip := Lib.hid (Ip.out.bel hb)
      replace KW := Lib.hid (KW.out.tr hb)
      obtain ⟨bkp, hbn⟩ : ∃ b, w1.heap.size = b := ⟨_, rfl⟩
      rw [hbn] at hP hO ⊢
      obtain ⟨bko, hbo⟩ : ∃ b, bkp + 1 = b := ⟨_, rfl⟩
      rw [hbo] at hO ⊢
      have Pp := Lib.hid hP
      have Oo := Lib.hid hO
      clear hP hO hb hbn hbo Ip
      refine (specOp_n Pp.out.inn HSp.out HSO.out HE.out).mono ?_
      rintro e w3 ⟨Awant, Bwant, cwant, dwant, rfl, hin, hb⟩
      replace Pp := Lib.hid (Pp.out.bel hb)
      replace Oo := Lib.hid (Oo.out.bel hb)
      replace KW := Lib.hid (KW.out.tr hb)
      have Iwant := Lib.hid hin
      clear hin hb
      have qp0 := Pp.out.c0
      have qp1 := Pp.out.c1
      have yp := Pp.out.lt
      have mo0 := Oo.out.m0
      have mo1 := Oo.out.m1
      have mo2 := Oo.out.m2
      have mo3 := Oo.out.m3
      have mo4 := Oo.out.m4
      have myo := Oo.out.lt
      go_wp2_with fail
      clear qp0 qp1 yp
      clear mo0 mo1 mo2 mo3 mo4 myo
      have hnew := PVar.new Iwant.out
      have hb : Bel w3 (w3.alloc (.cells #[.slice Awant q.slots.length cwant, .slice Bwant q.vols.length dwant] 30)) := bel_alloc (Below.refl _ _) _
      generalize w3.alloc (.cells #[.slice Awant q.slots.length cwant, .slice Bwant q.vols.length dwant] 30) = W4 at hnew hb ⊢
      replace Pp := Lib.hid (Pp.out.bel hb)
      replace Oo := Lib.hid (Oo.out.bel hb)
      replace Iwant := Lib.hid (Iwant.out.bel hb)
      replace KW := Lib.hid (KW.out.tr hb)
      obtain ⟨bkwant, hbn⟩ : ∃ b, w3.heap.size = b := ⟨_, rfl⟩
      rw [hbn] at hnew ⊢
      have Pwant := Lib.hid hnew
      clear hnew hb hbn Iwant
      refine (implOp_n Pp.out.inn HSp.out HSO.out HE.out).mono ?_
      rintro e w5 ⟨Ax, Bx, cx, dx, rfl, hin, hb⟩
      replace Pp := Lib.hid (Pp.out.bel hb)
      replace Oo := Lib.hid (Oo.out.bel hb)
      replace Pwant := Lib.hid (Pwant.out.bel hb)
      replace KW := Lib.hid (KW.out.tr hb)
      have Ix := Lib.hid hin
      clear hin hb
      have qp0 := Pp.out.c0
      have qp1 := Pp.out.c1
      have yp := Pp.out.lt
      have qwant0 := Pwant.out.c0
      have qwant1 := Pwant.out.c1
      have ywant := Pwant.out.lt
      have mo0 := Oo.out.m0
      have mo1 := Oo.out.m1
      have mo2 := Oo.out.m2
      have mo3 := Oo.out.m3
      have mo4 := Oo.out.m4
      have myo := Oo.out.lt
      go_wp2_with fail
      clear qp0 qp1 yp qwant0 qwant1 ywant
      clear mo0 mo1 mo2 mo3 mo4 myo
      have hnew := PVar.new Ix.out
      have hb : Bel w5 (w5.alloc (.cells #[.slice Ax q.slots.length cx, .slice Bx q.vols.length dx] 30)) := bel_alloc (Below.refl _ _) _
      generalize w5.alloc (.cells #[.slice Ax q.slots.length cx, .slice Bx q.vols.length dx] 30) = W6 at hnew hb ⊢
      replace Pp := Lib.hid (Pp.out.bel hb)
      replace Oo := Lib.hid (Oo.out.bel hb)
      replace Pwant := Lib.hid (Pwant.out.bel hb)
      replace Ix := Lib.hid (Ix.out.bel hb)
      replace KW := Lib.hid (KW.out.tr hb)
      obtain ⟨bkx, hbn⟩ : ∃ b, w5.heap.size = b := ⟨_, rfl⟩
      rw [hbn] at hnew ⊢
      have Px := Lib.hid hnew
      clear hnew hb hbn Ix
      refine (lgPool_c Px.out.inn Pwant.out.inn HSq.out).mono ?_
      rintro e w7 ⟨rfl, hb⟩
      replace Pp := Lib.hid (Pp.out.bel hb)
      replace Oo := Lib.hid (Oo.out.bel hb)
      replace Pwant := Lib.hid (Pwant.out.bel hb)
      replace Px := Lib.hid (Px.out.bel hb)
      replace KW := Lib.hid (KW.out.tr hb)
      clear hb
      have qp0 := Pp.out.c0
      have qp1 := Pp.out.c1
      have yp := Pp.out.lt
      have qwant0 := Pwant.out.c0
      have qwant1 := Pwant.out.c1
      have ywant := Pwant.out.lt
      have qx0 := Px.out.c0
      have qx1 := Px.out.c1
      have yx := Px.out.lt
      have mo0 := Oo.out.m0
      have mo1 := Oo.out.m1
      have mo2 := Oo.out.m2
      have mo3 := Oo.out.m3
      have mo4 := Oo.out.m4
      have myo := Oo.out.lt
      go_wp2_with fail
      clear qp0 qp1 yp qwant0 qwant1 ywant qx0 qx1 yx
      clear mo0 mo1 mo2 mo3 mo4 myo
      refine (specOk_n Pp.out.inn HSp.out HPK.out).mono ?_
      rintro e w8 ⟨rfl, hb⟩
      replace Pp := Lib.hid (Pp.out.bel hb)
      replace Oo := Lib.hid (Oo.out.bel hb)
      replace Pwant := Lib.hid (Pwant.out.bel hb)
      replace Px := Lib.hid (Px.out.bel hb)
      replace KW := Lib.hid (KW.out.tr hb)
      clear hb
      have qp0 := Pp.out.c0
      have qp1 := Pp.out.c1
      have yp := Pp.out.lt
      have qwant0 := Pwant.out.c0
      have qwant1 := Pwant.out.c1
      have ywant := Pwant.out.lt
      have qx0 := Px.out.c0
      have qx1 := Px.out.c1
      have yx := Px.out.lt
      have mo0 := Oo.out.m0
      have mo1 := Oo.out.m1
      have mo2 := Oo.out.m2
      have mo3 := Oo.out.m3
      have mo4 := Oo.out.m4
      have myo := Oo.out.lt
      go_wp2_with fail
      clear qp0 qp1 yp qwant0 qwant1 ywant qx0 qx1 yx
      clear mo0 mo1 mo2 mo3 mo4 myo
      refine (opOk_n HSO.out HOO.out).mono ?_
      rintro e w9 ⟨rfl, hb⟩
      replace Pp := Lib.hid (Pp.out.bel hb)
      replace Oo := Lib.hid (Oo.out.bel hb)
      replace Pwant := Lib.hid (Pwant.out.bel hb)
      replace Px := Lib.hid (Px.out.bel hb)
      replace KW := Lib.hid (KW.out.tr hb)
      clear hb
      have qp0 := Pp.out.c0
      have qp1 := Pp.out.c1
      have yp := Pp.out.lt
      have qwant0 := Pwant.out.c0
      have qwant1 := Pwant.out.c1
      have ywant := Pwant.out.lt
      have qx0 := Px.out.c0
      have qx1 := Px.out.c1
      have yx := Px.out.lt
      have mo0 := Oo.out.m0
      have mo1 := Oo.out.m1
      have mo2 := Oo.out.m2
      have mo3 := Oo.out.m3
      have mo4 := Oo.out.m4
      have myo := Oo.out.lt
      go_wp2_with fail
      clear qp0 qp1 yp qwant0 qwant1 ywant qx0 qx1 yx
      clear mo0 mo1 mo2 mo3 mo4 myo
      have ZP := Pp
      have ZX := Px
      have ZW := KW
      have hnew : Blk (w9.alloc (.cells #[.slice Ap p.slots.length cp, .slice Bp p.vols.length dp] 30)) w9.heap.size #[.slice Ap p.slots.length cp, .slice Bp p.vols.length dp] 30 := Blk.new _ _ _
      have hb : Bel w9 (w9.alloc (.cells #[.slice Ap p.slots.length cp, .slice Bp p.vols.length dp] 30)) := bel_alloc (Below.refl _ _) _
      generalize w9.alloc (.cells #[.slice Ap p.slots.length cp, .slice Bp p.vols.length dp] 30) = W10 at hnew hb ⊢
      replace Pp := Lib.hid (Pp.out.bel hb)
      replace Oo := Lib.hid (Oo.out.bel hb)
      replace Pwant := Lib.hid (Pwant.out.bel hb)
      replace Px := Lib.hid (Px.out.bel hb)
      replace KW := Lib.hid (KW.out.tr hb)
      have HBZ := Lib.hid hb
      have hle : w9.heap.size ≤ w9.heap.size := Nat.le_refl _
      obtain ⟨bky, hbn⟩ : ∃ b, w9.heap.size = b := ⟨_, rfl⟩
      have HLE := Lib.hid (show w9.heap.size ≤ bky by omega)
      rw [hbn] at hnew ⊢
      have KY := Lib.hid hnew
      clear hnew hb hbn hle
      refine (implPoolWrite_c (name := nm) (blk := n') (text := tx) Pp.out.inn HSp.out HSO.out.text).mono ?_
      rintro e w11 ⟨v0, v1, bvs, rfl, ho, hb⟩
      rw [HQ.out.1] at ho
      rw [HQ.out.2]
      replace KY := Lib.hid (KY.out.bel hb)
      replace HBZ := Lib.hid (HBZ.out.tr hb)
      replace Pp := Lib.hid (Pp.out.bel hb)
      replace Oo := Lib.hid (Oo.out.bel hb)
      replace Pwant := Lib.hid (Pwant.out.bel hb)
      replace Px := Lib.hid (Px.out.bel hb)
      replace KW := Lib.hid (KW.out.tr hb)
      obtain ⟨Ay, By, cy, dy, rfl, rfl, hpi⟩ := ho.reads
      clear hpi hb
      have HO := Lib.hid ho
      clear ho
      have qp0 := Pp.out.c0
      have qp1 := Pp.out.c1
      have yp := Pp.out.lt
      have qwant0 := Pwant.out.c0
      have qwant1 := Pwant.out.c1
      have ywant := Pwant.out.lt
      have qx0 := Px.out.c0
      have qx1 := Px.out.c1
      have yx := Px.out.lt
      have mo0 := Oo.out.m0
      have mo1 := Oo.out.m1
      have mo2 := Oo.out.m2
      have mo3 := Oo.out.m3
      have mo4 := Oo.out.m4
      have myo := Oo.out.lt
      have qy0 := KY.out.cell 0
      have qy1 := KY.out.cell 1
      have yy := KY.out.lt
      have fy0 := KY.out.free 0
      have fy1 := KY.out.free 1
      simp at qy0 qy1
      have hxl := ZX.out.lt
      have hxy : ¬ bkx = bky := by have := HLE.out; omega
      have hyx : ¬ bky = bkx := fun e => hxy e.symm
      clear hxl
      go_wp2_with fail
      clear qp0 qp1 yp qwant0 qwant1 ywant qx0 qx1 yx
      clear mo0 mo1 mo2 mo3 mo4 myo
      clear qy0 qy1 yy fy0 fy1 hxy hyx
      have hx1 := KY.out.set 0 (.slice Ay q.slots.length cy) (cs' := #[.slice Ay q.slots.length cy, .slice Bp p.vols.length dp]) rfl
      have hx2 := hx1.set 1 (.slice By q.vols.length dy) (cs' := #[.slice Ay q.slots.length cy, .slice By q.vols.length dy]) rfl
      have ho2 := (HO.out.far KY.out (by decide) (by decide) (by decide) 0 (.slice Ay q.slots.length cy)).far hx1 (by decide) (by decide) (by decide) 1 (.slice By q.vols.length dy)
      have hb5 := bel_set (bel_set HBZ.out HLE.out 0 (.slice Ay q.slots.length cy)) HLE.out 1 (.slice By q.vols.length dy)
      generalize (w11.setCell ⟨bky, 0, none⟩ (.slice Ay q.slots.length cy)).setCell ⟨bky, 1, none⟩ (.slice By q.vols.length dy) = W12 at hx2 ho2 hb5 ⊢
      obtain ⟨a0, a1, k0, k1, e0, e1, hpi⟩ := ho2.reads
      have e0 := slice_eq e0
      have e1 := slice_eq e1
      obtain ⟨rfl, -, rfl⟩ := e0
      obtain ⟨rfl, -, rfl⟩ := e1
      have Px := Lib.hid (ZX.out.bel hb5)
      have KW := Lib.hid (ZW.out.tr hb5)
      have Py : Hid (PVar W12 bky Ay By cy dy q) := ⟨hx2, hpi⟩
      clear hx1 hx2 ho2 hb5 hpi
      refine (lgPool_c Px.out.inn Py.out.inn HSq.out).mono ?_
      rintro e w13 ⟨rfl, hb⟩
      replace Px := Lib.hid (Px.out.bel hb)
      replace Py := Lib.hid (Py.out.bel hb)
      replace KW := Lib.hid (KW.out.tr hb)
      clear hb
      have qx0 := Px.out.c0
      have qx1 := Px.out.c1
      have yx := Px.out.lt
      have qy0 := Py.out.c0
      have qy1 := Py.out.c1
      have yy := Py.out.lt
      go_wp2_with fail
      clear qx0 qx1 yx qy0 qy1 yy
      refine (implOk_n Px.out.inn HSq.out HOKq.out).mono ?_
      rintro e w14 ⟨rfl, hb⟩
      replace Px := Lib.hid (Px.out.bel hb)
      replace Py := Lib.hid (Py.out.bel hb)
      replace KW := Lib.hid (KW.out.tr hb)
      clear hb
      have qx0 := Px.out.c0
      have qx1 := Px.out.c1
      have yx := Px.out.lt
      have qy0 := Py.out.c0
      have qy1 := Py.out.c1
      have yy := Py.out.lt
      go_wp2
      go_ret
      exact ⟨rfl, KW.out⟩
  · simp only at hk
    subst hk
    clear hoo
    have EF : opF p ⟨3, nm, ds, n', tx⟩ = cloneF p nm ds := rfl
    have E1 := EO.out.1
    have E2 := EO.out.2
    rw [EF] at E1 E2
    obtain ⟨q, hq⟩ : ∃ q, chP p (cloneF p nm ds) = q := ⟨_, rfl⟩
    obtain ⟨ok, hok2⟩ : ∃ ok, chB p (cloneF p nm ds) = ok := ⟨_, rfl⟩
    have hqv : PoolP q := by rw [← hq, ← EF]; unfold chP; rw [if_pos HOK.out]; exact opF_getD HV.out
    have HQ := Lib.hid (And.intro hq hok2)
    have HE := Lib.hid (And.intro (E1.trans hq) (E2.trans hok2))
    have HSq := Lib.hid hqv.small
    have HOKq := Lib.hid (poolOk_iff.2 hqv)
    clear EF E1 E2 hq hok2 hqv
    cases ok
    · skip
      go_wp2_with fail
      have hP := (PVar.new Ip.out).bel (bel_alloc (Below.refl _ _) (.cells #[.int .i64 3, .string nm, .string ds, .int .i64 n', .string tx] 74))
      have hO : OVar ((w1.alloc (.cells #[.slice Ap p.slots.length cp, .slice Bp p.vols.length dp] 30)).alloc (.cells #[.int .i64 3, .string nm, .string ds, .int .i64 n', .string tx] 74)) (w1.heap.size + 1) 3 nm ds n' tx := ⟨Blk.nw2 _ _ _ _⟩
      have hb : Bel w1 ((w1.alloc (.cells #[.slice Ap p.slots.length cp, .slice Bp p.vols.length dp] 30)).alloc (.cells #[.int .i64 3, .string nm, .string ds, .int .i64 n', .string tx] 74)) := bel_alloc (bel_alloc (Below.refl _ _) _) _
      generalize ((w1.alloc (.cells #[.slice Ap p.slots.length cp, .slice Bp p.vols.length dp] 30)).alloc (.cells #[.int .i64 3, .string nm, .string ds, .int .i64 n', .string tx] 74)) = W2 at hP hO hb ⊢
      replace Ip := Lib.hid (Ip.out.bel hb)
      replace KW := Lib.hid (KW.out.tr hb)
      obtain ⟨bkp, hbn⟩ : ∃ b, w1.heap.size = b := ⟨_, rfl⟩
      rw [hbn] at hP hO ⊢
      obtain ⟨bko, hbo⟩ : ∃ b, bkp + 1 = b := ⟨_, rfl⟩
      rw [hbo] at hO ⊢
      have Pp := Lib.hid hP
      have Oo := Lib.hid hO
      clear hP hO hb hbn hbo Ip
      refine (specOp_n Pp.out.inn HSp.out HSO.out HE.out).mono ?_
      rintro e w3 ⟨Awant, Bwant, cwant, dwant, rfl, hin, hb⟩
      replace Pp := Lib.hid (Pp.out.bel hb)
      replace Oo := Lib.hid (Oo.out.bel hb)
      replace KW := Lib.hid (KW.out.tr hb)
      have Iwant := Lib.hid hin
      clear hin hb
      have qp0 := Pp.out.c0
      have qp1 := Pp.out.c1
      have yp := Pp.out.lt
      have mo0 := Oo.out.m0
      have mo1 := Oo.out.m1
      have mo2 := Oo.out.m2
      have mo3 := Oo.out.m3
      have mo4 := Oo.out.m4
      have myo := Oo.out.lt
      go_wp2_with fail
      clear qp0 qp1 yp
      clear mo0 mo1 mo2 mo3 mo4 myo
      have hnew := PVar.new Iwant.out
      have hb : Bel w3 (w3.alloc (.cells #[.slice Awant q.slots.length cwant, .slice Bwant q.vols.length dwant] 30)) := bel_alloc (Below.refl _ _) _
      generalize w3.alloc (.cells #[.slice Awant q.slots.length cwant, .slice Bwant q.vols.length dwant] 30) = W4 at hnew hb ⊢
      replace Pp := Lib.hid (Pp.out.bel hb)
      replace Oo := Lib.hid (Oo.out.bel hb)
      replace Iwant := Lib.hid (Iwant.out.bel hb)
      replace KW := Lib.hid (KW.out.tr hb)
      obtain ⟨bkwant, hbn⟩ : ∃ b, w3.heap.size = b := ⟨_, rfl⟩
      rw [hbn] at hnew ⊢
      have Pwant := Lib.hid hnew
      clear hnew hb hbn Iwant
      refine (implOp_n Pp.out.inn HSp.out HSO.out HE.out).mono ?_
      rintro e w5 ⟨Ax, Bx, cx, dx, rfl, hin, hb⟩
      replace Pp := Lib.hid (Pp.out.bel hb)
      replace Oo := Lib.hid (Oo.out.bel hb)
      replace Pwant := Lib.hid (Pwant.out.bel hb)
      replace KW := Lib.hid (KW.out.tr hb)
      have Ix := Lib.hid hin
      clear hin hb
      have qp0 := Pp.out.c0
      have qp1 := Pp.out.c1
      have yp := Pp.out.lt
      have qwant0 := Pwant.out.c0
      have qwant1 := Pwant.out.c1
      have ywant := Pwant.out.lt
      have mo0 := Oo.out.m0
      have mo1 := Oo.out.m1
      have mo2 := Oo.out.m2
      have mo3 := Oo.out.m3
      have mo4 := Oo.out.m4
      have myo := Oo.out.lt
      go_wp2_with fail
      clear qp0 qp1 yp qwant0 qwant1 ywant
      clear mo0 mo1 mo2 mo3 mo4 myo
      have hnew := PVar.new Ix.out
      have hb : Bel w5 (w5.alloc (.cells #[.slice Ax q.slots.length cx, .slice Bx q.vols.length dx] 30)) := bel_alloc (Below.refl _ _) _
      generalize w5.alloc (.cells #[.slice Ax q.slots.length cx, .slice Bx q.vols.length dx] 30) = W6 at hnew hb ⊢
      replace Pp := Lib.hid (Pp.out.bel hb)
      replace Oo := Lib.hid (Oo.out.bel hb)
      replace Pwant := Lib.hid (Pwant.out.bel hb)
      replace Ix := Lib.hid (Ix.out.bel hb)
      replace KW := Lib.hid (KW.out.tr hb)
      obtain ⟨bkx, hbn⟩ : ∃ b, w5.heap.size = b := ⟨_, rfl⟩
      rw [hbn] at hnew ⊢
      have Px := Lib.hid hnew
      clear hnew hb hbn Ix
      refine (lgPool_c Px.out.inn Pwant.out.inn HSq.out).mono ?_
      rintro e w7 ⟨rfl, hb⟩
      replace Pp := Lib.hid (Pp.out.bel hb)
      replace Oo := Lib.hid (Oo.out.bel hb)
      replace Pwant := Lib.hid (Pwant.out.bel hb)
      replace Px := Lib.hid (Px.out.bel hb)
      replace KW := Lib.hid (KW.out.tr hb)
      clear hb
      have qp0 := Pp.out.c0
      have qp1 := Pp.out.c1
      have yp := Pp.out.lt
      have qwant0 := Pwant.out.c0
      have qwant1 := Pwant.out.c1
      have ywant := Pwant.out.lt
      have qx0 := Px.out.c0
      have qx1 := Px.out.c1
      have yx := Px.out.lt
      have mo0 := Oo.out.m0
      have mo1 := Oo.out.m1
      have mo2 := Oo.out.m2
      have mo3 := Oo.out.m3
      have mo4 := Oo.out.m4
      have myo := Oo.out.lt
      go_wp2_with fail
      clear qp0 qp1 yp qwant0 qwant1 ywant qx0 qx1 yx
      clear mo0 mo1 mo2 mo3 mo4 myo
      refine (specOk_n Pp.out.inn HSp.out HPK.out).mono ?_
      rintro e w8 ⟨rfl, hb⟩
      replace Pp := Lib.hid (Pp.out.bel hb)
      replace Oo := Lib.hid (Oo.out.bel hb)
      replace Pwant := Lib.hid (Pwant.out.bel hb)
      replace Px := Lib.hid (Px.out.bel hb)
      replace KW := Lib.hid (KW.out.tr hb)
      clear hb
      have qp0 := Pp.out.c0
      have qp1 := Pp.out.c1
      have yp := Pp.out.lt
      have qwant0 := Pwant.out.c0
      have qwant1 := Pwant.out.c1
      have ywant := Pwant.out.lt
      have qx0 := Px.out.c0
      have qx1 := Px.out.c1
      have yx := Px.out.lt
      have mo0 := Oo.out.m0
      have mo1 := Oo.out.m1
      have mo2 := Oo.out.m2
      have mo3 := Oo.out.m3
      have mo4 := Oo.out.m4
      have myo := Oo.out.lt
      go_wp2_with fail
      clear qp0 qp1 yp qwant0 qwant1 ywant qx0 qx1 yx
      clear mo0 mo1 mo2 mo3 mo4 myo
      refine (opOk_n HSO.out HOO.out).mono ?_
      rintro e w9 ⟨rfl, hb⟩
      replace Pp := Lib.hid (Pp.out.bel hb)
      replace Oo := Lib.hid (Oo.out.bel hb)
      replace Pwant := Lib.hid (Pwant.out.bel hb)
      replace Px := Lib.hid (Px.out.bel hb)
      replace KW := Lib.hid (KW.out.tr hb)
      clear hb
      have qp0 := Pp.out.c0
      have qp1 := Pp.out.c1
      have yp := Pp.out.lt
      have qwant0 := Pwant.out.c0
      have qwant1 := Pwant.out.c1
      have ywant := Pwant.out.lt
      have qx0 := Px.out.c0
      have qx1 := Px.out.c1
      have yx := Px.out.lt
      have mo0 := Oo.out.m0
      have mo1 := Oo.out.m1
      have mo2 := Oo.out.m2
      have mo3 := Oo.out.m3
      have mo4 := Oo.out.m4
      have myo := Oo.out.lt
      go_wp2_with fail
      clear qp0 qp1 yp qwant0 qwant1 ywant qx0 qx1 yx
      clear mo0 mo1 mo2 mo3 mo4 myo
      have ZP := Pp
      have ZX := Px
      have ZW := KW
      have hnew : Blk (w9.alloc (.cells #[.slice Ap p.slots.length cp, .slice Bp p.vols.length dp] 30)) w9.heap.size #[.slice Ap p.slots.length cp, .slice Bp p.vols.length dp] 30 := Blk.new _ _ _
      have hb : Bel w9 (w9.alloc (.cells #[.slice Ap p.slots.length cp, .slice Bp p.vols.length dp] 30)) := bel_alloc (Below.refl _ _) _
      generalize w9.alloc (.cells #[.slice Ap p.slots.length cp, .slice Bp p.vols.length dp] 30) = W10 at hnew hb ⊢
      replace Pp := Lib.hid (Pp.out.bel hb)
      replace Oo := Lib.hid (Oo.out.bel hb)
      replace Pwant := Lib.hid (Pwant.out.bel hb)
      replace Px := Lib.hid (Px.out.bel hb)
      replace KW := Lib.hid (KW.out.tr hb)
      have HBZ := Lib.hid hb
      have hle : w9.heap.size ≤ w9.heap.size := Nat.le_refl _
      obtain ⟨bky, hbn⟩ : ∃ b, w9.heap.size = b := ⟨_, rfl⟩
      have HLE := Lib.hid (show w9.heap.size ≤ bky by omega)
      rw [hbn] at hnew ⊢
      have KY := Lib.hid hnew
      clear hnew hb hbn hle
      refine (implPoolClone_c (fr := nm) (dst := ds) Pp.out.inn HSp.out HSO.out.dest).mono ?_
      rintro e w11 ⟨v0, v1, bvs, rfl, ho, hb⟩
      rw [HQ.out.1] at ho
      rw [HQ.out.2]
      replace KY := Lib.hid (KY.out.bel hb)
      replace HBZ := Lib.hid (HBZ.out.tr hb)
      replace Pp := Lib.hid (Pp.out.bel hb)
      replace Oo := Lib.hid (Oo.out.bel hb)
      replace Pwant := Lib.hid (Pwant.out.bel hb)
      replace Px := Lib.hid (Px.out.bel hb)
      replace KW := Lib.hid (KW.out.tr hb)
      obtain ⟨Ay, By, cy, dy, rfl, rfl, hpi⟩ := ho.reads
      clear hpi hb
      have HO := Lib.hid ho
      clear ho
      have qp0 := Pp.out.c0
      have qp1 := Pp.out.c1
      have yp := Pp.out.lt
      have qwant0 := Pwant.out.c0
      have qwant1 := Pwant.out.c1
      have ywant := Pwant.out.lt
      have qx0 := Px.out.c0
      have qx1 := Px.out.c1
      have yx := Px.out.lt
      have mo0 := Oo.out.m0
      have mo1 := Oo.out.m1
      have mo2 := Oo.out.m2
      have mo3 := Oo.out.m3
      have mo4 := Oo.out.m4
      have myo := Oo.out.lt
      have qy0 := KY.out.cell 0
      have qy1 := KY.out.cell 1
      have yy := KY.out.lt
      have fy0 := KY.out.free 0
      have fy1 := KY.out.free 1
      simp at qy0 qy1
      have hxl := ZX.out.lt
      have hxy : ¬ bkx = bky := by have := HLE.out; omega
      have hyx : ¬ bky = bkx := fun e => hxy e.symm
      clear hxl
      go_wp2_with fail
      clear qp0 qp1 yp qwant0 qwant1 ywant qx0 qx1 yx
      clear mo0 mo1 mo2 mo3 mo4 myo
      clear qy0 qy1 yy fy0 fy1 hxy hyx
      have hx1 := KY.out.set 0 (.slice Ay q.slots.length cy) (cs' := #[.slice Ay q.slots.length cy, .slice Bp p.vols.length dp]) rfl
      have hx2 := hx1.set 1 (.slice By q.vols.length dy) (cs' := #[.slice Ay q.slots.length cy, .slice By q.vols.length dy]) rfl
      have ho2 := (HO.out.far KY.out (by decide) (by decide) (by decide) 0 (.slice Ay q.slots.length cy)).far hx1 (by decide) (by decide) (by decide) 1 (.slice By q.vols.length dy)
      have hb5 := bel_set (bel_set HBZ.out HLE.out 0 (.slice Ay q.slots.length cy)) HLE.out 1 (.slice By q.vols.length dy)
      generalize (w11.setCell ⟨bky, 0, none⟩ (.slice Ay q.slots.length cy)).setCell ⟨bky, 1, none⟩ (.slice By q.vols.length dy) = W12 at hx2 ho2 hb5 ⊢
      obtain ⟨a0, a1, k0, k1, e0, e1, hpi⟩ := ho2.reads
      have e0 := slice_eq e0
      have e1 := slice_eq e1
      obtain ⟨rfl, -, rfl⟩ := e0
      obtain ⟨rfl, -, rfl⟩ := e1
      have Px := Lib.hid (ZX.out.bel hb5)
      have KW := Lib.hid (ZW.out.tr hb5)
      have Py : Hid (PVar W12 bky Ay By cy dy q) := ⟨hx2, hpi⟩
      clear hx1 hx2 ho2 hb5 hpi
      refine (lgPool_c Px.out.inn Py.out.inn HSq.out).mono ?_
      rintro e w13 ⟨rfl, hb⟩
      replace Px := Lib.hid (Px.out.bel hb)
      replace Py := Lib.hid (Py.out.bel hb)
      replace KW := Lib.hid (KW.out.tr hb)
      clear hb
      have qx0 := Px.out.c0
      have qx1 := Px.out.c1
      have yx := Px.out.lt
      have qy0 := Py.out.c0
      have qy1 := Py.out.c1
      have yy := Py.out.lt
      go_wp2_with fail
      clear qx0 qx1 yx qy0 qy1 yy
      refine (implOk_n Px.out.inn HSq.out HOKq.out).mono ?_
      rintro e w14 ⟨rfl, hb⟩
      replace Px := Lib.hid (Px.out.bel hb)
      replace Py := Lib.hid (Py.out.bel hb)
      replace KW := Lib.hid (KW.out.tr hb)
      clear hb
      have qx0 := Px.out.c0
      have qx1 := Px.out.c1
      have yx := Px.out.lt
      have qy0 := Py.out.c0
      have qy1 := Py.out.c1
      have yy := Py.out.lt
      go_wp2
      go_ret
      exact ⟨rfl, KW.out⟩
    · skip
      go_wp2_with fail
      have hP := (PVar.new Ip.out).bel (bel_alloc (Below.refl _ _) (.cells #[.int .i64 3, .string nm, .string ds, .int .i64 n', .string tx] 74))
      have hO : OVar ((w1.alloc (.cells #[.slice Ap p.slots.length cp, .slice Bp p.vols.length dp] 30)).alloc (.cells #[.int .i64 3, .string nm, .string ds, .int .i64 n', .string tx] 74)) (w1.heap.size + 1) 3 nm ds n' tx := ⟨Blk.nw2 _ _ _ _⟩
      have hb : Bel w1 ((w1.alloc (.cells #[.slice Ap p.slots.length cp, .slice Bp p.vols.length dp] 30)).alloc (.cells #[.int .i64 3, .string nm, .string ds, .int .i64 n', .string tx] 74)) := bel_alloc (bel_alloc (Below.refl _ _) _) _
      generalize ((w1.alloc (.cells #[.slice Ap p.slots.length cp, .slice Bp p.vols.length dp] 30)).alloc (.cells #[.int .i64 3, .string nm, .string ds, .int .i64 n', .string tx] 74)) = W2 at hP hO hb ⊢
      replace Ip := Lib.hid (Ip.out.bel hb)
      replace KW := Lib.hid (KW.out.tr hb)
      obtain ⟨bkp, hbn⟩ : ∃ b, w1.heap.size = b := ⟨_, rfl⟩
      rw [hbn] at hP hO ⊢
      obtain ⟨bko, hbo⟩ : ∃ b, bkp + 1 = b := ⟨_, rfl⟩
      rw [hbo] at hO ⊢
      have Pp := Lib.hid hP
      have Oo := Lib.hid hO
      clear hP hO hb hbn hbo Ip
      refine (specOp_n Pp.out.inn HSp.out HSO.out HE.out).mono ?_
      rintro e w3 ⟨Awant, Bwant, cwant, dwant, rfl, hin, hb⟩
      replace Pp := Lib.hid (Pp.out.bel hb)
      replace Oo := Lib.hid (Oo.out.bel hb)
      replace KW := Lib.hid (KW.out.tr hb)
      have Iwant := Lib.hid hin
      clear hin hb
      have qp0 := Pp.out.c0
      have qp1 := Pp.out.c1
      have yp := Pp.out.lt
      have mo0 := Oo.out.m0
      have mo1 := Oo.out.m1
      have mo2 := Oo.out.m2
      have mo3 := Oo.out.m3
      have mo4 := Oo.out.m4
      have myo := Oo.out.lt
      go_wp2_with fail
      clear qp0 qp1 yp
      clear mo0 mo1 mo2 mo3 mo4 myo
      have hnew := PVar.new Iwant.out
      have hb : Bel w3 (w3.alloc (.cells #[.slice Awant q.slots.length cwant, .slice Bwant q.vols.length dwant] 30)) := bel_alloc (Below.refl _ _) _
      generalize w3.alloc (.cells #[.slice Awant q.slots.length cwant, .slice Bwant q.vols.length dwant] 30) = W4 at hnew hb ⊢
      replace Pp := Lib.hid (Pp.out.bel hb)
      replace Oo := Lib.hid (Oo.out.bel hb)
      replace Iwant := Lib.hid (Iwant.out.bel hb)
      replace KW := Lib.hid (KW.out.tr hb)
      obtain ⟨bkwant, hbn⟩ : ∃ b, w3.heap.size = b := ⟨_, rfl⟩
      rw [hbn] at hnew ⊢
      have Pwant := Lib.hid hnew
      clear hnew hb hbn Iwant
      refine (implOp_n Pp.out.inn HSp.out HSO.out HE.out).mono ?_
      rintro e w5 ⟨Ax, Bx, cx, dx, rfl, hin, hb⟩
      replace Pp := Lib.hid (Pp.out.bel hb)
      replace Oo := Lib.hid (Oo.out.bel hb)
      replace Pwant := Lib.hid (Pwant.out.bel hb)
      replace KW := Lib.hid (KW.out.tr hb)
      have Ix := Lib.hid hin
      clear hin hb
      have qp0 := Pp.out.c0
      have qp1 := Pp.out.c1
      have yp := Pp.out.lt
      have qwant0 := Pwant.out.c0
      have qwant1 := Pwant.out.c1
      have ywant := Pwant.out.lt
      have mo0 := Oo.out.m0
      have mo1 := Oo.out.m1
      have mo2 := Oo.out.m2
      have mo3 := Oo.out.m3
      have mo4 := Oo.out.m4
      have myo := Oo.out.lt
      go_wp2_with fail
      clear qp0 qp1 yp qwant0 qwant1 ywant
      clear mo0 mo1 mo2 mo3 mo4 myo
      have hnew := PVar.new Ix.out
      have hb : Bel w5 (w5.alloc (.cells #[.slice Ax q.slots.length cx, .slice Bx q.vols.length dx] 30)) := bel_alloc (Below.refl _ _) _
      generalize w5.alloc (.cells #[.slice Ax q.slots.length cx, .slice Bx q.vols.length dx] 30) = W6 at hnew hb ⊢
      replace Pp := Lib.hid (Pp.out.bel hb)
      replace Oo := Lib.hid (Oo.out.bel hb)
      replace Pwant := Lib.hid (Pwant.out.bel hb)
      replace Ix := Lib.hid (Ix.out.bel hb)
      replace KW := Lib.hid (KW.out.tr hb)
      obtain ⟨bkx, hbn⟩ : ∃ b, w5.heap.size = b := ⟨_, rfl⟩
      rw [hbn] at hnew ⊢
      have Px := Lib.hid hnew
      clear hnew hb hbn Ix
      refine (lgPool_c Px.out.inn Pwant.out.inn HSq.out).mono ?_
      rintro e w7 ⟨rfl, hb⟩
      replace Pp := Lib.hid (Pp.out.bel hb)
      replace Oo := Lib.hid (Oo.out.bel hb)
      replace Pwant := Lib.hid (Pwant.out.bel hb)
      replace Px := Lib.hid (Px.out.bel hb)
      replace KW := Lib.hid (KW.out.tr hb)
      clear hb
      have qp0 := Pp.out.c0
      have qp1 := Pp.out.c1
      have yp := Pp.out.lt
      have qwant0 := Pwant.out.c0
      have qwant1 := Pwant.out.c1
      have ywant := Pwant.out.lt
      have qx0 := Px.out.c0
      have qx1 := Px.out.c1
      have yx := Px.out.lt
      have mo0 := Oo.out.m0
      have mo1 := Oo.out.m1
      have mo2 := Oo.out.m2
      have mo3 := Oo.out.m3
      have mo4 := Oo.out.m4
      have myo := Oo.out.lt
      go_wp2_with fail
      clear qp0 qp1 yp qwant0 qwant1 ywant qx0 qx1 yx
      clear mo0 mo1 mo2 mo3 mo4 myo
      refine (specOk_n Pp.out.inn HSp.out HPK.out).mono ?_
      rintro e w8 ⟨rfl, hb⟩
      replace Pp := Lib.hid (Pp.out.bel hb)
      replace Oo := Lib.hid (Oo.out.bel hb)
      replace Pwant := Lib.hid (Pwant.out.bel hb)
      replace Px := Lib.hid (Px.out.bel hb)
      replace KW := Lib.hid (KW.out.tr hb)
      clear hb
      have qp0 := Pp.out.c0
      have qp1 := Pp.out.c1
      have yp := Pp.out.lt
      have qwant0 := Pwant.out.c0
      have qwant1 := Pwant.out.c1
      have ywant := Pwant.out.lt
      have qx0 := Px.out.c0
      have qx1 := Px.out.c1
      have yx := Px.out.lt
      have mo0 := Oo.out.m0
      have mo1 := Oo.out.m1
      have mo2 := Oo.out.m2
      have mo3 := Oo.out.m3
      have mo4 := Oo.out.m4
      have myo := Oo.out.lt
      go_wp2_with fail
      clear qp0 qp1 yp qwant0 qwant1 ywant qx0 qx1 yx
      clear mo0 mo1 mo2 mo3 mo4 myo
      refine (opOk_n HSO.out HOO.out).mono ?_
      rintro e w9 ⟨rfl, hb⟩
      replace Pp := Lib.hid (Pp.out.bel hb)
      replace Oo := Lib.hid (Oo.out.bel hb)
      replace Pwant := Lib.hid (Pwant.out.bel hb)
      replace Px := Lib.hid (Px.out.bel hb)
      replace KW := Lib.hid (KW.out.tr hb)
      clear hb
      have qp0 := Pp.out.c0
      have qp1 := Pp.out.c1
      have yp := Pp.out.lt
      have qwant0 := Pwant.out.c0
      have qwant1 := Pwant.out.c1
      have ywant := Pwant.out.lt
      have qx0 := Px.out.c0
      have qx1 := Px.out.c1
      have yx := Px.out.lt
      have mo0 := Oo.out.m0
      have mo1 := Oo.out.m1
      have mo2 := Oo.out.m2
      have mo3 := Oo.out.m3
      have mo4 := Oo.out.m4
      have myo := Oo.out.lt
      go_wp2_with fail
      clear qp0 qp1 yp qwant0 qwant1 ywant qx0 qx1 yx
      clear mo0 mo1 mo2 mo3 mo4 myo
      have ZP := Pp
      have ZX := Px
      have ZW := KW
      have hnew : Blk (w9.alloc (.cells #[.slice Ap p.slots.length cp, .slice Bp p.vols.length dp] 30)) w9.heap.size #[.slice Ap p.slots.length cp, .slice Bp p.vols.length dp] 30 := Blk.new _ _ _
      have hb : Bel w9 (w9.alloc (.cells #[.slice Ap p.slots.length cp, .slice Bp p.vols.length dp] 30)) := bel_alloc (Below.refl _ _) _
      generalize w9.alloc (.cells #[.slice Ap p.slots.length cp, .slice Bp p.vols.length dp] 30) = W10 at hnew hb ⊢
      replace Pp := Lib.hid (Pp.out.bel hb)
      replace Oo := Lib.hid (Oo.out.bel hb)
      replace Pwant := Lib.hid (Pwant.out.bel hb)
      replace Px := Lib.hid (Px.out.bel hb)
      replace KW := Lib.hid (KW.out.tr hb)
      have HBZ := Lib.hid hb
      have hle : w9.heap.size ≤ w9.heap.size := Nat.le_refl _
      obtain ⟨bky, hbn⟩ : ∃ b, w9.heap.size = b := ⟨_, rfl⟩
      have HLE := Lib.hid (show w9.heap.size ≤ bky by omega)
      rw [hbn] at hnew ⊢
      have KY := Lib.hid hnew
      clear hnew hb hbn hle
      refine (implPoolClone_c (fr := nm) (dst := ds) Pp.out.inn HSp.out HSO.out.dest).mono ?_
      rintro e w11 ⟨v0, v1, bvs, rfl, ho, hb⟩
      rw [HQ.out.1] at ho
      rw [HQ.out.2]
      replace KY := Lib.hid (KY.out.bel hb)
      replace HBZ := Lib.hid (HBZ.out.tr hb)
      replace Pp := Lib.hid (Pp.out.bel hb)
      replace Oo := Lib.hid (Oo.out.bel hb)
      replace Pwant := Lib.hid (Pwant.out.bel hb)
      replace Px := Lib.hid (Px.out.bel hb)
      replace KW := Lib.hid (KW.out.tr hb)
      obtain ⟨Ay, By, cy, dy, rfl, rfl, hpi⟩ := ho.reads
      clear hpi hb
      have HO := Lib.hid ho
      clear ho
      have qp0 := Pp.out.c0
      have qp1 := Pp.out.c1
      have yp := Pp.out.lt
      have qwant0 := Pwant.out.c0
      have qwant1 := Pwant.out.c1
      have ywant := Pwant.out.lt
      have qx0 := Px.out.c0
      have qx1 := Px.out.c1
      have yx := Px.out.lt
      have mo0 := Oo.out.m0
      have mo1 := Oo.out.m1
      have mo2 := Oo.out.m2
      have mo3 := Oo.out.m3
      have mo4 := Oo.out.m4
      have myo := Oo.out.lt
      have qy0 := KY.out.cell 0
      have qy1 := KY.out.cell 1
      have yy := KY.out.lt
      have fy0 := KY.out.free 0
      have fy1 := KY.out.free 1
      simp at qy0 qy1
      have hxl := ZX.out.lt
      have hxy : ¬ bkx = bky := by have := HLE.out; omega
      have hyx : ¬ bky = bkx := fun e => hxy e.symm
      clear hxl
      go_wp2_with fail
      clear qp0 qp1 yp qwant0 qwant1 ywant qx0 qx1 yx
      clear mo0 mo1 mo2 mo3 mo4 myo
      clear qy0 qy1 yy fy0 fy1 hxy hyx
      have hx1 := KY.out.set 0 (.slice Ay q.slots.length cy) (cs' := #[.slice Ay q.slots.length cy, .slice Bp p.vols.length dp]) rfl
      have hx2 := hx1.set 1 (.slice By q.vols.length dy) (cs' := #[.slice Ay q.slots.length cy, .slice By q.vols.length dy]) rfl
      have ho2 := (HO.out.far KY.out (by decide) (by decide) (by decide) 0 (.slice Ay q.slots.length cy)).far hx1 (by decide) (by decide) (by decide) 1 (.slice By q.vols.length dy)
      have hb5 := bel_set (bel_set HBZ.out HLE.out 0 (.slice Ay q.slots.length cy)) HLE.out 1 (.slice By q.vols.length dy)
      generalize (w11.setCell ⟨bky, 0, none⟩ (.slice Ay q.slots.length cy)).setCell ⟨bky, 1, none⟩ (.slice By q.vols.length dy) = W12 at hx2 ho2 hb5 ⊢
      obtain ⟨a0, a1, k0, k1, e0, e1, hpi⟩ := ho2.reads
      have e0 := slice_eq e0
      have e1 := slice_eq e1
      obtain ⟨rfl, -, rfl⟩ := e0
      obtain ⟨rfl, -, rfl⟩ := e1
      have Px := Lib.hid (ZX.out.bel hb5)
      have KW := Lib.hid (ZW.out.tr hb5)
      have Py : Hid (PVar W12 bky Ay By cy dy q) := ⟨hx2, hpi⟩
      clear hx1 hx2 ho2 hb5 hpi
      refine (lgPool_c Px.out.inn Py.out.inn HSq.out).mono ?_
      rintro e w13 ⟨rfl, hb⟩
      replace Px := Lib.hid (Px.out.bel hb)
      replace Py := Lib.hid (Py.out.bel hb)
      replace KW := Lib.hid (KW.out.tr hb)
      clear hb
      have qx0 := Px.out.c0
      have qx1 := Px.out.c1
      have yx := Px.out.lt
      have qy0 := Py.out.c0
      have qy1 := Py.out.c1
      have yy := Py.out.lt
      go_wp2_with fail
      clear qx0 qx1 yx qy0 qy1 yy
      refine (implOk_n Px.out.inn HSq.out HOKq.out).mono ?_
      rintro e w14 ⟨rfl, hb⟩
      replace Px := Lib.hid (Px.out.bel hb)
      replace Py := Lib.hid (Py.out.bel hb)
      replace KW := Lib.hid (KW.out.tr hb)
      clear hb
      have qx0 := Px.out.c0
      have qx1 := Px.out.c1
      have yx := Px.out.lt
      have qy0 := Py.out.c0
      have qy1 := Py.out.c1
      have yy := Py.out.lt
      go_wp2
      go_ret
      exact ⟨rfl, KW.out⟩
  · simp only at hk
    subst hk
    clear hoo
    have EF : opF p ⟨4, nm, ds, n', tx⟩ = goneF p nm := rfl
    have E1 := EO.out.1
    have E2 := EO.out.2
    rw [EF] at E1 E2
    obtain ⟨q, hq⟩ : ∃ q, chP p (goneF p nm) = q := ⟨_, rfl⟩
    obtain ⟨ok, hok2⟩ : ∃ ok, chB p (goneF p nm) = ok := ⟨_, rfl⟩
    have hqv : PoolP q := by rw [← hq, ← EF]; unfold chP; rw [if_pos HOK.out]; exact opF_getD HV.out
    have HQ := Lib.hid (And.intro hq hok2)
    have HE := Lib.hid (And.intro (E1.trans hq) (E2.trans hok2))
    have HSq := Lib.hid hqv.small
    have HOKq := Lib.hid (poolOk_iff.2 hqv)
    clear EF E1 E2 hq hok2 hqv
    cases ok
    · skip
      go_wp2_with fail
      have hP := (PVar.new Ip.out).bel (bel_alloc (Below.refl _ _) (.cells #[.int .i64 4, .string nm, .string ds, .int .i64 n', .string tx] 74))
      have hO : OVar ((w1.alloc (.cells #[.slice Ap p.slots.length cp, .slice Bp p.vols.length dp] 30)).alloc (.cells #[.int .i64 4, .string nm, .string ds, .int .i64 n', .string tx] 74)) (w1.heap.size + 1) 4 nm ds n' tx := ⟨Blk.nw2 _ _ _ _⟩
      have hb : Bel w1 ((w1.alloc (.cells #[.slice Ap p.slots.length cp, .slice Bp p.vols.length dp] 30)).alloc (.cells #[.int .i64 4, .string nm, .string ds, .int .i64 n', .string tx] 74)) := bel_alloc (bel_alloc (Below.refl _ _) _) _
      generalize ((w1.alloc (.cells #[.slice Ap p.slots.length cp, .slice Bp p.vols.length dp] 30)).alloc (.cells #[.int .i64 4, .string nm, .string ds, .int .i64 n', .string tx] 74)) = W2 at hP hO hb ⊢
      replace Ip := Lib.hid (Ip.out.bel hb)
      replace KW := Lib.hid (KW.out.tr hb)
      obtain ⟨bkp, hbn⟩ : ∃ b, w1.heap.size = b := ⟨_, rfl⟩
      rw [hbn] at hP hO ⊢
      obtain ⟨bko, hbo⟩ : ∃ b, bkp + 1 = b := ⟨_, rfl⟩
      rw [hbo] at hO ⊢
      have Pp := Lib.hid hP
      have Oo := Lib.hid hO
      clear hP hO hb hbn hbo Ip
      refine (specOp_n Pp.out.inn HSp.out HSO.out HE.out).mono ?_
      rintro e w3 ⟨Awant, Bwant, cwant, dwant, rfl, hin, hb⟩
      replace Pp := Lib.hid (Pp.out.bel hb)
      replace Oo := Lib.hid (Oo.out.bel hb)
      replace KW := Lib.hid (KW.out.tr hb)
      have Iwant := Lib.hid hin
      clear hin hb
      have qp0 := Pp.out.c0
      have qp1 := Pp.out.c1
      have yp := Pp.out.lt
      have mo0 := Oo.out.m0
      have mo1 := Oo.out.m1
      have mo2 := Oo.out.m2
      have mo3 := Oo.out.m3
      have mo4 := Oo.out.m4
      have myo := Oo.out.lt
      go_wp2_with fail
      clear qp0 qp1 yp
      clear mo0 mo1 mo2 mo3 mo4 myo
      have hnew := PVar.new Iwant.out
      have hb : Bel w3 (w3.alloc (.cells #[.slice Awant q.slots.length cwant, .slice Bwant q.vols.length dwant] 30)) := bel_alloc (Below.refl _ _) _
      generalize w3.alloc (.cells #[.slice Awant q.slots.length cwant, .slice Bwant q.vols.length dwant] 30) = W4 at hnew hb ⊢
      replace Pp := Lib.hid (Pp.out.bel hb)
      replace Oo := Lib.hid (Oo.out.bel hb)
      replace Iwant := Lib.hid (Iwant.out.bel hb)
      replace KW := Lib.hid (KW.out.tr hb)
      obtain ⟨bkwant, hbn⟩ : ∃ b, w3.heap.size = b := ⟨_, rfl⟩
      rw [hbn] at hnew ⊢
      have Pwant := Lib.hid hnew
      clear hnew hb hbn Iwant
      refine (implOp_n Pp.out.inn HSp.out HSO.out HE.out).mono ?_
      rintro e w5 ⟨Ax, Bx, cx, dx, rfl, hin, hb⟩
      replace Pp := Lib.hid (Pp.out.bel hb)
      replace Oo := Lib.hid (Oo.out.bel hb)
      replace Pwant := Lib.hid (Pwant.out.bel hb)
      replace KW := Lib.hid (KW.out.tr hb)
      have Ix := Lib.hid hin
      clear hin hb
      have qp0 := Pp.out.c0
      have qp1 := Pp.out.c1
      have yp := Pp.out.lt
      have qwant0 := Pwant.out.c0
      have qwant1 := Pwant.out.c1
      have ywant := Pwant.out.lt
      have mo0 := Oo.out.m0
      have mo1 := Oo.out.m1
      have mo2 := Oo.out.m2
      have mo3 := Oo.out.m3
      have mo4 := Oo.out.m4
      have myo := Oo.out.lt
      go_wp2_with fail
      clear qp0 qp1 yp qwant0 qwant1 ywant
      clear mo0 mo1 mo2 mo3 mo4 myo
      have hnew := PVar.new Ix.out
      have hb : Bel w5 (w5.alloc (.cells #[.slice Ax q.slots.length cx, .slice Bx q.vols.length dx] 30)) := bel_alloc (Below.refl _ _) _
      generalize w5.alloc (.cells #[.slice Ax q.slots.length cx, .slice Bx q.vols.length dx] 30) = W6 at hnew hb ⊢
      replace Pp := Lib.hid (Pp.out.bel hb)
      replace Oo := Lib.hid (Oo.out.bel hb)
      replace Pwant := Lib.hid (Pwant.out.bel hb)
      replace Ix := Lib.hid (Ix.out.bel hb)
      replace KW := Lib.hid (KW.out.tr hb)
      obtain ⟨bkx, hbn⟩ : ∃ b, w5.heap.size = b := ⟨_, rfl⟩
      rw [hbn] at hnew ⊢
      have Px := Lib.hid hnew
      clear hnew hb hbn Ix
      refine (lgPool_c Px.out.inn Pwant.out.inn HSq.out).mono ?_
      rintro e w7 ⟨rfl, hb⟩
      replace Pp := Lib.hid (Pp.out.bel hb)
      replace Oo := Lib.hid (Oo.out.bel hb)
      replace Pwant := Lib.hid (Pwant.out.bel hb)
      replace Px := Lib.hid (Px.out.bel hb)
      replace KW := Lib.hid (KW.out.tr hb)
      clear hb
      have qp0 := Pp.out.c0
      have qp1 := Pp.out.c1
      have yp := Pp.out.lt
      have qwant0 := Pwant.out.c0
      have qwant1 := Pwant.out.c1
      have ywant := Pwant.out.lt
      have qx0 := Px.out.c0
      have qx1 := Px.out.c1
      have yx := Px.out.lt
      have mo0 := Oo.out.m0
      have mo1 := Oo.out.m1
      have mo2 := Oo.out.m2
      have mo3 := Oo.out.m3
      have mo4 := Oo.out.m4
      have myo := Oo.out.lt
      go_wp2_with fail
      clear qp0 qp1 yp qwant0 qwant1 ywant qx0 qx1 yx
      clear mo0 mo1 mo2 mo3 mo4 myo
      refine (specOk_n Pp.out.inn HSp.out HPK.out).mono ?_
      rintro e w8 ⟨rfl, hb⟩
      replace Pp := Lib.hid (Pp.out.bel hb)
      replace Oo := Lib.hid (Oo.out.bel hb)
      replace Pwant := Lib.hid (Pwant.out.bel hb)
      replace Px := Lib.hid (Px.out.bel hb)
      replace KW := Lib.hid (KW.out.tr hb)
      clear hb
      have qp0 := Pp.out.c0
      have qp1 := Pp.out.c1
      have yp := Pp.out.lt
      have qwant0 := Pwant.out.c0
      have qwant1 := Pwant.out.c1
      have ywant := Pwant.out.lt
      have qx0 := Px.out.c0
      have qx1 := Px.out.c1
      have yx := Px.out.lt
      have mo0 := Oo.out.m0
      have mo1 := Oo.out.m1
      have mo2 := Oo.out.m2
      have mo3 := Oo.out.m3
      have mo4 := Oo.out.m4
      have myo := Oo.out.lt
      go_wp2_with fail
      clear qp0 qp1 yp qwant0 qwant1 ywant qx0 qx1 yx
      clear mo0 mo1 mo2 mo3 mo4 myo
      refine (opOk_n HSO.out HOO.out).mono ?_
      rintro e w9 ⟨rfl, hb⟩
      replace Pp := Lib.hid (Pp.out.bel hb)
      replace Oo := Lib.hid (Oo.out.bel hb)
      replace Pwant := Lib.hid (Pwant.out.bel hb)
      replace Px := Lib.hid (Px.out.bel hb)
      replace KW := Lib.hid (KW.out.tr hb)
      clear hb
      have qp0 := Pp.out.c0
      have qp1 := Pp.out.c1
      have yp := Pp.out.lt
      have qwant0 := Pwant.out.c0
      have qwant1 := Pwant.out.c1
      have ywant := Pwant.out.lt
      have qx0 := Px.out.c0
      have qx1 := Px.out.c1
      have yx := Px.out.lt
      have mo0 := Oo.out.m0
      have mo1 := Oo.out.m1
      have mo2 := Oo.out.m2
      have mo3 := Oo.out.m3
      have mo4 := Oo.out.m4
      have myo := Oo.out.lt
      go_wp2_with fail
      clear qp0 qp1 yp qwant0 qwant1 ywant qx0 qx1 yx
      clear mo0 mo1 mo2 mo3 mo4 myo
      have ZP := Pp
      have ZX := Px
      have ZW := KW
      have hnew : Blk (w9.alloc (.cells #[.slice Ap p.slots.length cp, .slice Bp p.vols.length dp] 30)) w9.heap.size #[.slice Ap p.slots.length cp, .slice Bp p.vols.length dp] 30 := Blk.new _ _ _
      have hb : Bel w9 (w9.alloc (.cells #[.slice Ap p.slots.length cp, .slice Bp p.vols.length dp] 30)) := bel_alloc (Below.refl _ _) _
      generalize w9.alloc (.cells #[.slice Ap p.slots.length cp, .slice Bp p.vols.length dp] 30) = W10 at hnew hb ⊢
      replace Pp := Lib.hid (Pp.out.bel hb)
      replace Oo := Lib.hid (Oo.out.bel hb)
      replace Pwant := Lib.hid (Pwant.out.bel hb)
      replace Px := Lib.hid (Px.out.bel hb)
      replace KW := Lib.hid (KW.out.tr hb)
      have HBZ := Lib.hid hb
      have hle : w9.heap.size ≤ w9.heap.size := Nat.le_refl _
      obtain ⟨bky, hbn⟩ : ∃ b, w9.heap.size = b := ⟨_, rfl⟩
      have HLE := Lib.hid (show w9.heap.size ≤ bky by omega)
      rw [hbn] at hnew ⊢
      have KY := Lib.hid hnew
      clear hnew hb hbn hle
      refine (implPoolGone_c (name := nm) Pp.out.inn HSp.out).mono ?_
      rintro e w11 ⟨v0, v1, bvs, rfl, ho, hb⟩
      rw [HQ.out.1] at ho
      rw [HQ.out.2]
      replace KY := Lib.hid (KY.out.bel hb)
      replace HBZ := Lib.hid (HBZ.out.tr hb)
      replace Pp := Lib.hid (Pp.out.bel hb)
      replace Oo := Lib.hid (Oo.out.bel hb)
      replace Pwant := Lib.hid (Pwant.out.bel hb)
      replace Px := Lib.hid (Px.out.bel hb)
      replace KW := Lib.hid (KW.out.tr hb)
      obtain ⟨Ay, By, cy, dy, rfl, rfl, hpi⟩ := ho.reads
      clear hpi hb
      have HO := Lib.hid ho
      clear ho
      have qp0 := Pp.out.c0
      have qp1 := Pp.out.c1
      have yp := Pp.out.lt
      have qwant0 := Pwant.out.c0
      have qwant1 := Pwant.out.c1
      have ywant := Pwant.out.lt
      have qx0 := Px.out.c0
      have qx1 := Px.out.c1
      have yx := Px.out.lt
      have mo0 := Oo.out.m0
      have mo1 := Oo.out.m1
      have mo2 := Oo.out.m2
      have mo3 := Oo.out.m3
      have mo4 := Oo.out.m4
      have myo := Oo.out.lt
      have qy0 := KY.out.cell 0
      have qy1 := KY.out.cell 1
      have yy := KY.out.lt
      have fy0 := KY.out.free 0
      have fy1 := KY.out.free 1
      simp at qy0 qy1
      have hxl := ZX.out.lt
      have hxy : ¬ bkx = bky := by have := HLE.out; omega
      have hyx : ¬ bky = bkx := fun e => hxy e.symm
      clear hxl
      go_wp2_with fail
      clear qp0 qp1 yp qwant0 qwant1 ywant qx0 qx1 yx
      clear mo0 mo1 mo2 mo3 mo4 myo
      clear qy0 qy1 yy fy0 fy1 hxy hyx
      have hx1 := KY.out.set 0 (.slice Ay q.slots.length cy) (cs' := #[.slice Ay q.slots.length cy, .slice Bp p.vols.length dp]) rfl
      have hx2 := hx1.set 1 (.slice By q.vols.length dy) (cs' := #[.slice Ay q.slots.length cy, .slice By q.vols.length dy]) rfl
      have ho2 := (HO.out.far KY.out (by decide) (by decide) (by decide) 0 (.slice Ay q.slots.length cy)).far hx1 (by decide) (by decide) (by decide) 1 (.slice By q.vols.length dy)
      have hb5 := bel_set (bel_set HBZ.out HLE.out 0 (.slice Ay q.slots.length cy)) HLE.out 1 (.slice By q.vols.length dy)
      generalize (w11.setCell ⟨bky, 0, none⟩ (.slice Ay q.slots.length cy)).setCell ⟨bky, 1, none⟩ (.slice By q.vols.length dy) = W12 at hx2 ho2 hb5 ⊢
      obtain ⟨a0, a1, k0, k1, e0, e1, hpi⟩ := ho2.reads
      have e0 := slice_eq e0
      have e1 := slice_eq e1
      obtain ⟨rfl, -, rfl⟩ := e0
      obtain ⟨rfl, -, rfl⟩ := e1
      have Px := Lib.hid (ZX.out.bel hb5)
      have KW := Lib.hid (ZW.out.tr hb5)
      have Py : Hid (PVar W12 bky Ay By cy dy q) := ⟨hx2, hpi⟩
      clear hx1 hx2 ho2 hb5 hpi
      refine (lgPool_c Px.out.inn Py.out.inn HSq.out).mono ?_
      rintro e w13 ⟨rfl, hb⟩
      replace Px := Lib.hid (Px.out.bel hb)
      replace Py := Lib.hid (Py.out.bel hb)
      replace KW := Lib.hid (KW.out.tr hb)
      clear hb
      have qx0 := Px.out.c0
      have qx1 := Px.out.c1
      have yx := Px.out.lt
      have qy0 := Py.out.c0
      have qy1 := Py.out.c1
      have yy := Py.out.lt
      go_wp2_with fail
      clear qx0 qx1 yx qy0 qy1 yy
      refine (implOk_n Px.out.inn HSq.out HOKq.out).mono ?_
      rintro e w14 ⟨rfl, hb⟩
      replace Px := Lib.hid (Px.out.bel hb)
      replace Py := Lib.hid (Py.out.bel hb)
      replace KW := Lib.hid (KW.out.tr hb)
      clear hb
      have qx0 := Px.out.c0
      have qx1 := Px.out.c1
      have yx := Px.out.lt
      have qy0 := Py.out.c0
      have qy1 := Py.out.c1
      have yy := Py.out.lt
      go_wp2
      go_ret
      exact ⟨rfl, KW.out⟩
    · skip
      go_wp2_with fail
      have hP := (PVar.new Ip.out).bel (bel_alloc (Below.refl _ _) (.cells #[.int .i64 4, .string nm, .string ds, .int .i64 n', .string tx] 74))
      have hO : OVar ((w1.alloc (.cells #[.slice Ap p.slots.length cp, .slice Bp p.vols.length dp] 30)).alloc (.cells #[.int .i64 4, .string nm, .string ds, .int .i64 n', .string tx] 74)) (w1.heap.size + 1) 4 nm ds n' tx := ⟨Blk.nw2 _ _ _ _⟩
      have hb : Bel w1 ((w1.alloc (.cells #[.slice Ap p.slots.length cp, .slice Bp p.vols.length dp] 30)).alloc (.cells #[.int .i64 4, .string nm, .string ds, .int .i64 n', .string tx] 74)) := bel_alloc (bel_alloc (Below.refl _ _) _) _
      generalize ((w1.alloc (.cells #[.slice Ap p.slots.length cp, .slice Bp p.vols.length dp] 30)).alloc (.cells #[.int .i64 4, .string nm, .string ds, .int .i64 n', .string tx] 74)) = W2 at hP hO hb ⊢
      replace Ip := Lib.hid (Ip.out.bel hb)
      replace KW := Lib.hid (KW.out.tr hb)
      obtain ⟨bkp, hbn⟩ : ∃ b, w1.heap.size = b := ⟨_, rfl⟩
      rw [hbn] at hP hO ⊢
      obtain ⟨bko, hbo⟩ : ∃ b, bkp + 1 = b := ⟨_, rfl⟩
      rw [hbo] at hO ⊢
      have Pp := Lib.hid hP
      have Oo := Lib.hid hO
      clear hP hO hb hbn hbo Ip
      refine (specOp_n Pp.out.inn HSp.out HSO.out HE.out).mono ?_
      rintro e w3 ⟨Awant, Bwant, cwant, dwant, rfl, hin, hb⟩
      replace Pp := Lib.hid (Pp.out.bel hb)
      replace Oo := Lib.hid (Oo.out.bel hb)
      replace KW := Lib.hid (KW.out.tr hb)
      have Iwant := Lib.hid hin
      clear hin hb
      have qp0 := Pp.out.c0
      have qp1 := Pp.out.c1
      have yp := Pp.out.lt
      have mo0 := Oo.out.m0
      have mo1 := Oo.out.m1
      have mo2 := Oo.out.m2
      have mo3 := Oo.out.m3
      have mo4 := Oo.out.m4
      have myo := Oo.out.lt
      go_wp2_with fail
      clear qp0 qp1 yp
      clear mo0 mo1 mo2 mo3 mo4 myo
      have hnew := PVar.new Iwant.out
      have hb : Bel w3 (w3.alloc (.cells #[.slice Awant q.slots.length cwant, .slice Bwant q.vols.length dwant] 30)) := bel_alloc (Below.refl _ _) _
      generalize w3.alloc (.cells #[.slice Awant q.slots.length cwant, .slice Bwant q.vols.length dwant] 30) = W4 at hnew hb ⊢
      replace Pp := Lib.hid (Pp.out.bel hb)
      replace Oo := Lib.hid (Oo.out.bel hb)
      replace Iwant := Lib.hid (Iwant.out.bel hb)
      replace KW := Lib.hid (KW.out.tr hb)
      obtain ⟨bkwant, hbn⟩ : ∃ b, w3.heap.size = b := ⟨_, rfl⟩
      rw [hbn] at hnew ⊢
      have Pwant := Lib.hid hnew
      clear hnew hb hbn Iwant
      refine (implOp_n Pp.out.inn HSp.out HSO.out HE.out).mono ?_
      rintro e w5 ⟨Ax, Bx, cx, dx, rfl, hin, hb⟩
      replace Pp := Lib.hid (Pp.out.bel hb)
      replace Oo := Lib.hid (Oo.out.bel hb)
      replace Pwant := Lib.hid (Pwant.out.bel hb)
      replace KW := Lib.hid (KW.out.tr hb)
      have Ix := Lib.hid hin
      clear hin hb
      have qp0 := Pp.out.c0
      have qp1 := Pp.out.c1
      have yp := Pp.out.lt
      have qwant0 := Pwant.out.c0
      have qwant1 := Pwant.out.c1
      have ywant := Pwant.out.lt
      have mo0 := Oo.out.m0
      have mo1 := Oo.out.m1
      have mo2 := Oo.out.m2
      have mo3 := Oo.out.m3
      have mo4 := Oo.out.m4
      have myo := Oo.out.lt
      go_wp2_with fail
      clear qp0 qp1 yp qwant0 qwant1 ywant
      clear mo0 mo1 mo2 mo3 mo4 myo
      have hnew := PVar.new Ix.out
      have hb : Bel w5 (w5.alloc (.cells #[.slice Ax q.slots.length cx, .slice Bx q.vols.length dx] 30)) := bel_alloc (Below.refl _ _) _
      generalize w5.alloc (.cells #[.slice Ax q.slots.length cx, .slice Bx q.vols.length dx] 30) = W6 at hnew hb ⊢
      replace Pp := Lib.hid (Pp.out.bel hb)
      replace Oo := Lib.hid (Oo.out.bel hb)
      replace Pwant := Lib.hid (Pwant.out.bel hb)
      replace Ix := Lib.hid (Ix.out.bel hb)
      replace KW := Lib.hid (KW.out.tr hb)
      obtain ⟨bkx, hbn⟩ : ∃ b, w5.heap.size = b := ⟨_, rfl⟩
      rw [hbn] at hnew ⊢
      have Px := Lib.hid hnew
      clear hnew hb hbn Ix
      refine (lgPool_c Px.out.inn Pwant.out.inn HSq.out).mono ?_
      rintro e w7 ⟨rfl, hb⟩
      replace Pp := Lib.hid (Pp.out.bel hb)
      replace Oo := Lib.hid (Oo.out.bel hb)
      replace Pwant := Lib.hid (Pwant.out.bel hb)
      replace Px := Lib.hid (Px.out.bel hb)
      replace KW := Lib.hid (KW.out.tr hb)
      clear hb
      have qp0 := Pp.out.c0
      have qp1 := Pp.out.c1
      have yp := Pp.out.lt
      have qwant0 := Pwant.out.c0
      have qwant1 := Pwant.out.c1
      have ywant := Pwant.out.lt
      have qx0 := Px.out.c0
      have qx1 := Px.out.c1
      have yx := Px.out.lt
      have mo0 := Oo.out.m0
      have mo1 := Oo.out.m1
      have mo2 := Oo.out.m2
      have mo3 := Oo.out.m3
      have mo4 := Oo.out.m4
      have myo := Oo.out.lt
      go_wp2_with fail
      clear qp0 qp1 yp qwant0 qwant1 ywant qx0 qx1 yx
      clear mo0 mo1 mo2 mo3 mo4 myo
      refine (specOk_n Pp.out.inn HSp.out HPK.out).mono ?_
      rintro e w8 ⟨rfl, hb⟩
      replace Pp := Lib.hid (Pp.out.bel hb)
      replace Oo := Lib.hid (Oo.out.bel hb)
      replace Pwant := Lib.hid (Pwant.out.bel hb)
      replace Px := Lib.hid (Px.out.bel hb)
      replace KW := Lib.hid (KW.out.tr hb)
      clear hb
      have qp0 := Pp.out.c0
      have qp1 := Pp.out.c1
      have yp := Pp.out.lt
      have qwant0 := Pwant.out.c0
      have qwant1 := Pwant.out.c1
      have ywant := Pwant.out.lt
      have qx0 := Px.out.c0
      have qx1 := Px.out.c1
      have yx := Px.out.lt
      have mo0 := Oo.out.m0
      have mo1 := Oo.out.m1
      have mo2 := Oo.out.m2
      have mo3 := Oo.out.m3
      have mo4 := Oo.out.m4
      have myo := Oo.out.lt
      go_wp2_with fail
      clear qp0 qp1 yp qwant0 qwant1 ywant qx0 qx1 yx
      clear mo0 mo1 mo2 mo3 mo4 myo
      refine (opOk_n HSO.out HOO.out).mono ?_
      rintro e w9 ⟨rfl, hb⟩
      replace Pp := Lib.hid (Pp.out.bel hb)
      replace Oo := Lib.hid (Oo.out.bel hb)
      replace Pwant := Lib.hid (Pwant.out.bel hb)
      replace Px := Lib.hid (Px.out.bel hb)
      replace KW := Lib.hid (KW.out.tr hb)
      clear hb
      have qp0 := Pp.out.c0
      have qp1 := Pp.out.c1
      have yp := Pp.out.lt
      have qwant0 := Pwant.out.c0
      have qwant1 := Pwant.out.c1
      have ywant := Pwant.out.lt
      have qx0 := Px.out.c0
      have qx1 := Px.out.c1
      have yx := Px.out.lt
      have mo0 := Oo.out.m0
      have mo1 := Oo.out.m1
      have mo2 := Oo.out.m2
      have mo3 := Oo.out.m3
      have mo4 := Oo.out.m4
      have myo := Oo.out.lt
      go_wp2_with fail
      clear qp0 qp1 yp qwant0 qwant1 ywant qx0 qx1 yx
      clear mo0 mo1 mo2 mo3 mo4 myo
      have ZP := Pp
      have ZX := Px
      have ZW := KW
      have hnew : Blk (w9.alloc (.cells #[.slice Ap p.slots.length cp, .slice Bp p.vols.length dp] 30)) w9.heap.size #[.slice Ap p.slots.length cp, .slice Bp p.vols.length dp] 30 := Blk.new _ _ _
      have hb : Bel w9 (w9.alloc (.cells #[.slice Ap p.slots.length cp, .slice Bp p.vols.length dp] 30)) := bel_alloc (Below.refl _ _) _
      generalize w9.alloc (.cells #[.slice Ap p.slots.length cp, .slice Bp p.vols.length dp] 30) = W10 at hnew hb ⊢
      replace Pp := Lib.hid (Pp.out.bel hb)
      replace Oo := Lib.hid (Oo.out.bel hb)
      replace Pwant := Lib.hid (Pwant.out.bel hb)
      replace Px := Lib.hid (Px.out.bel hb)
      replace KW := Lib.hid (KW.out.tr hb)
      have HBZ := Lib.hid hb
      have hle : w9.heap.size ≤ w9.heap.size := Nat.le_refl _
      obtain ⟨bky, hbn⟩ : ∃ b, w9.heap.size = b := ⟨_, rfl⟩
      have HLE := Lib.hid (show w9.heap.size ≤ bky by omega)
      rw [hbn] at hnew ⊢
      have KY := Lib.hid hnew
      clear hnew hb hbn hle
      refine (implPoolGone_c (name := nm) Pp.out.inn HSp.out).mono ?_
      rintro e w11 ⟨v0, v1, bvs, rfl, ho, hb⟩
      rw [HQ.out.1] at ho
      rw [HQ.out.2]
      replace KY := Lib.hid (KY.out.bel hb)
      replace HBZ := Lib.hid (HBZ.out.tr hb)
      replace Pp := Lib.hid (Pp.out.bel hb)
      replace Oo := Lib.hid (Oo.out.bel hb)
      replace Pwant := Lib.hid (Pwant.out.bel hb)
      replace Px := Lib.hid (Px.out.bel hb)
      replace KW := Lib.hid (KW.out.tr hb)
      obtain ⟨Ay, By, cy, dy, rfl, rfl, hpi⟩ := ho.reads
      clear hpi hb
      have HO := Lib.hid ho
      clear ho
      have qp0 := Pp.out.c0
      have qp1 := Pp.out.c1
      have yp := Pp.out.lt
      have qwant0 := Pwant.out.c0
      have qwant1 := Pwant.out.c1
      have ywant := Pwant.out.lt
      have qx0 := Px.out.c0
      have qx1 := Px.out.c1
      have yx := Px.out.lt
      have mo0 := Oo.out.m0
      have mo1 := Oo.out.m1
      have mo2 := Oo.out.m2
      have mo3 := Oo.out.m3
      have mo4 := Oo.out.m4
      have myo := Oo.out.lt
      have qy0 := KY.out.cell 0
      have qy1 := KY.out.cell 1
      have yy := KY.out.lt
      have fy0 := KY.out.free 0
      have fy1 := KY.out.free 1
      simp at qy0 qy1
      have hxl := ZX.out.lt
      have hxy : ¬ bkx = bky := by have := HLE.out; omega
      have hyx : ¬ bky = bkx := fun e => hxy e.symm
      clear hxl
      go_wp2_with fail
      clear qp0 qp1 yp qwant0 qwant1 ywant qx0 qx1 yx
      clear mo0 mo1 mo2 mo3 mo4 myo
      clear qy0 qy1 yy fy0 fy1 hxy hyx
      have hx1 := KY.out.set 0 (.slice Ay q.slots.length cy) (cs' := #[.slice Ay q.slots.length cy, .slice Bp p.vols.length dp]) rfl
      have hx2 := hx1.set 1 (.slice By q.vols.length dy) (cs' := #[.slice Ay q.slots.length cy, .slice By q.vols.length dy]) rfl
      have ho2 := (HO.out.far KY.out (by decide) (by decide) (by decide) 0 (.slice Ay q.slots.length cy)).far hx1 (by decide) (by decide) (by decide) 1 (.slice By q.vols.length dy)
      have hb5 := bel_set (bel_set HBZ.out HLE.out 0 (.slice Ay q.slots.length cy)) HLE.out 1 (.slice By q.vols.length dy)
      generalize (w11.setCell ⟨bky, 0, none⟩ (.slice Ay q.slots.length cy)).setCell ⟨bky, 1, none⟩ (.slice By q.vols.length dy) = W12 at hx2 ho2 hb5 ⊢
      obtain ⟨a0, a1, k0, k1, e0, e1, hpi⟩ := ho2.reads
      have e0 := slice_eq e0
      have e1 := slice_eq e1
      obtain ⟨rfl, -, rfl⟩ := e0
      obtain ⟨rfl, -, rfl⟩ := e1
      have Px := Lib.hid (ZX.out.bel hb5)
      have KW := Lib.hid (ZW.out.tr hb5)
      have Py : Hid (PVar W12 bky Ay By cy dy q) := ⟨hx2, hpi⟩
      clear hx1 hx2 ho2 hb5 hpi
      refine (lgPool_c Px.out.inn Py.out.inn HSq.out).mono ?_
      rintro e w13 ⟨rfl, hb⟩
      replace Px := Lib.hid (Px.out.bel hb)
      replace Py := Lib.hid (Py.out.bel hb)
      replace KW := Lib.hid (KW.out.tr hb)
      clear hb
      have qx0 := Px.out.c0
      have qx1 := Px.out.c1
      have yx := Px.out.lt
      have qy0 := Py.out.c0
      have qy1 := Py.out.c1
      have yy := Py.out.lt
      go_wp2_with fail
      clear qx0 qx1 yx qy0 qy1 yy
      refine (implOk_n Px.out.inn HSq.out HOKq.out).mono ?_
      rintro e w14 ⟨rfl, hb⟩
      replace Px := Lib.hid (Px.out.bel hb)
      replace Py := Lib.hid (Py.out.bel hb)
      replace KW := Lib.hid (KW.out.tr hb)
      clear hb
      have qx0 := Px.out.c0
      have qx1 := Px.out.c1
      have yx := Px.out.lt
      have qy0 := Py.out.c0
      have qy1 := Py.out.c1
      have yy := Py.out.lt
      go_wp2
      go_ret
      exact ⟨rfl, KW.out⟩
end Go.Proofs.Ytpobgjkmjlmafaa

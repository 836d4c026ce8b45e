/- The law FnOpApart: its body walked. -/
import Derived.Test.YtpobgjkmjlmafaaZ5
namespace Go.Proofs.Ytpobgjkmjlmafaa
open Go.RowKit Go.Proofs.YtpobgjkmjlmafaaW.PrintWords Go.Proofs.YtpobgjkmjlmafaaW.PrintLast
set_option linter.unusedVariables false
set_option linter.unusedSimpArgs false

set_option maxHeartbeats 8000000 in
set_option maxRecDepth 10000 in
theorem lawFnOpApart_c {w : World} {A : Option Addr} {n c : Nat} {bs : List Int} {A2 : Option Addr} {n2 c2 : Nat} {bs2 : List Int} (h : CodeIn w A n c bs) (hn : n ≤ 9223372036854775807) (h2 : CodeIn w A2 n2 c2 bs2) (hn2 : n2 ≤ 9223372036854775807) :
    Calls Try.prog 22 #[.slice A n c, .slice A2 n2 c2] w (Ret (.bool true) w) := by
  have H := Lib.hid h
  clear h
  have H2 := Lib.hid h2
  clear h2
  go_enter Try.func22, Try.ntmps22
  by_cases hlen : (1048576 : Int) < (n : Int)
  · go_wp2
    go_ret
    exact ⟨rfl, Below.refl _ _⟩
  by_cases hlen2 : (1048576 : Int) < (n2 : Int)
  · go_wp2
    go_ret
    exact ⟨rfl, Below.refl _ _⟩
  go_wp2_with fail
  refine ((drawOpDo_c H.out hn).mono fun _ _ h => DrewO.new h).mono ?_
  rintro e w1 ⟨Ap, Bp, cp, dp, p, kd, nm, ds, n', tx, rfl, hoi, hp, hin, hb⟩
  have HP := Lib.hid hp
  have HOI := Lib.hid hoi
  have HSO := Lib.hid hoi.1
  have HSp := Lib.hid hp.small
  have Ip := Lib.hid hin
  have KW := Lib.hid hb
  clear hp hin hb hoi
  cases hok : poolOk p
  · obtain ⟨q, hq, hqs⟩ : ∃ q, (chO p ⟨kd, nm, ds, n', tx⟩ = q ∧ chOB p ⟨kd, nm, ds, n', tx⟩ = false) ∧ SmallP q := ⟨_, chO_bad (.inl hok), noP_small⟩
    have HE := Lib.hid hq
    have HSq := Lib.hid hqs
    have HOK := Lib.hid hok
    clear hq hqs hok
    go_wp2_with fail
    have hP := (PVar.new Ip.out).bel (bel_alloc (Below.refl _ _) (.cells #[.int .i64 kd, .string nm, .string ds, .int .i64 n', .string tx] 74))
    have hO : OVar ((w1.alloc (.cells #[.slice Ap p.slots.length cp, .slice Bp p.vols.length dp] 30)).alloc (.cells #[.int .i64 kd, .string nm, .string ds, .int .i64 n', .string tx] 74)) (w1.heap.size + 1) kd nm ds n' tx := ⟨Blk.nw2 _ _ _ _⟩
    have hb : Bel w1 ((w1.alloc (.cells #[.slice Ap p.slots.length cp, .slice Bp p.vols.length dp] 30)).alloc (.cells #[.int .i64 kd, .string nm, .string ds, .int .i64 n', .string tx] 74)) := bel_alloc (bel_alloc (Below.refl _ _) _) _
    generalize ((w1.alloc (.cells #[.slice Ap p.slots.length cp, .slice Bp p.vols.length dp] 30)).alloc (.cells #[.int .i64 kd, .string nm, .string ds, .int .i64 n', .string tx] 74)) = W2 at hP hO hb ⊢
    replace Ip := Lib.hid (Ip.out.bel hb)
    replace KW := Lib.hid (KW.out.tr hb)
    obtain ⟨bkp, hbn⟩ : ∃ b, w1.heap.size = b := ⟨_, rfl⟩
    rw [hbn] at hP hO ⊢
    obtain ⟨bko, hbo⟩ : ∃ b, bkp + 1 = b := ⟨_, rfl⟩
    rw [hbo] at hO ⊢
    have Pp := Lib.hid hP
    have Oo := Lib.hid hO
    clear hP hO hb hbn hbo Ip
    refine (specOp_n Pp.out.inn HSp.out HSO.out HE.out).mono ?_
    rintro e w3 ⟨Awant, Bwant, cwant, dwant, rfl, hin, hb⟩
    replace Pp := Lib.hid (Pp.out.bel hb)
    replace Oo := Lib.hid (Oo.out.bel hb)
    replace KW := Lib.hid (KW.out.tr hb)
    have Iwant := Lib.hid hin
    clear hin hb
    have qp0 := Pp.out.c0
    have qp1 := Pp.out.c1
    have yp := Pp.out.lt
    have mo0 := Oo.out.m0
    have mo1 := Oo.out.m1
    have mo2 := Oo.out.m2
    have mo3 := Oo.out.m3
    have mo4 := Oo.out.m4
    have myo := Oo.out.lt
    go_wp2_with fail
    clear qp0 qp1 yp
    clear mo0 mo1 mo2 mo3 mo4 myo
    have hnew := PVar.new Iwant.out
    have hb : Bel w3 (w3.alloc (.cells #[.slice Awant q.slots.length cwant, .slice Bwant q.vols.length dwant] 30)) := bel_alloc (Below.refl _ _) _
    generalize w3.alloc (.cells #[.slice Awant q.slots.length cwant, .slice Bwant q.vols.length dwant] 30) = W4 at hnew hb ⊢
    replace Pp := Lib.hid (Pp.out.bel hb)
    replace Oo := Lib.hid (Oo.out.bel hb)
    replace Iwant := Lib.hid (Iwant.out.bel hb)
    replace KW := Lib.hid (KW.out.tr hb)
    obtain ⟨bkwant, hbn⟩ : ∃ b, w3.heap.size = b := ⟨_, rfl⟩
    rw [hbn] at hnew ⊢
    have Pwant := Lib.hid hnew
    clear hnew hb hbn Iwant
    refine (implOp_n Pp.out.inn HSp.out HSO.out HE.out).mono ?_
    rintro e w5 ⟨Ax, Bx, cx, dx, rfl, hin, hb⟩
    replace Pp := Lib.hid (Pp.out.bel hb)
    replace Oo := Lib.hid (Oo.out.bel hb)
    replace Pwant := Lib.hid (Pwant.out.bel hb)
    replace KW := Lib.hid (KW.out.tr hb)
    have Ix := Lib.hid hin
    clear hin hb
    have qp0 := Pp.out.c0
    have qp1 := Pp.out.c1
    have yp := Pp.out.lt
    have qwant0 := Pwant.out.c0
    have qwant1 := Pwant.out.c1
    have ywant := Pwant.out.lt
    have mo0 := Oo.out.m0
    have mo1 := Oo.out.m1
    have mo2 := Oo.out.m2
    have mo3 := Oo.out.m3
    have mo4 := Oo.out.m4
    have myo := Oo.out.lt
    go_wp2_with fail
    clear qp0 qp1 yp qwant0 qwant1 ywant
    clear mo0 mo1 mo2 mo3 mo4 myo
    have hnew := PVar.new Ix.out
    have hb : Bel w5 (w5.alloc (.cells #[.slice Ax q.slots.length cx, .slice Bx q.vols.length dx] 30)) := bel_alloc (Below.refl _ _) _
    generalize w5.alloc (.cells #[.slice Ax q.slots.length cx, .slice Bx q.vols.length dx] 30) = W6 at hnew hb ⊢
    replace Pp := Lib.hid (Pp.out.bel hb)
    replace Oo := Lib.hid (Oo.out.bel hb)
    replace Pwant := Lib.hid (Pwant.out.bel hb)
    replace Ix := Lib.hid (Ix.out.bel hb)
    replace KW := Lib.hid (KW.out.tr hb)
    obtain ⟨bkx, hbn⟩ : ∃ b, w5.heap.size = b := ⟨_, rfl⟩
    rw [hbn] at hnew ⊢
    have Px := Lib.hid hnew
    clear hnew hb hbn Ix
    refine (lgPool_c Px.out.inn Pwant.out.inn HSq.out).mono ?_
    rintro e w7 ⟨rfl, hb⟩
    replace Pp := Lib.hid (Pp.out.bel hb)
    replace Oo := Lib.hid (Oo.out.bel hb)
    replace Pwant := Lib.hid (Pwant.out.bel hb)
    replace Px := Lib.hid (Px.out.bel hb)
    replace KW := Lib.hid (KW.out.tr hb)
    clear hb
    have qp0 := Pp.out.c0
    have qp1 := Pp.out.c1
    have yp := Pp.out.lt
    have qwant0 := Pwant.out.c0
    have qwant1 := Pwant.out.c1
    have ywant := Pwant.out.lt
    have qx0 := Px.out.c0
    have qx1 := Px.out.c1
    have yx := Px.out.lt
    have mo0 := Oo.out.m0
    have mo1 := Oo.out.m1
    have mo2 := Oo.out.m2
    have mo3 := Oo.out.m3
    have mo4 := Oo.out.m4
    have myo := Oo.out.lt
    go_wp2_with fail
    clear qp0 qp1 yp qwant0 qwant1 ywant qx0 qx1 yx
    clear mo0 mo1 mo2 mo3 mo4 myo
    refine (lgPool_c Px.out.inn Pwant.out.inn HSq.out).mono ?_
    rintro e w8 ⟨rfl, hb⟩
    replace Pp := Lib.hid (Pp.out.bel hb)
    replace Oo := Lib.hid (Oo.out.bel hb)
    replace Pwant := Lib.hid (Pwant.out.bel hb)
    replace Px := Lib.hid (Px.out.bel hb)
    replace KW := Lib.hid (KW.out.tr hb)
    clear hb
    have qp0 := Pp.out.c0
    have qp1 := Pp.out.c1
    have yp := Pp.out.lt
    have qwant0 := Pwant.out.c0
    have qwant1 := Pwant.out.c1
    have ywant := Pwant.out.lt
    have qx0 := Px.out.c0
    have qx1 := Px.out.c1
    have yx := Px.out.lt
    have mo0 := Oo.out.m0
    have mo1 := Oo.out.m1
    have mo2 := Oo.out.m2
    have mo3 := Oo.out.m3
    have mo4 := Oo.out.m4
    have myo := Oo.out.lt
    go_wp2
    go_ret
    exact ⟨rfl, KW.out⟩
  have HV := Lib.hid (poolOk_iff.1 hok)
  have HOK := Lib.hid hok
  clear hok
  cases hoo : opOk ⟨kd, nm, ds, n', tx⟩
  · obtain ⟨q, hq, hqs⟩ : ∃ q, (chO p ⟨kd, nm, ds, n', tx⟩ = q ∧ chOB p ⟨kd, nm, ds, n', tx⟩ = false) ∧ SmallP q := ⟨_, chO_bad (.inr hoo), noP_small⟩
    have HE := Lib.hid hq
    have HSq := Lib.hid hqs
    have HOK := Lib.hid hoo
    clear hq hqs hoo
    go_wp2_with fail
    have hP := (PVar.new Ip.out).bel (bel_alloc (Below.refl _ _) (.cells #[.int .i64 kd, .string nm, .string ds, .int .i64 n', .string tx] 74))
    have hO : OVar ((w1.alloc (.cells #[.slice Ap p.slots.length cp, .slice Bp p.vols.length dp] 30)).alloc (.cells #[.int .i64 kd, .string nm, .string ds, .int .i64 n', .string tx] 74)) (w1.heap.size + 1) kd nm ds n' tx := ⟨Blk.nw2 _ _ _ _⟩
    have hb : Bel w1 ((w1.alloc (.cells #[.slice Ap p.slots.length cp, .slice Bp p.vols.length dp] 30)).alloc (.cells #[.int .i64 kd, .string nm, .string ds, .int .i64 n', .string tx] 74)) := bel_alloc (bel_alloc (Below.refl _ _) _) _
    generalize ((w1.alloc (.cells #[.slice Ap p.slots.length cp, .slice Bp p.vols.length dp] 30)).alloc (.cells #[.int .i64 kd, .string nm, .string ds, .int .i64 n', .string tx] 74)) = W2 at hP hO hb ⊢
    replace Ip := Lib.hid (Ip.out.bel hb)
    replace KW := Lib.hid (KW.out.tr hb)
    obtain ⟨bkp, hbn⟩ : ∃ b, w1.heap.size = b := ⟨_, rfl⟩
    rw [hbn] at hP hO ⊢
    obtain ⟨bko, hbo⟩ : ∃ b, bkp + 1 = b := ⟨_, rfl⟩
    rw [hbo] at hO ⊢
    have Pp := Lib.hid hP
    have Oo := Lib.hid hO
    clear hP hO hb hbn hbo Ip
    refine (specOp_n Pp.out.inn HSp.out HSO.out HE.out).mono ?_
    rintro e w3 ⟨Awant, Bwant, cwant, dwant, rfl, hin, hb⟩
    replace Pp := Lib.hid (Pp.out.bel hb)
    replace Oo := Lib.hid (Oo.out.bel hb)
    replace KW := Lib.hid (KW.out.tr hb)
    have Iwant := Lib.hid hin
    clear hin hb
    have qp0 := Pp.out.c0
    have qp1 := Pp.out.c1
    have yp := Pp.out.lt
    have mo0 := Oo.out.m0
    have mo1 := Oo.out.m1
    have mo2 := Oo.out.m2
    have mo3 := Oo.out.m3
    have mo4 := Oo.out.m4
    have myo := Oo.out.lt
    go_wp2_with fail
    clear qp0 qp1 yp
    clear mo0 mo1 mo2 mo3 mo4 myo
    have hnew := PVar.new Iwant.out
    have hb : Bel w3 (w3.alloc (.cells #[.slice Awant q.slots.length cwant, .slice Bwant q.vols.length dwant] 30)) := bel_alloc (Below.refl _ _) _
    generalize w3.alloc (.cells #[.slice Awant q.slots.length cwant, .slice Bwant q.vols.length dwant] 30) = W4 at hnew hb ⊢
    replace Pp := Lib.hid (Pp.out.bel hb)
    replace Oo := Lib.hid (Oo.out.bel hb)
    replace Iwant := Lib.hid (Iwant.out.bel hb)
    replace KW := Lib.hid (KW.out.tr hb)
    obtain ⟨bkwant, hbn⟩ : ∃ b, w3.heap.size = b := ⟨_, rfl⟩
    rw [hbn] at hnew ⊢
    have Pwant := Lib.hid hnew
    clear hnew hb hbn Iwant
    refine (implOp_n Pp.out.inn HSp.out HSO.out HE.out).mono ?_
    rintro e w5 ⟨Ax, Bx, cx, dx, rfl, hin, hb⟩
    replace Pp := Lib.hid (Pp.out.bel hb)
    replace Oo := Lib.hid (Oo.out.bel hb)
    replace Pwant := Lib.hid (Pwant.out.bel hb)
    replace KW := Lib.hid (KW.out.tr hb)
    have Ix := Lib.hid hin
    clear hin hb
    have qp0 := Pp.out.c0
    have qp1 := Pp.out.c1
    have yp := Pp.out.lt
    have qwant0 := Pwant.out.c0
    have qwant1 := Pwant.out.c1
    have ywant := Pwant.out.lt
    have mo0 := Oo.out.m0
    have mo1 := Oo.out.m1
    have mo2 := Oo.out.m2
    have mo3 := Oo.out.m3
    have mo4 := Oo.out.m4
    have myo := Oo.out.lt
    go_wp2_with fail
    clear qp0 qp1 yp qwant0 qwant1 ywant
    clear mo0 mo1 mo2 mo3 mo4 myo
    have hnew := PVar.new Ix.out
    have hb : Bel w5 (w5.alloc (.cells #[.slice Ax q.slots.length cx, .slice Bx q.vols.length dx] 30)) := bel_alloc (Below.refl _ _) _
    generalize w5.alloc (.cells #[.slice Ax q.slots.length cx, .slice Bx q.vols.length dx] 30) = W6 at hnew hb ⊢
    replace Pp := Lib.hid (Pp.out.bel hb)
    replace Oo := Lib.hid (Oo.out.bel hb)
    replace Pwant := Lib.hid (Pwant.out.bel hb)
    replace Ix := Lib.hid (Ix.out.bel hb)
    replace KW := Lib.hid (KW.out.tr hb)
    obtain ⟨bkx, hbn⟩ : ∃ b, w5.heap.size = b := ⟨_, rfl⟩
    rw [hbn] at hnew ⊢
    have Px := Lib.hid hnew
    clear hnew hb hbn Ix
    refine (lgPool_c Px.out.inn Pwant.out.inn HSq.out).mono ?_
    rintro e w7 ⟨rfl, hb⟩
    replace Pp := Lib.hid (Pp.out.bel hb)
    replace Oo := Lib.hid (Oo.out.bel hb)
    replace Pwant := Lib.hid (Pwant.out.bel hb)
    replace Px := Lib.hid (Px.out.bel hb)
    replace KW := Lib.hid (KW.out.tr hb)
    clear hb
    have qp0 := Pp.out.c0
    have qp1 := Pp.out.c1
    have yp := Pp.out.lt
    have qwant0 := Pwant.out.c0
    have qwant1 := Pwant.out.c1
    have ywant := Pwant.out.lt
    have qx0 := Px.out.c0
    have qx1 := Px.out.c1
    have yx := Px.out.lt
    have mo0 := Oo.out.m0
    have mo1 := Oo.out.m1
    have mo2 := Oo.out.m2
    have mo3 := Oo.out.m3
    have mo4 := Oo.out.m4
    have myo := Oo.out.lt
    go_wp2_with fail
    clear qp0 qp1 yp qwant0 qwant1 ywant qx0 qx1 yx
    clear mo0 mo1 mo2 mo3 mo4 myo
    refine (lgPool_c Px.out.inn Pwant.out.inn HSq.out).mono ?_
    rintro e w8 ⟨rfl, hb⟩
    replace Pp := Lib.hid (Pp.out.bel hb)
    replace Oo := Lib.hid (Oo.out.bel hb)
    replace Pwant := Lib.hid (Pwant.out.bel hb)
    replace Px := Lib.hid (Px.out.bel hb)
    replace KW := Lib.hid (KW.out.tr hb)
    clear hb
    have qp0 := Pp.out.c0
    have qp1 := Pp.out.c1
    have yp := Pp.out.lt
    have qwant0 := Pwant.out.c0
    have qwant1 := Pwant.out.c1
    have ywant := Pwant.out.lt
    have qx0 := Px.out.c0
    have qx1 := Px.out.c1
    have yx := Px.out.lt
    have mo0 := Oo.out.m0
    have mo1 := Oo.out.m1
    have mo2 := Oo.out.m2
    have mo3 := Oo.out.m3
    have mo4 := Oo.out.m4
    have myo := Oo.out.lt
    go_wp2
    go_ret
    exact ⟨rfl, KW.out⟩
  have EO := Lib.hid (chO_ok (p := p) hoo)
  have HOO := Lib.hid hoo
  clear hoo
  cases hF : opF p ⟨kd, nm, ds, n', tx⟩
  · have HE := Lib.hid (And.intro (EO.out.1.trans (ch_none HV.out hF).1) (EO.out.2.trans (ch_none HV.out hF).2))
    clear hF
    go_wp2_with fail
    have hP := (PVar.new Ip.out).bel (bel_alloc (Below.refl _ _) (.cells #[.int .i64 kd, .string nm, .string ds, .int .i64 n', .string tx] 74))
    have hO : OVar ((w1.alloc (.cells #[.slice Ap p.slots.length cp, .slice Bp p.vols.length dp] 30)).alloc (.cells #[.int .i64 kd, .string nm, .string ds, .int .i64 n', .string tx] 74)) (w1.heap.size + 1) kd nm ds n' tx := ⟨Blk.nw2 _ _ _ _⟩
    have hb : Bel w1 ((w1.alloc (.cells #[.slice Ap p.slots.length cp, .slice Bp p.vols.length dp] 30)).alloc (.cells #[.int .i64 kd, .string nm, .string ds, .int .i64 n', .string tx] 74)) := bel_alloc (bel_alloc (Below.refl _ _) _) _
    generalize ((w1.alloc (.cells #[.slice Ap p.slots.length cp, .slice Bp p.vols.length dp] 30)).alloc (.cells #[.int .i64 kd, .string nm, .string ds, .int .i64 n', .string tx] 74)) = W2 at hP hO hb ⊢
    replace Ip := Lib.hid (Ip.out.bel hb)
    replace KW := Lib.hid (KW.out.tr hb)
    obtain ⟨bkp, hbn⟩ : ∃ b, w1.heap.size = b := ⟨_, rfl⟩
    rw [hbn] at hP hO ⊢
    obtain ⟨bko, hbo⟩ : ∃ b, bkp + 1 = b := ⟨_, rfl⟩
    rw [hbo] at hO ⊢
    have Pp := Lib.hid hP
    have Oo := Lib.hid hO
    clear hP hO hb hbn hbo Ip
    refine (specOp_n Pp.out.inn HSp.out HSO.out HE.out).mono ?_
    rintro e w3 ⟨Awant, Bwant, cwant, dwant, rfl, hin, hb⟩
    replace Pp := Lib.hid (Pp.out.bel hb)
    replace Oo := Lib.hid (Oo.out.bel hb)
    replace KW := Lib.hid (KW.out.tr hb)
    have Iwant := Lib.hid hin
    clear hin hb
    have qp0 := Pp.out.c0
    have qp1 := Pp.out.c1
    have yp := Pp.out.lt
    have mo0 := Oo.out.m0
    have mo1 := Oo.out.m1
    have mo2 := Oo.out.m2
    have mo3 := Oo.out.m3
    have mo4 := Oo.out.m4
    have myo := Oo.out.lt
    go_wp2_with fail
    clear qp0 qp1 yp
    clear mo0 mo1 mo2 mo3 mo4 myo
    have hnew := PVar.new Iwant.out
    have hb : Bel w3 (w3.alloc (.cells #[.slice Awant p.slots.length cwant, .slice Bwant p.vols.length dwant] 30)) := bel_alloc (Below.refl _ _) _
    generalize w3.alloc (.cells #[.slice Awant p.slots.length cwant, .slice Bwant p.vols.length dwant] 30) = W4 at hnew hb ⊢
    replace Pp := Lib.hid (Pp.out.bel hb)
    replace Oo := Lib.hid (Oo.out.bel hb)
    replace Iwant := Lib.hid (Iwant.out.bel hb)
    replace KW := Lib.hid (KW.out.tr hb)
    obtain ⟨bkwant, hbn⟩ : ∃ b, w3.heap.size = b := ⟨_, rfl⟩
    rw [hbn] at hnew ⊢
    have Pwant := Lib.hid hnew
    clear hnew hb hbn Iwant
    refine (implOp_n Pp.out.inn HSp.out HSO.out HE.out).mono ?_
    rintro e w5 ⟨Ax, Bx, cx, dx, rfl, hin, hb⟩
    replace Pp := Lib.hid (Pp.out.bel hb)
    replace Oo := Lib.hid (Oo.out.bel hb)
    replace Pwant := Lib.hid (Pwant.out.bel hb)
    replace KW := Lib.hid (KW.out.tr hb)
    have Ix := Lib.hid hin
    clear hin hb
    have qp0 := Pp.out.c0
    have qp1 := Pp.out.c1
    have yp := Pp.out.lt
    have qwant0 := Pwant.out.c0
    have qwant1 := Pwant.out.c1
    have ywant := Pwant.out.lt
    have mo0 := Oo.out.m0
    have mo1 := Oo.out.m1
    have mo2 := Oo.out.m2
    have mo3 := Oo.out.m3
    have mo4 := Oo.out.m4
    have myo := Oo.out.lt
    go_wp2_with fail
    clear qp0 qp1 yp qwant0 qwant1 ywant
    clear mo0 mo1 mo2 mo3 mo4 myo
    have hnew := PVar.new Ix.out
    have hb : Bel w5 (w5.alloc (.cells #[.slice Ax p.slots.length cx, .slice Bx p.vols.length dx] 30)) := bel_alloc (Below.refl _ _) _
    generalize w5.alloc (.cells #[.slice Ax p.slots.length cx, .slice Bx p.vols.length dx] 30) = W6 at hnew hb ⊢
    replace Pp := Lib.hid (Pp.out.bel hb)
    replace Oo := Lib.hid (Oo.out.bel hb)
    replace Pwant := Lib.hid (Pwant.out.bel hb)
    replace Ix := Lib.hid (Ix.out.bel hb)
    replace KW := Lib.hid (KW.out.tr hb)
    obtain ⟨bkx, hbn⟩ : ∃ b, w5.heap.size = b := ⟨_, rfl⟩
    rw [hbn] at hnew ⊢
    have Px := Lib.hid hnew
    clear hnew hb hbn Ix
    refine (lgPool_c Px.out.inn Pwant.out.inn HSp.out).mono ?_
    rintro e w7 ⟨rfl, hb⟩
    replace Pp := Lib.hid (Pp.out.bel hb)
    replace Oo := Lib.hid (Oo.out.bel hb)
    replace Pwant := Lib.hid (Pwant.out.bel hb)
    replace Px := Lib.hid (Px.out.bel hb)
    replace KW := Lib.hid (KW.out.tr hb)
    clear hb
    have qp0 := Pp.out.c0
    have qp1 := Pp.out.c1
    have yp := Pp.out.lt
    have qwant0 := Pwant.out.c0
    have qwant1 := Pwant.out.c1
    have ywant := Pwant.out.lt
    have qx0 := Px.out.c0
    have qx1 := Px.out.c1
    have yx := Px.out.lt
    have mo0 := Oo.out.m0
    have mo1 := Oo.out.m1
    have mo2 := Oo.out.m2
    have mo3 := Oo.out.m3
    have mo4 := Oo.out.m4
    have myo := Oo.out.lt
    go_wp2_with fail
    clear qp0 qp1 yp qwant0 qwant1 ywant qx0 qx1 yx
    clear mo0 mo1 mo2 mo3 mo4 myo
    refine (lgPool_c Px.out.inn Pwant.out.inn HSp.out).mono ?_
    rintro e w8 ⟨rfl, hb⟩
    replace Pp := Lib.hid (Pp.out.bel hb)
    replace Oo := Lib.hid (Oo.out.bel hb)
    replace Pwant := Lib.hid (Pwant.out.bel hb)
    replace Px := Lib.hid (Px.out.bel hb)
    replace KW := Lib.hid (KW.out.tr hb)
    clear hb
    have qp0 := Pp.out.c0
    have qp1 := Pp.out.c1
    have yp := Pp.out.lt
    have qwant0 := Pwant.out.c0
    have qwant1 := Pwant.out.c1
    have ywant := Pwant.out.lt
    have qx0 := Px.out.c0
    have qx1 := Px.out.c1
    have yx := Px.out.lt
    have mo0 := Oo.out.m0
    have mo1 := Oo.out.m1
    have mo2 := Oo.out.m2
    have mo3 := Oo.out.m3
    have mo4 := Oo.out.m4
    have myo := Oo.out.lt
    go_wp2
    go_ret
    exact ⟨rfl, KW.out⟩
  rename_i q
  have HE := Lib.hid (And.intro (EO.out.1.trans (ch_some HV.out hF).1) (EO.out.2.trans (ch_some HV.out hF).2))
  have hqv := opF_ok HV.out hF
  have HSq := Lib.hid hqv.small
  have HVq := Lib.hid hqv
  have HF := Lib.hid hF
  clear hqv hF
  have hl4 := HV.out.v.len
  by_cases hl0 : p.vols.length = 0
  · have hl1 : ((p.vols.length : Int) == 0) = true := by simp [hl0]
    have HL0 := Lib.hid hl0
    clear hl0
    go_wp2_with fail
    have hP := (PVar.new Ip.out).bel (bel_alloc (Below.refl _ _) (.cells #[.int .i64 kd, .string nm, .string ds, .int .i64 n', .string tx] 74))
    have hO : OVar ((w1.alloc (.cells #[.slice Ap p.slots.length cp, .slice Bp p.vols.length dp] 30)).alloc (.cells #[.int .i64 kd, .string nm, .string ds, .int .i64 n', .string tx] 74)) (w1.heap.size + 1) kd nm ds n' tx := ⟨Blk.nw2 _ _ _ _⟩
    have hb : Bel w1 ((w1.alloc (.cells #[.slice Ap p.slots.length cp, .slice Bp p.vols.length dp] 30)).alloc (.cells #[.int .i64 kd, .string nm, .string ds, .int .i64 n', .string tx] 74)) := bel_alloc (bel_alloc (Below.refl _ _) _) _
    generalize ((w1.alloc (.cells #[.slice Ap p.slots.length cp, .slice Bp p.vols.length dp] 30)).alloc (.cells #[.int .i64 kd, .string nm, .string ds, .int .i64 n', .string tx] 74)) = W2 at hP hO hb ⊢
    replace Ip := Lib.hid (Ip.out.bel hb)
    replace KW := Lib.hid (KW.out.tr hb)
    obtain ⟨bkp, hbn⟩ : ∃ b, w1.heap.size = b := ⟨_, rfl⟩
    rw [hbn] at hP hO ⊢
    obtain ⟨bko, hbo⟩ : ∃ b, bkp + 1 = b := ⟨_, rfl⟩
    rw [hbo] at hO ⊢
    have Pp := Lib.hid hP
    have Oo := Lib.hid hO
    clear hP hO hb hbn hbo Ip
    refine (specOp_n Pp.out.inn HSp.out HSO.out HE.out).mono ?_
    rintro e w3 ⟨Awant, Bwant, cwant, dwant, rfl, hin, hb⟩
    replace Pp := Lib.hid (Pp.out.bel hb)
    replace Oo := Lib.hid (Oo.out.bel hb)
    replace KW := Lib.hid (KW.out.tr hb)
    have Iwant := Lib.hid hin
    clear hin hb
    have qp0 := Pp.out.c0
    have qp1 := Pp.out.c1
    have yp := Pp.out.lt
    have mo0 := Oo.out.m0
    have mo1 := Oo.out.m1
    have mo2 := Oo.out.m2
    have mo3 := Oo.out.m3
    have mo4 := Oo.out.m4
    have myo := Oo.out.lt
    go_wp2_with fail
    clear qp0 qp1 yp
    clear mo0 mo1 mo2 mo3 mo4 myo
    have hnew := PVar.new Iwant.out
    have hb : Bel w3 (w3.alloc (.cells #[.slice Awant q.slots.length cwant, .slice Bwant q.vols.length dwant] 30)) := bel_alloc (Below.refl _ _) _
    generalize w3.alloc (.cells #[.slice Awant q.slots.length cwant, .slice Bwant q.vols.length dwant] 30) = W4 at hnew hb ⊢
    replace Pp := Lib.hid (Pp.out.bel hb)
    replace Oo := Lib.hid (Oo.out.bel hb)
    replace Iwant := Lib.hid (Iwant.out.bel hb)
    replace KW := Lib.hid (KW.out.tr hb)
    obtain ⟨bkwant, hbn⟩ : ∃ b, w3.heap.size = b := ⟨_, rfl⟩
    rw [hbn] at hnew ⊢
    have Pwant := Lib.hid hnew
    clear hnew hb hbn Iwant
    refine (implOp_n Pp.out.inn HSp.out HSO.out HE.out).mono ?_
    rintro e w5 ⟨Ax, Bx, cx, dx, rfl, hin, hb⟩
    replace Pp := Lib.hid (Pp.out.bel hb)
    replace Oo := Lib.hid (Oo.out.bel hb)
    replace Pwant := Lib.hid (Pwant.out.bel hb)
    replace KW := Lib.hid (KW.out.tr hb)
    have Ix := Lib.hid hin
    clear hin hb
    have qp0 := Pp.out.c0
    have qp1 := Pp.out.c1
    have yp := Pp.out.lt
    have qwant0 := Pwant.out.c0
    have qwant1 := Pwant.out.c1
    have ywant := Pwant.out.lt
    have mo0 := Oo.out.m0
    have mo1 := Oo.out.m1
    have mo2 := Oo.out.m2
    have mo3 := Oo.out.m3
    have mo4 := Oo.out.m4
    have myo := Oo.out.lt
    go_wp2_with fail
    clear qp0 qp1 yp qwant0 qwant1 ywant
    clear mo0 mo1 mo2 mo3 mo4 myo
    have hnew := PVar.new Ix.out
    have hb : Bel w5 (w5.alloc (.cells #[.slice Ax q.slots.length cx, .slice Bx q.vols.length dx] 30)) := bel_alloc (Below.refl _ _) _
    generalize w5.alloc (.cells #[.slice Ax q.slots.length cx, .slice Bx q.vols.length dx] 30) = W6 at hnew hb ⊢
    replace Pp := Lib.hid (Pp.out.bel hb)
    replace Oo := Lib.hid (Oo.out.bel hb)
    replace Pwant := Lib.hid (Pwant.out.bel hb)
    replace Ix := Lib.hid (Ix.out.bel hb)
    replace KW := Lib.hid (KW.out.tr hb)
    obtain ⟨bkx, hbn⟩ : ∃ b, w5.heap.size = b := ⟨_, rfl⟩
    rw [hbn] at hnew ⊢
    have Px := Lib.hid hnew
    clear hnew hb hbn Ix
    refine (lgPool_c Px.out.inn Pwant.out.inn HSq.out).mono ?_
    rintro e w7 ⟨rfl, hb⟩
    replace Pp := Lib.hid (Pp.out.bel hb)
    replace Oo := Lib.hid (Oo.out.bel hb)
    replace Pwant := Lib.hid (Pwant.out.bel hb)
    replace Px := Lib.hid (Px.out.bel hb)
    replace KW := Lib.hid (KW.out.tr hb)
    clear hb
    have qp0 := Pp.out.c0
    have qp1 := Pp.out.c1
    have yp := Pp.out.lt
    have qwant0 := Pwant.out.c0
    have qwant1 := Pwant.out.c1
    have ywant := Pwant.out.lt
    have qx0 := Px.out.c0
    have qx1 := Px.out.c1
    have yx := Px.out.lt
    have mo0 := Oo.out.m0
    have mo1 := Oo.out.m1
    have mo2 := Oo.out.m2
    have mo3 := Oo.out.m3
    have mo4 := Oo.out.m4
    have myo := Oo.out.lt
    go_wp2_with fail
    clear qp0 qp1 yp qwant0 qwant1 ywant qx0 qx1 yx
    clear mo0 mo1 mo2 mo3 mo4 myo
    refine (lgPool_c Px.out.inn Pwant.out.inn HSq.out).mono ?_
    rintro e w8 ⟨rfl, hb⟩
    replace Pp := Lib.hid (Pp.out.bel hb)
    replace Oo := Lib.hid (Oo.out.bel hb)
    replace Pwant := Lib.hid (Pwant.out.bel hb)
    replace Px := Lib.hid (Px.out.bel hb)
    replace KW := Lib.hid (KW.out.tr hb)
    clear hb
    have qp0 := Pp.out.c0
    have qp1 := Pp.out.c1
    have yp := Pp.out.lt
    have qwant0 := Pwant.out.c0
    have qwant1 := Pwant.out.c1
    have ywant := Pwant.out.lt
    have qx0 := Px.out.c0
    have qx1 := Px.out.c1
    have yx := Px.out.lt
    have mo0 := Oo.out.m0
    have mo1 := Oo.out.m1
    have mo2 := Oo.out.m2
    have mo3 := Oo.out.m3
    have mo4 := Oo.out.m4
    have myo := Oo.out.lt
    go_wp2
    go_ret
    exact ⟨rfl, KW.out⟩
  have hlp : 0 < p.vols.length := by omega
  have hl1 : ((p.vols.length : Int) == 0) = false := by simpa using hl0
  clear hl0
  obtain ⟨i, hi, hil⟩ : ∃ i : Nat, (n2 : Int).tmod (p.vols.length : Int) = (i : Int) ∧ i < p.vols.length := ⟨n2 % p.vols.length, by rw [Int.tmod_eq_emod_of_nonneg (by omega)]; rfl, Nat.mod_lt _ hlp⟩
  obtain ⟨v, hv⟩ := getQ hil
  have hvn : isNm v.name = true := HV.out.v.nm hv
  have hi2 : (n2 : Int) % (p.vols.length : Int) = (i : Int) := by rw [← hi, Int.tmod_eq_emod_of_nonneg (by omega)]
  have HI := Lib.hid hi
  have HI2 := Lib.hid hi2
  clear hi hi2
  cases he1 : v.name.toList == nm.toList
  · cases he2 : v.name.toList == ds.toList
    · have hne1 : v.name ≠ nm := fun e => by rw [e] at he1; simp at he1
      have hne2 : v.name ≠ ds := fun e => by rw [e] at he2; simp at he2
      have HN1 := Lib.hid hne1
      have HN2 := Lib.hid hne2
      clear hne1 hne2
      obtain ⟨j, hmod, hj4⟩ : ∃ j : Nat, (n2 : Int) % 3 = (j : Int) ∧ j < 3 := ⟨n2 % 3, by omega, by omega⟩
      obtain ⟨t, htx⟩ := getQ (show j < three.length from hj4)
      have hel : ∀ h : j < ([.string ⟨#[97]⟩, .string ⟨#[]⟩, .string ⟨#[100, 99]⟩] : List Value).length, ([.string ⟨#[97]⟩, .string ⟨#[]⟩, .string ⟨#[100, 99]⟩] : List Value)[j]'h = .string t := fun h => by
        have hg : (three.map Value.string)[j]? = some (.string t) := by simp [htx]
        exact (List.getElem?_eq_some_iff.1 hg).2
      have HTX := Lib.hid (List.mem_of_getElem? htx)
      clear htx
      have HTK := Lib.hid (three_ok HTX.out)
      have hopw : opOk ⟨2, v.name, ⟨#[]⟩, 0, t⟩ = true := opW_ok hvn HTK.out
      have HSW : Hid (SmallO ⟨2, v.name, ⟨#[]⟩, 0, t⟩) := ⟨by have := nm_size hvn; show v.name.size ≤ _; omega, by show ByteArray.size ⟨#[]⟩ ≤ _; decide, by have := tOk_size HTK.out; show t.size ≤ _; omega⟩
      have EW := fun r : Pool => chO_ok (p := r) hopw
      obtain ⟨y, hy⟩ : ∃ y, chO q ⟨2, v.name, ⟨#[]⟩, 0, t⟩ = y := ⟨_, rfl⟩
      obtain ⟨oky, hoky⟩ : ∃ b, chOB q ⟨2, v.name, ⟨#[]⟩, 0, t⟩ = b := ⟨_, rfl⟩
      obtain ⟨z, hz⟩ : ∃ z, chO p ⟨2, v.name, ⟨#[]⟩, 0, t⟩ = z := ⟨_, rfl⟩
      obtain ⟨okz, hokz⟩ : ∃ b, chOB p ⟨2, v.name, ⟨#[]⟩, 0, t⟩ = b := ⟨_, rfl⟩
      obtain ⟨u, hu⟩ : ∃ u, chO z ⟨kd, nm, ds, n', tx⟩ = u := ⟨_, rfl⟩
      obtain ⟨oku, hoku⟩ : ∃ b, chOB z ⟨kd, nm, ds, n', tx⟩ = b := ⟨_, rfl⟩
      have hall : oky = true → okz = true → oku = true → poolT u = poolT y := fun h1 h2 h3 => op_apart_ch HV.out HF.out HOO.out hopw hy (hoky.trans h1) hz (hokz.trans h2) hu (hoku.trans h3) rfl HN1.out HN2.out
      have HSy := Lib.hid (show SmallP y from hy ▸ chO_small HSq.out)
      have hsz : SmallP z := hz ▸ chO_small HSp.out
      have HSz := Lib.hid hsz
      have HSu := Lib.hid (show SmallP u from hu ▸ chO_small hsz)
      have HEy := Lib.hid (And.intro hy hoky)
      have HEz := Lib.hid (And.intro hz hokz)
      have HEu := Lib.hid (And.intro hu hoku)
      have HALL := Lib.hid hall
      have HVV := Lib.hid hv
      clear EW hy hoky hz hokz hu hoku hall hsz hopw
      replace hv := HVV.out
      go_wp2_with fail
      have hP := (PVar.new Ip.out).bel (bel_alloc (Below.refl _ _) (.cells #[.int .i64 kd, .string nm, .string ds, .int .i64 n', .string tx] 74))
      have hO : OVar ((w1.alloc (.cells #[.slice Ap p.slots.length cp, .slice Bp p.vols.length dp] 30)).alloc (.cells #[.int .i64 kd, .string nm, .string ds, .int .i64 n', .string tx] 74)) (w1.heap.size + 1) kd nm ds n' tx := ⟨Blk.nw2 _ _ _ _⟩
      have hb : Bel w1 ((w1.alloc (.cells #[.slice Ap p.slots.length cp, .slice Bp p.vols.length dp] 30)).alloc (.cells #[.int .i64 kd, .string nm, .string ds, .int .i64 n', .string tx] 74)) := bel_alloc (bel_alloc (Below.refl _ _) _) _
      generalize ((w1.alloc (.cells #[.slice Ap p.slots.length cp, .slice Bp p.vols.length dp] 30)).alloc (.cells #[.int .i64 kd, .string nm, .string ds, .int .i64 n', .string tx] 74)) = W2 at hP hO hb ⊢
      replace Ip := Lib.hid (Ip.out.bel hb)
      replace KW := Lib.hid (KW.out.tr hb)
      obtain ⟨bkp, hbn⟩ : ∃ b, w1.heap.size = b := ⟨_, rfl⟩
      rw [hbn] at hP hO ⊢
      obtain ⟨bko, hbo⟩ : ∃ b, bkp + 1 = b := ⟨_, rfl⟩
      rw [hbo] at hO ⊢
      have Pp := Lib.hid hP
      have Oo := Lib.hid hO
      clear hP hO hb hbn hbo Ip
      refine (specOp_n Pp.out.inn HSp.out HSO.out HE.out).mono ?_
      rintro e w3 ⟨Awant, Bwant, cwant, dwant, rfl, hin, hb⟩
      replace Pp := Lib.hid (Pp.out.bel hb)
      replace Oo := Lib.hid (Oo.out.bel hb)
      replace KW := Lib.hid (KW.out.tr hb)
      have Iwant := Lib.hid hin
      clear hin hb
      have qp0 := Pp.out.c0
      have qp1 := Pp.out.c1
      have yp := Pp.out.lt
      have mo0 := Oo.out.m0
      have mo1 := Oo.out.m1
      have mo2 := Oo.out.m2
      have mo3 := Oo.out.m3
      have mo4 := Oo.out.m4
      have myo := Oo.out.lt
      go_wp2_with fail
      clear qp0 qp1 yp
      clear mo0 mo1 mo2 mo3 mo4 myo
      have hnew := PVar.new Iwant.out
      have hb : Bel w3 (w3.alloc (.cells #[.slice Awant q.slots.length cwant, .slice Bwant q.vols.length dwant] 30)) := bel_alloc (Below.refl _ _) _
      generalize w3.alloc (.cells #[.slice Awant q.slots.length cwant, .slice Bwant q.vols.length dwant] 30) = W4 at hnew hb ⊢
      replace Pp := Lib.hid (Pp.out.bel hb)
      replace Oo := Lib.hid (Oo.out.bel hb)
      replace Iwant := Lib.hid (Iwant.out.bel hb)
      replace KW := Lib.hid (KW.out.tr hb)
      obtain ⟨bkwant, hbn⟩ : ∃ b, w3.heap.size = b := ⟨_, rfl⟩
      rw [hbn] at hnew ⊢
      have Pwant := Lib.hid hnew
      clear hnew hb hbn Iwant
      refine (implOp_n Pp.out.inn HSp.out HSO.out HE.out).mono ?_
      rintro e w5 ⟨Ax, Bx, cx, dx, rfl, hin, hb⟩
      replace Pp := Lib.hid (Pp.out.bel hb)
      replace Oo := Lib.hid (Oo.out.bel hb)
      replace Pwant := Lib.hid (Pwant.out.bel hb)
      replace KW := Lib.hid (KW.out.tr hb)
      have Ix := Lib.hid hin
      clear hin hb
      have qp0 := Pp.out.c0
      have qp1 := Pp.out.c1
      have yp := Pp.out.lt
      have qwant0 := Pwant.out.c0
      have qwant1 := Pwant.out.c1
      have ywant := Pwant.out.lt
      have mo0 := Oo.out.m0
      have mo1 := Oo.out.m1
      have mo2 := Oo.out.m2
      have mo3 := Oo.out.m3
      have mo4 := Oo.out.m4
      have myo := Oo.out.lt
      go_wp2_with fail
      clear qp0 qp1 yp qwant0 qwant1 ywant
      clear mo0 mo1 mo2 mo3 mo4 myo
      have hnew := PVar.new Ix.out
      have hb : Bel w5 (w5.alloc (.cells #[.slice Ax q.slots.length cx, .slice Bx q.vols.length dx] 30)) := bel_alloc (Below.refl _ _) _
      generalize w5.alloc (.cells #[.slice Ax q.slots.length cx, .slice Bx q.vols.length dx] 30) = W6 at hnew hb ⊢
      replace Pp := Lib.hid (Pp.out.bel hb)
      replace Oo := Lib.hid (Oo.out.bel hb)
      replace Pwant := Lib.hid (Pwant.out.bel hb)
      replace Ix := Lib.hid (Ix.out.bel hb)
      replace KW := Lib.hid (KW.out.tr hb)
      obtain ⟨bkx, hbn⟩ : ∃ b, w5.heap.size = b := ⟨_, rfl⟩
      rw [hbn] at hnew ⊢
      have Px := Lib.hid hnew
      clear hnew hb hbn Ix
      refine (lgPool_c Px.out.inn Pwant.out.inn HSq.out).mono ?_
      rintro e w7 ⟨rfl, hb⟩
      replace Pp := Lib.hid (Pp.out.bel hb)
      replace Oo := Lib.hid (Oo.out.bel hb)
      replace Pwant := Lib.hid (Pwant.out.bel hb)
      replace Px := Lib.hid (Px.out.bel hb)
      replace KW := Lib.hid (KW.out.tr hb)
      clear hb
      have qp0 := Pp.out.c0
      have qp1 := Pp.out.c1
      have yp := Pp.out.lt
      have qwant0 := Pwant.out.c0
      have qwant1 := Pwant.out.c1
      have ywant := Pwant.out.lt
      have qx0 := Px.out.c0
      have qx1 := Px.out.c1
      have yx := Px.out.lt
      have mo0 := Oo.out.m0
      have mo1 := Oo.out.m1
      have mo2 := Oo.out.m2
      have mo3 := Oo.out.m3
      have mo4 := Oo.out.m4
      have myo := Oo.out.lt
      go_wp2_with fail
      clear qp0 qp1 yp qwant0 qwant1 ywant qx0 qx1 yx
      clear mo0 mo1 mo2 mo3 mo4 myo
      obtain ⟨ad, A3, n3, hBp, hcv, _, _, _⟩ := at_vol Pp.out.inn.v hv
      subst hBp
      have gp0 := gb_cell Pp.out.c0
      have gp1 := gb_cell Pp.out.c1
      have gv := gb_cell hcv
      have hi := HI.out
      have hi2 := HI2.out
      refine wp_region_gb (by kernel_rfl) (by kernel_rfl) ?_
      repeat (first | go_big_quiet_skip | (go_big_quiet_want; go_big_quiet_op; first | go_big_quiet_on | (apply Exists.intro; refine ⟨fun _ => ?_, ?_⟩; (first | (go_at_call 32; exact gb_call (implText_n _ _ _))); go_big_quiet_on)))
      refine wpQuiet_nil ?_
      rintro w8 ⟨⟨_, hb⟩, rfl⟩
      replace hb : Bel w7 w8 := hb
      clear gp0 gp1
      replace Pp := Lib.hid (Pp.out.bel hb)
      replace Oo := Lib.hid (Oo.out.bel hb)
      replace Pwant := Lib.hid (Pwant.out.bel hb)
      replace Px := Lib.hid (Px.out.bel hb)
      replace KW := Lib.hid (KW.out.tr hb)
      clear hb
      clear hi hi2 hcv gv
      clear hv
      have qp0 := Pp.out.c0
      have qp1 := Pp.out.c1
      have yp := Pp.out.lt
      have qwant0 := Pwant.out.c0
      have qwant1 := Pwant.out.c1
      have ywant := Pwant.out.lt
      have qx0 := Px.out.c0
      have qx1 := Px.out.c1
      have yx := Px.out.lt
      have mo0 := Oo.out.m0
      have mo1 := Oo.out.m1
      have mo2 := Oo.out.m2
      have mo3 := Oo.out.m3
      have mo4 := Oo.out.m4
      have myo := Oo.out.lt
      go_wp2_with fail
      clear qp0 qp1 yp qwant0 qwant1 ywant qx0 qx1 yx
      clear mo0 mo1 mo2 mo3 mo4 myo
      clear hel hmod
      have hO : OVar ((w8.alloc (.cells #[.string ⟨#[97]⟩, .string ⟨#[]⟩, .string ⟨#[100, 99]⟩] 9)).alloc (.cells #[.int .i64 2, .string v.name, .string ⟨#[]⟩, .int .i64 0, .string t] 74)) (w8.heap.size + 1) 2 v.name ⟨#[]⟩ 0 t := ⟨Blk.nw2 _ _ _ _⟩
      have hb : Bel w8 ((w8.alloc (.cells #[.string ⟨#[97]⟩, .string ⟨#[]⟩, .string ⟨#[100, 99]⟩] 9)).alloc (.cells #[.int .i64 2, .string v.name, .string ⟨#[]⟩, .int .i64 0, .string t] 74)) := bel_alloc (bel_alloc (Below.refl _ _) _) _
      generalize ((w8.alloc (.cells #[.string ⟨#[97]⟩, .string ⟨#[]⟩, .string ⟨#[100, 99]⟩] 9)).alloc (.cells #[.int .i64 2, .string v.name, .string ⟨#[]⟩, .int .i64 0, .string t] 74)) = W9 at hO hb ⊢
      replace Pp := Lib.hid (Pp.out.bel hb)
      replace Oo := Lib.hid (Oo.out.bel hb)
      replace Pwant := Lib.hid (Pwant.out.bel hb)
      replace Px := Lib.hid (Px.out.bel hb)
      replace KW := Lib.hid (KW.out.tr hb)
      obtain ⟨bkw, hbn⟩ : ∃ b, w8.heap.size + 1 = b := ⟨_, rfl⟩
      rw [hbn] at hO ⊢
      have Ow := Lib.hid hO
      clear hO hb hbn
      refine (implOp_n Px.out.inn HSq.out HSW.out HEy.out).mono ?_
      rintro e w10 ⟨Ay, By, cy, dy, rfl, hin, hb⟩
      replace Pp := Lib.hid (Pp.out.bel hb)
      replace Oo := Lib.hid (Oo.out.bel hb)
      replace Pwant := Lib.hid (Pwant.out.bel hb)
      replace Px := Lib.hid (Px.out.bel hb)
      replace Ow := Lib.hid (Ow.out.bel hb)
      replace KW := Lib.hid (KW.out.tr hb)
      have Iy := Lib.hid hin
      clear hin hb
      have qp0 := Pp.out.c0
      have qp1 := Pp.out.c1
      have yp := Pp.out.lt
      have qwant0 := Pwant.out.c0
      have qwant1 := Pwant.out.c1
      have ywant := Pwant.out.lt
      have qx0 := Px.out.c0
      have qx1 := Px.out.c1
      have yx := Px.out.lt
      have mo0 := Oo.out.m0
      have mo1 := Oo.out.m1
      have mo2 := Oo.out.m2
      have mo3 := Oo.out.m3
      have mo4 := Oo.out.m4
      have myo := Oo.out.lt
      have mw0 := Ow.out.m0
      have mw1 := Ow.out.m1
      have mw2 := Ow.out.m2
      have mw3 := Ow.out.m3
      have mw4 := Ow.out.m4
      have myw := Ow.out.lt
      go_wp2_with fail
      clear qp0 qp1 yp qwant0 qwant1 ywant qx0 qx1 yx
      clear mo0 mo1 mo2 mo3 mo4 myo
      clear mw0 mw1 mw2 mw3 mw4 myw
      have hnew := PVar.new Iy.out
      have hb : Bel w10 (w10.alloc (.cells #[.slice Ay y.slots.length cy, .slice By y.vols.length dy] 30)) := bel_alloc (Below.refl _ _) _
      generalize w10.alloc (.cells #[.slice Ay y.slots.length cy, .slice By y.vols.length dy] 30) = W11 at hnew hb ⊢
      replace Pp := Lib.hid (Pp.out.bel hb)
      replace Oo := Lib.hid (Oo.out.bel hb)
      replace Pwant := Lib.hid (Pwant.out.bel hb)
      replace Px := Lib.hid (Px.out.bel hb)
      replace Ow := Lib.hid (Ow.out.bel hb)
      replace Iy := Lib.hid (Iy.out.bel hb)
      replace KW := Lib.hid (KW.out.tr hb)
      obtain ⟨bky, hbn⟩ : ∃ b, w10.heap.size = b := ⟨_, rfl⟩
      rw [hbn] at hnew ⊢
      have Py := Lib.hid hnew
      clear hnew hb hbn Iy
      refine (implOp_n Pp.out.inn HSp.out HSW.out HEz.out).mono ?_
      rintro e w12 ⟨Az, Bz, cz, dz, rfl, hin, hb⟩
      replace Pp := Lib.hid (Pp.out.bel hb)
      replace Oo := Lib.hid (Oo.out.bel hb)
      replace Pwant := Lib.hid (Pwant.out.bel hb)
      replace Px := Lib.hid (Px.out.bel hb)
      replace Ow := Lib.hid (Ow.out.bel hb)
      replace Py := Lib.hid (Py.out.bel hb)
      replace KW := Lib.hid (KW.out.tr hb)
      have Iz := Lib.hid hin
      clear hin hb
      have qp0 := Pp.out.c0
      have qp1 := Pp.out.c1
      have yp := Pp.out.lt
      have qwant0 := Pwant.out.c0
      have qwant1 := Pwant.out.c1
      have ywant := Pwant.out.lt
      have qx0 := Px.out.c0
      have qx1 := Px.out.c1
      have yx := Px.out.lt
      have qy0 := Py.out.c0
      have qy1 := Py.out.c1
      have yy := Py.out.lt
      have mo0 := Oo.out.m0
      have mo1 := Oo.out.m1
      have mo2 := Oo.out.m2
      have mo3 := Oo.out.m3
      have mo4 := Oo.out.m4
      have myo := Oo.out.lt
      have mw0 := Ow.out.m0
      have mw1 := Ow.out.m1
      have mw2 := Ow.out.m2
      have mw3 := Ow.out.m3
      have mw4 := Ow.out.m4
      have myw := Ow.out.lt
      go_wp2_with fail
      clear qp0 qp1 yp qwant0 qwant1 ywant qx0 qx1 yx qy0 qy1 yy
      clear mo0 mo1 mo2 mo3 mo4 myo
      clear mw0 mw1 mw2 mw3 mw4 myw
      have hnew := PVar.new Iz.out
      have hb : Bel w12 (w12.alloc (.cells #[.slice Az z.slots.length cz, .slice Bz z.vols.length dz] 30)) := bel_alloc (Below.refl _ _) _
      generalize w12.alloc (.cells #[.slice Az z.slots.length cz, .slice Bz z.vols.length dz] 30) = W13 at hnew hb ⊢
      replace Pp := Lib.hid (Pp.out.bel hb)
      replace Oo := Lib.hid (Oo.out.bel hb)
      replace Pwant := Lib.hid (Pwant.out.bel hb)
      replace Px := Lib.hid (Px.out.bel hb)
      replace Ow := Lib.hid (Ow.out.bel hb)
      replace Py := Lib.hid (Py.out.bel hb)
      replace Iz := Lib.hid (Iz.out.bel hb)
      replace KW := Lib.hid (KW.out.tr hb)
      obtain ⟨bkz, hbn⟩ : ∃ b, w12.heap.size = b := ⟨_, rfl⟩
      rw [hbn] at hnew ⊢
      have Pz := Lib.hid hnew
      clear hnew hb hbn Iz
      refine (implOp_n Pz.out.inn HSz.out HSO.out HEu.out).mono ?_
      rintro e w14 ⟨Au, Bu, cu, du, rfl, hin, hb⟩
      replace Pp := Lib.hid (Pp.out.bel hb)
      replace Oo := Lib.hid (Oo.out.bel hb)
      replace Pwant := Lib.hid (Pwant.out.bel hb)
      replace Px := Lib.hid (Px.out.bel hb)
      replace Ow := Lib.hid (Ow.out.bel hb)
      replace Py := Lib.hid (Py.out.bel hb)
      replace Pz := Lib.hid (Pz.out.bel hb)
      replace KW := Lib.hid (KW.out.tr hb)
      have Iu := Lib.hid hin
      clear hin hb
      by_cases hal : oky = true ∧ okz = true ∧ oku = true
      · obtain ⟨rfl, rfl, rfl⟩ := hal
        obtain ⟨tt, htt⟩ : ∃ tt, poolT y = tt := ⟨_, rfl⟩
        have HTY := Lib.hid htt
        have HTU := Lib.hid ((HALL.out rfl rfl rfl).trans htt)
        have hts : (tt.toList == tt.toList) = true := by simp
        clear htt
        have qp0 := Pp.out.c0
        have qp1 := Pp.out.c1
        have yp := Pp.out.lt
        have qwant0 := Pwant.out.c0
        have qwant1 := Pwant.out.c1
        have ywant := Pwant.out.lt
        have qx0 := Px.out.c0
        have qx1 := Px.out.c1
        have yx := Px.out.lt
        have qy0 := Py.out.c0
        have qy1 := Py.out.c1
        have yy := Py.out.lt
        have qz0 := Pz.out.c0
        have qz1 := Pz.out.c1
        have yz := Pz.out.lt
        have mo0 := Oo.out.m0
        have mo1 := Oo.out.m1
        have mo2 := Oo.out.m2
        have mo3 := Oo.out.m3
        have mo4 := Oo.out.m4
        have myo := Oo.out.lt
        have mw0 := Ow.out.m0
        have mw1 := Ow.out.m1
        have mw2 := Ow.out.m2
        have mw3 := Ow.out.m3
        have mw4 := Ow.out.m4
        have myw := Ow.out.lt
        go_wp2_with fail
        clear qp0 qp1 yp qwant0 qwant1 ywant qx0 qx1 yx qy0 qy1 yy qz0 qz1 yz
        clear mo0 mo1 mo2 mo3 mo4 myo
        clear mw0 mw1 mw2 mw3 mw4 myw
        have hnew := PVar.new Iu.out
        have hb : Bel w14 (w14.alloc (.cells #[.slice Au u.slots.length cu, .slice Bu u.vols.length du] 30)) := bel_alloc (Below.refl _ _) _
        generalize w14.alloc (.cells #[.slice Au u.slots.length cu, .slice Bu u.vols.length du] 30) = W15 at hnew hb ⊢
        replace Pp := Lib.hid (Pp.out.bel hb)
        replace Oo := Lib.hid (Oo.out.bel hb)
        replace Pwant := Lib.hid (Pwant.out.bel hb)
        replace Px := Lib.hid (Px.out.bel hb)
        replace Ow := Lib.hid (Ow.out.bel hb)
        replace Py := Lib.hid (Py.out.bel hb)
        replace Pz := Lib.hid (Pz.out.bel hb)
        replace Iu := Lib.hid (Iu.out.bel hb)
        replace KW := Lib.hid (KW.out.tr hb)
        obtain ⟨bku, hbn⟩ : ∃ b, w14.heap.size = b := ⟨_, rfl⟩
        rw [hbn] at hnew ⊢
        have Pu := Lib.hid hnew
        clear hnew hb hbn Iu
        have gy0 := gb_cell Py.out.c0
        have gy1 := gb_cell Py.out.c1
        have gu0 := gb_cell Pu.out.c0
        have gu1 := gb_cell Pu.out.c1
        refine wp_region_gb (by kernel_rfl) (by kernel_rfl) ?_
        repeat (first | go_big_quiet_skip | (go_big_quiet_want; go_big_quiet_op; first | go_big_quiet_on | (apply Exists.intro; refine ⟨fun _ => ?_, ?_⟩; (first | (go_at_call 32; exact gb_call (implText_n (Pu.out.bel (GB.h _)).inn HSu.out HTU.out)) | (go_at_call 32; exact gb_call (implText_n (Py.out.bel (GB.h _)).inn HSy.out HTY.out))); go_big_quiet_on)))
        refine wpQuiet_nil ?_
        rintro w16 ⟨⟨_, hb⟩, rfl⟩
        replace hb : Bel W15 w16 := hb
        clear gy0 gy1 gu0 gu1
        replace Pp := Lib.hid (Pp.out.bel hb)
        replace Oo := Lib.hid (Oo.out.bel hb)
        replace Pwant := Lib.hid (Pwant.out.bel hb)
        replace Px := Lib.hid (Px.out.bel hb)
        replace Ow := Lib.hid (Ow.out.bel hb)
        replace Py := Lib.hid (Py.out.bel hb)
        replace Pz := Lib.hid (Pz.out.bel hb)
        replace Pu := Lib.hid (Pu.out.bel hb)
        replace KW := Lib.hid (KW.out.tr hb)
        clear hb
        have qp0 := Pp.out.c0
        have qp1 := Pp.out.c1
        have yp := Pp.out.lt
        have qwant0 := Pwant.out.c0
        have qwant1 := Pwant.out.c1
        have ywant := Pwant.out.lt
        have qx0 := Px.out.c0
        have qx1 := Px.out.c1
        have yx := Px.out.lt
        have qy0 := Py.out.c0
        have qy1 := Py.out.c1
        have yy := Py.out.lt
        have qz0 := Pz.out.c0
        have qz1 := Pz.out.c1
        have yz := Pz.out.lt
        have qu0 := Pu.out.c0
        have qu1 := Pu.out.c1
        have yu := Pu.out.lt
        have mo0 := Oo.out.m0
        have mo1 := Oo.out.m1
        have mo2 := Oo.out.m2
        have mo3 := Oo.out.m3
        have mo4 := Oo.out.m4
        have myo := Oo.out.lt
        have mw0 := Ow.out.m0
        have mw1 := Ow.out.m1
        have mw2 := Ow.out.m2
        have mw3 := Ow.out.m3
        have mw4 := Ow.out.m4
        have myw := Ow.out.lt
        go_wp2
        go_ret
        exact ⟨rfl, KW.out⟩
      clear HALL HEy HEz HEu
      cases oky
      all_goals cases okz
      all_goals cases oku
      all_goals first | (exfalso; exact hal ⟨rfl, rfl, rfl⟩) | skip
      have qp0 := Pp.out.c0
      have qp1 := Pp.out.c1
      have yp := Pp.out.lt
      have qwant0 := Pwant.out.c0
      have qwant1 := Pwant.out.c1
      have ywant := Pwant.out.lt
      have qx0 := Px.out.c0
      have qx1 := Px.out.c1
      have yx := Px.out.lt
      have qy0 := Py.out.c0
      have qy1 := Py.out.c1
      have yy := Py.out.lt
      have qz0 := Pz.out.c0
      have qz1 := Pz.out.c1
      have yz := Pz.out.lt
      have mo0 := Oo.out.m0
      have mo1 := Oo.out.m1
      have mo2 := Oo.out.m2
      have mo3 := Oo.out.m3
      have mo4 := Oo.out.m4
      have myo := Oo.out.lt
      have mw0 := Ow.out.m0
      have mw1 := Ow.out.m1
      have mw2 := Ow.out.m2
      have mw3 := Ow.out.m3
      have mw4 := Ow.out.m4
      have myw := Ow.out.lt
      all_goals
        go_wp2
        go_ret
        exact ⟨rfl, bel_alloc KW.out _⟩
    · skip
      go_wp2_with fail
      have hP := (PVar.new Ip.out).bel (bel_alloc (Below.refl _ _) (.cells #[.int .i64 kd, .string nm, .string ds, .int .i64 n', .string tx] 74))
      have hO : OVar ((w1.alloc (.cells #[.slice Ap p.slots.length cp, .slice Bp p.vols.length dp] 30)).alloc (.cells #[.int .i64 kd, .string nm, .string ds, .int .i64 n', .string tx] 74)) (w1.heap.size + 1) kd nm ds n' tx := ⟨Blk.nw2 _ _ _ _⟩
      have hb : Bel w1 ((w1.alloc (.cells #[.slice Ap p.slots.length cp, .slice Bp p.vols.length dp] 30)).alloc (.cells #[.int .i64 kd, .string nm, .string ds, .int .i64 n', .string tx] 74)) := bel_alloc (bel_alloc (Below.refl _ _) _) _
      generalize ((w1.alloc (.cells #[.slice Ap p.slots.length cp, .slice Bp p.vols.length dp] 30)).alloc (.cells #[.int .i64 kd, .string nm, .string ds, .int .i64 n', .string tx] 74)) = W2 at hP hO hb ⊢
      replace Ip := Lib.hid (Ip.out.bel hb)
      replace KW := Lib.hid (KW.out.tr hb)
      obtain ⟨bkp, hbn⟩ : ∃ b, w1.heap.size = b := ⟨_, rfl⟩
      rw [hbn] at hP hO ⊢
      obtain ⟨bko, hbo⟩ : ∃ b, bkp + 1 = b := ⟨_, rfl⟩
      rw [hbo] at hO ⊢
      have Pp := Lib.hid hP
      have Oo := Lib.hid hO
      clear hP hO hb hbn hbo Ip
      refine (specOp_n Pp.out.inn HSp.out HSO.out HE.out).mono ?_
      rintro e w3 ⟨Awant, Bwant, cwant, dwant, rfl, hin, hb⟩
      replace Pp := Lib.hid (Pp.out.bel hb)
      replace Oo := Lib.hid (Oo.out.bel hb)
      replace KW := Lib.hid (KW.out.tr hb)
      have Iwant := Lib.hid hin
      clear hin hb
      have qp0 := Pp.out.c0
      have qp1 := Pp.out.c1
      have yp := Pp.out.lt
      have mo0 := Oo.out.m0
      have mo1 := Oo.out.m1
      have mo2 := Oo.out.m2
      have mo3 := Oo.out.m3
      have mo4 := Oo.out.m4
      have myo := Oo.out.lt
      go_wp2_with fail
      clear qp0 qp1 yp
      clear mo0 mo1 mo2 mo3 mo4 myo
      have hnew := PVar.new Iwant.out
      have hb : Bel w3 (w3.alloc (.cells #[.slice Awant q.slots.length cwant, .slice Bwant q.vols.length dwant] 30)) := bel_alloc (Below.refl _ _) _
      generalize w3.alloc (.cells #[.slice Awant q.slots.length cwant, .slice Bwant q.vols.length dwant] 30) = W4 at hnew hb ⊢
      replace Pp := Lib.hid (Pp.out.bel hb)
      replace Oo := Lib.hid (Oo.out.bel hb)
      replace Iwant := Lib.hid (Iwant.out.bel hb)
      replace KW := Lib.hid (KW.out.tr hb)
      obtain ⟨bkwant, hbn⟩ : ∃ b, w3.heap.size = b := ⟨_, rfl⟩
      rw [hbn] at hnew ⊢
      have Pwant := Lib.hid hnew
      clear hnew hb hbn Iwant
      refine (implOp_n Pp.out.inn HSp.out HSO.out HE.out).mono ?_
      rintro e w5 ⟨Ax, Bx, cx, dx, rfl, hin, hb⟩
      replace Pp := Lib.hid (Pp.out.bel hb)
      replace Oo := Lib.hid (Oo.out.bel hb)
      replace Pwant := Lib.hid (Pwant.out.bel hb)
      replace KW := Lib.hid (KW.out.tr hb)
      have Ix := Lib.hid hin
      clear hin hb
      have qp0 := Pp.out.c0
      have qp1 := Pp.out.c1
      have yp := Pp.out.lt
      have qwant0 := Pwant.out.c0
      have qwant1 := Pwant.out.c1
      have ywant := Pwant.out.lt
      have mo0 := Oo.out.m0
      have mo1 := Oo.out.m1
      have mo2 := Oo.out.m2
      have mo3 := Oo.out.m3
      have mo4 := Oo.out.m4
      have myo := Oo.out.lt
      go_wp2_with fail
      clear qp0 qp1 yp qwant0 qwant1 ywant
      clear mo0 mo1 mo2 mo3 mo4 myo
      have hnew := PVar.new Ix.out
      have hb : Bel w5 (w5.alloc (.cells #[.slice Ax q.slots.length cx, .slice Bx q.vols.length dx] 30)) := bel_alloc (Below.refl _ _) _
      generalize w5.alloc (.cells #[.slice Ax q.slots.length cx, .slice Bx q.vols.length dx] 30) = W6 at hnew hb ⊢
      replace Pp := Lib.hid (Pp.out.bel hb)
      replace Oo := Lib.hid (Oo.out.bel hb)
      replace Pwant := Lib.hid (Pwant.out.bel hb)
      replace Ix := Lib.hid (Ix.out.bel hb)
      replace KW := Lib.hid (KW.out.tr hb)
      obtain ⟨bkx, hbn⟩ : ∃ b, w5.heap.size = b := ⟨_, rfl⟩
      rw [hbn] at hnew ⊢
      have Px := Lib.hid hnew
      clear hnew hb hbn Ix
      refine (lgPool_c Px.out.inn Pwant.out.inn HSq.out).mono ?_
      rintro e w7 ⟨rfl, hb⟩
      replace Pp := Lib.hid (Pp.out.bel hb)
      replace Oo := Lib.hid (Oo.out.bel hb)
      replace Pwant := Lib.hid (Pwant.out.bel hb)
      replace Px := Lib.hid (Px.out.bel hb)
      replace KW := Lib.hid (KW.out.tr hb)
      clear hb
      have qp0 := Pp.out.c0
      have qp1 := Pp.out.c1
      have yp := Pp.out.lt
      have qwant0 := Pwant.out.c0
      have qwant1 := Pwant.out.c1
      have ywant := Pwant.out.lt
      have qx0 := Px.out.c0
      have qx1 := Px.out.c1
      have yx := Px.out.lt
      have mo0 := Oo.out.m0
      have mo1 := Oo.out.m1
      have mo2 := Oo.out.m2
      have mo3 := Oo.out.m3
      have mo4 := Oo.out.m4
      have myo := Oo.out.lt
      go_wp2_with fail
      clear qp0 qp1 yp qwant0 qwant1 ywant qx0 qx1 yx
      clear mo0 mo1 mo2 mo3 mo4 myo
      obtain ⟨ad, A3, n3, hBp, hcv, _, _, _⟩ := at_vol Pp.out.inn.v hv
      subst hBp
      have gp0 := gb_cell Pp.out.c0
      have gp1 := gb_cell Pp.out.c1
      have gv := gb_cell hcv
      have hi := HI.out
      have hi2 := HI2.out
      refine wp_region_gb (by kernel_rfl) (by kernel_rfl) ?_
      repeat (first | go_big_quiet_skip | (go_big_quiet_want; go_big_quiet_op; first | go_big_quiet_on | (apply Exists.intro; refine ⟨fun _ => ?_, ?_⟩; (first | (go_at_call 32; exact gb_call (implText_n _ _ _))); go_big_quiet_on)))
      refine wpQuiet_nil ?_
      rintro w8 ⟨⟨_, hb⟩, rfl⟩
      replace hb : Bel w7 w8 := hb
      clear gp0 gp1
      replace Pp := Lib.hid (Pp.out.bel hb)
      replace Oo := Lib.hid (Oo.out.bel hb)
      replace Pwant := Lib.hid (Pwant.out.bel hb)
      replace Px := Lib.hid (Px.out.bel hb)
      replace KW := Lib.hid (KW.out.tr hb)
      clear hb
      clear hi hi2 hcv gv
      have qp0 := Pp.out.c0
      have qp1 := Pp.out.c1
      have yp := Pp.out.lt
      have qwant0 := Pwant.out.c0
      have qwant1 := Pwant.out.c1
      have ywant := Pwant.out.lt
      have qx0 := Px.out.c0
      have qx1 := Px.out.c1
      have yx := Px.out.lt
      have mo0 := Oo.out.m0
      have mo1 := Oo.out.m1
      have mo2 := Oo.out.m2
      have mo3 := Oo.out.m3
      have mo4 := Oo.out.m4
      have myo := Oo.out.lt
      go_wp2
      go_ret
      exact ⟨rfl, KW.out⟩
  · skip
    go_wp2_with fail
    have hP := (PVar.new Ip.out).bel (bel_alloc (Below.refl _ _) (.cells #[.int .i64 kd, .string nm, .string ds, .int .i64 n', .string tx] 74))
    have hO : OVar ((w1.alloc (.cells #[.slice Ap p.slots.length cp, .slice Bp p.vols.length dp] 30)).alloc (.cells #[.int .i64 kd, .string nm, .string ds, .int .i64 n', .string tx] 74)) (w1.heap.size + 1) kd nm ds n' tx := ⟨Blk.nw2 _ _ _ _⟩
    have hb : Bel w1 ((w1.alloc (.cells #[.slice Ap p.slots.length cp, .slice Bp p.vols.length dp] 30)).alloc (.cells #[.int .i64 kd, .string nm, .string ds, .int .i64 n', .string tx] 74)) := bel_alloc (bel_alloc (Below.refl _ _) _) _
    generalize ((w1.alloc (.cells #[.slice Ap p.slots.length cp, .slice Bp p.vols.length dp] 30)).alloc (.cells #[.int .i64 kd, .string nm, .string ds, .int .i64 n', .string tx] 74)) = W2 at hP hO hb ⊢
    replace Ip := Lib.hid (Ip.out.bel hb)
    replace KW := Lib.hid (KW.out.tr hb)
    obtain ⟨bkp, hbn⟩ : ∃ b, w1.heap.size = b := ⟨_, rfl⟩
    rw [hbn] at hP hO ⊢
    obtain ⟨bko, hbo⟩ : ∃ b, bkp + 1 = b := ⟨_, rfl⟩
    rw [hbo] at hO ⊢
    have Pp := Lib.hid hP
    have Oo := Lib.hid hO
    clear hP hO hb hbn hbo Ip
    refine (specOp_n Pp.out.inn HSp.out HSO.out HE.out).mono ?_
    rintro e w3 ⟨Awant, Bwant, cwant, dwant, rfl, hin, hb⟩
    replace Pp := Lib.hid (Pp.out.bel hb)
    replace Oo := Lib.hid (Oo.out.bel hb)
    replace KW := Lib.hid (KW.out.tr hb)
    have Iwant := Lib.hid hin
    clear hin hb
    have qp0 := Pp.out.c0
    have qp1 := Pp.out.c1
    have yp := Pp.out.lt
    have mo0 := Oo.out.m0
    have mo1 := Oo.out.m1
    have mo2 := Oo.out.m2
    have mo3 := Oo.out.m3
    have mo4 := Oo.out.m4
    have myo := Oo.out.lt
    go_wp2_with fail
    clear qp0 qp1 yp
    clear mo0 mo1 mo2 mo3 mo4 myo
    have hnew := PVar.new Iwant.out
    have hb : Bel w3 (w3.alloc (.cells #[.slice Awant q.slots.length cwant, .slice Bwant q.vols.length dwant] 30)) := bel_alloc (Below.refl _ _) _
    generalize w3.alloc (.cells #[.slice Awant q.slots.length cwant, .slice Bwant q.vols.length dwant] 30) = W4 at hnew hb ⊢
    replace Pp := Lib.hid (Pp.out.bel hb)
    replace Oo := Lib.hid (Oo.out.bel hb)
    replace Iwant := Lib.hid (Iwant.out.bel hb)
    replace KW := Lib.hid (KW.out.tr hb)
    obtain ⟨bkwant, hbn⟩ : ∃ b, w3.heap.size = b := ⟨_, rfl⟩
    rw [hbn] at hnew ⊢
    have Pwant := Lib.hid hnew
    clear hnew hb hbn Iwant
    refine (implOp_n Pp.out.inn HSp.out HSO.out HE.out).mono ?_
    rintro e w5 ⟨Ax, Bx, cx, dx, rfl, hin, hb⟩
    replace Pp := Lib.hid (Pp.out.bel hb)
    replace Oo := Lib.hid (Oo.out.bel hb)
    replace Pwant := Lib.hid (Pwant.out.bel hb)
    replace KW := Lib.hid (KW.out.tr hb)
    have Ix := Lib.hid hin
    clear hin hb
    have qp0 := Pp.out.c0
    have qp1 := Pp.out.c1
    have yp := Pp.out.lt
    have qwant0 := Pwant.out.c0
    have qwant1 := Pwant.out.c1
    have ywant := Pwant.out.lt
    have mo0 := Oo.out.m0
    have mo1 := Oo.out.m1
    have mo2 := Oo.out.m2
    have mo3 := Oo.out.m3
    have mo4 := Oo.out.m4
    have myo := Oo.out.lt
    go_wp2_with fail
    clear qp0 qp1 yp qwant0 qwant1 ywant
    clear mo0 mo1 mo2 mo3 mo4 myo
    have hnew := PVar.new Ix.out
    have hb : Bel w5 (w5.alloc (.cells #[.slice Ax q.slots.length cx, .slice Bx q.vols.length dx] 30)) := bel_alloc (Below.refl _ _) _
    generalize w5.alloc (.cells #[.slice Ax q.slots.length cx, .slice Bx q.vols.length dx] 30) = W6 at hnew hb ⊢
    replace Pp := Lib.hid (Pp.out.bel hb)
    replace Oo := Lib.hid (Oo.out.bel hb)
    replace Pwant := Lib.hid (Pwant.out.bel hb)
    replace Ix := Lib.hid (Ix.out.bel hb)
    replace KW := Lib.hid (KW.out.tr hb)
    obtain ⟨bkx, hbn⟩ : ∃ b, w5.heap.size = b := ⟨_, rfl⟩
    rw [hbn] at hnew ⊢
    have Px := Lib.hid hnew
    clear hnew hb hbn Ix
    refine (lgPool_c Px.out.inn Pwant.out.inn HSq.out).mono ?_
    rintro e w7 ⟨rfl, hb⟩
    replace Pp := Lib.hid (Pp.out.bel hb)
    replace Oo := Lib.hid (Oo.out.bel hb)
    replace Pwant := Lib.hid (Pwant.out.bel hb)
    replace Px := Lib.hid (Px.out.bel hb)
    replace KW := Lib.hid (KW.out.tr hb)
    clear hb
    have qp0 := Pp.out.c0
    have qp1 := Pp.out.c1
    have yp := Pp.out.lt
    have qwant0 := Pwant.out.c0
    have qwant1 := Pwant.out.c1
    have ywant := Pwant.out.lt
    have qx0 := Px.out.c0
    have qx1 := Px.out.c1
    have yx := Px.out.lt
    have mo0 := Oo.out.m0
    have mo1 := Oo.out.m1
    have mo2 := Oo.out.m2
    have mo3 := Oo.out.m3
    have mo4 := Oo.out.m4
    have myo := Oo.out.lt
    go_wp2_with fail
    clear qp0 qp1 yp qwant0 qwant1 ywant qx0 qx1 yx
    clear mo0 mo1 mo2 mo3 mo4 myo
    obtain ⟨ad, A3, n3, hBp, hcv, _, _, _⟩ := at_vol Pp.out.inn.v hv
    subst hBp
    have gp0 := gb_cell Pp.out.c0
    have gp1 := gb_cell Pp.out.c1
    have gv := gb_cell hcv
    have hi := HI.out
    have hi2 := HI2.out
    refine wp_region_gb (by kernel_rfl) (by kernel_rfl) ?_
    repeat (first | go_big_quiet_skip | (go_big_quiet_want; go_big_quiet_op; first | go_big_quiet_on | (apply Exists.intro; refine ⟨fun _ => ?_, ?_⟩; (first | (go_at_call 32; exact gb_call (implText_n _ _ _))); go_big_quiet_on)))
    refine wpQuiet_nil ?_
    rintro w8 ⟨⟨_, hb⟩, rfl⟩
    replace hb : Bel w7 w8 := hb
    clear gp0 gp1
    replace Pp := Lib.hid (Pp.out.bel hb)
    replace Oo := Lib.hid (Oo.out.bel hb)
    replace Pwant := Lib.hid (Pwant.out.bel hb)
    replace Px := Lib.hid (Px.out.bel hb)
    replace KW := Lib.hid (KW.out.tr hb)
    clear hb
    clear hi hi2 hcv gv
    have qp0 := Pp.out.c0
    have qp1 := Pp.out.c1
    have yp := Pp.out.lt
    have qwant0 := Pwant.out.c0
    have qwant1 := Pwant.out.c1
    have ywant := Pwant.out.lt
    have qx0 := Px.out.c0
    have qx1 := Px.out.c1
    have yx := Px.out.lt
    have mo0 := Oo.out.m0
    have mo1 := Oo.out.m1
    have mo2 := Oo.out.m2
    have mo3 := Oo.out.m3
    have mo4 := Oo.out.m4
    have myo := Oo.out.lt
    go_wp2
    go_ret
    exact ⟨rfl, KW.out⟩
end Go.Proofs.Ytpobgjkmjlmafaa

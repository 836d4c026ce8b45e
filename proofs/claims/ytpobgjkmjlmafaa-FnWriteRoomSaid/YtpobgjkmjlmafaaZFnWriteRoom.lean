/- The law FnWriteRoom: its body walked. -/
import Derived.Test.YtpobgjkmjlmafaaZ5
namespace Go.Proofs.Ytpobgjkmjlmafaa
open Go.RowKit Go.Proofs.YtpobgjkmjlmafaaW.PrintWords Go.Proofs.YtpobgjkmjlmafaaW.PrintLast
set_option linter.unusedVariables false
set_option linter.unusedSimpArgs false

set_option maxHeartbeats 8000000 in
set_option maxRecDepth 10000 in
theorem lawFnWriteRoom_c {w : World} {A : Option Addr} {n c : Nat} {bs : List Int} (h : CodeIn w A n c bs) (hn : n ≤ 9223372036854775807) :
    Calls Try.prog 7 #[.slice A n c] w (Ret (.bool true) w) := by
  have H := Lib.hid h
  clear h
  go_enter Try.func7, Try.ntmps7
  by_cases hlen : (1048576 : Int) < (n : Int)
  · go_wp2
    go_ret
    exact ⟨rfl, Below.refl _ _⟩
  go_wp2_with fail
  refine ((drawWrite_c H.out hn).mono fun _ _ h => DrewW.new h).mono ?_
  rintro e w1 ⟨Ap, Bp, cp, dp, p, name, blk, text, rfl, hs, hb1, hb2, ht, hp, hin, hb⟩
  have HP := Lib.hid hp
  have HSp := Lib.hid hp.small
  have Ip := Lib.hid hin
  have KW := Lib.hid hb
  clear hp hin hb
  have HN : Hid (text.size ≤ 1048576) := ht
  have HNM : Hid (name.size ≤ 1048576) := hs
  clear hs ht
  cases hok : poolOk p
  · obtain ⟨q, hq, hqs⟩ : ∃ q, (chP p (writeF p name blk text) = q ∧ chB p (writeF p name blk text) = false) ∧ SmallP q := ⟨_, ch_bad hok _, noP_small⟩
    have HE := Lib.hid hq
    have HSq := Lib.hid hqs
    have HOK := Lib.hid hok
    clear hq hqs hok
    go_wp2_with fail
    have hnew := PVar.new Ip.out
    have hb : Bel w1 (w1.alloc (.cells #[.slice Ap p.slots.length cp, .slice Bp p.vols.length dp] 30)) := bel_alloc (Below.refl _ _) _
    generalize w1.alloc (.cells #[.slice Ap p.slots.length cp, .slice Bp p.vols.length dp] 30) = W2 at hnew hb ⊢
    replace Ip := Lib.hid (Ip.out.bel hb)
    replace KW := Lib.hid (KW.out.tr hb)
    obtain ⟨bkp, hbn⟩ : ∃ b, w1.heap.size = b := ⟨_, rfl⟩
    rw [hbn] at hnew ⊢
    have Pp := Lib.hid hnew
    clear hnew hb hbn Ip
    refine (specWrite_n Pp.out.inn HSp.out HN.out HE.out).mono ?_
    rintro e w3 ⟨Awant, Bwant, cwant, dwant, rfl, hin, hb⟩
    replace Pp := Lib.hid (Pp.out.bel hb)
    replace KW := Lib.hid (KW.out.tr hb)
    have Iwant := Lib.hid hin
    clear hin hb
    have qp0 := Pp.out.c0
    have qp1 := Pp.out.c1
    have yp := Pp.out.lt
    go_wp2_with fail
    clear qp0 qp1 yp
    have hnew := PVar.new Iwant.out
    have hb : Bel w3 (w3.alloc (.cells #[.slice Awant q.slots.length cwant, .slice Bwant q.vols.length dwant] 30)) := bel_alloc (Below.refl _ _) _
    generalize w3.alloc (.cells #[.slice Awant q.slots.length cwant, .slice Bwant q.vols.length dwant] 30) = W4 at hnew hb ⊢
    replace Pp := Lib.hid (Pp.out.bel hb)
    replace Iwant := Lib.hid (Iwant.out.bel hb)
    replace KW := Lib.hid (KW.out.tr hb)
    obtain ⟨bkwant, hbn⟩ : ∃ b, w3.heap.size = b := ⟨_, rfl⟩
    rw [hbn] at hnew ⊢
    have Pwant := Lib.hid hnew
    clear hnew hb hbn Iwant
    refine (implWrite_n Pp.out.inn HSp.out HN.out HE.out).mono ?_
    rintro e w5 ⟨Ax, Bx, cx, dx, rfl, hin, hb⟩
    replace Pp := Lib.hid (Pp.out.bel hb)
    replace Pwant := Lib.hid (Pwant.out.bel hb)
    replace KW := Lib.hid (KW.out.tr hb)
    have Ix := Lib.hid hin
    clear hin hb
    have qp0 := Pp.out.c0
    have qp1 := Pp.out.c1
    have yp := Pp.out.lt
    have qwant0 := Pwant.out.c0
    have qwant1 := Pwant.out.c1
    have ywant := Pwant.out.lt
    go_wp2_with fail
    clear qp0 qp1 yp qwant0 qwant1 ywant
    have hnew := PVar.new Ix.out
    have hb : Bel w5 (w5.alloc (.cells #[.slice Ax q.slots.length cx, .slice Bx q.vols.length dx] 30)) := bel_alloc (Below.refl _ _) _
    generalize w5.alloc (.cells #[.slice Ax q.slots.length cx, .slice Bx q.vols.length dx] 30) = W6 at hnew hb ⊢
    replace Pp := Lib.hid (Pp.out.bel hb)
    replace Pwant := Lib.hid (Pwant.out.bel hb)
    replace Ix := Lib.hid (Ix.out.bel hb)
    replace KW := Lib.hid (KW.out.tr hb)
    obtain ⟨bkx, hbn⟩ : ∃ b, w5.heap.size = b := ⟨_, rfl⟩
    rw [hbn] at hnew ⊢
    have Px := Lib.hid hnew
    clear hnew hb hbn Ix
    refine (lgPool_c Px.out.inn Pwant.out.inn HSq.out).mono ?_
    rintro e w7 ⟨rfl, hb⟩
    replace Pp := Lib.hid (Pp.out.bel hb)
    replace Pwant := Lib.hid (Pwant.out.bel hb)
    replace Px := Lib.hid (Px.out.bel hb)
    replace KW := Lib.hid (KW.out.tr hb)
    clear hb
    have qp0 := Pp.out.c0
    have qp1 := Pp.out.c1
    have yp := Pp.out.lt
    have qwant0 := Pwant.out.c0
    have qwant1 := Pwant.out.c1
    have ywant := Pwant.out.lt
    have qx0 := Px.out.c0
    have qx1 := Px.out.c1
    have yx := Px.out.lt
    go_wp2_with fail
    clear qp0 qp1 yp qwant0 qwant1 ywant qx0 qx1 yx
    refine (specOk_n Pp.out.inn HSp.out HOK.out).mono ?_
    rintro e w8 ⟨rfl, hb⟩
    replace Pp := Lib.hid (Pp.out.bel hb)
    replace Pwant := Lib.hid (Pwant.out.bel hb)
    replace Px := Lib.hid (Px.out.bel hb)
    replace KW := Lib.hid (KW.out.tr hb)
    clear hb
    have qp0 := Pp.out.c0
    have qp1 := Pp.out.c1
    have yp := Pp.out.lt
    have qwant0 := Pwant.out.c0
    have qwant1 := Pwant.out.c1
    have ywant := Pwant.out.lt
    have qx0 := Px.out.c0
    have qx1 := Px.out.c1
    have yx := Px.out.lt
    go_wp2_with fail
    clear qp0 qp1 yp qwant0 qwant1 ywant qx0 qx1 yx
    refine (lgPool_c Px.out.inn Pwant.out.inn HSq.out).mono ?_
    rintro e w9 ⟨rfl, hb⟩
    replace Pp := Lib.hid (Pp.out.bel hb)
    replace Pwant := Lib.hid (Pwant.out.bel hb)
    replace Px := Lib.hid (Px.out.bel hb)
    replace KW := Lib.hid (KW.out.tr hb)
    clear hb
    have qp0 := Pp.out.c0
    have qp1 := Pp.out.c1
    have yp := Pp.out.lt
    have qwant0 := Pwant.out.c0
    have qwant1 := Pwant.out.c1
    have ywant := Pwant.out.lt
    have qx0 := Px.out.c0
    have qx1 := Px.out.c1
    have yx := Px.out.lt
    go_wp2
    go_ret
    exact ⟨rfl, KW.out⟩
  have HV := Lib.hid (poolOk_iff.1 hok)
  have HOK := Lib.hid hok
  clear hok
  by_cases hb0 : blk < 0
  · skip
    obtain ⟨q, hq⟩ : ∃ q, chP p (writeF p name blk text) = q := ⟨_, rfl⟩
    obtain ⟨ok, hok2⟩ : ∃ ok, chB p (writeF p name blk text) = ok := ⟨_, rfl⟩
    have hqs : SmallP q := by rw [← hq]; exact chP_small HSp.out fun r hk hr => (writeF_ok (poolOk_iff.1 hk) hr).small
    have HE := Lib.hid (And.intro hq hok2)
    have HSq := Lib.hid hqs
    clear hq hok2 hqs
    cases ok
    · skip
      go_wp2_with fail
      have hnew := PVar.new Ip.out
      have hb : Bel w1 (w1.alloc (.cells #[.slice Ap p.slots.length cp, .slice Bp p.vols.length dp] 30)) := bel_alloc (Below.refl _ _) _
      generalize w1.alloc (.cells #[.slice Ap p.slots.length cp, .slice Bp p.vols.length dp] 30) = W2 at hnew hb ⊢
      replace Ip := Lib.hid (Ip.out.bel hb)
      replace KW := Lib.hid (KW.out.tr hb)
      obtain ⟨bkp, hbn⟩ : ∃ b, w1.heap.size = b := ⟨_, rfl⟩
      rw [hbn] at hnew ⊢
      have Pp := Lib.hid hnew
      clear hnew hb hbn Ip
      refine (specWrite_n Pp.out.inn HSp.out HN.out HE.out).mono ?_
      rintro e w3 ⟨Awant, Bwant, cwant, dwant, rfl, hin, hb⟩
      replace Pp := Lib.hid (Pp.out.bel hb)
      replace KW := Lib.hid (KW.out.tr hb)
      have Iwant := Lib.hid hin
      clear hin hb
      have qp0 := Pp.out.c0
      have qp1 := Pp.out.c1
      have yp := Pp.out.lt
      go_wp2_with fail
      clear qp0 qp1 yp
      have hnew := PVar.new Iwant.out
      have hb : Bel w3 (w3.alloc (.cells #[.slice Awant q.slots.length cwant, .slice Bwant q.vols.length dwant] 30)) := bel_alloc (Below.refl _ _) _
      generalize w3.alloc (.cells #[.slice Awant q.slots.length cwant, .slice Bwant q.vols.length dwant] 30) = W4 at hnew hb ⊢
      replace Pp := Lib.hid (Pp.out.bel hb)
      replace Iwant := Lib.hid (Iwant.out.bel hb)
      replace KW := Lib.hid (KW.out.tr hb)
      obtain ⟨bkwant, hbn⟩ : ∃ b, w3.heap.size = b := ⟨_, rfl⟩
      rw [hbn] at hnew ⊢
      have Pwant := Lib.hid hnew
      clear hnew hb hbn Iwant
      refine (implWrite_n Pp.out.inn HSp.out HN.out HE.out).mono ?_
      rintro e w5 ⟨Ax, Bx, cx, dx, rfl, hin, hb⟩
      replace Pp := Lib.hid (Pp.out.bel hb)
      replace Pwant := Lib.hid (Pwant.out.bel hb)
      replace KW := Lib.hid (KW.out.tr hb)
      have Ix := Lib.hid hin
      clear hin hb
      have qp0 := Pp.out.c0
      have qp1 := Pp.out.c1
      have yp := Pp.out.lt
      have qwant0 := Pwant.out.c0
      have qwant1 := Pwant.out.c1
      have ywant := Pwant.out.lt
      go_wp2_with fail
      clear qp0 qp1 yp qwant0 qwant1 ywant
      have hnew := PVar.new Ix.out
      have hb : Bel w5 (w5.alloc (.cells #[.slice Ax q.slots.length cx, .slice Bx q.vols.length dx] 30)) := bel_alloc (Below.refl _ _) _
      generalize w5.alloc (.cells #[.slice Ax q.slots.length cx, .slice Bx q.vols.length dx] 30) = W6 at hnew hb ⊢
      replace Pp := Lib.hid (Pp.out.bel hb)
      replace Pwant := Lib.hid (Pwant.out.bel hb)
      replace Ix := Lib.hid (Ix.out.bel hb)
      replace KW := Lib.hid (KW.out.tr hb)
      obtain ⟨bkx, hbn⟩ : ∃ b, w5.heap.size = b := ⟨_, rfl⟩
      rw [hbn] at hnew ⊢
      have Px := Lib.hid hnew
      clear hnew hb hbn Ix
      refine (lgPool_c Px.out.inn Pwant.out.inn HSq.out).mono ?_
      rintro e w7 ⟨rfl, hb⟩
      replace Pp := Lib.hid (Pp.out.bel hb)
      replace Pwant := Lib.hid (Pwant.out.bel hb)
      replace Px := Lib.hid (Px.out.bel hb)
      replace KW := Lib.hid (KW.out.tr hb)
      clear hb
      have qp0 := Pp.out.c0
      have qp1 := Pp.out.c1
      have yp := Pp.out.lt
      have qwant0 := Pwant.out.c0
      have qwant1 := Pwant.out.c1
      have ywant := Pwant.out.lt
      have qx0 := Px.out.c0
      have qx1 := Px.out.c1
      have yx := Px.out.lt
      go_wp2_with fail
      clear qp0 qp1 yp qwant0 qwant1 ywant qx0 qx1 yx
      refine (specOk_n Pp.out.inn HSp.out HOK.out).mono ?_
      rintro e w8 ⟨rfl, hb⟩
      replace Pp := Lib.hid (Pp.out.bel hb)
      replace Pwant := Lib.hid (Pwant.out.bel hb)
      replace Px := Lib.hid (Px.out.bel hb)
      replace KW := Lib.hid (KW.out.tr hb)
      clear hb
      have qp0 := Pp.out.c0
      have qp1 := Pp.out.c1
      have yp := Pp.out.lt
      have qwant0 := Pwant.out.c0
      have qwant1 := Pwant.out.c1
      have ywant := Pwant.out.lt
      have qx0 := Px.out.c0
      have qx1 := Px.out.c1
      have yx := Px.out.lt
      go_wp2_with fail
      clear qp0 qp1 yp qwant0 qwant1 ywant qx0 qx1 yx
      refine (lgPool_c Px.out.inn Pwant.out.inn HSq.out).mono ?_
      rintro e w9 ⟨rfl, hb⟩
      replace Pp := Lib.hid (Pp.out.bel hb)
      replace Pwant := Lib.hid (Pwant.out.bel hb)
      replace Px := Lib.hid (Px.out.bel hb)
      replace KW := Lib.hid (KW.out.tr hb)
      clear hb
      have qp0 := Pp.out.c0
      have qp1 := Pp.out.c1
      have yp := Pp.out.lt
      have qwant0 := Pwant.out.c0
      have qwant1 := Pwant.out.c1
      have ywant := Pwant.out.lt
      have qx0 := Px.out.c0
      have qx1 := Px.out.c1
      have yx := Px.out.lt
      go_wp2
      go_ret
      exact ⟨rfl, KW.out⟩
    · skip
      go_wp2_with fail
      have hnew := PVar.new Ip.out
      have hb : Bel w1 (w1.alloc (.cells #[.slice Ap p.slots.length cp, .slice Bp p.vols.length dp] 30)) := bel_alloc (Below.refl _ _) _
      generalize w1.alloc (.cells #[.slice Ap p.slots.length cp, .slice Bp p.vols.length dp] 30) = W2 at hnew hb ⊢
      replace Ip := Lib.hid (Ip.out.bel hb)
      replace KW := Lib.hid (KW.out.tr hb)
      obtain ⟨bkp, hbn⟩ : ∃ b, w1.heap.size = b := ⟨_, rfl⟩
      rw [hbn] at hnew ⊢
      have Pp := Lib.hid hnew
      clear hnew hb hbn Ip
      refine (specWrite_n Pp.out.inn HSp.out HN.out HE.out).mono ?_
      rintro e w3 ⟨Awant, Bwant, cwant, dwant, rfl, hin, hb⟩
      replace Pp := Lib.hid (Pp.out.bel hb)
      replace KW := Lib.hid (KW.out.tr hb)
      have Iwant := Lib.hid hin
      clear hin hb
      have qp0 := Pp.out.c0
      have qp1 := Pp.out.c1
      have yp := Pp.out.lt
      go_wp2_with fail
      clear qp0 qp1 yp
      have hnew := PVar.new Iwant.out
      have hb : Bel w3 (w3.alloc (.cells #[.slice Awant q.slots.length cwant, .slice Bwant q.vols.length dwant] 30)) := bel_alloc (Below.refl _ _) _
      generalize w3.alloc (.cells #[.slice Awant q.slots.length cwant, .slice Bwant q.vols.length dwant] 30) = W4 at hnew hb ⊢
      replace Pp := Lib.hid (Pp.out.bel hb)
      replace Iwant := Lib.hid (Iwant.out.bel hb)
      replace KW := Lib.hid (KW.out.tr hb)
      obtain ⟨bkwant, hbn⟩ : ∃ b, w3.heap.size = b := ⟨_, rfl⟩
      rw [hbn] at hnew ⊢
      have Pwant := Lib.hid hnew
      clear hnew hb hbn Iwant
      refine (implWrite_n Pp.out.inn HSp.out HN.out HE.out).mono ?_
      rintro e w5 ⟨Ax, Bx, cx, dx, rfl, hin, hb⟩
      replace Pp := Lib.hid (Pp.out.bel hb)
      replace Pwant := Lib.hid (Pwant.out.bel hb)
      replace KW := Lib.hid (KW.out.tr hb)
      have Ix := Lib.hid hin
      clear hin hb
      have qp0 := Pp.out.c0
      have qp1 := Pp.out.c1
      have yp := Pp.out.lt
      have qwant0 := Pwant.out.c0
      have qwant1 := Pwant.out.c1
      have ywant := Pwant.out.lt
      go_wp2_with fail
      clear qp0 qp1 yp qwant0 qwant1 ywant
      have hnew := PVar.new Ix.out
      have hb : Bel w5 (w5.alloc (.cells #[.slice Ax q.slots.length cx, .slice Bx q.vols.length dx] 30)) := bel_alloc (Below.refl _ _) _
      generalize w5.alloc (.cells #[.slice Ax q.slots.length cx, .slice Bx q.vols.length dx] 30) = W6 at hnew hb ⊢
      replace Pp := Lib.hid (Pp.out.bel hb)
      replace Pwant := Lib.hid (Pwant.out.bel hb)
      replace Ix := Lib.hid (Ix.out.bel hb)
      replace KW := Lib.hid (KW.out.tr hb)
      obtain ⟨bkx, hbn⟩ : ∃ b, w5.heap.size = b := ⟨_, rfl⟩
      rw [hbn] at hnew ⊢
      have Px := Lib.hid hnew
      clear hnew hb hbn Ix
      refine (lgPool_c Px.out.inn Pwant.out.inn HSq.out).mono ?_
      rintro e w7 ⟨rfl, hb⟩
      replace Pp := Lib.hid (Pp.out.bel hb)
      replace Pwant := Lib.hid (Pwant.out.bel hb)
      replace Px := Lib.hid (Px.out.bel hb)
      replace KW := Lib.hid (KW.out.tr hb)
      clear hb
      have qp0 := Pp.out.c0
      have qp1 := Pp.out.c1
      have yp := Pp.out.lt
      have qwant0 := Pwant.out.c0
      have qwant1 := Pwant.out.c1
      have ywant := Pwant.out.lt
      have qx0 := Px.out.c0
      have qx1 := Px.out.c1
      have yx := Px.out.lt
      go_wp2_with fail
      clear qp0 qp1 yp qwant0 qwant1 ywant qx0 qx1 yx
      refine (specOk_n Pp.out.inn HSp.out HOK.out).mono ?_
      rintro e w8 ⟨rfl, hb⟩
      replace Pp := Lib.hid (Pp.out.bel hb)
      replace Pwant := Lib.hid (Pwant.out.bel hb)
      replace Px := Lib.hid (Px.out.bel hb)
      replace KW := Lib.hid (KW.out.tr hb)
      clear hb
      have qp0 := Pp.out.c0
      have qp1 := Pp.out.c1
      have yp := Pp.out.lt
      have qwant0 := Pwant.out.c0
      have qwant1 := Pwant.out.c1
      have ywant := Pwant.out.lt
      have qx0 := Px.out.c0
      have qx1 := Px.out.c1
      have yx := Px.out.lt
      go_wp2_with fail
      clear qp0 qp1 yp qwant0 qwant1 ywant qx0 qx1 yx
      refine (lgPool_c Px.out.inn Pwant.out.inn HSq.out).mono ?_
      rintro e w9 ⟨rfl, hb⟩
      replace Pp := Lib.hid (Pp.out.bel hb)
      replace Pwant := Lib.hid (Pwant.out.bel hb)
      replace Px := Lib.hid (Px.out.bel hb)
      replace KW := Lib.hid (KW.out.tr hb)
      clear hb
      have qp0 := Pp.out.c0
      have qp1 := Pp.out.c1
      have yp := Pp.out.lt
      have qwant0 := Pwant.out.c0
      have qwant1 := Pwant.out.c1
      have ywant := Pwant.out.lt
      have qx0 := Px.out.c0
      have qx1 := Px.out.c1
      have yx := Px.out.lt
      go_wp2
      go_ret
      exact ⟨rfl, KW.out⟩
  obtain ⟨nb, hnb⟩ : ∃ nb, lgBlks p.vols name = nb := ⟨_, rfl⟩
  have HBL := Lib.hid hnb
  by_cases hb9 : nb ≤ blk
  · clear hnb
    obtain ⟨q, hq⟩ : ∃ q, chP p (writeF p name blk text) = q := ⟨_, rfl⟩
    obtain ⟨ok, hok2⟩ : ∃ ok, chB p (writeF p name blk text) = ok := ⟨_, rfl⟩
    have hqs : SmallP q := by rw [← hq]; exact chP_small HSp.out fun r hk hr => (writeF_ok (poolOk_iff.1 hk) hr).small
    have HE := Lib.hid (And.intro hq hok2)
    have HSq := Lib.hid hqs
    clear hq hok2 hqs
    cases ok
    · skip
      go_wp2_with fail
      have hnew := PVar.new Ip.out
      have hb : Bel w1 (w1.alloc (.cells #[.slice Ap p.slots.length cp, .slice Bp p.vols.length dp] 30)) := bel_alloc (Below.refl _ _) _
      generalize w1.alloc (.cells #[.slice Ap p.slots.length cp, .slice Bp p.vols.length dp] 30) = W2 at hnew hb ⊢
      replace Ip := Lib.hid (Ip.out.bel hb)
      replace KW := Lib.hid (KW.out.tr hb)
      obtain ⟨bkp, hbn⟩ : ∃ b, w1.heap.size = b := ⟨_, rfl⟩
      rw [hbn] at hnew ⊢
      have Pp := Lib.hid hnew
      clear hnew hb hbn Ip
      refine (specWrite_n Pp.out.inn HSp.out HN.out HE.out).mono ?_
      rintro e w3 ⟨Awant, Bwant, cwant, dwant, rfl, hin, hb⟩
      replace Pp := Lib.hid (Pp.out.bel hb)
      replace KW := Lib.hid (KW.out.tr hb)
      have Iwant := Lib.hid hin
      clear hin hb
      have qp0 := Pp.out.c0
      have qp1 := Pp.out.c1
      have yp := Pp.out.lt
      go_wp2_with fail
      clear qp0 qp1 yp
      have hnew := PVar.new Iwant.out
      have hb : Bel w3 (w3.alloc (.cells #[.slice Awant q.slots.length cwant, .slice Bwant q.vols.length dwant] 30)) := bel_alloc (Below.refl _ _) _
      generalize w3.alloc (.cells #[.slice Awant q.slots.length cwant, .slice Bwant q.vols.length dwant] 30) = W4 at hnew hb ⊢
      replace Pp := Lib.hid (Pp.out.bel hb)
      replace Iwant := Lib.hid (Iwant.out.bel hb)
      replace KW := Lib.hid (KW.out.tr hb)
      obtain ⟨bkwant, hbn⟩ : ∃ b, w3.heap.size = b := ⟨_, rfl⟩
      rw [hbn] at hnew ⊢
      have Pwant := Lib.hid hnew
      clear hnew hb hbn Iwant
      refine (implWrite_n Pp.out.inn HSp.out HN.out HE.out).mono ?_
      rintro e w5 ⟨Ax, Bx, cx, dx, rfl, hin, hb⟩
      replace Pp := Lib.hid (Pp.out.bel hb)
      replace Pwant := Lib.hid (Pwant.out.bel hb)
      replace KW := Lib.hid (KW.out.tr hb)
      have Ix := Lib.hid hin
      clear hin hb
      have qp0 := Pp.out.c0
      have qp1 := Pp.out.c1
      have yp := Pp.out.lt
      have qwant0 := Pwant.out.c0
      have qwant1 := Pwant.out.c1
      have ywant := Pwant.out.lt
      go_wp2_with fail
      clear qp0 qp1 yp qwant0 qwant1 ywant
      have hnew := PVar.new Ix.out
      have hb : Bel w5 (w5.alloc (.cells #[.slice Ax q.slots.length cx, .slice Bx q.vols.length dx] 30)) := bel_alloc (Below.refl _ _) _
      generalize w5.alloc (.cells #[.slice Ax q.slots.length cx, .slice Bx q.vols.length dx] 30) = W6 at hnew hb ⊢
      replace Pp := Lib.hid (Pp.out.bel hb)
      replace Pwant := Lib.hid (Pwant.out.bel hb)
      replace Ix := Lib.hid (Ix.out.bel hb)
      replace KW := Lib.hid (KW.out.tr hb)
      obtain ⟨bkx, hbn⟩ : ∃ b, w5.heap.size = b := ⟨_, rfl⟩
      rw [hbn] at hnew ⊢
      have Px := Lib.hid hnew
      clear hnew hb hbn Ix
      refine (lgPool_c Px.out.inn Pwant.out.inn HSq.out).mono ?_
      rintro e w7 ⟨rfl, hb⟩
      replace Pp := Lib.hid (Pp.out.bel hb)
      replace Pwant := Lib.hid (Pwant.out.bel hb)
      replace Px := Lib.hid (Px.out.bel hb)
      replace KW := Lib.hid (KW.out.tr hb)
      clear hb
      have qp0 := Pp.out.c0
      have qp1 := Pp.out.c1
      have yp := Pp.out.lt
      have qwant0 := Pwant.out.c0
      have qwant1 := Pwant.out.c1
      have ywant := Pwant.out.lt
      have qx0 := Px.out.c0
      have qx1 := Px.out.c1
      have yx := Px.out.lt
      go_wp2_with fail
      clear qp0 qp1 yp qwant0 qwant1 ywant qx0 qx1 yx
      refine (specOk_n Pp.out.inn HSp.out HOK.out).mono ?_
      rintro e w8 ⟨rfl, hb⟩
      replace Pp := Lib.hid (Pp.out.bel hb)
      replace Pwant := Lib.hid (Pwant.out.bel hb)
      replace Px := Lib.hid (Px.out.bel hb)
      replace KW := Lib.hid (KW.out.tr hb)
      clear hb
      have qp0 := Pp.out.c0
      have qp1 := Pp.out.c1
      have yp := Pp.out.lt
      have qwant0 := Pwant.out.c0
      have qwant1 := Pwant.out.c1
      have ywant := Pwant.out.lt
      have qx0 := Px.out.c0
      have qx1 := Px.out.c1
      have yx := Px.out.lt
      go_wp2_with fail
      clear qp0 qp1 yp qwant0 qwant1 ywant qx0 qx1 yx
      refine (blocks_n Pp.out.inn HSp.out HBL.out).mono ?_
      rintro e w9 ⟨rfl, hb⟩
      replace Pp := Lib.hid (Pp.out.bel hb)
      replace Pwant := Lib.hid (Pwant.out.bel hb)
      replace Px := Lib.hid (Px.out.bel hb)
      replace KW := Lib.hid (KW.out.tr hb)
      clear hb
      have qp0 := Pp.out.c0
      have qp1 := Pp.out.c1
      have yp := Pp.out.lt
      have qwant0 := Pwant.out.c0
      have qwant1 := Pwant.out.c1
      have ywant := Pwant.out.lt
      have qx0 := Px.out.c0
      have qx1 := Px.out.c1
      have yx := Px.out.lt
      go_wp2_with fail
      clear qp0 qp1 yp qwant0 qwant1 ywant qx0 qx1 yx
      refine (lgPool_c Px.out.inn Pwant.out.inn HSq.out).mono ?_
      rintro e w10 ⟨rfl, hb⟩
      replace Pp := Lib.hid (Pp.out.bel hb)
      replace Pwant := Lib.hid (Pwant.out.bel hb)
      replace Px := Lib.hid (Px.out.bel hb)
      replace KW := Lib.hid (KW.out.tr hb)
      clear hb
      have qp0 := Pp.out.c0
      have qp1 := Pp.out.c1
      have yp := Pp.out.lt
      have qwant0 := Pwant.out.c0
      have qwant1 := Pwant.out.c1
      have ywant := Pwant.out.lt
      have qx0 := Px.out.c0
      have qx1 := Px.out.c1
      have yx := Px.out.lt
      go_wp2
      go_ret
      exact ⟨rfl, KW.out⟩
    · skip
      go_wp2_with fail
      have hnew := PVar.new Ip.out
      have hb : Bel w1 (w1.alloc (.cells #[.slice Ap p.slots.length cp, .slice Bp p.vols.length dp] 30)) := bel_alloc (Below.refl _ _) _
      generalize w1.alloc (.cells #[.slice Ap p.slots.length cp, .slice Bp p.vols.length dp] 30) = W2 at hnew hb ⊢
      replace Ip := Lib.hid (Ip.out.bel hb)
      replace KW := Lib.hid (KW.out.tr hb)
      obtain ⟨bkp, hbn⟩ : ∃ b, w1.heap.size = b := ⟨_, rfl⟩
      rw [hbn] at hnew ⊢
      have Pp := Lib.hid hnew
      clear hnew hb hbn Ip
      refine (specWrite_n Pp.out.inn HSp.out HN.out HE.out).mono ?_
      rintro e w3 ⟨Awant, Bwant, cwant, dwant, rfl, hin, hb⟩
      replace Pp := Lib.hid (Pp.out.bel hb)
      replace KW := Lib.hid (KW.out.tr hb)
      have Iwant := Lib.hid hin
      clear hin hb
      have qp0 := Pp.out.c0
      have qp1 := Pp.out.c1
      have yp := Pp.out.lt
      go_wp2_with fail
      clear qp0 qp1 yp
      have hnew := PVar.new Iwant.out
      have hb : Bel w3 (w3.alloc (.cells #[.slice Awant q.slots.length cwant, .slice Bwant q.vols.length dwant] 30)) := bel_alloc (Below.refl _ _) _
      generalize w3.alloc (.cells #[.slice Awant q.slots.length cwant, .slice Bwant q.vols.length dwant] 30) = W4 at hnew hb ⊢
      replace Pp := Lib.hid (Pp.out.bel hb)
      replace Iwant := Lib.hid (Iwant.out.bel hb)
      replace KW := Lib.hid (KW.out.tr hb)
      obtain ⟨bkwant, hbn⟩ : ∃ b, w3.heap.size = b := ⟨_, rfl⟩
      rw [hbn] at hnew ⊢
      have Pwant := Lib.hid hnew
      clear hnew hb hbn Iwant
      refine (implWrite_n Pp.out.inn HSp.out HN.out HE.out).mono ?_
      rintro e w5 ⟨Ax, Bx, cx, dx, rfl, hin, hb⟩
      replace Pp := Lib.hid (Pp.out.bel hb)
      replace Pwant := Lib.hid (Pwant.out.bel hb)
      replace KW := Lib.hid (KW.out.tr hb)
      have Ix := Lib.hid hin
      clear hin hb
      have qp0 := Pp.out.c0
      have qp1 := Pp.out.c1
      have yp := Pp.out.lt
      have qwant0 := Pwant.out.c0
      have qwant1 := Pwant.out.c1
      have ywant := Pwant.out.lt
      go_wp2_with fail
      clear qp0 qp1 yp qwant0 qwant1 ywant
      have hnew := PVar.new Ix.out
      have hb : Bel w5 (w5.alloc (.cells #[.slice Ax q.slots.length cx, .slice Bx q.vols.length dx] 30)) := bel_alloc (Below.refl _ _) _
      generalize w5.alloc (.cells #[.slice Ax q.slots.length cx, .slice Bx q.vols.length dx] 30) = W6 at hnew hb ⊢
      replace Pp := Lib.hid (Pp.out.bel hb)
      replace Pwant := Lib.hid (Pwant.out.bel hb)
      replace Ix := Lib.hid (Ix.out.bel hb)
      replace KW := Lib.hid (KW.out.tr hb)
      obtain ⟨bkx, hbn⟩ : ∃ b, w5.heap.size = b := ⟨_, rfl⟩
      rw [hbn] at hnew ⊢
      have Px := Lib.hid hnew
      clear hnew hb hbn Ix
      refine (lgPool_c Px.out.inn Pwant.out.inn HSq.out).mono ?_
      rintro e w7 ⟨rfl, hb⟩
      replace Pp := Lib.hid (Pp.out.bel hb)
      replace Pwant := Lib.hid (Pwant.out.bel hb)
      replace Px := Lib.hid (Px.out.bel hb)
      replace KW := Lib.hid (KW.out.tr hb)
      clear hb
      have qp0 := Pp.out.c0
      have qp1 := Pp.out.c1
      have yp := Pp.out.lt
      have qwant0 := Pwant.out.c0
      have qwant1 := Pwant.out.c1
      have ywant := Pwant.out.lt
      have qx0 := Px.out.c0
      have qx1 := Px.out.c1
      have yx := Px.out.lt
      go_wp2_with fail
      clear qp0 qp1 yp qwant0 qwant1 ywant qx0 qx1 yx
      refine (specOk_n Pp.out.inn HSp.out HOK.out).mono ?_
      rintro e w8 ⟨rfl, hb⟩
      replace Pp := Lib.hid (Pp.out.bel hb)
      replace Pwant := Lib.hid (Pwant.out.bel hb)
      replace Px := Lib.hid (Px.out.bel hb)
      replace KW := Lib.hid (KW.out.tr hb)
      clear hb
      have qp0 := Pp.out.c0
      have qp1 := Pp.out.c1
      have yp := Pp.out.lt
      have qwant0 := Pwant.out.c0
      have qwant1 := Pwant.out.c1
      have ywant := Pwant.out.lt
      have qx0 := Px.out.c0
      have qx1 := Px.out.c1
      have yx := Px.out.lt
      go_wp2_with fail
      clear qp0 qp1 yp qwant0 qwant1 ywant qx0 qx1 yx
      refine (blocks_n Pp.out.inn HSp.out HBL.out).mono ?_
      rintro e w9 ⟨rfl, hb⟩
      replace Pp := Lib.hid (Pp.out.bel hb)
      replace Pwant := Lib.hid (Pwant.out.bel hb)
      replace Px := Lib.hid (Px.out.bel hb)
      replace KW := Lib.hid (KW.out.tr hb)
      clear hb
      have qp0 := Pp.out.c0
      have qp1 := Pp.out.c1
      have yp := Pp.out.lt
      have qwant0 := Pwant.out.c0
      have qwant1 := Pwant.out.c1
      have ywant := Pwant.out.lt
      have qx0 := Px.out.c0
      have qx1 := Px.out.c1
      have yx := Px.out.lt
      go_wp2_with fail
      clear qp0 qp1 yp qwant0 qwant1 ywant qx0 qx1 yx
      refine (lgPool_c Px.out.inn Pwant.out.inn HSq.out).mono ?_
      rintro e w10 ⟨rfl, hb⟩
      replace Pp := Lib.hid (Pp.out.bel hb)
      replace Pwant := Lib.hid (Pwant.out.bel hb)
      replace Px := Lib.hid (Px.out.bel hb)
      replace KW := Lib.hid (KW.out.tr hb)
      clear hb
      have qp0 := Pp.out.c0
      have qp1 := Pp.out.c1
      have yp := Pp.out.lt
      have qwant0 := Pwant.out.c0
      have qwant1 := Pwant.out.c1
      have ywant := Pwant.out.lt
      have qx0 := Px.out.c0
      have qx1 := Px.out.c1
      have yx := Px.out.lt
      go_wp2
      go_ret
      exact ⟨rfl, KW.out⟩
  cases htk : tOk text
  · have HTK := Lib.hid htk
    clear hnb htk
    obtain ⟨q, hq⟩ : ∃ q, chP p (writeF p name blk text) = q := ⟨_, rfl⟩
    obtain ⟨ok, hok2⟩ : ∃ ok, chB p (writeF p name blk text) = ok := ⟨_, rfl⟩
    have hqs : SmallP q := by rw [← hq]; exact chP_small HSp.out fun r hk hr => (writeF_ok (poolOk_iff.1 hk) hr).small
    have HE := Lib.hid (And.intro hq hok2)
    have HSq := Lib.hid hqs
    clear hq hok2 hqs
    cases ok
    · skip
      go_wp2_with fail
      have hnew := PVar.new Ip.out
      have hb : Bel w1 (w1.alloc (.cells #[.slice Ap p.slots.length cp, .slice Bp p.vols.length dp] 30)) := bel_alloc (Below.refl _ _) _
      generalize w1.alloc (.cells #[.slice Ap p.slots.length cp, .slice Bp p.vols.length dp] 30) = W2 at hnew hb ⊢
      replace Ip := Lib.hid (Ip.out.bel hb)
      replace KW := Lib.hid (KW.out.tr hb)
      obtain ⟨bkp, hbn⟩ : ∃ b, w1.heap.size = b := ⟨_, rfl⟩
      rw [hbn] at hnew ⊢
      have Pp := Lib.hid hnew
      clear hnew hb hbn Ip
      refine (specWrite_n Pp.out.inn HSp.out HN.out HE.out).mono ?_
      rintro e w3 ⟨Awant, Bwant, cwant, dwant, rfl, hin, hb⟩
      replace Pp := Lib.hid (Pp.out.bel hb)
      replace KW := Lib.hid (KW.out.tr hb)
      have Iwant := Lib.hid hin
      clear hin hb
      have qp0 := Pp.out.c0
      have qp1 := Pp.out.c1
      have yp := Pp.out.lt
      go_wp2_with fail
      clear qp0 qp1 yp
      have hnew := PVar.new Iwant.out
      have hb : Bel w3 (w3.alloc (.cells #[.slice Awant q.slots.length cwant, .slice Bwant q.vols.length dwant] 30)) := bel_alloc (Below.refl _ _) _
      generalize w3.alloc (.cells #[.slice Awant q.slots.length cwant, .slice Bwant q.vols.length dwant] 30) = W4 at hnew hb ⊢
      replace Pp := Lib.hid (Pp.out.bel hb)
      replace Iwant := Lib.hid (Iwant.out.bel hb)
      replace KW := Lib.hid (KW.out.tr hb)
      obtain ⟨bkwant, hbn⟩ : ∃ b, w3.heap.size = b := ⟨_, rfl⟩
      rw [hbn] at hnew ⊢
      have Pwant := Lib.hid hnew
      clear hnew hb hbn Iwant
      refine (implWrite_n Pp.out.inn HSp.out HN.out HE.out).mono ?_
      rintro e w5 ⟨Ax, Bx, cx, dx, rfl, hin, hb⟩
      replace Pp := Lib.hid (Pp.out.bel hb)
      replace Pwant := Lib.hid (Pwant.out.bel hb)
      replace KW := Lib.hid (KW.out.tr hb)
      have Ix := Lib.hid hin
      clear hin hb
      have qp0 := Pp.out.c0
      have qp1 := Pp.out.c1
      have yp := Pp.out.lt
      have qwant0 := Pwant.out.c0
      have qwant1 := Pwant.out.c1
      have ywant := Pwant.out.lt
      go_wp2_with fail
      clear qp0 qp1 yp qwant0 qwant1 ywant
      have hnew := PVar.new Ix.out
      have hb : Bel w5 (w5.alloc (.cells #[.slice Ax q.slots.length cx, .slice Bx q.vols.length dx] 30)) := bel_alloc (Below.refl _ _) _
      generalize w5.alloc (.cells #[.slice Ax q.slots.length cx, .slice Bx q.vols.length dx] 30) = W6 at hnew hb ⊢
      replace Pp := Lib.hid (Pp.out.bel hb)
      replace Pwant := Lib.hid (Pwant.out.bel hb)
      replace Ix := Lib.hid (Ix.out.bel hb)
      replace KW := Lib.hid (KW.out.tr hb)
      obtain ⟨bkx, hbn⟩ : ∃ b, w5.heap.size = b := ⟨_, rfl⟩
      rw [hbn] at hnew ⊢
      have Px := Lib.hid hnew
      clear hnew hb hbn Ix
      refine (lgPool_c Px.out.inn Pwant.out.inn HSq.out).mono ?_
      rintro e w7 ⟨rfl, hb⟩
      replace Pp := Lib.hid (Pp.out.bel hb)
      replace Pwant := Lib.hid (Pwant.out.bel hb)
      replace Px := Lib.hid (Px.out.bel hb)
      replace KW := Lib.hid (KW.out.tr hb)
      clear hb
      have qp0 := Pp.out.c0
      have qp1 := Pp.out.c1
      have yp := Pp.out.lt
      have qwant0 := Pwant.out.c0
      have qwant1 := Pwant.out.c1
      have ywant := Pwant.out.lt
      have qx0 := Px.out.c0
      have qx1 := Px.out.c1
      have yx := Px.out.lt
      go_wp2_with fail
      clear qp0 qp1 yp qwant0 qwant1 ywant qx0 qx1 yx
      refine (specOk_n Pp.out.inn HSp.out HOK.out).mono ?_
      rintro e w8 ⟨rfl, hb⟩
      replace Pp := Lib.hid (Pp.out.bel hb)
      replace Pwant := Lib.hid (Pwant.out.bel hb)
      replace Px := Lib.hid (Px.out.bel hb)
      replace KW := Lib.hid (KW.out.tr hb)
      clear hb
      have qp0 := Pp.out.c0
      have qp1 := Pp.out.c1
      have yp := Pp.out.lt
      have qwant0 := Pwant.out.c0
      have qwant1 := Pwant.out.c1
      have ywant := Pwant.out.lt
      have qx0 := Px.out.c0
      have qx1 := Px.out.c1
      have yx := Px.out.lt
      go_wp2_with fail
      clear qp0 qp1 yp qwant0 qwant1 ywant qx0 qx1 yx
      refine (blocks_n Pp.out.inn HSp.out HBL.out).mono ?_
      rintro e w9 ⟨rfl, hb⟩
      replace Pp := Lib.hid (Pp.out.bel hb)
      replace Pwant := Lib.hid (Pwant.out.bel hb)
      replace Px := Lib.hid (Px.out.bel hb)
      replace KW := Lib.hid (KW.out.tr hb)
      clear hb
      have qp0 := Pp.out.c0
      have qp1 := Pp.out.c1
      have yp := Pp.out.lt
      have qwant0 := Pwant.out.c0
      have qwant1 := Pwant.out.c1
      have ywant := Pwant.out.lt
      have qx0 := Px.out.c0
      have qx1 := Px.out.c1
      have yx := Px.out.lt
      go_wp2_with fail
      clear qp0 qp1 yp qwant0 qwant1 ywant qx0 qx1 yx
      refine (textOk_n HN.out HTK.out).mono ?_
      rintro e w10 ⟨rfl, hb⟩
      replace Pp := Lib.hid (Pp.out.bel hb)
      replace Pwant := Lib.hid (Pwant.out.bel hb)
      replace Px := Lib.hid (Px.out.bel hb)
      replace KW := Lib.hid (KW.out.tr hb)
      clear hb
      have qp0 := Pp.out.c0
      have qp1 := Pp.out.c1
      have yp := Pp.out.lt
      have qwant0 := Pwant.out.c0
      have qwant1 := Pwant.out.c1
      have ywant := Pwant.out.lt
      have qx0 := Px.out.c0
      have qx1 := Px.out.c1
      have yx := Px.out.lt
      go_wp2_with fail
      clear qp0 qp1 yp qwant0 qwant1 ywant qx0 qx1 yx
      refine (lgPool_c Px.out.inn Pwant.out.inn HSq.out).mono ?_
      rintro e w11 ⟨rfl, hb⟩
      replace Pp := Lib.hid (Pp.out.bel hb)
      replace Pwant := Lib.hid (Pwant.out.bel hb)
      replace Px := Lib.hid (Px.out.bel hb)
      replace KW := Lib.hid (KW.out.tr hb)
      clear hb
      have qp0 := Pp.out.c0
      have qp1 := Pp.out.c1
      have yp := Pp.out.lt
      have qwant0 := Pwant.out.c0
      have qwant1 := Pwant.out.c1
      have ywant := Pwant.out.lt
      have qx0 := Px.out.c0
      have qx1 := Px.out.c1
      have yx := Px.out.lt
      go_wp2
      go_ret
      exact ⟨rfl, KW.out⟩
    · skip
      go_wp2_with fail
      have hnew := PVar.new Ip.out
      have hb : Bel w1 (w1.alloc (.cells #[.slice Ap p.slots.length cp, .slice Bp p.vols.length dp] 30)) := bel_alloc (Below.refl _ _) _
      generalize w1.alloc (.cells #[.slice Ap p.slots.length cp, .slice Bp p.vols.length dp] 30) = W2 at hnew hb ⊢
      replace Ip := Lib.hid (Ip.out.bel hb)
      replace KW := Lib.hid (KW.out.tr hb)
      obtain ⟨bkp, hbn⟩ : ∃ b, w1.heap.size = b := ⟨_, rfl⟩
      rw [hbn] at hnew ⊢
      have Pp := Lib.hid hnew
      clear hnew hb hbn Ip
      refine (specWrite_n Pp.out.inn HSp.out HN.out HE.out).mono ?_
      rintro e w3 ⟨Awant, Bwant, cwant, dwant, rfl, hin, hb⟩
      replace Pp := Lib.hid (Pp.out.bel hb)
      replace KW := Lib.hid (KW.out.tr hb)
      have Iwant := Lib.hid hin
      clear hin hb
      have qp0 := Pp.out.c0
      have qp1 := Pp.out.c1
      have yp := Pp.out.lt
      go_wp2_with fail
      clear qp0 qp1 yp
      have hnew := PVar.new Iwant.out
      have hb : Bel w3 (w3.alloc (.cells #[.slice Awant q.slots.length cwant, .slice Bwant q.vols.length dwant] 30)) := bel_alloc (Below.refl _ _) _
      generalize w3.alloc (.cells #[.slice Awant q.slots.length cwant, .slice Bwant q.vols.length dwant] 30) = W4 at hnew hb ⊢
      replace Pp := Lib.hid (Pp.out.bel hb)
      replace Iwant := Lib.hid (Iwant.out.bel hb)
      replace KW := Lib.hid (KW.out.tr hb)
      obtain ⟨bkwant, hbn⟩ : ∃ b, w3.heap.size = b := ⟨_, rfl⟩
      rw [hbn] at hnew ⊢
      have Pwant := Lib.hid hnew
      clear hnew hb hbn Iwant
      refine (implWrite_n Pp.out.inn HSp.out HN.out HE.out).mono ?_
      rintro e w5 ⟨Ax, Bx, cx, dx, rfl, hin, hb⟩
      replace Pp := Lib.hid (Pp.out.bel hb)
      replace Pwant := Lib.hid (Pwant.out.bel hb)
      replace KW := Lib.hid (KW.out.tr hb)
      have Ix := Lib.hid hin
      clear hin hb
      have qp0 := Pp.out.c0
      have qp1 := Pp.out.c1
      have yp := Pp.out.lt
      have qwant0 := Pwant.out.c0
      have qwant1 := Pwant.out.c1
      have ywant := Pwant.out.lt
      go_wp2_with fail
      clear qp0 qp1 yp qwant0 qwant1 ywant
      have hnew := PVar.new Ix.out
      have hb : Bel w5 (w5.alloc (.cells #[.slice Ax q.slots.length cx, .slice Bx q.vols.length dx] 30)) := bel_alloc (Below.refl _ _) _
      generalize w5.alloc (.cells #[.slice Ax q.slots.length cx, .slice Bx q.vols.length dx] 30) = W6 at hnew hb ⊢
      replace Pp := Lib.hid (Pp.out.bel hb)
      replace Pwant := Lib.hid (Pwant.out.bel hb)
      replace Ix := Lib.hid (Ix.out.bel hb)
      replace KW := Lib.hid (KW.out.tr hb)
      obtain ⟨bkx, hbn⟩ : ∃ b, w5.heap.size = b := ⟨_, rfl⟩
      rw [hbn] at hnew ⊢
      have Px := Lib.hid hnew
      clear hnew hb hbn Ix
      refine (lgPool_c Px.out.inn Pwant.out.inn HSq.out).mono ?_
      rintro e w7 ⟨rfl, hb⟩
      replace Pp := Lib.hid (Pp.out.bel hb)
      replace Pwant := Lib.hid (Pwant.out.bel hb)
      replace Px := Lib.hid (Px.out.bel hb)
      replace KW := Lib.hid (KW.out.tr hb)
      clear hb
      have qp0 := Pp.out.c0
      have qp1 := Pp.out.c1
      have yp := Pp.out.lt
      have qwant0 := Pwant.out.c0
      have qwant1 := Pwant.out.c1
      have ywant := Pwant.out.lt
      have qx0 := Px.out.c0
      have qx1 := Px.out.c1
      have yx := Px.out.lt
      go_wp2_with fail
      clear qp0 qp1 yp qwant0 qwant1 ywant qx0 qx1 yx
      refine (specOk_n Pp.out.inn HSp.out HOK.out).mono ?_
      rintro e w8 ⟨rfl, hb⟩
      replace Pp := Lib.hid (Pp.out.bel hb)
      replace Pwant := Lib.hid (Pwant.out.bel hb)
      replace Px := Lib.hid (Px.out.bel hb)
      replace KW := Lib.hid (KW.out.tr hb)
      clear hb
      have qp0 := Pp.out.c0
      have qp1 := Pp.out.c1
      have yp := Pp.out.lt
      have qwant0 := Pwant.out.c0
      have qwant1 := Pwant.out.c1
      have ywant := Pwant.out.lt
      have qx0 := Px.out.c0
      have qx1 := Px.out.c1
      have yx := Px.out.lt
      go_wp2_with fail
      clear qp0 qp1 yp qwant0 qwant1 ywant qx0 qx1 yx
      refine (blocks_n Pp.out.inn HSp.out HBL.out).mono ?_
      rintro e w9 ⟨rfl, hb⟩
      replace Pp := Lib.hid (Pp.out.bel hb)
      replace Pwant := Lib.hid (Pwant.out.bel hb)
      replace Px := Lib.hid (Px.out.bel hb)
      replace KW := Lib.hid (KW.out.tr hb)
      clear hb
      have qp0 := Pp.out.c0
      have qp1 := Pp.out.c1
      have yp := Pp.out.lt
      have qwant0 := Pwant.out.c0
      have qwant1 := Pwant.out.c1
      have ywant := Pwant.out.lt
      have qx0 := Px.out.c0
      have qx1 := Px.out.c1
      have yx := Px.out.lt
      go_wp2_with fail
      clear qp0 qp1 yp qwant0 qwant1 ywant qx0 qx1 yx
      refine (textOk_n HN.out HTK.out).mono ?_
      rintro e w10 ⟨rfl, hb⟩
      replace Pp := Lib.hid (Pp.out.bel hb)
      replace Pwant := Lib.hid (Pwant.out.bel hb)
      replace Px := Lib.hid (Px.out.bel hb)
      replace KW := Lib.hid (KW.out.tr hb)
      clear hb
      have qp0 := Pp.out.c0
      have qp1 := Pp.out.c1
      have yp := Pp.out.lt
      have qwant0 := Pwant.out.c0
      have qwant1 := Pwant.out.c1
      have ywant := Pwant.out.lt
      have qx0 := Px.out.c0
      have qx1 := Px.out.c1
      have yx := Px.out.lt
      go_wp2_with fail
      clear qp0 qp1 yp qwant0 qwant1 ywant qx0 qx1 yx
      refine (lgPool_c Px.out.inn Pwant.out.inn HSq.out).mono ?_
      rintro e w11 ⟨rfl, hb⟩
      replace Pp := Lib.hid (Pp.out.bel hb)
      replace Pwant := Lib.hid (Pwant.out.bel hb)
      replace Px := Lib.hid (Px.out.bel hb)
      replace KW := Lib.hid (KW.out.tr hb)
      clear hb
      have qp0 := Pp.out.c0
      have qp1 := Pp.out.c1
      have yp := Pp.out.lt
      have qwant0 := Pwant.out.c0
      have qwant1 := Pwant.out.c1
      have ywant := Pwant.out.lt
      have qx0 := Px.out.c0
      have qx1 := Px.out.c1
      have yx := Px.out.lt
      go_wp2
      go_ret
      exact ⟨rfl, KW.out⟩
  obtain ⟨r, hr, hrp, hf1, hf2, hroom⟩ := write_free HV.out (show 0 ≤ blk by omega) (by rw [hnb]; omega)
  have hro := hroom text htk
  have HEr := Lib.hid (ch_some HV.out hr)
  have HSr := Lib.hid hrp.small
  have HVr := Lib.hid hrp
  have HTK := Lib.hid htk
  obtain ⟨fr, hfr⟩ : ∃ f, storeFree r.slots = f := ⟨_, rfl⟩
  rw [← hrp.free, hfr] at hro
  have hbr := freeN_le r.slots
  rw [← hrp.free, hfr] at hbr
  have hbr1 := hbr.1
  have HFR := Lib.hid hfr
  clear hr hrp hf1 hf2 hroom hfr hnb hbr
  have hfb : findB r.slots text = !text.toList.isEmpty := by unfold findB; rw [storeOk_iff.2 HVr.out.s, htk]; simp
  have hee : eqS text e0 = text.toList.isEmpty := by unfold eqS; rw [toList_nil.2 rfl]; cases text.toList <;> rfl
  rw [hee] at hro
  cases hF : writeF p name blk text
  · rw [hF] at hro
    have HE := Lib.hid (ch_none HV.out hF)
    cases hem : text.toList.isEmpty
    · rw [hem] at hro hfb
      cases hth : there r.slots text
      · rw [hth] at hro
        have hfr0 : fr = 0 := by simp at hro; omega
        have HFI : Hid ((findB r.slots text && there r.slots text) = false) := Lib.hid (by rw [hth, Bool.and_false])
        subst hfr0
        have hne : ¬ text.toList = [] := by simpa using hem
        clear hF hro hfb hth htk hee
        go_wp2_with fail
        have hnew := PVar.new Ip.out
        have hb : Bel w1 (w1.alloc (.cells #[.slice Ap p.slots.length cp, .slice Bp p.vols.length dp] 30)) := bel_alloc (Below.refl _ _) _
        generalize w1.alloc (.cells #[.slice Ap p.slots.length cp, .slice Bp p.vols.length dp] 30) = W2 at hnew hb ⊢
        replace Ip := Lib.hid (Ip.out.bel hb)
        replace KW := Lib.hid (KW.out.tr hb)
        obtain ⟨bkp, hbn⟩ : ∃ b, w1.heap.size = b := ⟨_, rfl⟩
        rw [hbn] at hnew ⊢
        have Pp := Lib.hid hnew
        clear hnew hb hbn Ip
        refine (specWrite_n Pp.out.inn HSp.out HN.out HE.out).mono ?_
        rintro e w3 ⟨Awant, Bwant, cwant, dwant, rfl, hin, hb⟩
        replace Pp := Lib.hid (Pp.out.bel hb)
        replace KW := Lib.hid (KW.out.tr hb)
        have Iwant := Lib.hid hin
        clear hin hb
        have qp0 := Pp.out.c0
        have qp1 := Pp.out.c1
        have yp := Pp.out.lt
        go_wp2_with fail
        clear qp0 qp1 yp
        have hnew := PVar.new Iwant.out
        have hb : Bel w3 (w3.alloc (.cells #[.slice Awant p.slots.length cwant, .slice Bwant p.vols.length dwant] 30)) := bel_alloc (Below.refl _ _) _
        generalize w3.alloc (.cells #[.slice Awant p.slots.length cwant, .slice Bwant p.vols.length dwant] 30) = W4 at hnew hb ⊢
        replace Pp := Lib.hid (Pp.out.bel hb)
        replace Iwant := Lib.hid (Iwant.out.bel hb)
        replace KW := Lib.hid (KW.out.tr hb)
        obtain ⟨bkwant, hbn⟩ : ∃ b, w3.heap.size = b := ⟨_, rfl⟩
        rw [hbn] at hnew ⊢
        have Pwant := Lib.hid hnew
        clear hnew hb hbn Iwant
        refine (implWrite_n Pp.out.inn HSp.out HN.out HE.out).mono ?_
        rintro e w5 ⟨Ax, Bx, cx, dx, rfl, hin, hb⟩
        replace Pp := Lib.hid (Pp.out.bel hb)
        replace Pwant := Lib.hid (Pwant.out.bel hb)
        replace KW := Lib.hid (KW.out.tr hb)
        have Ix := Lib.hid hin
        clear hin hb
        have qp0 := Pp.out.c0
        have qp1 := Pp.out.c1
        have yp := Pp.out.lt
        have qwant0 := Pwant.out.c0
        have qwant1 := Pwant.out.c1
        have ywant := Pwant.out.lt
        go_wp2_with fail
        clear qp0 qp1 yp qwant0 qwant1 ywant
        have hnew := PVar.new Ix.out
        have hb : Bel w5 (w5.alloc (.cells #[.slice Ax p.slots.length cx, .slice Bx p.vols.length dx] 30)) := bel_alloc (Below.refl _ _) _
        generalize w5.alloc (.cells #[.slice Ax p.slots.length cx, .slice Bx p.vols.length dx] 30) = W6 at hnew hb ⊢
        replace Pp := Lib.hid (Pp.out.bel hb)
        replace Pwant := Lib.hid (Pwant.out.bel hb)
        replace Ix := Lib.hid (Ix.out.bel hb)
        replace KW := Lib.hid (KW.out.tr hb)
        obtain ⟨bkx, hbn⟩ : ∃ b, w5.heap.size = b := ⟨_, rfl⟩
        rw [hbn] at hnew ⊢
        have Px := Lib.hid hnew
        clear hnew hb hbn Ix
        refine (lgPool_c Px.out.inn Pwant.out.inn HSp.out).mono ?_
        rintro e w7 ⟨rfl, hb⟩
        replace Pp := Lib.hid (Pp.out.bel hb)
        replace Pwant := Lib.hid (Pwant.out.bel hb)
        replace Px := Lib.hid (Px.out.bel hb)
        replace KW := Lib.hid (KW.out.tr hb)
        clear hb
        have qp0 := Pp.out.c0
        have qp1 := Pp.out.c1
        have yp := Pp.out.lt
        have qwant0 := Pwant.out.c0
        have qwant1 := Pwant.out.c1
        have ywant := Pwant.out.lt
        have qx0 := Px.out.c0
        have qx1 := Px.out.c1
        have yx := Px.out.lt
        go_wp2_with fail
        clear qp0 qp1 yp qwant0 qwant1 ywant qx0 qx1 yx
        refine (specOk_n Pp.out.inn HSp.out HOK.out).mono ?_
        rintro e w8 ⟨rfl, hb⟩
        replace Pp := Lib.hid (Pp.out.bel hb)
        replace Pwant := Lib.hid (Pwant.out.bel hb)
        replace Px := Lib.hid (Px.out.bel hb)
        replace KW := Lib.hid (KW.out.tr hb)
        clear hb
        have qp0 := Pp.out.c0
        have qp1 := Pp.out.c1
        have yp := Pp.out.lt
        have qwant0 := Pwant.out.c0
        have qwant1 := Pwant.out.c1
        have ywant := Pwant.out.lt
        have qx0 := Px.out.c0
        have qx1 := Px.out.c1
        have yx := Px.out.lt
        go_wp2_with fail
        clear qp0 qp1 yp qwant0 qwant1 ywant qx0 qx1 yx
        refine (blocks_n Pp.out.inn HSp.out HBL.out).mono ?_
        rintro e w9 ⟨rfl, hb⟩
        replace Pp := Lib.hid (Pp.out.bel hb)
        replace Pwant := Lib.hid (Pwant.out.bel hb)
        replace Px := Lib.hid (Px.out.bel hb)
        replace KW := Lib.hid (KW.out.tr hb)
        clear hb
        have qp0 := Pp.out.c0
        have qp1 := Pp.out.c1
        have yp := Pp.out.lt
        have qwant0 := Pwant.out.c0
        have qwant1 := Pwant.out.c1
        have ywant := Pwant.out.lt
        have qx0 := Px.out.c0
        have qx1 := Px.out.c1
        have yx := Px.out.lt
        go_wp2_with fail
        clear qp0 qp1 yp qwant0 qwant1 ywant qx0 qx1 yx
        refine (textOk_n HN.out HTK.out).mono ?_
        rintro e w10 ⟨rfl, hb⟩
        replace Pp := Lib.hid (Pp.out.bel hb)
        replace Pwant := Lib.hid (Pwant.out.bel hb)
        replace Px := Lib.hid (Px.out.bel hb)
        replace KW := Lib.hid (KW.out.tr hb)
        clear hb
        have qp0 := Pp.out.c0
        have qp1 := Pp.out.c1
        have yp := Pp.out.lt
        have qwant0 := Pwant.out.c0
        have qwant1 := Pwant.out.c1
        have ywant := Pwant.out.lt
        have qx0 := Px.out.c0
        have qx1 := Px.out.c1
        have yx := Px.out.lt
        go_wp2_with fail
        clear qp0 qp1 yp qwant0 qwant1 ywant qx0 qx1 yx
        refine (implWrite_n Pp.out.inn HSp.out (by decide) HEr.out).mono ?_
        rintro e w11 ⟨Ay, By, cy, dy, rfl, hin, hb⟩
        replace Pp := Lib.hid (Pp.out.bel hb)
        replace Pwant := Lib.hid (Pwant.out.bel hb)
        replace Px := Lib.hid (Px.out.bel hb)
        replace KW := Lib.hid (KW.out.tr hb)
        have Iy := Lib.hid hin
        clear hin hb
        have qp0 := Pp.out.c0
        have qp1 := Pp.out.c1
        have yp := Pp.out.lt
        have qwant0 := Pwant.out.c0
        have qwant1 := Pwant.out.c1
        have ywant := Pwant.out.lt
        have qx0 := Px.out.c0
        have qx1 := Px.out.c1
        have yx := Px.out.lt
        go_wp2_with fail
        clear qp0 qp1 yp qwant0 qwant1 ywant qx0 qx1 yx
        have hnew := PVar.new Iy.out
        have hb : Bel w11 (w11.alloc (.cells #[.slice Ay r.slots.length cy, .slice By r.vols.length dy] 30)) := bel_alloc (Below.refl _ _) _
        generalize w11.alloc (.cells #[.slice Ay r.slots.length cy, .slice By r.vols.length dy] 30) = W12 at hnew hb ⊢
        replace Pp := Lib.hid (Pp.out.bel hb)
        replace Pwant := Lib.hid (Pwant.out.bel hb)
        replace Px := Lib.hid (Px.out.bel hb)
        replace Iy := Lib.hid (Iy.out.bel hb)
        replace KW := Lib.hid (KW.out.tr hb)
        obtain ⟨bky, hbn⟩ : ∃ b, w11.heap.size = b := ⟨_, rfl⟩
        rw [hbn] at hnew ⊢
        have Py := Lib.hid hnew
        clear hnew hb hbn Iy
        refine (find_n Py.out.inn.s Py.out.inn.sc HSr.out.slots HN.out HFI.out).mono ?_
        rintro e w13 ⟨nf, rfl, hb⟩
        replace Pp := Lib.hid (Pp.out.bel hb)
        replace Pwant := Lib.hid (Pwant.out.bel hb)
        replace Px := Lib.hid (Px.out.bel hb)
        replace Py := Lib.hid (Py.out.bel hb)
        replace KW := Lib.hid (KW.out.tr hb)
        clear hb
        have qp0 := Pp.out.c0
        have qp1 := Pp.out.c1
        have yp := Pp.out.lt
        have qwant0 := Pwant.out.c0
        have qwant1 := Pwant.out.c1
        have ywant := Pwant.out.lt
        have qx0 := Px.out.c0
        have qx1 := Px.out.c1
        have yx := Px.out.lt
        have qy0 := Py.out.c0
        have qy1 := Py.out.c1
        have yy := Py.out.lt
        go_wp2_with fail
        clear qp0 qp1 yp qwant0 qwant1 ywant qx0 qx1 yx qy0 qy1 yy
        refine (free_n Py.out.inn HSr.out HFR.out).mono ?_
        rintro e w14 ⟨rfl, hb⟩
        replace Pp := Lib.hid (Pp.out.bel hb)
        replace Pwant := Lib.hid (Pwant.out.bel hb)
        replace Px := Lib.hid (Px.out.bel hb)
        replace Py := Lib.hid (Py.out.bel hb)
        replace KW := Lib.hid (KW.out.tr hb)
        clear hb
        have qp0 := Pp.out.c0
        have qp1 := Pp.out.c1
        have yp := Pp.out.lt
        have qwant0 := Pwant.out.c0
        have qwant1 := Pwant.out.c1
        have ywant := Pwant.out.lt
        have qx0 := Px.out.c0
        have qx1 := Px.out.c1
        have yx := Px.out.lt
        have qy0 := Py.out.c0
        have qy1 := Py.out.c1
        have yy := Py.out.lt
        go_wp2_with fail
        clear qp0 qp1 yp qwant0 qwant1 ywant qx0 qx1 yx qy0 qy1 yy
        refine (lgPool_c Px.out.inn Pp.out.inn HSp.out).mono ?_
        rintro e w15 ⟨rfl, hb⟩
        replace Pp := Lib.hid (Pp.out.bel hb)
        replace Pwant := Lib.hid (Pwant.out.bel hb)
        replace Px := Lib.hid (Px.out.bel hb)
        replace Py := Lib.hid (Py.out.bel hb)
        replace KW := Lib.hid (KW.out.tr hb)
        clear hb
        have qp0 := Pp.out.c0
        have qp1 := Pp.out.c1
        have yp := Pp.out.lt
        have qwant0 := Pwant.out.c0
        have qwant1 := Pwant.out.c1
        have ywant := Pwant.out.lt
        have qx0 := Px.out.c0
        have qx1 := Px.out.c1
        have yx := Px.out.lt
        have qy0 := Py.out.c0
        have qy1 := Py.out.c1
        have yy := Py.out.lt
        go_wp2
        go_ret
        exact ⟨rfl, KW.out⟩
      · rw [hth] at hro; simp at hro
    · rw [hem] at hro; simp at hro
  rename_i q
  have HE := Lib.hid (ch_some HV.out hF)
  have hqv := writeF_ok HV.out hF
  have HSq := Lib.hid hqv.small
  have HVq := Lib.hid hqv
  have HOKq := Lib.hid (poolOk_iff.2 hqv)
  clear hqv
  rw [hF] at hro
  clear hF
  cases hem : text.toList.isEmpty
  · rw [hem] at hro hfb
    have hne : ¬ text.toList = [] := by simpa using hem
    cases hth : there r.slots text
    · rw [hth] at hro
      have hfr0 : 0 < fr := by simp at hro; omega
      have HFI : Hid ((findB r.slots text && there r.slots text) = false) := Lib.hid (by rw [hth, Bool.and_false])
      clear hro hfb hth htk hee
      go_wp2_with fail
      have hnew := PVar.new Ip.out
      have hb : Bel w1 (w1.alloc (.cells #[.slice Ap p.slots.length cp, .slice Bp p.vols.length dp] 30)) := bel_alloc (Below.refl _ _) _
      generalize w1.alloc (.cells #[.slice Ap p.slots.length cp, .slice Bp p.vols.length dp] 30) = W2 at hnew hb ⊢
      replace Ip := Lib.hid (Ip.out.bel hb)
      replace KW := Lib.hid (KW.out.tr hb)
      obtain ⟨bkp, hbn⟩ : ∃ b, w1.heap.size = b := ⟨_, rfl⟩
      rw [hbn] at hnew ⊢
      have Pp := Lib.hid hnew
      clear hnew hb hbn Ip
      refine (specWrite_n Pp.out.inn HSp.out HN.out HE.out).mono ?_
      rintro e w3 ⟨Awant, Bwant, cwant, dwant, rfl, hin, hb⟩
      replace Pp := Lib.hid (Pp.out.bel hb)
      replace KW := Lib.hid (KW.out.tr hb)
      have Iwant := Lib.hid hin
      clear hin hb
      have qp0 := Pp.out.c0
      have qp1 := Pp.out.c1
      have yp := Pp.out.lt
      go_wp2_with fail
      clear qp0 qp1 yp
      have hnew := PVar.new Iwant.out
      have hb : Bel w3 (w3.alloc (.cells #[.slice Awant q.slots.length cwant, .slice Bwant q.vols.length dwant] 30)) := bel_alloc (Below.refl _ _) _
      generalize w3.alloc (.cells #[.slice Awant q.slots.length cwant, .slice Bwant q.vols.length dwant] 30) = W4 at hnew hb ⊢
      replace Pp := Lib.hid (Pp.out.bel hb)
      replace Iwant := Lib.hid (Iwant.out.bel hb)
      replace KW := Lib.hid (KW.out.tr hb)
      obtain ⟨bkwant, hbn⟩ : ∃ b, w3.heap.size = b := ⟨_, rfl⟩
      rw [hbn] at hnew ⊢
      have Pwant := Lib.hid hnew
      clear hnew hb hbn Iwant
      refine (implWrite_n Pp.out.inn HSp.out HN.out HE.out).mono ?_
      rintro e w5 ⟨Ax, Bx, cx, dx, rfl, hin, hb⟩
      replace Pp := Lib.hid (Pp.out.bel hb)
      replace Pwant := Lib.hid (Pwant.out.bel hb)
      replace KW := Lib.hid (KW.out.tr hb)
      have Ix := Lib.hid hin
      clear hin hb
      have qp0 := Pp.out.c0
      have qp1 := Pp.out.c1
      have yp := Pp.out.lt
      have qwant0 := Pwant.out.c0
      have qwant1 := Pwant.out.c1
      have ywant := Pwant.out.lt
      go_wp2_with fail
      clear qp0 qp1 yp qwant0 qwant1 ywant
      have hnew := PVar.new Ix.out
      have hb : Bel w5 (w5.alloc (.cells #[.slice Ax q.slots.length cx, .slice Bx q.vols.length dx] 30)) := bel_alloc (Below.refl _ _) _
      generalize w5.alloc (.cells #[.slice Ax q.slots.length cx, .slice Bx q.vols.length dx] 30) = W6 at hnew hb ⊢
      replace Pp := Lib.hid (Pp.out.bel hb)
      replace Pwant := Lib.hid (Pwant.out.bel hb)
      replace Ix := Lib.hid (Ix.out.bel hb)
      replace KW := Lib.hid (KW.out.tr hb)
      obtain ⟨bkx, hbn⟩ : ∃ b, w5.heap.size = b := ⟨_, rfl⟩
      rw [hbn] at hnew ⊢
      have Px := Lib.hid hnew
      clear hnew hb hbn Ix
      refine (lgPool_c Px.out.inn Pwant.out.inn HSq.out).mono ?_
      rintro e w7 ⟨rfl, hb⟩
      replace Pp := Lib.hid (Pp.out.bel hb)
      replace Pwant := Lib.hid (Pwant.out.bel hb)
      replace Px := Lib.hid (Px.out.bel hb)
      replace KW := Lib.hid (KW.out.tr hb)
      clear hb
      have qp0 := Pp.out.c0
      have qp1 := Pp.out.c1
      have yp := Pp.out.lt
      have qwant0 := Pwant.out.c0
      have qwant1 := Pwant.out.c1
      have ywant := Pwant.out.lt
      have qx0 := Px.out.c0
      have qx1 := Px.out.c1
      have yx := Px.out.lt
      go_wp2_with fail
      clear qp0 qp1 yp qwant0 qwant1 ywant qx0 qx1 yx
      refine (specOk_n Pp.out.inn HSp.out HOK.out).mono ?_
      rintro e w8 ⟨rfl, hb⟩
      replace Pp := Lib.hid (Pp.out.bel hb)
      replace Pwant := Lib.hid (Pwant.out.bel hb)
      replace Px := Lib.hid (Px.out.bel hb)
      replace KW := Lib.hid (KW.out.tr hb)
      clear hb
      have qp0 := Pp.out.c0
      have qp1 := Pp.out.c1
      have yp := Pp.out.lt
      have qwant0 := Pwant.out.c0
      have qwant1 := Pwant.out.c1
      have ywant := Pwant.out.lt
      have qx0 := Px.out.c0
      have qx1 := Px.out.c1
      have yx := Px.out.lt
      go_wp2_with fail
      clear qp0 qp1 yp qwant0 qwant1 ywant qx0 qx1 yx
      refine (blocks_n Pp.out.inn HSp.out HBL.out).mono ?_
      rintro e w9 ⟨rfl, hb⟩
      replace Pp := Lib.hid (Pp.out.bel hb)
      replace Pwant := Lib.hid (Pwant.out.bel hb)
      replace Px := Lib.hid (Px.out.bel hb)
      replace KW := Lib.hid (KW.out.tr hb)
      clear hb
      have qp0 := Pp.out.c0
      have qp1 := Pp.out.c1
      have yp := Pp.out.lt
      have qwant0 := Pwant.out.c0
      have qwant1 := Pwant.out.c1
      have ywant := Pwant.out.lt
      have qx0 := Px.out.c0
      have qx1 := Px.out.c1
      have yx := Px.out.lt
      go_wp2_with fail
      clear qp0 qp1 yp qwant0 qwant1 ywant qx0 qx1 yx
      refine (textOk_n HN.out HTK.out).mono ?_
      rintro e w10 ⟨rfl, hb⟩
      replace Pp := Lib.hid (Pp.out.bel hb)
      replace Pwant := Lib.hid (Pwant.out.bel hb)
      replace Px := Lib.hid (Px.out.bel hb)
      replace KW := Lib.hid (KW.out.tr hb)
      clear hb
      have qp0 := Pp.out.c0
      have qp1 := Pp.out.c1
      have yp := Pp.out.lt
      have qwant0 := Pwant.out.c0
      have qwant1 := Pwant.out.c1
      have ywant := Pwant.out.lt
      have qx0 := Px.out.c0
      have qx1 := Px.out.c1
      have yx := Px.out.lt
      go_wp2_with fail
      clear qp0 qp1 yp qwant0 qwant1 ywant qx0 qx1 yx
      refine (implWrite_n Pp.out.inn HSp.out (by decide) HEr.out).mono ?_
      rintro e w11 ⟨Ay, By, cy, dy, rfl, hin, hb⟩
      replace Pp := Lib.hid (Pp.out.bel hb)
      replace Pwant := Lib.hid (Pwant.out.bel hb)
      replace Px := Lib.hid (Px.out.bel hb)
      replace KW := Lib.hid (KW.out.tr hb)
      have Iy := Lib.hid hin
      clear hin hb
      have qp0 := Pp.out.c0
      have qp1 := Pp.out.c1
      have yp := Pp.out.lt
      have qwant0 := Pwant.out.c0
      have qwant1 := Pwant.out.c1
      have ywant := Pwant.out.lt
      have qx0 := Px.out.c0
      have qx1 := Px.out.c1
      have yx := Px.out.lt
      go_wp2_with fail
      clear qp0 qp1 yp qwant0 qwant1 ywant qx0 qx1 yx
      have hnew := PVar.new Iy.out
      have hb : Bel w11 (w11.alloc (.cells #[.slice Ay r.slots.length cy, .slice By r.vols.length dy] 30)) := bel_alloc (Below.refl _ _) _
      generalize w11.alloc (.cells #[.slice Ay r.slots.length cy, .slice By r.vols.length dy] 30) = W12 at hnew hb ⊢
      replace Pp := Lib.hid (Pp.out.bel hb)
      replace Pwant := Lib.hid (Pwant.out.bel hb)
      replace Px := Lib.hid (Px.out.bel hb)
      replace Iy := Lib.hid (Iy.out.bel hb)
      replace KW := Lib.hid (KW.out.tr hb)
      obtain ⟨bky, hbn⟩ : ∃ b, w11.heap.size = b := ⟨_, rfl⟩
      rw [hbn] at hnew ⊢
      have Py := Lib.hid hnew
      clear hnew hb hbn Iy
      refine (find_n Py.out.inn.s Py.out.inn.sc HSr.out.slots HN.out HFI.out).mono ?_
      rintro e w13 ⟨nf, rfl, hb⟩
      replace Pp := Lib.hid (Pp.out.bel hb)
      replace Pwant := Lib.hid (Pwant.out.bel hb)
      replace Px := Lib.hid (Px.out.bel hb)
      replace Py := Lib.hid (Py.out.bel hb)
      replace KW := Lib.hid (KW.out.tr hb)
      clear hb
      have qp0 := Pp.out.c0
      have qp1 := Pp.out.c1
      have yp := Pp.out.lt
      have qwant0 := Pwant.out.c0
      have qwant1 := Pwant.out.c1
      have ywant := Pwant.out.lt
      have qx0 := Px.out.c0
      have qx1 := Px.out.c1
      have yx := Px.out.lt
      have qy0 := Py.out.c0
      have qy1 := Py.out.c1
      have yy := Py.out.lt
      go_wp2_with fail
      clear qp0 qp1 yp qwant0 qwant1 ywant qx0 qx1 yx qy0 qy1 yy
      refine (free_n Py.out.inn HSr.out HFR.out).mono ?_
      rintro e w14 ⟨rfl, hb⟩
      replace Pp := Lib.hid (Pp.out.bel hb)
      replace Pwant := Lib.hid (Pwant.out.bel hb)
      replace Px := Lib.hid (Px.out.bel hb)
      replace Py := Lib.hid (Py.out.bel hb)
      replace KW := Lib.hid (KW.out.tr hb)
      clear hb
      have qp0 := Pp.out.c0
      have qp1 := Pp.out.c1
      have yp := Pp.out.lt
      have qwant0 := Pwant.out.c0
      have qwant1 := Pwant.out.c1
      have ywant := Pwant.out.lt
      have qx0 := Px.out.c0
      have qx1 := Px.out.c1
      have yx := Px.out.lt
      have qy0 := Py.out.c0
      have qy1 := Py.out.c1
      have yy := Py.out.lt
      go_wp2
      go_ret
      exact ⟨rfl, KW.out⟩
    · have HFI : Hid ((findB r.slots text && there r.slots text) = true) := Lib.hid (by rw [hth, hfb]; rfl)
      clear hro hfb hth htk hee
      go_wp2_with fail
      have hnew := PVar.new Ip.out
      have hb : Bel w1 (w1.alloc (.cells #[.slice Ap p.slots.length cp, .slice Bp p.vols.length dp] 30)) := bel_alloc (Below.refl _ _) _
      generalize w1.alloc (.cells #[.slice Ap p.slots.length cp, .slice Bp p.vols.length dp] 30) = W2 at hnew hb ⊢
      replace Ip := Lib.hid (Ip.out.bel hb)
      replace KW := Lib.hid (KW.out.tr hb)
      obtain ⟨bkp, hbn⟩ : ∃ b, w1.heap.size = b := ⟨_, rfl⟩
      rw [hbn] at hnew ⊢
      have Pp := Lib.hid hnew
      clear hnew hb hbn Ip
      refine (specWrite_n Pp.out.inn HSp.out HN.out HE.out).mono ?_
      rintro e w3 ⟨Awant, Bwant, cwant, dwant, rfl, hin, hb⟩
      replace Pp := Lib.hid (Pp.out.bel hb)
      replace KW := Lib.hid (KW.out.tr hb)
      have Iwant := Lib.hid hin
      clear hin hb
      have qp0 := Pp.out.c0
      have qp1 := Pp.out.c1
      have yp := Pp.out.lt
      go_wp2_with fail
      clear qp0 qp1 yp
      have hnew := PVar.new Iwant.out
      have hb : Bel w3 (w3.alloc (.cells #[.slice Awant q.slots.length cwant, .slice Bwant q.vols.length dwant] 30)) := bel_alloc (Below.refl _ _) _
      generalize w3.alloc (.cells #[.slice Awant q.slots.length cwant, .slice Bwant q.vols.length dwant] 30) = W4 at hnew hb ⊢
      replace Pp := Lib.hid (Pp.out.bel hb)
      replace Iwant := Lib.hid (Iwant.out.bel hb)
      replace KW := Lib.hid (KW.out.tr hb)
      obtain ⟨bkwant, hbn⟩ : ∃ b, w3.heap.size = b := ⟨_, rfl⟩
      rw [hbn] at hnew ⊢
      have Pwant := Lib.hid hnew
      clear hnew hb hbn Iwant
      refine (implWrite_n Pp.out.inn HSp.out HN.out HE.out).mono ?_
      rintro e w5 ⟨Ax, Bx, cx, dx, rfl, hin, hb⟩
      replace Pp := Lib.hid (Pp.out.bel hb)
      replace Pwant := Lib.hid (Pwant.out.bel hb)
      replace KW := Lib.hid (KW.out.tr hb)
      have Ix := Lib.hid hin
      clear hin hb
      have qp0 := Pp.out.c0
      have qp1 := Pp.out.c1
      have yp := Pp.out.lt
      have qwant0 := Pwant.out.c0
      have qwant1 := Pwant.out.c1
      have ywant := Pwant.out.lt
      go_wp2_with fail
      clear qp0 qp1 yp qwant0 qwant1 ywant
      have hnew := PVar.new Ix.out
      have hb : Bel w5 (w5.alloc (.cells #[.slice Ax q.slots.length cx, .slice Bx q.vols.length dx] 30)) := bel_alloc (Below.refl _ _) _
      generalize w5.alloc (.cells #[.slice Ax q.slots.length cx, .slice Bx q.vols.length dx] 30) = W6 at hnew hb ⊢
      replace Pp := Lib.hid (Pp.out.bel hb)
      replace Pwant := Lib.hid (Pwant.out.bel hb)
      replace Ix := Lib.hid (Ix.out.bel hb)
      replace KW := Lib.hid (KW.out.tr hb)
      obtain ⟨bkx, hbn⟩ : ∃ b, w5.heap.size = b := ⟨_, rfl⟩
      rw [hbn] at hnew ⊢
      have Px := Lib.hid hnew
      clear hnew hb hbn Ix
      refine (lgPool_c Px.out.inn Pwant.out.inn HSq.out).mono ?_
      rintro e w7 ⟨rfl, hb⟩
      replace Pp := Lib.hid (Pp.out.bel hb)
      replace Pwant := Lib.hid (Pwant.out.bel hb)
      replace Px := Lib.hid (Px.out.bel hb)
      replace KW := Lib.hid (KW.out.tr hb)
      clear hb
      have qp0 := Pp.out.c0
      have qp1 := Pp.out.c1
      have yp := Pp.out.lt
      have qwant0 := Pwant.out.c0
      have qwant1 := Pwant.out.c1
      have ywant := Pwant.out.lt
      have qx0 := Px.out.c0
      have qx1 := Px.out.c1
      have yx := Px.out.lt
      go_wp2_with fail
      clear qp0 qp1 yp qwant0 qwant1 ywant qx0 qx1 yx
      refine (specOk_n Pp.out.inn HSp.out HOK.out).mono ?_
      rintro e w8 ⟨rfl, hb⟩
      replace Pp := Lib.hid (Pp.out.bel hb)
      replace Pwant := Lib.hid (Pwant.out.bel hb)
      replace Px := Lib.hid (Px.out.bel hb)
      replace KW := Lib.hid (KW.out.tr hb)
      clear hb
      have qp0 := Pp.out.c0
      have qp1 := Pp.out.c1
      have yp := Pp.out.lt
      have qwant0 := Pwant.out.c0
      have qwant1 := Pwant.out.c1
      have ywant := Pwant.out.lt
      have qx0 := Px.out.c0
      have qx1 := Px.out.c1
      have yx := Px.out.lt
      go_wp2_with fail
      clear qp0 qp1 yp qwant0 qwant1 ywant qx0 qx1 yx
      refine (blocks_n Pp.out.inn HSp.out HBL.out).mono ?_
      rintro e w9 ⟨rfl, hb⟩
      replace Pp := Lib.hid (Pp.out.bel hb)
      replace Pwant := Lib.hid (Pwant.out.bel hb)
      replace Px := Lib.hid (Px.out.bel hb)
      replace KW := Lib.hid (KW.out.tr hb)
      clear hb
      have qp0 := Pp.out.c0
      have qp1 := Pp.out.c1
      have yp := Pp.out.lt
      have qwant0 := Pwant.out.c0
      have qwant1 := Pwant.out.c1
      have ywant := Pwant.out.lt
      have qx0 := Px.out.c0
      have qx1 := Px.out.c1
      have yx := Px.out.lt
      go_wp2_with fail
      clear qp0 qp1 yp qwant0 qwant1 ywant qx0 qx1 yx
      refine (textOk_n HN.out HTK.out).mono ?_
      rintro e w10 ⟨rfl, hb⟩
      replace Pp := Lib.hid (Pp.out.bel hb)
      replace Pwant := Lib.hid (Pwant.out.bel hb)
      replace Px := Lib.hid (Px.out.bel hb)
      replace KW := Lib.hid (KW.out.tr hb)
      clear hb
      have qp0 := Pp.out.c0
      have qp1 := Pp.out.c1
      have yp := Pp.out.lt
      have qwant0 := Pwant.out.c0
      have qwant1 := Pwant.out.c1
      have ywant := Pwant.out.lt
      have qx0 := Px.out.c0
      have qx1 := Px.out.c1
      have yx := Px.out.lt
      go_wp2_with fail
      clear qp0 qp1 yp qwant0 qwant1 ywant qx0 qx1 yx
      refine (implWrite_n Pp.out.inn HSp.out (by decide) HEr.out).mono ?_
      rintro e w11 ⟨Ay, By, cy, dy, rfl, hin, hb⟩
      replace Pp := Lib.hid (Pp.out.bel hb)
      replace Pwant := Lib.hid (Pwant.out.bel hb)
      replace Px := Lib.hid (Px.out.bel hb)
      replace KW := Lib.hid (KW.out.tr hb)
      have Iy := Lib.hid hin
      clear hin hb
      have qp0 := Pp.out.c0
      have qp1 := Pp.out.c1
      have yp := Pp.out.lt
      have qwant0 := Pwant.out.c0
      have qwant1 := Pwant.out.c1
      have ywant := Pwant.out.lt
      have qx0 := Px.out.c0
      have qx1 := Px.out.c1
      have yx := Px.out.lt
      go_wp2_with fail
      clear qp0 qp1 yp qwant0 qwant1 ywant qx0 qx1 yx
      have hnew := PVar.new Iy.out
      have hb : Bel w11 (w11.alloc (.cells #[.slice Ay r.slots.length cy, .slice By r.vols.length dy] 30)) := bel_alloc (Below.refl _ _) _
      generalize w11.alloc (.cells #[.slice Ay r.slots.length cy, .slice By r.vols.length dy] 30) = W12 at hnew hb ⊢
      replace Pp := Lib.hid (Pp.out.bel hb)
      replace Pwant := Lib.hid (Pwant.out.bel hb)
      replace Px := Lib.hid (Px.out.bel hb)
      replace Iy := Lib.hid (Iy.out.bel hb)
      replace KW := Lib.hid (KW.out.tr hb)
      obtain ⟨bky, hbn⟩ : ∃ b, w11.heap.size = b := ⟨_, rfl⟩
      rw [hbn] at hnew ⊢
      have Py := Lib.hid hnew
      clear hnew hb hbn Iy
      refine (find_n Py.out.inn.s Py.out.inn.sc HSr.out.slots HN.out HFI.out).mono ?_
      rintro e w13 ⟨nf, rfl, hb⟩
      replace Pp := Lib.hid (Pp.out.bel hb)
      replace Pwant := Lib.hid (Pwant.out.bel hb)
      replace Px := Lib.hid (Px.out.bel hb)
      replace Py := Lib.hid (Py.out.bel hb)
      replace KW := Lib.hid (KW.out.tr hb)
      clear hb
      have qp0 := Pp.out.c0
      have qp1 := Pp.out.c1
      have yp := Pp.out.lt
      have qwant0 := Pwant.out.c0
      have qwant1 := Pwant.out.c1
      have ywant := Pwant.out.lt
      have qx0 := Px.out.c0
      have qx1 := Px.out.c1
      have yx := Px.out.lt
      have qy0 := Py.out.c0
      have qy1 := Py.out.c1
      have yy := Py.out.lt
      go_wp2
      go_ret
      exact ⟨rfl, KW.out⟩
  · rw [hem] at hfb
    have hne : text.toList = [] := by simpa using hem
    have HFI : Hid ((findB r.slots text && there r.slots text) = false) := Lib.hid (by rw [hfb]; rfl)
    clear hro hfb htk hee
    go_wp2_with fail
    have hnew := PVar.new Ip.out
    have hb : Bel w1 (w1.alloc (.cells #[.slice Ap p.slots.length cp, .slice Bp p.vols.length dp] 30)) := bel_alloc (Below.refl _ _) _
    generalize w1.alloc (.cells #[.slice Ap p.slots.length cp, .slice Bp p.vols.length dp] 30) = W2 at hnew hb ⊢
    replace Ip := Lib.hid (Ip.out.bel hb)
    replace KW := Lib.hid (KW.out.tr hb)
    obtain ⟨bkp, hbn⟩ : ∃ b, w1.heap.size = b := ⟨_, rfl⟩
    rw [hbn] at hnew ⊢
    have Pp := Lib.hid hnew
    clear hnew hb hbn Ip
    refine (specWrite_n Pp.out.inn HSp.out HN.out HE.out).mono ?_
    rintro e w3 ⟨Awant, Bwant, cwant, dwant, rfl, hin, hb⟩
    replace Pp := Lib.hid (Pp.out.bel hb)
    replace KW := Lib.hid (KW.out.tr hb)
    have Iwant := Lib.hid hin
    clear hin hb
    have qp0 := Pp.out.c0
    have qp1 := Pp.out.c1
    have yp := Pp.out.lt
    go_wp2_with fail
    clear qp0 qp1 yp
    have hnew := PVar.new Iwant.out
    have hb : Bel w3 (w3.alloc (.cells #[.slice Awant q.slots.length cwant, .slice Bwant q.vols.length dwant] 30)) := bel_alloc (Below.refl _ _) _
    generalize w3.alloc (.cells #[.slice Awant q.slots.length cwant, .slice Bwant q.vols.length dwant] 30) = W4 at hnew hb ⊢
    replace Pp := Lib.hid (Pp.out.bel hb)
    replace Iwant := Lib.hid (Iwant.out.bel hb)
    replace KW := Lib.hid (KW.out.tr hb)
    obtain ⟨bkwant, hbn⟩ : ∃ b, w3.heap.size = b := ⟨_, rfl⟩
    rw [hbn] at hnew ⊢
    have Pwant := Lib.hid hnew
    clear hnew hb hbn Iwant
    refine (implWrite_n Pp.out.inn HSp.out HN.out HE.out).mono ?_
    rintro e w5 ⟨Ax, Bx, cx, dx, rfl, hin, hb⟩
    replace Pp := Lib.hid (Pp.out.bel hb)
    replace Pwant := Lib.hid (Pwant.out.bel hb)
    replace KW := Lib.hid (KW.out.tr hb)
    have Ix := Lib.hid hin
    clear hin hb
    have qp0 := Pp.out.c0
    have qp1 := Pp.out.c1
    have yp := Pp.out.lt
    have qwant0 := Pwant.out.c0
    have qwant1 := Pwant.out.c1
    have ywant := Pwant.out.lt
    go_wp2_with fail
    clear qp0 qp1 yp qwant0 qwant1 ywant
    have hnew := PVar.new Ix.out
    have hb : Bel w5 (w5.alloc (.cells #[.slice Ax q.slots.length cx, .slice Bx q.vols.length dx] 30)) := bel_alloc (Below.refl _ _) _
    generalize w5.alloc (.cells #[.slice Ax q.slots.length cx, .slice Bx q.vols.length dx] 30) = W6 at hnew hb ⊢
    replace Pp := Lib.hid (Pp.out.bel hb)
    replace Pwant := Lib.hid (Pwant.out.bel hb)
    replace Ix := Lib.hid (Ix.out.bel hb)
    replace KW := Lib.hid (KW.out.tr hb)
    obtain ⟨bkx, hbn⟩ : ∃ b, w5.heap.size = b := ⟨_, rfl⟩
    rw [hbn] at hnew ⊢
    have Px := Lib.hid hnew
    clear hnew hb hbn Ix
    refine (lgPool_c Px.out.inn Pwant.out.inn HSq.out).mono ?_
    rintro e w7 ⟨rfl, hb⟩
    replace Pp := Lib.hid (Pp.out.bel hb)
    replace Pwant := Lib.hid (Pwant.out.bel hb)
    replace Px := Lib.hid (Px.out.bel hb)
    replace KW := Lib.hid (KW.out.tr hb)
    clear hb
    have qp0 := Pp.out.c0
    have qp1 := Pp.out.c1
    have yp := Pp.out.lt
    have qwant0 := Pwant.out.c0
    have qwant1 := Pwant.out.c1
    have ywant := Pwant.out.lt
    have qx0 := Px.out.c0
    have qx1 := Px.out.c1
    have yx := Px.out.lt
    go_wp2_with fail
    clear qp0 qp1 yp qwant0 qwant1 ywant qx0 qx1 yx
    refine (specOk_n Pp.out.inn HSp.out HOK.out).mono ?_
    rintro e w8 ⟨rfl, hb⟩
    replace Pp := Lib.hid (Pp.out.bel hb)
    replace Pwant := Lib.hid (Pwant.out.bel hb)
    replace Px := Lib.hid (Px.out.bel hb)
    replace KW := Lib.hid (KW.out.tr hb)
    clear hb
    have qp0 := Pp.out.c0
    have qp1 := Pp.out.c1
    have yp := Pp.out.lt
    have qwant0 := Pwant.out.c0
    have qwant1 := Pwant.out.c1
    have ywant := Pwant.out.lt
    have qx0 := Px.out.c0
    have qx1 := Px.out.c1
    have yx := Px.out.lt
    go_wp2_with fail
    clear qp0 qp1 yp qwant0 qwant1 ywant qx0 qx1 yx
    refine (blocks_n Pp.out.inn HSp.out HBL.out).mono ?_
    rintro e w9 ⟨rfl, hb⟩
    replace Pp := Lib.hid (Pp.out.bel hb)
    replace Pwant := Lib.hid (Pwant.out.bel hb)
    replace Px := Lib.hid (Px.out.bel hb)
    replace KW := Lib.hid (KW.out.tr hb)
    clear hb
    have qp0 := Pp.out.c0
    have qp1 := Pp.out.c1
    have yp := Pp.out.lt
    have qwant0 := Pwant.out.c0
    have qwant1 := Pwant.out.c1
    have ywant := Pwant.out.lt
    have qx0 := Px.out.c0
    have qx1 := Px.out.c1
    have yx := Px.out.lt
    go_wp2_with fail
    clear qp0 qp1 yp qwant0 qwant1 ywant qx0 qx1 yx
    refine (textOk_n HN.out HTK.out).mono ?_
    rintro e w10 ⟨rfl, hb⟩
    replace Pp := Lib.hid (Pp.out.bel hb)
    replace Pwant := Lib.hid (Pwant.out.bel hb)
    replace Px := Lib.hid (Px.out.bel hb)
    replace KW := Lib.hid (KW.out.tr hb)
    clear hb
    have qp0 := Pp.out.c0
    have qp1 := Pp.out.c1
    have yp := Pp.out.lt
    have qwant0 := Pwant.out.c0
    have qwant1 := Pwant.out.c1
    have ywant := Pwant.out.lt
    have qx0 := Px.out.c0
    have qx1 := Px.out.c1
    have yx := Px.out.lt
    go_wp2_with fail
    clear qp0 qp1 yp qwant0 qwant1 ywant qx0 qx1 yx
    refine (implWrite_n Pp.out.inn HSp.out (by decide) HEr.out).mono ?_
    rintro e w11 ⟨Ay, By, cy, dy, rfl, hin, hb⟩
    replace Pp := Lib.hid (Pp.out.bel hb)
    replace Pwant := Lib.hid (Pwant.out.bel hb)
    replace Px := Lib.hid (Px.out.bel hb)
    replace KW := Lib.hid (KW.out.tr hb)
    have Iy := Lib.hid hin
    clear hin hb
    have qp0 := Pp.out.c0
    have qp1 := Pp.out.c1
    have yp := Pp.out.lt
    have qwant0 := Pwant.out.c0
    have qwant1 := Pwant.out.c1
    have ywant := Pwant.out.lt
    have qx0 := Px.out.c0
    have qx1 := Px.out.c1
    have yx := Px.out.lt
    go_wp2_with fail
    clear qp0 qp1 yp qwant0 qwant1 ywant qx0 qx1 yx
    have hnew := PVar.new Iy.out
    have hb : Bel w11 (w11.alloc (.cells #[.slice Ay r.slots.length cy, .slice By r.vols.length dy] 30)) := bel_alloc (Below.refl _ _) _
    generalize w11.alloc (.cells #[.slice Ay r.slots.length cy, .slice By r.vols.length dy] 30) = W12 at hnew hb ⊢
    replace Pp := Lib.hid (Pp.out.bel hb)
    replace Pwant := Lib.hid (Pwant.out.bel hb)
    replace Px := Lib.hid (Px.out.bel hb)
    replace Iy := Lib.hid (Iy.out.bel hb)
    replace KW := Lib.hid (KW.out.tr hb)
    obtain ⟨bky, hbn⟩ : ∃ b, w11.heap.size = b := ⟨_, rfl⟩
    rw [hbn] at hnew ⊢
    have Py := Lib.hid hnew
    clear hnew hb hbn Iy
    refine (find_n Py.out.inn.s Py.out.inn.sc HSr.out.slots HN.out HFI.out).mono ?_
    rintro e w13 ⟨nf, rfl, hb⟩
    replace Pp := Lib.hid (Pp.out.bel hb)
    replace Pwant := Lib.hid (Pwant.out.bel hb)
    replace Px := Lib.hid (Px.out.bel hb)
    replace Py := Lib.hid (Py.out.bel hb)
    replace KW := Lib.hid (KW.out.tr hb)
    clear hb
    have qp0 := Pp.out.c0
    have qp1 := Pp.out.c1
    have yp := Pp.out.lt
    have qwant0 := Pwant.out.c0
    have qwant1 := Pwant.out.c1
    have ywant := Pwant.out.lt
    have qx0 := Px.out.c0
    have qx1 := Px.out.c1
    have yx := Px.out.lt
    have qy0 := Py.out.c0
    have qy1 := Py.out.c1
    have yy := Py.out.lt
    go_wp2
    go_ret
    exact ⟨rfl, KW.out⟩
end Go.Proofs.Ytpobgjkmjlmafaa

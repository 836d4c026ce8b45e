/- The law FnWriteRead: its body walked. -/
import Derived.Test.YtpobgjkmjlmafaaZ5
namespace Go.Proofs.Ytpobgjkmjlmafaa
open Go.RowKit Go.Proofs.YtpobgjkmjlmafaaW.PrintWords Go.Proofs.YtpobgjkmjlmafaaW.PrintLast
set_option linter.unusedVariables false
set_option linter.unusedSimpArgs false

set_option maxHeartbeats 8000000 in
set_option maxRecDepth 10000 in
theorem lawFnWriteRead_c {w : World} {A : Option Addr} {n c : Nat} {bs : List Int} (h : CodeIn w A n c bs) (hn : n ≤ 9223372036854775807) :
    Calls Try.prog 9 #[.slice A n c] w (Ret (.bool true) w) := by
  have H := Lib.hid h
  clear h
  go_enter Try.func9, Try.ntmps9
  by_cases hlen : (1048576 : Int) < (n : Int)
  · go_wp2
    go_ret
    exact ⟨rfl, Below.refl _ _⟩
  go_wp2_with fail
  refine ((drawWrite_c H.out hn).mono fun _ _ h => DrewW.new h).mono ?_
  rintro e w1 ⟨Ap, Bp, cp, dp, p, name, blk, text, rfl, hs, hb1, hb2, ht, hp, hin, hb⟩
  have HP := Lib.hid hp
  have HSp := Lib.hid hp.small
  have Ip := Lib.hid hin
  have KW := Lib.hid hb
  clear hp hin hb
  have HN : Hid (text.size ≤ 1048576) := ht
  have HNM : Hid (name.size ≤ 1048576) := hs
  clear hs ht
  cases hok : poolOk p
  · obtain ⟨q, hq, hqs⟩ : ∃ q, (chP p (writeF p name blk text) = q ∧ chB p (writeF p name blk text) = false) ∧ SmallP q := ⟨_, ch_bad hok _, noP_small⟩
    have HE := Lib.hid hq
    have HSq := Lib.hid hqs
    have HOK := Lib.hid hok
    clear hq hqs hok
    go_wp2_with fail
    have hnew := PVar.new Ip.out
    have hb : Bel w1 (w1.alloc (.cells #[.slice Ap p.slots.length cp, .slice Bp p.vols.length dp] 30)) := bel_alloc (Below.refl _ _) _
    generalize w1.alloc (.cells #[.slice Ap p.slots.length cp, .slice Bp p.vols.length dp] 30) = W2 at hnew hb ⊢
    replace Ip := Lib.hid (Ip.out.bel hb)
    replace KW := Lib.hid (KW.out.tr hb)
    obtain ⟨bp, hbn⟩ : ∃ b, w1.heap.size = b := ⟨_, rfl⟩
    rw [hbn] at hnew ⊢
    have Pp := Lib.hid hnew
    clear hnew hb hbn Ip
    refine (specWrite_n Pp.out.inn HSp.out HN.out HE.out).mono ?_
    rintro e w3 ⟨Awant, Bwant, cwant, dwant, rfl, hin, hb⟩
    replace Pp := Lib.hid (Pp.out.bel hb)
    replace KW := Lib.hid (KW.out.tr hb)
    have Iwant := Lib.hid hin
    clear hin hb
    have qp0 := Pp.out.c0
    have qp1 := Pp.out.c1
    have yp := Pp.out.lt
    go_wp2_with fail
    clear qp0 qp1 yp
    have hnew := PVar.new Iwant.out
    have hb : Bel w3 (w3.alloc (.cells #[.slice Awant q.slots.length cwant, .slice Bwant q.vols.length dwant] 30)) := bel_alloc (Below.refl _ _) _
    generalize w3.alloc (.cells #[.slice Awant q.slots.length cwant, .slice Bwant q.vols.length dwant] 30) = W4 at hnew hb ⊢
    replace Pp := Lib.hid (Pp.out.bel hb)
    replace Iwant := Lib.hid (Iwant.out.bel hb)
    replace KW := Lib.hid (KW.out.tr hb)
    obtain ⟨bwant, hbn⟩ : ∃ b, w3.heap.size = b := ⟨_, rfl⟩
    rw [hbn] at hnew ⊢
    have Pwant := Lib.hid hnew
    clear hnew hb hbn Iwant
    refine (implWrite_n Pp.out.inn HSp.out HN.out HE.out).mono ?_
    rintro e w5 ⟨Ax, Bx, cx, dx, rfl, hin, hb⟩
    replace Pp := Lib.hid (Pp.out.bel hb)
    replace Pwant := Lib.hid (Pwant.out.bel hb)
    replace KW := Lib.hid (KW.out.tr hb)
    have Ix := Lib.hid hin
    clear hin hb
    have qp0 := Pp.out.c0
    have qp1 := Pp.out.c1
    have yp := Pp.out.lt
    have qwant0 := Pwant.out.c0
    have qwant1 := Pwant.out.c1
    have ywant := Pwant.out.lt
    go_wp2_with fail
    clear qp0 qp1 yp qwant0 qwant1 ywant
    have hnew := PVar.new Ix.out
    have hb : Bel w5 (w5.alloc (.cells #[.slice Ax q.slots.length cx, .slice Bx q.vols.length dx] 30)) := bel_alloc (Below.refl _ _) _
    generalize w5.alloc (.cells #[.slice Ax q.slots.length cx, .slice Bx q.vols.length dx] 30) = W6 at hnew hb ⊢
    replace Pp := Lib.hid (Pp.out.bel hb)
    replace Pwant := Lib.hid (Pwant.out.bel hb)
    replace Ix := Lib.hid (Ix.out.bel hb)
    replace KW := Lib.hid (KW.out.tr hb)
    obtain ⟨bx, hbn⟩ : ∃ b, w5.heap.size = b := ⟨_, rfl⟩
    rw [hbn] at hnew ⊢
    have Px := Lib.hid hnew
    clear hnew hb hbn Ix
    refine (lgPool_c Px.out.inn Pwant.out.inn HSq.out).mono ?_
    rintro e w7 ⟨rfl, hb⟩
    replace Pp := Lib.hid (Pp.out.bel hb)
    replace Pwant := Lib.hid (Pwant.out.bel hb)
    replace Px := Lib.hid (Px.out.bel hb)
    replace KW := Lib.hid (KW.out.tr hb)
    clear hb
    have qp0 := Pp.out.c0
    have qp1 := Pp.out.c1
    have yp := Pp.out.lt
    have qwant0 := Pwant.out.c0
    have qwant1 := Pwant.out.c1
    have ywant := Pwant.out.lt
    have qx0 := Px.out.c0
    have qx1 := Px.out.c1
    have yx := Px.out.lt
    go_wp2_with fail
    clear qp0 qp1 yp qwant0 qwant1 ywant qx0 qx1 yx
    refine (lgPool_c Px.out.inn Pwant.out.inn HSq.out).mono ?_
    rintro e w8 ⟨rfl, hb⟩
    replace Pp := Lib.hid (Pp.out.bel hb)
    replace Pwant := Lib.hid (Pwant.out.bel hb)
    replace Px := Lib.hid (Px.out.bel hb)
    replace KW := Lib.hid (KW.out.tr hb)
    clear hb
    have qp0 := Pp.out.c0
    have qp1 := Pp.out.c1
    have yp := Pp.out.lt
    have qwant0 := Pwant.out.c0
    have qwant1 := Pwant.out.c1
    have ywant := Pwant.out.lt
    have qx0 := Px.out.c0
    have qx1 := Px.out.c1
    have yx := Px.out.lt
    go_wp2
    go_ret
    exact ⟨rfl, KW.out⟩
  have HV := Lib.hid (poolOk_iff.1 hok)
  have HOK := Lib.hid hok
  clear hok
  cases hF : writeF p name blk text
  · have HE := Lib.hid (ch_none HV.out hF)
    clear hF
    go_wp2_with fail
    have hnew := PVar.new Ip.out
    have hb : Bel w1 (w1.alloc (.cells #[.slice Ap p.slots.length cp, .slice Bp p.vols.length dp] 30)) := bel_alloc (Below.refl _ _) _
    generalize w1.alloc (.cells #[.slice Ap p.slots.length cp, .slice Bp p.vols.length dp] 30) = W2 at hnew hb ⊢
    replace Ip := Lib.hid (Ip.out.bel hb)
    replace KW := Lib.hid (KW.out.tr hb)
    obtain ⟨bp, hbn⟩ : ∃ b, w1.heap.size = b := ⟨_, rfl⟩
    rw [hbn] at hnew ⊢
    have Pp := Lib.hid hnew
    clear hnew hb hbn Ip
    refine (specWrite_n Pp.out.inn HSp.out HN.out HE.out).mono ?_
    rintro e w3 ⟨Awant, Bwant, cwant, dwant, rfl, hin, hb⟩
    replace Pp := Lib.hid (Pp.out.bel hb)
    replace KW := Lib.hid (KW.out.tr hb)
    have Iwant := Lib.hid hin
    clear hin hb
    have qp0 := Pp.out.c0
    have qp1 := Pp.out.c1
    have yp := Pp.out.lt
    go_wp2_with fail
    clear qp0 qp1 yp
    have hnew := PVar.new Iwant.out
    have hb : Bel w3 (w3.alloc (.cells #[.slice Awant p.slots.length cwant, .slice Bwant p.vols.length dwant] 30)) := bel_alloc (Below.refl _ _) _
    generalize w3.alloc (.cells #[.slice Awant p.slots.length cwant, .slice Bwant p.vols.length dwant] 30) = W4 at hnew hb ⊢
    replace Pp := Lib.hid (Pp.out.bel hb)
    replace Iwant := Lib.hid (Iwant.out.bel hb)
    replace KW := Lib.hid (KW.out.tr hb)
    obtain ⟨bwant, hbn⟩ : ∃ b, w3.heap.size = b := ⟨_, rfl⟩
    rw [hbn] at hnew ⊢
    have Pwant := Lib.hid hnew
    clear hnew hb hbn Iwant
    refine (implWrite_n Pp.out.inn HSp.out HN.out HE.out).mono ?_
    rintro e w5 ⟨Ax, Bx, cx, dx, rfl, hin, hb⟩
    replace Pp := Lib.hid (Pp.out.bel hb)
    replace Pwant := Lib.hid (Pwant.out.bel hb)
    replace KW := Lib.hid (KW.out.tr hb)
    have Ix := Lib.hid hin
    clear hin hb
    have qp0 := Pp.out.c0
    have qp1 := Pp.out.c1
    have yp := Pp.out.lt
    have qwant0 := Pwant.out.c0
    have qwant1 := Pwant.out.c1
    have ywant := Pwant.out.lt
    go_wp2_with fail
    clear qp0 qp1 yp qwant0 qwant1 ywant
    have hnew := PVar.new Ix.out
    have hb : Bel w5 (w5.alloc (.cells #[.slice Ax p.slots.length cx, .slice Bx p.vols.length dx] 30)) := bel_alloc (Below.refl _ _) _
    generalize w5.alloc (.cells #[.slice Ax p.slots.length cx, .slice Bx p.vols.length dx] 30) = W6 at hnew hb ⊢
    replace Pp := Lib.hid (Pp.out.bel hb)
    replace Pwant := Lib.hid (Pwant.out.bel hb)
    replace Ix := Lib.hid (Ix.out.bel hb)
    replace KW := Lib.hid (KW.out.tr hb)
    obtain ⟨bx, hbn⟩ : ∃ b, w5.heap.size = b := ⟨_, rfl⟩
    rw [hbn] at hnew ⊢
    have Px := Lib.hid hnew
    clear hnew hb hbn Ix
    refine (lgPool_c Px.out.inn Pwant.out.inn HSp.out).mono ?_
    rintro e w7 ⟨rfl, hb⟩
    replace Pp := Lib.hid (Pp.out.bel hb)
    replace Pwant := Lib.hid (Pwant.out.bel hb)
    replace Px := Lib.hid (Px.out.bel hb)
    replace KW := Lib.hid (KW.out.tr hb)
    clear hb
    have qp0 := Pp.out.c0
    have qp1 := Pp.out.c1
    have yp := Pp.out.lt
    have qwant0 := Pwant.out.c0
    have qwant1 := Pwant.out.c1
    have ywant := Pwant.out.lt
    have qx0 := Px.out.c0
    have qx1 := Px.out.c1
    have yx := Px.out.lt
    go_wp2_with fail
    clear qp0 qp1 yp qwant0 qwant1 ywant qx0 qx1 yx
    refine (lgPool_c Px.out.inn Pwant.out.inn HSp.out).mono ?_
    rintro e w8 ⟨rfl, hb⟩
    replace Pp := Lib.hid (Pp.out.bel hb)
    replace Pwant := Lib.hid (Pwant.out.bel hb)
    replace Px := Lib.hid (Px.out.bel hb)
    replace KW := Lib.hid (KW.out.tr hb)
    clear hb
    have qp0 := Pp.out.c0
    have qp1 := Pp.out.c1
    have yp := Pp.out.lt
    have qwant0 := Pwant.out.c0
    have qwant1 := Pwant.out.c1
    have ywant := Pwant.out.lt
    have qx0 := Px.out.c0
    have qx1 := Px.out.c1
    have yx := Px.out.lt
    go_wp2
    go_ret
    exact ⟨rfl, KW.out⟩
  rename_i q
  have HE := Lib.hid (ch_some HV.out hF)
  have hqv := writeF_ok HV.out hF
  have HSq := Lib.hid hqv.small
  have HVq := Lib.hid hqv
  have HOKq := Lib.hid (poolOk_iff.2 hqv)
  clear hqv
  have hwf := write_facts HV.out hF
  obtain ⟨h0, h1, h2, _⟩ := write_back_blk HV.out hF
  obtain ⟨n, hn_⟩ : ∃ n : Nat, lgBlks p.vols name = n := ⟨(lgBlks p.vols name).toNat, by omega⟩
  have h6 := lgBlks_six HV.out name
  rw [hn_] at hwf h1 h2 h6
  obtain ⟨j, rfl⟩ : ∃ j : Nat, blk = j := ⟨blk.toNat, by omega⟩
  have HBL := Lib.hid hn_
  have HBQ := Lib.hid h2
  have HRD := Lib.hid hwf.1
  have HOT := Lib.hid hwf.2
  have hts : (text.toList == text.toList) = true := by simp
  clear hF hwf hn_ h2
  go_wp2_with fail
  have hnew := PVar.new Ip.out
  have hb : Bel w1 (w1.alloc (.cells #[.slice Ap p.slots.length cp, .slice Bp p.vols.length dp] 30)) := bel_alloc (Below.refl _ _) _
  generalize w1.alloc (.cells #[.slice Ap p.slots.length cp, .slice Bp p.vols.length dp] 30) = W2 at hnew hb ⊢
  replace Ip := Lib.hid (Ip.out.bel hb)
  replace KW := Lib.hid (KW.out.tr hb)
  obtain ⟨bp, hbn⟩ : ∃ b, w1.heap.size = b := ⟨_, rfl⟩
  rw [hbn] at hnew ⊢
  have Pp := Lib.hid hnew
  clear hnew hb hbn Ip
  refine (specWrite_n Pp.out.inn HSp.out HN.out HE.out).mono ?_
  rintro e w3 ⟨Awant, Bwant, cwant, dwant, rfl, hin, hb⟩
  replace Pp := Lib.hid (Pp.out.bel hb)
  replace KW := Lib.hid (KW.out.tr hb)
  have Iwant := Lib.hid hin
  clear hin hb
  have qp0 := Pp.out.c0
  have qp1 := Pp.out.c1
  have yp := Pp.out.lt
  go_wp2_with fail
  clear qp0 qp1 yp
  have hnew := PVar.new Iwant.out
  have hb : Bel w3 (w3.alloc (.cells #[.slice Awant q.slots.length cwant, .slice Bwant q.vols.length dwant] 30)) := bel_alloc (Below.refl _ _) _
  generalize w3.alloc (.cells #[.slice Awant q.slots.length cwant, .slice Bwant q.vols.length dwant] 30) = W4 at hnew hb ⊢
  replace Pp := Lib.hid (Pp.out.bel hb)
  replace Iwant := Lib.hid (Iwant.out.bel hb)
  replace KW := Lib.hid (KW.out.tr hb)
  obtain ⟨bwant, hbn⟩ : ∃ b, w3.heap.size = b := ⟨_, rfl⟩
  rw [hbn] at hnew ⊢
  have Pwant := Lib.hid hnew
  clear hnew hb hbn Iwant
  refine (implWrite_n Pp.out.inn HSp.out HN.out HE.out).mono ?_
  rintro e w5 ⟨Ax, Bx, cx, dx, rfl, hin, hb⟩
  replace Pp := Lib.hid (Pp.out.bel hb)
  replace Pwant := Lib.hid (Pwant.out.bel hb)
  replace KW := Lib.hid (KW.out.tr hb)
  have Ix := Lib.hid hin
  clear hin hb
  have qp0 := Pp.out.c0
  have qp1 := Pp.out.c1
  have yp := Pp.out.lt
  have qwant0 := Pwant.out.c0
  have qwant1 := Pwant.out.c1
  have ywant := Pwant.out.lt
  go_wp2_with fail
  clear qp0 qp1 yp qwant0 qwant1 ywant
  have hnew := PVar.new Ix.out
  have hb : Bel w5 (w5.alloc (.cells #[.slice Ax q.slots.length cx, .slice Bx q.vols.length dx] 30)) := bel_alloc (Below.refl _ _) _
  generalize w5.alloc (.cells #[.slice Ax q.slots.length cx, .slice Bx q.vols.length dx] 30) = W6 at hnew hb ⊢
  replace Pp := Lib.hid (Pp.out.bel hb)
  replace Pwant := Lib.hid (Pwant.out.bel hb)
  replace Ix := Lib.hid (Ix.out.bel hb)
  replace KW := Lib.hid (KW.out.tr hb)
  obtain ⟨bx, hbn⟩ : ∃ b, w5.heap.size = b := ⟨_, rfl⟩
  rw [hbn] at hnew ⊢
  have Px := Lib.hid hnew
  clear hnew hb hbn Ix
  refine (lgPool_c Px.out.inn Pwant.out.inn HSq.out).mono ?_
  rintro e w7 ⟨rfl, hb⟩
  replace Pp := Lib.hid (Pp.out.bel hb)
  replace Pwant := Lib.hid (Pwant.out.bel hb)
  replace Px := Lib.hid (Px.out.bel hb)
  replace KW := Lib.hid (KW.out.tr hb)
  clear hb
  have qp0 := Pp.out.c0
  have qp1 := Pp.out.c1
  have yp := Pp.out.lt
  have qwant0 := Pwant.out.c0
  have qwant1 := Pwant.out.c1
  have ywant := Pwant.out.lt
  have qx0 := Px.out.c0
  have qx1 := Px.out.c1
  have yx := Px.out.lt
  go_wp2_with fail
  clear qp0 qp1 yp qwant0 qwant1 ywant qx0 qx1 yx
  go_loopg [11] n (fun g v W => ∃ k : Nat, g + k = n ∧ v = .int .i64 k ∧ Bel w7 W)
  case atStart => exact ⟨0, rfl, rfl, Below.refl _ _⟩
  case round =>
    obtain ⟨k, hk, rfl, hW⟩ := hrel
    have BW := Lib.hid hW
    replace Pp := Lib.hid (Pp.out.bel hW)
    replace Pwant := Lib.hid (Pwant.out.bel hW)
    replace Px := Lib.hid (Px.out.bel hW)
    replace KW := Lib.hid (KW.out.tr hW)
    clear hW
    have qp0 := Pp.out.c0
    have qp1 := Pp.out.c1
    have yp := Pp.out.lt
    have qwant0 := Pwant.out.c0
    have qwant1 := Pwant.out.c1
    have ywant := Pwant.out.lt
    have qx0 := Px.out.c0
    have qx1 := Px.out.c1
    have yx := Px.out.lt
    go_wp2_with fail
    clear qp0 qp1 yp qwant0 qwant1 ywant qx0 qx1 yx
    refine (blocks_n Pp.out.inn HSp.out HBL.out).mono ?_
    rintro e w8 ⟨rfl, hb⟩
    replace Pp := Lib.hid (Pp.out.bel hb)
    replace Pwant := Lib.hid (Pwant.out.bel hb)
    replace Px := Lib.hid (Px.out.bel hb)
    replace BW := Lib.hid (BW.out.tr hb)
    replace KW := Lib.hid (KW.out.tr hb)
    clear hb
    by_cases hlt : k < n
    · obtain ⟨r1, r2, r3, r4⟩ := HRD.out k (by omega)
      obtain ⟨was, hwas⟩ : ∃ t, readV p name k = t := ⟨_, rfl⟩
      rw [hwas] at r4
      have HR1 := Lib.hid (And.intro hwas r1)
      by_cases hkj : k = j
      · subst hkj
        have HR2 := Lib.hid (And.intro (r3 rfl) r2)
        clear r1 r2 r3 r4 hwas
        have qp0 := Pp.out.c0
        have qp1 := Pp.out.c1
        have yp := Pp.out.lt
        have qwant0 := Pwant.out.c0
        have qwant1 := Pwant.out.c1
        have ywant := Pwant.out.lt
        have qx0 := Px.out.c0
        have qx1 := Px.out.c1
        have yx := Px.out.lt
        go_wp2_with fail
        clear qp0 qp1 yp qwant0 qwant1 ywant qx0 qx1 yx
        refine (read_n Pp.out.inn HSp.out HR1.out).mono ?_
        rintro e w9 ⟨rfl, hb⟩
        replace Pp := Lib.hid (Pp.out.bel hb)
        replace Pwant := Lib.hid (Pwant.out.bel hb)
        replace Px := Lib.hid (Px.out.bel hb)
        replace BW := Lib.hid (BW.out.tr hb)
        replace KW := Lib.hid (KW.out.tr hb)
        clear hb
        have qp0 := Pp.out.c0
        have qp1 := Pp.out.c1
        have yp := Pp.out.lt
        have qwant0 := Pwant.out.c0
        have qwant1 := Pwant.out.c1
        have ywant := Pwant.out.lt
        have qx0 := Px.out.c0
        have qx1 := Px.out.c1
        have yx := Px.out.lt
        go_wp2_with fail
        clear qp0 qp1 yp qwant0 qwant1 ywant qx0 qx1 yx
        refine (read_n Px.out.inn HSq.out HR2.out).mono ?_
        rintro e w10 ⟨rfl, hb⟩
        replace Pp := Lib.hid (Pp.out.bel hb)
        replace Pwant := Lib.hid (Pwant.out.bel hb)
        replace Px := Lib.hid (Px.out.bel hb)
        replace BW := Lib.hid (BW.out.tr hb)
        replace KW := Lib.hid (KW.out.tr hb)
        clear hb
        have qp0 := Pp.out.c0
        have qp1 := Pp.out.c1
        have yp := Pp.out.lt
        have qwant0 := Pwant.out.c0
        have qwant1 := Pwant.out.c1
        have ywant := Pwant.out.lt
        have qx0 := Px.out.c0
        have qx1 := Px.out.c1
        have yx := Px.out.lt
        go_wp2
        go_roundg (n - (k + 1))
        case measure => omega
        case rel => exact ⟨k + 1, by omega, by go_num, BW.out⟩
      · have HR2 := Lib.hid (And.intro (r4 (by omega)) r2)
        have hws : (was.toList == was.toList) = true := by simp
        clear r1 r2 r3 r4 hwas
        have qp0 := Pp.out.c0
        have qp1 := Pp.out.c1
        have yp := Pp.out.lt
        have qwant0 := Pwant.out.c0
        have qwant1 := Pwant.out.c1
        have ywant := Pwant.out.lt
        have qx0 := Px.out.c0
        have qx1 := Px.out.c1
        have yx := Px.out.lt
        go_wp2_with fail
        clear qp0 qp1 yp qwant0 qwant1 ywant qx0 qx1 yx
        refine (read_n Pp.out.inn HSp.out HR1.out).mono ?_
        rintro e w9 ⟨rfl, hb⟩
        replace Pp := Lib.hid (Pp.out.bel hb)
        replace Pwant := Lib.hid (Pwant.out.bel hb)
        replace Px := Lib.hid (Px.out.bel hb)
        replace BW := Lib.hid (BW.out.tr hb)
        replace KW := Lib.hid (KW.out.tr hb)
        clear hb
        have qp0 := Pp.out.c0
        have qp1 := Pp.out.c1
        have yp := Pp.out.lt
        have qwant0 := Pwant.out.c0
        have qwant1 := Pwant.out.c1
        have ywant := Pwant.out.lt
        have qx0 := Px.out.c0
        have qx1 := Px.out.c1
        have yx := Px.out.lt
        go_wp2_with fail
        clear qp0 qp1 yp qwant0 qwant1 ywant qx0 qx1 yx
        refine (read_n Px.out.inn HSq.out HR2.out).mono ?_
        rintro e w10 ⟨rfl, hb⟩
        replace Pp := Lib.hid (Pp.out.bel hb)
        replace Pwant := Lib.hid (Pwant.out.bel hb)
        replace Px := Lib.hid (Px.out.bel hb)
        replace BW := Lib.hid (BW.out.tr hb)
        replace KW := Lib.hid (KW.out.tr hb)
        clear hb
        have qp0 := Pp.out.c0
        have qp1 := Pp.out.c1
        have yp := Pp.out.lt
        have qwant0 := Pwant.out.c0
        have qwant1 := Pwant.out.c1
        have ywant := Pwant.out.lt
        have qx0 := Px.out.c0
        have qx1 := Px.out.c1
        have yx := Px.out.lt
        go_wp2
        go_roundg (n - (k + 1))
        case measure => omega
        case rel => exact ⟨k + 1, by omega, by go_num, BW.out⟩
    · skip
      have qp0 := Pp.out.c0
      have qp1 := Pp.out.c1
      have yp := Pp.out.lt
      have qwant0 := Pwant.out.c0
      have qwant1 := Pwant.out.c1
      have ywant := Pwant.out.lt
      have qx0 := Px.out.c0
      have qx1 := Px.out.c1
      have yx := Px.out.lt
      go_wp2_with fail
      clear qp0 qp1 yp qwant0 qwant1 ywant qx0 qx1 yx
      have gp0 := gb_cell Pp.out.c0
      have gp1 := gb_cell Pp.out.c1
      have gx0 := gb_cell Px.out.c0
      have gx1 := gb_cell Px.out.c1
      refine wp_region_gb (by kernel_rfl) (by kernel_rfl) ?_
      repeat (first | go_big_quiet_skip | (go_big_quiet_want; go_big_quiet_op; first | go_big_quiet_on | (apply Exists.intro; refine ⟨fun _ => ?_, ?_⟩; (first | (go_at_call 40; exact gb_call (lgOthers_c (Pp.out.bel (GB.h _)).inn (Px.out.bel (GB.h _)).inn HSp.out HSq.out HOT.out)) | (go_at_call 39; exact gb_call (blocks_n (Px.out.bel (GB.h _)).inn HSq.out HBQ.out)) | (go_at_call 39; exact gb_call (blocks_n (Pp.out.bel (GB.h _)).inn HSp.out HBL.out)) | (go_at_call 37; exact gb_call (implOk_n (Px.out.bel (GB.h _)).inn HSq.out HOKq.out))); go_big_quiet_on)))
      refine wpQuiet_nil ?_
      rintro w9 ⟨⟨_, hb⟩, rfl⟩
      replace hb : Bel w8 w9 := hb
      clear gp0 gp1 gx0 gx1
      replace Pp := Lib.hid (Pp.out.bel hb)
      replace Pwant := Lib.hid (Pwant.out.bel hb)
      replace Px := Lib.hid (Px.out.bel hb)
      replace BW := Lib.hid (BW.out.tr hb)
      replace KW := Lib.hid (KW.out.tr hb)
      clear hb
      have qp0 := Pp.out.c0
      have qp1 := Pp.out.c1
      have yp := Pp.out.lt
      have qwant0 := Pwant.out.c0
      have qwant1 := Pwant.out.c1
      have ywant := Pwant.out.lt
      have qx0 := Px.out.c0
      have qx1 := Px.out.c1
      have yx := Px.out.lt
      go_wp2
      go_ret
      exact ⟨rfl, KW.out⟩
end Go.Proofs.Ytpobgjkmjlmafaa
